/-
  A part of the proof of Rows.BaseModelsCardSaid (for every class and script BaseModels answers true, and its arguments read as they did; the listed library variables as the program text lays them): texts C, D, E, F. By an AI agent.
-/
import Derived.Test.YtpnbhoeghncnnaaGreatDoorM01
import Derived.Deep.QuietTactic
import Derived.BigQuiet
import Derived.IntWalk
import Derived.Laws.AppendOwn
import Derived.Below
import Derived.Deep.Draws
namespace Go.Proofs.YtpnbhoeghncnnaaGreatDoor
open Go.RowKit
inductive Res where
  | val (n : Int)
  | stop (f e : Int)
def Res.ends : Res → Ending
  | .val n => .returned (.int .i64 n)
  | .stop f e => .panicked [{ v := stopV f e, recovered := false }]

def triesF (a : Int) : Res := if a ≤ 20 then .val (if a ≤ 0 then 0 else a) else .stop 107 0
def gcdF (a b : Int) : Res := if 0 ≤ a ∧ 0 ≤ b then .val (Nat.gcd a.toNat b.toNat : Nat) else .stop 1 0
def powFrom (a : Int) : Nat → Nat → Int → Res
  | 0, _, n => .val n
  | r + 1, k, n => if 100000 ≤ k then .stop 0 3 else if inNum (n * a) then powFrom a r (k + 1) (n * a) else .stop 7 0
def powF (a b : Int) : Res := if 0 ≤ b then powFrom a b.toNat 0 1 else .stop 1 0
def factFrom : Nat → Int → Int → Res
  | 0, _, n => .val n
  | r + 1, k, n => if inNum (n * k) then factFrom r (k + 1) (n * k) else .stop 7 0
def factF (a : Int) : Res := if a < 0 then .stop 1 0 else if 64 ≤ a then .stop 9 0 else factFrom (a.toNat - 1) 2 1

theorem tries_any (a b : Int) (w : World) (h0 : -1099511627776 ≤ a) (h1 : a ≤ 1099511627776) :
    Calls Tryz.prog 68 #[.int .i64 a, .int .i64 b] w fun e w' => e = (triesF a).ends ∧ w = w' := by
  by_cases h : a ≤ 20
  · have hd : decide (a ≤ 20) = true := by simpa using h
    have hs : triesF a = .val (if a ≤ 0 then 0 else a) := by simp [triesF, h]
    have HS := Lib.hid hs
    clear hs
    by_cases hz : a ≤ 0
    all_goals
      go_enter Tryz.func68, Tryz.ntmps68
      go_wp2_with (go_at_call 59; refine (must_true _ _).mono ?_; rintro e w' ⟨rfl, rfl⟩)
      go_ret
      refine ⟨?_, rfl⟩
      rw [HS.out]
      first | rw [if_pos (by omega)] | rw [if_neg (by omega)]
      rfl
  · have hd : decide (a ≤ 20) = false := by simpa using h
    have hs : triesF a = .stop 107 0 := by simp [triesF, h]
    have HS := Lib.hid hs
    clear hs
    go_enter Tryz.func68, Tryz.ntmps68
    go_wp2_with (go_at_call 59; refine (must_false _ _).mono ?_; rintro e w' ⟨rfl, rfl⟩)
    exact ⟨rfl, by rw [HS.out]; rfl, rfl⟩

set_option maxHeartbeats 400000 in
theorem gcd_yes (a b : Nat) (w : World) (h1 : (a : Int) ≤ 1099511627776) (h3 : (b : Int) ≤ 1099511627776) :
    Calls Tryz.prog 65 #[.int .i64 a, .int .i64 b] w fun e w' => e = .returned (.int .i64 (Nat.gcd a b : Nat)) ∧ ∃ n, w' = w.drewN n := by
  have p1 : (0 : Int) ≤ a := by omega
  have p2 : (0 : Int) ≤ b := by omega
  go_enter Tryz.func65, Tryz.ntmps65
  go_wp2_with (go_at_call 59; refine (must_true _ _).mono ?_; rintro e w' ⟨rfl, rfl⟩)
  go_loopw [0, 1] (fun x y wr => ∃ p q : Nat, x = .int .i64 p ∧ y = .int .i64 q ∧ (p : Int) ≤ 1099511627776 ∧ (q : Int) ≤ 1099511627776 ∧ Nat.gcd p q = Nat.gcd a b ∧ ∃ n, wr = w.drewN n) (fun _ y _ => (intOf y).toNat)
  case atStart => exact ⟨a, b, rfl, rfl, h1, h3, rfl, 0, rfl⟩
  case round =>
    obtain ⟨p, q, rfl, rfl, hp, hq, hg, n, rfl⟩ := hrel
    have HG := Lib.hid hg
    clear hg
    by_cases hz : q = 0
    · subst hz
      go_wp2
      go_ret
      refine ⟨?_, n, rfl⟩
      rw [← HG.out]; simp
    · have hz' : ((q : Int) != 0) = true := by simpa using hz
      have q0 : (0 : Int) < q := by omega
      have hq0 : ¬ (q : Int) = 0 := by omega
      go_wp2
      go_quiet (fail)
      go_wp2
      go_roundw
      case rel => exact ⟨q, p % q, rfl, by simp, hq, by have := Nat.mod_lt p (show 0 < q by omega); omega, by rw [← HG.out, Nat.gcd_comm p q, Nat.gcd_rec q p, Nat.gcd_comm], n + nq, by simp⟩
      case measure => have := Nat.mod_lt p (show 0 < q by omega); simp [intOf]; omega
theorem gcd_any (a b : Int) (w : World) (h0 : -1099511627776 ≤ a) (h1 : a ≤ 1099511627776) (h2 : -1099511627776 ≤ b) (h3 : b ≤ 1099511627776) :
    Calls Tryz.prog 65 #[.int .i64 a, .int .i64 b] w fun e w' => e = (gcdF a b).ends ∧ ∃ n, w' = w.drewN n := by
  by_cases ha : 0 ≤ a
  · by_cases hb : 0 ≤ b
    · obtain ⟨a, rfl⟩ := Int.eq_ofNat_of_zero_le ha
      obtain ⟨b, rfl⟩ := Int.eq_ofNat_of_zero_le hb
      have e : gcdF a b = .val (Nat.gcd a b : Nat) := by simp [gcdF]
      rw [e]
      exact gcd_yes a b w h1 h3
    · have hs : gcdF a b = .stop 1 0 := by unfold gcdF; rw [if_neg (by omega)]
      have HS := Lib.hid hs
      clear hs
      have hb' : b < 0 := by omega
      go_enter Tryz.func65, Tryz.ntmps65
      go_wp2_with (go_at_call 59; refine (must_false _ _).mono ?_; rintro e w' ⟨rfl, rfl⟩)
      exact ⟨rfl, by rw [HS.out]; rfl, 0, rfl⟩
  · have hs : gcdF a b = .stop 1 0 := by unfold gcdF; rw [if_neg (by omega)]
    have HS := Lib.hid hs
    clear hs
    have ha' : a < 0 := by omega
    go_enter Tryz.func65, Tryz.ntmps65
    go_wp2_with (go_at_call 59; refine (must_false _ _).mono ?_; rintro e w' ⟨rfl, rfl⟩)
    exact ⟨rfl, by rw [HS.out]; rfl, 0, rfl⟩

set_option maxHeartbeats 400000 in
theorem power_yes (a : Int) (b : Nat) (w : World) (h0 : -1099511627776 ≤ a) (h1 : a ≤ 1099511627776) (h3 : (b : Int) ≤ 1099511627776) :
    Calls Tryz.prog 66 #[.int .i64 a, .int .i64 b] w fun e w' => e = (powFrom a b 0 1).ends ∧ w = w' := by
  have p2 : (0 : Int) ≤ b := by omega
  go_enter Tryz.func66, Tryz.ntmps66
  go_wp2_with (go_at_call 59; refine (must_true _ _).mono ?_; rintro e w' ⟨rfl, rfl⟩)
  go_loop [5, 11] (fun x y => ∃ (n : Int) (k : Nat), x = .int .i64 n ∧ y = .int .i64 k ∧ k ≤ b ∧ -1099511627776 ≤ n ∧ n ≤ 1099511627776 ∧ powFrom a (b - k) k n = powFrom a b 0 1) (fun _ y => b - (intOf y).toNat)
  case atStart => exact ⟨1, 0, rfl, rfl, by omega, by omega, by omega, rfl⟩
  case round =>
    obtain ⟨n, k, rfl, rfl, hk, hn0, hn1, hp⟩ := hrel
    have HP := Lib.hid hp
    clear hp
    by_cases hlt : k < b
    · obtain ⟨r, hr⟩ : ∃ r, b - k = r + 1 := ⟨b - k - 1, by omega⟩
      have hr' : b - (k + 1) = r := by omega
      by_cases hl : (100000 : Int) ≤ (k : Int)
      · have hs : powFrom a (b - k) k n = .stop 0 3 := by rw [hr]; simp only [powFrom]; rw [if_pos (by omega)]
        have HS := Lib.hid hs
        have HR := Lib.hid hr
        have HR' := Lib.hid hr'
        clear hs hr hr'
        go_wp2
        exact ⟨rfl, by rw [← HP.out, HS.out]; rfl, rfl⟩
      · cases hv : inNum (n * a) with
        | true =>
          have hs : powFrom a (b - k) k n = powFrom a (b - (k + 1)) (k + 1) (n * a) := by rw [hr, hr']; simp only [powFrom]; rw [if_neg (by omega), if_pos hv]
          have HS := Lib.hid hs
          have HV := Lib.hid hv
          have hx := inNum_true.1 hv
          clear hs hr hr' hv
          go_wp2_with (go_at_call 104; refine (product_ok n a _ hn0 hn1 h0 h1 HV.out).mono ?_; rintro e w' ⟨rfl, rfl⟩)
          go_round
          case rel => exact ⟨n * a, k + 1, rfl, by go_num, by omega, hx.1, hx.2, by rw [← HS.out]; exact HP.out⟩
          case measure => simp [intOf]; omega
        | false =>
          have hs : powFrom a (b - k) k n = .stop 7 0 := by rw [hr]; simp only [powFrom]; rw [if_neg (by omega), if_neg (by rw [hv]; decide)]
          have HS := Lib.hid hs
          have HV := Lib.hid hv
          clear hs hr hr' hv
          go_wp2_with (go_at_call 104; refine (product_bad n a _ hn0 hn1 h0 h1 HV.out).mono ?_; rintro e w' ⟨rfl, rfl⟩)
          exact ⟨rfl, by rw [← HP.out, HS.out]; rfl, rfl⟩
    · obtain rfl : k = b := by omega
      go_wp2
      go_ret
      refine ⟨?_, rfl⟩
      rw [← HP.out, Nat.sub_self]; rfl
theorem power_any (a b : Int) (w : World) (h0 : -1099511627776 ≤ a) (h1 : a ≤ 1099511627776) (h3 : b ≤ 1099511627776) (h2 : -1099511627776 ≤ b) :
    Calls Tryz.prog 66 #[.int .i64 a, .int .i64 b] w fun e w' => e = (powF a b).ends ∧ w = w' := by
  by_cases hb : 0 ≤ b
  · obtain ⟨b, rfl⟩ := Int.eq_ofNat_of_zero_le hb
    have e : powF a b = powFrom a b 0 1 := by simp [powF]
    rw [e]
    exact power_yes a b w h0 h1 h3
  · have hs : powF a b = .stop 1 0 := by unfold powF; rw [if_neg hb]
    have HS := Lib.hid hs
    clear hs
    have hb' : b < 0 := by omega
    go_enter Tryz.func66, Tryz.ntmps66
    go_wp2_with (go_at_call 59; refine (must_false _ _).mono ?_; rintro e w' ⟨rfl, rfl⟩)
    exact ⟨rfl, by rw [HS.out]; rfl, rfl⟩

set_option maxHeartbeats 400000 in
theorem fact_yes (a b : Int) (w : World) (h0 : 0 ≤ a) (h1 : a < 64) :
    Calls Tryz.prog 67 #[.int .i64 a, .int .i64 b] w fun e w' => e = (factFrom (a.toNat - 1) 2 1).ends ∧ w = w' := by
  go_enter Tryz.func67, Tryz.ntmps67
  go_wp2_with (go_at_call 59; refine (must_true _ _).mono ?_; rintro e w' ⟨rfl, rfl⟩)
  go_loop [5, 6] (fun x y => ∃ (n k : Int), x = .int .i64 n ∧ y = .int .i64 k ∧ 2 ≤ k ∧ k ≤ 65 ∧ -1099511627776 ≤ n ∧ n ≤ 1099511627776 ∧ factFrom (a + 1 - k).toNat k n = factFrom (a.toNat - 1) 2 1) (fun _ y => (a + 1 - intOf y).toNat)
  case atStart => exact ⟨1, 2, rfl, rfl, by omega, by omega, by omega, by omega, by rw [show (a + 1 - 2).toNat = a.toNat - 1 by omega]⟩
  case round =>
    obtain ⟨n, k, rfl, rfl, hk0, hk1, hn0, hn1, hp⟩ := hrel
    have HP := Lib.hid hp
    clear hp
    by_cases hlt : k ≤ a
    · obtain ⟨r, hr⟩ : ∃ r, (a + 1 - k).toNat = r + 1 := ⟨(a - k).toNat, by omega⟩
      have hr' : (a + 1 - (k + 1)).toNat = r := by omega
      cases hv : inNum (n * k) with
      | true =>
        have hs : factFrom (a + 1 - k).toNat k n = factFrom (a + 1 - (k + 1)).toNat (k + 1) (n * k) := by rw [hr, hr']; simp only [factFrom]; rw [if_pos hv]
        have HS := Lib.hid hs
        have HV := Lib.hid hv
        have hx := inNum_true.1 hv
        clear hs hr hr' hv
        go_wp2_with (go_at_call 104; refine (product_ok n k _ hn0 hn1 (by omega) (by omega) HV.out).mono ?_; rintro e w' ⟨rfl, rfl⟩)
        go_round
        case rel => exact ⟨n * k, k + 1, rfl, rfl, by omega, by omega, hx.1, hx.2, by rw [← HS.out]; exact HP.out⟩
        case measure => simp [intOf]; omega
      | false =>
        have hs : factFrom (a + 1 - k).toNat k n = .stop 7 0 := by rw [hr]; simp only [factFrom]; rw [if_neg (by rw [hv]; decide)]
        have HS := Lib.hid hs
        have HV := Lib.hid hv
        clear hs hr hr' hv
        go_wp2_with (go_at_call 104; refine (product_bad n k _ hn0 hn1 (by omega) (by omega) HV.out).mono ?_; rintro e w' ⟨rfl, rfl⟩)
        exact ⟨rfl, by rw [← HP.out, HS.out]; rfl, rfl⟩
    · have hz : (a + 1 - k).toNat = 0 := by omega
      have HZ := Lib.hid hz
      clear hz
      go_wp2
      go_ret
      refine ⟨?_, rfl⟩
      rw [← HP.out, HZ.out]; rfl
theorem fact_any (a b : Int) (w : World) (h0 : -1099511627776 ≤ a) (h1 : a ≤ 1099511627776) :
    Calls Tryz.prog 67 #[.int .i64 a, .int .i64 b] w fun e w' => e = (factF a).ends ∧ w = w' := by
  by_cases ha : 0 ≤ a
  · by_cases hb : a < 64
    · have e : factF a = factFrom (a.toNat - 1) 2 1 := by unfold factF; rw [if_neg (by omega), if_neg (by omega)]
      rw [e]
      exact fact_yes a b w (by omega) (by omega)
    · have hs : factF a = .stop 9 0 := by unfold factF; rw [if_neg (by omega), if_pos (by omega)]
      have HS := Lib.hid hs
      have hd : decide (a < 64) = false := by simpa using hb
      clear hs
      go_enter Tryz.func67, Tryz.ntmps67
      go_wp2_with fail
      refine (must_true _ _).mono ?_
      rintro e w' ⟨rfl, rfl⟩
      go_wp2_with fail
      refine (must_false _ _).mono ?_
      rintro e w' ⟨rfl, rfl⟩
      exact ⟨rfl, by rw [HS.out]; rfl, rfl⟩
  · have hs : factF a = .stop 1 0 := by unfold factF; rw [if_pos (by omega)]
    have HS := Lib.hid hs
    clear hs
    go_enter Tryz.func67, Tryz.ntmps67
    go_wp2_with (go_at_call 59; refine (must_false _ _).mono ?_; rintro e w' ⟨rfl, rfl⟩)
    exact ⟨rfl, by rw [HS.out]; rfl, rfl⟩
end Go.Proofs.YtpnbhoeghncnnaaGreatDoor
namespace Go.Proofs.YtpnbhoeghncnnaaGreatDoor
open Go.RowKit
theorem count_any (b n c : Nat) (s : Option Addr) (x y : Int) (w : World) (h0 : w.cell? ⟨b, 0, none⟩ = some (.slice s n c)) :
    Calls Tryz.prog 33 #[.pointer (some ⟨b, 0, none⟩), .int .i64 x, .int .i64 y] w fun e w' => e = .returned (.int .i64 n) ∧ w = w' := by
  go_enter Tryz.func33, Tryz.ntmps33
  go_wp2
  go_ret
  exact ⟨rfl, rfl⟩
theorem lows_any (b : Nat) (x y lo : Int) (w : World) (h0 : w.cell? ⟨b, 2, none⟩ = some (.int .i64 lo)) :
    Calls Tryz.prog 55 #[.pointer (some ⟨b, 0, none⟩), .int .i64 x, .int .i64 y] w fun e w' => e = .returned (.int .i64 lo) ∧ w = w' := by
  go_enter Tryz.func55, Tryz.ntmps55
  go_wp2
  go_ret
  exact ⟨rfl, rfl⟩
theorem highs_any (b : Nat) (x y hi : Int) (w : World) (h0 : w.cell? ⟨b, 3, none⟩ = some (.int .i64 hi)) :
    Calls Tryz.prog 60 #[.pointer (some ⟨b, 0, none⟩), .int .i64 x, .int .i64 y] w fun e w' => e = .returned (.int .i64 hi) ∧ w = w' := by
  go_enter Tryz.func60, Tryz.ntmps60
  go_wp2
  go_ret
  exact ⟨rfl, rfl⟩
theorem peek_nil (b c : Nat) (s : Option Addr) (x y : Int) (w : World) (h0 : w.cell? ⟨b, 0, none⟩ = some (.slice s 0 c)) :
    Calls Tryz.prog 47 #[.pointer (some ⟨b, 0, none⟩), .int .i64 x, .int .i64 y] w fun e w' => e = .returned (.int .i64 0) ∧ w = w' := by
  go_enter Tryz.func47, Tryz.ntmps47
  go_wp2
  go_ret
  exact ⟨rfl, rfl⟩
theorem peek_cons (b bb o n c : Nat) (x y z : Int) (w : World) (h0 : w.cell? ⟨b, 0, none⟩ = some (.slice (some ⟨bb, o, none⟩) (n + 1) c)) (h1 : w.cell? ⟨bb, o, none⟩ = some (.int .i64 z)) :
    Calls Tryz.prog 47 #[.pointer (some ⟨b, 0, none⟩), .int .i64 x, .int .i64 y] w fun e w' => e = .returned (.int .i64 z) ∧ w = w' := by
  go_enter Tryz.func47, Tryz.ntmps47
  go_wp2
  go_ret
  exact ⟨rfl, rfl⟩
theorem front_nil (b c : Nat) (s : Option Addr) (x y : Int) (w : World) (h0 : w.cell? ⟨b, 0, none⟩ = some (.slice s 0 c)) :
    Calls Tryz.prog 48 #[.pointer (some ⟨b, 0, none⟩), .int .i64 x, .int .i64 y] w fun e w' => e = (Res.stop 1 0).ends ∧ w = w' := by
  go_enter Tryz.func48, Tryz.ntmps48
  go_wp2_with (go_at_call 59; refine (must_false _ _).mono ?_; rintro e w' ⟨rfl, rfl⟩)
  exact ⟨rfl, rfl, rfl⟩
theorem front_cons (b bb o n c : Nat) (x y z : Int) (w : World) (h0 : w.cell? ⟨b, 0, none⟩ = some (.slice (some ⟨bb, o, none⟩) (n + 1) c)) (h1 : w.cell? ⟨bb, o, none⟩ = some (.int .i64 z)) :
    Calls Tryz.prog 48 #[.pointer (some ⟨b, 0, none⟩), .int .i64 x, .int .i64 y] w fun e w' => e = .returned (.int .i64 z) ∧ w = w' := by
  go_enter Tryz.func48, Tryz.ntmps48
  go_wp2_with (go_at_call 59; refine (must_true _ _).mono ?_; rintro e w' ⟨rfl, rfl⟩)
  go_ret
  exact ⟨rfl, rfl⟩
end Go.Proofs.YtpnbhoeghncnnaaGreatDoor
namespace Go.Proofs.YtpnbhoeghncnnaaGreatDoor
open Go.RowKit
/-- The blocks that F does not name are as they were. -/
structure Fr (F : Nat → Prop) (w w' : World) : Prop where
  os : w'.os = w.os
  tape : w'.tape = w.tape
  output : w'.output = w.output
  size : w.heap.size ≤ w'.heap.size
  block : ∀ k, k < w.heap.size → ¬ F k → w'.heap[k]? = w.heap[k]?
theorem Fr.refl (F : Nat → Prop) (w : World) : Fr F w w := ⟨rfl, rfl, rfl, Nat.le_refl _, fun _ _ _ => rfl⟩
theorem Fr.trans {F G : Nat → Prop} {a b c : World} (h : Fr F a b) (k : Fr G b c) (hG : ∀ i, i < a.heap.size → G i → F i) : Fr F a c :=
  ⟨k.os.trans h.os, k.tape.trans h.tape, k.output.trans h.output, Nat.le_trans h.size k.size, fun i hi hF => (k.block i (by have := h.size; omega) (fun hg => hF (hG i hi hg))).trans (h.block i hi hF)⟩
theorem Fr.mono {F G : Nat → Prop} {a b : World} (h : Fr F a b) (hG : ∀ i, F i → G i) : Fr G a b :=
  ⟨h.os, h.tape, h.output, h.size, fun i hi hg => h.block i hi (fun hf => hg (hG i hf))⟩
theorem Fr.drew (F : Nat → Prop) (w : World) : Fr F w w.drew := ⟨rfl, rfl, rfl, Nat.le_refl _, fun _ _ _ => rfl⟩
theorem Fr.drewN (F : Nat → Prop) (w : World) (n : Nat) : Fr F w (w.drewN n) := ⟨rfl, rfl, rfl, Nat.le_refl _, fun _ _ _ => rfl⟩
theorem Fr.alloc (F : Nat → Prop) (w : World) (o : Obj) : Fr F w (w.alloc o) := ⟨rfl, rfl, rfl, by simp, fun k hk _ => Below.heap_alloc w o k hk⟩
theorem Fr.setCell (F : Nat → Prop) (w : World) (a : Addr) (v : Value) (h : F a.block) : Fr F w (w.setCell a v) :=
  ⟨rfl, rfl, rfl, by simp, fun k _ hF => Below.heap_setCell _ _ _ _ (fun e => hF (e ▸ h))⟩
theorem Fr.setRow (F : Nat → Prop) (w : World) (g : Nat) (cs : Array Value) (h : F g) : Fr F w (w.setRow g cs) :=
  ⟨rfl, rfl, rfl, by simp [World.setRow], fun k _ hF => setRow_other w g k cs (fun e => hF (e ▸ h))⟩
theorem Fr.cell {F : Nat → Prop} {w w' : World} (h : Fr F w w') {a : Addr} {v : Value} (hc : w.cell? a = some v) (hF : ¬ F a.block) : w'.cell? a = some v := by
  rw [World.cell?_of_block (h.block a.block (World.block_lt_of_cell? w a hc) hF)]; exact hc
theorem Fr.heap {F : Nat → Prop} {w w' : World} (h : Fr F w w') {k : Nat} {o : Obj} (hc : w.heap[k]? = some o) (hF : ¬ F k) : w'.heap[k]? = some o := by
  rw [h.block k (by rcases Nat.lt_or_ge k w.heap.size with h' | h'; exact h'; rw [Array.getElem?_eq_none h'] at hc; cases hc) hF]; exact hc
theorem heap_lt {w : World} {k : Nat} {o : Obj} (hc : w.heap[k]? = some o) : k < w.heap.size := by
  rcases Nat.lt_or_ge k w.heap.size with h' | h'
  · exact h'
  · rw [Array.getElem?_eq_none h'] at hc; cases hc
theorem heap_cell {w : World} {g : Nat} {cs : Array Value} {t : TypeId} {fr : Nat × Nat} (h : w.heap[g]? = some (.cells cs t fr)) (i : Nat) : w.cell? ⟨g, i, none⟩ = cs[i]? := by
  simp [World.cell?, h]
theorem heap_frozen {w : World} {g : Nat} {cs : Array Value} {t : TypeId} (h : w.heap[g]? = some (.cells cs t (0, 0))) (i : Nat) : w.frozen? ⟨g, i, none⟩ = false := by
  simp [World.frozen?, h]
theorem heap_shape {w : World} {g : Nat} {cs : Array Value} {t : TypeId} {fr : Nat × Nat} (h : w.heap[g]? = some (.cells cs t fr)) : w.shape? g = some (t, cs.size) := by
  simp [World.shape?, h]
theorem heap_setCell {w : World} {g : Nat} {cs : Array Value} {t : TypeId} {fr : Nat × Nat} (h : w.heap[g]? = some (.cells cs t fr)) (i : Nat) (v : Value) : (w.setCell ⟨g, i, none⟩ v).heap[g]? = some (.cells (cs.setIfInBounds i v) t fr) := by
  simp [World.setCell, Array.getElem?_modify, h]

theorem infoInt : (Tryz.prog.info? 3).map (fun i => (i.zero, i.size, i.bytes)) = some (some (.int .i64 0), 1, 8) := by kernel_rfl

/-- The slice v holds the numbers xs; they lie in the block own. -/
def Lst (w : World) (v : Value) (own : Option Nat) (xs : List Int) : Prop :=
  (v = .slice none 0 0 ∧ own = none ∧ xs = []) ∨
  ∃ g o cap cs, v = .slice (some ⟨g, o, none⟩) xs.length cap ∧ own = some g ∧ w.heap[g]? = some (.cells cs 3 (0, 0)) ∧ o + cap ≤ cs.size ∧ xs.length ≤ cap ∧ cs.size ≤ 9223372036854775807 ∧
    ∀ i x, xs[i]? = some x → cs[o + i]? = some (.int .i64 x)
theorem Lst.fr {F : Nat → Prop} {w w' : World} {v : Value} {own : Option Nat} {xs : List Int} (h : Lst w v own xs) (hf : Fr F w w') (hF : ∀ g, own = some g → ¬ F g) : Lst w' v own xs := by
  rcases h with h | ⟨g, o, cap, cs, h1, h2, h3, h4⟩
  · exact .inl h
  · exact .inr ⟨g, o, cap, cs, h1, h2, hf.heap h3 (hF g h2), h4⟩
theorem Lst.own_lt {w : World} {v : Value} {own : Option Nat} {xs : List Int} (h : Lst w v own xs) {g : Nat} (hg : own = some g) : g < w.heap.size := by
  rcases h with ⟨_, h, _⟩ | ⟨g', o, cap, cs, h1, h2, h3, h4⟩
  · rw [h] at hg; cases hg
  · rw [h2] at hg; cases hg; exact heap_lt h3
theorem Lst.nil (w : World) : Lst w (.slice none 0 0) none [] := .inl ⟨rfl, rfl, rfl⟩
theorem Lst.form {w : World} {v : Value} {own : Option Nat} {xs : List Int} (h : Lst w v own xs) : ∃ s c, v = .slice s xs.length c := by
  rcases h with ⟨h, _, hx⟩ | ⟨g', o, cap, cs, h1, h2, h3, h4⟩
  · exact ⟨none, 0, by rw [h, hx]; rfl⟩
  · exact ⟨_, _, h1⟩

theorem cells_out {w : World} {g o : Nat} {cs : Array Value} {t : TypeId} {fr : Nat × Nat} (h : w.heap[g]? = some (.cells cs t fr)) {xs : List Int} (hx : ∀ i x, xs[i]? = some x → cs[o + i]? = some (.int .i64 x)) :
    ∀ j v, (xs.map (fun x => Value.int .i64 x))[j]? = some v → w.cell? ((⟨g, o, none⟩ : Addr).add j) = some v := by
  intro j v hv
  rw [List.getElem?_map] at hv
  cases hxj : xs[j]? with
  | none => rw [hxj] at hv; cases hv
  | some x =>
    rw [hxj] at hv
    cases hv
    rw [show (⟨g, o, none⟩ : Addr).add j = ⟨g, o + j, none⟩ by unfold Addr.add; split <;> simp_all]
    rw [heap_cell h]
    exact hx j x hxj

theorem app_run (w : World) (ty : TypeId) (v : Value) (own : Option Nat) (xs : List Int) (h : Lst w v own xs) (ad : Addr) (m c : Nat) (ys : List Int) (hm : ys.length = m) (h0 : 0 < m) (hs : xs.length + m ≤ 100000)
    (hys : ∀ j u, (ys.map (fun x => Value.int .i64 x))[j]? = some u → w.cell? (ad.add j) = some u) :
    ∃ g o cap w', (Builtin.append_ #[25, 25] ty #[v, .slice (some ad) m c]).run Tryz.prog w = .ok (.slice (some ⟨g, o, none⟩) (xs.length + m) cap) w' ∧
      Lst w' (.slice (some ⟨g, o, none⟩) (xs.length + m) cap) (some g) (xs ++ ys) ∧ Fr (fun k => own = some k) w w' ∧ (own = some g ∨ g = w.heap.size) := by
  obtain ⟨i, hi, hz, hsz, hby⟩ : ∃ i, Tryz.prog.info? 3 = some i ∧ i.zero = some (.int .i64 0) ∧ i.size = 1 ∧ i.bytes = 8 := by
    have := infoInt
    cases hq : Tryz.prog.info? 3 with
    | none => rw [hq] at this; cases this
    | some i =>
      rw [hq] at this
      simp only [Option.map_some, Option.some.injEq, Prod.mk.injEq] at this
      exact ⟨i, rfl, this.1, this.2.1, this.2.2⟩
  have hl : (ys.map (fun x => Value.int .i64 x)).length = m * i.size := by rw [List.length_map, hm, hsz, Nat.mul_one]
  have h1 : ∀ u ∈ ys.map (fun x => Value.int .i64 x), u.oneCell' = true := by
    intro u hu; obtain ⟨x, _, rfl⟩ := List.mem_map.1 hu; rfl
  have grown : ∀ (cap cap' : Nat), xs.length + m ≤ cap' → cap' ≤ 9223372036854775807 → ∀ (own : Option Nat),
      Lst (w.drew.alloc (.cells ((xs.map (fun x => Value.int .i64 x)).toArray ++ (ys.map (fun x => Value.int .i64 x)).toArray ++ Builtin.zeroCells (Value.int .i64 0).cells (cap' - (xs.length + m))) 3)) (.slice (some ⟨w.heap.size, 0, none⟩) (xs.length + m) cap') (some w.heap.size) (xs ++ ys) ∧
      Fr (fun k => own = some k) w (w.drew.alloc (.cells ((xs.map (fun x => Value.int .i64 x)).toArray ++ (ys.map (fun x => Value.int .i64 x)).toArray ++ Builtin.zeroCells (Value.int .i64 0).cells (cap' - (xs.length + m))) 3)) := by
    intro cap cap' hc hc' own
    refine ⟨.inr ⟨w.heap.size, 0, cap', _, by rw [List.length_append, hm], rfl, heap_alloc_new w.drew _, ?_, by rw [List.length_append, hm]; exact hc, ?_, ?_⟩, (Fr.drew _ w).trans (Fr.alloc (fun k => own = some k) _ _) (fun _ _ h => h)⟩
    · simp only [Array.size_append, List.size_toArray, size_zeroCells, List.length_map, hm]
      show 0 + cap' ≤ xs.length + m + (cap' - (xs.length + m)) * 1
      omega
    · simp only [Array.size_append, List.size_toArray, size_zeroCells, List.length_map, hm]
      show xs.length + m + (cap' - (xs.length + m)) * 1 ≤ _
      omega
    · intro j x hx
      have hj : j < (xs ++ ys).length := by
        rcases Nat.lt_or_ge j (xs ++ ys).length with h' | h'
        · exact h'
        · rw [List.getElem?_eq_none h'] at hx; cases hx
      rw [Nat.zero_add, Array.getElem?_append_left (by simpa using hj)]
      rw [List.append_toArray, ← List.map_append, List.getElem?_toArray, List.getElem?_map, hx]
      rfl
  rcases h with ⟨rfl, rfl, rfl⟩ | ⟨g, o, cap, cs, rfl, rfl, hg, hcap, hlen, hmax, hcs⟩
  · have hr := run_append_nil (P := Tryz.prog) w 25 ty 3 i (.int .i64 0) Tryz.underlying25 hi hz ad m c _ hl hys h0 (by simp at hs; omega) (by simp at hs; rw [hby]; omega)
    have hge := grownCap_ge w m 0 3
    have hle := grownCap_le_maxLen w m 0 3 (by simp [maxLen]; simp at hs; omega)
    have G := grown 0 (grownCap w m 0 3) (by simpa using hge) (by simpa [maxLen] using hle) none
    simp only [List.map_nil, List.nil_append, List.length_nil, Nat.zero_add, Array.empty_append] at G ⊢
    exact ⟨_, _, _, _, hr, G.1, G.2, .inr rfl⟩
  · by_cases hroom : xs.length + m ≤ cap
    · have hf := run_firstCells_some (P := Tryz.prog) w i.size m ad m c _ hl hys
      have hst := run_storeCells_at Tryz.prog g (o + xs.length) 3 (ys.map (fun x => Value.int .i64 x)) 0 cs w hg (by rw [List.length_map, hm]; omega) h1
      simp only [Nat.add_zero] at hst
      rw [hsz] at hf
      refine ⟨g, o, cap, w.setRow g (cs.toList.take (o + xs.length) ++ (ys.map (fun x => Value.int .i64 x)) ++ cs.toList.drop (o + xs.length + (ys.map (fun x => Value.int .i64 x)).length)).toArray, ?_, ?_, Fr.setRow (fun k => some g = some k) w g _ rfl, .inl rfl⟩
      · simp [Builtin.append_, run_underlying Tryz.underlying25, sizeOf, typeInfo, hi, hsz, Builtin.lenOf, hroom, hf, Addr.add_lit, hst]
      · refine .inr ⟨g, o, cap, _, by rw [List.length_append, hm], rfl, setRow_heap w g cs _ 3 _ hg, ?_, by rw [List.length_append, hm]; exact hroom, ?_, ?_⟩
        · simp only [List.size_toArray, List.length_append, List.length_take, List.length_drop, Array.length_toList, List.length_map, hm]; omega
        · simp only [List.size_toArray, List.length_append, List.length_take, List.length_drop, Array.length_toList, List.length_map, hm]; omega
        · intro j x hx
          rw [List.getElem?_toArray, List.append_assoc]
          rcases Nat.lt_or_ge j xs.length with hj | hj
          · rw [List.getElem?_append_left (by simp; omega), List.getElem?_take_of_lt (by omega), Array.getElem?_toList]
            rw [List.getElem?_append_left hj] at hx
            exact hcs j x hx
          · rw [List.getElem?_append_right (by simp; omega)]
            rw [List.getElem?_append_right hj] at hx
            have hjj : j - xs.length < ys.length := by
              rcases Nat.lt_or_ge (j - xs.length) ys.length with h' | h'
              · exact h'
              · rw [List.getElem?_eq_none h'] at hx; cases hx
            have e : o + j - (List.take (o + xs.length) cs.toList).length = j - xs.length := by simp; omega
            rw [e, List.getElem?_append_left (by simpa using hjj), List.getElem?_map, hx]
            rfl
    · have hr := run_append_grow (P := Tryz.prog) w 25 ty 3 i (.int .i64 0) Tryz.underlying25 hi hz ⟨g, o, none⟩ xs.length cap (xs.map (fun x => Value.int .i64 x)) (by rw [List.length_map, hsz, Nat.mul_one]) (cells_out hg hcs) ad m c _ hl hys (by omega) (by omega) (growslice_fits (by omega) (by rw [hby]; omega))
      have hge := grownCap_ge w (xs.length + m) cap 3
      have hle := grownCap_le_maxLen w (xs.length + m) cap 3 (by simp [maxLen]; omega)
      have G := grown 0 (grownCap w (xs.length + m) cap 3) hge (by simpa [maxLen] using hle) (some g)
      exact ⟨_, _, _, _, hr, G.1, G.2, .inr rfl⟩

theorem wp_app {w : World} {o : Oper} {a : Act} {K : Act → World → Prop} {Q : Exit → Act → World → Prop} (s x : Operand)
    (ho : o.op = .call { callee := .builtin .append, args := #[s, x], argTypes := #[25, 25] })
    (v : Value) (own : Option Nat) (xs : List Int) (h : Lst w v own xs) (hs : a.eval s = v) (ad : Addr) (m c : Nat) (ys : List Int) (hx : a.eval x = .slice (some ad) m c) (hm : ys.length = m) (h0 : 0 < m) (hlen : xs.length + m ≤ 100000)
    (hys : ∀ j u, (ys.map (fun x => Value.int .i64 x))[j]? = some u → w.cell? (ad.add j) = some u)
    (hK : ∀ g i cap w', Lst w' (.slice (some ⟨g, i, none⟩) (xs.length + m) cap) (some g) (xs ++ ys) → Fr (fun k => own = some k) w w' → (own = some g ∨ g = w.heap.size) → K (a.put o.dst (.slice (some ⟨g, i, none⟩) (xs.length + m) cap)) w') : o.wp Tryz.prog a w K Q := by
  obtain ⟨g, i, cap, w', hr, h2, h3, h4⟩ := app_run w o.type v own xs h ad m c ys hm h0 hlen hys
  unfold Oper.wp execOp
  simp only [ho, resolve, invoke, builtin, Sem.run_bind, Sem.run_pure, Result.andThen_ok, List.map_toArray, List.map_cons, List.map_nil, hs, hx, hr]
  exact hK g i cap w' h2 h3 h4
theorem wpList_app {w : World} {ops : Array Oper} {rest : List Oper} {o : Oper} {a : Act} {Q : Exit → Act → World → Prop} (hgd : o.guard = none) (s x : Operand)
    (ho : o.op = .call { callee := .builtin .append, args := #[s, x], argTypes := #[25, 25] })
    (v : Value) (own : Option Nat) (xs : List Int) (h : Lst w v own xs) (hs : a.eval s = v) (ad : Addr) (m c : Nat) (ys : List Int) (hx : a.eval x = .slice (some ad) m c) (hm : ys.length = m) (h0 : 0 < m) (hlen : xs.length + m ≤ 100000)
    (hys : ∀ j u, (ys.map (fun x => Value.int .i64 x))[j]? = some u → w.cell? (ad.add j) = some u)
    (hK : ∀ g i cap w', Lst w' (.slice (some ⟨g, i, none⟩) (xs.length + m) cap) (some g) (xs ++ ys) → Fr (fun k => own = some k) w w' → (own = some g ∨ g = w.heap.size) → wpList Tryz.prog ops Q rest (a.put o.dst (.slice (some ⟨g, i, none⟩) (xs.length + m) cap)) w') : wpList Tryz.prog ops Q (o :: rest) a w :=
  wpList_plain hgd fun _ hK' => wp_app s x ho v own xs h hs ad m c ys hx hm h0 hlen hys fun g i cap w' h2 h3 h4 => hK' _ _ (hK g i cap w' h2 h3 h4)
theorem step_app {w : World} {ops : Array Oper} {o : Oper} {a : Act} {K : Act → World → Prop} {Q : Exit → Act → World → Prop} {E : Prop} (hgd : o.guard = none) (s x : Operand)
    (ho : o.op = .call { callee := .builtin .append, args := #[s, x], argTypes := #[25, 25] })
    (v : Value) (own : Option Nat) (xs : List Int) (h : Lst w v own xs) (hs : a.eval s = v) (ad : Addr) (m c : Nat) (ys : List Int) (hx : a.eval x = .slice (some ad) m c) (hm : ys.length = m) (h0 : 0 < m) (hlen : xs.length + m ≤ 100000)
    (hys : ∀ j u, (ys.map (fun x => Value.int .i64 x))[j]? = some u → w.cell? (ad.add j) = some u)
    (hK : ∀ g i cap w', Lst w' (.slice (some ⟨g, i, none⟩) (xs.length + m) cap) (some g) (xs ++ ys) → Fr (fun k => own = some k) w w' → (own = some g ∨ g = w.heap.size) → K (a.put o.dst (.slice (some ⟨g, i, none⟩) (xs.length + m) cap)) w') :
    if Region.wanted o (yielded ops a.tmps) = true then Oper.wp Tryz.prog o a w K Q else E := by
  have hw : Region.wanted o (yielded ops a.tmps) = true := by simp [Region.wanted, hgd]
  rw [if_pos hw]
  exact wp_app s x ho v own xs h hs ad m c ys hx hm h0 hlen hys hK
end Go.Proofs.YtpnbhoeghncnnaaGreatDoor
namespace Go.Proofs.YtpnbhoeghncnnaaGreatDoor
open Go.RowKit
def Mod (w : World) (b : Nat) (lv : Value) (kr dr : Nat) (lo hi : Int) : Prop :=
  w.heap[b]? = some (.cells #[lv, .map (some kr), .int .i64 lo, .int .i64 hi, .map (some dr)] 75 (0, 0))
def New (w : World) (own own' : Option Nat) : Prop := own' = own ∨ own' = none ∨ ∃ g, own' = some g ∧ w.heap.size ≤ g
def LM (w : World) (b kr dr : Nat) (lo hi : Int) (own : Option Nat) (xs : List Int) : Prop :=
  ∃ lv, Mod w b lv kr dr lo hi ∧ Lst w lv own xs ∧ own ≠ some b
def Did (w : World) (b kr dr : Nat) (lo hi : Int) (own : Option Nat) (xs : List Int) (w' : World) : Prop :=
  ∃ own', LM w' b kr dr lo hi own' xs ∧ New w own own' ∧ Fr (fun k => k = b ∨ own = some k) w w'
theorem Mod.c0 {w : World} {b : Nat} {lv : Value} {kr dr : Nat} {lo hi : Int} (h : Mod w b lv kr dr lo hi) : w.cell? ⟨b, 0, none⟩ = some lv := by rw [heap_cell h]; rfl
theorem Mod.c1 {w : World} {b : Nat} {lv : Value} {kr dr : Nat} {lo hi : Int} (h : Mod w b lv kr dr lo hi) : w.cell? ⟨b, 1, none⟩ = some (.map (some kr)) := by rw [heap_cell h]; rfl
theorem Mod.c2 {w : World} {b : Nat} {lv : Value} {kr dr : Nat} {lo hi : Int} (h : Mod w b lv kr dr lo hi) : w.cell? ⟨b, 2, none⟩ = some (.int .i64 lo) := by rw [heap_cell h]; rfl
theorem Mod.c3 {w : World} {b : Nat} {lv : Value} {kr dr : Nat} {lo hi : Int} (h : Mod w b lv kr dr lo hi) : w.cell? ⟨b, 3, none⟩ = some (.int .i64 hi) := by rw [heap_cell h]; rfl
theorem Mod.c4 {w : World} {b : Nat} {lv : Value} {kr dr : Nat} {lo hi : Int} (h : Mod w b lv kr dr lo hi) : w.cell? ⟨b, 4, none⟩ = some (.map (some dr)) := by rw [heap_cell h]; rfl
theorem Mod.fz {w : World} {b : Nat} {lv : Value} {kr dr : Nat} {lo hi : Int} (h : Mod w b lv kr dr lo hi) (i : Nat) : w.frozen? ⟨b, i, none⟩ = false := heap_frozen h i
theorem Mod.set0 {w : World} {b : Nat} {lv : Value} {kr dr : Nat} {lo hi : Int} (h : Mod w b lv kr dr lo hi) (lv' : Value) : Mod (w.setCell ⟨b, 0, none⟩ lv') b lv' kr dr lo hi := by
  unfold Mod; rw [heap_setCell h]; rfl

/-- The buildSlice block. -/
theorem one_cell (w : World) (n : Nat) (hn : n = w.heap.size) (a : Int) (t : TypeId) : ∀ j u, ([a].map (fun x => Value.int .i64 x))[j]? = some u → (w.alloc (.cells #[.int .i64 a] t)).cell? ((⟨n, 0, none⟩ : Addr).add j) = some u := by
  subst hn
  intro j u hu
  exact cells_out (o := 0) (xs := [a]) (heap_alloc_new w _) (by intro i x hx; rw [Nat.zero_add]; match i, hx with | 0, hx => cases hx; rfl) j u hu

/-- Behind a function that hands back the new list: m.l := it. -/
theorem Did.of_new {w w1 : World} {b kr dr : Nat} {lv v' : Value} {lo hi : Int} {own own' : Option Nat} {ys : List Int} (hm : Mod w b lv kr dr lo hi) (hb : own ≠ some b)
    (hf : Fr (fun k => own = some k) w w1) (ho : New w own own') (hl : Lst w1 v' own' ys) :
    Mod w1 b lv kr dr lo hi ∧ Did w b kr dr lo hi own ys (w1.setCell ⟨b, 0, none⟩ v') := by
  have hm1 : Mod w1 b lv kr dr lo hi := hf.heap hm hb
  have hb' : own' ≠ some b := by
    rcases ho with h | h | ⟨g, h, hg⟩
    · rw [h]; exact hb
    · rw [h]; exact fun h => nomatch h
    · rw [h]; intro e; cases e; have := heap_lt hm; omega
  refine ⟨hm1, own', ⟨v', hm1.set0 v', hl.fr (Fr.setCell (fun k => k = b) w1 ⟨b, 0, none⟩ v' rfl) (fun g h => fun e => hb' (by rw [h, e])), hb'⟩, ho, ?_⟩
  exact (hf.mono (fun i h => Or.inr h)).trans (Fr.setCell (fun k => k = b) w1 ⟨b, 0, none⟩ v' rfl) (fun i _ h => Or.inl h)
theorem New.of_app {w w0 : World} {own : Option Nat} {g : Nat} (hf : Fr (fun _ => False) w w0) (h : own = some g ∨ g = w0.heap.size) : New w own (some g) := by
  rcases h with h | h
  · exact .inl h.symm
  · exact .inr (.inr ⟨g, rfl, by rw [h]; exact hf.size⟩)
theorem Fr.weak {F : Nat → Prop} {w w' : World} (h : Fr (fun _ => False) w w') : Fr F w w' := h.mono (fun _ h => h.elim)

theorem extend_any (b kr dr : Nat) (lo hi : Int) (own : Option Nat) (xs : List Int) (x y : Int) (w : World) (h : LM w b kr dr lo hi own xs) (hn : xs.length ≤ 1000) :
    Calls Tryz.prog 38 #[.pointer (some ⟨b, 0, none⟩), .int .i64 x, .int .i64 y] w fun e w' => e = .returned (.tuple #[]) ∧ Did w b kr dr lo hi own (xs ++ [x]) w' := by
  obtain ⟨lv, hm, hl, hb⟩ := h
  have h0 := hm.c0
  have hlt := heap_lt hm
  have HM := Lib.hid hm
  have HL := Lib.hid hl
  have HB := Lib.hid hb
  have HN := Lib.hid hn
  clear hm hl hb hn
  go_enter Tryz.func38, Tryz.ntmps38
  go_wp2_with (first
    | (at_builtin; refine wpList_app rfl (.tmp 10) (.tmp 12) rfl _ own xs (HL.out.fr (Fr.alloc (fun _ => False) _ _) (fun _ _ h => h)) rfl _ 1 _ [x] rfl rfl (by decide) (by have := HN.out; omega) (one_cell w _ rfl x _) ?_; intro g i cap w1 hl1 hf1 ho1
       have HD := Lib.hid (Did.of_new HM.out HB.out ((Fr.alloc _ w _).trans hf1 (fun _ _ h => h)) (New.of_app (Fr.alloc _ w _) ho1) hl1)
       have c1 := HD.out.1.c0
       have z1 := HD.out.1.fz 0
       clear hl1 hf1 ho1))
  go_end0
  exact ⟨rfl, HD.out.2⟩
end Go.Proofs.YtpnbhoeghncnnaaGreatDoor

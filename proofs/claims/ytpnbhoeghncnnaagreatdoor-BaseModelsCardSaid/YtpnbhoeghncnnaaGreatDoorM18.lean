/-
  A part of the proof of Rows.BaseModelsCardSaid (for every class and script BaseModels answers true, and its arguments read as they did; the listed library variables as the program text lays them): texts SA, SB, SC, X0a, X1. By an AI agent.
-/
import Derived.IntWalk
import Derived.Test.YtpnbhoeghncnnaaGreatDoorM10
import Derived.Test.YtpnbhoeghncnnaaGreatDoorM13
import Derived.Test.YtpnbhoeghncnnaaGreatDoorM09
import Derived.Deep.RegionHeld3
namespace Go.Proofs.YtpnbhoeghncnnaaGreatDoor
open Go.RowKit
def StrAt (w : World) (g o : Nat) (xs : List ByteArray) : Prop := ∀ j t, xs[j]? = some t → w.cell? ⟨g, o + j, none⟩ = some (.string t)
def anyN (s : ByteArray) (xs : List ByteArray) : Bool := xs.any (fun t => t.toList == s.toList)
theorem anyN_yes {s : ByteArray} {xs : List ByteArray} {k : Nat} {t : ByteArray} (h : xs[k]? = some t) (hp : (t.toList == s.toList) = true) : anyN s xs = true := by
  rw [anyN, List.any_eq_true]; exact ⟨t, List.mem_of_getElem? h, hp⟩
theorem anyN_no {s : ByteArray} {xs : List ByteArray} (h : ∀ j z, j < xs.length → xs[j]? = some z → (z.toList == s.toList) = false) : anyN s xs = false := by
  rw [anyN, List.any_eq_false]
  intro x hx
  obtain ⟨j, hj, rfl⟩ := List.mem_iff_getElem.1 hx
  rw [h j _ hj (List.getElem?_eq_getElem hj)]; decide
set_option maxHeartbeats 400000 in
theorem rhas_row (g o n cap : Nat) (xs : List ByteArray) (hx : xs.length = n) (s : ByteArray) (q : Bool) (hq : anyN s xs = q) (w : World) (hn : n ≤ 1000) (hc : StrAt w g o xs) :
    Calls Tryz.prog 75 #[.slice (some ⟨g, o, none⟩) n cap, .string s] w fun e w' => e = .returned (.bool q) ∧ w = w' := by
  have HC := Lib.hid hc
  have HN := Lib.hid hn
  have HX := Lib.hid hx
  have HQ := Lib.hid hq
  clear hc hn hx hq
  go_enter Tryz.func75, Tryz.ntmps75
  go_wp2
  go_loop [5] (fun a => ∃ k : Nat, a = .int .i64 k ∧ k ≤ n ∧ ∀ j z, j < k → xs[j]? = some z → (z.toList == s.toList) = false) (fun a => n - (intOf a).toNat)
  case atStart => exact ⟨0, rfl, by omega, fun j z h => by omega⟩
  case round =>
    obtain ⟨k, rfl, hk, hb⟩ := hrel
    have HB := Lib.hid hb
    clear hb
    by_cases hlt : k < n
    · obtain ⟨y, hy⟩ : ∃ y, xs[k]? = some y := ⟨_, List.getElem?_eq_getElem (by rw [HX.out]; exact hlt)⟩
      have hcell := HC.out k y hy
      have HY := Lib.hid hy
      have hl := HN.out
      clear hy
      cases hxy : y.toList == s.toList with
      | true =>
        have HA := Lib.hid (anyN_yes HY.out hxy)
        go_wp2
        go_ret
        exact ⟨by rw [← HQ.out, HA.out]; rfl, rfl⟩
      | false =>
        have HZ := Lib.hid hxy
        go_wp2
        go_round
        case rel => exact ⟨k + 1, by go_num, by omega, fun j z hj hz => by
          rcases Nat.lt_or_ge j k with h | h
          · exact HB.out j z h hz
          · obtain rfl : j = k := by omega
            rw [HY.out] at hz; cases hz; exact HZ.out⟩
        case measure => simp [intOf]; omega
    · obtain rfl : k = n := by omega
      have HA := Lib.hid (anyN_no (fun j z hj hz => HB.out j z (by have := HX.out; omega) hz))
      go_wp2
      go_ret
      exact ⟨by rw [← HQ.out, HA.out]; rfl, rfl⟩
def two4 : List ByteArray := [⟨#[102, 111, 114, 99, 101]⟩, ⟨#[115, 112, 97, 110]⟩, ⟨#[103, 99, 100]⟩, ⟨#[112, 111, 119, 101, 114]⟩]
def zero12 : List ByteArray := [⟨#[99, 111, 117, 110, 116]⟩, ⟨#[115, 117, 109]⟩, ⟨#[114, 101, 118, 101, 114, 115, 101]⟩, ⟨#[119, 105, 112, 101]⟩, ⟨#[112, 111, 112]⟩, ⟨#[112, 101, 101, 107]⟩, ⟨#[108, 101, 97, 118, 101]⟩, ⟨#[102, 114, 111, 110, 116]⟩, ⟨#[115, 105, 122, 101]⟩, ⟨#[108, 111, 119]⟩, ⟨#[104, 105, 103, 104]⟩, ⟨#[117, 112]⟩]
def argsF (s : ByteArray) : Int := if anyN s two4 then 2 else if anyN s zero12 then 0 else 1
theorem strAt_new (w : World) (xs : List ByteArray) (ty : TypeId) : StrAt (w.alloc (.cells (xs.map Value.string).toArray ty)) w.heap.size 0 xs := fun j t h => by
  rw [heap_cell (heap_alloc_new w _), Nat.zero_add, List.getElem?_toArray, List.getElem?_map, h]; rfl
theorem strAt_lit (w : World) (xs : List ByteArray) (cs : Array Value) (ty : TypeId) (h : (xs.map Value.string).toArray = cs) : StrAt (w.alloc (.cells cs ty)) w.heap.size 0 xs := by subst h; exact strAt_new w xs ty
theorem StrAt.fr {w w' : World} {g o : Nat} {xs : List ByteArray} (h : StrAt w g o xs) (hf : Fr (fun _ => False) w w') : StrAt w' g o xs := fun j t hj => hf.cell (h j t hj) id
set_option maxRecDepth 100000 in
set_option maxHeartbeats 1000000 in
theorem rargs_any (s : ByteArray) (w : World) :
    Calls Tryz.prog 74 #[.string s] w fun e w' => e = .returned (.int .i64 (argsF s)) ∧ Fr (fun _ => False) w w' := by
  have S2 := Lib.hid (strAt_lit w two4 #[.string ⟨#[102, 111, 114, 99, 101]⟩, .string ⟨#[115, 112, 97, 110]⟩, .string ⟨#[103, 99, 100]⟩, .string ⟨#[112, 111, 119, 101, 114]⟩] 9 rfl)
  cases h2 : anyN s two4 with
  | true =>
    have H2 := Lib.hid h2
    have HR := Lib.hid (show argsF s = 2 by unfold argsF; rw [h2]; rfl)
    clear h2
    go_enter Tryz.func74, Tryz.ntmps74
    go_wp2_with (go_at_call 75; (with_reducible refine (rhas_row w.heap.size 0 4 _ two4 rfl s true H2.out _ (by omega) S2.out).mono ?_); rintro e w' ⟨rfl, rfl⟩)
    go_ret
    exact ⟨by rw [HR.out]; rfl, Fr.alloc _ _ _⟩
  | false =>
    have H2 := Lib.hid h2
    have S0' := strAt_lit (w.alloc (.cells #[.string ⟨#[102, 111, 114, 99, 101]⟩, .string ⟨#[115, 112, 97, 110]⟩, .string ⟨#[103, 99, 100]⟩, .string ⟨#[112, 111, 119, 101, 114]⟩] 9)) zero12 #[.string ⟨#[99, 111, 117, 110, 116]⟩, .string ⟨#[115, 117, 109]⟩, .string ⟨#[114, 101, 118, 101, 114, 115, 101]⟩, .string ⟨#[119, 105, 112, 101]⟩, .string ⟨#[112, 111, 112]⟩, .string ⟨#[112, 101, 101, 107]⟩, .string ⟨#[108, 101, 97, 118, 101]⟩, .string ⟨#[102, 114, 111, 110, 116]⟩, .string ⟨#[115, 105, 122, 101]⟩, .string ⟨#[108, 111, 119]⟩, .string ⟨#[104, 105, 103, 104]⟩, .string ⟨#[117, 112]⟩] 9 rfl
    rw [show (w.alloc (.cells #[.string ⟨#[102, 111, 114, 99, 101]⟩, .string ⟨#[115, 112, 97, 110]⟩, .string ⟨#[103, 99, 100]⟩, .string ⟨#[112, 111, 119, 101, 114]⟩] 9)).heap.size = w.heap.size + 1 by simp] at S0'
    have S0 := Lib.hid S0'
    clear S0'
    cases h0 : anyN s zero12 with
    | true =>
      have H0 := Lib.hid h0
      have HR := Lib.hid (show argsF s = 0 by unfold argsF; rw [h2, h0]; rfl)
      clear h2 h0
      go_enter Tryz.func74, Tryz.ntmps74
      go_wp2_with (first
        | (go_at_call 75; (with_reducible refine (rhas_row w.heap.size 0 4 _ two4 rfl s false H2.out _ (by omega) S2.out).mono ?_); rintro e w' ⟨rfl, rfl⟩)
        | (go_at_call 75; (with_reducible refine (rhas_row (w.heap.size + 1) 0 12 _ zero12 rfl s true H0.out _ (by omega) S0.out).mono ?_); rintro e w' ⟨rfl, rfl⟩))
      go_ret
      exact ⟨by rw [HR.out]; rfl, (Fr.alloc _ _ _).trans (Fr.alloc _ _ _) (fun _ _ h => h)⟩
    | false =>
      have H0 := Lib.hid h0
      have HR := Lib.hid (show argsF s = 1 by unfold argsF; rw [h2, h0]; rfl)
      clear h2 h0
      go_enter Tryz.func74, Tryz.ntmps74
      go_wp2_with (first
        | (go_at_call 75; (with_reducible refine (rhas_row w.heap.size 0 4 _ two4 rfl s false H2.out _ (by omega) S2.out).mono ?_); rintro e w' ⟨rfl, rfl⟩)
        | (go_at_call 75; (with_reducible refine (rhas_row (w.heap.size + 1) 0 12 _ zero12 rfl s false H0.out _ (by omega) S0.out).mono ?_); rintro e w' ⟨rfl, rfl⟩))
      go_ret
      exact ⟨by rw [HR.out]; rfl, (Fr.alloc _ _ _).trans (Fr.alloc _ _ _) (fun _ _ h => h)⟩
end Go.Proofs.YtpnbhoeghncnnaaGreatDoor
namespace Go.Proofs.YtpnbhoeghncnnaaGreatDoor
open Go.RowKit
set_option maxRecDepth 100000 in
theorem rtext_LINK (w : World) : Calls Tryz.prog 72 #[.string ⟨#[76, 73, 78, 75]⟩] w fun e w' => ∃ t : ByteArray, e = .returned (.string t) ∧ t.toList.isEmpty = false ∧ w = w' := by
  go_enter Tryz.func72, Tryz.ntmps72
  go_wp2
  go_ret
  exact ⟨_, rfl, by kernel_rfl, rfl⟩
set_option maxRecDepth 100000 in
theorem rtext_INTS (w : World) : Calls Tryz.prog 72 #[.string ⟨#[73, 78, 84, 83]⟩] w fun e w' => ∃ t : ByteArray, e = .returned (.string t) ∧ t.toList.isEmpty = false ∧ w = w' := by
  go_enter Tryz.func72, Tryz.ntmps72
  go_wp2
  go_ret
  exact ⟨_, rfl, by kernel_rfl, rfl⟩
set_option maxRecDepth 100000 in
theorem rtext_SORTED (w : World) : Calls Tryz.prog 72 #[.string ⟨#[83, 79, 82, 84, 69, 68]⟩] w fun e w' => ∃ t : ByteArray, e = .returned (.string t) ∧ t.toList.isEmpty = false ∧ w = w' := by
  go_enter Tryz.func72, Tryz.ntmps72
  go_wp2
  go_ret
  exact ⟨_, rfl, by kernel_rfl, rfl⟩
set_option maxRecDepth 100000 in
theorem rtext_NODE (w : World) : Calls Tryz.prog 72 #[.string ⟨#[78, 79, 68, 69]⟩] w fun e w' => ∃ t : ByteArray, e = .returned (.string t) ∧ t.toList.isEmpty = false ∧ w = w' := by
  go_enter Tryz.func72, Tryz.ntmps72
  go_wp2
  go_ret
  exact ⟨_, rfl, by kernel_rfl, rfl⟩
set_option maxRecDepth 100000 in
theorem rtext_STACK (w : World) : Calls Tryz.prog 72 #[.string ⟨#[83, 84, 65, 67, 75]⟩] w fun e w' => ∃ t : ByteArray, e = .returned (.string t) ∧ t.toList.isEmpty = false ∧ w = w' := by
  go_enter Tryz.func72, Tryz.ntmps72
  go_wp2
  go_ret
  exact ⟨_, rfl, by kernel_rfl, rfl⟩
set_option maxRecDepth 100000 in
theorem rtext_QUEUE (w : World) : Calls Tryz.prog 72 #[.string ⟨#[81, 85, 69, 85, 69]⟩] w fun e w' => ∃ t : ByteArray, e = .returned (.string t) ∧ t.toList.isEmpty = false ∧ w = w' := by
  go_enter Tryz.func72, Tryz.ntmps72
  go_wp2
  go_ret
  exact ⟨_, rfl, by kernel_rfl, rfl⟩
set_option maxRecDepth 100000 in
theorem rtext_ENTRY (w : World) : Calls Tryz.prog 72 #[.string ⟨#[69, 78, 84, 82, 89]⟩] w fun e w' => ∃ t : ByteArray, e = .returned (.string t) ∧ t.toList.isEmpty = false ∧ w = w' := by
  go_enter Tryz.func72, Tryz.ntmps72
  go_wp2
  go_ret
  exact ⟨_, rfl, by kernel_rfl, rfl⟩
set_option maxRecDepth 100000 in
theorem rtext_TABLE (w : World) : Calls Tryz.prog 72 #[.string ⟨#[84, 65, 66, 76, 69]⟩] w fun e w' => ∃ t : ByteArray, e = .returned (.string t) ∧ t.toList.isEmpty = false ∧ w = w' := by
  go_enter Tryz.func72, Tryz.ntmps72
  go_wp2
  go_ret
  exact ⟨_, rfl, by kernel_rfl, rfl⟩
set_option maxRecDepth 100000 in
theorem rtext_SET (w : World) : Calls Tryz.prog 72 #[.string ⟨#[83, 69, 84]⟩] w fun e w' => ∃ t : ByteArray, e = .returned (.string t) ∧ t.toList.isEmpty = false ∧ w = w' := by
  go_enter Tryz.func72, Tryz.ntmps72
  go_wp2
  go_ret
  exact ⟨_, rfl, by kernel_rfl, rfl⟩
set_option maxRecDepth 100000 in
theorem rtext_COUNTER (w : World) : Calls Tryz.prog 72 #[.string ⟨#[67, 79, 85, 78, 84, 69, 82]⟩] w fun e w' => ∃ t : ByteArray, e = .returned (.string t) ∧ t.toList.isEmpty = false ∧ w = w' := by
  go_enter Tryz.func72, Tryz.ntmps72
  go_wp2
  go_ret
  exact ⟨_, rfl, by kernel_rfl, rfl⟩
set_option maxRecDepth 100000 in
theorem rtext_RANGE (w : World) : Calls Tryz.prog 72 #[.string ⟨#[82, 65, 78, 71, 69]⟩] w fun e w' => ∃ t : ByteArray, e = .returned (.string t) ∧ t.toList.isEmpty = false ∧ w = w' := by
  go_enter Tryz.func72, Tryz.ntmps72
  go_wp2
  go_ret
  exact ⟨_, rfl, by kernel_rfl, rfl⟩
set_option maxRecDepth 100000 in
theorem rtext_ARITH (w : World) : Calls Tryz.prog 72 #[.string ⟨#[65, 82, 73, 84, 72]⟩] w fun e w' => ∃ t : ByteArray, e = .returned (.string t) ∧ t.toList.isEmpty = false ∧ w = w' := by
  go_enter Tryz.func72, Tryz.ntmps72
  go_wp2
  go_ret
  exact ⟨_, rfl, by kernel_rfl, rfl⟩
theorem rtext_no (s : ByteArray) (w : World) (g0 : (s.toList == [76, 73, 78, 75]) = false) (g1 : (s.toList == [73, 78, 84, 83]) = false) (g2 : (s.toList == [83, 79, 82, 84, 69, 68]) = false) (g3 : (s.toList == [78, 79, 68, 69]) = false) (g4 : (s.toList == [83, 84, 65, 67, 75]) = false) (g5 : (s.toList == [81, 85, 69, 85, 69]) = false) (g6 : (s.toList == [69, 78, 84, 82, 89]) = false) (g7 : (s.toList == [84, 65, 66, 76, 69]) = false) (g8 : (s.toList == [83, 69, 84]) = false) (g9 : (s.toList == [67, 79, 85, 78, 84, 69, 82]) = false) (g10 : (s.toList == [82, 65, 78, 71, 69]) = false) (g11 : (s.toList == [65, 82, 73, 84, 72]) = false) : Calls Tryz.prog 72 #[.string s] w fun e w' => e = .returned (.string ⟨#[]⟩) ∧ w = w' := by
  go_enter Tryz.func72, Tryz.ntmps72
  go_wp2
  go_ret
  exact ⟨rfl, rfl⟩
theorem rcalls_LINK (w : World) : Calls Tryz.prog 73 #[.string ⟨#[76, 73, 78, 75]⟩] w fun e w' => e = .returned (.slice none 0 0) ∧ w' = w := by
  go_enter Tryz.func73, Tryz.ntmps73
  go_wp2
  go_ret
  exact ⟨rfl, rfl⟩
theorem rcalls_INTS (w : World) : Calls Tryz.prog 73 #[.string ⟨#[73, 78, 84, 83]⟩] w fun e w' => e = .returned (.slice (some ⟨w.heap.size, 0, none⟩) 9 9) ∧ w' = w.alloc (.cells #[.string ⟨#[99, 111, 117, 110, 116]⟩, .string ⟨#[112, 117, 115, 104]⟩, .string ⟨#[101, 120, 116, 101, 110, 100]⟩, .string ⟨#[104, 97, 115]⟩, .string ⟨#[105, 116, 101, 109]⟩, .string ⟨#[115, 117, 109]⟩, .string ⟨#[114, 101, 109, 111, 118, 101]⟩, .string ⟨#[114, 101, 118, 101, 114, 115, 101]⟩, .string ⟨#[119, 105, 112, 101]⟩] 9) := by
  go_enter Tryz.func73, Tryz.ntmps73
  go_wp2
  go_ret
  exact ⟨rfl, rfl⟩
theorem rcalls_SORTED (w : World) : Calls Tryz.prog 73 #[.string ⟨#[83, 79, 82, 84, 69, 68]⟩] w fun e w' => e = .returned (.slice (some ⟨w.heap.size, 0, none⟩) 9 9) ∧ w' = w.alloc (.cells #[.string ⟨#[99, 111, 117, 110, 116]⟩, .string ⟨#[112, 117, 115, 104]⟩, .string ⟨#[101, 120, 116, 101, 110, 100]⟩, .string ⟨#[104, 97, 115]⟩, .string ⟨#[105, 116, 101, 109]⟩, .string ⟨#[115, 117, 109]⟩, .string ⟨#[114, 101, 109, 111, 118, 101]⟩, .string ⟨#[114, 101, 118, 101, 114, 115, 101]⟩, .string ⟨#[119, 105, 112, 101]⟩] 9) := by
  go_enter Tryz.func73, Tryz.ntmps73
  go_wp2
  go_ret
  exact ⟨rfl, rfl⟩
theorem rcalls_NODE (w : World) : Calls Tryz.prog 73 #[.string ⟨#[78, 79, 68, 69]⟩] w fun e w' => e = .returned (.slice none 0 0) ∧ w' = w := by
  go_enter Tryz.func73, Tryz.ntmps73
  go_wp2
  go_ret
  exact ⟨rfl, rfl⟩
theorem rcalls_STACK (w : World) : Calls Tryz.prog 73 #[.string ⟨#[83, 84, 65, 67, 75]⟩] w fun e w' => e = .returned (.slice (some ⟨w.heap.size, 0, none⟩) 4 4) ∧ w' = w.alloc (.cells #[.string ⟨#[99, 111, 117, 110, 116]⟩, .string ⟨#[112, 117, 115, 104]⟩, .string ⟨#[112, 111, 112]⟩, .string ⟨#[112, 101, 101, 107]⟩] 9) := by
  go_enter Tryz.func73, Tryz.ntmps73
  go_wp2
  go_ret
  exact ⟨rfl, rfl⟩
theorem rcalls_QUEUE (w : World) : Calls Tryz.prog 73 #[.string ⟨#[81, 85, 69, 85, 69]⟩] w fun e w' => e = .returned (.slice (some ⟨w.heap.size, 0, none⟩) 4 4) ∧ w' = w.alloc (.cells #[.string ⟨#[99, 111, 117, 110, 116]⟩, .string ⟨#[101, 110, 116, 101, 114]⟩, .string ⟨#[108, 101, 97, 118, 101]⟩, .string ⟨#[102, 114, 111, 110, 116]⟩] 9) := by
  go_enter Tryz.func73, Tryz.ntmps73
  go_wp2
  go_ret
  exact ⟨rfl, rfl⟩
theorem rcalls_ENTRY (w : World) : Calls Tryz.prog 73 #[.string ⟨#[69, 78, 84, 82, 89]⟩] w fun e w' => e = .returned (.slice none 0 0) ∧ w' = w := by
  go_enter Tryz.func73, Tryz.ntmps73
  go_wp2
  go_ret
  exact ⟨rfl, rfl⟩
theorem rcalls_TABLE (w : World) : Calls Tryz.prog 73 #[.string ⟨#[84, 65, 66, 76, 69]⟩] w fun e w' => e = .returned (.slice (some ⟨w.heap.size, 0, none⟩) 5 5) ∧ w' = w.alloc (.cells #[.string ⟨#[99, 111, 117, 110, 116]⟩, .string ⟨#[102, 111, 114, 99, 101]⟩, .string ⟨#[104, 97, 115]⟩, .string ⟨#[118, 97, 108, 117, 101, 95, 111, 102]⟩, .string ⟨#[114, 101, 109, 111, 118, 101]⟩] 9) := by
  go_enter Tryz.func73, Tryz.ntmps73
  go_wp2
  go_ret
  exact ⟨rfl, rfl⟩
theorem rcalls_SET (w : World) : Calls Tryz.prog 73 #[.string ⟨#[83, 69, 84]⟩] w fun e w' => e = .returned (.slice (some ⟨w.heap.size, 0, none⟩) 4 4) ∧ w' = w.alloc (.cells #[.string ⟨#[97, 100, 100]⟩, .string ⟨#[100, 114, 111, 112]⟩, .string ⟨#[104, 97, 115]⟩, .string ⟨#[115, 105, 122, 101]⟩] 9) := by
  go_enter Tryz.func73, Tryz.ntmps73
  go_wp2
  go_ret
  exact ⟨rfl, rfl⟩
theorem rcalls_COUNTER (w : World) : Calls Tryz.prog 73 #[.string ⟨#[67, 79, 85, 78, 84, 69, 82]⟩] w fun e w' => e = .returned (.slice (some ⟨w.heap.size, 0, none⟩) 3 3) ∧ w' = w.alloc (.cells #[.string ⟨#[99, 111, 117, 110, 116]⟩, .string ⟨#[117, 112]⟩, .string ⟨#[97, 100, 100]⟩] 9) := by
  go_enter Tryz.func73, Tryz.ntmps73
  go_wp2
  go_ret
  exact ⟨rfl, rfl⟩
theorem rcalls_RANGE (w : World) : Calls Tryz.prog 73 #[.string ⟨#[82, 65, 78, 71, 69]⟩] w fun e w' => e = .returned (.slice (some ⟨w.heap.size, 0, none⟩) 6 6) ∧ w' = w.alloc (.cells #[.string ⟨#[108, 111, 119]⟩, .string ⟨#[104, 105, 103, 104]⟩, .string ⟨#[115, 112, 97, 110]⟩, .string ⟨#[99, 111, 110, 116, 97, 105, 110, 115]⟩, .string ⟨#[115, 105, 122, 101]⟩, .string ⟨#[115, 117, 109]⟩] 9) := by
  go_enter Tryz.func73, Tryz.ntmps73
  go_wp2
  go_ret
  exact ⟨rfl, rfl⟩
theorem rcalls_ARITH (w : World) : Calls Tryz.prog 73 #[.string ⟨#[65, 82, 73, 84, 72]⟩] w fun e w' => e = .returned (.slice (some ⟨w.heap.size, 0, none⟩) 4 4) ∧ w' = w.alloc (.cells #[.string ⟨#[103, 99, 100]⟩, .string ⟨#[112, 111, 119, 101, 114]⟩, .string ⟨#[102, 97, 99, 116]⟩, .string ⟨#[116, 114, 105, 101, 115]⟩] 9) := by
  go_enter Tryz.func73, Tryz.ntmps73
  go_wp2
  go_ret
  exact ⟨rfl, rfl⟩
end Go.Proofs.YtpnbhoeghncnnaaGreatDoor
namespace Go.Proofs.YtpnbhoeghncnnaaGreatDoor
open Go.RowKit
def RCallsOf (cls : ByteArray) (names : List ByteArray) : Prop := ∀ w, Calls Tryz.prog 73 #[.string cls] w fun e w' => ∃ g, e = .returned (.slice (some ⟨g, 0, none⟩) names.length names.length) ∧ StrAt w' g 0 names ∧ Fr (fun _ => False) w w'
def RTextOf (cls : ByteArray) : Prop := ∀ w, Calls Tryz.prog 72 #[.string cls] w fun e w' => ∃ t : ByteArray, e = .returned (.string t) ∧ t.toList.isEmpty = false ∧ w = w'
def rbadF (names : List ByteArray) (x : ScrT) : Bool := !anyN x.1 names || !inNum x.2.1 || !inNum x.2.2 || (decide (argsF x.1 < 2) && x.2.2 != 0) || (decide (argsF x.1 < 1) && x.2.1 != 0)
theorem rargs_eq (s : ByteArray) (na : Int) (h : argsF s = na) (w : World) :
    Calls Tryz.prog 74 #[.string s] w fun e w' => e = .returned (.int .i64 na) ∧ Fr (fun _ => False) w w' := by subst h; exact rargs_any s w
theorem any_rbad {names : List ByteArray} {l : List ScrT} {m : Nat} {x : ScrT} (h : l[m]? = some x) (hb : rbadF names x = true) : l.any (rbadF names) = true := by
  rw [List.any_eq_true]; exact ⟨x, List.mem_of_getElem? h, hb⟩
theorem any_rgood {names : List ByteArray} {l : List ScrT} (h : ∀ j z, j < l.length → l[j]? = some z → rbadF names z = false) : l.any (rbadF names) = false := by
  rw [List.any_eq_false]
  intro x hx
  obtain ⟨j, hj, rfl⟩ := List.mem_iff_getElem.1 hx
  rw [h j _ hj (List.getElem?_eq_getElem hj)]; decide
theorem rcheck_name (cls : ByteArray) (so : Option Addr) (n c : Nat) (w : World) (hx : ∀ w, Calls Tryz.prog 72 #[.string cls] w fun e w' => e = .returned (.string ⟨#[]⟩) ∧ w = w') :
    Calls Tryz.prog 18 #[.string cls, .slice so n c] w fun e w' => e = .returned (.int .i64 4) ∧ w = w' := by
  have HI := Lib.hid hx
  clear hx
  go_enter Tryz.func18, Tryz.ntmps18
  go_wp2_with (go_at_call 72; refine (HI.out _).mono ?_; rintro e w' ⟨rfl, rfl⟩)
  go_ret
  exact ⟨rfl, rfl⟩
theorem isE {t : ByteArray} (h : t.toList.isEmpty = false) : t.toList ≠ [] ∧ (t.toList == []) = false := by
  cases ht : t.toList with
  | nil => rw [ht] at h; cases h
  | cons a b => exact ⟨by simp, rfl⟩
theorem rcheck_none (cls : ByteArray) (so : Option Addr) (n c : Nat) (w : World) (ht : RTextOf cls) (hx : ∀ w, Calls Tryz.prog 73 #[.string cls] w fun e w' => e = .returned (.slice none 0 0) ∧ w' = w) :
    Calls Tryz.prog 18 #[.string cls, .slice so n c] w fun e w' => e = .returned (.int .i64 1) ∧ w = w' := by
  have HT := Lib.hid ht
  have HX := Lib.hid hx
  clear hx ht
  go_enter Tryz.func18, Tryz.ntmps18
  go_wp2_with (first
    | (go_at_call 72; refine (HT.out _).mono ?_; rintro e w' ⟨t, rfl, he, rfl⟩; have he1 := (isE he).1; have he2 := (isE he).2)
    | (go_at_call 73; refine (HX.out _).mono ?_; rintro e w' ⟨rfl, rfl⟩))
  go_ret
  exact ⟨rfl, rfl⟩
theorem rcheck_long (cls : ByteArray) (so : Option Addr) (n c : Nat) (names : List ByteArray) (w : World) (ht : RTextOf cls) (hx : RCallsOf cls names) (h0 : (0 : Int) < (names.length : Int)) (hn : (40 : Int) < (n : Int)) :
    Calls Tryz.prog 18 #[.string cls, .slice so n c] w fun e w' => e = .returned (.int .i64 3) ∧ Fr (fun _ => False) w w' := by
  have HT := Lib.hid ht
  have HX := Lib.hid hx
  clear hx ht
  go_enter Tryz.func18, Tryz.ntmps18
  go_wp2_with (first
    | (go_at_call 72; refine (HT.out _).mono ?_; rintro e w' ⟨t, rfl, he, rfl⟩; have he1 := (isE he).1; have he2 := (isE he).2)
    | (go_at_call 73; refine (HX.out _).mono ?_; rintro e w' ⟨g, rfl, hs, hf⟩; have HF := Lib.hid hf; clear hf hs))
  go_ret
  exact ⟨rfl, HF.out⟩
set_option maxHeartbeats 4000000 in
theorem rcheck_run (cls : ByteArray) (so : Option Addr) (c : Nat) (names : List ByteArray) (l : List ScrT) (w : World) (ht : RTextOf cls) (hx : RCallsOf cls names)
    (h0 : (0 : Int) < (names.length : Int)) (hnn : names.length ≤ 1000) (hn : (l.length : Int) ≤ 40) (hs : ScrAt w so l) :
    Calls Tryz.prog 18 #[.string cls, .slice so l.length c] w fun e w' => e = .returned (.int .i64 (if l.any (rbadF names) then 1 else 0)) ∧ Fr (fun _ => False) w w' := by
  have HT := Lib.hid ht
  have HX := Lib.hid hx
  have HS := Lib.hid hs
  have HNN := Lib.hid hnn
  generalize hres : (if l.any (rbadF names) then (1 : Int) else 0) = res
  have HRES := Lib.hid hres
  clear hx ht hs hnn hres
  have g1 : ((names.length : Int) == 0) = false := by rw [beq_eq_false_iff_ne]; omega
  have g2 : decide ((40 : Int) < (l.length : Int)) = false := by rw [decide_eq_false_iff_not]; omega
  go_enter Tryz.func18, Tryz.ntmps18
  go_wp2_with (first
    | (go_at_call 72; refine (HT.out _).mono ?_; rintro e w' ⟨t, rfl, he, rfl⟩; have he1 := (isE he).1; have he2 := (isE he).2; clear he)
    | (go_at_call 73; refine (HX.out _).mono ?_; rintro e w0 ⟨g0, rfl, hs, hf⟩; have HF0 := Lib.hid hf; have HST := Lib.hid hs; clear hf hs))
  go_loopw [6] (fun a wr => ∃ m : Nat, a = .int .i64 m ∧ m ≤ l.length ∧ (∀ j z, j < m → l[j]? = some z → rbadF names z = false) ∧ Fr (fun _ => False) w0 wr) (fun a _ => l.length - (intOf a).toNat)
  case atStart => exact ⟨0, rfl, by omega, fun j z h => by omega, Fr.refl _ _⟩
  case round =>
    obtain ⟨m, rfl, hm, hb, hf⟩ := hrel
    have HB := Lib.hid hb
    have HW := Lib.hid hf
    clear hb hf
    by_cases hlt : m < l.length
    · obtain ⟨⟨nm, va, vb⟩, hy⟩ : ∃ y, l[m]? = some y := ⟨_, List.getElem?_eq_getElem hlt⟩
      obtain ⟨gg, oo, rfl, y0, y1, y2⟩ := (HS.out.fr HF0.out).fr HW.out m _ hy
      have HY := Lib.hid hy
      clear hy
      dsimp only at y0 y1 y2
      obtain ⟨na, hna⟩ : ∃ na, argsF nm = na := ⟨_, rfl⟩
      have HNA := Lib.hid hna
      clear hna
      have Z0 := Lib.hid (show (wr.alloc (.cells #[.string nm, .int .i64 va, .int .i64 vb] 40)).cell? ⟨wr.heap.size, 0, none⟩ = some (.string nm) by rw [heap_cell (heap_alloc_new wr _)]; rfl)
      have Z1 := Lib.hid (show (wr.alloc (.cells #[.string nm, .int .i64 va, .int .i64 vb] 40)).cell? ⟨wr.heap.size, 1, none⟩ = some (.int .i64 va) by rw [heap_cell (heap_alloc_new wr _)]; rfl)
      have Z2 := Lib.hid (show (wr.alloc (.cells #[.string nm, .int .i64 va, .int .i64 vb] 40)).cell? ⟨wr.heap.size, 2, none⟩ = some (.int .i64 vb) by rw [heap_cell (heap_alloc_new wr _)]; rfl)
      have Z3 := Lib.hid (show wr.heap.size < (wr.alloc (.cells #[.string nm, .int .i64 va, .int .i64 vb] 40)).heap.size by simp)
      cases hq : anyN nm names with
      | false =>
        have HQ := Lib.hid hq
        have HR1 := Lib.hid (show res = 1 by rw [← HRES.out, any_rbad HY.out (by unfold rbadF; rw [HNA.out]; simp [hq])]; rfl)
        clear hq
        go_wp2_with (first
          | (go_at_call 74; (with_reducible refine (rargs_eq nm na HNA.out _).mono ?_); rintro e w2 ⟨rfl, hf⟩; have HF2 := Lib.hid hf; have q0 := hf.cell Z0.out id; have q1 := hf.cell Z1.out id; have q2 := hf.cell Z2.out id; have hz := Nat.lt_of_lt_of_le Z3.out hf.size; clear hf)
          | (go_at_call 75; (with_reducible refine (rhas_row g0 0 names.length _ names rfl nm false HQ.out _ HNN.out ((HST.out.fr HW.out).fr ((Fr.alloc (fun _ => False) wr (.cells #[.string nm, .int .i64 va, .int .i64 vb] 40)).trans HF2.out (fun _ _ h => h)))).mono ?_); rintro e w3 ⟨rfl, rfl⟩)
          | (go_at_call 76; (with_reducible refine (in_eq va _ _ _ true P1.out).mono ?_); rintro e w3 ⟨rfl, rfl⟩)
          | (go_at_call 76; (with_reducible refine (in_eq vb _ _ _ true P2.out).mono ?_); rintro e w3 ⟨rfl, rfl⟩))
        go_ret
        exact ⟨by rw [HR1.out]; rfl, HF0.out.trans ((HW.out.trans (Fr.alloc _ _ _) (fun _ _ h => h)).trans HF2.out (fun _ _ h => h)) (fun _ _ h => h)⟩
      | true =>
      have HQ := Lib.hid hq
      cases p1 : inNum va with
      | false =>
        have P1 := Lib.hid (show (decide (-1099511627776 ≤ va) && decide (va ≤ 1099511627776)) = false from p1)
        have HR1 := Lib.hid (show res = 1 by rw [← HRES.out, any_rbad HY.out (by unfold rbadF; rw [HNA.out]; simp [hq, p1])]; rfl)
        clear hq p1
        go_wp2_with (first
          | (go_at_call 74; (with_reducible refine (rargs_eq nm na HNA.out _).mono ?_); rintro e w2 ⟨rfl, hf⟩; have HF2 := Lib.hid hf; have q0 := hf.cell Z0.out id; have q1 := hf.cell Z1.out id; have q2 := hf.cell Z2.out id; have hz := Nat.lt_of_lt_of_le Z3.out hf.size; clear hf)
          | (go_at_call 75; (with_reducible refine (rhas_row g0 0 names.length _ names rfl nm true HQ.out _ HNN.out ((HST.out.fr HW.out).fr ((Fr.alloc (fun _ => False) wr (.cells #[.string nm, .int .i64 va, .int .i64 vb] 40)).trans HF2.out (fun _ _ h => h)))).mono ?_); rintro e w3 ⟨rfl, rfl⟩)
          | (go_at_call 76; (with_reducible refine (in_eq va _ _ _ false P1.out).mono ?_); rintro e w3 ⟨rfl, rfl⟩)
          | (go_at_call 76; (with_reducible refine (in_eq vb _ _ _ true P2.out).mono ?_); rintro e w3 ⟨rfl, rfl⟩))
        go_ret
        exact ⟨by rw [HR1.out]; rfl, HF0.out.trans ((HW.out.trans (Fr.alloc _ _ _) (fun _ _ h => h)).trans HF2.out (fun _ _ h => h)) (fun _ _ h => h)⟩
      | true =>
      have P1 := Lib.hid (show (decide (-1099511627776 ≤ va) && decide (va ≤ 1099511627776)) = true from p1)
      cases p2 : inNum vb with
      | false =>
        have P2 := Lib.hid (show (decide (-1099511627776 ≤ vb) && decide (vb ≤ 1099511627776)) = false from p2)
        have HR1 := Lib.hid (show res = 1 by rw [← HRES.out, any_rbad HY.out (by unfold rbadF; rw [HNA.out]; simp [hq, p1, p2])]; rfl)
        clear hq p1 p2
        go_wp2_with (first
          | (go_at_call 74; (with_reducible refine (rargs_eq nm na HNA.out _).mono ?_); rintro e w2 ⟨rfl, hf⟩; have HF2 := Lib.hid hf; have q0 := hf.cell Z0.out id; have q1 := hf.cell Z1.out id; have q2 := hf.cell Z2.out id; have hz := Nat.lt_of_lt_of_le Z3.out hf.size; clear hf)
          | (go_at_call 75; (with_reducible refine (rhas_row g0 0 names.length _ names rfl nm true HQ.out _ HNN.out ((HST.out.fr HW.out).fr ((Fr.alloc (fun _ => False) wr (.cells #[.string nm, .int .i64 va, .int .i64 vb] 40)).trans HF2.out (fun _ _ h => h)))).mono ?_); rintro e w3 ⟨rfl, rfl⟩)
          | (go_at_call 76; (with_reducible refine (in_eq va _ _ _ true P1.out).mono ?_); rintro e w3 ⟨rfl, rfl⟩)
          | (go_at_call 76; (with_reducible refine (in_eq vb _ _ _ false P2.out).mono ?_); rintro e w3 ⟨rfl, rfl⟩))
        go_ret
        exact ⟨by rw [HR1.out]; rfl, HF0.out.trans ((HW.out.trans (Fr.alloc _ _ _) (fun _ _ h => h)).trans HF2.out (fun _ _ h => h)) (fun _ _ h => h)⟩
      | true =>
      have P2 := Lib.hid (show (decide (-1099511627776 ≤ vb) && decide (vb ≤ 1099511627776)) = true from p2)
      by_cases d2 : na < 2
      · have d2' : decide (na < 2) = true := by simpa using d2
        cases z2 : vb != 0 with
        | true =>
          have HR1 := Lib.hid (show res = 1 by rw [← HRES.out, any_rbad HY.out (by unfold rbadF; rw [HNA.out]; simp [hq, p1, p2, d2', z2])]; rfl)
          clear hq p1 p2 d2
          go_wp2_with (first
            | (go_at_call 74; (with_reducible refine (rargs_eq nm na HNA.out _).mono ?_); rintro e w2 ⟨rfl, hf⟩; have HF2 := Lib.hid hf; have q0 := hf.cell Z0.out id; have q1 := hf.cell Z1.out id; have q2 := hf.cell Z2.out id; have hz := Nat.lt_of_lt_of_le Z3.out hf.size; clear hf)
            | (go_at_call 75; (with_reducible refine (rhas_row g0 0 names.length _ names rfl nm true HQ.out _ HNN.out ((HST.out.fr HW.out).fr ((Fr.alloc (fun _ => False) wr (.cells #[.string nm, .int .i64 va, .int .i64 vb] 40)).trans HF2.out (fun _ _ h => h)))).mono ?_); rintro e w3 ⟨rfl, rfl⟩)
            | (go_at_call 76; (with_reducible refine (in_eq va _ _ _ true P1.out).mono ?_); rintro e w3 ⟨rfl, rfl⟩)
            | (go_at_call 76; (with_reducible refine (in_eq vb _ _ _ true P2.out).mono ?_); rintro e w3 ⟨rfl, rfl⟩))
          go_ret
          exact ⟨by rw [HR1.out]; rfl, HF0.out.trans ((HW.out.trans (Fr.alloc _ _ _) (fun _ _ h => h)).trans HF2.out (fun _ _ h => h)) (fun _ _ h => h)⟩
        | false =>
        by_cases d1 : na < 1
        · have d1' : decide (na < 1) = true := by simpa using d1
          cases z1 : va != 0 with
          | true =>
            have HR1 := Lib.hid (show res = 1 by rw [← HRES.out, any_rbad HY.out (by unfold rbadF; rw [HNA.out]; simp [hq, p1, p2, d2', z2, d1', z1])]; rfl)
            clear hq p1 p2 d1 d2
            go_wp2_with (first
              | (go_at_call 74; (with_reducible refine (rargs_eq nm na HNA.out _).mono ?_); rintro e w2 ⟨rfl, hf⟩; have HF2 := Lib.hid hf; have q0 := hf.cell Z0.out id; have q1 := hf.cell Z1.out id; have q2 := hf.cell Z2.out id; have hz := Nat.lt_of_lt_of_le Z3.out hf.size; clear hf)
              | (go_at_call 75; (with_reducible refine (rhas_row g0 0 names.length _ names rfl nm true HQ.out _ HNN.out ((HST.out.fr HW.out).fr ((Fr.alloc (fun _ => False) wr (.cells #[.string nm, .int .i64 va, .int .i64 vb] 40)).trans HF2.out (fun _ _ h => h)))).mono ?_); rintro e w3 ⟨rfl, rfl⟩)
              | (go_at_call 76; (with_reducible refine (in_eq va _ _ _ true P1.out).mono ?_); rintro e w3 ⟨rfl, rfl⟩)
              | (go_at_call 76; (with_reducible refine (in_eq vb _ _ _ true P2.out).mono ?_); rintro e w3 ⟨rfl, rfl⟩))
            go_ret
            exact ⟨by rw [HR1.out]; rfl, HF0.out.trans ((HW.out.trans (Fr.alloc _ _ _) (fun _ _ h => h)).trans HF2.out (fun _ _ h => h)) (fun _ _ h => h)⟩
          | false =>
            have HG := Lib.hid (show rbadF names (nm, va, vb) = false by unfold rbadF; rw [HNA.out]; simp [hq, p1, p2, d2', z2, d1', z1])
            clear hq p1 p2 d1 d2
            go_wp2_with (first
              | (go_at_call 74; (with_reducible refine (rargs_eq nm na HNA.out _).mono ?_); rintro e w2 ⟨rfl, hf⟩; have HF2 := Lib.hid hf; have q0 := hf.cell Z0.out id; have q1 := hf.cell Z1.out id; have q2 := hf.cell Z2.out id; have hz := Nat.lt_of_lt_of_le Z3.out hf.size; clear hf)
              | (go_at_call 75; (with_reducible refine (rhas_row g0 0 names.length _ names rfl nm true HQ.out _ HNN.out ((HST.out.fr HW.out).fr ((Fr.alloc (fun _ => False) wr (.cells #[.string nm, .int .i64 va, .int .i64 vb] 40)).trans HF2.out (fun _ _ h => h)))).mono ?_); rintro e w3 ⟨rfl, rfl⟩)
              | (go_at_call 76; (with_reducible refine (in_eq va _ _ _ true P1.out).mono ?_); rintro e w3 ⟨rfl, rfl⟩)
              | (go_at_call 76; (with_reducible refine (in_eq vb _ _ _ true P2.out).mono ?_); rintro e w3 ⟨rfl, rfl⟩))
            go_roundw
            case rel => exact ⟨m + 1, by go_num, by omega, fun j z hj hz' => by
              rcases Nat.lt_or_ge j m with h | h
              · exact HB.out j z h hz'
              · obtain rfl : j = m := by omega
                rw [HY.out] at hz'; cases hz'; exact HG.out, (HW.out.trans (Fr.alloc _ _ _) (fun _ _ h => h)).trans HF2.out (fun _ _ h => h)⟩
            case measure => simp [intOf]; omega
        · have d1' : decide (na < 1) = false := by simpa using d1
          have HG := Lib.hid (show rbadF names (nm, va, vb) = false by unfold rbadF; rw [HNA.out]; simp [hq, p1, p2, d2', z2, d1'])
          clear hq p1 p2 d1 d2
          go_wp2_with (first
            | (go_at_call 74; (with_reducible refine (rargs_eq nm na HNA.out _).mono ?_); rintro e w2 ⟨rfl, hf⟩; have HF2 := Lib.hid hf; have q0 := hf.cell Z0.out id; have q1 := hf.cell Z1.out id; have q2 := hf.cell Z2.out id; have hz := Nat.lt_of_lt_of_le Z3.out hf.size; clear hf)
            | (go_at_call 75; (with_reducible refine (rhas_row g0 0 names.length _ names rfl nm true HQ.out _ HNN.out ((HST.out.fr HW.out).fr ((Fr.alloc (fun _ => False) wr (.cells #[.string nm, .int .i64 va, .int .i64 vb] 40)).trans HF2.out (fun _ _ h => h)))).mono ?_); rintro e w3 ⟨rfl, rfl⟩)
            | (go_at_call 76; (with_reducible refine (in_eq va _ _ _ true P1.out).mono ?_); rintro e w3 ⟨rfl, rfl⟩)
            | (go_at_call 76; (with_reducible refine (in_eq vb _ _ _ true P2.out).mono ?_); rintro e w3 ⟨rfl, rfl⟩))
          go_roundw
          case rel => exact ⟨m + 1, by go_num, by omega, fun j z hj hz' => by
            rcases Nat.lt_or_ge j m with h | h
            · exact HB.out j z h hz'
            · obtain rfl : j = m := by omega
              rw [HY.out] at hz'; cases hz'; exact HG.out, (HW.out.trans (Fr.alloc _ _ _) (fun _ _ h => h)).trans HF2.out (fun _ _ h => h)⟩
          case measure => simp [intOf]; omega
      · have d2' : decide (na < 2) = false := by simpa using d2
        have d1' : decide (na < 1) = false := by rw [decide_eq_false_iff_not]; omega
        have HG := Lib.hid (show rbadF names (nm, va, vb) = false by unfold rbadF; rw [HNA.out]; simp [hq, p1, p2, d2', d1'])
        clear hq p1 p2 d2
        go_wp2_with (first
          | (go_at_call 74; (with_reducible refine (rargs_eq nm na HNA.out _).mono ?_); rintro e w2 ⟨rfl, hf⟩; have HF2 := Lib.hid hf; have q0 := hf.cell Z0.out id; have q1 := hf.cell Z1.out id; have q2 := hf.cell Z2.out id; have hz := Nat.lt_of_lt_of_le Z3.out hf.size; clear hf)
          | (go_at_call 75; (with_reducible refine (rhas_row g0 0 names.length _ names rfl nm true HQ.out _ HNN.out ((HST.out.fr HW.out).fr ((Fr.alloc (fun _ => False) wr (.cells #[.string nm, .int .i64 va, .int .i64 vb] 40)).trans HF2.out (fun _ _ h => h)))).mono ?_); rintro e w3 ⟨rfl, rfl⟩)
          | (go_at_call 76; (with_reducible refine (in_eq va _ _ _ true P1.out).mono ?_); rintro e w3 ⟨rfl, rfl⟩)
          | (go_at_call 76; (with_reducible refine (in_eq vb _ _ _ true P2.out).mono ?_); rintro e w3 ⟨rfl, rfl⟩))
        go_roundw
        case rel => exact ⟨m + 1, by go_num, by omega, fun j z hj hz' => by
          rcases Nat.lt_or_ge j m with h | h
          · exact HB.out j z h hz'
          · obtain rfl : j = m := by omega
            rw [HY.out] at hz'; cases hz'; exact HG.out, (HW.out.trans (Fr.alloc _ _ _) (fun _ _ h => h)).trans HF2.out (fun _ _ h => h)⟩
        case measure => simp [intOf]; omega
    · obtain rfl : m = l.length := by omega
      have HZ := Lib.hid (show res = 0 by rw [← HRES.out, any_rgood HB.out]; rfl)
      go_wp2
      go_ret
      exact ⟨by rw [HZ.out]; rfl, HF0.out.trans HW.out (fun _ _ h => h)⟩
end Go.Proofs.YtpnbhoeghncnnaaGreatDoor
namespace Go.Proofs.YtpnbhoeghncnnaaGreatDoor
theorem MS.putE {w : World} {D : Option Nat} {es es' : Array MapEntry} {c c' : Nat} {W U : World} (h : MS w D es c W) (hZ : putMap W (w.heap.size + 1 + 1 + 1) es' c' = U) : MS w D es' c' U := hZ ▸ h.put es' c'
theorem box_putE {W U : World} {bx r c0 c : Nat} {es0 es : Array MapEntry} {cs : Array Value} {t : TypeId} {fr : Nat × Nat} (hZ : putMap W r es c = U) (hb : W.heap[bx]? = some (.cells cs t fr)) (hm : W.heap[r]? = some (.map es0 c0)) : U.heap[bx]? = some (.cells cs t fr) := hZ ▸ box_put hb hm es c
end Go.Proofs.YtpnbhoeghncnnaaGreatDoor
namespace Go.Proofs.YtpnbhoeghncnnaaGreatDoor
open Go.RowKit
set_option linter.unusedSimpArgs false
set_option maxRecDepth 20000 in
set_option maxHeartbeats 8000000 in
theorem modelOf_set (w : World) :
    Calls Tryz.prog 15 #[.string ⟨#[83, 69, 84]⟩] w fun e w' => e = .returned (.pointer (some ⟨w.heap.size + 1, 0, none⟩)) ∧ ∃ bx1 bx2 : Nat, MS w (some (w.heap.size + 1 + 1 + 1)) (#[{ key := .string ⟨#[99, 111, 117, 110, 116]⟩, val := .func (.func 33) #[.pointer (some ⟨w.heap.size + 1, 0, none⟩)] #[], born := 0 }, { key := .string ⟨#[104, 97, 115]⟩, val := .func (.func 34) #[.pointer (some ⟨w.heap.size + 1, 0, none⟩)] #[], born := 1 }, { key := .string ⟨#[115, 105, 122, 101]⟩, val := .func (.func 33) #[.pointer (some ⟨w.heap.size + 1, 0, none⟩)] #[], born := 2 }, { key := .string ⟨#[115, 117, 109]⟩, val := .func (.func 35) #[.pointer (some ⟨w.heap.size + 1, 0, none⟩)] #[], born := 3 }, { key := .string ⟨#[97, 100, 100]⟩, val := .func (.func 97) #[] #[.pointer (some ⟨bx1, 0, none⟩)], born := 4 }, { key := .string ⟨#[100, 114, 111, 112]⟩, val := .func (.func 97) #[] #[.pointer (some ⟨bx2, 0, none⟩)], born := 5 }]) 6 w' ∧ w'.heap[bx1]? = some (.cells #[.func (.func 54) #[.pointer (some ⟨w.heap.size + 1, 0, none⟩)] #[]] 78 (0, 0)) ∧ w'.heap[bx2]? = some (.cells #[.func (.func 41) #[.pointer (some ⟨w.heap.size + 1, 0, none⟩)] #[]] 78 (0, 0)) := by
  obtain ⟨W1, W2, W3, W4, e1, e2, e3, e4, M1, M2, M3, M4⟩ := pre w
  have b0 := (ms00 w).c2
  have b1 := M1.c2
  have b2 := M2.c2
  have b3 := M3.c2
  have b4 := M4.c2
  have d4 := M4.c4
  have z4 := M4.z4
  have MU0 := Lib.hid (M4.set4 (some (w.heap.size + 1 + 1 + 1)))
  have mm := MU0.out.c2
  clear M1 M2 M3 M4
  have hmf : ∀ (fn : Fn) (first cap : Array Value) (w : World), (Instr.makeFunc fn first cap).run Tryz.prog w = .ok (.func fn first cap) w := fun _ _ _ _ => rfl
  have hmm := @run_makeMap Tryz.prog
  go_enter Tryz.func15, Tryz.ntmps15
  go_wp2
  generalize W4.setCell ⟨w.heap.size + 1, 4, none⟩ (.map (some (w.heap.size + 1 + 1 + 1))) = U0 at MU0 mm ⊢
  clear e1 e2 e3 e4 b0 b1 b2 b3 b4 d4 z4 hmm W1 W2 W3 W4
  refine wp_region_held_drew (S := fun w' => w'.cell? ⟨w.heap.size + 1 + 1, 0, none⟩ = some (.pointer (some ⟨w.heap.size + 1, 0, none⟩)) ∧ w'.cell? ⟨w.heap.size + 1, 4, none⟩ = some (.map (some (w.heap.size + 1 + 1 + 1)))) (by kernel_rfl) ⟨MU0.out.c2, MU0.out.c4⟩ (fun hHeld => ?_)
  have MU1 := Lib.hid (MU0.out.fr_of (Fr.drew _ _))
  generalize World.drew U0 = U1 at hHeld MU1 ⊢
  refine' wpAnyH_take (i := 0) (oi := _) (v := _) ?hi1 (by kernel_rfl) (by kernel_rfl) (by kernel_rfl) ?hq1 (Or.inl ⟨?hw1, ?hy1⟩) (by assumption) ?rest1
  case hi1 => rfl
  case hq1 => exact fun _ _ _ h => h
  case hw1 => rfl
  case hy1 => intro w hSw; (try dsimp only at hSw); go_simp; (try with_reducible rfl)
  try simp only [Act.put, List.setIfInBounds_toArray, List.set_cons_zero, List.set_cons_succ]
  refine' wpAnyH_take (i := 1) (oi := _) (v := _) ?hi2 (by kernel_rfl) (by kernel_rfl) (by kernel_rfl) ?hq2 (Or.inl ⟨?hw2, ?hy2⟩) (by assumption) ?rest2
  case hi2 => rfl
  case hq2 => exact fun _ _ _ h => h
  case hw2 => rfl
  case hy2 => intro w hSw; (try dsimp only at hSw); go_simp; (try with_reducible rfl)
  try simp only [Act.put, List.setIfInBounds_toArray, List.set_cons_zero, List.set_cons_succ]
  refine' wpAnyH_take (i := 2) (oi := _) (v := _) ?hi3 (by kernel_rfl) (by kernel_rfl) (by kernel_rfl) ?hq3 (Or.inl ⟨?hw3, ?hy3⟩) (by assumption) ?rest3
  case hi3 => rfl
  case hq3 => exact fun _ _ _ h => h
  case hw3 => rfl
  case hy3 => intro w hSw; (try dsimp only at hSw); go_simp; (try with_reducible rfl)
  try simp only [Act.put, List.setIfInBounds_toArray, List.set_cons_zero, List.set_cons_succ]
  refine' wpAnyH_take (i := 3) (oi := _) (v := _) ?hi4 (by kernel_rfl) (by kernel_rfl) (by kernel_rfl) ?hq4 (Or.inl ⟨?hw4, ?hy4⟩) (by assumption) ?rest4
  case hi4 => rfl
  case hq4 => exact fun _ _ _ h => h
  case hw4 => rfl
  case hy4 => intro w hSw; (try dsimp only at hSw); go_simp; (try with_reducible rfl)
  try simp only [Act.put, List.setIfInBounds_toArray, List.set_cons_zero, List.set_cons_succ]
  refine' wpAnyH_take (i := 4) (oi := _) (v := _) ?hi5 (by kernel_rfl) (by kernel_rfl) (by kernel_rfl) ?hq5 (Or.inl ⟨?hw5, ?hy5⟩) (by assumption) ?rest5
  case hi5 => rfl
  case hq5 => exact fun _ _ _ h => h
  case hw5 => rfl
  case hy5 => intro w hSw; (try dsimp only at hSw); go_simp; (try with_reducible rfl)
  try simp only [Act.put, List.setIfInBounds_toArray, List.set_cons_zero, List.set_cons_succ]
  refine' wpAnyH_take (i := 5) (oi := _) (v := _) ?hi6 (by kernel_rfl) (by kernel_rfl) (by kernel_rfl) ?hq6 (Or.inl ⟨?hw6, ?hy6⟩) (by assumption) ?rest6
  case hi6 => rfl
  case hq6 => exact fun _ _ _ h => h
  case hw6 => rfl
  case hy6 => intro w hSw; (try dsimp only at hSw); go_simp; (try with_reducible rfl)
  try simp only [Act.put, List.setIfInBounds_toArray, List.set_cons_zero, List.set_cons_succ]
  refine' wpAnyH_take (i := 6) (oi := _) (v := _) ?hi7 (by kernel_rfl) (by kernel_rfl) (by kernel_rfl) ?hq7 (Or.inl ⟨?hw7, ?hy7⟩) (by assumption) ?rest7
  case hi7 => rfl
  case hq7 => exact fun _ _ _ h => h
  case hw7 => rfl
  case hy7 => intro w hSw; (try dsimp only at hSw); go_simp; (try with_reducible rfl)
  try simp only [Act.put, List.setIfInBounds_toArray, List.set_cons_zero, List.set_cons_succ]
  refine' wpAnyH_take (i := 7) (oi := _) (v := _) ?hi8 (by kernel_rfl) (by kernel_rfl) (by kernel_rfl) ?hq8 (Or.inl ⟨?hw8, ?hy8⟩) (by assumption) ?rest8
  case hi8 => rfl
  case hq8 => exact fun _ _ _ h => h
  case hw8 => rfl
  case hy8 => intro w hSw; (try dsimp only at hSw); go_simp; (try with_reducible rfl)
  try simp only [Act.put, List.setIfInBounds_toArray, List.set_cons_zero, List.set_cons_succ]
  refine' wpAnyH_take (i := 8) (oi := _) (v := _) ?hi9 (by kernel_rfl) (by kernel_rfl) (by kernel_rfl) ?hq9 (Or.inl ⟨?hw9, ?hy9⟩) (by assumption) ?rest9
  case hi9 => rfl
  case hq9 => exact fun _ _ _ h => h
  case hw9 => rfl
  case hy9 => intro w hSw; (try dsimp only at hSw); go_simp; (try with_reducible rfl)
  try simp only [Act.put, List.setIfInBounds_toArray, List.set_cons_zero, List.set_cons_succ]
  refine' wpAnyH_take (i := 9) (oi := _) (v := _) ?hi10 (by kernel_rfl) (by kernel_rfl) (by kernel_rfl) ?hq10 (Or.inl ⟨?hw10, ?hy10⟩) (by assumption) ?rest10
  case hi10 => rfl
  case hq10 => exact fun _ _ _ h => h
  case hw10 => rfl
  case hy10 => intro w hSw; (try dsimp only at hSw); go_simp; (try with_reducible rfl)
  try simp only [Act.put, List.setIfInBounds_toArray, List.set_cons_zero, List.set_cons_succ]
  refine' wpAnyH_take (i := 11) (oi := _) (v := _) ?hi11 (by kernel_rfl) (by kernel_rfl) (by kernel_rfl) ?hq11 (Or.inl ⟨?hw11, ?hy11⟩) (by assumption) ?rest11
  case hi11 => rfl
  case hq11 => exact fun _ _ _ h => h
  case hw11 => rfl
  case hy11 => intro w hSw; (try dsimp only at hSw); go_simp; (try with_reducible rfl)
  try simp only [Act.put, List.setIfInBounds_toArray, List.set_cons_zero, List.set_cons_succ]
  refine' wpAnyH_take (i := 12) (oi := _) (v := _) ?hi12 (by kernel_rfl) (by kernel_rfl) (by kernel_rfl) ?hq12 (Or.inl ⟨?hw12, ?hy12⟩) (by assumption) ?rest12
  case hi12 => rfl
  case hq12 => exact fun _ _ _ h => h
  case hw12 => rfl
  case hy12 => intro w hSw; (try dsimp only at hSw); go_simp; (try with_reducible rfl)
  try simp only [Act.put, List.setIfInBounds_toArray, List.set_cons_zero, List.set_cons_succ]
  refine wpAnyH_ready (rs := [10]) (by kernel_rfl) (by simp) ?_
  refine AllReadyH.cons rfl (fun K hK => ?_) AllReadyH.nil
  go_simp
  go_at_call 36
  refine (quiet_any _ _ _ _).mono ?_
  rintro e w' ⟨rfl, rfl⟩
  have MU2 := Lib.hid (MU1.out.fr_of (Fr.alloc (fun _ => False) _ (.cells #[.func (.func 54) #[.pointer (some ⟨w.heap.size + 1, 0, none⟩)] #[]] 78)))
  have hb1_U2 := Lib.hid (heap_alloc_new U1 (.cells #[.func (.func 54) #[.pointer (some ⟨w.heap.size + 1, 0, none⟩)] #[]] 78))
  generalize U1.alloc (.cells #[.func (.func 54) #[.pointer (some ⟨w.heap.size + 1, 0, none⟩)] #[]] 78) = U2 at MU2 hb1_U2 ⊢
  generalize U1.heap.size = bx1 at hb1_U2 ⊢
  refine hK.out _ _ ⟨MU2.out.c2, MU2.out.c4⟩ (fun hHeld => ?_)
  clear hK K
  try simp only [Act.put, List.setIfInBounds_toArray, List.set_cons_zero, List.set_cons_succ]
  clear MU1
  refine wpAnyH_ready (rs := [13]) (by kernel_rfl) (by simp) ?_
  refine AllReadyH.cons rfl (fun K hK => ?_) AllReadyH.nil
  go_simp
  go_at_call 36
  refine (quiet_any _ _ _ _).mono ?_
  rintro e w' ⟨rfl, rfl⟩
  have MU3 := Lib.hid (MU2.out.fr_of (Fr.alloc (fun _ => False) _ (.cells #[.func (.func 41) #[.pointer (some ⟨w.heap.size + 1, 0, none⟩)] #[]] 78)))
  have hb2_U3 := Lib.hid (heap_alloc_new U2 (.cells #[.func (.func 41) #[.pointer (some ⟨w.heap.size + 1, 0, none⟩)] #[]] 78))
  have hb1_U3 := Lib.hid ((Fr.alloc (fun _ => False) U2 (.cells #[.func (.func 41) #[.pointer (some ⟨w.heap.size + 1, 0, none⟩)] #[]] 78)).heap hb1_U2.out id)
  generalize U2.alloc (.cells #[.func (.func 41) #[.pointer (some ⟨w.heap.size + 1, 0, none⟩)] #[]] 78) = U3 at MU3 hb2_U3 hb1_U3 ⊢
  generalize U2.heap.size = bx2 at hb2_U3 ⊢
  refine hK.out _ _ ⟨MU3.out.c2, MU3.out.c4⟩ (fun hHeld => ?_)
  clear hK K
  try simp only [Act.put, List.setIfInBounds_toArray, List.set_cons_zero, List.set_cons_succ]
  clear MU2 hb1_U2
  refine wpAnyH_ready (rs := [14]) (by kernel_rfl) (by simp) ?_
  have ee : (Instr.mapEntry 73 (.map (some (w.heap.size + 1 + 1 + 1))) (.string ⟨#[97, 100, 100]⟩)).run Tryz.prog U3 = .ok (.tuple #[.nilFunc, .int .i64 4]) (putMap U3 (w.heap.size + 1 + 1 + 1) (#[{ key := .string ⟨#[99, 111, 117, 110, 116]⟩, val := .func (.func 33) #[.pointer (some ⟨w.heap.size + 1, 0, none⟩)] #[], born := 0 }, { key := .string ⟨#[104, 97, 115]⟩, val := .func (.func 34) #[.pointer (some ⟨w.heap.size + 1, 0, none⟩)] #[], born := 1 }, { key := .string ⟨#[115, 105, 122, 101]⟩, val := .func (.func 33) #[.pointer (some ⟨w.heap.size + 1, 0, none⟩)] #[], born := 2 }, { key := .string ⟨#[115, 117, 109]⟩, val := .func (.func 35) #[.pointer (some ⟨w.heap.size + 1, 0, none⟩)] #[], born := 3 }, { key := .string ⟨#[97, 100, 100]⟩, val := .nilFunc, born := 4 }]) 5) := me_new _ _ _ _ _ MU3.out.hm3 (by kernel_rfl)
  refine AllReadyH.cons rfl (fun K hK => ?_) AllReadyH.nil
  go_simp
  clear ee
  generalize hZ : putMap U3 (w.heap.size + 1 + 1 + 1) (#[{ key := .string ⟨#[99, 111, 117, 110, 116]⟩, val := .func (.func 33) #[.pointer (some ⟨w.heap.size + 1, 0, none⟩)] #[], born := 0 }, { key := .string ⟨#[104, 97, 115]⟩, val := .func (.func 34) #[.pointer (some ⟨w.heap.size + 1, 0, none⟩)] #[], born := 1 }, { key := .string ⟨#[115, 105, 122, 101]⟩, val := .func (.func 33) #[.pointer (some ⟨w.heap.size + 1, 0, none⟩)] #[], born := 2 }, { key := .string ⟨#[115, 117, 109]⟩, val := .func (.func 35) #[.pointer (some ⟨w.heap.size + 1, 0, none⟩)] #[], born := 3 }, { key := .string ⟨#[97, 100, 100]⟩, val := .nilFunc, born := 4 }]) 5 = U4 at ⊢
  have MU4 := Lib.hid (MU3.out.putE hZ)
  have hb1_U4 := Lib.hid (box_putE hZ hb1_U3.out MU3.out.hm3)
  have hb2_U4 := Lib.hid (box_putE hZ hb2_U3.out MU3.out.hm3)
  clear hZ
  refine hK.out _ _ ⟨MU4.out.c2, MU4.out.c4⟩ (fun hHeld => ?_)
  clear hK K
  try simp only [Act.put, List.setIfInBounds_toArray, List.set_cons_zero, List.set_cons_succ]
  clear MU3 hb1_U3 hb2_U3
  refine' wpAnyH_take (i := 15) (oi := _) (v := _) ?hi13 (by kernel_rfl) (by kernel_rfl) (by kernel_rfl) ?hq13 (Or.inl ⟨?hw13, ?hy13⟩) (by assumption) ?rest13
  case hi13 => rfl
  case hq13 => exact fun _ _ _ h => h
  case hw13 => rfl
  case hy13 => intro w hSw; (try dsimp only at hSw); go_simp; (try with_reducible rfl)
  try simp only [Act.put, List.setIfInBounds_toArray, List.set_cons_zero, List.set_cons_succ]
  refine wpAnyH_ready (rs := [16]) (by kernel_rfl) (by simp) ?_
  have ee : (Instr.entryStore 73 (.map (some (w.heap.size + 1 + 1 + 1))) (.int .i64 4) (.func (.func 97) #[] #[.pointer (some ⟨bx1, 0, none⟩)])).run Tryz.prog U4 = .ok () (putMap U4 (w.heap.size + 1 + 1 + 1) (#[{ key := .string ⟨#[99, 111, 117, 110, 116]⟩, val := .func (.func 33) #[.pointer (some ⟨w.heap.size + 1, 0, none⟩)] #[], born := 0 }, { key := .string ⟨#[104, 97, 115]⟩, val := .func (.func 34) #[.pointer (some ⟨w.heap.size + 1, 0, none⟩)] #[], born := 1 }, { key := .string ⟨#[115, 105, 122, 101]⟩, val := .func (.func 33) #[.pointer (some ⟨w.heap.size + 1, 0, none⟩)] #[], born := 2 }, { key := .string ⟨#[115, 117, 109]⟩, val := .func (.func 35) #[.pointer (some ⟨w.heap.size + 1, 0, none⟩)] #[], born := 3 }, { key := .string ⟨#[97, 100, 100]⟩, val := .func (.func 97) #[] #[.pointer (some ⟨bx1, 0, none⟩)], born := 4 }]) 5) := st_at _ _ _ 4 _ 4 _ MU4.out.hm3 (by kernel_rfl)
  refine AllReadyH.cons rfl (fun K hK => ?_) AllReadyH.nil
  go_simp
  clear ee
  generalize hZ : putMap U4 (w.heap.size + 1 + 1 + 1) (#[{ key := .string ⟨#[99, 111, 117, 110, 116]⟩, val := .func (.func 33) #[.pointer (some ⟨w.heap.size + 1, 0, none⟩)] #[], born := 0 }, { key := .string ⟨#[104, 97, 115]⟩, val := .func (.func 34) #[.pointer (some ⟨w.heap.size + 1, 0, none⟩)] #[], born := 1 }, { key := .string ⟨#[115, 105, 122, 101]⟩, val := .func (.func 33) #[.pointer (some ⟨w.heap.size + 1, 0, none⟩)] #[], born := 2 }, { key := .string ⟨#[115, 117, 109]⟩, val := .func (.func 35) #[.pointer (some ⟨w.heap.size + 1, 0, none⟩)] #[], born := 3 }, { key := .string ⟨#[97, 100, 100]⟩, val := .func (.func 97) #[] #[.pointer (some ⟨bx1, 0, none⟩)], born := 4 }]) 5 = U5 at ⊢
  have MU5 := Lib.hid (MU4.out.putE hZ)
  have hb1_U5 := Lib.hid (box_putE hZ hb1_U4.out MU4.out.hm3)
  have hb2_U5 := Lib.hid (box_putE hZ hb2_U4.out MU4.out.hm3)
  clear hZ
  refine hK.out _ _ ⟨MU5.out.c2, MU5.out.c4⟩ (fun hHeld => ?_)
  clear hK K
  try simp only [Act.put, List.setIfInBounds_toArray, List.set_cons_zero, List.set_cons_succ]
  clear MU4 hb1_U4 hb2_U4
  refine wpAnyH_ready (rs := [17]) (by kernel_rfl) (by simp) ?_
  have ee : (Instr.mapEntry 73 (.map (some (w.heap.size + 1 + 1 + 1))) (.string ⟨#[100, 114, 111, 112]⟩)).run Tryz.prog U5 = .ok (.tuple #[.nilFunc, .int .i64 5]) (putMap U5 (w.heap.size + 1 + 1 + 1) (#[{ key := .string ⟨#[99, 111, 117, 110, 116]⟩, val := .func (.func 33) #[.pointer (some ⟨w.heap.size + 1, 0, none⟩)] #[], born := 0 }, { key := .string ⟨#[104, 97, 115]⟩, val := .func (.func 34) #[.pointer (some ⟨w.heap.size + 1, 0, none⟩)] #[], born := 1 }, { key := .string ⟨#[115, 105, 122, 101]⟩, val := .func (.func 33) #[.pointer (some ⟨w.heap.size + 1, 0, none⟩)] #[], born := 2 }, { key := .string ⟨#[115, 117, 109]⟩, val := .func (.func 35) #[.pointer (some ⟨w.heap.size + 1, 0, none⟩)] #[], born := 3 }, { key := .string ⟨#[97, 100, 100]⟩, val := .func (.func 97) #[] #[.pointer (some ⟨bx1, 0, none⟩)], born := 4 }, { key := .string ⟨#[100, 114, 111, 112]⟩, val := .nilFunc, born := 5 }]) 6) := me_new _ _ _ _ _ MU5.out.hm3 (by kernel_rfl)
  refine AllReadyH.cons rfl (fun K hK => ?_) AllReadyH.nil
  go_simp
  clear ee
  generalize hZ : putMap U5 (w.heap.size + 1 + 1 + 1) (#[{ key := .string ⟨#[99, 111, 117, 110, 116]⟩, val := .func (.func 33) #[.pointer (some ⟨w.heap.size + 1, 0, none⟩)] #[], born := 0 }, { key := .string ⟨#[104, 97, 115]⟩, val := .func (.func 34) #[.pointer (some ⟨w.heap.size + 1, 0, none⟩)] #[], born := 1 }, { key := .string ⟨#[115, 105, 122, 101]⟩, val := .func (.func 33) #[.pointer (some ⟨w.heap.size + 1, 0, none⟩)] #[], born := 2 }, { key := .string ⟨#[115, 117, 109]⟩, val := .func (.func 35) #[.pointer (some ⟨w.heap.size + 1, 0, none⟩)] #[], born := 3 }, { key := .string ⟨#[97, 100, 100]⟩, val := .func (.func 97) #[] #[.pointer (some ⟨bx1, 0, none⟩)], born := 4 }, { key := .string ⟨#[100, 114, 111, 112]⟩, val := .nilFunc, born := 5 }]) 6 = U6 at ⊢
  have MU6 := Lib.hid (MU5.out.putE hZ)
  have hb1_U6 := Lib.hid (box_putE hZ hb1_U5.out MU5.out.hm3)
  have hb2_U6 := Lib.hid (box_putE hZ hb2_U5.out MU5.out.hm3)
  clear hZ
  refine hK.out _ _ ⟨MU6.out.c2, MU6.out.c4⟩ (fun hHeld => ?_)
  clear hK K
  try simp only [Act.put, List.setIfInBounds_toArray, List.set_cons_zero, List.set_cons_succ]
  clear MU5 hb1_U5 hb2_U5
  refine' wpAnyH_take (i := 18) (oi := _) (v := _) ?hi14 (by kernel_rfl) (by kernel_rfl) (by kernel_rfl) ?hq14 (Or.inl ⟨?hw14, ?hy14⟩) (by assumption) ?rest14
  case hi14 => rfl
  case hq14 => exact fun _ _ _ h => h
  case hw14 => rfl
  case hy14 => intro w hSw; (try dsimp only at hSw); go_simp; (try with_reducible rfl)
  try simp only [Act.put, List.setIfInBounds_toArray, List.set_cons_zero, List.set_cons_succ]
  refine wpAnyH_ready (rs := [19]) (by kernel_rfl) (by simp) ?_
  have ee : (Instr.entryStore 73 (.map (some (w.heap.size + 1 + 1 + 1))) (.int .i64 5) (.func (.func 97) #[] #[.pointer (some ⟨bx2, 0, none⟩)])).run Tryz.prog U6 = .ok () (putMap U6 (w.heap.size + 1 + 1 + 1) (#[{ key := .string ⟨#[99, 111, 117, 110, 116]⟩, val := .func (.func 33) #[.pointer (some ⟨w.heap.size + 1, 0, none⟩)] #[], born := 0 }, { key := .string ⟨#[104, 97, 115]⟩, val := .func (.func 34) #[.pointer (some ⟨w.heap.size + 1, 0, none⟩)] #[], born := 1 }, { key := .string ⟨#[115, 105, 122, 101]⟩, val := .func (.func 33) #[.pointer (some ⟨w.heap.size + 1, 0, none⟩)] #[], born := 2 }, { key := .string ⟨#[115, 117, 109]⟩, val := .func (.func 35) #[.pointer (some ⟨w.heap.size + 1, 0, none⟩)] #[], born := 3 }, { key := .string ⟨#[97, 100, 100]⟩, val := .func (.func 97) #[] #[.pointer (some ⟨bx1, 0, none⟩)], born := 4 }, { key := .string ⟨#[100, 114, 111, 112]⟩, val := .func (.func 97) #[] #[.pointer (some ⟨bx2, 0, none⟩)], born := 5 }]) 6) := st_at _ _ _ 5 _ 5 _ MU6.out.hm3 (by kernel_rfl)
  refine AllReadyH.cons rfl (fun K hK => ?_) AllReadyH.nil
  go_simp
  clear ee
  generalize hZ : putMap U6 (w.heap.size + 1 + 1 + 1) (#[{ key := .string ⟨#[99, 111, 117, 110, 116]⟩, val := .func (.func 33) #[.pointer (some ⟨w.heap.size + 1, 0, none⟩)] #[], born := 0 }, { key := .string ⟨#[104, 97, 115]⟩, val := .func (.func 34) #[.pointer (some ⟨w.heap.size + 1, 0, none⟩)] #[], born := 1 }, { key := .string ⟨#[115, 105, 122, 101]⟩, val := .func (.func 33) #[.pointer (some ⟨w.heap.size + 1, 0, none⟩)] #[], born := 2 }, { key := .string ⟨#[115, 117, 109]⟩, val := .func (.func 35) #[.pointer (some ⟨w.heap.size + 1, 0, none⟩)] #[], born := 3 }, { key := .string ⟨#[97, 100, 100]⟩, val := .func (.func 97) #[] #[.pointer (some ⟨bx1, 0, none⟩)], born := 4 }, { key := .string ⟨#[100, 114, 111, 112]⟩, val := .func (.func 97) #[] #[.pointer (some ⟨bx2, 0, none⟩)], born := 5 }]) 6 = U7 at ⊢
  have MU7 := Lib.hid (MU6.out.putE hZ)
  have hb1_U7 := Lib.hid (box_putE hZ hb1_U6.out MU6.out.hm3)
  have hb2_U7 := Lib.hid (box_putE hZ hb2_U6.out MU6.out.hm3)
  clear hZ
  refine hK.out _ _ ⟨MU7.out.c2, MU7.out.c4⟩ (fun hHeld => ?_)
  clear hK K
  try simp only [Act.put, List.setIfInBounds_toArray, List.set_cons_zero, List.set_cons_succ]
  clear MU6 hb1_U6 hb2_U6
  refine wpAnyH_done (by kernel_rfl) ?_ _
  clear hHeld
  have mmU7 := MU7.out.c2
  go_wp2
  go_ret
  exact ⟨rfl, bx1, bx2, MU7.out, hb1_U7.out, hb2_U7.out⟩
end Go.Proofs.YtpnbhoeghncnnaaGreatDoor

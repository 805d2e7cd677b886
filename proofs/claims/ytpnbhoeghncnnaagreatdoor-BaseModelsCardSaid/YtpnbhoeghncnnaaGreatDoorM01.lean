/-
  A part of the proof of Rows.BaseModelsCardSaid (for every class and script BaseModels answers true, and its arguments read as they did; the listed library variables as the program text lays them): texts A, B. By an AI agent.
-/
import Derived.Test.YtpnbhoeghncnnaaGreatDoorProg
import Derived.WalkKit
import Derived.WalkSpells
import Derived.WalkLawsBesides
import Derived.Lib.Hide
namespace Go.Proofs.YtpnbhoeghncnnaaGreatDoor
open Go.RowKit
def inNum (n : Int) : Bool := decide (-1099511627776 ≤ n) && decide (n ≤ 1099511627776)
theorem inNum_true {n : Int} : inNum n = true ↔ (-1099511627776 ≤ n ∧ n ≤ 1099511627776) := by
  unfold inNum; simp
theorem inNum_false {n : Int} : inNum n = false ↔ (n < -1099511627776 ∨ 1099511627776 < n) := by
  unfold inNum; simp only [Bool.and_eq_false_iff, decide_eq_false_iff_not]; omega
def stopV (f e : Int) : Value := .iface 52 (.agg #[.int .i64 f, .int .i64 e])

set_option maxHeartbeats 400000 in
theorem within_any (n : Int) (w : World) :
    Calls Tryz.prog 32 #[.int .i64 n] w fun e w' => e = .returned (.bool (inNum n)) ∧ w = w' := by
  by_cases h0 : -1099511627776 ≤ n
  · go_enter Tryz.func32, Tryz.ntmps32
    go_wp2
    go_ret
    refine ⟨?_, rfl⟩
    simp [inNum, h0]
  · have h0' : n < -1099511627776 := by omega
    go_enter Tryz.func32, Tryz.ntmps32
    go_wp2
    go_ret
    refine ⟨?_, rfl⟩
    simp [inNum]; omega

theorem must_true (f : Int) (w : World) :
    Calls Tryz.prog 59 #[.bool true, .int .i64 f] w fun e w' => e = .returned (.tuple #[]) ∧ w = w' := by
  go_enter Tryz.func59, Tryz.ntmps59
  go_wp2
  go_end0
  exact ⟨rfl, rfl⟩
theorem must_false (f : Int) (w : World) :
    Calls Tryz.prog 59 #[.bool false, .int .i64 f] w fun e w' => e = .panicked [{ v := stopV f 0, recovered := false }] ∧ w = w' := by
  go_enter Tryz.func59, Tryz.ntmps59
  go_wp2
  exact ⟨rfl, rfl, rfl⟩

theorem safe_in (n : Int) (w : World) (h : inNum n = true) :
    Calls Tryz.prog 96 #[.int .i64 n] w fun e w' => e = .returned (.int .i64 n) ∧ w = w' := by
  go_enter Tryz.func96, Tryz.ntmps96
  go_wp2_with (first | (go_at_call 32; refine (within_any n _).mono ?_; rintro e w' ⟨rfl, rfl⟩; rw [h]) | (go_at_call 59; refine (must_true _ _).mono ?_; rintro e w' ⟨rfl, rfl⟩))
  go_ret
  exact ⟨rfl, rfl⟩
theorem safe_out (n : Int) (w : World) (h : inNum n = false) :
    Calls Tryz.prog 96 #[.int .i64 n] w fun e w' => e = .panicked [{ v := stopV 7 0, recovered := false }] ∧ w = w' := by
  go_enter Tryz.func96, Tryz.ntmps96
  go_wp2_with (first | (go_at_call 32; refine (within_any n _).mono ?_; rintro e w' ⟨rfl, rfl⟩; rw [h]) | (go_at_call 59; refine (must_false _ _).mono ?_; rintro e w' ⟨rfl, rfl⟩))
  exact ⟨rfl, rfl, rfl⟩
theorem truth_any (b : Bool) (w : World) :
    Calls Tryz.prog 94 #[.bool b] w fun e w' => e = .returned (.int .i64 (if b then 1 else 0)) ∧ w = w' := by
  cases b
  all_goals
    go_enter Tryz.func94, Tryz.ntmps94
    go_wp2
    go_ret
    exact ⟨rfl, rfl⟩
end Go.Proofs.YtpnbhoeghncnnaaGreatDoor
namespace Go.Proofs.YtpnbhoeghncnnaaGreatDoor
open Go.RowKit
theorem quoBool (x y : Int) (hy : 0 < y) : decide (x ≤ 1099511627776 / y) = decide (x * y ≤ 1099511627776) := by
  rw [Bool.eq_iff_iff]; simp only [decide_eq_true_eq]; exact Int.le_ediv_iff_mul_le hy
theorem absMul (a c : Int) (hc : 0 < c) (v : Bool) :
    (inNum (a * c) = v → 0 < a → decide (a ≤ 1099511627776 / c) = v) ∧ (inNum (a * c) = v → a < 0 → decide (-a ≤ 1099511627776 / c) = v) ∧
    (inNum (a * -c) = v → 0 < a → decide (a ≤ 1099511627776 / c) = v) ∧ (inNum (a * -c) = v → a < 0 → decide (-a ≤ 1099511627776 / c) = v) := by
  have e1 : -a * c = -(a * c) := by rw [Int.neg_mul]
  have e2 : a * -c = -(a * c) := by rw [Int.mul_neg]
  refine ⟨?_, ?_, ?_, ?_⟩ <;> intro h p <;> subst h <;> rw [quoBool _ _ hc] <;> rw [Bool.eq_iff_iff, inNum_true] <;> simp only [decide_eq_true_eq] <;> (try rw [e1]) <;> (try rw [e2])
  · have := Int.mul_pos p hc; omega
  · have := Int.mul_neg_of_neg_of_pos p hc; omega
  · have := Int.mul_pos p hc; omega
  · have := Int.mul_neg_of_neg_of_pos p hc; omega
set_option maxHeartbeats 400000 in
theorem product_in (a b : Int) (w : World) (ha : a ≠ 0) (hb : b ≠ 0) (h0 : -1099511627776 ≤ a) (h1 : a ≤ 1099511627776) (h2 : -1099511627776 ≤ b) (h3 : b ≤ 1099511627776) (hv : inNum (a * b) = true) :
    Calls Tryz.prog 104 #[.int .i64 a, .int .i64 b] w fun e w' => e = .returned (.int .i64 (a * b)) ∧ w = w' := by
  have e1 : (a == 0) = false := by simpa using ha
  have e3 : (a != 0) = true := by simpa using ha
  by_cases pb : 0 < b
  · have e2 : (b == 0) = false := by simpa using hb
    have e4 : (b != 0) = true := by simpa using hb
    have K := absMul a b pb true
    have KK := Lib.hid K
    have ho := Lib.hid hv
    clear K hv
    rcases Int.lt_or_gt_of_ne ha with pa | pa
    all_goals
      clear ha hb
      go_enter Tryz.func104, Tryz.ntmps104
      go_wp2_with fail
      first
      | rw [KK.out.1 ho.out (by omega)]
      | rw [KK.out.2.1 ho.out (by omega)]
      refine (must_true _ _).mono ?_
      rintro e w' ⟨rfl, rfl⟩
      have hx := inNum_true.1 ho.out
      clear KK ho
      go_wp2
      go_ret
      first | exact ⟨rfl, rfl⟩ | (refine ⟨?_, rfl⟩; simp)
  · obtain ⟨c, rfl⟩ : ∃ c, b = -c := ⟨-b, by omega⟩
    have pc : 0 < c := by omega
    have e2 : (-c == 0) = false := by simpa using hb
    have e4 : (-c != 0) = true := by simpa using hb
    have e5 : (c == 0) = false := by simp; omega
    have K := absMul a c pc true
    have KK := Lib.hid K
    have ho := Lib.hid hv
    clear K hv
    rcases Int.lt_or_gt_of_ne ha with pa | pa
    all_goals
      clear ha hb
      go_enter Tryz.func104, Tryz.ntmps104
      go_wp2_with fail
      first
      | rw [KK.out.2.2.1 ho.out (by omega)]
      | rw [KK.out.2.2.2 ho.out (by omega)]
      refine (must_true _ _).mono ?_
      rintro e w' ⟨rfl, rfl⟩
      have hx := inNum_true.1 ho.out
      clear KK ho
      go_wp2
      go_ret
      first | exact ⟨rfl, rfl⟩ | (refine ⟨?_, rfl⟩; simp)
set_option maxHeartbeats 400000 in
theorem product_out (a b : Int) (w : World) (ha : a ≠ 0) (hb : b ≠ 0) (h0 : -1099511627776 ≤ a) (h1 : a ≤ 1099511627776) (h2 : -1099511627776 ≤ b) (h3 : b ≤ 1099511627776) (hv : inNum (a * b) = false) :
    Calls Tryz.prog 104 #[.int .i64 a, .int .i64 b] w fun e w' => e = .panicked [{ v := stopV 7 0, recovered := false }] ∧ w = w' := by
  have e1 : (a == 0) = false := by simpa using ha
  have e3 : (a != 0) = true := by simpa using ha
  by_cases pb : 0 < b
  · have e2 : (b == 0) = false := by simpa using hb
    have e4 : (b != 0) = true := by simpa using hb
    have K := absMul a b pb false
    have KK := Lib.hid K
    have ho := Lib.hid hv
    clear K hv
    rcases Int.lt_or_gt_of_ne ha with pa | pa
    all_goals
      clear ha hb
      go_enter Tryz.func104, Tryz.ntmps104
      go_wp2_with fail
      first
      | rw [KK.out.1 ho.out (by omega)]
      | rw [KK.out.2.1 ho.out (by omega)]
      refine (must_false _ _).mono ?_
      rintro e w' ⟨rfl, rfl⟩
      exact ⟨rfl, rfl, rfl⟩
  · obtain ⟨c, rfl⟩ : ∃ c, b = -c := ⟨-b, by omega⟩
    have pc : 0 < c := by omega
    have e2 : (-c == 0) = false := by simpa using hb
    have e4 : (-c != 0) = true := by simpa using hb
    have e5 : (c == 0) = false := by simp; omega
    have K := absMul a c pc false
    have KK := Lib.hid K
    have ho := Lib.hid hv
    clear K hv
    rcases Int.lt_or_gt_of_ne ha with pa | pa
    all_goals
      clear ha hb
      go_enter Tryz.func104, Tryz.ntmps104
      go_wp2_with fail
      first
      | rw [KK.out.2.2.1 ho.out (by omega)]
      | rw [KK.out.2.2.2 ho.out (by omega)]
      refine (must_false _ _).mono ?_
      rintro e w' ⟨rfl, rfl⟩
      exact ⟨rfl, rfl, rfl⟩
theorem product_zero (a b : Int) (w : World) (hz : a = 0 ∨ b = 0) (h0 : -1099511627776 ≤ a) (h1 : a ≤ 1099511627776) (h2 : -1099511627776 ≤ b) (h3 : b ≤ 1099511627776) :
    Calls Tryz.prog 104 #[.int .i64 a, .int .i64 b] w fun e w' => e = .returned (.int .i64 0) ∧ w = w' := by
  by_cases ha : a = 0
  · subst ha
    go_enter Tryz.func104, Tryz.ntmps104
    go_wp2
    go_ret
    simp
  · obtain rfl : b = 0 := by omega
    have e1 : (a == 0) = false := by simpa using ha
    have e3 : (a != 0) = true := by simpa using ha
    go_enter Tryz.func104, Tryz.ntmps104
    go_wp2
    go_ret
    simp
theorem product_ok (a b : Int) (w : World) (h0 : -1099511627776 ≤ a) (h1 : a ≤ 1099511627776) (h2 : -1099511627776 ≤ b) (h3 : b ≤ 1099511627776) (hv : inNum (a * b) = true) :
    Calls Tryz.prog 104 #[.int .i64 a, .int .i64 b] w fun e w' => e = .returned (.int .i64 (a * b)) ∧ w = w' := by
  by_cases ha : a = 0
  · subst ha; rw [Int.zero_mul]; exact product_zero 0 b w (.inl rfl) h0 h1 h2 h3
  by_cases hb : b = 0
  · subst hb; rw [Int.mul_zero]; exact product_zero a 0 w (.inr rfl) h0 h1 h2 h3
  exact product_in a b w ha hb h0 h1 h2 h3 hv
theorem product_bad (a b : Int) (w : World) (h0 : -1099511627776 ≤ a) (h1 : a ≤ 1099511627776) (h2 : -1099511627776 ≤ b) (h3 : b ≤ 1099511627776) (hv : inNum (a * b) = false) :
    Calls Tryz.prog 104 #[.int .i64 a, .int .i64 b] w fun e w' => e = .panicked [{ v := stopV 7 0, recovered := false }] ∧ w = w' := by
  have ha : a ≠ 0 := by rintro rfl; rw [Int.zero_mul] at hv; exact absurd hv (by decide)
  have hb : b ≠ 0 := by rintro rfl; rw [Int.mul_zero] at hv; exact absurd hv (by decide)
  exact product_out a b w ha hb h0 h1 h2 h3 hv
end Go.Proofs.YtpnbhoeghncnnaaGreatDoor

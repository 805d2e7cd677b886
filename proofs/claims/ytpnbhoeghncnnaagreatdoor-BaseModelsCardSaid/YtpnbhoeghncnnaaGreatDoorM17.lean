/-
  A part of the proof of Rows.BaseModelsCardSaid (for every class and script BaseModels answers true, and its arguments read as they did; the listed library variables as the program text lays them): texts QB. By an AI agent.
-/
import Derived.Test.YtpnbhoeghncnnaaGreatDoorM11
import Derived.Test.YtpnbhoeghncnnaaGreatDoorM15
import Derived.Test.YtpnbhoeghncnnaaGreatDoorM16
set_option linter.all false
set_option linter.unusedVariables false
set_option linter.unusedSimpArgs false
namespace Go.Proofs.YtpnbhoeghncnnaaGreatDoor
open Go.RowKit
def RRel (k : Nat) (s : St) (L K : List Int) (lo hi : Int) : Prop := match k with
  | 1 => L = s.xs
  | 2 => L = s.xs
  | 4 => L = s.xs.reverse
  | 5 => L = s.xs
  | 7 => K = s.al.map (·.1) ∧ L = s.al.map (·.2)
  | 8 => L = s.xs.reverse ∧ s.xs.Nodup
  | 9 => lo = s.lo
  | 10 => lo = s.lo ∧ hi = s.hi
  | _ => True
def RDone (k : Nat) (B : Nat) (w : World) (b : Nat) (O : List Int) (tr : Bool) (o : Out) (w' : World) : Prop := match o with
  | .go n s' => ∃ L K lo hi, RRel k s' L K lo hi ∧ RDid B w b L K lo hi (if tr then O ++ [n] else O) 0 false w'
  | .halt f e => ∃ L K lo hi, RDid B w b L K lo hi O f (decide (e ≠ 0)) w'
theorem RDone.res {k B : Nat} {w : World} {b : Nat} {L K : List Int} {lo hi : Int} {O : List Int} {r : Res} {s : St} {w' : World} (hr : RRel k s L K lo hi) (h : RRes B w b L K lo hi O r w') : RDone k B w b O true (ofR r s) w' := by
  cases r with
  | val n => exact ⟨L, K, lo, hi, hr, h⟩
  | stop f e => exact ⟨L, K, lo, hi, h⟩
set_option linter.unusedVariables false in
theorem rstep_1_0 {B b : Nat} {L K : List Int} {lo hi : Int} {O : List Int} {x y : Int} {s : St} {w : World} (h : RS B w b L K lo hi O 0 false) (hn : O.length ≤ 1000) (hr : RRel 1 s L K lo hi) (hG : Good 100 s) (hal : s.al.length ≤ 100) (hx : inNum x = true) (hy : inNum y = true) : Calls Tryz.prog 19 #[.pointer (some ⟨b, 0, none⟩), .agg #[.string ⟨#[99, 111, 117, 110, 116]⟩, .int .i64 x, .int .i64 y], .bool false] w fun e w' => e = .returned (.tuple #[]) ∧ RDone 1 B w b O true (stepF 1 0 x y s) w' := by
  obtain rfl : L = s.xs := hr
  have hr : RRel 1 s s.xs K lo hi := rfl
  exact (rints_count B b s.xs K lo hi O x y w h hn false).mono fun e w' h' => ⟨h'.1, _, _, _, _, hr, h'.2⟩
set_option linter.unusedVariables false in
theorem rstep_1_1 {B b : Nat} {L K : List Int} {lo hi : Int} {O : List Int} {x y : Int} {s : St} {w : World} (h : RS B w b L K lo hi O 0 false) (hn : O.length ≤ 1000) (hr : RRel 1 s L K lo hi) (hG : Good 100 s) (hal : s.al.length ≤ 100) (hx : inNum x = true) (hy : inNum y = true) : Calls Tryz.prog 19 #[.pointer (some ⟨b, 0, none⟩), .agg #[.string ⟨#[112, 117, 115, 104]⟩, .int .i64 x, .int .i64 y], .bool false] w fun e w' => e = .returned (.tuple #[]) ∧ RDone 1 B w b O false (stepF 1 1 x y s) w' := by
  obtain rfl : L = s.xs := hr
  have hr : RRel 1 s s.xs K lo hi := rfl
  exact (rints_push B b s.xs K lo hi O x y w h hn (by have := hG.len; omega)).mono fun e w' h' => ⟨h'.1, _, _, _, _, rfl, h'.2⟩
set_option linter.unusedVariables false in
theorem rstep_1_2 {B b : Nat} {L K : List Int} {lo hi : Int} {O : List Int} {x y : Int} {s : St} {w : World} (h : RS B w b L K lo hi O 0 false) (hn : O.length ≤ 1000) (hr : RRel 1 s L K lo hi) (hG : Good 100 s) (hal : s.al.length ≤ 100) (hx : inNum x = true) (hy : inNum y = true) : Calls Tryz.prog 19 #[.pointer (some ⟨b, 0, none⟩), .agg #[.string ⟨#[101, 120, 116, 101, 110, 100]⟩, .int .i64 x, .int .i64 y], .bool false] w fun e w' => e = .returned (.tuple #[]) ∧ RDone 1 B w b O false (stepF 1 2 x y s) w' := by
  obtain rfl : L = s.xs := hr
  have hr : RRel 1 s s.xs K lo hi := rfl
  exact (rints_extend B b s.xs K lo hi O x y w h hn (by have := hG.len; omega)).mono fun e w' h' => ⟨h'.1, _, _, _, _, rfl, h'.2⟩
set_option linter.unusedVariables false in
theorem rstep_1_7 {B b : Nat} {L K : List Int} {lo hi : Int} {O : List Int} {x y : Int} {s : St} {w : World} (h : RS B w b L K lo hi O 0 false) (hn : O.length ≤ 1000) (hr : RRel 1 s L K lo hi) (hG : Good 100 s) (hal : s.al.length ≤ 100) (hx : inNum x = true) (hy : inNum y = true) : Calls Tryz.prog 19 #[.pointer (some ⟨b, 0, none⟩), .agg #[.string ⟨#[114, 101, 118, 101, 114, 115, 101]⟩, .int .i64 x, .int .i64 y], .bool false] w fun e w' => e = .returned (.tuple #[]) ∧ RDone 1 B w b O false (stepF 1 7 x y s) w' := by
  obtain rfl : L = s.xs := hr
  have hr : RRel 1 s s.xs K lo hi := rfl
  exact (rints_reverse B b s.xs K lo hi O x y w h hn (by have := hG.len; omega)).mono fun e w' h' => ⟨h'.1, _, _, _, _, rfl, h'.2⟩
set_option linter.unusedVariables false in
theorem rstep_1_3 {B b : Nat} {L K : List Int} {lo hi : Int} {O : List Int} {x y : Int} {s : St} {w : World} (h : RS B w b L K lo hi O 0 false) (hn : O.length ≤ 1000) (hr : RRel 1 s L K lo hi) (hG : Good 100 s) (hal : s.al.length ≤ 100) (hx : inNum x = true) (hy : inNum y = true) : Calls Tryz.prog 19 #[.pointer (some ⟨b, 0, none⟩), .agg #[.string ⟨#[104, 97, 115]⟩, .int .i64 x, .int .i64 y], .bool false] w fun e w' => e = .returned (.tuple #[]) ∧ RDone 1 B w b O true (stepF 1 3 x y s) w' := by
  obtain rfl : L = s.xs := hr
  have hr : RRel 1 s s.xs K lo hi := rfl
  exact (rints_has B b s.xs K lo hi O x y w h hn false (by have := hG.len; omega) _ rfl).mono fun e w' h' => ⟨h'.1, _, _, _, _, hr, h'.2⟩
set_option linter.unusedVariables false in
theorem rstep_1_4 {B b : Nat} {L K : List Int} {lo hi : Int} {O : List Int} {x y : Int} {s : St} {w : World} (h : RS B w b L K lo hi O 0 false) (hn : O.length ≤ 1000) (hr : RRel 1 s L K lo hi) (hG : Good 100 s) (hal : s.al.length ≤ 100) (hx : inNum x = true) (hy : inNum y = true) : Calls Tryz.prog 19 #[.pointer (some ⟨b, 0, none⟩), .agg #[.string ⟨#[105, 116, 101, 109]⟩, .int .i64 x, .int .i64 y], .bool false] w fun e w' => e = .returned (.tuple #[]) ∧ RDone 1 B w b O true (stepF 1 4 x y s) w' := by
  obtain rfl : L = s.xs := hr
  have hr : RRel 1 s s.xs K lo hi := rfl
  by_cases hin : 1 ≤ x ∧ x ≤ s.xs.length
  · obtain ⟨i, rfl⟩ : ∃ i : Nat, x = (i : Int) + 1 := ⟨(x - 1).toNat, by omega⟩
    have hz : s.xs[i]? = some (s.xs.getD i 0) := by
      rw [List.getD_eq_getElem?_getD, List.getElem?_eq_getElem (by omega)]; rfl
    have e : itemF ((i : Int) + 1) s.xs = .val (s.xs.getD i 0) := by
      unfold itemF; rw [if_pos hin]; rw [show ((i : Int) + 1 - 1).toNat = i by omega]
    refine (rints_item_yes B b s.xs K lo hi O i y w h hn false (by have := hG.len; omega) _ hz).mono fun e' w' h' => ⟨h'.1, ?_⟩
    have h2 := h'.2
    rw [← e] at h2
    exact RDone.res hr h2
  · exact (rints_item_no B b s.xs K lo hi O x y w h hn false (by have := hG.len; omega) hin).mono fun e w' h' => ⟨h'.1, RDone.res hr h'.2⟩
set_option linter.unusedVariables false in
theorem rstep_1_5 {B b : Nat} {L K : List Int} {lo hi : Int} {O : List Int} {x y : Int} {s : St} {w : World} (h : RS B w b L K lo hi O 0 false) (hn : O.length ≤ 1000) (hr : RRel 1 s L K lo hi) (hG : Good 100 s) (hal : s.al.length ≤ 100) (hx : inNum x = true) (hy : inNum y = true) : Calls Tryz.prog 19 #[.pointer (some ⟨b, 0, none⟩), .agg #[.string ⟨#[115, 117, 109]⟩, .int .i64 x, .int .i64 y], .bool false] w fun e w' => e = .returned (.tuple #[]) ∧ RDone 1 B w b O true (stepF 1 5 x y s) w' := by
  obtain rfl : L = s.xs := hr
  have hr : RRel 1 s s.xs K lo hi := rfl
  exact (rints_sum B b s.xs K lo hi O x y w h hn false (by have := hG.len; omega) hG.all).mono fun e w' h' => ⟨h'.1, RDone.res hr h'.2⟩
set_option linter.unusedVariables false in
theorem rstep_1_6 {B b : Nat} {L K : List Int} {lo hi : Int} {O : List Int} {x y : Int} {s : St} {w : World} (h : RS B w b L K lo hi O 0 false) (hn : O.length ≤ 1000) (hr : RRel 1 s L K lo hi) (hG : Good 100 s) (hal : s.al.length ≤ 100) (hx : inNum x = true) (hy : inNum y = true) : Calls Tryz.prog 19 #[.pointer (some ⟨b, 0, none⟩), .agg #[.string ⟨#[114, 101, 109, 111, 118, 101]⟩, .int .i64 x, .int .i64 y], .bool false] w fun e w' => e = .returned (.tuple #[]) ∧ RDone 1 B w b O false (stepF 1 6 x y s) w' := by
  obtain rfl : L = s.xs := hr
  have hr : RRel 1 s s.xs K lo hi := rfl
  by_cases hq : 0 ≤ ixI (fun y => x == y) s.xs
  · have hl := ixI_lt hq
    have e : rmF x s.xs = delAt (ixI (fun y => x == y) s.xs).toNat s.xs := by unfold rmF; rw [if_pos hq]
    refine (rints_remove_yes B b s.xs K lo hi O x y w h hn false (by have := hG.len; omega) _ (ixI (fun y => x == y) s.xs).toNat (by omega) hl rfl).mono fun e' w' h' => ⟨h'.1, _, _, _, _, ?_, h'.2⟩
    exact e.symm
  · have e : rmF x s.xs = s.xs := by unfold rmF; rw [if_neg hq]
    refine (rints_remove_no B b s.xs K lo hi O x y w h hn false (by have := hG.len; omega) _ rfl (by omega)).mono fun e' w' h' => ⟨h'.1, _, _, _, _, ?_, h'.2⟩
    exact e.symm
set_option linter.unusedVariables false in
theorem rstep_1_8 {B b : Nat} {L K : List Int} {lo hi : Int} {O : List Int} {x y : Int} {s : St} {w : World} (h : RS B w b L K lo hi O 0 false) (hn : O.length ≤ 1000) (hr : RRel 1 s L K lo hi) (hG : Good 100 s) (hal : s.al.length ≤ 100) (hx : inNum x = true) (hy : inNum y = true) : Calls Tryz.prog 19 #[.pointer (some ⟨b, 0, none⟩), .agg #[.string ⟨#[119, 105, 112, 101]⟩, .int .i64 x, .int .i64 y], .bool false] w fun e w' => e = .returned (.tuple #[]) ∧ RDone 1 B w b O false (stepF 1 8 x y s) w' := by
  obtain rfl : L = s.xs := hr
  have hr : RRel 1 s s.xs K lo hi := rfl
  exact (rints_wipe B b s.xs K lo hi O x y w h hn false).mono fun e w' h' => ⟨h'.1, _, _, _, _, rfl, h'.2⟩
set_option linter.unusedVariables false in
theorem rstep_2_0 {B b : Nat} {L K : List Int} {lo hi : Int} {O : List Int} {x y : Int} {s : St} {w : World} (h : RS B w b L K lo hi O 0 false) (hn : O.length ≤ 1000) (hr : RRel 2 s L K lo hi) (hG : Good 100 s) (hal : s.al.length ≤ 100) (hx : inNum x = true) (hy : inNum y = true) : Calls Tryz.prog 19 #[.pointer (some ⟨b, 0, none⟩), .agg #[.string ⟨#[99, 111, 117, 110, 116]⟩, .int .i64 x, .int .i64 y], .bool true] w fun e w' => e = .returned (.tuple #[]) ∧ RDone 2 B w b O true (stepF 2 0 x y s) w' := by
  obtain rfl : L = s.xs := hr
  have hr : RRel 2 s s.xs K lo hi := rfl
  exact (rints_count B b s.xs K lo hi O x y w h hn true).mono fun e w' h' => ⟨h'.1, _, _, _, _, hr, h'.2⟩
set_option linter.unusedVariables false in
theorem rstep_2_1 {B b : Nat} {L K : List Int} {lo hi : Int} {O : List Int} {x y : Int} {s : St} {w : World} (h : RS B w b L K lo hi O 0 false) (hn : O.length ≤ 1000) (hr : RRel 2 s L K lo hi) (hG : Good 100 s) (hal : s.al.length ≤ 100) (hx : inNum x = true) (hy : inNum y = true) : Calls Tryz.prog 19 #[.pointer (some ⟨b, 0, none⟩), .agg #[.string ⟨#[112, 117, 115, 104]⟩, .int .i64 x, .int .i64 y], .bool true] w fun e w' => e = .returned (.tuple #[]) ∧ RDone 2 B w b O false (stepF 2 1 x y s) w' := by
  obtain rfl : L = s.xs := hr
  have hr : RRel 2 s s.xs K lo hi := rfl
  exact (rints_spush B b s.xs K lo hi O x y w h hn (by have := hG.len; omega) _ rfl).mono fun e w' h' => ⟨h'.1, _, _, _, _, rfl, h'.2⟩
set_option linter.unusedVariables false in
theorem rstep_2_2 {B b : Nat} {L K : List Int} {lo hi : Int} {O : List Int} {x y : Int} {s : St} {w : World} (h : RS B w b L K lo hi O 0 false) (hn : O.length ≤ 1000) (hr : RRel 2 s L K lo hi) (hG : Good 100 s) (hal : s.al.length ≤ 100) (hx : inNum x = true) (hy : inNum y = true) : Calls Tryz.prog 19 #[.pointer (some ⟨b, 0, none⟩), .agg #[.string ⟨#[101, 120, 116, 101, 110, 100]⟩, .int .i64 x, .int .i64 y], .bool true] w fun e w' => e = .returned (.tuple #[]) ∧ RDone 2 B w b O false (stepF 2 2 x y s) w' := by
  obtain rfl : L = s.xs := hr
  have hr : RRel 2 s s.xs K lo hi := rfl
  exact (rints_sextend B b s.xs K lo hi O x y w h hn (by have := hG.len; omega) _ rfl).mono fun e w' h' => ⟨h'.1, _, _, _, _, rfl, h'.2⟩
set_option linter.unusedVariables false in
theorem rstep_2_7 {B b : Nat} {L K : List Int} {lo hi : Int} {O : List Int} {x y : Int} {s : St} {w : World} (h : RS B w b L K lo hi O 0 false) (hn : O.length ≤ 1000) (hr : RRel 2 s L K lo hi) (hG : Good 100 s) (hal : s.al.length ≤ 100) (hx : inNum x = true) (hy : inNum y = true) : Calls Tryz.prog 19 #[.pointer (some ⟨b, 0, none⟩), .agg #[.string ⟨#[114, 101, 118, 101, 114, 115, 101]⟩, .int .i64 x, .int .i64 y], .bool true] w fun e w' => e = .returned (.tuple #[]) ∧ RDone 2 B w b O false (stepF 2 7 x y s) w' := by
  obtain rfl : L = s.xs := hr
  have hr : RRel 2 s s.xs K lo hi := rfl
  exact (rints_sreverse B b s.xs K lo hi O x y w h hn (by have := hG.len; omega)).mono fun e w' h' => ⟨h'.1, _, _, _, _, rfl, h'.2⟩
set_option linter.unusedVariables false in
theorem rstep_2_3 {B b : Nat} {L K : List Int} {lo hi : Int} {O : List Int} {x y : Int} {s : St} {w : World} (h : RS B w b L K lo hi O 0 false) (hn : O.length ≤ 1000) (hr : RRel 2 s L K lo hi) (hG : Good 100 s) (hal : s.al.length ≤ 100) (hx : inNum x = true) (hy : inNum y = true) : Calls Tryz.prog 19 #[.pointer (some ⟨b, 0, none⟩), .agg #[.string ⟨#[104, 97, 115]⟩, .int .i64 x, .int .i64 y], .bool true] w fun e w' => e = .returned (.tuple #[]) ∧ RDone 2 B w b O true (stepF 2 3 x y s) w' := by
  obtain rfl : L = s.xs := hr
  have hr : RRel 2 s s.xs K lo hi := rfl
  exact (rints_has B b s.xs K lo hi O x y w h hn true (by have := hG.len; omega) _ rfl).mono fun e w' h' => ⟨h'.1, _, _, _, _, hr, h'.2⟩
set_option linter.unusedVariables false in
theorem rstep_2_4 {B b : Nat} {L K : List Int} {lo hi : Int} {O : List Int} {x y : Int} {s : St} {w : World} (h : RS B w b L K lo hi O 0 false) (hn : O.length ≤ 1000) (hr : RRel 2 s L K lo hi) (hG : Good 100 s) (hal : s.al.length ≤ 100) (hx : inNum x = true) (hy : inNum y = true) : Calls Tryz.prog 19 #[.pointer (some ⟨b, 0, none⟩), .agg #[.string ⟨#[105, 116, 101, 109]⟩, .int .i64 x, .int .i64 y], .bool true] w fun e w' => e = .returned (.tuple #[]) ∧ RDone 2 B w b O true (stepF 2 4 x y s) w' := by
  obtain rfl : L = s.xs := hr
  have hr : RRel 2 s s.xs K lo hi := rfl
  by_cases hin : 1 ≤ x ∧ x ≤ s.xs.length
  · obtain ⟨i, rfl⟩ : ∃ i : Nat, x = (i : Int) + 1 := ⟨(x - 1).toNat, by omega⟩
    have hz : s.xs[i]? = some (s.xs.getD i 0) := by
      rw [List.getD_eq_getElem?_getD, List.getElem?_eq_getElem (by omega)]; rfl
    have e : itemF ((i : Int) + 1) s.xs = .val (s.xs.getD i 0) := by
      unfold itemF; rw [if_pos hin]; rw [show ((i : Int) + 1 - 1).toNat = i by omega]
    refine (rints_item_yes B b s.xs K lo hi O i y w h hn true (by have := hG.len; omega) _ hz).mono fun e' w' h' => ⟨h'.1, ?_⟩
    have h2 := h'.2
    rw [← e] at h2
    exact RDone.res hr h2
  · exact (rints_item_no B b s.xs K lo hi O x y w h hn true (by have := hG.len; omega) hin).mono fun e w' h' => ⟨h'.1, RDone.res hr h'.2⟩
set_option linter.unusedVariables false in
theorem rstep_2_5 {B b : Nat} {L K : List Int} {lo hi : Int} {O : List Int} {x y : Int} {s : St} {w : World} (h : RS B w b L K lo hi O 0 false) (hn : O.length ≤ 1000) (hr : RRel 2 s L K lo hi) (hG : Good 100 s) (hal : s.al.length ≤ 100) (hx : inNum x = true) (hy : inNum y = true) : Calls Tryz.prog 19 #[.pointer (some ⟨b, 0, none⟩), .agg #[.string ⟨#[115, 117, 109]⟩, .int .i64 x, .int .i64 y], .bool true] w fun e w' => e = .returned (.tuple #[]) ∧ RDone 2 B w b O true (stepF 2 5 x y s) w' := by
  obtain rfl : L = s.xs := hr
  have hr : RRel 2 s s.xs K lo hi := rfl
  exact (rints_sum B b s.xs K lo hi O x y w h hn true (by have := hG.len; omega) hG.all).mono fun e w' h' => ⟨h'.1, RDone.res hr h'.2⟩
set_option linter.unusedVariables false in
theorem rstep_2_6 {B b : Nat} {L K : List Int} {lo hi : Int} {O : List Int} {x y : Int} {s : St} {w : World} (h : RS B w b L K lo hi O 0 false) (hn : O.length ≤ 1000) (hr : RRel 2 s L K lo hi) (hG : Good 100 s) (hal : s.al.length ≤ 100) (hx : inNum x = true) (hy : inNum y = true) : Calls Tryz.prog 19 #[.pointer (some ⟨b, 0, none⟩), .agg #[.string ⟨#[114, 101, 109, 111, 118, 101]⟩, .int .i64 x, .int .i64 y], .bool true] w fun e w' => e = .returned (.tuple #[]) ∧ RDone 2 B w b O false (stepF 2 6 x y s) w' := by
  obtain rfl : L = s.xs := hr
  have hr : RRel 2 s s.xs K lo hi := rfl
  by_cases hq : 0 ≤ ixI (fun y => x == y) s.xs
  · have hl := ixI_lt hq
    have e : rmF x s.xs = delAt (ixI (fun y => x == y) s.xs).toNat s.xs := by unfold rmF; rw [if_pos hq]
    refine (rints_remove_yes B b s.xs K lo hi O x y w h hn true (by have := hG.len; omega) _ (ixI (fun y => x == y) s.xs).toNat (by omega) hl rfl).mono fun e' w' h' => ⟨h'.1, _, _, _, _, ?_, h'.2⟩
    exact e.symm
  · have e : rmF x s.xs = s.xs := by unfold rmF; rw [if_neg hq]
    refine (rints_remove_no B b s.xs K lo hi O x y w h hn true (by have := hG.len; omega) _ rfl (by omega)).mono fun e' w' h' => ⟨h'.1, _, _, _, _, ?_, h'.2⟩
    exact e.symm
set_option linter.unusedVariables false in
theorem rstep_2_8 {B b : Nat} {L K : List Int} {lo hi : Int} {O : List Int} {x y : Int} {s : St} {w : World} (h : RS B w b L K lo hi O 0 false) (hn : O.length ≤ 1000) (hr : RRel 2 s L K lo hi) (hG : Good 100 s) (hal : s.al.length ≤ 100) (hx : inNum x = true) (hy : inNum y = true) : Calls Tryz.prog 19 #[.pointer (some ⟨b, 0, none⟩), .agg #[.string ⟨#[119, 105, 112, 101]⟩, .int .i64 x, .int .i64 y], .bool true] w fun e w' => e = .returned (.tuple #[]) ∧ RDone 2 B w b O false (stepF 2 8 x y s) w' := by
  obtain rfl : L = s.xs := hr
  have hr : RRel 2 s s.xs K lo hi := rfl
  exact (rints_wipe B b s.xs K lo hi O x y w h hn true).mono fun e w' h' => ⟨h'.1, _, _, _, _, rfl, h'.2⟩
set_option linter.unusedVariables false in
theorem rstep_4_0 {B b : Nat} {L K : List Int} {lo hi : Int} {O : List Int} {x y : Int} {s : St} {w : World} (h : RS B w b L K lo hi O 0 false) (hn : O.length ≤ 1000) (hr : RRel 4 s L K lo hi) (hG : Good 100 s) (hal : s.al.length ≤ 100) (hx : inNum x = true) (hy : inNum y = true) : Calls Tryz.prog 20 #[.pointer (some ⟨b, 0, none⟩), .agg #[.string ⟨#[99, 111, 117, 110, 116]⟩, .int .i64 x, .int .i64 y]] w fun e w' => e = .returned (.tuple #[]) ∧ RDone 4 B w b O true (stepF 4 0 x y s) w' := by
  obtain ⟨xs, al, slo, shi⟩ := s
  obtain rfl : L = xs.reverse := hr
  have hr : RRel 4 ⟨xs, al, slo, shi⟩ xs.reverse K lo hi := rfl
  refine (rstack_count B b xs.reverse K lo hi O x y w h hn).mono fun e w' h' => ⟨h'.1, _, _, _, _, hr, ?_⟩
  have h2 := h'.2
  rw [List.length_reverse] at h2; exact h2
set_option linter.unusedVariables false in
theorem rstep_4_1 {B b : Nat} {L K : List Int} {lo hi : Int} {O : List Int} {x y : Int} {s : St} {w : World} (h : RS B w b L K lo hi O 0 false) (hn : O.length ≤ 1000) (hr : RRel 4 s L K lo hi) (hG : Good 100 s) (hal : s.al.length ≤ 100) (hx : inNum x = true) (hy : inNum y = true) : Calls Tryz.prog 20 #[.pointer (some ⟨b, 0, none⟩), .agg #[.string ⟨#[112, 117, 115, 104]⟩, .int .i64 x, .int .i64 y]] w fun e w' => e = .returned (.tuple #[]) ∧ RDone 4 B w b O false (stepF 4 1 x y s) w' := by
  obtain ⟨xs, al, slo, shi⟩ := s
  obtain rfl : L = xs.reverse := hr
  have hr : RRel 4 ⟨xs, al, slo, shi⟩ xs.reverse K lo hi := rfl
  by_cases h0 : x < 0
  · rw [show stepF 4 1 x y ⟨xs, al, slo, shi⟩ = .halt 1 0 from if_pos h0]
    exact (rstack_push_no B b xs.reverse K lo hi O x y w h hn h0).mono fun e w' h' => ⟨h'.1, _, _, _, _, h'.2⟩
  · rw [show stepF 4 1 x y ⟨xs, al, slo, shi⟩ = .go 0 ⟨x :: xs, al, slo, shi⟩ from if_neg h0]
    exact (rstack_push_yes B b xs.reverse K lo hi O x y w h hn (by have := hG.len; simp at this ⊢; omega) (by omega)).mono fun e w' h' => ⟨h'.1, _, _, _, _, (by show _ = (x :: xs).reverse; rw [List.reverse_cons]), h'.2⟩
set_option linter.unusedVariables false in
theorem rstep_4_2 {B b : Nat} {L K : List Int} {lo hi : Int} {O : List Int} {x y : Int} {s : St} {w : World} (h : RS B w b L K lo hi O 0 false) (hn : O.length ≤ 1000) (hr : RRel 4 s L K lo hi) (hG : Good 100 s) (hal : s.al.length ≤ 100) (hx : inNum x = true) (hy : inNum y = true) : Calls Tryz.prog 20 #[.pointer (some ⟨b, 0, none⟩), .agg #[.string ⟨#[112, 111, 112]⟩, .int .i64 x, .int .i64 y]] w fun e w' => e = .returned (.tuple #[]) ∧ RDone 4 B w b O false (stepF 4 2 x y s) w' := by
  obtain ⟨xs, al, slo, shi⟩ := s
  obtain rfl : L = xs.reverse := hr
  have hr : RRel 4 ⟨xs, al, slo, shi⟩ xs.reverse K lo hi := rfl
  cases xs with
  | nil => exact (rstack_pop_no B b ([] : List Int).reverse K lo hi O x y w h hn rfl).mono fun e w' h' => ⟨h'.1, _, _, _, _, h'.2⟩
  | cons z r => exact (rstack_pop_yes B b (z :: r).reverse K lo hi O x y w h hn (by have := hG.len; simp at this ⊢; omega) z r.reverse (by rw [List.reverse_cons])).mono fun e w' h' => ⟨h'.1, _, _, _, _, rfl, h'.2⟩
set_option linter.unusedVariables false in
theorem rstep_4_3 {B b : Nat} {L K : List Int} {lo hi : Int} {O : List Int} {x y : Int} {s : St} {w : World} (h : RS B w b L K lo hi O 0 false) (hn : O.length ≤ 1000) (hr : RRel 4 s L K lo hi) (hG : Good 100 s) (hal : s.al.length ≤ 100) (hx : inNum x = true) (hy : inNum y = true) : Calls Tryz.prog 20 #[.pointer (some ⟨b, 0, none⟩), .agg #[.string ⟨#[112, 101, 101, 107]⟩, .int .i64 x, .int .i64 y]] w fun e w' => e = .returned (.tuple #[]) ∧ RDone 4 B w b O true (stepF 4 3 x y s) w' := by
  obtain ⟨xs, al, slo, shi⟩ := s
  obtain rfl : L = xs.reverse := hr
  have hr : RRel 4 ⟨xs, al, slo, shi⟩ xs.reverse K lo hi := rfl
  cases xs with
  | nil => exact (rstack_peek_nil B b ([] : List Int).reverse K lo hi O x y w h hn rfl).mono fun e w' h' => ⟨h'.1, _, _, _, _, hr, h'.2⟩
  | cons z r => exact (rstack_peek_yes B b (z :: r).reverse K lo hi O x y w h hn (by have := hG.len; simp at this ⊢; omega) z r.reverse (by rw [List.reverse_cons])).mono fun e w' h' => ⟨h'.1, _, _, _, _, hr, h'.2⟩
set_option linter.unusedVariables false in
theorem rstep_5_0 {B b : Nat} {L K : List Int} {lo hi : Int} {O : List Int} {x y : Int} {s : St} {w : World} (h : RS B w b L K lo hi O 0 false) (hn : O.length ≤ 1000) (hr : RRel 5 s L K lo hi) (hG : Good 100 s) (hal : s.al.length ≤ 100) (hx : inNum x = true) (hy : inNum y = true) : Calls Tryz.prog 21 #[.pointer (some ⟨b, 0, none⟩), .agg #[.string ⟨#[99, 111, 117, 110, 116]⟩, .int .i64 x, .int .i64 y]] w fun e w' => e = .returned (.tuple #[]) ∧ RDone 5 B w b O true (stepF 5 0 x y s) w' := by
  obtain ⟨xs, al, slo, shi⟩ := s
  obtain rfl : L = xs := hr
  have hr : RRel 5 ⟨L, al, slo, shi⟩ L K lo hi := rfl
  exact (rqueue_count B b L K lo hi O x y w h hn).mono fun e w' h' => ⟨h'.1, _, _, _, _, hr, h'.2⟩
set_option linter.unusedVariables false in
theorem rstep_5_1 {B b : Nat} {L K : List Int} {lo hi : Int} {O : List Int} {x y : Int} {s : St} {w : World} (h : RS B w b L K lo hi O 0 false) (hn : O.length ≤ 1000) (hr : RRel 5 s L K lo hi) (hG : Good 100 s) (hal : s.al.length ≤ 100) (hx : inNum x = true) (hy : inNum y = true) : Calls Tryz.prog 21 #[.pointer (some ⟨b, 0, none⟩), .agg #[.string ⟨#[101, 110, 116, 101, 114]⟩, .int .i64 x, .int .i64 y]] w fun e w' => e = .returned (.tuple #[]) ∧ RDone 5 B w b O false (stepF 5 1 x y s) w' := by
  obtain ⟨xs, al, slo, shi⟩ := s
  obtain rfl : L = xs := hr
  have hr : RRel 5 ⟨L, al, slo, shi⟩ L K lo hi := rfl
  exact (rqueue_enter B b L K lo hi O x y w h hn (by have := hG.len; simp at this; omega)).mono fun e w' h' => ⟨h'.1, _, _, _, _, rfl, h'.2⟩
set_option linter.unusedVariables false in
theorem rstep_5_2 {B b : Nat} {L K : List Int} {lo hi : Int} {O : List Int} {x y : Int} {s : St} {w : World} (h : RS B w b L K lo hi O 0 false) (hn : O.length ≤ 1000) (hr : RRel 5 s L K lo hi) (hG : Good 100 s) (hal : s.al.length ≤ 100) (hx : inNum x = true) (hy : inNum y = true) : Calls Tryz.prog 21 #[.pointer (some ⟨b, 0, none⟩), .agg #[.string ⟨#[108, 101, 97, 118, 101]⟩, .int .i64 x, .int .i64 y]] w fun e w' => e = .returned (.tuple #[]) ∧ RDone 5 B w b O false (stepF 5 2 x y s) w' := by
  obtain ⟨xs, al, slo, shi⟩ := s
  obtain rfl : L = xs := hr
  have hr : RRel 5 ⟨L, al, slo, shi⟩ L K lo hi := rfl
  cases L with
  | nil => exact (rqueue_leave_no B b [] K lo hi O x y w h hn rfl).mono fun e w' h' => ⟨h'.1, _, _, _, _, h'.2⟩
  | cons z r => exact (rqueue_leave_yes B b (z :: r) K lo hi O x y w h hn z r rfl).mono fun e w' h' => ⟨h'.1, _, _, _, _, rfl, h'.2⟩
set_option linter.unusedVariables false in
theorem rstep_5_3 {B b : Nat} {L K : List Int} {lo hi : Int} {O : List Int} {x y : Int} {s : St} {w : World} (h : RS B w b L K lo hi O 0 false) (hn : O.length ≤ 1000) (hr : RRel 5 s L K lo hi) (hG : Good 100 s) (hal : s.al.length ≤ 100) (hx : inNum x = true) (hy : inNum y = true) : Calls Tryz.prog 21 #[.pointer (some ⟨b, 0, none⟩), .agg #[.string ⟨#[102, 114, 111, 110, 116]⟩, .int .i64 x, .int .i64 y]] w fun e w' => e = .returned (.tuple #[]) ∧ RDone 5 B w b O true (stepF 5 3 x y s) w' := by
  obtain ⟨xs, al, slo, shi⟩ := s
  obtain rfl : L = xs := hr
  have hr : RRel 5 ⟨L, al, slo, shi⟩ L K lo hi := rfl
  cases L with
  | nil => exact (rqueue_front_no B b [] K lo hi O x y w h hn rfl).mono fun e w' h' => ⟨h'.1, _, _, _, _, h'.2⟩
  | cons z r => exact (rqueue_front_yes B b (z :: r) K lo hi O x y w h hn z r rfl).mono fun e w' h' => ⟨h'.1, _, _, _, _, hr, h'.2⟩
set_option linter.unusedVariables false in
theorem rstep_7_0 {B b : Nat} {L K : List Int} {lo hi : Int} {O : List Int} {x y : Int} {s : St} {w : World} (h : RS B w b L K lo hi O 0 false) (hn : O.length ≤ 1000) (hr : RRel 7 s L K lo hi) (hG : Good 100 s) (hal : s.al.length ≤ 100) (hx : inNum x = true) (hy : inNum y = true) : Calls Tryz.prog 22 #[.pointer (some ⟨b, 0, none⟩), .agg #[.string ⟨#[99, 111, 117, 110, 116]⟩, .int .i64 x, .int .i64 y]] w fun e w' => e = .returned (.tuple #[]) ∧ RDone 7 B w b O true (stepF 7 0 x y s) w' := by
  obtain ⟨xs, al, slo, shi⟩ := s
  obtain ⟨rfl, rfl⟩ : K = al.map (·.1) ∧ L = al.map (·.2) := hr
  have hr : RRel 7 ⟨xs, al, slo, shi⟩ (al.map (·.2)) (al.map (·.1)) lo hi := ⟨rfl, rfl⟩
  have hl1 : (al.map (·.1)).length ≤ 1000 := by simp at hal ⊢; omega
  have hl2 : (al.map (·.2)).length ≤ 1000 := by simp at hal ⊢; omega
  refine (rtable_count B b (al.map (·.2)) (al.map (·.1)) lo hi O x y w h hn hl1 hl2 _ rfl).mono fun e w' h' => ⟨h'.1, _, _, _, _, hr, ?_⟩
  have h2 := h'.2
  rw [List.length_map] at h2; exact h2
set_option linter.unusedVariables false in
theorem rstep_7_1 {B b : Nat} {L K : List Int} {lo hi : Int} {O : List Int} {x y : Int} {s : St} {w : World} (h : RS B w b L K lo hi O 0 false) (hn : O.length ≤ 1000) (hr : RRel 7 s L K lo hi) (hG : Good 100 s) (hal : s.al.length ≤ 100) (hx : inNum x = true) (hy : inNum y = true) : Calls Tryz.prog 22 #[.pointer (some ⟨b, 0, none⟩), .agg #[.string ⟨#[102, 111, 114, 99, 101]⟩, .int .i64 x, .int .i64 y]] w fun e w' => e = .returned (.tuple #[]) ∧ RDone 7 B w b O false (stepF 7 1 x y s) w' := by
  obtain ⟨xs, al, slo, shi⟩ := s
  obtain ⟨rfl, rfl⟩ : K = al.map (·.1) ∧ L = al.map (·.2) := hr
  have hr : RRel 7 ⟨xs, al, slo, shi⟩ (al.map (·.2)) (al.map (·.1)) lo hi := ⟨rfl, rfl⟩
  have hl1 : (al.map (·.1)).length ≤ 1000 := by simp at hal ⊢; omega
  have hl2 : (al.map (·.2)).length ≤ 1000 := by simp at hal ⊢; omega
  cases hf : fndA x al 0 with
  | none =>
    have hu := updA_maps x y al
    rw [hf] at hu
    have hq := fnd_none hf
    refine (rtable_force_new B b (al.map (·.2)) (al.map (·.1)) lo hi O x y w h hn hl1 hl2 _ hq (by decide)).mono fun e w' h' => ⟨h'.1, _, _, _, _, ?_, h'.2⟩
    exact ⟨hu.1.symm, hu.2.symm⟩
  | some p =>
    have hu := updA_maps x y al
    rw [hf] at hu
    have hq := fnd_some hf
    refine (rtable_force_old B b (al.map (·.2)) (al.map (·.1)) lo hi O x y w h hn hl1 hl2 _ p.1 rfl (by simpa using hq.2.2.1) (by simpa using hq.2.2.1) hq.1).mono fun e w' h' => ⟨h'.1, _, _, _, _, ?_, h'.2⟩
    exact ⟨hu.1.symm, hu.2.symm⟩
set_option linter.unusedVariables false in
theorem rstep_7_2 {B b : Nat} {L K : List Int} {lo hi : Int} {O : List Int} {x y : Int} {s : St} {w : World} (h : RS B w b L K lo hi O 0 false) (hn : O.length ≤ 1000) (hr : RRel 7 s L K lo hi) (hG : Good 100 s) (hal : s.al.length ≤ 100) (hx : inNum x = true) (hy : inNum y = true) : Calls Tryz.prog 22 #[.pointer (some ⟨b, 0, none⟩), .agg #[.string ⟨#[104, 97, 115]⟩, .int .i64 x, .int .i64 y]] w fun e w' => e = .returned (.tuple #[]) ∧ RDone 7 B w b O true (stepF 7 2 x y s) w' := by
  obtain ⟨xs, al, slo, shi⟩ := s
  obtain ⟨rfl, rfl⟩ : K = al.map (·.1) ∧ L = al.map (·.2) := hr
  have hr : RRel 7 ⟨xs, al, slo, shi⟩ (al.map (·.2)) (al.map (·.1)) lo hi := ⟨rfl, rfl⟩
  have hl1 : (al.map (·.1)).length ≤ 1000 := by simp at hal ⊢; omega
  have hl2 : (al.map (·.2)).length ≤ 1000 := by simp at hal ⊢; omega
  refine (rtable_has B b (al.map (·.2)) (al.map (·.1)) lo hi O x y w h hn hl1 hl2 _ rfl).mono fun e w' h' => ⟨h'.1, _, _, _, _, hr, ?_⟩
  have h2 := h'.2
  have e2 : boolI (decide (0 ≤ ixI (fun y => x == y) (al.map (·.1)))) = boolI (hasA x al) := by
    unfold hasA
    cases hf : fndA x al 0 with
    | none => rw [fnd_none hf]; rfl
    | some p => rw [(fnd_some hf).1]; exact boolI_true (Int.natCast_nonneg _)
  rw [e2] at h2
  exact h2
set_option linter.unusedVariables false in
theorem rstep_7_3 {B b : Nat} {L K : List Int} {lo hi : Int} {O : List Int} {x y : Int} {s : St} {w : World} (h : RS B w b L K lo hi O 0 false) (hn : O.length ≤ 1000) (hr : RRel 7 s L K lo hi) (hG : Good 100 s) (hal : s.al.length ≤ 100) (hx : inNum x = true) (hy : inNum y = true) : Calls Tryz.prog 22 #[.pointer (some ⟨b, 0, none⟩), .agg #[.string ⟨#[118, 97, 108, 117, 101, 95, 111, 102]⟩, .int .i64 x, .int .i64 y]] w fun e w' => e = .returned (.tuple #[]) ∧ RDone 7 B w b O true (stepF 7 3 x y s) w' := by
  obtain ⟨xs, al, slo, shi⟩ := s
  obtain ⟨rfl, rfl⟩ : K = al.map (·.1) ∧ L = al.map (·.2) := hr
  have hr : RRel 7 ⟨xs, al, slo, shi⟩ (al.map (·.2)) (al.map (·.1)) lo hi := ⟨rfl, rfl⟩
  have hl1 : (al.map (·.1)).length ≤ 1000 := by simp at hal ⊢; omega
  have hl2 : (al.map (·.2)).length ≤ 1000 := by simp at hal ⊢; omega
  cases hf : fndA x al 0 with
  | none =>
    refine (rtable_value_no B b (al.map (·.2)) (al.map (·.1)) lo hi O x y w h hn hl1 hl2 _ (fnd_none hf) (by decide)).mono fun e w' h' => ⟨h'.1, _, _, _, _, hr, ?_⟩
    have h2 := h'.2
    have e0 : getA x al = 0 := by unfold getA; rw [hf]; rfl
    show RDid B w b (al.map (·.2)) (al.map (·.1)) lo hi (O ++ [getA x al]) 0 false w'
    rw [e0]
    exact h2
  | some p =>
    have hq := fnd_some hf
    refine (rtable_value_yes B b (al.map (·.2)) (al.map (·.1)) lo hi O x y w h hn hl1 hl2 _ p.1 rfl (by simpa using hq.2.2.1) (by simpa using hq.2.2.1) hq.1 p.2 hq.2.1).mono fun e w' h' => ⟨h'.1, _, _, _, _, hr, ?_⟩
    have h2 := h'.2
    rw [show p.2 = getA x al by unfold getA; rw [hf]; rfl] at h2
    exact h2
set_option linter.unusedVariables false in
theorem rstep_7_4 {B b : Nat} {L K : List Int} {lo hi : Int} {O : List Int} {x y : Int} {s : St} {w : World} (h : RS B w b L K lo hi O 0 false) (hn : O.length ≤ 1000) (hr : RRel 7 s L K lo hi) (hG : Good 100 s) (hal : s.al.length ≤ 100) (hx : inNum x = true) (hy : inNum y = true) : Calls Tryz.prog 22 #[.pointer (some ⟨b, 0, none⟩), .agg #[.string ⟨#[114, 101, 109, 111, 118, 101]⟩, .int .i64 x, .int .i64 y]] w fun e w' => e = .returned (.tuple #[]) ∧ RDone 7 B w b O false (stepF 7 4 x y s) w' := by
  obtain ⟨xs, al, slo, shi⟩ := s
  obtain ⟨rfl, rfl⟩ : K = al.map (·.1) ∧ L = al.map (·.2) := hr
  have hr : RRel 7 ⟨xs, al, slo, shi⟩ (al.map (·.2)) (al.map (·.1)) lo hi := ⟨rfl, rfl⟩
  have hl1 : (al.map (·.1)).length ≤ 1000 := by simp at hal ⊢; omega
  have hl2 : (al.map (·.2)).length ≤ 1000 := by simp at hal ⊢; omega
  cases hf : fndA x al 0 with
  | none =>
    have hu := delA_maps x al
    rw [hf] at hu
    refine (rtable_remove_no B b (al.map (·.2)) (al.map (·.1)) lo hi O x y w h hn hl1 hl2 _ (fnd_none hf) (by decide)).mono fun e w' h' => ⟨h'.1, _, _, _, _, ?_, h'.2⟩
    show al.map (·.1) = (delA x al).map (·.1) ∧ al.map (·.2) = (delA x al).map (·.2)
    rw [show delA x al = al from hu]; exact ⟨rfl, rfl⟩
  | some p =>
    have hu := delA_maps x al
    rw [hf] at hu
    have hq := fnd_some hf
    refine (rtable_remove_yes B b (al.map (·.2)) (al.map (·.1)) lo hi O x y w h hn hl1 hl2 _ p.1 rfl (by simpa using hq.2.2.1) (by simpa using hq.2.2.1) hq.1).mono fun e w' h' => ⟨h'.1, _, _, _, _, ?_, h'.2⟩
    exact ⟨hu.1.symm, hu.2.symm⟩
set_option linter.unusedVariables false in
theorem rstep_8_0 {B b : Nat} {L K : List Int} {lo hi : Int} {O : List Int} {x y : Int} {s : St} {w : World} (h : RS B w b L K lo hi O 0 false) (hn : O.length ≤ 1000) (hr : RRel 8 s L K lo hi) (hG : Good 100 s) (hal : s.al.length ≤ 100) (hx : inNum x = true) (hy : inNum y = true) : Calls Tryz.prog 23 #[.pointer (some ⟨b, 0, none⟩), .agg #[.string ⟨#[97, 100, 100]⟩, .int .i64 x, .int .i64 y]] w fun e w' => e = .returned (.tuple #[]) ∧ RDone 8 B w b O false (stepF 8 0 x y s) w' := by
  obtain ⟨xs, al, slo, shi⟩ := s
  obtain ⟨rfl, hnd⟩ : L = xs.reverse ∧ xs.Nodup := hr
  have hr : RRel 8 ⟨xs, al, slo, shi⟩ xs.reverse K lo hi := ⟨rfl, hnd⟩
  have hm : 0 ≤ ixI (fun y => x == y) xs.reverse ↔ 0 ≤ ixI (fun y => x == y) xs := by rw [ixI_mem, ixI_mem, List.mem_reverse]
  by_cases hq : 0 ≤ ixI (fun y => x == y) xs
  · have e : joinF x xs = xs := by unfold joinF; rw [if_pos hq]
    refine (rset_add_old B b xs.reverse K lo hi O x y w h hn (by have := hG.len; simp at this ⊢; omega) _ rfl (hm.2 hq)).mono fun e' w' h' => ⟨h'.1, _, _, _, _, ?_, h'.2⟩
    show xs.reverse = (joinF x xs).reverse ∧ (joinF x xs).Nodup
    rw [e]; exact ⟨rfl, hnd⟩
  · have e : joinF x xs = x :: xs := by unfold joinF; rw [if_neg hq]
    refine (rset_add_new B b xs.reverse K lo hi O x y w h hn (by have := hG.len; simp at this ⊢; omega) _ rfl (by have := hm; omega)).mono fun e' w' h' => ⟨h'.1, _, _, _, _, ?_, h'.2⟩
    show xs.reverse ++ [x] = (joinF x xs).reverse ∧ (joinF x xs).Nodup
    rw [e, List.reverse_cons]
    exact ⟨rfl, List.nodup_cons.2 ⟨fun hx => hq (ixI_mem.2 hx), hnd⟩⟩
set_option linter.unusedVariables false in
theorem rstep_8_1 {B b : Nat} {L K : List Int} {lo hi : Int} {O : List Int} {x y : Int} {s : St} {w : World} (h : RS B w b L K lo hi O 0 false) (hn : O.length ≤ 1000) (hr : RRel 8 s L K lo hi) (hG : Good 100 s) (hal : s.al.length ≤ 100) (hx : inNum x = true) (hy : inNum y = true) : Calls Tryz.prog 23 #[.pointer (some ⟨b, 0, none⟩), .agg #[.string ⟨#[100, 114, 111, 112]⟩, .int .i64 x, .int .i64 y]] w fun e w' => e = .returned (.tuple #[]) ∧ RDone 8 B w b O false (stepF 8 1 x y s) w' := by
  obtain ⟨xs, al, slo, shi⟩ := s
  obtain ⟨rfl, hnd⟩ : L = xs.reverse ∧ xs.Nodup := hr
  have hr : RRel 8 ⟨xs, al, slo, shi⟩ xs.reverse K lo hi := ⟨rfl, hnd⟩
  have hm : 0 ≤ ixI (fun y => x == y) xs.reverse ↔ 0 ≤ ixI (fun y => x == y) xs := by rw [ixI_mem, ixI_mem, List.mem_reverse]
  have e1 : (rmF x xs).reverse = rmF x xs.reverse := by rw [rmF_erase, rmF_erase, erase_rev hnd]
  have e2 : (rmF x xs).Nodup := by rw [rmF_erase]; exact hnd.erase x
  by_cases hq : 0 ≤ ixI (fun y => x == y) xs.reverse
  · have hl := ixI_lt hq
    have e : rmF x xs.reverse = delAt (ixI (fun y => x == y) xs.reverse).toNat xs.reverse := by unfold rmF; rw [if_pos hq]
    refine (rset_drop_yes B b xs.reverse K lo hi O x y w h hn (by have := hG.len; simp at this ⊢; omega) _ (ixI (fun y => x == y) xs.reverse).toNat (by omega) hl rfl).mono fun e' w' h' => ⟨h'.1, _, _, _, _, ?_, h'.2⟩
    exact ⟨by rw [e1, e], e2⟩
  · have e : rmF x xs.reverse = xs.reverse := by unfold rmF; rw [if_neg hq]
    refine (rset_drop_no B b xs.reverse K lo hi O x y w h hn (by have := hG.len; simp at this ⊢; omega) _ rfl (by omega)).mono fun e' w' h' => ⟨h'.1, _, _, _, _, ?_, h'.2⟩
    exact ⟨by rw [e1, e], e2⟩
set_option linter.unusedVariables false in
theorem rstep_8_2 {B b : Nat} {L K : List Int} {lo hi : Int} {O : List Int} {x y : Int} {s : St} {w : World} (h : RS B w b L K lo hi O 0 false) (hn : O.length ≤ 1000) (hr : RRel 8 s L K lo hi) (hG : Good 100 s) (hal : s.al.length ≤ 100) (hx : inNum x = true) (hy : inNum y = true) : Calls Tryz.prog 23 #[.pointer (some ⟨b, 0, none⟩), .agg #[.string ⟨#[104, 97, 115]⟩, .int .i64 x, .int .i64 y]] w fun e w' => e = .returned (.tuple #[]) ∧ RDone 8 B w b O true (stepF 8 2 x y s) w' := by
  obtain ⟨xs, al, slo, shi⟩ := s
  obtain ⟨rfl, hnd⟩ : L = xs.reverse ∧ xs.Nodup := hr
  have hr : RRel 8 ⟨xs, al, slo, shi⟩ xs.reverse K lo hi := ⟨rfl, hnd⟩
  have hm : 0 ≤ ixI (fun y => x == y) xs.reverse ↔ 0 ≤ ixI (fun y => x == y) xs := by rw [ixI_mem, ixI_mem, List.mem_reverse]
  refine (rset_has B b xs.reverse K lo hi O x y w h hn (by have := hG.len; simp at this ⊢; omega) _ rfl).mono fun e w' h' => ⟨h'.1, _, _, _, _, hr, ?_⟩
  have h2 := h'.2
  have e2 : decide (0 ≤ ixI (fun y => x == y) xs.reverse) = decide (0 ≤ ixI (fun y => x == y) xs) := decide_eq_decide.2 hm
  rw [e2] at h2
  exact h2
set_option linter.unusedVariables false in
theorem rstep_8_3 {B b : Nat} {L K : List Int} {lo hi : Int} {O : List Int} {x y : Int} {s : St} {w : World} (h : RS B w b L K lo hi O 0 false) (hn : O.length ≤ 1000) (hr : RRel 8 s L K lo hi) (hG : Good 100 s) (hal : s.al.length ≤ 100) (hx : inNum x = true) (hy : inNum y = true) : Calls Tryz.prog 23 #[.pointer (some ⟨b, 0, none⟩), .agg #[.string ⟨#[115, 105, 122, 101]⟩, .int .i64 x, .int .i64 y]] w fun e w' => e = .returned (.tuple #[]) ∧ RDone 8 B w b O true (stepF 8 3 x y s) w' := by
  obtain ⟨xs, al, slo, shi⟩ := s
  obtain ⟨rfl, hnd⟩ : L = xs.reverse ∧ xs.Nodup := hr
  have hr : RRel 8 ⟨xs, al, slo, shi⟩ xs.reverse K lo hi := ⟨rfl, hnd⟩
  have hm : 0 ≤ ixI (fun y => x == y) xs.reverse ↔ 0 ≤ ixI (fun y => x == y) xs := by rw [ixI_mem, ixI_mem, List.mem_reverse]
  refine (rset_size B b xs.reverse K lo hi O x y w h hn (by have := hG.len; simp at this ⊢; omega) _ rfl).mono fun e w' h' => ⟨h'.1, _, _, _, _, hr, ?_⟩
  have h2 := h'.2
  rw [List.length_reverse] at h2; exact h2
set_option linter.unusedVariables false in
theorem rstep_9_0 {B b : Nat} {L K : List Int} {lo hi : Int} {O : List Int} {x y : Int} {s : St} {w : World} (h : RS B w b L K lo hi O 0 false) (hn : O.length ≤ 1000) (hr : RRel 9 s L K lo hi) (hG : Good 100 s) (hal : s.al.length ≤ 100) (hx : inNum x = true) (hy : inNum y = true) : Calls Tryz.prog 24 #[.pointer (some ⟨b, 0, none⟩), .agg #[.string ⟨#[99, 111, 117, 110, 116]⟩, .int .i64 x, .int .i64 y]] w fun e w' => e = .returned (.tuple #[]) ∧ RDone 9 B w b O true (stepF 9 0 x y s) w' := by
  obtain ⟨xs, al, slo, shi⟩ := s
  obtain rfl : lo = slo := hr
  have hr : RRel 9 ⟨xs, al, lo, shi⟩ L K lo hi := rfl
  exact (rcounter_count B b L K lo hi O x y w h hn).mono fun e w' h' => ⟨h'.1, _, _, _, _, hr, h'.2⟩
set_option linter.unusedVariables false in
theorem rstep_9_1 {B b : Nat} {L K : List Int} {lo hi : Int} {O : List Int} {x y : Int} {s : St} {w : World} (h : RS B w b L K lo hi O 0 false) (hn : O.length ≤ 1000) (hr : RRel 9 s L K lo hi) (hG : Good 100 s) (hal : s.al.length ≤ 100) (hx : inNum x = true) (hy : inNum y = true) : Calls Tryz.prog 24 #[.pointer (some ⟨b, 0, none⟩), .agg #[.string ⟨#[117, 112]⟩, .int .i64 x, .int .i64 y]] w fun e w' => e = .returned (.tuple #[]) ∧ RDone 9 B w b O false (stepF 9 1 x y s) w' := by
  obtain ⟨xs, al, slo, shi⟩ := s
  obtain rfl : lo = slo := hr
  have hr : RRel 9 ⟨xs, al, lo, shi⟩ L K lo hi := rfl
  cases hv : inNum (lo + 1) with
  | true =>
    rw [show stepF 9 1 x y ⟨xs, al, lo, shi⟩ = .go 0 ⟨xs, al, lo + 1, shi⟩ from if_pos hv]
    exact (rcounter_up_true B b L K lo hi O x y w h hn hG.lo hv).mono fun e w' h' => ⟨h'.1, _, _, _, _, rfl, h'.2⟩
  | false =>
    rw [show stepF 9 1 x y ⟨xs, al, lo, shi⟩ = .halt 7 0 from if_neg (by rw [hv]; decide)]
    exact (rcounter_up_false B b L K lo hi O x y w h hn hG.lo hv).mono fun e w' h' => ⟨h'.1, _, _, _, _, h'.2⟩
set_option linter.unusedVariables false in
theorem rstep_9_2 {B b : Nat} {L K : List Int} {lo hi : Int} {O : List Int} {x y : Int} {s : St} {w : World} (h : RS B w b L K lo hi O 0 false) (hn : O.length ≤ 1000) (hr : RRel 9 s L K lo hi) (hG : Good 100 s) (hal : s.al.length ≤ 100) (hx : inNum x = true) (hy : inNum y = true) : Calls Tryz.prog 24 #[.pointer (some ⟨b, 0, none⟩), .agg #[.string ⟨#[97, 100, 100]⟩, .int .i64 x, .int .i64 y]] w fun e w' => e = .returned (.tuple #[]) ∧ RDone 9 B w b O false (stepF 9 2 x y s) w' := by
  obtain ⟨xs, al, slo, shi⟩ := s
  obtain rfl : lo = slo := hr
  have hr : RRel 9 ⟨xs, al, lo, shi⟩ L K lo hi := rfl
  by_cases h0 : x < 0
  · rw [show stepF 9 2 x y ⟨xs, al, lo, shi⟩ = .halt 1 0 from if_pos h0]
    exact (rcounter_add_no B b L K lo hi O x y w h hn h0).mono fun e w' h' => ⟨h'.1, _, _, _, _, h'.2⟩
  cases hv : inNum (lo + x) with
  | true =>
    rw [show stepF 9 2 x y ⟨xs, al, lo, shi⟩ = .go 0 ⟨xs, al, lo + x, shi⟩ from (if_neg h0).trans (if_pos hv)]
    exact (rcounter_add_true B b L K lo hi O x y w h hn hx (by omega) hG.lo hv).mono fun e w' h' => ⟨h'.1, _, _, _, _, rfl, h'.2⟩
  | false =>
    rw [show stepF 9 2 x y ⟨xs, al, lo, shi⟩ = .halt 7 0 from (if_neg h0).trans (if_neg (by rw [hv]; decide))]
    exact (rcounter_add_false B b L K lo hi O x y w h hn hx (by omega) hG.lo hv).mono fun e w' h' => ⟨h'.1, _, _, _, _, h'.2⟩
set_option linter.unusedVariables false in
theorem rstep_10_0 {B b : Nat} {L K : List Int} {lo hi : Int} {O : List Int} {x y : Int} {s : St} {w : World} (h : RS B w b L K lo hi O 0 false) (hn : O.length ≤ 1000) (hr : RRel 10 s L K lo hi) (hG : Good 100 s) (hal : s.al.length ≤ 100) (hx : inNum x = true) (hy : inNum y = true) : Calls Tryz.prog 25 #[.pointer (some ⟨b, 0, none⟩), .agg #[.string ⟨#[108, 111, 119]⟩, .int .i64 x, .int .i64 y]] w fun e w' => e = .returned (.tuple #[]) ∧ RDone 10 B w b O true (stepF 10 0 x y s) w' := by
  obtain ⟨xs, al, slo, shi⟩ := s
  obtain ⟨rfl, rfl⟩ : lo = slo ∧ hi = shi := hr
  have hr : RRel 10 ⟨xs, al, lo, hi⟩ L K lo hi := ⟨rfl, rfl⟩
  exact (rrange_low B b L K lo hi O x y w h hn).mono fun e w' h' => ⟨h'.1, _, _, _, _, hr, h'.2⟩
set_option linter.unusedVariables false in
theorem rstep_10_1 {B b : Nat} {L K : List Int} {lo hi : Int} {O : List Int} {x y : Int} {s : St} {w : World} (h : RS B w b L K lo hi O 0 false) (hn : O.length ≤ 1000) (hr : RRel 10 s L K lo hi) (hG : Good 100 s) (hal : s.al.length ≤ 100) (hx : inNum x = true) (hy : inNum y = true) : Calls Tryz.prog 25 #[.pointer (some ⟨b, 0, none⟩), .agg #[.string ⟨#[104, 105, 103, 104]⟩, .int .i64 x, .int .i64 y]] w fun e w' => e = .returned (.tuple #[]) ∧ RDone 10 B w b O true (stepF 10 1 x y s) w' := by
  obtain ⟨xs, al, slo, shi⟩ := s
  obtain ⟨rfl, rfl⟩ : lo = slo ∧ hi = shi := hr
  have hr : RRel 10 ⟨xs, al, lo, hi⟩ L K lo hi := ⟨rfl, rfl⟩
  exact (rrange_high B b L K lo hi O x y w h hn).mono fun e w' h' => ⟨h'.1, _, _, _, _, hr, h'.2⟩
set_option linter.unusedVariables false in
theorem rstep_10_2 {B b : Nat} {L K : List Int} {lo hi : Int} {O : List Int} {x y : Int} {s : St} {w : World} (h : RS B w b L K lo hi O 0 false) (hn : O.length ≤ 1000) (hr : RRel 10 s L K lo hi) (hG : Good 100 s) (hal : s.al.length ≤ 100) (hx : inNum x = true) (hy : inNum y = true) : Calls Tryz.prog 25 #[.pointer (some ⟨b, 0, none⟩), .agg #[.string ⟨#[115, 112, 97, 110]⟩, .int .i64 x, .int .i64 y]] w fun e w' => e = .returned (.tuple #[]) ∧ RDone 10 B w b O false (stepF 10 2 x y s) w' := by
  obtain ⟨xs, al, slo, shi⟩ := s
  obtain ⟨rfl, rfl⟩ : lo = slo ∧ hi = shi := hr
  have hr : RRel 10 ⟨xs, al, lo, hi⟩ L K lo hi := ⟨rfl, rfl⟩
  cases hv : inNum (y + 1) with
  | false =>
    rw [show stepF 10 2 x y ⟨xs, al, lo, hi⟩ = .halt 7 0 from if_neg (by rw [hv]; decide)]
    exact (rrange_span_over B b L K lo hi O x y w h hn hy hv).mono fun e w' h' => ⟨h'.1, _, _, _, _, h'.2⟩
  | true =>
  by_cases h0 : x ≤ y + 1
  · rw [show stepF 10 2 x y ⟨xs, al, lo, hi⟩ = .go 0 ⟨xs, al, x, y⟩ from (if_pos hv).trans (if_pos h0)]
    exact (rrange_span_yes B b L K lo hi O x y w h hn hy hv h0).mono fun e w' h' => ⟨h'.1, _, _, _, _, ⟨rfl, rfl⟩, h'.2⟩
  · rw [show stepF 10 2 x y ⟨xs, al, lo, hi⟩ = .halt 1 0 from (if_pos hv).trans (if_neg h0)]
    exact (rrange_span_no B b L K lo hi O x y w h hn hy hv h0).mono fun e w' h' => ⟨h'.1, _, _, _, _, h'.2⟩
set_option linter.unusedVariables false in
theorem rstep_10_3 {B b : Nat} {L K : List Int} {lo hi : Int} {O : List Int} {x y : Int} {s : St} {w : World} (h : RS B w b L K lo hi O 0 false) (hn : O.length ≤ 1000) (hr : RRel 10 s L K lo hi) (hG : Good 100 s) (hal : s.al.length ≤ 100) (hx : inNum x = true) (hy : inNum y = true) : Calls Tryz.prog 25 #[.pointer (some ⟨b, 0, none⟩), .agg #[.string ⟨#[99, 111, 110, 116, 97, 105, 110, 115]⟩, .int .i64 x, .int .i64 y]] w fun e w' => e = .returned (.tuple #[]) ∧ RDone 10 B w b O true (stepF 10 3 x y s) w' := by
  obtain ⟨xs, al, slo, shi⟩ := s
  obtain ⟨rfl, rfl⟩ : lo = slo ∧ hi = shi := hr
  have hr : RRel 10 ⟨xs, al, lo, hi⟩ L K lo hi := ⟨rfl, rfl⟩
  refine (rrange_contains B b L K lo hi O x y w h hn).mono fun e w' h' => ⟨h'.1, _, _, _, _, hr, ?_⟩
  have h2 := h'.2
  rw [show (decide (lo ≤ x) && decide (x ≤ hi)) = decide (lo ≤ x ∧ x ≤ hi) from (Bool.decide_and _ _).symm] at h2
  exact h2
set_option linter.unusedVariables false in
theorem rstep_10_4 {B b : Nat} {L K : List Int} {lo hi : Int} {O : List Int} {x y : Int} {s : St} {w : World} (h : RS B w b L K lo hi O 0 false) (hn : O.length ≤ 1000) (hr : RRel 10 s L K lo hi) (hG : Good 100 s) (hal : s.al.length ≤ 100) (hx : inNum x = true) (hy : inNum y = true) : Calls Tryz.prog 25 #[.pointer (some ⟨b, 0, none⟩), .agg #[.string ⟨#[115, 105, 122, 101]⟩, .int .i64 x, .int .i64 y]] w fun e w' => e = .returned (.tuple #[]) ∧ RDone 10 B w b O true (stepF 10 4 x y s) w' := by
  obtain ⟨xs, al, slo, shi⟩ := s
  obtain ⟨rfl, rfl⟩ : lo = slo ∧ hi = shi := hr
  have hr : RRel 10 ⟨xs, al, lo, hi⟩ L K lo hi := ⟨rfl, rfl⟩
  cases hv : inNum (hi - lo) with
  | false =>
    have e : widthF lo hi = .stop 7 0 := by unfold widthF; rw [if_neg (by rw [hv]; decide)]
    rw [show stepF 10 4 x y ⟨xs, al, lo, hi⟩ = ofR (widthF lo hi) ⟨xs, al, lo, hi⟩ from rfl, e]
    exact (rrange_size_no1 B b L K lo hi O x y w h hn hG.lo hG.hi hv).mono fun e w' h' => ⟨h'.1, _, _, _, _, h'.2⟩
  | true =>
  cases hv2 : inNum (hi - lo + 1) with
  | false =>
    have e : widthF lo hi = .stop 7 0 := by unfold widthF; rw [if_pos hv, if_neg (by rw [hv2]; decide)]
    rw [show stepF 10 4 x y ⟨xs, al, lo, hi⟩ = ofR (widthF lo hi) ⟨xs, al, lo, hi⟩ from rfl, e]
    exact (rrange_size_no2 B b L K lo hi O x y w h hn hG.lo hG.hi hv hv2).mono fun e w' h' => ⟨h'.1, _, _, _, _, h'.2⟩
  | true =>
    have e : widthF lo hi = .val (hi - lo + 1) := by unfold widthF; rw [if_pos hv, if_pos hv2]
    rw [show stepF 10 4 x y ⟨xs, al, lo, hi⟩ = ofR (widthF lo hi) ⟨xs, al, lo, hi⟩ from rfl, e]
    exact (rrange_size_yes B b L K lo hi O x y w h hn hG.lo hG.hi hv hv2).mono fun e w' h' => ⟨h'.1, _, _, _, _, hr, h'.2⟩
set_option linter.unusedVariables false in
theorem rstep_10_5 {B b : Nat} {L K : List Int} {lo hi : Int} {O : List Int} {x y : Int} {s : St} {w : World} (h : RS B w b L K lo hi O 0 false) (hn : O.length ≤ 1000) (hr : RRel 10 s L K lo hi) (hG : Good 100 s) (hal : s.al.length ≤ 100) (hx : inNum x = true) (hy : inNum y = true) : Calls Tryz.prog 25 #[.pointer (some ⟨b, 0, none⟩), .agg #[.string ⟨#[115, 117, 109]⟩, .int .i64 x, .int .i64 y]] w fun e w' => e = .returned (.tuple #[]) ∧ RDone 10 B w b O true (stepF 10 5 x y s) w' := by
  obtain ⟨xs, al, slo, shi⟩ := s
  obtain ⟨rfl, rfl⟩ : lo = slo ∧ hi = shi := hr
  have hr : RRel 10 ⟨xs, al, lo, hi⟩ L K lo hi := ⟨rfl, rfl⟩
  cases hv : inNum (hi - lo) with
  | false =>
    have e : totF lo hi = .stop 7 0 := by unfold totF widthF; rw [if_neg (by rw [hv]; decide)]
    rw [show stepF 10 5 x y ⟨xs, al, lo, hi⟩ = ofR (totF lo hi) ⟨xs, al, lo, hi⟩ from rfl, e]
    exact (rrange_sum_no1 B b L K lo hi O x y w h hn hG.lo hG.hi hv).mono fun e w' h' => ⟨h'.1, _, _, _, _, h'.2⟩
  | true =>
  cases hv2 : inNum (hi - lo + 1) with
  | false =>
    have e : totF lo hi = .stop 7 0 := by unfold totF widthF; rw [if_pos hv, if_neg (by rw [hv2]; decide)]
    rw [show stepF 10 5 x y ⟨xs, al, lo, hi⟩ = ofR (totF lo hi) ⟨xs, al, lo, hi⟩ from rfl, e]
    exact (rrange_sum_no2 B b L K lo hi O x y w h hn hG.lo hG.hi hv hv2).mono fun e w' h' => ⟨h'.1, _, _, _, _, h'.2⟩
  | true =>
    have e : totF lo hi = totFrom lo (hi + 1 - lo).toNat lo 0 := by unfold totF widthF; rw [if_pos hv, if_pos hv2]
    rw [show stepF 10 5 x y ⟨xs, al, lo, hi⟩ = ofR (totF lo hi) ⟨xs, al, lo, hi⟩ from rfl, e]
    exact (rrange_sum_yes B b L K lo hi O x y w h hn hG.lo hG.hi hv hv2).mono fun e w' h' => ⟨h'.1, RDone.res hr h'.2⟩
set_option linter.unusedVariables false in
theorem rstep_11_0 {B b : Nat} {L K : List Int} {lo hi : Int} {O : List Int} {x y : Int} {s : St} {w : World} (h : RS B w b L K lo hi O 0 false) (hn : O.length ≤ 1000) (hr : RRel 11 s L K lo hi) (hG : Good 100 s) (hal : s.al.length ≤ 100) (hx : inNum x = true) (hy : inNum y = true) : Calls Tryz.prog 26 #[.pointer (some ⟨b, 0, none⟩), .agg #[.string ⟨#[103, 99, 100]⟩, .int .i64 x, .int .i64 y]] w fun e w' => e = .returned (.tuple #[]) ∧ RDone 11 B w b O true (stepF 11 0 x y s) w' := by
  have b1 := inNum_true.1 hx
  have b2 := inNum_true.1 hy
  have bb := And.intro b1 b2
  have hr : RRel 11 s L K lo hi := trivial
  show Calls _ _ _ _ fun e w' => e = .returned (.tuple #[]) ∧ RDone 11 B w b O true (ofR (gcdF x y) s) w'
  by_cases h1 : x < 0
  · exact (rarith_gcd_nox B b L K lo hi O x y w h hn b1.1 b1.2 b2.1 b2.2 h1).mono fun e w' h' => ⟨h'.1, RDone.res hr h'.2⟩
  by_cases h2 : y < 0
  · exact (rarith_gcd_noy B b L K lo hi O x y w h hn b1.1 b1.2 b2.1 b2.2 (by omega) h2).mono fun e w' h' => ⟨h'.1, RDone.res hr h'.2⟩
  obtain ⟨a, rfl⟩ := Int.eq_ofNat_of_zero_le (show 0 ≤ x by omega)
  obtain ⟨c, rfl⟩ := Int.eq_ofNat_of_zero_le (show 0 ≤ y by omega)
  have e : gcdF (a : Int) (c : Int) = .val (Nat.gcd a c : Nat) := by unfold gcdF; rw [if_pos ⟨by omega, by omega⟩]; rfl
  rw [e]
  exact (rarith_gcd_yes B b L K lo hi O a c b1.2 b2.2 w h hn).mono fun e w' h' => ⟨h'.1, RDone.res hr h'.2⟩
set_option linter.unusedVariables false in
theorem rstep_11_1 {B b : Nat} {L K : List Int} {lo hi : Int} {O : List Int} {x y : Int} {s : St} {w : World} (h : RS B w b L K lo hi O 0 false) (hn : O.length ≤ 1000) (hr : RRel 11 s L K lo hi) (hG : Good 100 s) (hal : s.al.length ≤ 100) (hx : inNum x = true) (hy : inNum y = true) : Calls Tryz.prog 26 #[.pointer (some ⟨b, 0, none⟩), .agg #[.string ⟨#[112, 111, 119, 101, 114]⟩, .int .i64 x, .int .i64 y]] w fun e w' => e = .returned (.tuple #[]) ∧ RDone 11 B w b O true (stepF 11 1 x y s) w' := by
  have b1 := inNum_true.1 hx
  have b2 := inNum_true.1 hy
  have bb := And.intro b1 b2
  have hr : RRel 11 s L K lo hi := trivial
  show Calls _ _ _ _ fun e w' => e = .returned (.tuple #[]) ∧ RDone 11 B w b O true (ofR (powF x y) s) w'
  by_cases h2 : y < 0
  · by_cases h1 : x < 0
    · exact (rarith_power_noa B b L K lo hi O x y w h hn b1.1 b1.2 b2.1 b2.2 h1 h2).mono fun e w' h' => ⟨h'.1, RDone.res hr h'.2⟩
    · exact (rarith_power_nob B b L K lo hi O x y w h hn b1.1 b1.2 b2.1 b2.2 (by omega) h2).mono fun e w' h' => ⟨h'.1, RDone.res hr h'.2⟩
  obtain ⟨c, rfl⟩ := Int.eq_ofNat_of_zero_le (show 0 ≤ y by omega)
  have e : powF x (c : Int) = powFrom x c 0 1 := by unfold powF; rw [if_pos (by omega)]; rfl
  rw [e]
  by_cases h1 : x < 0
  · exact (rarith_power_yesa B b L K lo hi O x c b1.1 b1.2 h1 b2.2 w h hn).mono fun e w' h' => ⟨h'.1, RDone.res hr h'.2⟩
  · exact (rarith_power_yesb B b L K lo hi O x c b1.1 b1.2 (by omega) b2.2 w h hn).mono fun e w' h' => ⟨h'.1, RDone.res hr h'.2⟩
set_option linter.unusedVariables false in
theorem rstep_11_2 {B b : Nat} {L K : List Int} {lo hi : Int} {O : List Int} {x y : Int} {s : St} {w : World} (h : RS B w b L K lo hi O 0 false) (hn : O.length ≤ 1000) (hr : RRel 11 s L K lo hi) (hG : Good 100 s) (hal : s.al.length ≤ 100) (hx : inNum x = true) (hy : inNum y = true) (hy0 : 0 ≤ y) : Calls Tryz.prog 26 #[.pointer (some ⟨b, 0, none⟩), .agg #[.string ⟨#[102, 97, 99, 116]⟩, .int .i64 x, .int .i64 y]] w fun e w' => e = .returned (.tuple #[]) ∧ RDone 11 B w b O true (stepF 11 2 x y s) w' := by
  have b1 := inNum_true.1 hx
  have b2 := inNum_true.1 hy
  have bb := And.intro b1 b2
  have hr : RRel 11 s L K lo hi := trivial
  show Calls _ _ _ _ fun e w' => e = .returned (.tuple #[]) ∧ RDone 11 B w b O true (ofR (factF x) s) w'
  by_cases h1 : x < 0
  · exact (rarith_fact_no B b L K lo hi O x y w h hn b1.1 b1.2 b2.1 b2.2 h1).mono fun e w' h' => ⟨h'.1, RDone.res hr h'.2⟩
  by_cases h2 : 64 ≤ x
  · exact (rarith_fact_deep B b L K lo hi O x y w h hn b1.1 b1.2 b2.1 b2.2 h2 hy0).mono fun e w' h' => ⟨h'.1, RDone.res hr h'.2⟩
  have e : factF x = factFrom (x.toNat - 1) 2 1 := by unfold factF; rw [if_neg h1, if_neg h2]
  rw [e]
  exact (rarith_fact_yes B b L K lo hi O x y (by omega) (by omega) hy0 w h hn).mono fun e w' h' => ⟨h'.1, RDone.res hr h'.2⟩
set_option linter.unusedVariables false in
theorem rstep_11_3 {B b : Nat} {L K : List Int} {lo hi : Int} {O : List Int} {x y : Int} {s : St} {w : World} (h : RS B w b L K lo hi O 0 false) (hn : O.length ≤ 1000) (hr : RRel 11 s L K lo hi) (hG : Good 100 s) (hal : s.al.length ≤ 100) (hx : inNum x = true) (hy : inNum y = true) : Calls Tryz.prog 26 #[.pointer (some ⟨b, 0, none⟩), .agg #[.string ⟨#[116, 114, 105, 101, 115]⟩, .int .i64 x, .int .i64 y]] w fun e w' => e = .returned (.tuple #[]) ∧ RDone 11 B w b O true (stepF 11 3 x y s) w' := by
  have b1 := inNum_true.1 hx
  have b2 := inNum_true.1 hy
  have bb := And.intro b1 b2
  have hr : RRel 11 s L K lo hi := trivial
  show Calls _ _ _ _ fun e w' => e = .returned (.tuple #[]) ∧ RDone 11 B w b O true (ofR (triesF x) s) w'
  by_cases h1 : 20 < x
  · exact (rarith_tries_hi B b L K lo hi O x y w h hn b1.1 b1.2 b2.1 b2.2 h1).mono fun e w' h' => ⟨h'.1, RDone.res hr h'.2⟩
  · exact (rarith_tries_lo B b L K lo hi O x y w h hn b1.1 b1.2 b2.1 b2.2 (by omega) _ rfl).mono fun e w' h' => ⟨h'.1, RDone.res hr h'.2⟩
end Go.Proofs.YtpnbhoeghncnnaaGreatDoor

/-
  A part of the proof of Rows.BaseModelsCardSaid (for every class and script BaseModels answers true, and its arguments read as they did; the listed library variables as the program text lays them): texts QC, QCa, TA, QD1, QD2, QD4. By an AI agent.
-/
import Derived.RegionTactic
import Derived.Outline
import Derived.Test.YtpnbhoeghncnnaaGreatDoorM17
import Derived.Test.YtpnbhoeghncnnaaGreatDoorM18
import Derived.Test.YtpnbhoeghncnnaaGreatDoorM25
set_option linter.all false
set_option linter.unusedVariables false
set_option linter.unusedSimpArgs false
namespace Go.Proofs.YtpnbhoeghncnnaaGreatDoor
open Go.RowKit
def errR : Res → Prop
  | .val _ => True
  | .stop _ e => e = 0 ∨ e = 3
theorem powFrom_err (a : Int) : ∀ r k n, errR (powFrom a r k n)
  | 0, _, _ => trivial
  | r + 1, k, n => by
    unfold powFrom; split
    · exact .inr rfl
    · split
      · exact powFrom_err a r _ _
      · exact .inl rfl
theorem factFrom_err : ∀ r k n, errR (factFrom r k n)
  | 0, _, _ => trivial
  | r + 1, k, n => by
    unfold factFrom; split
    · exact factFrom_err r _ _
    · exact .inl rfl
theorem totFrom_err (lo : Int) : ∀ r k n, errR (totFrom lo r k n)
  | 0, _, _ => trivial
  | r + 1, k, n => by
    unfold totFrom; split
    · exact .inr rfl
    · split
      · exact totFrom_err lo r _ _
      · exact .inl rfl
theorem sumFrom_err : ∀ xs n, errR (sumFrom xs n)
  | [], _ => trivial
  | x :: r, n => by
    unfold sumFrom; split
    · exact sumFrom_err r _
    · exact .inl rfl
theorem ofR_err {r : Res} {s : St} {f e : Int} (hr : errR r) (h : ofR r s = .halt f e) : e = 0 ∨ e = 3 := by
  cases r with
  | val v => simp [ofR] at h
  | stop f' e' => simp [ofR] at h; obtain ⟨rfl, rfl⟩ := h; exact hr
theorem widthF_err (lo hi : Int) : errR (widthF lo hi) := by
  unfold widthF; split
  · split
    · trivial
    · exact .inl rfl
  · exact .inl rfl
theorem totF_err (lo hi : Int) : errR (totF lo hi) := by
  unfold totF
  have := widthF_err lo hi
  split
  · rename_i h; rw [h] at this; exact this
  · exact totFrom_err _ _ _ _
theorem halt_err {k i : Nat} {a b : Int} {s : St} {f e : Int} (h : stepF k i a b s = .halt f e) : e = 0 ∨ e = 3 := by
  have I : ∀ so, stepI so i a s = .halt f e → e = 0 ∨ e = 3 := by
    intro so hs
    unfold stepI at hs
    split at hs
    · cases hs
    · cases hs
    · cases hs
    · cases hs
    · refine ofR_err ?_ hs
      unfold itemF; split
      · trivial
      · exact .inl rfl
    · exact ofR_err (sumFrom_err _ _) hs
    · cases hs
    · cases hs
    · cases hs
  unfold stepF at h
  split at h
  · exact I _ h
  · exact I _ h
  · split at h
    · cases h
    · split at h <;> cases h; exact .inl rfl
    · split at h <;> cases h; exact .inl rfl
    · split at h <;> cases h
  · split at h
    · cases h
    · cases h
    · split at h <;> cases h; exact .inl rfl
    · split at h <;> cases h; exact .inl rfl
  · split at h <;> cases h
  · split at h <;> cases h
  · split at h
    · cases h
    · split at h <;> cases h; exact .inl rfl
    · split at h
      · cases h; exact .inl rfl
      · split at h <;> cases h; exact .inl rfl
  · split at h
    · cases h
    · cases h
    · split at h
      · split at h <;> cases h; exact .inl rfl
      · cases h; exact .inl rfl
    · cases h
    · exact ofR_err (widthF_err _ _) h
    · exact ofR_err (totF_err _ _) h
  · split at h
    · refine ofR_err ?_ h
      unfold gcdF; split
      · trivial
      · exact .inl rfl
    · refine ofR_err ?_ h
      unfold powF; split
      · exact powFrom_err _ _ _ _
      · exact .inl rfl
    · refine ofR_err ?_ h
      unfold factF; split
      · exact .inl rfl
      · split
        · exact .inl rfl
        · exact factFrom_err _ _ _
    · refine ofR_err ?_ h
      unfold triesF; split
      · trivial
      · exact .inl rfl
/-- The reference's run: going on, or stopped by a fault. -/
def RRun (k B b : Nat) (l : List ScrT) (R : List Int × Int × Int) (m : Nat) (wr : World) : Prop :=
  ∃ s L K lo hi O, RRel k s L K lo hi ∧ RS B wr b L K lo hi O 0 false ∧ O.length ≤ m ∧ Good m s ∧ s.al.length ≤ m ∧ runF k (l.drop m) s O = R
def RHalt (B b : Nat) (R : List Int × Int × Int) (wr : World) : Prop :=
  ∃ L K lo hi O f, f ≠ 0 ∧ RS B wr b L K lo hi O f false ∧ R = (O, f, 0)
theorem RS.cells {B : Nat} {w : World} {b : Nat} {L K : List Int} {lo hi : Int} {O : List Int} {f : Int} {lg : Bool} (h : RS B w b L K lo hi O f lg) : ∃ so co oO, w.cell? ⟨b, 4, none⟩ = some (.slice so O.length co) ∧ w.cell? ⟨b, 5, none⟩ = some (.int .i64 f) ∧ w.cell? ⟨b, 6, none⟩ = some (.bool lg) ∧ w.frozen? ⟨b, 3, none⟩ = false ∧ w.cell? ⟨b, 3, none⟩ = some (.int .i64 hi) ∧ b < w.heap.size ∧ Lst w (.slice so O.length co) oO O := by
  obtain ⟨vL, vK, vO, oL, oK, oO, hm, hl, hk, ho, hs⟩ := h
  obtain ⟨so, co, rfl⟩ := ho.form
  exact ⟨so, co, oO, hm.c4, hm.c5, hm.c6, hm.fz 3, hm.c3, heap_lt hm, ho⟩
theorem RS.new (w : World) (hi : Int) : RS w.heap.size (w.alloc (.cells #[.slice none 0 0, .slice none 0 0, .int .i64 0, .int .i64 hi, .slice none 0 0, .int .i64 0, .bool false] 57)) w.heap.size [] [] 0 hi [] 0 false :=
  ⟨_, _, _, none, none, none, heap_alloc_new w _, Lst.nil _, Lst.nil _, Lst.nil _, ⟨Nat.le_refl _, (fun g h => nomatch h), (fun g h => nomatch h), (fun g h => nomatch h)⟩⟩
theorem rstepAll_1 {B b : Nat} {L K : List Int} {lo hi : Int} {O : List Int} {x y : Int} {s : St} {w : World} (h : RS B w b L K lo hi O 0 false) (hn : O.length ≤ 1000) (hr : RRel 1 s L K lo hi) (hG : Good 100 s) (hal : s.al.length ≤ 100) (hx : inNum x = true) (hy : inNum y = true) {i : Nat} {t : CallT} (ht : (tabK 1)[i]? = some t) (h2 : 2 ≤ t.2.1 ∨ y = 0) :
    Calls Tryz.prog 19 #[.pointer (some ⟨b, 0, none⟩), .agg #[.string t.1, .int .i64 x, .int .i64 y], .bool false] w fun e w' => e = .returned (.tuple #[]) ∧ RDone 1 B w b O t.2.2 (stepF 1 i x y s) w' := by
  match i, ht with
  | 0, ht => cases ht; exact rstep_1_0 h hn hr hG hal hx hy
  | 1, ht => cases ht; exact rstep_1_1 h hn hr hG hal hx hy
  | 2, ht => cases ht; exact rstep_1_2 h hn hr hG hal hx hy
  | 3, ht => cases ht; exact rstep_1_3 h hn hr hG hal hx hy
  | 4, ht => cases ht; exact rstep_1_4 h hn hr hG hal hx hy
  | 5, ht => cases ht; exact rstep_1_5 h hn hr hG hal hx hy
  | 6, ht => cases ht; exact rstep_1_6 h hn hr hG hal hx hy
  | 7, ht => cases ht; exact rstep_1_7 h hn hr hG hal hx hy
  | 8, ht => cases ht; exact rstep_1_8 h hn hr hG hal hx hy
  | n + 9, ht => simp [tabK, tabINTS] at ht
theorem rstepAll_2 {B b : Nat} {L K : List Int} {lo hi : Int} {O : List Int} {x y : Int} {s : St} {w : World} (h : RS B w b L K lo hi O 0 false) (hn : O.length ≤ 1000) (hr : RRel 2 s L K lo hi) (hG : Good 100 s) (hal : s.al.length ≤ 100) (hx : inNum x = true) (hy : inNum y = true) {i : Nat} {t : CallT} (ht : (tabK 2)[i]? = some t) (h2 : 2 ≤ t.2.1 ∨ y = 0) :
    Calls Tryz.prog 19 #[.pointer (some ⟨b, 0, none⟩), .agg #[.string t.1, .int .i64 x, .int .i64 y], .bool true] w fun e w' => e = .returned (.tuple #[]) ∧ RDone 2 B w b O t.2.2 (stepF 2 i x y s) w' := by
  match i, ht with
  | 0, ht => cases ht; exact rstep_2_0 h hn hr hG hal hx hy
  | 1, ht => cases ht; exact rstep_2_1 h hn hr hG hal hx hy
  | 2, ht => cases ht; exact rstep_2_2 h hn hr hG hal hx hy
  | 3, ht => cases ht; exact rstep_2_3 h hn hr hG hal hx hy
  | 4, ht => cases ht; exact rstep_2_4 h hn hr hG hal hx hy
  | 5, ht => cases ht; exact rstep_2_5 h hn hr hG hal hx hy
  | 6, ht => cases ht; exact rstep_2_6 h hn hr hG hal hx hy
  | 7, ht => cases ht; exact rstep_2_7 h hn hr hG hal hx hy
  | 8, ht => cases ht; exact rstep_2_8 h hn hr hG hal hx hy
  | n + 9, ht => simp [tabK, tabSORTED] at ht
theorem rstepAll_4 {B b : Nat} {L K : List Int} {lo hi : Int} {O : List Int} {x y : Int} {s : St} {w : World} (h : RS B w b L K lo hi O 0 false) (hn : O.length ≤ 1000) (hr : RRel 4 s L K lo hi) (hG : Good 100 s) (hal : s.al.length ≤ 100) (hx : inNum x = true) (hy : inNum y = true) {i : Nat} {t : CallT} (ht : (tabK 4)[i]? = some t) (h2 : 2 ≤ t.2.1 ∨ y = 0) :
    Calls Tryz.prog 20 #[.pointer (some ⟨b, 0, none⟩), .agg #[.string t.1, .int .i64 x, .int .i64 y]] w fun e w' => e = .returned (.tuple #[]) ∧ RDone 4 B w b O t.2.2 (stepF 4 i x y s) w' := by
  match i, ht with
  | 0, ht => cases ht; exact rstep_4_0 h hn hr hG hal hx hy
  | 1, ht => cases ht; exact rstep_4_1 h hn hr hG hal hx hy
  | 2, ht => cases ht; exact rstep_4_2 h hn hr hG hal hx hy
  | 3, ht => cases ht; exact rstep_4_3 h hn hr hG hal hx hy
  | n + 4, ht => simp [tabK, tabSTACK] at ht
theorem rstepAll_5 {B b : Nat} {L K : List Int} {lo hi : Int} {O : List Int} {x y : Int} {s : St} {w : World} (h : RS B w b L K lo hi O 0 false) (hn : O.length ≤ 1000) (hr : RRel 5 s L K lo hi) (hG : Good 100 s) (hal : s.al.length ≤ 100) (hx : inNum x = true) (hy : inNum y = true) {i : Nat} {t : CallT} (ht : (tabK 5)[i]? = some t) (h2 : 2 ≤ t.2.1 ∨ y = 0) :
    Calls Tryz.prog 21 #[.pointer (some ⟨b, 0, none⟩), .agg #[.string t.1, .int .i64 x, .int .i64 y]] w fun e w' => e = .returned (.tuple #[]) ∧ RDone 5 B w b O t.2.2 (stepF 5 i x y s) w' := by
  match i, ht with
  | 0, ht => cases ht; exact rstep_5_0 h hn hr hG hal hx hy
  | 1, ht => cases ht; exact rstep_5_1 h hn hr hG hal hx hy
  | 2, ht => cases ht; exact rstep_5_2 h hn hr hG hal hx hy
  | 3, ht => cases ht; exact rstep_5_3 h hn hr hG hal hx hy
  | n + 4, ht => simp [tabK, tabQUEUE] at ht
theorem rstepAll_7 {B b : Nat} {L K : List Int} {lo hi : Int} {O : List Int} {x y : Int} {s : St} {w : World} (h : RS B w b L K lo hi O 0 false) (hn : O.length ≤ 1000) (hr : RRel 7 s L K lo hi) (hG : Good 100 s) (hal : s.al.length ≤ 100) (hx : inNum x = true) (hy : inNum y = true) {i : Nat} {t : CallT} (ht : (tabK 7)[i]? = some t) (h2 : 2 ≤ t.2.1 ∨ y = 0) :
    Calls Tryz.prog 22 #[.pointer (some ⟨b, 0, none⟩), .agg #[.string t.1, .int .i64 x, .int .i64 y]] w fun e w' => e = .returned (.tuple #[]) ∧ RDone 7 B w b O t.2.2 (stepF 7 i x y s) w' := by
  match i, ht with
  | 0, ht => cases ht; exact rstep_7_0 h hn hr hG hal hx hy
  | 1, ht => cases ht; exact rstep_7_1 h hn hr hG hal hx hy
  | 2, ht => cases ht; exact rstep_7_2 h hn hr hG hal hx hy
  | 3, ht => cases ht; exact rstep_7_3 h hn hr hG hal hx hy
  | 4, ht => cases ht; exact rstep_7_4 h hn hr hG hal hx hy
  | n + 5, ht => simp [tabK, tabTABLE] at ht
theorem rstepAll_8 {B b : Nat} {L K : List Int} {lo hi : Int} {O : List Int} {x y : Int} {s : St} {w : World} (h : RS B w b L K lo hi O 0 false) (hn : O.length ≤ 1000) (hr : RRel 8 s L K lo hi) (hG : Good 100 s) (hal : s.al.length ≤ 100) (hx : inNum x = true) (hy : inNum y = true) {i : Nat} {t : CallT} (ht : (tabK 8)[i]? = some t) (h2 : 2 ≤ t.2.1 ∨ y = 0) :
    Calls Tryz.prog 23 #[.pointer (some ⟨b, 0, none⟩), .agg #[.string t.1, .int .i64 x, .int .i64 y]] w fun e w' => e = .returned (.tuple #[]) ∧ RDone 8 B w b O t.2.2 (stepF 8 i x y s) w' := by
  match i, ht with
  | 0, ht => cases ht; exact rstep_8_0 h hn hr hG hal hx hy
  | 1, ht => cases ht; exact rstep_8_1 h hn hr hG hal hx hy
  | 2, ht => cases ht; exact rstep_8_2 h hn hr hG hal hx hy
  | 3, ht => cases ht; exact rstep_8_3 h hn hr hG hal hx hy
  | n + 4, ht => simp [tabK, tabSET] at ht
theorem rstepAll_9 {B b : Nat} {L K : List Int} {lo hi : Int} {O : List Int} {x y : Int} {s : St} {w : World} (h : RS B w b L K lo hi O 0 false) (hn : O.length ≤ 1000) (hr : RRel 9 s L K lo hi) (hG : Good 100 s) (hal : s.al.length ≤ 100) (hx : inNum x = true) (hy : inNum y = true) {i : Nat} {t : CallT} (ht : (tabK 9)[i]? = some t) (h2 : 2 ≤ t.2.1 ∨ y = 0) :
    Calls Tryz.prog 24 #[.pointer (some ⟨b, 0, none⟩), .agg #[.string t.1, .int .i64 x, .int .i64 y]] w fun e w' => e = .returned (.tuple #[]) ∧ RDone 9 B w b O t.2.2 (stepF 9 i x y s) w' := by
  match i, ht with
  | 0, ht => cases ht; exact rstep_9_0 h hn hr hG hal hx hy
  | 1, ht => cases ht; exact rstep_9_1 h hn hr hG hal hx hy
  | 2, ht => cases ht; exact rstep_9_2 h hn hr hG hal hx hy
  | n + 3, ht => simp [tabK, tabCOUNTER] at ht
theorem rstepAll_10 {B b : Nat} {L K : List Int} {lo hi : Int} {O : List Int} {x y : Int} {s : St} {w : World} (h : RS B w b L K lo hi O 0 false) (hn : O.length ≤ 1000) (hr : RRel 10 s L K lo hi) (hG : Good 100 s) (hal : s.al.length ≤ 100) (hx : inNum x = true) (hy : inNum y = true) {i : Nat} {t : CallT} (ht : (tabK 10)[i]? = some t) (h2 : 2 ≤ t.2.1 ∨ y = 0) :
    Calls Tryz.prog 25 #[.pointer (some ⟨b, 0, none⟩), .agg #[.string t.1, .int .i64 x, .int .i64 y]] w fun e w' => e = .returned (.tuple #[]) ∧ RDone 10 B w b O t.2.2 (stepF 10 i x y s) w' := by
  match i, ht with
  | 0, ht => cases ht; exact rstep_10_0 h hn hr hG hal hx hy
  | 1, ht => cases ht; exact rstep_10_1 h hn hr hG hal hx hy
  | 2, ht => cases ht; exact rstep_10_2 h hn hr hG hal hx hy
  | 3, ht => cases ht; exact rstep_10_3 h hn hr hG hal hx hy
  | 4, ht => cases ht; exact rstep_10_4 h hn hr hG hal hx hy
  | 5, ht => cases ht; exact rstep_10_5 h hn hr hG hal hx hy
  | n + 6, ht => simp [tabK, tabRANGE] at ht
theorem rstepAll_11 {B b : Nat} {L K : List Int} {lo hi : Int} {O : List Int} {x y : Int} {s : St} {w : World} (h : RS B w b L K lo hi O 0 false) (hn : O.length ≤ 1000) (hr : RRel 11 s L K lo hi) (hG : Good 100 s) (hal : s.al.length ≤ 100) (hx : inNum x = true) (hy : inNum y = true) {i : Nat} {t : CallT} (ht : (tabK 11)[i]? = some t) (h2 : 2 ≤ t.2.1 ∨ y = 0) :
    Calls Tryz.prog 26 #[.pointer (some ⟨b, 0, none⟩), .agg #[.string t.1, .int .i64 x, .int .i64 y]] w fun e w' => e = .returned (.tuple #[]) ∧ RDone 11 B w b O t.2.2 (stepF 11 i x y s) w' := by
  match i, ht with
  | 0, ht => cases ht; exact rstep_11_0 h hn hr hG hal hx hy
  | 1, ht => cases ht; exact rstep_11_1 h hn hr hG hal hx hy
  | 2, ht => cases ht; exact rstep_11_2 h hn hr hG hal hx hy (by rcases h2 with h2 | h2; exact absurd h2 (by decide); omega)
  | 3, ht => cases ht; exact rstep_11_3 h hn hr hG hal hx hy
  | n + 4, ht => simp [tabK, tabARITH] at ht
end Go.Proofs.YtpnbhoeghncnnaaGreatDoor
namespace Go.Proofs.YtpnbhoeghncnnaaGreatDoor
open Go.RowKit
theorem rput3 {w w2 : World} {v a0 a1 a2 : Value} (f e : Int) {own : Option Nat} {xs : List Int} (hrb : w2.heap[w.heap.size]? = some (.cells #[a0, a1, a2] 30 (0, 0))) (hl : Lst w2 v own xs) (hfr : Fr (fun _ => False) w w2) :
    (((w2.setCell ⟨w.heap.size, 0, none⟩ v).setCell ⟨w.heap.size, 1, none⟩ (.int .i64 f)).setCell ⟨w.heap.size, 2, none⟩ (.int .i64 e)).heap[w.heap.size]? = some (.cells #[v, .int .i64 f, .int .i64 e] 30 (0, 0)) ∧
    Lst (((w2.setCell ⟨w.heap.size, 0, none⟩ v).setCell ⟨w.heap.size, 1, none⟩ (.int .i64 f)).setCell ⟨w.heap.size, 2, none⟩ (.int .i64 e)) v own xs ∧
    Fr (fun _ => False) w (((w2.setCell ⟨w.heap.size, 0, none⟩ v).setCell ⟨w.heap.size, 1, none⟩ (.int .i64 f)).setCell ⟨w.heap.size, 2, none⟩ (.int .i64 e)) := by
  have hw := heap_setCell (heap_setCell (heap_setCell hrb 0 v) 1 (.int .i64 f)) 2 (.int .i64 e)
  have F3 := ((Fr.setCell (fun k => k = w.heap.size) w2 ⟨w.heap.size, 0, none⟩ v rfl).trans (Fr.setCell (fun k => k = w.heap.size) _ ⟨w.heap.size, 1, none⟩ (.int .i64 f) rfl) (fun _ _ h => h)).trans (Fr.setCell (fun k => k = w.heap.size) _ ⟨w.heap.size, 2, none⟩ (.int .i64 e) rfl) (fun _ _ h => h)
  refine ⟨by simpa using hw, hl.fr F3 ?_, hfr.trans F3 (fun i hi e => by omega)⟩
  rintro g hg rfl
  obtain ⟨cs, hc⟩ := hl.at_own hg
  rw [hrb] at hc
  cases hc
end Go.Proofs.YtpnbhoeghncnnaaGreatDoor
namespace Go.Proofs.YtpnbhoeghncnnaaGreatDoor
open Go.RowKit
theorem model_err (cls : ByteArray) (so : Option Addr) (n c : Nat) (er : Int) (w : World) (he : er ≠ 0) (hchk : ∀ w0, Fr (fun _ => False) w w0 → Calls Tryz.prog 14 #[.string cls, .slice so n c] w0 fun e w' => e = .returned (.int .i64 er) ∧ Fr (fun _ => False) w0 w') :
    Calls Tryz.prog 6 #[.string cls, .slice so n c] w fun e w' => ∃ v own, e = .returned (.tuple #[v, .int .i64 0, .int .i64 er]) ∧ Lst w' v own [] ∧ Fr (fun _ => False) w w' := by
  have HC := Lib.hid (hchk w (Fr.refl _ _))
  have h0 : (er != 0) = true := by simpa using he
  clear hchk he
  go_enter Tryz.func6, Tryz.ntmps6
  go_wp2
  go_step3
  go_wp2_with (go_at_call 14; refine HC.out.mono ?_; rintro e w1 ⟨rfl, hf⟩; have HF1 := Lib.hid hf; clear hf)
  try rw [Exit.noGoto_ret]
  go_ret3
  exact ⟨_, none, rfl, Lst.nil _, HF1.out⟩
theorem rmodel_err (cls : ByteArray) (so : Option Addr) (n c : Nat) (er : Int) (w : World) (he : er ≠ 0) (hchk : ∀ w0, Fr (fun _ => False) w w0 → Calls Tryz.prog 18 #[.string cls, .slice so n c] w0 fun e w' => e = .returned (.int .i64 er) ∧ Fr (fun _ => False) w0 w') :
    Calls Tryz.prog 7 #[.string cls, .slice so n c] w fun e w' => ∃ v own, e = .returned (.agg #[v, .int .i64 0, .int .i64 er]) ∧ Lst w' v own [] ∧ Fr (fun _ => False) w w' := by
  have F0 := Lib.hid (Fr.alloc (fun _ => False) w (.cells #[.slice none 0 0, .int .i64 0, .int .i64 0] 30))
  have HC := Lib.hid (hchk _ F0.out)
  have RB0 := Lib.hid (heap_alloc_new w (.cells #[.slice none 0 0, .int .i64 0, .int .i64 0] 30))
  have h0 : (er != 0) = true := by simpa using he
  clear hchk he
  go_enter Tryz.func7, Tryz.ntmps7
  go_wp2_with (go_at_call 18; refine HC.out.mono ?_; rintro e w1 ⟨rfl, hf⟩; have HF1 := Lib.hid (F0.out.trans hf (fun _ _ h => h)); have RB1 := Lib.hid (hf.heap RB0.out id)
               have cb0 : w1.cell? ⟨w.heap.size, 0, none⟩ = some (.slice none 0 0) := by rw [heap_cell RB1.out]; rfl
               have cb1 : w1.cell? ⟨w.heap.size, 1, none⟩ = some (.int .i64 0) := by rw [heap_cell RB1.out]; rfl
               have cb2 : w1.cell? ⟨w.heap.size, 2, none⟩ = some (.int .i64 0) := by rw [heap_cell RB1.out]; rfl
               have zb0 : w1.frozen? ⟨w.heap.size, 0, none⟩ = false := heap_frozen RB1.out 0
               have zb1 : w1.frozen? ⟨w.heap.size, 1, none⟩ = false := heap_frozen RB1.out 1
               have zb2 : w1.frozen? ⟨w.heap.size, 2, none⟩ = false := heap_frozen RB1.out 2
               clear hf)
  have h3 := rput3 0 er RB1.out (Lst.nil w1) HF1.out
  generalize (((w1.setCell ⟨w.heap.size, 0, none⟩ (.slice none 0 0)).setCell ⟨w.heap.size, 1, none⟩ (.int .i64 0)).setCell ⟨w.heap.size, 2, none⟩ (.int .i64 er)) = w9 at h3 ⊢
  have e0 : w9.cell? ⟨w.heap.size, 0, none⟩ = some (.slice none 0 0) := by rw [heap_cell h3.1]; rfl
  have e1 : w9.cell? ⟨w.heap.size, 1, none⟩ = some (.int .i64 0) := by rw [heap_cell h3.1]; rfl
  have e2 : w9.cell? ⟨w.heap.size, 2, none⟩ = some (.int .i64 er) := by rw [heap_cell h3.1]; rfl
  refine bodyPost_ret (v := .agg #[.slice none 0 0, .int .i64 0, .int .i64 er]) ?_ rfl ⟨_, none, rfl, h3.2.1, h3.2.2⟩
  simp [results, Tryz.results7, go_sem, e0, e1, e2, Result.andThen]
end Go.Proofs.YtpnbhoeghncnnaaGreatDoor
namespace Go.Proofs.YtpnbhoeghncnnaaGreatDoor
open Go.RowKit
set_option maxRecDepth 100000 in
set_option maxHeartbeats 8000000 in
theorem rmodel_1 (so : Option Addr) (c : Nat) (l : List ScrT) (w : World) (hn : (l.length : Int) ≤ 20) (hs : ScrAt w so l) (hg : l.any (badF (tabK 1)) = false) (hchk : ∀ w, ScrAt w so l → Calls Tryz.prog 18 #[.string ⟨#[73, 78, 84, 83]⟩, .slice so l.length c] w fun e w' => e = .returned (.int .i64 0) ∧ Fr (fun _ => False) w w') :
    Calls Tryz.prog 7 #[.string ⟨#[73, 78, 84, 83]⟩, .slice so l.length c] w fun e w' => ∃ v own, e = .returned (.agg #[v, .int .i64 (runF 1 l St0 []).2.1, .int .i64 (runF 1 l St0 []).2.2]) ∧ Lst w' v own (runF 1 l St0 []).1 ∧ Fr (fun _ => False) w w' := by
  have HCHK := Lib.hid hchk
  have HS := Lib.hid hs
  have HG := Lib.hid hg
  generalize hR : runF 1 l St0 [] = R
  have HR := Lib.hid hR
  clear hchk hs hg hR
  have F0 := Lib.hid (Fr.alloc (fun _ => False) w (.cells #[.slice none 0 0, .int .i64 0, .int .i64 0] 30))
  have RB0 := Lib.hid (heap_alloc_new w (.cells #[.slice none 0 0, .int .i64 0, .int .i64 0] 30))
  go_enter Tryz.func7, Tryz.ntmps7
  go_wp2_with (first
    | (go_at_call 18; refine (HCHK.out _ (HS.out.fr F0.out)).mono ?_; rintro e w1 ⟨rfl, hf⟩; have HF1 := Lib.hid (F0.out.trans hf (fun _ _ h => h)); have RB1 := Lib.hid (hf.heap RB0.out id); clear hf))
  have RN := Lib.hid (RS.new w1 (-1))
  have RBN := Lib.hid ((Fr.alloc (fun _ => False) w1 (.cells #[.slice none 0 0, .slice none 0 0, .int .i64 0, .int .i64 (-1), .slice none 0 0, .int .i64 0, .bool false] 57)).heap RB1.out id)
  have FN1 := Lib.hid (Fr.alloc (fun j => w1.heap.size ≤ j) w1 (.cells #[.slice none 0 0, .slice none 0 0, .int .i64 0, .int .i64 (-1), .slice none 0 0, .int .i64 0, .bool false] 57))
  have LT := Lib.hid (heap_lt RB1.out)
  go_loopw [7] (fun i wr => ∃ m : Nat, i = .int .i64 m ∧ m ≤ l.length ∧ Fr (fun j => w1.heap.size ≤ j) w1 wr ∧ (RRun 1 w1.heap.size w1.heap.size l R m wr ∨ RHalt w1.heap.size w1.heap.size R wr)) (fun i _ => l.length - (intOf i).toNat)
  case atStart => exact ⟨0, rfl, by omega, FN1.out, .inl ⟨St0, [], [], 0, (-1), [], rfl, RN.out, Nat.le_refl _, ⟨by simp [St0], (fun _ h => by cases h), by decide, by decide⟩, by simp [St0], by rw [List.drop_zero]; exact HR.out⟩⟩
  case round =>
    obtain ⟨m, rfl, hm, hfr, hst⟩ := hrel
    have HF := Lib.hid hfr
    have RBR := Lib.hid (hfr.heap RB1.out (by have := LT.out; omega))
    have cb0 : wr.cell? ⟨w.heap.size, 0, none⟩ = some (.slice none 0 0) := by rw [heap_cell RBR.out]; rfl
    have cb1 : wr.cell? ⟨w.heap.size, 1, none⟩ = some (.int .i64 0) := by rw [heap_cell RBR.out]; rfl
    have cb2 : wr.cell? ⟨w.heap.size, 2, none⟩ = some (.int .i64 0) := by rw [heap_cell RBR.out]; rfl
    have zb0 : wr.frozen? ⟨w.heap.size, 0, none⟩ = false := heap_frozen RBR.out 0
    have zb1 : wr.frozen? ⟨w.heap.size, 1, none⟩ = false := heap_frozen RBR.out 1
    have zb2 : wr.frozen? ⟨w.heap.size, 2, none⟩ = false := heap_frozen RBR.out 2
    have FT := Lib.hid (HF1.out.trans (Fr.shut HF.out) (fun _ _ h => h))
    clear hfr
    rcases hst with hrun | hhalt
    · obtain ⟨s, L, K, lo, hi, O, hrel, hrs, hO, hgood, hal, hrf⟩ := hrun
      obtain ⟨co0, cco, oO, c4, c5, c6, z3, c3, hblt, hlo⟩ := hrs.cells
      have HREL := Lib.hid hrel
      have HRS := Lib.hid hrs
      have HLO := Lib.hid hlo
      have HO := Lib.hid hO
      have HGD := Lib.hid hgood
      have HAL := Lib.hid hal
      have HRF := Lib.hid hrf
      clear hrel hrs hO hgood hal hrf hlo
      by_cases hlt : m < l.length
      · obtain ⟨⟨nm, va, vb⟩, hy⟩ : ∃ y, l[m]? = some y := ⟨_, List.getElem?_eq_getElem hlt⟩
        obtain ⟨gg, oof, rfl, y0, y1, y2⟩ := HS.out.fr FT.out m _ hy
        obtain ⟨i, ⟨tn, na, tr⟩, hfi, hti, hnm, htix, hva, hvb, ha1, ha2⟩ := good_call HG.out hy
        dsimp only at y0 y1 y2 hfi hnm htix hva hvb ha2
        have HST := Lib.hid (runF_step hy hfi hti s O)
        subst hnm
        have HSTEP := Lib.hid (rstepAll_1 HRS.out (by have := HO.out; omega) HREL.out ⟨by have h1 := HGD.out.len; omega, HGD.out.all, HGD.out.lo, HGD.out.hi⟩ (by have := HAL.out; omega) hva hvb hti ha2)
        have HVA := Lib.hid hva
        have HVB := Lib.hid hvb
        clear hy hfi hti htix hva hvb ha1 ha2
        cases hstep : stepF 1 i va vb s with
        | go n s' =>
          have HH := HSTEP.out
          dsimp only at HH
          rw [hstep] at HH
          have HSTEP2 := Lib.hid HH
          have HR2 := Lib.hid (show runF 1 (l.drop (m + 1)) s' (if tr then O ++ [n] else O) = R by rw [← HRF.out, HST.out]; dsimp only; rw [hstep])
          have HG2 := Lib.hid (good_step (n := m) HVA.out HVB.out HGD.out hstep)
          have HA2 := Lib.hid (al_step hstep)
          clear hstep HH HSTEP
          go_wp2_with (first
            | (go_at_call 19
               refine HSTEP2.out.mono ?_
               rintro e w2 ⟨rfl, L2, K2, lo2, hi2, hrel2, hrs2, hfr2⟩
               obtain ⟨so2, co2, oO2, d4, d5, d6, _, _, _, _⟩ := hrs2.cells
               have HREL2 := Lib.hid hrel2
               have HRS2 := Lib.hid hrs2
               have HFR2 := Lib.hid hfr2
               clear hrel2 hrs2 hfr2 d4))
          go_roundw
          case rel => exact ⟨m + 1, by go_num, by omega, HF.out.trans HFR2.out (fun _ _ h => h), .inl ⟨s', L2, K2, lo2, hi2, _, HREL2.out, HRS2.out, by have := HO.out; split <;> simp <;> omega, HG2.out, by have h1 := HAL.out; have h2 := HA2.out; omega, HR2.out⟩⟩
          case measure => simp [intOf]; omega
        | halt f er =>
          have HH := HSTEP.out
          dsimp only at HH
          rw [hstep] at HH
          have HFAIR := Lib.hid (halt_fair hstep)
          have HERR := Lib.hid (halt_err hstep)
          by_cases he : er = 0
          · subst he
            have HSTEP2 := Lib.hid HH
            have HF0 := Lib.hid (HFAIR.out rfl)
            have HR2 := Lib.hid (show (O, f, (0 : Int)) = R by rw [← HRF.out, HST.out]; dsimp only; rw [hstep]; rfl)
            clear hstep HH HSTEP
            go_wp2_with (first
              | (go_at_call 19
                 refine HSTEP2.out.mono ?_
                 rintro e w2 ⟨rfl, L2, K2, lo2, hi2, hrs2, hfr2⟩
                 obtain ⟨so2, co2, oO2, d4, d5, d6, _, _, _, _⟩ := hrs2.cells
                 have HRS2 := Lib.hid hrs2
                 have HFR2 := Lib.hid hfr2
                 have d6' : w2.cell? ⟨w1.heap.size, 6, none⟩ = some (.bool false) := d6
                 clear hrs2 hfr2 d4 d6))
            go_roundw
            case rel => exact ⟨m + 1, by go_num, by omega, HF.out.trans HFR2.out (fun _ _ h => h), (.inr ⟨L2, K2, lo2, hi2, O, f, HF0.out, HRS2.out, HR2.out.symm⟩)⟩
            case measure => simp [intOf]; omega
          · obtain rfl : er = 3 := by rcases HERR.out with h | h; exact absurd h he; exact h
            have HSTEP2 := Lib.hid HH
            have HR2 := Lib.hid (show (([] : List Int), (0 : Int), (3 : Int)) = R by rw [← HRF.out, HST.out]; dsimp only; rw [hstep]; rfl)
            clear hstep HH HSTEP
            go_wp2_with (first
              | (go_at_call 19
                 refine HSTEP2.out.mono ?_
                 rintro e w2 ⟨rfl, L2, K2, lo2, hi2, hrs2, hfr2⟩
                 obtain ⟨so2, co2, oO2, d4, d5, d6, _, _, _, _⟩ := hrs2.cells
                 have HFR2 := Lib.hid hfr2
                 have RB2 := Lib.hid (hfr2.heap RBR.out (by have := LT.out; omega))
                 have d6' : w2.cell? ⟨w1.heap.size, 6, none⟩ = some (.bool true) := d6
                 have cb0' : w2.cell? ⟨w.heap.size, 0, none⟩ = some (.slice none 0 0) := by rw [heap_cell RB2.out]; rfl
                 have cb1' : w2.cell? ⟨w.heap.size, 1, none⟩ = some (.int .i64 0) := by rw [heap_cell RB2.out]; rfl
                 have cb2' : w2.cell? ⟨w.heap.size, 2, none⟩ = some (.int .i64 0) := by rw [heap_cell RB2.out]; rfl
                 have zb0' : w2.frozen? ⟨w.heap.size, 0, none⟩ = false := heap_frozen RB2.out 0
                 have zb1' : w2.frozen? ⟨w.heap.size, 1, none⟩ = false := heap_frozen RB2.out 1
                 have zb2' : w2.frozen? ⟨w.heap.size, 2, none⟩ = false := heap_frozen RB2.out 2
                 clear hrs2 hfr2 d4 d6 d5))
            have h3 := rput3 0 3 RB2.out (Lst.nil w2) (FT.out.trans HFR2.out (fun i hi h => by have := HF1.out.size; omega))
            generalize (((w2.setCell ⟨w.heap.size, 0, none⟩ (.slice none 0 0)).setCell ⟨w.heap.size, 1, none⟩ (.int .i64 0)).setCell ⟨w.heap.size, 2, none⟩ (.int .i64 3)) = w9 at h3 ⊢
            have e0 : w9.cell? ⟨w.heap.size, 0, none⟩ = some (.slice none 0 0) := by rw [heap_cell h3.1]; rfl
            have e1 : w9.cell? ⟨w.heap.size, 1, none⟩ = some (.int .i64 0) := by rw [heap_cell h3.1]; rfl
            have e2 : w9.cell? ⟨w.heap.size, 2, none⟩ = some (.int .i64 3) := by rw [heap_cell h3.1]; rfl
            refine bodyPost_ret (v := .agg #[.slice none 0 0, .int .i64 0, .int .i64 3]) ?_ rfl ⟨_, none, by rw [← HR2.out], by rw [← HR2.out]; exact h3.2.1, h3.2.2⟩
            simp [results, Tryz.results7, go_sem, e0, e1, e2, Result.andThen]
      · obtain rfl : l.length = m := by omega
        have HR2 := Lib.hid (show (O, (0 : Int), (0 : Int)) = R by rw [← HRF.out, List.drop_length]; rfl)
        go_wp2
        go_region
        all_goals
          go_wp2
          have h3 := rput3 0 0 RBR.out HLO.out FT.out
          generalize (((wr.setCell ⟨w.heap.size, 0, none⟩ (.slice co0 O.length cco)).setCell ⟨w.heap.size, 1, none⟩ (.int .i64 0)).setCell ⟨w.heap.size, 2, none⟩ (.int .i64 0)) = w9 at h3 ⊢
          have e0 : w9.cell? ⟨w.heap.size, 0, none⟩ = some (.slice co0 O.length cco) := by rw [heap_cell h3.1]; rfl
          have e1 : w9.cell? ⟨w.heap.size, 1, none⟩ = some (.int .i64 0) := by rw [heap_cell h3.1]; rfl
          have e2 : w9.cell? ⟨w.heap.size, 2, none⟩ = some (.int .i64 0) := by rw [heap_cell h3.1]; rfl
          refine bodyPost_ret (v := .agg #[.slice co0 O.length cco, .int .i64 0, .int .i64 0]) ?_ rfl ⟨_, oO, by rw [← HR2.out], by rw [← HR2.out]; exact h3.2.1.fr0 (Fr.drew _ _), h3.2.2.trans (Fr.drew _ _) (fun _ _ h => h)⟩
          simp [results, Tryz.results7, go_sem, e0, e1, e2, Result.andThen]
    · obtain ⟨L, K, lo, hi, O, f, hf0, hrs, hRR⟩ := hhalt
      obtain ⟨co0, cco, oO, c4, c5, c6, z3, c3, hblt, hlo⟩ := hrs.cells
      have hfb : (f == 0) = false := by simpa using hf0
      have HLO := Lib.hid hlo
      have HR2 := Lib.hid hRR.symm
      clear hrs hRR hlo hf0
      by_cases hlt : m < l.length
      · go_wp2
        go_region
        all_goals
          go_wp2
          have h3 := rput3 f 0 RBR.out HLO.out FT.out
          generalize (((wr.setCell ⟨w.heap.size, 0, none⟩ (.slice co0 O.length cco)).setCell ⟨w.heap.size, 1, none⟩ (.int .i64 f)).setCell ⟨w.heap.size, 2, none⟩ (.int .i64 0)) = w9 at h3 ⊢
          have e0 : w9.cell? ⟨w.heap.size, 0, none⟩ = some (.slice co0 O.length cco) := by rw [heap_cell h3.1]; rfl
          have e1 : w9.cell? ⟨w.heap.size, 1, none⟩ = some (.int .i64 f) := by rw [heap_cell h3.1]; rfl
          have e2 : w9.cell? ⟨w.heap.size, 2, none⟩ = some (.int .i64 0) := by rw [heap_cell h3.1]; rfl
          refine bodyPost_ret (v := .agg #[.slice co0 O.length cco, .int .i64 f, .int .i64 0]) ?_ rfl ⟨_, oO, by rw [← HR2.out], by rw [← HR2.out]; exact h3.2.1.fr0 (Fr.drew _ _), h3.2.2.trans (Fr.drew _ _) (fun _ _ h => h)⟩
          simp [results, Tryz.results7, go_sem, e0, e1, e2, Result.andThen]
      · obtain rfl : l.length = m := by omega
        go_wp2
        go_region
        all_goals
          go_wp2
          have h3 := rput3 f 0 RBR.out HLO.out FT.out
          generalize (((wr.setCell ⟨w.heap.size, 0, none⟩ (.slice co0 O.length cco)).setCell ⟨w.heap.size, 1, none⟩ (.int .i64 f)).setCell ⟨w.heap.size, 2, none⟩ (.int .i64 0)) = w9 at h3 ⊢
          have e0 : w9.cell? ⟨w.heap.size, 0, none⟩ = some (.slice co0 O.length cco) := by rw [heap_cell h3.1]; rfl
          have e1 : w9.cell? ⟨w.heap.size, 1, none⟩ = some (.int .i64 f) := by rw [heap_cell h3.1]; rfl
          have e2 : w9.cell? ⟨w.heap.size, 2, none⟩ = some (.int .i64 0) := by rw [heap_cell h3.1]; rfl
          refine bodyPost_ret (v := .agg #[.slice co0 O.length cco, .int .i64 f, .int .i64 0]) ?_ rfl ⟨_, oO, by rw [← HR2.out], by rw [← HR2.out]; exact h3.2.1.fr0 (Fr.drew _ _), h3.2.2.trans (Fr.drew _ _) (fun _ _ h => h)⟩
          simp [results, Tryz.results7, go_sem, e0, e1, e2, Result.andThen]
end Go.Proofs.YtpnbhoeghncnnaaGreatDoor
namespace Go.Proofs.YtpnbhoeghncnnaaGreatDoor
open Go.RowKit
set_option maxRecDepth 100000 in
set_option maxHeartbeats 8000000 in
theorem rmodel_2 (so : Option Addr) (c : Nat) (l : List ScrT) (w : World) (hn : (l.length : Int) ≤ 20) (hs : ScrAt w so l) (hg : l.any (badF (tabK 2)) = false) (hchk : ∀ w, ScrAt w so l → Calls Tryz.prog 18 #[.string ⟨#[83, 79, 82, 84, 69, 68]⟩, .slice so l.length c] w fun e w' => e = .returned (.int .i64 0) ∧ Fr (fun _ => False) w w') :
    Calls Tryz.prog 7 #[.string ⟨#[83, 79, 82, 84, 69, 68]⟩, .slice so l.length c] w fun e w' => ∃ v own, e = .returned (.agg #[v, .int .i64 (runF 2 l St0 []).2.1, .int .i64 (runF 2 l St0 []).2.2]) ∧ Lst w' v own (runF 2 l St0 []).1 ∧ Fr (fun _ => False) w w' := by
  have HCHK := Lib.hid hchk
  have HS := Lib.hid hs
  have HG := Lib.hid hg
  generalize hR : runF 2 l St0 [] = R
  have HR := Lib.hid hR
  clear hchk hs hg hR
  have F0 := Lib.hid (Fr.alloc (fun _ => False) w (.cells #[.slice none 0 0, .int .i64 0, .int .i64 0] 30))
  have RB0 := Lib.hid (heap_alloc_new w (.cells #[.slice none 0 0, .int .i64 0, .int .i64 0] 30))
  go_enter Tryz.func7, Tryz.ntmps7
  go_wp2_with (first
    | (go_at_call 18; refine (HCHK.out _ (HS.out.fr F0.out)).mono ?_; rintro e w1 ⟨rfl, hf⟩; have HF1 := Lib.hid (F0.out.trans hf (fun _ _ h => h)); have RB1 := Lib.hid (hf.heap RB0.out id); clear hf))
  have RN := Lib.hid (RS.new w1 (-1))
  have RBN := Lib.hid ((Fr.alloc (fun _ => False) w1 (.cells #[.slice none 0 0, .slice none 0 0, .int .i64 0, .int .i64 (-1), .slice none 0 0, .int .i64 0, .bool false] 57)).heap RB1.out id)
  have FN1 := Lib.hid (Fr.alloc (fun j => w1.heap.size ≤ j) w1 (.cells #[.slice none 0 0, .slice none 0 0, .int .i64 0, .int .i64 (-1), .slice none 0 0, .int .i64 0, .bool false] 57))
  have LT := Lib.hid (heap_lt RB1.out)
  go_loopw [7] (fun i wr => ∃ m : Nat, i = .int .i64 m ∧ m ≤ l.length ∧ Fr (fun j => w1.heap.size ≤ j) w1 wr ∧ (RRun 2 w1.heap.size w1.heap.size l R m wr ∨ RHalt w1.heap.size w1.heap.size R wr)) (fun i _ => l.length - (intOf i).toNat)
  case atStart => exact ⟨0, rfl, by omega, FN1.out, .inl ⟨St0, [], [], 0, (-1), [], rfl, RN.out, Nat.le_refl _, ⟨by simp [St0], (fun _ h => by cases h), by decide, by decide⟩, by simp [St0], by rw [List.drop_zero]; exact HR.out⟩⟩
  case round =>
    obtain ⟨m, rfl, hm, hfr, hst⟩ := hrel
    have HF := Lib.hid hfr
    have RBR := Lib.hid (hfr.heap RB1.out (by have := LT.out; omega))
    have cb0 : wr.cell? ⟨w.heap.size, 0, none⟩ = some (.slice none 0 0) := by rw [heap_cell RBR.out]; rfl
    have cb1 : wr.cell? ⟨w.heap.size, 1, none⟩ = some (.int .i64 0) := by rw [heap_cell RBR.out]; rfl
    have cb2 : wr.cell? ⟨w.heap.size, 2, none⟩ = some (.int .i64 0) := by rw [heap_cell RBR.out]; rfl
    have zb0 : wr.frozen? ⟨w.heap.size, 0, none⟩ = false := heap_frozen RBR.out 0
    have zb1 : wr.frozen? ⟨w.heap.size, 1, none⟩ = false := heap_frozen RBR.out 1
    have zb2 : wr.frozen? ⟨w.heap.size, 2, none⟩ = false := heap_frozen RBR.out 2
    have FT := Lib.hid (HF1.out.trans (Fr.shut HF.out) (fun _ _ h => h))
    clear hfr
    rcases hst with hrun | hhalt
    · obtain ⟨s, L, K, lo, hi, O, hrel, hrs, hO, hgood, hal, hrf⟩ := hrun
      obtain ⟨co0, cco, oO, c4, c5, c6, z3, c3, hblt, hlo⟩ := hrs.cells
      have HREL := Lib.hid hrel
      have HRS := Lib.hid hrs
      have HLO := Lib.hid hlo
      have HO := Lib.hid hO
      have HGD := Lib.hid hgood
      have HAL := Lib.hid hal
      have HRF := Lib.hid hrf
      clear hrel hrs hO hgood hal hrf hlo
      by_cases hlt : m < l.length
      · obtain ⟨⟨nm, va, vb⟩, hy⟩ : ∃ y, l[m]? = some y := ⟨_, List.getElem?_eq_getElem hlt⟩
        obtain ⟨gg, oof, rfl, y0, y1, y2⟩ := HS.out.fr FT.out m _ hy
        obtain ⟨i, ⟨tn, na, tr⟩, hfi, hti, hnm, htix, hva, hvb, ha1, ha2⟩ := good_call HG.out hy
        dsimp only at y0 y1 y2 hfi hnm htix hva hvb ha2
        have HST := Lib.hid (runF_step hy hfi hti s O)
        subst hnm
        have HSTEP := Lib.hid (rstepAll_2 HRS.out (by have := HO.out; omega) HREL.out ⟨by have h1 := HGD.out.len; omega, HGD.out.all, HGD.out.lo, HGD.out.hi⟩ (by have := HAL.out; omega) hva hvb hti ha2)
        have HVA := Lib.hid hva
        have HVB := Lib.hid hvb
        clear hy hfi hti htix hva hvb ha1 ha2
        cases hstep : stepF 2 i va vb s with
        | go n s' =>
          have HH := HSTEP.out
          dsimp only at HH
          rw [hstep] at HH
          have HSTEP2 := Lib.hid HH
          have HR2 := Lib.hid (show runF 2 (l.drop (m + 1)) s' (if tr then O ++ [n] else O) = R by rw [← HRF.out, HST.out]; dsimp only; rw [hstep])
          have HG2 := Lib.hid (good_step (n := m) HVA.out HVB.out HGD.out hstep)
          have HA2 := Lib.hid (al_step hstep)
          clear hstep HH HSTEP
          go_wp2_with (first
            | (go_at_call 19
               refine HSTEP2.out.mono ?_
               rintro e w2 ⟨rfl, L2, K2, lo2, hi2, hrel2, hrs2, hfr2⟩
               obtain ⟨so2, co2, oO2, d4, d5, d6, _, _, _, _⟩ := hrs2.cells
               have HREL2 := Lib.hid hrel2
               have HRS2 := Lib.hid hrs2
               have HFR2 := Lib.hid hfr2
               clear hrel2 hrs2 hfr2 d4))
          go_roundw
          case rel => exact ⟨m + 1, by go_num, by omega, HF.out.trans HFR2.out (fun _ _ h => h), .inl ⟨s', L2, K2, lo2, hi2, _, HREL2.out, HRS2.out, by have := HO.out; split <;> simp <;> omega, HG2.out, by have h1 := HAL.out; have h2 := HA2.out; omega, HR2.out⟩⟩
          case measure => simp [intOf]; omega
        | halt f er =>
          have HH := HSTEP.out
          dsimp only at HH
          rw [hstep] at HH
          have HFAIR := Lib.hid (halt_fair hstep)
          have HERR := Lib.hid (halt_err hstep)
          by_cases he : er = 0
          · subst he
            have HSTEP2 := Lib.hid HH
            have HF0 := Lib.hid (HFAIR.out rfl)
            have HR2 := Lib.hid (show (O, f, (0 : Int)) = R by rw [← HRF.out, HST.out]; dsimp only; rw [hstep]; rfl)
            clear hstep HH HSTEP
            go_wp2_with (first
              | (go_at_call 19
                 refine HSTEP2.out.mono ?_
                 rintro e w2 ⟨rfl, L2, K2, lo2, hi2, hrs2, hfr2⟩
                 obtain ⟨so2, co2, oO2, d4, d5, d6, _, _, _, _⟩ := hrs2.cells
                 have HRS2 := Lib.hid hrs2
                 have HFR2 := Lib.hid hfr2
                 have d6' : w2.cell? ⟨w1.heap.size, 6, none⟩ = some (.bool false) := d6
                 clear hrs2 hfr2 d4 d6))
            go_roundw
            case rel => exact ⟨m + 1, by go_num, by omega, HF.out.trans HFR2.out (fun _ _ h => h), (.inr ⟨L2, K2, lo2, hi2, O, f, HF0.out, HRS2.out, HR2.out.symm⟩)⟩
            case measure => simp [intOf]; omega
          · obtain rfl : er = 3 := by rcases HERR.out with h | h; exact absurd h he; exact h
            have HSTEP2 := Lib.hid HH
            have HR2 := Lib.hid (show (([] : List Int), (0 : Int), (3 : Int)) = R by rw [← HRF.out, HST.out]; dsimp only; rw [hstep]; rfl)
            clear hstep HH HSTEP
            go_wp2_with (first
              | (go_at_call 19
                 refine HSTEP2.out.mono ?_
                 rintro e w2 ⟨rfl, L2, K2, lo2, hi2, hrs2, hfr2⟩
                 obtain ⟨so2, co2, oO2, d4, d5, d6, _, _, _, _⟩ := hrs2.cells
                 have HFR2 := Lib.hid hfr2
                 have RB2 := Lib.hid (hfr2.heap RBR.out (by have := LT.out; omega))
                 have d6' : w2.cell? ⟨w1.heap.size, 6, none⟩ = some (.bool true) := d6
                 have cb0' : w2.cell? ⟨w.heap.size, 0, none⟩ = some (.slice none 0 0) := by rw [heap_cell RB2.out]; rfl
                 have cb1' : w2.cell? ⟨w.heap.size, 1, none⟩ = some (.int .i64 0) := by rw [heap_cell RB2.out]; rfl
                 have cb2' : w2.cell? ⟨w.heap.size, 2, none⟩ = some (.int .i64 0) := by rw [heap_cell RB2.out]; rfl
                 have zb0' : w2.frozen? ⟨w.heap.size, 0, none⟩ = false := heap_frozen RB2.out 0
                 have zb1' : w2.frozen? ⟨w.heap.size, 1, none⟩ = false := heap_frozen RB2.out 1
                 have zb2' : w2.frozen? ⟨w.heap.size, 2, none⟩ = false := heap_frozen RB2.out 2
                 clear hrs2 hfr2 d4 d6 d5))
            have h3 := rput3 0 3 RB2.out (Lst.nil w2) (FT.out.trans HFR2.out (fun i hi h => by have := HF1.out.size; omega))
            generalize (((w2.setCell ⟨w.heap.size, 0, none⟩ (.slice none 0 0)).setCell ⟨w.heap.size, 1, none⟩ (.int .i64 0)).setCell ⟨w.heap.size, 2, none⟩ (.int .i64 3)) = w9 at h3 ⊢
            have e0 : w9.cell? ⟨w.heap.size, 0, none⟩ = some (.slice none 0 0) := by rw [heap_cell h3.1]; rfl
            have e1 : w9.cell? ⟨w.heap.size, 1, none⟩ = some (.int .i64 0) := by rw [heap_cell h3.1]; rfl
            have e2 : w9.cell? ⟨w.heap.size, 2, none⟩ = some (.int .i64 3) := by rw [heap_cell h3.1]; rfl
            refine bodyPost_ret (v := .agg #[.slice none 0 0, .int .i64 0, .int .i64 3]) ?_ rfl ⟨_, none, by rw [← HR2.out], by rw [← HR2.out]; exact h3.2.1, h3.2.2⟩
            simp [results, Tryz.results7, go_sem, e0, e1, e2, Result.andThen]
      · obtain rfl : l.length = m := by omega
        have HR2 := Lib.hid (show (O, (0 : Int), (0 : Int)) = R by rw [← HRF.out, List.drop_length]; rfl)
        go_wp2
        go_region
        all_goals
          go_wp2
          have h3 := rput3 0 0 RBR.out HLO.out FT.out
          generalize (((wr.setCell ⟨w.heap.size, 0, none⟩ (.slice co0 O.length cco)).setCell ⟨w.heap.size, 1, none⟩ (.int .i64 0)).setCell ⟨w.heap.size, 2, none⟩ (.int .i64 0)) = w9 at h3 ⊢
          have e0 : w9.cell? ⟨w.heap.size, 0, none⟩ = some (.slice co0 O.length cco) := by rw [heap_cell h3.1]; rfl
          have e1 : w9.cell? ⟨w.heap.size, 1, none⟩ = some (.int .i64 0) := by rw [heap_cell h3.1]; rfl
          have e2 : w9.cell? ⟨w.heap.size, 2, none⟩ = some (.int .i64 0) := by rw [heap_cell h3.1]; rfl
          refine bodyPost_ret (v := .agg #[.slice co0 O.length cco, .int .i64 0, .int .i64 0]) ?_ rfl ⟨_, oO, by rw [← HR2.out], by rw [← HR2.out]; exact h3.2.1.fr0 (Fr.drew _ _), h3.2.2.trans (Fr.drew _ _) (fun _ _ h => h)⟩
          simp [results, Tryz.results7, go_sem, e0, e1, e2, Result.andThen]
    · obtain ⟨L, K, lo, hi, O, f, hf0, hrs, hRR⟩ := hhalt
      obtain ⟨co0, cco, oO, c4, c5, c6, z3, c3, hblt, hlo⟩ := hrs.cells
      have hfb : (f == 0) = false := by simpa using hf0
      have HLO := Lib.hid hlo
      have HR2 := Lib.hid hRR.symm
      clear hrs hRR hlo hf0
      by_cases hlt : m < l.length
      · go_wp2
        go_region
        all_goals
          go_wp2
          have h3 := rput3 f 0 RBR.out HLO.out FT.out
          generalize (((wr.setCell ⟨w.heap.size, 0, none⟩ (.slice co0 O.length cco)).setCell ⟨w.heap.size, 1, none⟩ (.int .i64 f)).setCell ⟨w.heap.size, 2, none⟩ (.int .i64 0)) = w9 at h3 ⊢
          have e0 : w9.cell? ⟨w.heap.size, 0, none⟩ = some (.slice co0 O.length cco) := by rw [heap_cell h3.1]; rfl
          have e1 : w9.cell? ⟨w.heap.size, 1, none⟩ = some (.int .i64 f) := by rw [heap_cell h3.1]; rfl
          have e2 : w9.cell? ⟨w.heap.size, 2, none⟩ = some (.int .i64 0) := by rw [heap_cell h3.1]; rfl
          refine bodyPost_ret (v := .agg #[.slice co0 O.length cco, .int .i64 f, .int .i64 0]) ?_ rfl ⟨_, oO, by rw [← HR2.out], by rw [← HR2.out]; exact h3.2.1.fr0 (Fr.drew _ _), h3.2.2.trans (Fr.drew _ _) (fun _ _ h => h)⟩
          simp [results, Tryz.results7, go_sem, e0, e1, e2, Result.andThen]
      · obtain rfl : l.length = m := by omega
        go_wp2
        go_region
        all_goals
          go_wp2
          have h3 := rput3 f 0 RBR.out HLO.out FT.out
          generalize (((wr.setCell ⟨w.heap.size, 0, none⟩ (.slice co0 O.length cco)).setCell ⟨w.heap.size, 1, none⟩ (.int .i64 f)).setCell ⟨w.heap.size, 2, none⟩ (.int .i64 0)) = w9 at h3 ⊢
          have e0 : w9.cell? ⟨w.heap.size, 0, none⟩ = some (.slice co0 O.length cco) := by rw [heap_cell h3.1]; rfl
          have e1 : w9.cell? ⟨w.heap.size, 1, none⟩ = some (.int .i64 f) := by rw [heap_cell h3.1]; rfl
          have e2 : w9.cell? ⟨w.heap.size, 2, none⟩ = some (.int .i64 0) := by rw [heap_cell h3.1]; rfl
          refine bodyPost_ret (v := .agg #[.slice co0 O.length cco, .int .i64 f, .int .i64 0]) ?_ rfl ⟨_, oO, by rw [← HR2.out], by rw [← HR2.out]; exact h3.2.1.fr0 (Fr.drew _ _), h3.2.2.trans (Fr.drew _ _) (fun _ _ h => h)⟩
          simp [results, Tryz.results7, go_sem, e0, e1, e2, Result.andThen]
end Go.Proofs.YtpnbhoeghncnnaaGreatDoor
namespace Go.Proofs.YtpnbhoeghncnnaaGreatDoor
open Go.RowKit
set_option maxRecDepth 100000 in
set_option maxHeartbeats 8000000 in
theorem rmodel_4 (so : Option Addr) (c : Nat) (l : List ScrT) (w : World) (hn : (l.length : Int) ≤ 20) (hs : ScrAt w so l) (hg : l.any (badF (tabK 4)) = false) (hchk : ∀ w, ScrAt w so l → Calls Tryz.prog 18 #[.string ⟨#[83, 84, 65, 67, 75]⟩, .slice so l.length c] w fun e w' => e = .returned (.int .i64 0) ∧ Fr (fun _ => False) w w') :
    Calls Tryz.prog 7 #[.string ⟨#[83, 84, 65, 67, 75]⟩, .slice so l.length c] w fun e w' => ∃ v own, e = .returned (.agg #[v, .int .i64 (runF 4 l St0 []).2.1, .int .i64 (runF 4 l St0 []).2.2]) ∧ Lst w' v own (runF 4 l St0 []).1 ∧ Fr (fun _ => False) w w' := by
  have HCHK := Lib.hid hchk
  have HS := Lib.hid hs
  have HG := Lib.hid hg
  generalize hR : runF 4 l St0 [] = R
  have HR := Lib.hid hR
  clear hchk hs hg hR
  have F0 := Lib.hid (Fr.alloc (fun _ => False) w (.cells #[.slice none 0 0, .int .i64 0, .int .i64 0] 30))
  have RB0 := Lib.hid (heap_alloc_new w (.cells #[.slice none 0 0, .int .i64 0, .int .i64 0] 30))
  go_enter Tryz.func7, Tryz.ntmps7
  go_wp2_with (first
    | (go_at_call 18; refine (HCHK.out _ (HS.out.fr F0.out)).mono ?_; rintro e w1 ⟨rfl, hf⟩; have HF1 := Lib.hid (F0.out.trans hf (fun _ _ h => h)); have RB1 := Lib.hid (hf.heap RB0.out id); clear hf))
  have RN := Lib.hid (RS.new w1 (-1))
  have RBN := Lib.hid ((Fr.alloc (fun _ => False) w1 (.cells #[.slice none 0 0, .slice none 0 0, .int .i64 0, .int .i64 (-1), .slice none 0 0, .int .i64 0, .bool false] 57)).heap RB1.out id)
  have FN1 := Lib.hid (Fr.alloc (fun j => w1.heap.size ≤ j) w1 (.cells #[.slice none 0 0, .slice none 0 0, .int .i64 0, .int .i64 (-1), .slice none 0 0, .int .i64 0, .bool false] 57))
  have LT := Lib.hid (heap_lt RB1.out)
  go_loopw [7] (fun i wr => ∃ m : Nat, i = .int .i64 m ∧ m ≤ l.length ∧ Fr (fun j => w1.heap.size ≤ j) w1 wr ∧ (RRun 4 w1.heap.size w1.heap.size l R m wr ∨ RHalt w1.heap.size w1.heap.size R wr)) (fun i _ => l.length - (intOf i).toNat)
  case atStart => exact ⟨0, rfl, by omega, FN1.out, .inl ⟨St0, [], [], 0, (-1), [], rfl, RN.out, Nat.le_refl _, ⟨by simp [St0], (fun _ h => by cases h), by decide, by decide⟩, by simp [St0], by rw [List.drop_zero]; exact HR.out⟩⟩
  case round =>
    obtain ⟨m, rfl, hm, hfr, hst⟩ := hrel
    have HF := Lib.hid hfr
    have RBR := Lib.hid (hfr.heap RB1.out (by have := LT.out; omega))
    have cb0 : wr.cell? ⟨w.heap.size, 0, none⟩ = some (.slice none 0 0) := by rw [heap_cell RBR.out]; rfl
    have cb1 : wr.cell? ⟨w.heap.size, 1, none⟩ = some (.int .i64 0) := by rw [heap_cell RBR.out]; rfl
    have cb2 : wr.cell? ⟨w.heap.size, 2, none⟩ = some (.int .i64 0) := by rw [heap_cell RBR.out]; rfl
    have zb0 : wr.frozen? ⟨w.heap.size, 0, none⟩ = false := heap_frozen RBR.out 0
    have zb1 : wr.frozen? ⟨w.heap.size, 1, none⟩ = false := heap_frozen RBR.out 1
    have zb2 : wr.frozen? ⟨w.heap.size, 2, none⟩ = false := heap_frozen RBR.out 2
    have FT := Lib.hid (HF1.out.trans (Fr.shut HF.out) (fun _ _ h => h))
    clear hfr
    rcases hst with hrun | hhalt
    · obtain ⟨s, L, K, lo, hi, O, hrel, hrs, hO, hgood, hal, hrf⟩ := hrun
      obtain ⟨co0, cco, oO, c4, c5, c6, z3, c3, hblt, hlo⟩ := hrs.cells
      have HREL := Lib.hid hrel
      have HRS := Lib.hid hrs
      have HLO := Lib.hid hlo
      have HO := Lib.hid hO
      have HGD := Lib.hid hgood
      have HAL := Lib.hid hal
      have HRF := Lib.hid hrf
      clear hrel hrs hO hgood hal hrf hlo
      by_cases hlt : m < l.length
      · obtain ⟨⟨nm, va, vb⟩, hy⟩ : ∃ y, l[m]? = some y := ⟨_, List.getElem?_eq_getElem hlt⟩
        obtain ⟨gg, oof, rfl, y0, y1, y2⟩ := HS.out.fr FT.out m _ hy
        obtain ⟨i, ⟨tn, na, tr⟩, hfi, hti, hnm, htix, hva, hvb, ha1, ha2⟩ := good_call HG.out hy
        dsimp only at y0 y1 y2 hfi hnm htix hva hvb ha2
        have HST := Lib.hid (runF_step hy hfi hti s O)
        subst hnm
        have HSTEP := Lib.hid (rstepAll_4 HRS.out (by have := HO.out; omega) HREL.out ⟨by have h1 := HGD.out.len; omega, HGD.out.all, HGD.out.lo, HGD.out.hi⟩ (by have := HAL.out; omega) hva hvb hti ha2)
        have HVA := Lib.hid hva
        have HVB := Lib.hid hvb
        clear hy hfi hti htix hva hvb ha1 ha2
        cases hstep : stepF 4 i va vb s with
        | go n s' =>
          have HH := HSTEP.out
          dsimp only at HH
          rw [hstep] at HH
          have HSTEP2 := Lib.hid HH
          have HR2 := Lib.hid (show runF 4 (l.drop (m + 1)) s' (if tr then O ++ [n] else O) = R by rw [← HRF.out, HST.out]; dsimp only; rw [hstep])
          have HG2 := Lib.hid (good_step (n := m) HVA.out HVB.out HGD.out hstep)
          have HA2 := Lib.hid (al_step hstep)
          clear hstep HH HSTEP
          go_wp2_with (first
            | (go_at_call 20
               refine HSTEP2.out.mono ?_
               rintro e w2 ⟨rfl, L2, K2, lo2, hi2, hrel2, hrs2, hfr2⟩
               obtain ⟨so2, co2, oO2, d4, d5, d6, _, _, _, _⟩ := hrs2.cells
               have HREL2 := Lib.hid hrel2
               have HRS2 := Lib.hid hrs2
               have HFR2 := Lib.hid hfr2
               clear hrel2 hrs2 hfr2 d4))
          go_roundw
          case rel => exact ⟨m + 1, by go_num, by omega, HF.out.trans HFR2.out (fun _ _ h => h), .inl ⟨s', L2, K2, lo2, hi2, _, HREL2.out, HRS2.out, by have := HO.out; split <;> simp <;> omega, HG2.out, by have h1 := HAL.out; have h2 := HA2.out; omega, HR2.out⟩⟩
          case measure => simp [intOf]; omega
        | halt f er =>
          have HH := HSTEP.out
          dsimp only at HH
          rw [hstep] at HH
          have HFAIR := Lib.hid (halt_fair hstep)
          have HERR := Lib.hid (halt_err hstep)
          by_cases he : er = 0
          · subst he
            have HSTEP2 := Lib.hid HH
            have HF0 := Lib.hid (HFAIR.out rfl)
            have HR2 := Lib.hid (show (O, f, (0 : Int)) = R by rw [← HRF.out, HST.out]; dsimp only; rw [hstep]; rfl)
            clear hstep HH HSTEP
            go_wp2_with (first
              | (go_at_call 20
                 refine HSTEP2.out.mono ?_
                 rintro e w2 ⟨rfl, L2, K2, lo2, hi2, hrs2, hfr2⟩
                 obtain ⟨so2, co2, oO2, d4, d5, d6, _, _, _, _⟩ := hrs2.cells
                 have HRS2 := Lib.hid hrs2
                 have HFR2 := Lib.hid hfr2
                 have d6' : w2.cell? ⟨w1.heap.size, 6, none⟩ = some (.bool false) := d6
                 clear hrs2 hfr2 d4 d6))
            go_roundw
            case rel => exact ⟨m + 1, by go_num, by omega, HF.out.trans HFR2.out (fun _ _ h => h), (.inr ⟨L2, K2, lo2, hi2, O, f, HF0.out, HRS2.out, HR2.out.symm⟩)⟩
            case measure => simp [intOf]; omega
          · obtain rfl : er = 3 := by rcases HERR.out with h | h; exact absurd h he; exact h
            have HSTEP2 := Lib.hid HH
            have HR2 := Lib.hid (show (([] : List Int), (0 : Int), (3 : Int)) = R by rw [← HRF.out, HST.out]; dsimp only; rw [hstep]; rfl)
            clear hstep HH HSTEP
            go_wp2_with (first
              | (go_at_call 20
                 refine HSTEP2.out.mono ?_
                 rintro e w2 ⟨rfl, L2, K2, lo2, hi2, hrs2, hfr2⟩
                 obtain ⟨so2, co2, oO2, d4, d5, d6, _, _, _, _⟩ := hrs2.cells
                 have HFR2 := Lib.hid hfr2
                 have RB2 := Lib.hid (hfr2.heap RBR.out (by have := LT.out; omega))
                 have d6' : w2.cell? ⟨w1.heap.size, 6, none⟩ = some (.bool true) := d6
                 have cb0' : w2.cell? ⟨w.heap.size, 0, none⟩ = some (.slice none 0 0) := by rw [heap_cell RB2.out]; rfl
                 have cb1' : w2.cell? ⟨w.heap.size, 1, none⟩ = some (.int .i64 0) := by rw [heap_cell RB2.out]; rfl
                 have cb2' : w2.cell? ⟨w.heap.size, 2, none⟩ = some (.int .i64 0) := by rw [heap_cell RB2.out]; rfl
                 have zb0' : w2.frozen? ⟨w.heap.size, 0, none⟩ = false := heap_frozen RB2.out 0
                 have zb1' : w2.frozen? ⟨w.heap.size, 1, none⟩ = false := heap_frozen RB2.out 1
                 have zb2' : w2.frozen? ⟨w.heap.size, 2, none⟩ = false := heap_frozen RB2.out 2
                 clear hrs2 hfr2 d4 d6 d5))
            have h3 := rput3 0 3 RB2.out (Lst.nil w2) (FT.out.trans HFR2.out (fun i hi h => by have := HF1.out.size; omega))
            generalize (((w2.setCell ⟨w.heap.size, 0, none⟩ (.slice none 0 0)).setCell ⟨w.heap.size, 1, none⟩ (.int .i64 0)).setCell ⟨w.heap.size, 2, none⟩ (.int .i64 3)) = w9 at h3 ⊢
            have e0 : w9.cell? ⟨w.heap.size, 0, none⟩ = some (.slice none 0 0) := by rw [heap_cell h3.1]; rfl
            have e1 : w9.cell? ⟨w.heap.size, 1, none⟩ = some (.int .i64 0) := by rw [heap_cell h3.1]; rfl
            have e2 : w9.cell? ⟨w.heap.size, 2, none⟩ = some (.int .i64 3) := by rw [heap_cell h3.1]; rfl
            refine bodyPost_ret (v := .agg #[.slice none 0 0, .int .i64 0, .int .i64 3]) ?_ rfl ⟨_, none, by rw [← HR2.out], by rw [← HR2.out]; exact h3.2.1, h3.2.2⟩
            simp [results, Tryz.results7, go_sem, e0, e1, e2, Result.andThen]
      · obtain rfl : l.length = m := by omega
        have HR2 := Lib.hid (show (O, (0 : Int), (0 : Int)) = R by rw [← HRF.out, List.drop_length]; rfl)
        go_wp2
        go_region
        all_goals
          go_wp2
          have h3 := rput3 0 0 RBR.out HLO.out FT.out
          generalize (((wr.setCell ⟨w.heap.size, 0, none⟩ (.slice co0 O.length cco)).setCell ⟨w.heap.size, 1, none⟩ (.int .i64 0)).setCell ⟨w.heap.size, 2, none⟩ (.int .i64 0)) = w9 at h3 ⊢
          have e0 : w9.cell? ⟨w.heap.size, 0, none⟩ = some (.slice co0 O.length cco) := by rw [heap_cell h3.1]; rfl
          have e1 : w9.cell? ⟨w.heap.size, 1, none⟩ = some (.int .i64 0) := by rw [heap_cell h3.1]; rfl
          have e2 : w9.cell? ⟨w.heap.size, 2, none⟩ = some (.int .i64 0) := by rw [heap_cell h3.1]; rfl
          refine bodyPost_ret (v := .agg #[.slice co0 O.length cco, .int .i64 0, .int .i64 0]) ?_ rfl ⟨_, oO, by rw [← HR2.out], by rw [← HR2.out]; exact h3.2.1.fr0 (Fr.drew _ _), h3.2.2.trans (Fr.drew _ _) (fun _ _ h => h)⟩
          simp [results, Tryz.results7, go_sem, e0, e1, e2, Result.andThen]
    · obtain ⟨L, K, lo, hi, O, f, hf0, hrs, hRR⟩ := hhalt
      obtain ⟨co0, cco, oO, c4, c5, c6, z3, c3, hblt, hlo⟩ := hrs.cells
      have hfb : (f == 0) = false := by simpa using hf0
      have HLO := Lib.hid hlo
      have HR2 := Lib.hid hRR.symm
      clear hrs hRR hlo hf0
      by_cases hlt : m < l.length
      · go_wp2
        go_region
        all_goals
          go_wp2
          have h3 := rput3 f 0 RBR.out HLO.out FT.out
          generalize (((wr.setCell ⟨w.heap.size, 0, none⟩ (.slice co0 O.length cco)).setCell ⟨w.heap.size, 1, none⟩ (.int .i64 f)).setCell ⟨w.heap.size, 2, none⟩ (.int .i64 0)) = w9 at h3 ⊢
          have e0 : w9.cell? ⟨w.heap.size, 0, none⟩ = some (.slice co0 O.length cco) := by rw [heap_cell h3.1]; rfl
          have e1 : w9.cell? ⟨w.heap.size, 1, none⟩ = some (.int .i64 f) := by rw [heap_cell h3.1]; rfl
          have e2 : w9.cell? ⟨w.heap.size, 2, none⟩ = some (.int .i64 0) := by rw [heap_cell h3.1]; rfl
          refine bodyPost_ret (v := .agg #[.slice co0 O.length cco, .int .i64 f, .int .i64 0]) ?_ rfl ⟨_, oO, by rw [← HR2.out], by rw [← HR2.out]; exact h3.2.1.fr0 (Fr.drew _ _), h3.2.2.trans (Fr.drew _ _) (fun _ _ h => h)⟩
          simp [results, Tryz.results7, go_sem, e0, e1, e2, Result.andThen]
      · obtain rfl : l.length = m := by omega
        go_wp2
        go_region
        all_goals
          go_wp2
          have h3 := rput3 f 0 RBR.out HLO.out FT.out
          generalize (((wr.setCell ⟨w.heap.size, 0, none⟩ (.slice co0 O.length cco)).setCell ⟨w.heap.size, 1, none⟩ (.int .i64 f)).setCell ⟨w.heap.size, 2, none⟩ (.int .i64 0)) = w9 at h3 ⊢
          have e0 : w9.cell? ⟨w.heap.size, 0, none⟩ = some (.slice co0 O.length cco) := by rw [heap_cell h3.1]; rfl
          have e1 : w9.cell? ⟨w.heap.size, 1, none⟩ = some (.int .i64 f) := by rw [heap_cell h3.1]; rfl
          have e2 : w9.cell? ⟨w.heap.size, 2, none⟩ = some (.int .i64 0) := by rw [heap_cell h3.1]; rfl
          refine bodyPost_ret (v := .agg #[.slice co0 O.length cco, .int .i64 f, .int .i64 0]) ?_ rfl ⟨_, oO, by rw [← HR2.out], by rw [← HR2.out]; exact h3.2.1.fr0 (Fr.drew _ _), h3.2.2.trans (Fr.drew _ _) (fun _ _ h => h)⟩
          simp [results, Tryz.results7, go_sem, e0, e1, e2, Result.andThen]
end Go.Proofs.YtpnbhoeghncnnaaGreatDoor

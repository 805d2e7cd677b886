/-
  A part of the proof of Rows.BaseModelsCardSaid (for every class and script BaseModels answers true, and its arguments read as they did; the listed library variables as the program text lays them): texts QD10, QD11, TB. By an AI agent.
-/
import Derived.RegionTactic
import Derived.Outline
import Derived.Test.YtpnbhoeghncnnaaGreatDoorM26
import Derived.Test.YtpnbhoeghncnnaaGreatDoorM27
set_option linter.all false
set_option linter.unusedVariables false
set_option linter.unusedSimpArgs false
namespace Go.Proofs.YtpnbhoeghncnnaaGreatDoor
open Go.RowKit
set_option maxRecDepth 100000 in
set_option maxHeartbeats 8000000 in
theorem rmodel_10 (so : Option Addr) (c : Nat) (l : List ScrT) (w : World) (hn : (l.length : Int) ≤ 20) (hs : ScrAt w so l) (hg : l.any (badF (tabK 10)) = false) (hchk : ∀ w, ScrAt w so l → Calls Tryz.prog 18 #[.string ⟨#[82, 65, 78, 71, 69]⟩, .slice so l.length c] w fun e w' => e = .returned (.int .i64 0) ∧ Fr (fun _ => False) w w') :
    Calls Tryz.prog 7 #[.string ⟨#[82, 65, 78, 71, 69]⟩, .slice so l.length c] w fun e w' => ∃ v own, e = .returned (.agg #[v, .int .i64 (runF 10 l St0 []).2.1, .int .i64 (runF 10 l St0 []).2.2]) ∧ Lst w' v own (runF 10 l St0 []).1 ∧ Fr (fun _ => False) w w' := by
  have HCHK := Lib.hid hchk
  have HS := Lib.hid hs
  have HG := Lib.hid hg
  generalize hR : runF 10 l St0 [] = R
  have HR := Lib.hid hR
  clear hchk hs hg hR
  have F0 := Lib.hid (Fr.alloc (fun _ => False) w (.cells #[.slice none 0 0, .int .i64 0, .int .i64 0] 30))
  have RB0 := Lib.hid (heap_alloc_new w (.cells #[.slice none 0 0, .int .i64 0, .int .i64 0] 30))
  go_enter Tryz.func7, Tryz.ntmps7
  go_wp2_with (first
    | (go_at_call 18; refine (HCHK.out _ (HS.out.fr F0.out)).mono ?_; rintro e w1 ⟨rfl, hf⟩; have HF1 := Lib.hid (F0.out.trans hf (fun _ _ h => h)); have RB1 := Lib.hid (hf.heap RB0.out id); clear hf))
  have RN := Lib.hid (RS.new w1 (-1))
  have RBN := Lib.hid ((Fr.alloc (fun _ => False) w1 (.cells #[.slice none 0 0, .slice none 0 0, .int .i64 0, .int .i64 (-1), .slice none 0 0, .int .i64 0, .bool false] 57)).heap RB1.out id)
  have FN1 := Lib.hid (Fr.alloc (fun j => w1.heap.size ≤ j) w1 (.cells #[.slice none 0 0, .slice none 0 0, .int .i64 0, .int .i64 (-1), .slice none 0 0, .int .i64 0, .bool false] 57))
  have LT := Lib.hid (heap_lt RB1.out)
  go_loopw [7] (fun i wr => ∃ m : Nat, i = .int .i64 m ∧ m ≤ l.length ∧ Fr (fun j => w1.heap.size ≤ j) w1 wr ∧ (RRun 10 w1.heap.size w1.heap.size l R m wr ∨ RHalt w1.heap.size w1.heap.size R wr)) (fun i _ => l.length - (intOf i).toNat)
  case atStart => exact ⟨0, rfl, by omega, FN1.out, .inl ⟨St0, [], [], 0, (-1), [], ⟨rfl, rfl⟩, RN.out, Nat.le_refl _, ⟨by simp [St0], (fun _ h => by cases h), by decide, by decide⟩, by simp [St0], by rw [List.drop_zero]; exact HR.out⟩⟩
  case round =>
    obtain ⟨m, rfl, hm, hfr, hst⟩ := hrel
    have HF := Lib.hid hfr
    have RBR := Lib.hid (hfr.heap RB1.out (by have := LT.out; omega))
    have cb0 : wr.cell? ⟨w.heap.size, 0, none⟩ = some (.slice none 0 0) := by rw [heap_cell RBR.out]; rfl
    have cb1 : wr.cell? ⟨w.heap.size, 1, none⟩ = some (.int .i64 0) := by rw [heap_cell RBR.out]; rfl
    have cb2 : wr.cell? ⟨w.heap.size, 2, none⟩ = some (.int .i64 0) := by rw [heap_cell RBR.out]; rfl
    have zb0 : wr.frozen? ⟨w.heap.size, 0, none⟩ = false := heap_frozen RBR.out 0
    have zb1 : wr.frozen? ⟨w.heap.size, 1, none⟩ = false := heap_frozen RBR.out 1
    have zb2 : wr.frozen? ⟨w.heap.size, 2, none⟩ = false := heap_frozen RBR.out 2
    have FT := Lib.hid (HF1.out.trans (Fr.shut HF.out) (fun _ _ h => h))
    clear hfr
    rcases hst with hrun | hhalt
    · obtain ⟨s, L, K, lo, hi, O, hrel, hrs, hO, hgood, hal, hrf⟩ := hrun
      obtain ⟨co0, cco, oO, c4, c5, c6, z3, c3, hblt, hlo⟩ := hrs.cells
      have HREL := Lib.hid hrel
      have HRS := Lib.hid hrs
      have HLO := Lib.hid hlo
      have HO := Lib.hid hO
      have HGD := Lib.hid hgood
      have HAL := Lib.hid hal
      have HRF := Lib.hid hrf
      clear hrel hrs hO hgood hal hrf hlo
      by_cases hlt : m < l.length
      · obtain ⟨⟨nm, va, vb⟩, hy⟩ : ∃ y, l[m]? = some y := ⟨_, List.getElem?_eq_getElem hlt⟩
        obtain ⟨gg, oof, rfl, y0, y1, y2⟩ := HS.out.fr FT.out m _ hy
        obtain ⟨i, ⟨tn, na, tr⟩, hfi, hti, hnm, htix, hva, hvb, ha1, ha2⟩ := good_call HG.out hy
        dsimp only at y0 y1 y2 hfi hnm htix hva hvb ha2
        have HST := Lib.hid (runF_step hy hfi hti s O)
        subst hnm
        have HSTEP := Lib.hid (rstepAll_10 HRS.out (by have := HO.out; omega) HREL.out ⟨by have h1 := HGD.out.len; omega, HGD.out.all, HGD.out.lo, HGD.out.hi⟩ (by have := HAL.out; omega) hva hvb hti ha2)
        have HVA := Lib.hid hva
        have HVB := Lib.hid hvb
        clear hy hfi hti htix hva hvb ha1 ha2
        cases hstep : stepF 10 i va vb s with
        | go n s' =>
          have HH := HSTEP.out
          dsimp only at HH
          rw [hstep] at HH
          have HSTEP2 := Lib.hid HH
          have HR2 := Lib.hid (show runF 10 (l.drop (m + 1)) s' (if tr then O ++ [n] else O) = R by rw [← HRF.out, HST.out]; dsimp only; rw [hstep])
          have HG2 := Lib.hid (good_step (n := m) HVA.out HVB.out HGD.out hstep)
          have HA2 := Lib.hid (al_step hstep)
          clear hstep HH HSTEP
          go_wp2_with (first
            | (go_at_call 25
               refine HSTEP2.out.mono ?_
               rintro e w2 ⟨rfl, L2, K2, lo2, hi2, hrel2, hrs2, hfr2⟩
               obtain ⟨so2, co2, oO2, d4, d5, d6, _, _, _, _⟩ := hrs2.cells
               have HREL2 := Lib.hid hrel2
               have HRS2 := Lib.hid hrs2
               have HFR2 := Lib.hid hfr2
               clear hrel2 hrs2 hfr2 d4))
          go_roundw
          case rel => exact ⟨m + 1, by go_num, by omega, HF.out.trans HFR2.out (fun _ _ h => h), .inl ⟨s', L2, K2, lo2, hi2, _, HREL2.out, HRS2.out, by have := HO.out; split <;> simp <;> omega, HG2.out, by have h1 := HAL.out; have h2 := HA2.out; omega, HR2.out⟩⟩
          case measure => simp [intOf]; omega
        | halt f er =>
          have HH := HSTEP.out
          dsimp only at HH
          rw [hstep] at HH
          have HFAIR := Lib.hid (halt_fair hstep)
          have HERR := Lib.hid (halt_err hstep)
          by_cases he : er = 0
          · subst he
            have HSTEP2 := Lib.hid HH
            have HF0 := Lib.hid (HFAIR.out rfl)
            have HR2 := Lib.hid (show (O, f, (0 : Int)) = R by rw [← HRF.out, HST.out]; dsimp only; rw [hstep]; rfl)
            clear hstep HH HSTEP
            go_wp2_with (first
              | (go_at_call 25
                 refine HSTEP2.out.mono ?_
                 rintro e w2 ⟨rfl, L2, K2, lo2, hi2, hrs2, hfr2⟩
                 obtain ⟨so2, co2, oO2, d4, d5, d6, _, _, _, _⟩ := hrs2.cells
                 have HRS2 := Lib.hid hrs2
                 have HFR2 := Lib.hid hfr2
                 have d6' : w2.cell? ⟨w1.heap.size, 6, none⟩ = some (.bool false) := d6
                 clear hrs2 hfr2 d4 d6))
            go_roundw
            case rel => exact ⟨m + 1, by go_num, by omega, HF.out.trans HFR2.out (fun _ _ h => h), (.inr ⟨L2, K2, lo2, hi2, O, f, HF0.out, HRS2.out, HR2.out.symm⟩)⟩
            case measure => simp [intOf]; omega
          · obtain rfl : er = 3 := by rcases HERR.out with h | h; exact absurd h he; exact h
            have HSTEP2 := Lib.hid HH
            have HR2 := Lib.hid (show (([] : List Int), (0 : Int), (3 : Int)) = R by rw [← HRF.out, HST.out]; dsimp only; rw [hstep]; rfl)
            clear hstep HH HSTEP
            go_wp2_with (first
              | (go_at_call 25
                 refine HSTEP2.out.mono ?_
                 rintro e w2 ⟨rfl, L2, K2, lo2, hi2, hrs2, hfr2⟩
                 obtain ⟨so2, co2, oO2, d4, d5, d6, _, _, _, _⟩ := hrs2.cells
                 have HFR2 := Lib.hid hfr2
                 have RB2 := Lib.hid (hfr2.heap RBR.out (by have := LT.out; omega))
                 have d6' : w2.cell? ⟨w1.heap.size, 6, none⟩ = some (.bool true) := d6
                 have cb0' : w2.cell? ⟨w.heap.size, 0, none⟩ = some (.slice none 0 0) := by rw [heap_cell RB2.out]; rfl
                 have cb1' : w2.cell? ⟨w.heap.size, 1, none⟩ = some (.int .i64 0) := by rw [heap_cell RB2.out]; rfl
                 have cb2' : w2.cell? ⟨w.heap.size, 2, none⟩ = some (.int .i64 0) := by rw [heap_cell RB2.out]; rfl
                 have zb0' : w2.frozen? ⟨w.heap.size, 0, none⟩ = false := heap_frozen RB2.out 0
                 have zb1' : w2.frozen? ⟨w.heap.size, 1, none⟩ = false := heap_frozen RB2.out 1
                 have zb2' : w2.frozen? ⟨w.heap.size, 2, none⟩ = false := heap_frozen RB2.out 2
                 clear hrs2 hfr2 d4 d6 d5))
            have h3 := rput3 0 3 RB2.out (Lst.nil w2) (FT.out.trans HFR2.out (fun i hi h => by have := HF1.out.size; omega))
            generalize (((w2.setCell ⟨w.heap.size, 0, none⟩ (.slice none 0 0)).setCell ⟨w.heap.size, 1, none⟩ (.int .i64 0)).setCell ⟨w.heap.size, 2, none⟩ (.int .i64 3)) = w9 at h3 ⊢
            have e0 : w9.cell? ⟨w.heap.size, 0, none⟩ = some (.slice none 0 0) := by rw [heap_cell h3.1]; rfl
            have e1 : w9.cell? ⟨w.heap.size, 1, none⟩ = some (.int .i64 0) := by rw [heap_cell h3.1]; rfl
            have e2 : w9.cell? ⟨w.heap.size, 2, none⟩ = some (.int .i64 3) := by rw [heap_cell h3.1]; rfl
            refine bodyPost_ret (v := .agg #[.slice none 0 0, .int .i64 0, .int .i64 3]) ?_ rfl ⟨_, none, by rw [← HR2.out], by rw [← HR2.out]; exact h3.2.1, h3.2.2⟩
            simp [results, Tryz.results7, go_sem, e0, e1, e2, Result.andThen]
      · obtain rfl : l.length = m := by omega
        have HR2 := Lib.hid (show (O, (0 : Int), (0 : Int)) = R by rw [← HRF.out, List.drop_length]; rfl)
        go_wp2
        go_region
        all_goals
          go_wp2
          have h3 := rput3 0 0 RBR.out HLO.out FT.out
          generalize (((wr.setCell ⟨w.heap.size, 0, none⟩ (.slice co0 O.length cco)).setCell ⟨w.heap.size, 1, none⟩ (.int .i64 0)).setCell ⟨w.heap.size, 2, none⟩ (.int .i64 0)) = w9 at h3 ⊢
          have e0 : w9.cell? ⟨w.heap.size, 0, none⟩ = some (.slice co0 O.length cco) := by rw [heap_cell h3.1]; rfl
          have e1 : w9.cell? ⟨w.heap.size, 1, none⟩ = some (.int .i64 0) := by rw [heap_cell h3.1]; rfl
          have e2 : w9.cell? ⟨w.heap.size, 2, none⟩ = some (.int .i64 0) := by rw [heap_cell h3.1]; rfl
          refine bodyPost_ret (v := .agg #[.slice co0 O.length cco, .int .i64 0, .int .i64 0]) ?_ rfl ⟨_, oO, by rw [← HR2.out], by rw [← HR2.out]; exact h3.2.1.fr0 (Fr.drew _ _), h3.2.2.trans (Fr.drew _ _) (fun _ _ h => h)⟩
          simp [results, Tryz.results7, go_sem, e0, e1, e2, Result.andThen]
    · obtain ⟨L, K, lo, hi, O, f, hf0, hrs, hRR⟩ := hhalt
      obtain ⟨co0, cco, oO, c4, c5, c6, z3, c3, hblt, hlo⟩ := hrs.cells
      have hfb : (f == 0) = false := by simpa using hf0
      have HLO := Lib.hid hlo
      have HR2 := Lib.hid hRR.symm
      clear hrs hRR hlo hf0
      by_cases hlt : m < l.length
      · go_wp2
        go_region
        all_goals
          go_wp2
          have h3 := rput3 f 0 RBR.out HLO.out FT.out
          generalize (((wr.setCell ⟨w.heap.size, 0, none⟩ (.slice co0 O.length cco)).setCell ⟨w.heap.size, 1, none⟩ (.int .i64 f)).setCell ⟨w.heap.size, 2, none⟩ (.int .i64 0)) = w9 at h3 ⊢
          have e0 : w9.cell? ⟨w.heap.size, 0, none⟩ = some (.slice co0 O.length cco) := by rw [heap_cell h3.1]; rfl
          have e1 : w9.cell? ⟨w.heap.size, 1, none⟩ = some (.int .i64 f) := by rw [heap_cell h3.1]; rfl
          have e2 : w9.cell? ⟨w.heap.size, 2, none⟩ = some (.int .i64 0) := by rw [heap_cell h3.1]; rfl
          refine bodyPost_ret (v := .agg #[.slice co0 O.length cco, .int .i64 f, .int .i64 0]) ?_ rfl ⟨_, oO, by rw [← HR2.out], by rw [← HR2.out]; exact h3.2.1.fr0 (Fr.drew _ _), h3.2.2.trans (Fr.drew _ _) (fun _ _ h => h)⟩
          simp [results, Tryz.results7, go_sem, e0, e1, e2, Result.andThen]
      · obtain rfl : l.length = m := by omega
        go_wp2
        go_region
        all_goals
          go_wp2
          have h3 := rput3 f 0 RBR.out HLO.out FT.out
          generalize (((wr.setCell ⟨w.heap.size, 0, none⟩ (.slice co0 O.length cco)).setCell ⟨w.heap.size, 1, none⟩ (.int .i64 f)).setCell ⟨w.heap.size, 2, none⟩ (.int .i64 0)) = w9 at h3 ⊢
          have e0 : w9.cell? ⟨w.heap.size, 0, none⟩ = some (.slice co0 O.length cco) := by rw [heap_cell h3.1]; rfl
          have e1 : w9.cell? ⟨w.heap.size, 1, none⟩ = some (.int .i64 f) := by rw [heap_cell h3.1]; rfl
          have e2 : w9.cell? ⟨w.heap.size, 2, none⟩ = some (.int .i64 0) := by rw [heap_cell h3.1]; rfl
          refine bodyPost_ret (v := .agg #[.slice co0 O.length cco, .int .i64 f, .int .i64 0]) ?_ rfl ⟨_, oO, by rw [← HR2.out], by rw [← HR2.out]; exact h3.2.1.fr0 (Fr.drew _ _), h3.2.2.trans (Fr.drew _ _) (fun _ _ h => h)⟩
          simp [results, Tryz.results7, go_sem, e0, e1, e2, Result.andThen]
end Go.Proofs.YtpnbhoeghncnnaaGreatDoor
namespace Go.Proofs.YtpnbhoeghncnnaaGreatDoor
open Go.RowKit
set_option maxRecDepth 100000 in
set_option maxHeartbeats 8000000 in
theorem rmodel_11 (so : Option Addr) (c : Nat) (l : List ScrT) (w : World) (hn : (l.length : Int) ≤ 20) (hs : ScrAt w so l) (hg : l.any (badF (tabK 11)) = false) (hchk : ∀ w, ScrAt w so l → Calls Tryz.prog 18 #[.string ⟨#[65, 82, 73, 84, 72]⟩, .slice so l.length c] w fun e w' => e = .returned (.int .i64 0) ∧ Fr (fun _ => False) w w') :
    Calls Tryz.prog 7 #[.string ⟨#[65, 82, 73, 84, 72]⟩, .slice so l.length c] w fun e w' => ∃ v own, e = .returned (.agg #[v, .int .i64 (runF 11 l St0 []).2.1, .int .i64 (runF 11 l St0 []).2.2]) ∧ Lst w' v own (runF 11 l St0 []).1 ∧ Fr (fun _ => False) w w' := by
  have HCHK := Lib.hid hchk
  have HS := Lib.hid hs
  have HG := Lib.hid hg
  generalize hR : runF 11 l St0 [] = R
  have HR := Lib.hid hR
  clear hchk hs hg hR
  have F0 := Lib.hid (Fr.alloc (fun _ => False) w (.cells #[.slice none 0 0, .int .i64 0, .int .i64 0] 30))
  have RB0 := Lib.hid (heap_alloc_new w (.cells #[.slice none 0 0, .int .i64 0, .int .i64 0] 30))
  go_enter Tryz.func7, Tryz.ntmps7
  go_wp2_with (first
    | (go_at_call 18; refine (HCHK.out _ (HS.out.fr F0.out)).mono ?_; rintro e w1 ⟨rfl, hf⟩; have HF1 := Lib.hid (F0.out.trans hf (fun _ _ h => h)); have RB1 := Lib.hid (hf.heap RB0.out id); clear hf))
  have RN := Lib.hid (RS.new w1 (-1))
  have RBN := Lib.hid ((Fr.alloc (fun _ => False) w1 (.cells #[.slice none 0 0, .slice none 0 0, .int .i64 0, .int .i64 (-1), .slice none 0 0, .int .i64 0, .bool false] 57)).heap RB1.out id)
  have FN1 := Lib.hid (Fr.alloc (fun j => w1.heap.size ≤ j) w1 (.cells #[.slice none 0 0, .slice none 0 0, .int .i64 0, .int .i64 (-1), .slice none 0 0, .int .i64 0, .bool false] 57))
  have LT := Lib.hid (heap_lt RB1.out)
  go_loopw [7] (fun i wr => ∃ m : Nat, i = .int .i64 m ∧ m ≤ l.length ∧ Fr (fun j => w1.heap.size ≤ j) w1 wr ∧ (RRun 11 w1.heap.size w1.heap.size l R m wr ∨ RHalt w1.heap.size w1.heap.size R wr)) (fun i _ => l.length - (intOf i).toNat)
  case atStart => exact ⟨0, rfl, by omega, FN1.out, .inl ⟨St0, [], [], 0, (-1), [], trivial, RN.out, Nat.le_refl _, ⟨by simp [St0], (fun _ h => by cases h), by decide, by decide⟩, by simp [St0], by rw [List.drop_zero]; exact HR.out⟩⟩
  case round =>
    obtain ⟨m, rfl, hm, hfr, hst⟩ := hrel
    have HF := Lib.hid hfr
    have RBR := Lib.hid (hfr.heap RB1.out (by have := LT.out; omega))
    have cb0 : wr.cell? ⟨w.heap.size, 0, none⟩ = some (.slice none 0 0) := by rw [heap_cell RBR.out]; rfl
    have cb1 : wr.cell? ⟨w.heap.size, 1, none⟩ = some (.int .i64 0) := by rw [heap_cell RBR.out]; rfl
    have cb2 : wr.cell? ⟨w.heap.size, 2, none⟩ = some (.int .i64 0) := by rw [heap_cell RBR.out]; rfl
    have zb0 : wr.frozen? ⟨w.heap.size, 0, none⟩ = false := heap_frozen RBR.out 0
    have zb1 : wr.frozen? ⟨w.heap.size, 1, none⟩ = false := heap_frozen RBR.out 1
    have zb2 : wr.frozen? ⟨w.heap.size, 2, none⟩ = false := heap_frozen RBR.out 2
    have FT := Lib.hid (HF1.out.trans (Fr.shut HF.out) (fun _ _ h => h))
    clear hfr
    rcases hst with hrun | hhalt
    · obtain ⟨s, L, K, lo, hi, O, hrel, hrs, hO, hgood, hal, hrf⟩ := hrun
      obtain ⟨co0, cco, oO, c4, c5, c6, z3, c3, hblt, hlo⟩ := hrs.cells
      have HREL := Lib.hid hrel
      have HRS := Lib.hid hrs
      have HLO := Lib.hid hlo
      have HO := Lib.hid hO
      have HGD := Lib.hid hgood
      have HAL := Lib.hid hal
      have HRF := Lib.hid hrf
      clear hrel hrs hO hgood hal hrf hlo
      by_cases hlt : m < l.length
      · obtain ⟨⟨nm, va, vb⟩, hy⟩ : ∃ y, l[m]? = some y := ⟨_, List.getElem?_eq_getElem hlt⟩
        obtain ⟨gg, oof, rfl, y0, y1, y2⟩ := HS.out.fr FT.out m _ hy
        obtain ⟨i, ⟨tn, na, tr⟩, hfi, hti, hnm, htix, hva, hvb, ha1, ha2⟩ := good_call HG.out hy
        dsimp only at y0 y1 y2 hfi hnm htix hva hvb ha2
        have HST := Lib.hid (runF_step hy hfi hti s O)
        subst hnm
        have HSTEP := Lib.hid (rstepAll_11 HRS.out (by have := HO.out; omega) HREL.out ⟨by have h1 := HGD.out.len; omega, HGD.out.all, HGD.out.lo, HGD.out.hi⟩ (by have := HAL.out; omega) hva hvb hti ha2)
        have HVA := Lib.hid hva
        have HVB := Lib.hid hvb
        clear hy hfi hti htix hva hvb ha1 ha2
        cases hstep : stepF 11 i va vb s with
        | go n s' =>
          have HH := HSTEP.out
          dsimp only at HH
          rw [hstep] at HH
          have HSTEP2 := Lib.hid HH
          have HR2 := Lib.hid (show runF 11 (l.drop (m + 1)) s' (if tr then O ++ [n] else O) = R by rw [← HRF.out, HST.out]; dsimp only; rw [hstep])
          have HG2 := Lib.hid (good_step (n := m) HVA.out HVB.out HGD.out hstep)
          have HA2 := Lib.hid (al_step hstep)
          clear hstep HH HSTEP
          go_wp2_with (first
            | (go_at_call 26
               refine HSTEP2.out.mono ?_
               rintro e w2 ⟨rfl, L2, K2, lo2, hi2, hrel2, hrs2, hfr2⟩
               obtain ⟨so2, co2, oO2, d4, d5, d6, _, _, _, _⟩ := hrs2.cells
               have HREL2 := Lib.hid hrel2
               have HRS2 := Lib.hid hrs2
               have HFR2 := Lib.hid hfr2
               clear hrel2 hrs2 hfr2 d4))
          go_roundw
          case rel => exact ⟨m + 1, by go_num, by omega, HF.out.trans HFR2.out (fun _ _ h => h), .inl ⟨s', L2, K2, lo2, hi2, _, HREL2.out, HRS2.out, by have := HO.out; split <;> simp <;> omega, HG2.out, by have h1 := HAL.out; have h2 := HA2.out; omega, HR2.out⟩⟩
          case measure => simp [intOf]; omega
        | halt f er =>
          have HH := HSTEP.out
          dsimp only at HH
          rw [hstep] at HH
          have HFAIR := Lib.hid (halt_fair hstep)
          have HERR := Lib.hid (halt_err hstep)
          by_cases he : er = 0
          · subst he
            have HSTEP2 := Lib.hid HH
            have HF0 := Lib.hid (HFAIR.out rfl)
            have HR2 := Lib.hid (show (O, f, (0 : Int)) = R by rw [← HRF.out, HST.out]; dsimp only; rw [hstep]; rfl)
            clear hstep HH HSTEP
            go_wp2_with (first
              | (go_at_call 26
                 refine HSTEP2.out.mono ?_
                 rintro e w2 ⟨rfl, L2, K2, lo2, hi2, hrs2, hfr2⟩
                 obtain ⟨so2, co2, oO2, d4, d5, d6, _, _, _, _⟩ := hrs2.cells
                 have HRS2 := Lib.hid hrs2
                 have HFR2 := Lib.hid hfr2
                 have d6' : w2.cell? ⟨w1.heap.size, 6, none⟩ = some (.bool false) := d6
                 clear hrs2 hfr2 d4 d6))
            go_roundw
            case rel => exact ⟨m + 1, by go_num, by omega, HF.out.trans HFR2.out (fun _ _ h => h), (.inr ⟨L2, K2, lo2, hi2, O, f, HF0.out, HRS2.out, HR2.out.symm⟩)⟩
            case measure => simp [intOf]; omega
          · obtain rfl : er = 3 := by rcases HERR.out with h | h; exact absurd h he; exact h
            have HSTEP2 := Lib.hid HH
            have HR2 := Lib.hid (show (([] : List Int), (0 : Int), (3 : Int)) = R by rw [← HRF.out, HST.out]; dsimp only; rw [hstep]; rfl)
            clear hstep HH HSTEP
            go_wp2_with (first
              | (go_at_call 26
                 refine HSTEP2.out.mono ?_
                 rintro e w2 ⟨rfl, L2, K2, lo2, hi2, hrs2, hfr2⟩
                 obtain ⟨so2, co2, oO2, d4, d5, d6, _, _, _, _⟩ := hrs2.cells
                 have HFR2 := Lib.hid hfr2
                 have RB2 := Lib.hid (hfr2.heap RBR.out (by have := LT.out; omega))
                 have d6' : w2.cell? ⟨w1.heap.size, 6, none⟩ = some (.bool true) := d6
                 have cb0' : w2.cell? ⟨w.heap.size, 0, none⟩ = some (.slice none 0 0) := by rw [heap_cell RB2.out]; rfl
                 have cb1' : w2.cell? ⟨w.heap.size, 1, none⟩ = some (.int .i64 0) := by rw [heap_cell RB2.out]; rfl
                 have cb2' : w2.cell? ⟨w.heap.size, 2, none⟩ = some (.int .i64 0) := by rw [heap_cell RB2.out]; rfl
                 have zb0' : w2.frozen? ⟨w.heap.size, 0, none⟩ = false := heap_frozen RB2.out 0
                 have zb1' : w2.frozen? ⟨w.heap.size, 1, none⟩ = false := heap_frozen RB2.out 1
                 have zb2' : w2.frozen? ⟨w.heap.size, 2, none⟩ = false := heap_frozen RB2.out 2
                 clear hrs2 hfr2 d4 d6 d5))
            have h3 := rput3 0 3 RB2.out (Lst.nil w2) (FT.out.trans HFR2.out (fun i hi h => by have := HF1.out.size; omega))
            generalize (((w2.setCell ⟨w.heap.size, 0, none⟩ (.slice none 0 0)).setCell ⟨w.heap.size, 1, none⟩ (.int .i64 0)).setCell ⟨w.heap.size, 2, none⟩ (.int .i64 3)) = w9 at h3 ⊢
            have e0 : w9.cell? ⟨w.heap.size, 0, none⟩ = some (.slice none 0 0) := by rw [heap_cell h3.1]; rfl
            have e1 : w9.cell? ⟨w.heap.size, 1, none⟩ = some (.int .i64 0) := by rw [heap_cell h3.1]; rfl
            have e2 : w9.cell? ⟨w.heap.size, 2, none⟩ = some (.int .i64 3) := by rw [heap_cell h3.1]; rfl
            refine bodyPost_ret (v := .agg #[.slice none 0 0, .int .i64 0, .int .i64 3]) ?_ rfl ⟨_, none, by rw [← HR2.out], by rw [← HR2.out]; exact h3.2.1, h3.2.2⟩
            simp [results, Tryz.results7, go_sem, e0, e1, e2, Result.andThen]
      · obtain rfl : l.length = m := by omega
        have HR2 := Lib.hid (show (O, (0 : Int), (0 : Int)) = R by rw [← HRF.out, List.drop_length]; rfl)
        go_wp2
        go_region
        all_goals
          go_wp2
          have h3 := rput3 0 0 RBR.out HLO.out FT.out
          generalize (((wr.setCell ⟨w.heap.size, 0, none⟩ (.slice co0 O.length cco)).setCell ⟨w.heap.size, 1, none⟩ (.int .i64 0)).setCell ⟨w.heap.size, 2, none⟩ (.int .i64 0)) = w9 at h3 ⊢
          have e0 : w9.cell? ⟨w.heap.size, 0, none⟩ = some (.slice co0 O.length cco) := by rw [heap_cell h3.1]; rfl
          have e1 : w9.cell? ⟨w.heap.size, 1, none⟩ = some (.int .i64 0) := by rw [heap_cell h3.1]; rfl
          have e2 : w9.cell? ⟨w.heap.size, 2, none⟩ = some (.int .i64 0) := by rw [heap_cell h3.1]; rfl
          refine bodyPost_ret (v := .agg #[.slice co0 O.length cco, .int .i64 0, .int .i64 0]) ?_ rfl ⟨_, oO, by rw [← HR2.out], by rw [← HR2.out]; exact h3.2.1.fr0 (Fr.drew _ _), h3.2.2.trans (Fr.drew _ _) (fun _ _ h => h)⟩
          simp [results, Tryz.results7, go_sem, e0, e1, e2, Result.andThen]
    · obtain ⟨L, K, lo, hi, O, f, hf0, hrs, hRR⟩ := hhalt
      obtain ⟨co0, cco, oO, c4, c5, c6, z3, c3, hblt, hlo⟩ := hrs.cells
      have hfb : (f == 0) = false := by simpa using hf0
      have HLO := Lib.hid hlo
      have HR2 := Lib.hid hRR.symm
      clear hrs hRR hlo hf0
      by_cases hlt : m < l.length
      · go_wp2
        go_region
        all_goals
          go_wp2
          have h3 := rput3 f 0 RBR.out HLO.out FT.out
          generalize (((wr.setCell ⟨w.heap.size, 0, none⟩ (.slice co0 O.length cco)).setCell ⟨w.heap.size, 1, none⟩ (.int .i64 f)).setCell ⟨w.heap.size, 2, none⟩ (.int .i64 0)) = w9 at h3 ⊢
          have e0 : w9.cell? ⟨w.heap.size, 0, none⟩ = some (.slice co0 O.length cco) := by rw [heap_cell h3.1]; rfl
          have e1 : w9.cell? ⟨w.heap.size, 1, none⟩ = some (.int .i64 f) := by rw [heap_cell h3.1]; rfl
          have e2 : w9.cell? ⟨w.heap.size, 2, none⟩ = some (.int .i64 0) := by rw [heap_cell h3.1]; rfl
          refine bodyPost_ret (v := .agg #[.slice co0 O.length cco, .int .i64 f, .int .i64 0]) ?_ rfl ⟨_, oO, by rw [← HR2.out], by rw [← HR2.out]; exact h3.2.1.fr0 (Fr.drew _ _), h3.2.2.trans (Fr.drew _ _) (fun _ _ h => h)⟩
          simp [results, Tryz.results7, go_sem, e0, e1, e2, Result.andThen]
      · obtain rfl : l.length = m := by omega
        go_wp2
        go_region
        all_goals
          go_wp2
          have h3 := rput3 f 0 RBR.out HLO.out FT.out
          generalize (((wr.setCell ⟨w.heap.size, 0, none⟩ (.slice co0 O.length cco)).setCell ⟨w.heap.size, 1, none⟩ (.int .i64 f)).setCell ⟨w.heap.size, 2, none⟩ (.int .i64 0)) = w9 at h3 ⊢
          have e0 : w9.cell? ⟨w.heap.size, 0, none⟩ = some (.slice co0 O.length cco) := by rw [heap_cell h3.1]; rfl
          have e1 : w9.cell? ⟨w.heap.size, 1, none⟩ = some (.int .i64 f) := by rw [heap_cell h3.1]; rfl
          have e2 : w9.cell? ⟨w.heap.size, 2, none⟩ = some (.int .i64 0) := by rw [heap_cell h3.1]; rfl
          refine bodyPost_ret (v := .agg #[.slice co0 O.length cco, .int .i64 f, .int .i64 0]) ?_ rfl ⟨_, oO, by rw [← HR2.out], by rw [← HR2.out]; exact h3.2.1.fr0 (Fr.drew _ _), h3.2.2.trans (Fr.drew _ _) (fun _ _ h => h)⟩
          simp [results, Tryz.results7, go_sem, e0, e1, e2, Result.andThen]
end Go.Proofs.YtpnbhoeghncnnaaGreatDoor
namespace Go.Proofs.YtpnbhoeghncnnaaGreatDoor
open Go.RowKit
/-- Model of a class and a script comes to R, in the program and in the reference. -/
def Both (cls : ByteArray) (l : List ScrT) (R : List Int × Int × Int) : Prop :=
  ∀ (so : Option Addr) (c : Nat) (w : World), ScrAt w so l →
    Calls Tryz.prog 6 #[.string cls, .slice so l.length c] w (fun e w' => ∃ v own, e = .returned (.tuple #[v, .int .i64 R.2.1, .int .i64 R.2.2]) ∧ Lst w' v own R.1 ∧ Fr (fun _ => False) w w') ∧
    Calls Tryz.prog 7 #[.string cls, .slice so l.length c] w (fun e w' => ∃ v own, e = .returned (.agg #[v, .int .i64 R.2.1, .int .i64 R.2.2]) ∧ Lst w' v own R.1 ∧ Fr (fun _ => False) w w')
theorem both_err {cls : ByteArray} {l : List ScrT} (er : Int) (he : er ≠ 0)
    (h1 : ∀ (so : Option Addr) (c : Nat) (w : World), ScrAt w so l → Calls Tryz.prog 14 #[.string cls, .slice so l.length c] w fun e w' => e = .returned (.int .i64 er) ∧ Fr (fun _ => False) w w')
    (h2 : ∀ (so : Option Addr) (c : Nat) (w : World), ScrAt w so l → Calls Tryz.prog 18 #[.string cls, .slice so l.length c] w fun e w' => e = .returned (.int .i64 er) ∧ Fr (fun _ => False) w w') : Both cls l ([], 0, er) := fun so c w hs =>
  ⟨model_err cls so l.length c er w he (fun w0 hf => h1 so c w0 (hs.fr hf)), rmodel_err cls so l.length c er w he (fun w0 hf => h2 so c w0 (hs.fr hf))⟩
theorem Fr.of_eq {w w' : World} (h : w = w') : Fr (fun _ => False) w w' := h ▸ Fr.refl _ w
theorem rbad_eq {tb : List CallT} (hargs : ∀ t ∈ tb, argsF t.1 = t.2.1) (x : ScrT) : rbadF (tb.map (·.1)) x = badF tb x := by
  cases hf : tb.findIdx? (fun t => t.1.toList == x.1.toList) with
  | none =>
    rw [(bad_none hf).2]
    have : anyN x.1 (tb.map (·.1)) = false := by
      rw [List.findIdx?_eq_none_iff] at hf
      rw [anyN, List.any_map, List.any_eq_false]
      intro t ht
      have := hf t ht
      simpa using this
    unfold rbadF; rw [this]; rfl
  | some i =>
    obtain ⟨t, ht, _, hbd⟩ := bad_some hf
    obtain ⟨hi, hp, _⟩ := List.findIdx?_eq_some_iff_getElem.1 hf
    rw [List.getElem?_eq_getElem hi] at ht
    cases ht
    have hn : tb[i].1 = x.1 := ba_eq hp
    have ha : argsF x.1 = tb[i].2.1 := by rw [← hn]; exact hargs _ (List.getElem_mem _)
    have hany : anyN x.1 (tb.map (·.1)) = true := by
      rw [anyN, List.any_map, List.any_eq_true]
      exact ⟨tb[i], List.getElem_mem _, hp⟩
    rw [hbd]
    unfold rbadF
    rw [hany, ha]
    cases inNum x.2.1 <;> cases inNum x.2.2 <;> cases decide (tb[i].2.1 < 1) <;> cases decide (tb[i].2.1 < 2) <;> cases (x.2.1 != 0) <;> cases (x.2.2 != 0) <;> rfl
theorem rbad_any {tb : List CallT} (hargs : ∀ t ∈ tb, argsF t.1 = t.2.1) (l : List ScrT) : l.any (rbadF (tb.map (·.1))) = l.any (badF tb) := by
  have : rbadF (tb.map (·.1)) = badF tb := funext (rbad_eq hargs)
  rw [this]
theorem nm_none {s : ByteArray} (h : nmIx s names12 = -1) : ∀ x ∈ names12, (s.toList == x.toList) = false := by
  intro x hx
  unfold nmIx at h
  cases hf : names12.findIdx? (fun t => t.toList == s.toList) with
  | none =>
    rw [List.findIdx?_eq_none_iff] at hf
    have := hf x hx
    rw [beq_eq_false_iff_ne] at this ⊢
    exact fun e => this e.symm
  | some i => rw [hf] at h; simp only at h; omega
theorem nm_some {s : ByteArray} {k : Nat} (h : nmIx s names12 = k) : ∃ x, names12[k]? = some x ∧ s = x := by
  unfold nmIx at h
  cases hf : names12.findIdx? (fun t => t.toList == s.toList) with
  | none => rw [hf] at h; simp only at h; omega
  | some i =>
    rw [hf] at h
    obtain rfl : i = k := Int.ofNat.inj h
    obtain ⟨hi, hp, _⟩ := List.findIdx?_eq_some_iff_getElem.1 hf
    exact ⟨_, List.getElem?_eq_getElem hi, (ba_eq hp).symm⟩
theorem nm_cases (s : ByteArray) : nmIx s names12 = -1 ∨ ∃ k : Nat, nmIx s names12 = k := by
  unfold nmIx
  cases names12.findIdx? (fun t => t.toList == s.toList) with
  | none => exact .inl rfl
  | some i => exact .inr ⟨i, rfl⟩
theorem tl_LINK : (ByteArray.toList ⟨#[76, 73, 78, 75]⟩) = [76, 73, 78, 75] := by rw [Go.ByteArray.toList_eq]
theorem tl_INTS : (ByteArray.toList ⟨#[73, 78, 84, 83]⟩) = [73, 78, 84, 83] := by rw [Go.ByteArray.toList_eq]
theorem tl_SORTED : (ByteArray.toList ⟨#[83, 79, 82, 84, 69, 68]⟩) = [83, 79, 82, 84, 69, 68] := by rw [Go.ByteArray.toList_eq]
theorem tl_NODE : (ByteArray.toList ⟨#[78, 79, 68, 69]⟩) = [78, 79, 68, 69] := by rw [Go.ByteArray.toList_eq]
theorem tl_STACK : (ByteArray.toList ⟨#[83, 84, 65, 67, 75]⟩) = [83, 84, 65, 67, 75] := by rw [Go.ByteArray.toList_eq]
theorem tl_QUEUE : (ByteArray.toList ⟨#[81, 85, 69, 85, 69]⟩) = [81, 85, 69, 85, 69] := by rw [Go.ByteArray.toList_eq]
theorem tl_ENTRY : (ByteArray.toList ⟨#[69, 78, 84, 82, 89]⟩) = [69, 78, 84, 82, 89] := by rw [Go.ByteArray.toList_eq]
theorem tl_TABLE : (ByteArray.toList ⟨#[84, 65, 66, 76, 69]⟩) = [84, 65, 66, 76, 69] := by rw [Go.ByteArray.toList_eq]
theorem tl_SET : (ByteArray.toList ⟨#[83, 69, 84]⟩) = [83, 69, 84] := by rw [Go.ByteArray.toList_eq]
theorem tl_COUNTER : (ByteArray.toList ⟨#[67, 79, 85, 78, 84, 69, 82]⟩) = [67, 79, 85, 78, 84, 69, 82] := by rw [Go.ByteArray.toList_eq]
theorem tl_RANGE : (ByteArray.toList ⟨#[82, 65, 78, 71, 69]⟩) = [82, 65, 78, 71, 69] := by rw [Go.ByteArray.toList_eq]
theorem tl_ARITH : (ByteArray.toList ⟨#[65, 82, 73, 84, 72]⟩) = [65, 82, 73, 84, 72] := by rw [Go.ByteArray.toList_eq]
theorem both_name {cls : ByteArray} (l : List ScrT) (h : nmIx cls names12 = -1) : Both cls l ([], 0, 4) := by
  have hn := nm_none h
  have G : ∀ (x : ByteArray) (r : List UInt8), x ∈ names12 → x.toList = r → (cls.toList == r) = false := fun x r hx hr => by rw [← hr]; exact hn x hx
  have ht := fun w => rtext_no cls w (G ⟨#[76, 73, 78, 75]⟩ [76, 73, 78, 75] (by simp [names12]) tl_LINK) (G ⟨#[73, 78, 84, 83]⟩ [73, 78, 84, 83] (by simp [names12]) tl_INTS) (G ⟨#[83, 79, 82, 84, 69, 68]⟩ [83, 79, 82, 84, 69, 68] (by simp [names12]) tl_SORTED) (G ⟨#[78, 79, 68, 69]⟩ [78, 79, 68, 69] (by simp [names12]) tl_NODE) (G ⟨#[83, 84, 65, 67, 75]⟩ [83, 84, 65, 67, 75] (by simp [names12]) tl_STACK) (G ⟨#[81, 85, 69, 85, 69]⟩ [81, 85, 69, 85, 69] (by simp [names12]) tl_QUEUE) (G ⟨#[69, 78, 84, 82, 89]⟩ [69, 78, 84, 82, 89] (by simp [names12]) tl_ENTRY) (G ⟨#[84, 65, 66, 76, 69]⟩ [84, 65, 66, 76, 69] (by simp [names12]) tl_TABLE) (G ⟨#[83, 69, 84]⟩ [83, 69, 84] (by simp [names12]) tl_SET) (G ⟨#[67, 79, 85, 78, 84, 69, 82]⟩ [67, 79, 85, 78, 84, 69, 82] (by simp [names12]) tl_COUNTER) (G ⟨#[82, 65, 78, 71, 69]⟩ [82, 65, 78, 71, 69] (by simp [names12]) tl_RANGE) (G ⟨#[65, 82, 73, 84, 72]⟩ [65, 82, 73, 84, 72] (by simp [names12]) tl_ARITH)
  exact both_err 4 (by decide) (fun so c w _ => check_name cls so l.length c w h) (fun so c w _ => (rcheck_name cls so l.length c w ht).mono fun e w' hh => ⟨hh.1, Fr.of_eq hh.2⟩)
theorem af_add : argsF ⟨#[97, 100, 100]⟩ = 1 := by kernel_rfl
theorem af_contains : argsF ⟨#[99, 111, 110, 116, 97, 105, 110, 115]⟩ = 1 := by kernel_rfl
theorem af_count : argsF ⟨#[99, 111, 117, 110, 116]⟩ = 0 := by kernel_rfl
theorem af_drop : argsF ⟨#[100, 114, 111, 112]⟩ = 1 := by kernel_rfl
theorem af_enter : argsF ⟨#[101, 110, 116, 101, 114]⟩ = 1 := by kernel_rfl
theorem af_extend : argsF ⟨#[101, 120, 116, 101, 110, 100]⟩ = 1 := by kernel_rfl
theorem af_fact : argsF ⟨#[102, 97, 99, 116]⟩ = 1 := by kernel_rfl
theorem af_force : argsF ⟨#[102, 111, 114, 99, 101]⟩ = 2 := by kernel_rfl
theorem af_front : argsF ⟨#[102, 114, 111, 110, 116]⟩ = 0 := by kernel_rfl
theorem af_gcd : argsF ⟨#[103, 99, 100]⟩ = 2 := by kernel_rfl
theorem af_has : argsF ⟨#[104, 97, 115]⟩ = 1 := by kernel_rfl
theorem af_high : argsF ⟨#[104, 105, 103, 104]⟩ = 0 := by kernel_rfl
theorem af_item : argsF ⟨#[105, 116, 101, 109]⟩ = 1 := by kernel_rfl
theorem af_leave : argsF ⟨#[108, 101, 97, 118, 101]⟩ = 0 := by kernel_rfl
theorem af_low : argsF ⟨#[108, 111, 119]⟩ = 0 := by kernel_rfl
theorem af_peek : argsF ⟨#[112, 101, 101, 107]⟩ = 0 := by kernel_rfl
theorem af_pop : argsF ⟨#[112, 111, 112]⟩ = 0 := by kernel_rfl
theorem af_power : argsF ⟨#[112, 111, 119, 101, 114]⟩ = 2 := by kernel_rfl
theorem af_push : argsF ⟨#[112, 117, 115, 104]⟩ = 1 := by kernel_rfl
theorem af_remove : argsF ⟨#[114, 101, 109, 111, 118, 101]⟩ = 1 := by kernel_rfl
theorem af_reverse : argsF ⟨#[114, 101, 118, 101, 114, 115, 101]⟩ = 0 := by kernel_rfl
theorem af_size : argsF ⟨#[115, 105, 122, 101]⟩ = 0 := by kernel_rfl
theorem af_span : argsF ⟨#[115, 112, 97, 110]⟩ = 2 := by kernel_rfl
theorem af_sum : argsF ⟨#[115, 117, 109]⟩ = 0 := by kernel_rfl
theorem af_tries : argsF ⟨#[116, 114, 105, 101, 115]⟩ = 1 := by kernel_rfl
theorem af_up : argsF ⟨#[117, 112]⟩ = 0 := by kernel_rfl
theorem af_value_of : argsF ⟨#[118, 97, 108, 117, 101, 95, 111, 102]⟩ = 1 := by kernel_rfl
theorem af_wipe : argsF ⟨#[119, 105, 112, 101]⟩ = 0 := by kernel_rfl
theorem both_LINK (l : List ScrT) : Both ⟨#[76, 73, 78, 75]⟩ l ([], 0, 1) :=
  both_err 1 (by decide) (fun so c w _ => check_none ⟨#[76, 73, 78, 75]⟩ so l.length c 0 ⟨#[76, 73, 78, 75]⟩ w rfl (by kernel_rfl) (fun w => calls_none ⟨#[76, 73, 78, 75]⟩ w (by rw [tl_LINK]; decide) (by rw [tl_LINK]; decide) (by rw [tl_LINK]; decide) (by rw [tl_LINK]; decide) (by rw [tl_LINK]; decide) (by rw [tl_LINK]; decide) (by rw [tl_LINK]; decide) (by rw [tl_LINK]; decide) (by rw [tl_LINK]; decide)))
    (fun so c w _ => (rcheck_none ⟨#[76, 73, 78, 75]⟩ so l.length c w (fun w => rtext_LINK w) (fun w => rcalls_LINK w)).mono fun e w' hh => ⟨hh.1, Fr.of_eq hh.2⟩)
theorem both_NODE (l : List ScrT) : Both ⟨#[78, 79, 68, 69]⟩ l ([], 0, 1) :=
  both_err 1 (by decide) (fun so c w _ => check_none ⟨#[78, 79, 68, 69]⟩ so l.length c 3 ⟨#[78, 79, 68, 69]⟩ w rfl (by kernel_rfl) (fun w => calls_none ⟨#[78, 79, 68, 69]⟩ w (by rw [tl_NODE]; decide) (by rw [tl_NODE]; decide) (by rw [tl_NODE]; decide) (by rw [tl_NODE]; decide) (by rw [tl_NODE]; decide) (by rw [tl_NODE]; decide) (by rw [tl_NODE]; decide) (by rw [tl_NODE]; decide) (by rw [tl_NODE]; decide)))
    (fun so c w _ => (rcheck_none ⟨#[78, 79, 68, 69]⟩ so l.length c w (fun w => rtext_NODE w) (fun w => rcalls_NODE w)).mono fun e w' hh => ⟨hh.1, Fr.of_eq hh.2⟩)
theorem both_ENTRY (l : List ScrT) : Both ⟨#[69, 78, 84, 82, 89]⟩ l ([], 0, 1) :=
  both_err 1 (by decide) (fun so c w _ => check_none ⟨#[69, 78, 84, 82, 89]⟩ so l.length c 6 ⟨#[69, 78, 84, 82, 89]⟩ w rfl (by kernel_rfl) (fun w => calls_none ⟨#[69, 78, 84, 82, 89]⟩ w (by rw [tl_ENTRY]; decide) (by rw [tl_ENTRY]; decide) (by rw [tl_ENTRY]; decide) (by rw [tl_ENTRY]; decide) (by rw [tl_ENTRY]; decide) (by rw [tl_ENTRY]; decide) (by rw [tl_ENTRY]; decide) (by rw [tl_ENTRY]; decide) (by rw [tl_ENTRY]; decide)))
    (fun so c w _ => (rcheck_none ⟨#[69, 78, 84, 82, 89]⟩ so l.length c w (fun w => rtext_ENTRY w) (fun w => rcalls_ENTRY w)).mono fun e w' hh => ⟨hh.1, Fr.of_eq hh.2⟩)
theorem callsOf_INTS : CallsOf ⟨#[73, 78, 84, 83]⟩ (tabK 1) := fun w => calls_INTS w
theorem rcallsOf_INTS : RCallsOf ⟨#[73, 78, 84, 83]⟩ ((tabK 1).map (·.1)) := fun w => (rcalls_INTS w).mono fun e w' hh => ⟨w.heap.size, hh.1, by rw [hh.2]; exact strAt_lit w _ _ 9 rfl, by rw [hh.2]; exact Fr.alloc _ _ _⟩
theorem args_INTS : ∀ t ∈ (tabK 1), argsF t.1 = t.2.1 := by
  intro t ht
  have : t ∈ tabINTS := ht
  simp only [tabINTS, List.mem_cons, List.not_mem_nil, or_false] at this
  rcases this with rfl | rfl | rfl | rfl | rfl | rfl | rfl | rfl | rfl
  · exact af_count
  · exact af_push
  · exact af_extend
  · exact af_has
  · exact af_item
  · exact af_sum
  · exact af_remove
  · exact af_reverse
  · exact af_wipe
theorem both_long_INTS (l : List ScrT) (hn : (40 : Int) < (l.length : Int)) : Both ⟨#[73, 78, 84, 83]⟩ l ([], 0, 3) :=
  both_err 3 (by decide) (fun so c w _ => check_long ⟨#[73, 78, 84, 83]⟩ so l.length c 1 ⟨#[73, 78, 84, 83]⟩ (tabK 1) w rfl (by kernel_rfl) callsOf_INTS (by decide) hn)
    (fun so c w _ => rcheck_long ⟨#[73, 78, 84, 83]⟩ so l.length c ((tabK 1).map (·.1)) w (fun w => rtext_INTS w) rcallsOf_INTS (by decide) hn)
theorem both_bad_INTS (l : List ScrT) (hn : (l.length : Int) ≤ 40) (hb : l.any (badF (tabK 1)) = true) : Both ⟨#[73, 78, 84, 83]⟩ l ([], 0, 1) :=
  both_err 1 (by decide) (fun so c w hs => by have := check_run ⟨#[73, 78, 84, 83]⟩ so c 1 ⟨#[73, 78, 84, 83]⟩ (tabK 1) l w rfl (by kernel_rfl) callsOf_INTS (by decide) (by decide) hn hs; rw [hb] at this; exact this)
    (fun so c w hs => by have := rcheck_run ⟨#[73, 78, 84, 83]⟩ so c ((tabK 1).map (·.1)) l w (fun w => rtext_INTS w) rcallsOf_INTS (by decide) (by decide) hn hs; rw [rbad_any args_INTS, hb] at this; exact this)
theorem both_run_INTS (l : List ScrT) (hn : (l.length : Int) ≤ 20) (hb : l.any (badF (tabK 1)) = false) : Both ⟨#[73, 78, 84, 83]⟩ l (runF 1 l St0 []) := fun so c w hs =>
  ⟨model_run ⟨#[73, 78, 84, 83]⟩ so c 1 ⟨#[73, 78, 84, 83]⟩ l w (by omega) rfl (by kernel_rfl) callsOf_INTS (by decide) (by decide) hn hs hb init_1,
   rmodel_1 so c l w hn hs hb (fun w hs => by have := rcheck_run ⟨#[73, 78, 84, 83]⟩ so c ((tabK 1).map (·.1)) l w (fun w => rtext_INTS w) rcallsOf_INTS (by decide) (by decide) (by omega) hs; rw [rbad_any args_INTS, hb] at this; exact this)⟩
theorem callsOf_SORTED : CallsOf ⟨#[83, 79, 82, 84, 69, 68]⟩ (tabK 2) := fun w => calls_SORTED w
theorem rcallsOf_SORTED : RCallsOf ⟨#[83, 79, 82, 84, 69, 68]⟩ ((tabK 2).map (·.1)) := fun w => (rcalls_SORTED w).mono fun e w' hh => ⟨w.heap.size, hh.1, by rw [hh.2]; exact strAt_lit w _ _ 9 rfl, by rw [hh.2]; exact Fr.alloc _ _ _⟩
theorem args_SORTED : ∀ t ∈ (tabK 2), argsF t.1 = t.2.1 := by
  intro t ht
  have : t ∈ tabSORTED := ht
  simp only [tabSORTED, List.mem_cons, List.not_mem_nil, or_false] at this
  rcases this with rfl | rfl | rfl | rfl | rfl | rfl | rfl | rfl | rfl
  · exact af_count
  · exact af_push
  · exact af_extend
  · exact af_has
  · exact af_item
  · exact af_sum
  · exact af_remove
  · exact af_reverse
  · exact af_wipe
theorem both_long_SORTED (l : List ScrT) (hn : (40 : Int) < (l.length : Int)) : Both ⟨#[83, 79, 82, 84, 69, 68]⟩ l ([], 0, 3) :=
  both_err 3 (by decide) (fun so c w _ => check_long ⟨#[83, 79, 82, 84, 69, 68]⟩ so l.length c 2 ⟨#[83, 79, 82, 84, 69, 68]⟩ (tabK 2) w rfl (by kernel_rfl) callsOf_SORTED (by decide) hn)
    (fun so c w _ => rcheck_long ⟨#[83, 79, 82, 84, 69, 68]⟩ so l.length c ((tabK 2).map (·.1)) w (fun w => rtext_SORTED w) rcallsOf_SORTED (by decide) hn)
theorem both_bad_SORTED (l : List ScrT) (hn : (l.length : Int) ≤ 40) (hb : l.any (badF (tabK 2)) = true) : Both ⟨#[83, 79, 82, 84, 69, 68]⟩ l ([], 0, 1) :=
  both_err 1 (by decide) (fun so c w hs => by have := check_run ⟨#[83, 79, 82, 84, 69, 68]⟩ so c 2 ⟨#[83, 79, 82, 84, 69, 68]⟩ (tabK 2) l w rfl (by kernel_rfl) callsOf_SORTED (by decide) (by decide) hn hs; rw [hb] at this; exact this)
    (fun so c w hs => by have := rcheck_run ⟨#[83, 79, 82, 84, 69, 68]⟩ so c ((tabK 2).map (·.1)) l w (fun w => rtext_SORTED w) rcallsOf_SORTED (by decide) (by decide) hn hs; rw [rbad_any args_SORTED, hb] at this; exact this)
theorem both_run_SORTED (l : List ScrT) (hn : (l.length : Int) ≤ 20) (hb : l.any (badF (tabK 2)) = false) : Both ⟨#[83, 79, 82, 84, 69, 68]⟩ l (runF 2 l St0 []) := fun so c w hs =>
  ⟨model_run ⟨#[83, 79, 82, 84, 69, 68]⟩ so c 2 ⟨#[83, 79, 82, 84, 69, 68]⟩ l w (by omega) rfl (by kernel_rfl) callsOf_SORTED (by decide) (by decide) hn hs hb init_2,
   rmodel_2 so c l w hn hs hb (fun w hs => by have := rcheck_run ⟨#[83, 79, 82, 84, 69, 68]⟩ so c ((tabK 2).map (·.1)) l w (fun w => rtext_SORTED w) rcallsOf_SORTED (by decide) (by decide) (by omega) hs; rw [rbad_any args_SORTED, hb] at this; exact this)⟩
theorem callsOf_STACK : CallsOf ⟨#[83, 84, 65, 67, 75]⟩ (tabK 4) := fun w => calls_STACK w
theorem rcallsOf_STACK : RCallsOf ⟨#[83, 84, 65, 67, 75]⟩ ((tabK 4).map (·.1)) := fun w => (rcalls_STACK w).mono fun e w' hh => ⟨w.heap.size, hh.1, by rw [hh.2]; exact strAt_lit w _ _ 9 rfl, by rw [hh.2]; exact Fr.alloc _ _ _⟩
theorem args_STACK : ∀ t ∈ (tabK 4), argsF t.1 = t.2.1 := by
  intro t ht
  have : t ∈ tabSTACK := ht
  simp only [tabSTACK, List.mem_cons, List.not_mem_nil, or_false] at this
  rcases this with rfl | rfl | rfl | rfl
  · exact af_count
  · exact af_push
  · exact af_pop
  · exact af_peek
theorem both_long_STACK (l : List ScrT) (hn : (40 : Int) < (l.length : Int)) : Both ⟨#[83, 84, 65, 67, 75]⟩ l ([], 0, 3) :=
  both_err 3 (by decide) (fun so c w _ => check_long ⟨#[83, 84, 65, 67, 75]⟩ so l.length c 4 ⟨#[83, 84, 65, 67, 75]⟩ (tabK 4) w rfl (by kernel_rfl) callsOf_STACK (by decide) hn)
    (fun so c w _ => rcheck_long ⟨#[83, 84, 65, 67, 75]⟩ so l.length c ((tabK 4).map (·.1)) w (fun w => rtext_STACK w) rcallsOf_STACK (by decide) hn)
theorem both_bad_STACK (l : List ScrT) (hn : (l.length : Int) ≤ 40) (hb : l.any (badF (tabK 4)) = true) : Both ⟨#[83, 84, 65, 67, 75]⟩ l ([], 0, 1) :=
  both_err 1 (by decide) (fun so c w hs => by have := check_run ⟨#[83, 84, 65, 67, 75]⟩ so c 4 ⟨#[83, 84, 65, 67, 75]⟩ (tabK 4) l w rfl (by kernel_rfl) callsOf_STACK (by decide) (by decide) hn hs; rw [hb] at this; exact this)
    (fun so c w hs => by have := rcheck_run ⟨#[83, 84, 65, 67, 75]⟩ so c ((tabK 4).map (·.1)) l w (fun w => rtext_STACK w) rcallsOf_STACK (by decide) (by decide) hn hs; rw [rbad_any args_STACK, hb] at this; exact this)
theorem both_run_STACK (l : List ScrT) (hn : (l.length : Int) ≤ 20) (hb : l.any (badF (tabK 4)) = false) : Both ⟨#[83, 84, 65, 67, 75]⟩ l (runF 4 l St0 []) := fun so c w hs =>
  ⟨model_run ⟨#[83, 84, 65, 67, 75]⟩ so c 4 ⟨#[83, 84, 65, 67, 75]⟩ l w (by omega) rfl (by kernel_rfl) callsOf_STACK (by decide) (by decide) hn hs hb init_4,
   rmodel_4 so c l w hn hs hb (fun w hs => by have := rcheck_run ⟨#[83, 84, 65, 67, 75]⟩ so c ((tabK 4).map (·.1)) l w (fun w => rtext_STACK w) rcallsOf_STACK (by decide) (by decide) (by omega) hs; rw [rbad_any args_STACK, hb] at this; exact this)⟩
theorem callsOf_QUEUE : CallsOf ⟨#[81, 85, 69, 85, 69]⟩ (tabK 5) := fun w => calls_QUEUE w
theorem rcallsOf_QUEUE : RCallsOf ⟨#[81, 85, 69, 85, 69]⟩ ((tabK 5).map (·.1)) := fun w => (rcalls_QUEUE w).mono fun e w' hh => ⟨w.heap.size, hh.1, by rw [hh.2]; exact strAt_lit w _ _ 9 rfl, by rw [hh.2]; exact Fr.alloc _ _ _⟩
theorem args_QUEUE : ∀ t ∈ (tabK 5), argsF t.1 = t.2.1 := by
  intro t ht
  have : t ∈ tabQUEUE := ht
  simp only [tabQUEUE, List.mem_cons, List.not_mem_nil, or_false] at this
  rcases this with rfl | rfl | rfl | rfl
  · exact af_count
  · exact af_enter
  · exact af_leave
  · exact af_front
theorem both_long_QUEUE (l : List ScrT) (hn : (40 : Int) < (l.length : Int)) : Both ⟨#[81, 85, 69, 85, 69]⟩ l ([], 0, 3) :=
  both_err 3 (by decide) (fun so c w _ => check_long ⟨#[81, 85, 69, 85, 69]⟩ so l.length c 5 ⟨#[81, 85, 69, 85, 69]⟩ (tabK 5) w rfl (by kernel_rfl) callsOf_QUEUE (by decide) hn)
    (fun so c w _ => rcheck_long ⟨#[81, 85, 69, 85, 69]⟩ so l.length c ((tabK 5).map (·.1)) w (fun w => rtext_QUEUE w) rcallsOf_QUEUE (by decide) hn)
theorem both_bad_QUEUE (l : List ScrT) (hn : (l.length : Int) ≤ 40) (hb : l.any (badF (tabK 5)) = true) : Both ⟨#[81, 85, 69, 85, 69]⟩ l ([], 0, 1) :=
  both_err 1 (by decide) (fun so c w hs => by have := check_run ⟨#[81, 85, 69, 85, 69]⟩ so c 5 ⟨#[81, 85, 69, 85, 69]⟩ (tabK 5) l w rfl (by kernel_rfl) callsOf_QUEUE (by decide) (by decide) hn hs; rw [hb] at this; exact this)
    (fun so c w hs => by have := rcheck_run ⟨#[81, 85, 69, 85, 69]⟩ so c ((tabK 5).map (·.1)) l w (fun w => rtext_QUEUE w) rcallsOf_QUEUE (by decide) (by decide) hn hs; rw [rbad_any args_QUEUE, hb] at this; exact this)
theorem both_run_QUEUE (l : List ScrT) (hn : (l.length : Int) ≤ 20) (hb : l.any (badF (tabK 5)) = false) : Both ⟨#[81, 85, 69, 85, 69]⟩ l (runF 5 l St0 []) := fun so c w hs =>
  ⟨model_run ⟨#[81, 85, 69, 85, 69]⟩ so c 5 ⟨#[81, 85, 69, 85, 69]⟩ l w (by omega) rfl (by kernel_rfl) callsOf_QUEUE (by decide) (by decide) hn hs hb init_5,
   rmodel_5 so c l w hn hs hb (fun w hs => by have := rcheck_run ⟨#[81, 85, 69, 85, 69]⟩ so c ((tabK 5).map (·.1)) l w (fun w => rtext_QUEUE w) rcallsOf_QUEUE (by decide) (by decide) (by omega) hs; rw [rbad_any args_QUEUE, hb] at this; exact this)⟩
theorem callsOf_TABLE : CallsOf ⟨#[84, 65, 66, 76, 69]⟩ (tabK 7) := fun w => calls_TABLE w
theorem rcallsOf_TABLE : RCallsOf ⟨#[84, 65, 66, 76, 69]⟩ ((tabK 7).map (·.1)) := fun w => (rcalls_TABLE w).mono fun e w' hh => ⟨w.heap.size, hh.1, by rw [hh.2]; exact strAt_lit w _ _ 9 rfl, by rw [hh.2]; exact Fr.alloc _ _ _⟩
theorem args_TABLE : ∀ t ∈ (tabK 7), argsF t.1 = t.2.1 := by
  intro t ht
  have : t ∈ tabTABLE := ht
  simp only [tabTABLE, List.mem_cons, List.not_mem_nil, or_false] at this
  rcases this with rfl | rfl | rfl | rfl | rfl
  · exact af_count
  · exact af_force
  · exact af_has
  · exact af_value_of
  · exact af_remove
theorem both_long_TABLE (l : List ScrT) (hn : (40 : Int) < (l.length : Int)) : Both ⟨#[84, 65, 66, 76, 69]⟩ l ([], 0, 3) :=
  both_err 3 (by decide) (fun so c w _ => check_long ⟨#[84, 65, 66, 76, 69]⟩ so l.length c 7 ⟨#[84, 65, 66, 76, 69]⟩ (tabK 7) w rfl (by kernel_rfl) callsOf_TABLE (by decide) hn)
    (fun so c w _ => rcheck_long ⟨#[84, 65, 66, 76, 69]⟩ so l.length c ((tabK 7).map (·.1)) w (fun w => rtext_TABLE w) rcallsOf_TABLE (by decide) hn)
theorem both_bad_TABLE (l : List ScrT) (hn : (l.length : Int) ≤ 40) (hb : l.any (badF (tabK 7)) = true) : Both ⟨#[84, 65, 66, 76, 69]⟩ l ([], 0, 1) :=
  both_err 1 (by decide) (fun so c w hs => by have := check_run ⟨#[84, 65, 66, 76, 69]⟩ so c 7 ⟨#[84, 65, 66, 76, 69]⟩ (tabK 7) l w rfl (by kernel_rfl) callsOf_TABLE (by decide) (by decide) hn hs; rw [hb] at this; exact this)
    (fun so c w hs => by have := rcheck_run ⟨#[84, 65, 66, 76, 69]⟩ so c ((tabK 7).map (·.1)) l w (fun w => rtext_TABLE w) rcallsOf_TABLE (by decide) (by decide) hn hs; rw [rbad_any args_TABLE, hb] at this; exact this)
theorem both_run_TABLE (l : List ScrT) (hn : (l.length : Int) ≤ 20) (hb : l.any (badF (tabK 7)) = false) : Both ⟨#[84, 65, 66, 76, 69]⟩ l (runF 7 l St0 []) := fun so c w hs =>
  ⟨model_run ⟨#[84, 65, 66, 76, 69]⟩ so c 7 ⟨#[84, 65, 66, 76, 69]⟩ l w (by omega) rfl (by kernel_rfl) callsOf_TABLE (by decide) (by decide) hn hs hb init_7,
   rmodel_7 so c l w hn hs hb (fun w hs => by have := rcheck_run ⟨#[84, 65, 66, 76, 69]⟩ so c ((tabK 7).map (·.1)) l w (fun w => rtext_TABLE w) rcallsOf_TABLE (by decide) (by decide) (by omega) hs; rw [rbad_any args_TABLE, hb] at this; exact this)⟩
theorem callsOf_SET : CallsOf ⟨#[83, 69, 84]⟩ (tabK 8) := fun w => calls_SET w
theorem rcallsOf_SET : RCallsOf ⟨#[83, 69, 84]⟩ ((tabK 8).map (·.1)) := fun w => (rcalls_SET w).mono fun e w' hh => ⟨w.heap.size, hh.1, by rw [hh.2]; exact strAt_lit w _ _ 9 rfl, by rw [hh.2]; exact Fr.alloc _ _ _⟩
theorem args_SET : ∀ t ∈ (tabK 8), argsF t.1 = t.2.1 := by
  intro t ht
  have : t ∈ tabSET := ht
  simp only [tabSET, List.mem_cons, List.not_mem_nil, or_false] at this
  rcases this with rfl | rfl | rfl | rfl
  · exact af_add
  · exact af_drop
  · exact af_has
  · exact af_size
theorem both_long_SET (l : List ScrT) (hn : (40 : Int) < (l.length : Int)) : Both ⟨#[83, 69, 84]⟩ l ([], 0, 3) :=
  both_err 3 (by decide) (fun so c w _ => check_long ⟨#[83, 69, 84]⟩ so l.length c 8 ⟨#[83, 69, 84]⟩ (tabK 8) w rfl (by kernel_rfl) callsOf_SET (by decide) hn)
    (fun so c w _ => rcheck_long ⟨#[83, 69, 84]⟩ so l.length c ((tabK 8).map (·.1)) w (fun w => rtext_SET w) rcallsOf_SET (by decide) hn)
theorem both_bad_SET (l : List ScrT) (hn : (l.length : Int) ≤ 40) (hb : l.any (badF (tabK 8)) = true) : Both ⟨#[83, 69, 84]⟩ l ([], 0, 1) :=
  both_err 1 (by decide) (fun so c w hs => by have := check_run ⟨#[83, 69, 84]⟩ so c 8 ⟨#[83, 69, 84]⟩ (tabK 8) l w rfl (by kernel_rfl) callsOf_SET (by decide) (by decide) hn hs; rw [hb] at this; exact this)
    (fun so c w hs => by have := rcheck_run ⟨#[83, 69, 84]⟩ so c ((tabK 8).map (·.1)) l w (fun w => rtext_SET w) rcallsOf_SET (by decide) (by decide) hn hs; rw [rbad_any args_SET, hb] at this; exact this)
theorem both_run_SET (l : List ScrT) (hn : (l.length : Int) ≤ 20) (hb : l.any (badF (tabK 8)) = false) : Both ⟨#[83, 69, 84]⟩ l (runF 8 l St0 []) := fun so c w hs =>
  ⟨model_run ⟨#[83, 69, 84]⟩ so c 8 ⟨#[83, 69, 84]⟩ l w (by omega) rfl (by kernel_rfl) callsOf_SET (by decide) (by decide) hn hs hb init_8,
   rmodel_8 so c l w hn hs hb (fun w hs => by have := rcheck_run ⟨#[83, 69, 84]⟩ so c ((tabK 8).map (·.1)) l w (fun w => rtext_SET w) rcallsOf_SET (by decide) (by decide) (by omega) hs; rw [rbad_any args_SET, hb] at this; exact this)⟩
theorem callsOf_COUNTER : CallsOf ⟨#[67, 79, 85, 78, 84, 69, 82]⟩ (tabK 9) := fun w => calls_COUNTER w
theorem rcallsOf_COUNTER : RCallsOf ⟨#[67, 79, 85, 78, 84, 69, 82]⟩ ((tabK 9).map (·.1)) := fun w => (rcalls_COUNTER w).mono fun e w' hh => ⟨w.heap.size, hh.1, by rw [hh.2]; exact strAt_lit w _ _ 9 rfl, by rw [hh.2]; exact Fr.alloc _ _ _⟩
theorem args_COUNTER : ∀ t ∈ (tabK 9), argsF t.1 = t.2.1 := by
  intro t ht
  have : t ∈ tabCOUNTER := ht
  simp only [tabCOUNTER, List.mem_cons, List.not_mem_nil, or_false] at this
  rcases this with rfl | rfl | rfl
  · exact af_count
  · exact af_up
  · exact af_add
theorem both_long_COUNTER (l : List ScrT) (hn : (40 : Int) < (l.length : Int)) : Both ⟨#[67, 79, 85, 78, 84, 69, 82]⟩ l ([], 0, 3) :=
  both_err 3 (by decide) (fun so c w _ => check_long ⟨#[67, 79, 85, 78, 84, 69, 82]⟩ so l.length c 9 ⟨#[67, 79, 85, 78, 84, 69, 82]⟩ (tabK 9) w rfl (by kernel_rfl) callsOf_COUNTER (by decide) hn)
    (fun so c w _ => rcheck_long ⟨#[67, 79, 85, 78, 84, 69, 82]⟩ so l.length c ((tabK 9).map (·.1)) w (fun w => rtext_COUNTER w) rcallsOf_COUNTER (by decide) hn)
theorem both_bad_COUNTER (l : List ScrT) (hn : (l.length : Int) ≤ 40) (hb : l.any (badF (tabK 9)) = true) : Both ⟨#[67, 79, 85, 78, 84, 69, 82]⟩ l ([], 0, 1) :=
  both_err 1 (by decide) (fun so c w hs => by have := check_run ⟨#[67, 79, 85, 78, 84, 69, 82]⟩ so c 9 ⟨#[67, 79, 85, 78, 84, 69, 82]⟩ (tabK 9) l w rfl (by kernel_rfl) callsOf_COUNTER (by decide) (by decide) hn hs; rw [hb] at this; exact this)
    (fun so c w hs => by have := rcheck_run ⟨#[67, 79, 85, 78, 84, 69, 82]⟩ so c ((tabK 9).map (·.1)) l w (fun w => rtext_COUNTER w) rcallsOf_COUNTER (by decide) (by decide) hn hs; rw [rbad_any args_COUNTER, hb] at this; exact this)
theorem both_run_COUNTER (l : List ScrT) (hn : (l.length : Int) ≤ 20) (hb : l.any (badF (tabK 9)) = false) : Both ⟨#[67, 79, 85, 78, 84, 69, 82]⟩ l (runF 9 l St0 []) := fun so c w hs =>
  ⟨model_run ⟨#[67, 79, 85, 78, 84, 69, 82]⟩ so c 9 ⟨#[67, 79, 85, 78, 84, 69, 82]⟩ l w (by omega) rfl (by kernel_rfl) callsOf_COUNTER (by decide) (by decide) hn hs hb init_9,
   rmodel_9 so c l w hn hs hb (fun w hs => by have := rcheck_run ⟨#[67, 79, 85, 78, 84, 69, 82]⟩ so c ((tabK 9).map (·.1)) l w (fun w => rtext_COUNTER w) rcallsOf_COUNTER (by decide) (by decide) (by omega) hs; rw [rbad_any args_COUNTER, hb] at this; exact this)⟩
theorem callsOf_RANGE : CallsOf ⟨#[82, 65, 78, 71, 69]⟩ (tabK 10) := fun w => calls_RANGE w
theorem rcallsOf_RANGE : RCallsOf ⟨#[82, 65, 78, 71, 69]⟩ ((tabK 10).map (·.1)) := fun w => (rcalls_RANGE w).mono fun e w' hh => ⟨w.heap.size, hh.1, by rw [hh.2]; exact strAt_lit w _ _ 9 rfl, by rw [hh.2]; exact Fr.alloc _ _ _⟩
theorem args_RANGE : ∀ t ∈ (tabK 10), argsF t.1 = t.2.1 := by
  intro t ht
  have : t ∈ tabRANGE := ht
  simp only [tabRANGE, List.mem_cons, List.not_mem_nil, or_false] at this
  rcases this with rfl | rfl | rfl | rfl | rfl | rfl
  · exact af_low
  · exact af_high
  · exact af_span
  · exact af_contains
  · exact af_size
  · exact af_sum
theorem both_long_RANGE (l : List ScrT) (hn : (40 : Int) < (l.length : Int)) : Both ⟨#[82, 65, 78, 71, 69]⟩ l ([], 0, 3) :=
  both_err 3 (by decide) (fun so c w _ => check_long ⟨#[82, 65, 78, 71, 69]⟩ so l.length c 10 ⟨#[82, 65, 78, 71, 69]⟩ (tabK 10) w rfl (by kernel_rfl) callsOf_RANGE (by decide) hn)
    (fun so c w _ => rcheck_long ⟨#[82, 65, 78, 71, 69]⟩ so l.length c ((tabK 10).map (·.1)) w (fun w => rtext_RANGE w) rcallsOf_RANGE (by decide) hn)
theorem both_bad_RANGE (l : List ScrT) (hn : (l.length : Int) ≤ 40) (hb : l.any (badF (tabK 10)) = true) : Both ⟨#[82, 65, 78, 71, 69]⟩ l ([], 0, 1) :=
  both_err 1 (by decide) (fun so c w hs => by have := check_run ⟨#[82, 65, 78, 71, 69]⟩ so c 10 ⟨#[82, 65, 78, 71, 69]⟩ (tabK 10) l w rfl (by kernel_rfl) callsOf_RANGE (by decide) (by decide) hn hs; rw [hb] at this; exact this)
    (fun so c w hs => by have := rcheck_run ⟨#[82, 65, 78, 71, 69]⟩ so c ((tabK 10).map (·.1)) l w (fun w => rtext_RANGE w) rcallsOf_RANGE (by decide) (by decide) hn hs; rw [rbad_any args_RANGE, hb] at this; exact this)
theorem both_run_RANGE (l : List ScrT) (hn : (l.length : Int) ≤ 20) (hb : l.any (badF (tabK 10)) = false) : Both ⟨#[82, 65, 78, 71, 69]⟩ l (runF 10 l St0 []) := fun so c w hs =>
  ⟨model_run ⟨#[82, 65, 78, 71, 69]⟩ so c 10 ⟨#[82, 65, 78, 71, 69]⟩ l w (by omega) rfl (by kernel_rfl) callsOf_RANGE (by decide) (by decide) hn hs hb init_10,
   rmodel_10 so c l w hn hs hb (fun w hs => by have := rcheck_run ⟨#[82, 65, 78, 71, 69]⟩ so c ((tabK 10).map (·.1)) l w (fun w => rtext_RANGE w) rcallsOf_RANGE (by decide) (by decide) (by omega) hs; rw [rbad_any args_RANGE, hb] at this; exact this)⟩
theorem callsOf_ARITH : CallsOf ⟨#[65, 82, 73, 84, 72]⟩ (tabK 11) := fun w => calls_ARITH w
theorem rcallsOf_ARITH : RCallsOf ⟨#[65, 82, 73, 84, 72]⟩ ((tabK 11).map (·.1)) := fun w => (rcalls_ARITH w).mono fun e w' hh => ⟨w.heap.size, hh.1, by rw [hh.2]; exact strAt_lit w _ _ 9 rfl, by rw [hh.2]; exact Fr.alloc _ _ _⟩
theorem args_ARITH : ∀ t ∈ (tabK 11), argsF t.1 = t.2.1 := by
  intro t ht
  have : t ∈ tabARITH := ht
  simp only [tabARITH, List.mem_cons, List.not_mem_nil, or_false] at this
  rcases this with rfl | rfl | rfl | rfl
  · exact af_gcd
  · exact af_power
  · exact af_fact
  · exact af_tries
theorem both_long_ARITH (l : List ScrT) (hn : (40 : Int) < (l.length : Int)) : Both ⟨#[65, 82, 73, 84, 72]⟩ l ([], 0, 3) :=
  both_err 3 (by decide) (fun so c w _ => check_long ⟨#[65, 82, 73, 84, 72]⟩ so l.length c 11 ⟨#[65, 82, 73, 84, 72]⟩ (tabK 11) w rfl (by kernel_rfl) callsOf_ARITH (by decide) hn)
    (fun so c w _ => rcheck_long ⟨#[65, 82, 73, 84, 72]⟩ so l.length c ((tabK 11).map (·.1)) w (fun w => rtext_ARITH w) rcallsOf_ARITH (by decide) hn)
theorem both_bad_ARITH (l : List ScrT) (hn : (l.length : Int) ≤ 40) (hb : l.any (badF (tabK 11)) = true) : Both ⟨#[65, 82, 73, 84, 72]⟩ l ([], 0, 1) :=
  both_err 1 (by decide) (fun so c w hs => by have := check_run ⟨#[65, 82, 73, 84, 72]⟩ so c 11 ⟨#[65, 82, 73, 84, 72]⟩ (tabK 11) l w rfl (by kernel_rfl) callsOf_ARITH (by decide) (by decide) hn hs; rw [hb] at this; exact this)
    (fun so c w hs => by have := rcheck_run ⟨#[65, 82, 73, 84, 72]⟩ so c ((tabK 11).map (·.1)) l w (fun w => rtext_ARITH w) rcallsOf_ARITH (by decide) (by decide) hn hs; rw [rbad_any args_ARITH, hb] at this; exact this)
theorem both_run_ARITH (l : List ScrT) (hn : (l.length : Int) ≤ 20) (hb : l.any (badF (tabK 11)) = false) : Both ⟨#[65, 82, 73, 84, 72]⟩ l (runF 11 l St0 []) := fun so c w hs =>
  ⟨model_run ⟨#[65, 82, 73, 84, 72]⟩ so c 11 ⟨#[65, 82, 73, 84, 72]⟩ l w (by omega) rfl (by kernel_rfl) callsOf_ARITH (by decide) (by decide) hn hs hb init_11,
   rmodel_11 so c l w hn hs hb (fun w hs => by have := rcheck_run ⟨#[65, 82, 73, 84, 72]⟩ so c ((tabK 11).map (·.1)) l w (fun w => rtext_ARITH w) rcallsOf_ARITH (by decide) (by decide) (by omega) hs; rw [rbad_any args_ARITH, hb] at this; exact this)⟩
theorem both_ex (cls : ByteArray) (l : List ScrT) (hn : (l.length : Int) ≤ 20 ∨ (40 : Int) < (l.length : Int)) : ∃ R, Both cls l R := by
  rcases nm_cases cls with h | ⟨k, h⟩
  · exact ⟨_, both_name l h⟩
  · obtain ⟨x, hx, rfl⟩ := nm_some h
    match k, hx with
    | 0, hx => cases hx; exact ⟨_, both_LINK l⟩
    | 1, hx =>
      cases hx
      rcases hn with hn | hn
      · cases hb : l.any (badF (tabK 1)) with
        | true => exact ⟨_, both_bad_INTS l (by omega) hb⟩
        | false => exact ⟨_, both_run_INTS l hn hb⟩
      · exact ⟨_, both_long_INTS l hn⟩
    | 2, hx =>
      cases hx
      rcases hn with hn | hn
      · cases hb : l.any (badF (tabK 2)) with
        | true => exact ⟨_, both_bad_SORTED l (by omega) hb⟩
        | false => exact ⟨_, both_run_SORTED l hn hb⟩
      · exact ⟨_, both_long_SORTED l hn⟩
    | 3, hx => cases hx; exact ⟨_, both_NODE l⟩
    | 4, hx =>
      cases hx
      rcases hn with hn | hn
      · cases hb : l.any (badF (tabK 4)) with
        | true => exact ⟨_, both_bad_STACK l (by omega) hb⟩
        | false => exact ⟨_, both_run_STACK l hn hb⟩
      · exact ⟨_, both_long_STACK l hn⟩
    | 5, hx =>
      cases hx
      rcases hn with hn | hn
      · cases hb : l.any (badF (tabK 5)) with
        | true => exact ⟨_, both_bad_QUEUE l (by omega) hb⟩
        | false => exact ⟨_, both_run_QUEUE l hn hb⟩
      · exact ⟨_, both_long_QUEUE l hn⟩
    | 6, hx => cases hx; exact ⟨_, both_ENTRY l⟩
    | 7, hx =>
      cases hx
      rcases hn with hn | hn
      · cases hb : l.any (badF (tabK 7)) with
        | true => exact ⟨_, both_bad_TABLE l (by omega) hb⟩
        | false => exact ⟨_, both_run_TABLE l hn hb⟩
      · exact ⟨_, both_long_TABLE l hn⟩
    | 8, hx =>
      cases hx
      rcases hn with hn | hn
      · cases hb : l.any (badF (tabK 8)) with
        | true => exact ⟨_, both_bad_SET l (by omega) hb⟩
        | false => exact ⟨_, both_run_SET l hn hb⟩
      · exact ⟨_, both_long_SET l hn⟩
    | 9, hx =>
      cases hx
      rcases hn with hn | hn
      · cases hb : l.any (badF (tabK 9)) with
        | true => exact ⟨_, both_bad_COUNTER l (by omega) hb⟩
        | false => exact ⟨_, both_run_COUNTER l hn hb⟩
      · exact ⟨_, both_long_COUNTER l hn⟩
    | 10, hx =>
      cases hx
      rcases hn with hn | hn
      · cases hb : l.any (badF (tabK 10)) with
        | true => exact ⟨_, both_bad_RANGE l (by omega) hb⟩
        | false => exact ⟨_, both_run_RANGE l hn hb⟩
      · exact ⟨_, both_long_RANGE l hn⟩
    | 11, hx =>
      cases hx
      rcases hn with hn | hn
      · cases hb : l.any (badF (tabK 11)) with
        | true => exact ⟨_, both_bad_ARITH l (by omega) hb⟩
        | false => exact ⟨_, both_run_ARITH l hn hb⟩
      · exact ⟨_, both_long_ARITH l hn⟩
    | n + 12, hx => simp [names12] at hx
end Go.Proofs.YtpnbhoeghncnnaaGreatDoor

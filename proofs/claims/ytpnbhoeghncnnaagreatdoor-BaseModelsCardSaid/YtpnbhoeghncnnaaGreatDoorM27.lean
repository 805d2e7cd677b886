/-
  A part of the proof of Rows.BaseModelsCardSaid (for every class and script BaseModels answers true, and its arguments read as they did; the listed library variables as the program text lays them): texts QD5, QD7, QD8, QD9. By an AI agent.
-/
import Derived.RegionTactic
import Derived.Outline
import Derived.Test.YtpnbhoeghncnnaaGreatDoorM26
set_option linter.all false
set_option linter.unusedVariables false
set_option linter.unusedSimpArgs false
namespace Go.Proofs.YtpnbhoeghncnnaaGreatDoor
open Go.RowKit
set_option maxRecDepth 100000 in
set_option maxHeartbeats 8000000 in
theorem rmodel_5 (so : Option Addr) (c : Nat) (l : List ScrT) (w : World) (hn : (l.length : Int) ≤ 20) (hs : ScrAt w so l) (hg : l.any (badF (tabK 5)) = false) (hchk : ∀ w, ScrAt w so l → Calls Tryz.prog 18 #[.string ⟨#[81, 85, 69, 85, 69]⟩, .slice so l.length c] w fun e w' => e = .returned (.int .i64 0) ∧ Fr (fun _ => False) w w') :
    Calls Tryz.prog 7 #[.string ⟨#[81, 85, 69, 85, 69]⟩, .slice so l.length c] w fun e w' => ∃ v own, e = .returned (.agg #[v, .int .i64 (runF 5 l St0 []).2.1, .int .i64 (runF 5 l St0 []).2.2]) ∧ Lst w' v own (runF 5 l St0 []).1 ∧ Fr (fun _ => False) w w' := by
  have HCHK := Lib.hid hchk
  have HS := Lib.hid hs
  have HG := Lib.hid hg
  generalize hR : runF 5 l St0 [] = R
  have HR := Lib.hid hR
  clear hchk hs hg hR
  have F0 := Lib.hid (Fr.alloc (fun _ => False) w (.cells #[.slice none 0 0, .int .i64 0, .int .i64 0] 30))
  have RB0 := Lib.hid (heap_alloc_new w (.cells #[.slice none 0 0, .int .i64 0, .int .i64 0] 30))
  go_enter Tryz.func7, Tryz.ntmps7
  go_wp2_with (first
    | (go_at_call 18; refine (HCHK.out _ (HS.out.fr F0.out)).mono ?_; rintro e w1 ⟨rfl, hf⟩; have HF1 := Lib.hid (F0.out.trans hf (fun _ _ h => h)); have RB1 := Lib.hid (hf.heap RB0.out id); clear hf))
  have RN := Lib.hid (RS.new w1 (-1))
  have RBN := Lib.hid ((Fr.alloc (fun _ => False) w1 (.cells #[.slice none 0 0, .slice none 0 0, .int .i64 0, .int .i64 (-1), .slice none 0 0, .int .i64 0, .bool false] 57)).heap RB1.out id)
  have FN1 := Lib.hid (Fr.alloc (fun j => w1.heap.size ≤ j) w1 (.cells #[.slice none 0 0, .slice none 0 0, .int .i64 0, .int .i64 (-1), .slice none 0 0, .int .i64 0, .bool false] 57))
  have LT := Lib.hid (heap_lt RB1.out)
  go_loopw [7] (fun i wr => ∃ m : Nat, i = .int .i64 m ∧ m ≤ l.length ∧ Fr (fun j => w1.heap.size ≤ j) w1 wr ∧ (RRun 5 w1.heap.size w1.heap.size l R m wr ∨ RHalt w1.heap.size w1.heap.size R wr)) (fun i _ => l.length - (intOf i).toNat)
  case atStart => exact ⟨0, rfl, by omega, FN1.out, .inl ⟨St0, [], [], 0, (-1), [], rfl, RN.out, Nat.le_refl _, ⟨by simp [St0], (fun _ h => by cases h), by decide, by decide⟩, by simp [St0], by rw [List.drop_zero]; exact HR.out⟩⟩
  case round =>
    obtain ⟨m, rfl, hm, hfr, hst⟩ := hrel
    have HF := Lib.hid hfr
    have RBR := Lib.hid (hfr.heap RB1.out (by have := LT.out; omega))
    have cb0 : wr.cell? ⟨w.heap.size, 0, none⟩ = some (.slice none 0 0) := by rw [heap_cell RBR.out]; rfl
    have cb1 : wr.cell? ⟨w.heap.size, 1, none⟩ = some (.int .i64 0) := by rw [heap_cell RBR.out]; rfl
    have cb2 : wr.cell? ⟨w.heap.size, 2, none⟩ = some (.int .i64 0) := by rw [heap_cell RBR.out]; rfl
    have zb0 : wr.frozen? ⟨w.heap.size, 0, none⟩ = false := heap_frozen RBR.out 0
    have zb1 : wr.frozen? ⟨w.heap.size, 1, none⟩ = false := heap_frozen RBR.out 1
    have zb2 : wr.frozen? ⟨w.heap.size, 2, none⟩ = false := heap_frozen RBR.out 2
    have FT := Lib.hid (HF1.out.trans (Fr.shut HF.out) (fun _ _ h => h))
    clear hfr
    rcases hst with hrun | hhalt
    · obtain ⟨s, L, K, lo, hi, O, hrel, hrs, hO, hgood, hal, hrf⟩ := hrun
      obtain ⟨co0, cco, oO, c4, c5, c6, z3, c3, hblt, hlo⟩ := hrs.cells
      have HREL := Lib.hid hrel
      have HRS := Lib.hid hrs
      have HLO := Lib.hid hlo
      have HO := Lib.hid hO
      have HGD := Lib.hid hgood
      have HAL := Lib.hid hal
      have HRF := Lib.hid hrf
      clear hrel hrs hO hgood hal hrf hlo
      by_cases hlt : m < l.length
      · obtain ⟨⟨nm, va, vb⟩, hy⟩ : ∃ y, l[m]? = some y := ⟨_, List.getElem?_eq_getElem hlt⟩
        obtain ⟨gg, oof, rfl, y0, y1, y2⟩ := HS.out.fr FT.out m _ hy
        obtain ⟨i, ⟨tn, na, tr⟩, hfi, hti, hnm, htix, hva, hvb, ha1, ha2⟩ := good_call HG.out hy
        dsimp only at y0 y1 y2 hfi hnm htix hva hvb ha2
        have HST := Lib.hid (runF_step hy hfi hti s O)
        subst hnm
        have HSTEP := Lib.hid (rstepAll_5 HRS.out (by have := HO.out; omega) HREL.out ⟨by have h1 := HGD.out.len; omega, HGD.out.all, HGD.out.lo, HGD.out.hi⟩ (by have := HAL.out; omega) hva hvb hti ha2)
        have HVA := Lib.hid hva
        have HVB := Lib.hid hvb
        clear hy hfi hti htix hva hvb ha1 ha2
        cases hstep : stepF 5 i va vb s with
        | go n s' =>
          have HH := HSTEP.out
          dsimp only at HH
          rw [hstep] at HH
          have HSTEP2 := Lib.hid HH
          have HR2 := Lib.hid (show runF 5 (l.drop (m + 1)) s' (if tr then O ++ [n] else O) = R by rw [← HRF.out, HST.out]; dsimp only; rw [hstep])
          have HG2 := Lib.hid (good_step (n := m) HVA.out HVB.out HGD.out hstep)
          have HA2 := Lib.hid (al_step hstep)
          clear hstep HH HSTEP
          go_wp2_with (first
            | (go_at_call 21
               refine HSTEP2.out.mono ?_
               rintro e w2 ⟨rfl, L2, K2, lo2, hi2, hrel2, hrs2, hfr2⟩
               obtain ⟨so2, co2, oO2, d4, d5, d6, _, _, _, _⟩ := hrs2.cells
               have HREL2 := Lib.hid hrel2
               have HRS2 := Lib.hid hrs2
               have HFR2 := Lib.hid hfr2
               clear hrel2 hrs2 hfr2 d4))
          go_roundw
          case rel => exact ⟨m + 1, by go_num, by omega, HF.out.trans HFR2.out (fun _ _ h => h), .inl ⟨s', L2, K2, lo2, hi2, _, HREL2.out, HRS2.out, by have := HO.out; split <;> simp <;> omega, HG2.out, by have h1 := HAL.out; have h2 := HA2.out; omega, HR2.out⟩⟩
          case measure => simp [intOf]; omega
        | halt f er =>
          have HH := HSTEP.out
          dsimp only at HH
          rw [hstep] at HH
          have HFAIR := Lib.hid (halt_fair hstep)
          have HERR := Lib.hid (halt_err hstep)
          by_cases he : er = 0
          · subst he
            have HSTEP2 := Lib.hid HH
            have HF0 := Lib.hid (HFAIR.out rfl)
            have HR2 := Lib.hid (show (O, f, (0 : Int)) = R by rw [← HRF.out, HST.out]; dsimp only; rw [hstep]; rfl)
            clear hstep HH HSTEP
            go_wp2_with (first
              | (go_at_call 21
                 refine HSTEP2.out.mono ?_
                 rintro e w2 ⟨rfl, L2, K2, lo2, hi2, hrs2, hfr2⟩
                 obtain ⟨so2, co2, oO2, d4, d5, d6, _, _, _, _⟩ := hrs2.cells
                 have HRS2 := Lib.hid hrs2
                 have HFR2 := Lib.hid hfr2
                 have d6' : w2.cell? ⟨w1.heap.size, 6, none⟩ = some (.bool false) := d6
                 clear hrs2 hfr2 d4 d6))
            go_roundw
            case rel => exact ⟨m + 1, by go_num, by omega, HF.out.trans HFR2.out (fun _ _ h => h), (.inr ⟨L2, K2, lo2, hi2, O, f, HF0.out, HRS2.out, HR2.out.symm⟩)⟩
            case measure => simp [intOf]; omega
          · obtain rfl : er = 3 := by rcases HERR.out with h | h; exact absurd h he; exact h
            have HSTEP2 := Lib.hid HH
            have HR2 := Lib.hid (show (([] : List Int), (0 : Int), (3 : Int)) = R by rw [← HRF.out, HST.out]; dsimp only; rw [hstep]; rfl)
            clear hstep HH HSTEP
            go_wp2_with (first
              | (go_at_call 21
                 refine HSTEP2.out.mono ?_
                 rintro e w2 ⟨rfl, L2, K2, lo2, hi2, hrs2, hfr2⟩
                 obtain ⟨so2, co2, oO2, d4, d5, d6, _, _, _, _⟩ := hrs2.cells
                 have HFR2 := Lib.hid hfr2
                 have RB2 := Lib.hid (hfr2.heap RBR.out (by have := LT.out; omega))
                 have d6' : w2.cell? ⟨w1.heap.size, 6, none⟩ = some (.bool true) := d6
                 have cb0' : w2.cell? ⟨w.heap.size, 0, none⟩ = some (.slice none 0 0) := by rw [heap_cell RB2.out]; rfl
                 have cb1' : w2.cell? ⟨w.heap.size, 1, none⟩ = some (.int .i64 0) := by rw [heap_cell RB2.out]; rfl
                 have cb2' : w2.cell? ⟨w.heap.size, 2, none⟩ = some (.int .i64 0) := by rw [heap_cell RB2.out]; rfl
                 have zb0' : w2.frozen? ⟨w.heap.size, 0, none⟩ = false := heap_frozen RB2.out 0
                 have zb1' : w2.frozen? ⟨w.heap.size, 1, none⟩ = false := heap_frozen RB2.out 1
                 have zb2' : w2.frozen? ⟨w.heap.size, 2, none⟩ = false := heap_frozen RB2.out 2
                 clear hrs2 hfr2 d4 d6 d5))
            have h3 := rput3 0 3 RB2.out (Lst.nil w2) (FT.out.trans HFR2.out (fun i hi h => by have := HF1.out.size; omega))
            generalize (((w2.setCell ⟨w.heap.size, 0, none⟩ (.slice none 0 0)).setCell ⟨w.heap.size, 1, none⟩ (.int .i64 0)).setCell ⟨w.heap.size, 2, none⟩ (.int .i64 3)) = w9 at h3 ⊢
            have e0 : w9.cell? ⟨w.heap.size, 0, none⟩ = some (.slice none 0 0) := by rw [heap_cell h3.1]; rfl
            have e1 : w9.cell? ⟨w.heap.size, 1, none⟩ = some (.int .i64 0) := by rw [heap_cell h3.1]; rfl
            have e2 : w9.cell? ⟨w.heap.size, 2, none⟩ = some (.int .i64 3) := by rw [heap_cell h3.1]; rfl
            refine bodyPost_ret (v := .agg #[.slice none 0 0, .int .i64 0, .int .i64 3]) ?_ rfl ⟨_, none, by rw [← HR2.out], by rw [← HR2.out]; exact h3.2.1, h3.2.2⟩
            simp [results, Tryz.results7, go_sem, e0, e1, e2, Result.andThen]
      · obtain rfl : l.length = m := by omega
        have HR2 := Lib.hid (show (O, (0 : Int), (0 : Int)) = R by rw [← HRF.out, List.drop_length]; rfl)
        go_wp2
        go_region
        all_goals
          go_wp2
          have h3 := rput3 0 0 RBR.out HLO.out FT.out
          generalize (((wr.setCell ⟨w.heap.size, 0, none⟩ (.slice co0 O.length cco)).setCell ⟨w.heap.size, 1, none⟩ (.int .i64 0)).setCell ⟨w.heap.size, 2, none⟩ (.int .i64 0)) = w9 at h3 ⊢
          have e0 : w9.cell? ⟨w.heap.size, 0, none⟩ = some (.slice co0 O.length cco) := by rw [heap_cell h3.1]; rfl
          have e1 : w9.cell? ⟨w.heap.size, 1, none⟩ = some (.int .i64 0) := by rw [heap_cell h3.1]; rfl
          have e2 : w9.cell? ⟨w.heap.size, 2, none⟩ = some (.int .i64 0) := by rw [heap_cell h3.1]; rfl
          refine bodyPost_ret (v := .agg #[.slice co0 O.length cco, .int .i64 0, .int .i64 0]) ?_ rfl ⟨_, oO, by rw [← HR2.out], by rw [← HR2.out]; exact h3.2.1.fr0 (Fr.drew _ _), h3.2.2.trans (Fr.drew _ _) (fun _ _ h => h)⟩
          simp [results, Tryz.results7, go_sem, e0, e1, e2, Result.andThen]
    · obtain ⟨L, K, lo, hi, O, f, hf0, hrs, hRR⟩ := hhalt
      obtain ⟨co0, cco, oO, c4, c5, c6, z3, c3, hblt, hlo⟩ := hrs.cells
      have hfb : (f == 0) = false := by simpa using hf0
      have HLO := Lib.hid hlo
      have HR2 := Lib.hid hRR.symm
      clear hrs hRR hlo hf0
      by_cases hlt : m < l.length
      · go_wp2
        go_region
        all_goals
          go_wp2
          have h3 := rput3 f 0 RBR.out HLO.out FT.out
          generalize (((wr.setCell ⟨w.heap.size, 0, none⟩ (.slice co0 O.length cco)).setCell ⟨w.heap.size, 1, none⟩ (.int .i64 f)).setCell ⟨w.heap.size, 2, none⟩ (.int .i64 0)) = w9 at h3 ⊢
          have e0 : w9.cell? ⟨w.heap.size, 0, none⟩ = some (.slice co0 O.length cco) := by rw [heap_cell h3.1]; rfl
          have e1 : w9.cell? ⟨w.heap.size, 1, none⟩ = some (.int .i64 f) := by rw [heap_cell h3.1]; rfl
          have e2 : w9.cell? ⟨w.heap.size, 2, none⟩ = some (.int .i64 0) := by rw [heap_cell h3.1]; rfl
          refine bodyPost_ret (v := .agg #[.slice co0 O.length cco, .int .i64 f, .int .i64 0]) ?_ rfl ⟨_, oO, by rw [← HR2.out], by rw [← HR2.out]; exact h3.2.1.fr0 (Fr.drew _ _), h3.2.2.trans (Fr.drew _ _) (fun _ _ h => h)⟩
          simp [results, Tryz.results7, go_sem, e0, e1, e2, Result.andThen]
      · obtain rfl : l.length = m := by omega
        go_wp2
        go_region
        all_goals
          go_wp2
          have h3 := rput3 f 0 RBR.out HLO.out FT.out
          generalize (((wr.setCell ⟨w.heap.size, 0, none⟩ (.slice co0 O.length cco)).setCell ⟨w.heap.size, 1, none⟩ (.int .i64 f)).setCell ⟨w.heap.size, 2, none⟩ (.int .i64 0)) = w9 at h3 ⊢
          have e0 : w9.cell? ⟨w.heap.size, 0, none⟩ = some (.slice co0 O.length cco) := by rw [heap_cell h3.1]; rfl
          have e1 : w9.cell? ⟨w.heap.size, 1, none⟩ = some (.int .i64 f) := by rw [heap_cell h3.1]; rfl
          have e2 : w9.cell? ⟨w.heap.size, 2, none⟩ = some (.int .i64 0) := by rw [heap_cell h3.1]; rfl
          refine bodyPost_ret (v := .agg #[.slice co0 O.length cco, .int .i64 f, .int .i64 0]) ?_ rfl ⟨_, oO, by rw [← HR2.out], by rw [← HR2.out]; exact h3.2.1.fr0 (Fr.drew _ _), h3.2.2.trans (Fr.drew _ _) (fun _ _ h => h)⟩
          simp [results, Tryz.results7, go_sem, e0, e1, e2, Result.andThen]
end Go.Proofs.YtpnbhoeghncnnaaGreatDoor
namespace Go.Proofs.YtpnbhoeghncnnaaGreatDoor
open Go.RowKit
set_option maxRecDepth 100000 in
set_option maxHeartbeats 8000000 in
theorem rmodel_7 (so : Option Addr) (c : Nat) (l : List ScrT) (w : World) (hn : (l.length : Int) ≤ 20) (hs : ScrAt w so l) (hg : l.any (badF (tabK 7)) = false) (hchk : ∀ w, ScrAt w so l → Calls Tryz.prog 18 #[.string ⟨#[84, 65, 66, 76, 69]⟩, .slice so l.length c] w fun e w' => e = .returned (.int .i64 0) ∧ Fr (fun _ => False) w w') :
    Calls Tryz.prog 7 #[.string ⟨#[84, 65, 66, 76, 69]⟩, .slice so l.length c] w fun e w' => ∃ v own, e = .returned (.agg #[v, .int .i64 (runF 7 l St0 []).2.1, .int .i64 (runF 7 l St0 []).2.2]) ∧ Lst w' v own (runF 7 l St0 []).1 ∧ Fr (fun _ => False) w w' := by
  have HCHK := Lib.hid hchk
  have HS := Lib.hid hs
  have HG := Lib.hid hg
  generalize hR : runF 7 l St0 [] = R
  have HR := Lib.hid hR
  clear hchk hs hg hR
  have F0 := Lib.hid (Fr.alloc (fun _ => False) w (.cells #[.slice none 0 0, .int .i64 0, .int .i64 0] 30))
  have RB0 := Lib.hid (heap_alloc_new w (.cells #[.slice none 0 0, .int .i64 0, .int .i64 0] 30))
  go_enter Tryz.func7, Tryz.ntmps7
  go_wp2_with (first
    | (go_at_call 18; refine (HCHK.out _ (HS.out.fr F0.out)).mono ?_; rintro e w1 ⟨rfl, hf⟩; have HF1 := Lib.hid (F0.out.trans hf (fun _ _ h => h)); have RB1 := Lib.hid (hf.heap RB0.out id); clear hf))
  have RN := Lib.hid (RS.new w1 (-1))
  have RBN := Lib.hid ((Fr.alloc (fun _ => False) w1 (.cells #[.slice none 0 0, .slice none 0 0, .int .i64 0, .int .i64 (-1), .slice none 0 0, .int .i64 0, .bool false] 57)).heap RB1.out id)
  have FN1 := Lib.hid (Fr.alloc (fun j => w1.heap.size ≤ j) w1 (.cells #[.slice none 0 0, .slice none 0 0, .int .i64 0, .int .i64 (-1), .slice none 0 0, .int .i64 0, .bool false] 57))
  have LT := Lib.hid (heap_lt RB1.out)
  go_loopw [7] (fun i wr => ∃ m : Nat, i = .int .i64 m ∧ m ≤ l.length ∧ Fr (fun j => w1.heap.size ≤ j) w1 wr ∧ (RRun 7 w1.heap.size w1.heap.size l R m wr ∨ RHalt w1.heap.size w1.heap.size R wr)) (fun i _ => l.length - (intOf i).toNat)
  case atStart => exact ⟨0, rfl, by omega, FN1.out, .inl ⟨St0, [], [], 0, (-1), [], ⟨rfl, rfl⟩, RN.out, Nat.le_refl _, ⟨by simp [St0], (fun _ h => by cases h), by decide, by decide⟩, by simp [St0], by rw [List.drop_zero]; exact HR.out⟩⟩
  case round =>
    obtain ⟨m, rfl, hm, hfr, hst⟩ := hrel
    have HF := Lib.hid hfr
    have RBR := Lib.hid (hfr.heap RB1.out (by have := LT.out; omega))
    have cb0 : wr.cell? ⟨w.heap.size, 0, none⟩ = some (.slice none 0 0) := by rw [heap_cell RBR.out]; rfl
    have cb1 : wr.cell? ⟨w.heap.size, 1, none⟩ = some (.int .i64 0) := by rw [heap_cell RBR.out]; rfl
    have cb2 : wr.cell? ⟨w.heap.size, 2, none⟩ = some (.int .i64 0) := by rw [heap_cell RBR.out]; rfl
    have zb0 : wr.frozen? ⟨w.heap.size, 0, none⟩ = false := heap_frozen RBR.out 0
    have zb1 : wr.frozen? ⟨w.heap.size, 1, none⟩ = false := heap_frozen RBR.out 1
    have zb2 : wr.frozen? ⟨w.heap.size, 2, none⟩ = false := heap_frozen RBR.out 2
    have FT := Lib.hid (HF1.out.trans (Fr.shut HF.out) (fun _ _ h => h))
    clear hfr
    rcases hst with hrun | hhalt
    · obtain ⟨s, L, K, lo, hi, O, hrel, hrs, hO, hgood, hal, hrf⟩ := hrun
      obtain ⟨co0, cco, oO, c4, c5, c6, z3, c3, hblt, hlo⟩ := hrs.cells
      have HREL := Lib.hid hrel
      have HRS := Lib.hid hrs
      have HLO := Lib.hid hlo
      have HO := Lib.hid hO
      have HGD := Lib.hid hgood
      have HAL := Lib.hid hal
      have HRF := Lib.hid hrf
      clear hrel hrs hO hgood hal hrf hlo
      by_cases hlt : m < l.length
      · obtain ⟨⟨nm, va, vb⟩, hy⟩ : ∃ y, l[m]? = some y := ⟨_, List.getElem?_eq_getElem hlt⟩
        obtain ⟨gg, oof, rfl, y0, y1, y2⟩ := HS.out.fr FT.out m _ hy
        obtain ⟨i, ⟨tn, na, tr⟩, hfi, hti, hnm, htix, hva, hvb, ha1, ha2⟩ := good_call HG.out hy
        dsimp only at y0 y1 y2 hfi hnm htix hva hvb ha2
        have HST := Lib.hid (runF_step hy hfi hti s O)
        subst hnm
        have HSTEP := Lib.hid (rstepAll_7 HRS.out (by have := HO.out; omega) HREL.out ⟨by have h1 := HGD.out.len; omega, HGD.out.all, HGD.out.lo, HGD.out.hi⟩ (by have := HAL.out; omega) hva hvb hti ha2)
        have HVA := Lib.hid hva
        have HVB := Lib.hid hvb
        clear hy hfi hti htix hva hvb ha1 ha2
        cases hstep : stepF 7 i va vb s with
        | go n s' =>
          have HH := HSTEP.out
          dsimp only at HH
          rw [hstep] at HH
          have HSTEP2 := Lib.hid HH
          have HR2 := Lib.hid (show runF 7 (l.drop (m + 1)) s' (if tr then O ++ [n] else O) = R by rw [← HRF.out, HST.out]; dsimp only; rw [hstep])
          have HG2 := Lib.hid (good_step (n := m) HVA.out HVB.out HGD.out hstep)
          have HA2 := Lib.hid (al_step hstep)
          clear hstep HH HSTEP
          go_wp2_with (first
            | (go_at_call 22
               refine HSTEP2.out.mono ?_
               rintro e w2 ⟨rfl, L2, K2, lo2, hi2, hrel2, hrs2, hfr2⟩
               obtain ⟨so2, co2, oO2, d4, d5, d6, _, _, _, _⟩ := hrs2.cells
               have HREL2 := Lib.hid hrel2
               have HRS2 := Lib.hid hrs2
               have HFR2 := Lib.hid hfr2
               clear hrel2 hrs2 hfr2 d4))
          go_roundw
          case rel => exact ⟨m + 1, by go_num, by omega, HF.out.trans HFR2.out (fun _ _ h => h), .inl ⟨s', L2, K2, lo2, hi2, _, HREL2.out, HRS2.out, by have := HO.out; split <;> simp <;> omega, HG2.out, by have h1 := HAL.out; have h2 := HA2.out; omega, HR2.out⟩⟩
          case measure => simp [intOf]; omega
        | halt f er =>
          have HH := HSTEP.out
          dsimp only at HH
          rw [hstep] at HH
          have HFAIR := Lib.hid (halt_fair hstep)
          have HERR := Lib.hid (halt_err hstep)
          by_cases he : er = 0
          · subst he
            have HSTEP2 := Lib.hid HH
            have HF0 := Lib.hid (HFAIR.out rfl)
            have HR2 := Lib.hid (show (O, f, (0 : Int)) = R by rw [← HRF.out, HST.out]; dsimp only; rw [hstep]; rfl)
            clear hstep HH HSTEP
            go_wp2_with (first
              | (go_at_call 22
                 refine HSTEP2.out.mono ?_
                 rintro e w2 ⟨rfl, L2, K2, lo2, hi2, hrs2, hfr2⟩
                 obtain ⟨so2, co2, oO2, d4, d5, d6, _, _, _, _⟩ := hrs2.cells
                 have HRS2 := Lib.hid hrs2
                 have HFR2 := Lib.hid hfr2
                 have d6' : w2.cell? ⟨w1.heap.size, 6, none⟩ = some (.bool false) := d6
                 clear hrs2 hfr2 d4 d6))
            go_roundw
            case rel => exact ⟨m + 1, by go_num, by omega, HF.out.trans HFR2.out (fun _ _ h => h), (.inr ⟨L2, K2, lo2, hi2, O, f, HF0.out, HRS2.out, HR2.out.symm⟩)⟩
            case measure => simp [intOf]; omega
          · obtain rfl : er = 3 := by rcases HERR.out with h | h; exact absurd h he; exact h
            have HSTEP2 := Lib.hid HH
            have HR2 := Lib.hid (show (([] : List Int), (0 : Int), (3 : Int)) = R by rw [← HRF.out, HST.out]; dsimp only; rw [hstep]; rfl)
            clear hstep HH HSTEP
            go_wp2_with (first
              | (go_at_call 22
                 refine HSTEP2.out.mono ?_
                 rintro e w2 ⟨rfl, L2, K2, lo2, hi2, hrs2, hfr2⟩
                 obtain ⟨so2, co2, oO2, d4, d5, d6, _, _, _, _⟩ := hrs2.cells
                 have HFR2 := Lib.hid hfr2
                 have RB2 := Lib.hid (hfr2.heap RBR.out (by have := LT.out; omega))
                 have d6' : w2.cell? ⟨w1.heap.size, 6, none⟩ = some (.bool true) := d6
                 have cb0' : w2.cell? ⟨w.heap.size, 0, none⟩ = some (.slice none 0 0) := by rw [heap_cell RB2.out]; rfl
                 have cb1' : w2.cell? ⟨w.heap.size, 1, none⟩ = some (.int .i64 0) := by rw [heap_cell RB2.out]; rfl
                 have cb2' : w2.cell? ⟨w.heap.size, 2, none⟩ = some (.int .i64 0) := by rw [heap_cell RB2.out]; rfl
                 have zb0' : w2.frozen? ⟨w.heap.size, 0, none⟩ = false := heap_frozen RB2.out 0
                 have zb1' : w2.frozen? ⟨w.heap.size, 1, none⟩ = false := heap_frozen RB2.out 1
                 have zb2' : w2.frozen? ⟨w.heap.size, 2, none⟩ = false := heap_frozen RB2.out 2
                 clear hrs2 hfr2 d4 d6 d5))
            have h3 := rput3 0 3 RB2.out (Lst.nil w2) (FT.out.trans HFR2.out (fun i hi h => by have := HF1.out.size; omega))
            generalize (((w2.setCell ⟨w.heap.size, 0, none⟩ (.slice none 0 0)).setCell ⟨w.heap.size, 1, none⟩ (.int .i64 0)).setCell ⟨w.heap.size, 2, none⟩ (.int .i64 3)) = w9 at h3 ⊢
            have e0 : w9.cell? ⟨w.heap.size, 0, none⟩ = some (.slice none 0 0) := by rw [heap_cell h3.1]; rfl
            have e1 : w9.cell? ⟨w.heap.size, 1, none⟩ = some (.int .i64 0) := by rw [heap_cell h3.1]; rfl
            have e2 : w9.cell? ⟨w.heap.size, 2, none⟩ = some (.int .i64 3) := by rw [heap_cell h3.1]; rfl
            refine bodyPost_ret (v := .agg #[.slice none 0 0, .int .i64 0, .int .i64 3]) ?_ rfl ⟨_, none, by rw [← HR2.out], by rw [← HR2.out]; exact h3.2.1, h3.2.2⟩
            simp [results, Tryz.results7, go_sem, e0, e1, e2, Result.andThen]
      · obtain rfl : l.length = m := by omega
        have HR2 := Lib.hid (show (O, (0 : Int), (0 : Int)) = R by rw [← HRF.out, List.drop_length]; rfl)
        go_wp2
        go_region
        all_goals
          go_wp2
          have h3 := rput3 0 0 RBR.out HLO.out FT.out
          generalize (((wr.setCell ⟨w.heap.size, 0, none⟩ (.slice co0 O.length cco)).setCell ⟨w.heap.size, 1, none⟩ (.int .i64 0)).setCell ⟨w.heap.size, 2, none⟩ (.int .i64 0)) = w9 at h3 ⊢
          have e0 : w9.cell? ⟨w.heap.size, 0, none⟩ = some (.slice co0 O.length cco) := by rw [heap_cell h3.1]; rfl
          have e1 : w9.cell? ⟨w.heap.size, 1, none⟩ = some (.int .i64 0) := by rw [heap_cell h3.1]; rfl
          have e2 : w9.cell? ⟨w.heap.size, 2, none⟩ = some (.int .i64 0) := by rw [heap_cell h3.1]; rfl
          refine bodyPost_ret (v := .agg #[.slice co0 O.length cco, .int .i64 0, .int .i64 0]) ?_ rfl ⟨_, oO, by rw [← HR2.out], by rw [← HR2.out]; exact h3.2.1.fr0 (Fr.drew _ _), h3.2.2.trans (Fr.drew _ _) (fun _ _ h => h)⟩
          simp [results, Tryz.results7, go_sem, e0, e1, e2, Result.andThen]
    · obtain ⟨L, K, lo, hi, O, f, hf0, hrs, hRR⟩ := hhalt
      obtain ⟨co0, cco, oO, c4, c5, c6, z3, c3, hblt, hlo⟩ := hrs.cells
      have hfb : (f == 0) = false := by simpa using hf0
      have HLO := Lib.hid hlo
      have HR2 := Lib.hid hRR.symm
      clear hrs hRR hlo hf0
      by_cases hlt : m < l.length
      · go_wp2
        go_region
        all_goals
          go_wp2
          have h3 := rput3 f 0 RBR.out HLO.out FT.out
          generalize (((wr.setCell ⟨w.heap.size, 0, none⟩ (.slice co0 O.length cco)).setCell ⟨w.heap.size, 1, none⟩ (.int .i64 f)).setCell ⟨w.heap.size, 2, none⟩ (.int .i64 0)) = w9 at h3 ⊢
          have e0 : w9.cell? ⟨w.heap.size, 0, none⟩ = some (.slice co0 O.length cco) := by rw [heap_cell h3.1]; rfl
          have e1 : w9.cell? ⟨w.heap.size, 1, none⟩ = some (.int .i64 f) := by rw [heap_cell h3.1]; rfl
          have e2 : w9.cell? ⟨w.heap.size, 2, none⟩ = some (.int .i64 0) := by rw [heap_cell h3.1]; rfl
          refine bodyPost_ret (v := .agg #[.slice co0 O.length cco, .int .i64 f, .int .i64 0]) ?_ rfl ⟨_, oO, by rw [← HR2.out], by rw [← HR2.out]; exact h3.2.1.fr0 (Fr.drew _ _), h3.2.2.trans (Fr.drew _ _) (fun _ _ h => h)⟩
          simp [results, Tryz.results7, go_sem, e0, e1, e2, Result.andThen]
      · obtain rfl : l.length = m := by omega
        go_wp2
        go_region
        all_goals
          go_wp2
          have h3 := rput3 f 0 RBR.out HLO.out FT.out
          generalize (((wr.setCell ⟨w.heap.size, 0, none⟩ (.slice co0 O.length cco)).setCell ⟨w.heap.size, 1, none⟩ (.int .i64 f)).setCell ⟨w.heap.size, 2, none⟩ (.int .i64 0)) = w9 at h3 ⊢
          have e0 : w9.cell? ⟨w.heap.size, 0, none⟩ = some (.slice co0 O.length cco) := by rw [heap_cell h3.1]; rfl
          have e1 : w9.cell? ⟨w.heap.size, 1, none⟩ = some (.int .i64 f) := by rw [heap_cell h3.1]; rfl
          have e2 : w9.cell? ⟨w.heap.size, 2, none⟩ = some (.int .i64 0) := by rw [heap_cell h3.1]; rfl
          refine bodyPost_ret (v := .agg #[.slice co0 O.length cco, .int .i64 f, .int .i64 0]) ?_ rfl ⟨_, oO, by rw [← HR2.out], by rw [← HR2.out]; exact h3.2.1.fr0 (Fr.drew _ _), h3.2.2.trans (Fr.drew _ _) (fun _ _ h => h)⟩
          simp [results, Tryz.results7, go_sem, e0, e1, e2, Result.andThen]
end Go.Proofs.YtpnbhoeghncnnaaGreatDoor
namespace Go.Proofs.YtpnbhoeghncnnaaGreatDoor
open Go.RowKit
set_option maxRecDepth 100000 in
set_option maxHeartbeats 8000000 in
theorem rmodel_8 (so : Option Addr) (c : Nat) (l : List ScrT) (w : World) (hn : (l.length : Int) ≤ 20) (hs : ScrAt w so l) (hg : l.any (badF (tabK 8)) = false) (hchk : ∀ w, ScrAt w so l → Calls Tryz.prog 18 #[.string ⟨#[83, 69, 84]⟩, .slice so l.length c] w fun e w' => e = .returned (.int .i64 0) ∧ Fr (fun _ => False) w w') :
    Calls Tryz.prog 7 #[.string ⟨#[83, 69, 84]⟩, .slice so l.length c] w fun e w' => ∃ v own, e = .returned (.agg #[v, .int .i64 (runF 8 l St0 []).2.1, .int .i64 (runF 8 l St0 []).2.2]) ∧ Lst w' v own (runF 8 l St0 []).1 ∧ Fr (fun _ => False) w w' := by
  have HCHK := Lib.hid hchk
  have HS := Lib.hid hs
  have HG := Lib.hid hg
  generalize hR : runF 8 l St0 [] = R
  have HR := Lib.hid hR
  clear hchk hs hg hR
  have F0 := Lib.hid (Fr.alloc (fun _ => False) w (.cells #[.slice none 0 0, .int .i64 0, .int .i64 0] 30))
  have RB0 := Lib.hid (heap_alloc_new w (.cells #[.slice none 0 0, .int .i64 0, .int .i64 0] 30))
  go_enter Tryz.func7, Tryz.ntmps7
  go_wp2_with (first
    | (go_at_call 18; refine (HCHK.out _ (HS.out.fr F0.out)).mono ?_; rintro e w1 ⟨rfl, hf⟩; have HF1 := Lib.hid (F0.out.trans hf (fun _ _ h => h)); have RB1 := Lib.hid (hf.heap RB0.out id); clear hf))
  have RN := Lib.hid (RS.new w1 (-1))
  have RBN := Lib.hid ((Fr.alloc (fun _ => False) w1 (.cells #[.slice none 0 0, .slice none 0 0, .int .i64 0, .int .i64 (-1), .slice none 0 0, .int .i64 0, .bool false] 57)).heap RB1.out id)
  have FN1 := Lib.hid (Fr.alloc (fun j => w1.heap.size ≤ j) w1 (.cells #[.slice none 0 0, .slice none 0 0, .int .i64 0, .int .i64 (-1), .slice none 0 0, .int .i64 0, .bool false] 57))
  have LT := Lib.hid (heap_lt RB1.out)
  go_loopw [7] (fun i wr => ∃ m : Nat, i = .int .i64 m ∧ m ≤ l.length ∧ Fr (fun j => w1.heap.size ≤ j) w1 wr ∧ (RRun 8 w1.heap.size w1.heap.size l R m wr ∨ RHalt w1.heap.size w1.heap.size R wr)) (fun i _ => l.length - (intOf i).toNat)
  case atStart => exact ⟨0, rfl, by omega, FN1.out, .inl ⟨St0, [], [], 0, (-1), [], ⟨rfl, List.nodup_nil⟩, RN.out, Nat.le_refl _, ⟨by simp [St0], (fun _ h => by cases h), by decide, by decide⟩, by simp [St0], by rw [List.drop_zero]; exact HR.out⟩⟩
  case round =>
    obtain ⟨m, rfl, hm, hfr, hst⟩ := hrel
    have HF := Lib.hid hfr
    have RBR := Lib.hid (hfr.heap RB1.out (by have := LT.out; omega))
    have cb0 : wr.cell? ⟨w.heap.size, 0, none⟩ = some (.slice none 0 0) := by rw [heap_cell RBR.out]; rfl
    have cb1 : wr.cell? ⟨w.heap.size, 1, none⟩ = some (.int .i64 0) := by rw [heap_cell RBR.out]; rfl
    have cb2 : wr.cell? ⟨w.heap.size, 2, none⟩ = some (.int .i64 0) := by rw [heap_cell RBR.out]; rfl
    have zb0 : wr.frozen? ⟨w.heap.size, 0, none⟩ = false := heap_frozen RBR.out 0
    have zb1 : wr.frozen? ⟨w.heap.size, 1, none⟩ = false := heap_frozen RBR.out 1
    have zb2 : wr.frozen? ⟨w.heap.size, 2, none⟩ = false := heap_frozen RBR.out 2
    have FT := Lib.hid (HF1.out.trans (Fr.shut HF.out) (fun _ _ h => h))
    clear hfr
    rcases hst with hrun | hhalt
    · obtain ⟨s, L, K, lo, hi, O, hrel, hrs, hO, hgood, hal, hrf⟩ := hrun
      obtain ⟨co0, cco, oO, c4, c5, c6, z3, c3, hblt, hlo⟩ := hrs.cells
      have HREL := Lib.hid hrel
      have HRS := Lib.hid hrs
      have HLO := Lib.hid hlo
      have HO := Lib.hid hO
      have HGD := Lib.hid hgood
      have HAL := Lib.hid hal
      have HRF := Lib.hid hrf
      clear hrel hrs hO hgood hal hrf hlo
      by_cases hlt : m < l.length
      · obtain ⟨⟨nm, va, vb⟩, hy⟩ : ∃ y, l[m]? = some y := ⟨_, List.getElem?_eq_getElem hlt⟩
        obtain ⟨gg, oof, rfl, y0, y1, y2⟩ := HS.out.fr FT.out m _ hy
        obtain ⟨i, ⟨tn, na, tr⟩, hfi, hti, hnm, htix, hva, hvb, ha1, ha2⟩ := good_call HG.out hy
        dsimp only at y0 y1 y2 hfi hnm htix hva hvb ha2
        have HST := Lib.hid (runF_step hy hfi hti s O)
        subst hnm
        have HSTEP := Lib.hid (rstepAll_8 HRS.out (by have := HO.out; omega) HREL.out ⟨by have h1 := HGD.out.len; omega, HGD.out.all, HGD.out.lo, HGD.out.hi⟩ (by have := HAL.out; omega) hva hvb hti ha2)
        have HVA := Lib.hid hva
        have HVB := Lib.hid hvb
        clear hy hfi hti htix hva hvb ha1 ha2
        cases hstep : stepF 8 i va vb s with
        | go n s' =>
          have HH := HSTEP.out
          dsimp only at HH
          rw [hstep] at HH
          have HSTEP2 := Lib.hid HH
          have HR2 := Lib.hid (show runF 8 (l.drop (m + 1)) s' (if tr then O ++ [n] else O) = R by rw [← HRF.out, HST.out]; dsimp only; rw [hstep])
          have HG2 := Lib.hid (good_step (n := m) HVA.out HVB.out HGD.out hstep)
          have HA2 := Lib.hid (al_step hstep)
          clear hstep HH HSTEP
          go_wp2_with (first
            | (go_at_call 23
               refine HSTEP2.out.mono ?_
               rintro e w2 ⟨rfl, L2, K2, lo2, hi2, hrel2, hrs2, hfr2⟩
               obtain ⟨so2, co2, oO2, d4, d5, d6, _, _, _, _⟩ := hrs2.cells
               have HREL2 := Lib.hid hrel2
               have HRS2 := Lib.hid hrs2
               have HFR2 := Lib.hid hfr2
               clear hrel2 hrs2 hfr2 d4))
          go_roundw
          case rel => exact ⟨m + 1, by go_num, by omega, HF.out.trans HFR2.out (fun _ _ h => h), .inl ⟨s', L2, K2, lo2, hi2, _, HREL2.out, HRS2.out, by have := HO.out; split <;> simp <;> omega, HG2.out, by have h1 := HAL.out; have h2 := HA2.out; omega, HR2.out⟩⟩
          case measure => simp [intOf]; omega
        | halt f er =>
          have HH := HSTEP.out
          dsimp only at HH
          rw [hstep] at HH
          have HFAIR := Lib.hid (halt_fair hstep)
          have HERR := Lib.hid (halt_err hstep)
          by_cases he : er = 0
          · subst he
            have HSTEP2 := Lib.hid HH
            have HF0 := Lib.hid (HFAIR.out rfl)
            have HR2 := Lib.hid (show (O, f, (0 : Int)) = R by rw [← HRF.out, HST.out]; dsimp only; rw [hstep]; rfl)
            clear hstep HH HSTEP
            go_wp2_with (first
              | (go_at_call 23
                 refine HSTEP2.out.mono ?_
                 rintro e w2 ⟨rfl, L2, K2, lo2, hi2, hrs2, hfr2⟩
                 obtain ⟨so2, co2, oO2, d4, d5, d6, _, _, _, _⟩ := hrs2.cells
                 have HRS2 := Lib.hid hrs2
                 have HFR2 := Lib.hid hfr2
                 have d6' : w2.cell? ⟨w1.heap.size, 6, none⟩ = some (.bool false) := d6
                 clear hrs2 hfr2 d4 d6))
            go_roundw
            case rel => exact ⟨m + 1, by go_num, by omega, HF.out.trans HFR2.out (fun _ _ h => h), (.inr ⟨L2, K2, lo2, hi2, O, f, HF0.out, HRS2.out, HR2.out.symm⟩)⟩
            case measure => simp [intOf]; omega
          · obtain rfl : er = 3 := by rcases HERR.out with h | h; exact absurd h he; exact h
            have HSTEP2 := Lib.hid HH
            have HR2 := Lib.hid (show (([] : List Int), (0 : Int), (3 : Int)) = R by rw [← HRF.out, HST.out]; dsimp only; rw [hstep]; rfl)
            clear hstep HH HSTEP
            go_wp2_with (first
              | (go_at_call 23
                 refine HSTEP2.out.mono ?_
                 rintro e w2 ⟨rfl, L2, K2, lo2, hi2, hrs2, hfr2⟩
                 obtain ⟨so2, co2, oO2, d4, d5, d6, _, _, _, _⟩ := hrs2.cells
                 have HFR2 := Lib.hid hfr2
                 have RB2 := Lib.hid (hfr2.heap RBR.out (by have := LT.out; omega))
                 have d6' : w2.cell? ⟨w1.heap.size, 6, none⟩ = some (.bool true) := d6
                 have cb0' : w2.cell? ⟨w.heap.size, 0, none⟩ = some (.slice none 0 0) := by rw [heap_cell RB2.out]; rfl
                 have cb1' : w2.cell? ⟨w.heap.size, 1, none⟩ = some (.int .i64 0) := by rw [heap_cell RB2.out]; rfl
                 have cb2' : w2.cell? ⟨w.heap.size, 2, none⟩ = some (.int .i64 0) := by rw [heap_cell RB2.out]; rfl
                 have zb0' : w2.frozen? ⟨w.heap.size, 0, none⟩ = false := heap_frozen RB2.out 0
                 have zb1' : w2.frozen? ⟨w.heap.size, 1, none⟩ = false := heap_frozen RB2.out 1
                 have zb2' : w2.frozen? ⟨w.heap.size, 2, none⟩ = false := heap_frozen RB2.out 2
                 clear hrs2 hfr2 d4 d6 d5))
            have h3 := rput3 0 3 RB2.out (Lst.nil w2) (FT.out.trans HFR2.out (fun i hi h => by have := HF1.out.size; omega))
            generalize (((w2.setCell ⟨w.heap.size, 0, none⟩ (.slice none 0 0)).setCell ⟨w.heap.size, 1, none⟩ (.int .i64 0)).setCell ⟨w.heap.size, 2, none⟩ (.int .i64 3)) = w9 at h3 ⊢
            have e0 : w9.cell? ⟨w.heap.size, 0, none⟩ = some (.slice none 0 0) := by rw [heap_cell h3.1]; rfl
            have e1 : w9.cell? ⟨w.heap.size, 1, none⟩ = some (.int .i64 0) := by rw [heap_cell h3.1]; rfl
            have e2 : w9.cell? ⟨w.heap.size, 2, none⟩ = some (.int .i64 3) := by rw [heap_cell h3.1]; rfl
            refine bodyPost_ret (v := .agg #[.slice none 0 0, .int .i64 0, .int .i64 3]) ?_ rfl ⟨_, none, by rw [← HR2.out], by rw [← HR2.out]; exact h3.2.1, h3.2.2⟩
            simp [results, Tryz.results7, go_sem, e0, e1, e2, Result.andThen]
      · obtain rfl : l.length = m := by omega
        have HR2 := Lib.hid (show (O, (0 : Int), (0 : Int)) = R by rw [← HRF.out, List.drop_length]; rfl)
        go_wp2
        go_region
        all_goals
          go_wp2
          have h3 := rput3 0 0 RBR.out HLO.out FT.out
          generalize (((wr.setCell ⟨w.heap.size, 0, none⟩ (.slice co0 O.length cco)).setCell ⟨w.heap.size, 1, none⟩ (.int .i64 0)).setCell ⟨w.heap.size, 2, none⟩ (.int .i64 0)) = w9 at h3 ⊢
          have e0 : w9.cell? ⟨w.heap.size, 0, none⟩ = some (.slice co0 O.length cco) := by rw [heap_cell h3.1]; rfl
          have e1 : w9.cell? ⟨w.heap.size, 1, none⟩ = some (.int .i64 0) := by rw [heap_cell h3.1]; rfl
          have e2 : w9.cell? ⟨w.heap.size, 2, none⟩ = some (.int .i64 0) := by rw [heap_cell h3.1]; rfl
          refine bodyPost_ret (v := .agg #[.slice co0 O.length cco, .int .i64 0, .int .i64 0]) ?_ rfl ⟨_, oO, by rw [← HR2.out], by rw [← HR2.out]; exact h3.2.1.fr0 (Fr.drew _ _), h3.2.2.trans (Fr.drew _ _) (fun _ _ h => h)⟩
          simp [results, Tryz.results7, go_sem, e0, e1, e2, Result.andThen]
    · obtain ⟨L, K, lo, hi, O, f, hf0, hrs, hRR⟩ := hhalt
      obtain ⟨co0, cco, oO, c4, c5, c6, z3, c3, hblt, hlo⟩ := hrs.cells
      have hfb : (f == 0) = false := by simpa using hf0
      have HLO := Lib.hid hlo
      have HR2 := Lib.hid hRR.symm
      clear hrs hRR hlo hf0
      by_cases hlt : m < l.length
      · go_wp2
        go_region
        all_goals
          go_wp2
          have h3 := rput3 f 0 RBR.out HLO.out FT.out
          generalize (((wr.setCell ⟨w.heap.size, 0, none⟩ (.slice co0 O.length cco)).setCell ⟨w.heap.size, 1, none⟩ (.int .i64 f)).setCell ⟨w.heap.size, 2, none⟩ (.int .i64 0)) = w9 at h3 ⊢
          have e0 : w9.cell? ⟨w.heap.size, 0, none⟩ = some (.slice co0 O.length cco) := by rw [heap_cell h3.1]; rfl
          have e1 : w9.cell? ⟨w.heap.size, 1, none⟩ = some (.int .i64 f) := by rw [heap_cell h3.1]; rfl
          have e2 : w9.cell? ⟨w.heap.size, 2, none⟩ = some (.int .i64 0) := by rw [heap_cell h3.1]; rfl
          refine bodyPost_ret (v := .agg #[.slice co0 O.length cco, .int .i64 f, .int .i64 0]) ?_ rfl ⟨_, oO, by rw [← HR2.out], by rw [← HR2.out]; exact h3.2.1.fr0 (Fr.drew _ _), h3.2.2.trans (Fr.drew _ _) (fun _ _ h => h)⟩
          simp [results, Tryz.results7, go_sem, e0, e1, e2, Result.andThen]
      · obtain rfl : l.length = m := by omega
        go_wp2
        go_region
        all_goals
          go_wp2
          have h3 := rput3 f 0 RBR.out HLO.out FT.out
          generalize (((wr.setCell ⟨w.heap.size, 0, none⟩ (.slice co0 O.length cco)).setCell ⟨w.heap.size, 1, none⟩ (.int .i64 f)).setCell ⟨w.heap.size, 2, none⟩ (.int .i64 0)) = w9 at h3 ⊢
          have e0 : w9.cell? ⟨w.heap.size, 0, none⟩ = some (.slice co0 O.length cco) := by rw [heap_cell h3.1]; rfl
          have e1 : w9.cell? ⟨w.heap.size, 1, none⟩ = some (.int .i64 f) := by rw [heap_cell h3.1]; rfl
          have e2 : w9.cell? ⟨w.heap.size, 2, none⟩ = some (.int .i64 0) := by rw [heap_cell h3.1]; rfl
          refine bodyPost_ret (v := .agg #[.slice co0 O.length cco, .int .i64 f, .int .i64 0]) ?_ rfl ⟨_, oO, by rw [← HR2.out], by rw [← HR2.out]; exact h3.2.1.fr0 (Fr.drew _ _), h3.2.2.trans (Fr.drew _ _) (fun _ _ h => h)⟩
          simp [results, Tryz.results7, go_sem, e0, e1, e2, Result.andThen]
end Go.Proofs.YtpnbhoeghncnnaaGreatDoor
namespace Go.Proofs.YtpnbhoeghncnnaaGreatDoor
open Go.RowKit
set_option maxRecDepth 100000 in
set_option maxHeartbeats 8000000 in
theorem rmodel_9 (so : Option Addr) (c : Nat) (l : List ScrT) (w : World) (hn : (l.length : Int) ≤ 20) (hs : ScrAt w so l) (hg : l.any (badF (tabK 9)) = false) (hchk : ∀ w, ScrAt w so l → Calls Tryz.prog 18 #[.string ⟨#[67, 79, 85, 78, 84, 69, 82]⟩, .slice so l.length c] w fun e w' => e = .returned (.int .i64 0) ∧ Fr (fun _ => False) w w') :
    Calls Tryz.prog 7 #[.string ⟨#[67, 79, 85, 78, 84, 69, 82]⟩, .slice so l.length c] w fun e w' => ∃ v own, e = .returned (.agg #[v, .int .i64 (runF 9 l St0 []).2.1, .int .i64 (runF 9 l St0 []).2.2]) ∧ Lst w' v own (runF 9 l St0 []).1 ∧ Fr (fun _ => False) w w' := by
  have HCHK := Lib.hid hchk
  have HS := Lib.hid hs
  have HG := Lib.hid hg
  generalize hR : runF 9 l St0 [] = R
  have HR := Lib.hid hR
  clear hchk hs hg hR
  have F0 := Lib.hid (Fr.alloc (fun _ => False) w (.cells #[.slice none 0 0, .int .i64 0, .int .i64 0] 30))
  have RB0 := Lib.hid (heap_alloc_new w (.cells #[.slice none 0 0, .int .i64 0, .int .i64 0] 30))
  go_enter Tryz.func7, Tryz.ntmps7
  go_wp2_with (first
    | (go_at_call 18; refine (HCHK.out _ (HS.out.fr F0.out)).mono ?_; rintro e w1 ⟨rfl, hf⟩; have HF1 := Lib.hid (F0.out.trans hf (fun _ _ h => h)); have RB1 := Lib.hid (hf.heap RB0.out id); clear hf))
  have RN := Lib.hid (RS.new w1 0)
  have RBN := Lib.hid ((Fr.alloc (fun _ => False) w1 (.cells #[.slice none 0 0, .slice none 0 0, .int .i64 0, .int .i64 0, .slice none 0 0, .int .i64 0, .bool false] 57)).heap RB1.out id)
  have FN1 := Lib.hid (Fr.alloc (fun j => w1.heap.size ≤ j) w1 (.cells #[.slice none 0 0, .slice none 0 0, .int .i64 0, .int .i64 0, .slice none 0 0, .int .i64 0, .bool false] 57))
  have LT := Lib.hid (heap_lt RB1.out)
  go_loopw [7] (fun i wr => ∃ m : Nat, i = .int .i64 m ∧ m ≤ l.length ∧ Fr (fun j => w1.heap.size ≤ j) w1 wr ∧ (RRun 9 w1.heap.size w1.heap.size l R m wr ∨ RHalt w1.heap.size w1.heap.size R wr)) (fun i _ => l.length - (intOf i).toNat)
  case atStart => exact ⟨0, rfl, by omega, FN1.out, .inl ⟨St0, [], [], 0, 0, [], rfl, RN.out, Nat.le_refl _, ⟨by simp [St0], (fun _ h => by cases h), by decide, by decide⟩, by simp [St0], by rw [List.drop_zero]; exact HR.out⟩⟩
  case round =>
    obtain ⟨m, rfl, hm, hfr, hst⟩ := hrel
    have HF := Lib.hid hfr
    have RBR := Lib.hid (hfr.heap RB1.out (by have := LT.out; omega))
    have cb0 : wr.cell? ⟨w.heap.size, 0, none⟩ = some (.slice none 0 0) := by rw [heap_cell RBR.out]; rfl
    have cb1 : wr.cell? ⟨w.heap.size, 1, none⟩ = some (.int .i64 0) := by rw [heap_cell RBR.out]; rfl
    have cb2 : wr.cell? ⟨w.heap.size, 2, none⟩ = some (.int .i64 0) := by rw [heap_cell RBR.out]; rfl
    have zb0 : wr.frozen? ⟨w.heap.size, 0, none⟩ = false := heap_frozen RBR.out 0
    have zb1 : wr.frozen? ⟨w.heap.size, 1, none⟩ = false := heap_frozen RBR.out 1
    have zb2 : wr.frozen? ⟨w.heap.size, 2, none⟩ = false := heap_frozen RBR.out 2
    have FT := Lib.hid (HF1.out.trans (Fr.shut HF.out) (fun _ _ h => h))
    clear hfr
    rcases hst with hrun | hhalt
    · obtain ⟨s, L, K, lo, hi, O, hrel, hrs, hO, hgood, hal, hrf⟩ := hrun
      obtain ⟨co0, cco, oO, c4, c5, c6, z3, c3, hblt, hlo⟩ := hrs.cells
      have HREL := Lib.hid hrel
      have HRS := Lib.hid hrs
      have HLO := Lib.hid hlo
      have HO := Lib.hid hO
      have HGD := Lib.hid hgood
      have HAL := Lib.hid hal
      have HRF := Lib.hid hrf
      clear hrel hrs hO hgood hal hrf hlo
      by_cases hlt : m < l.length
      · obtain ⟨⟨nm, va, vb⟩, hy⟩ : ∃ y, l[m]? = some y := ⟨_, List.getElem?_eq_getElem hlt⟩
        obtain ⟨gg, oof, rfl, y0, y1, y2⟩ := HS.out.fr FT.out m _ hy
        obtain ⟨i, ⟨tn, na, tr⟩, hfi, hti, hnm, htix, hva, hvb, ha1, ha2⟩ := good_call HG.out hy
        dsimp only at y0 y1 y2 hfi hnm htix hva hvb ha2
        have HST := Lib.hid (runF_step hy hfi hti s O)
        subst hnm
        have HSTEP := Lib.hid (rstepAll_9 HRS.out (by have := HO.out; omega) HREL.out ⟨by have h1 := HGD.out.len; omega, HGD.out.all, HGD.out.lo, HGD.out.hi⟩ (by have := HAL.out; omega) hva hvb hti ha2)
        have HVA := Lib.hid hva
        have HVB := Lib.hid hvb
        clear hy hfi hti htix hva hvb ha1 ha2
        cases hstep : stepF 9 i va vb s with
        | go n s' =>
          have HH := HSTEP.out
          dsimp only at HH
          rw [hstep] at HH
          have HSTEP2 := Lib.hid HH
          have HR2 := Lib.hid (show runF 9 (l.drop (m + 1)) s' (if tr then O ++ [n] else O) = R by rw [← HRF.out, HST.out]; dsimp only; rw [hstep])
          have HG2 := Lib.hid (good_step (n := m) HVA.out HVB.out HGD.out hstep)
          have HA2 := Lib.hid (al_step hstep)
          clear hstep HH HSTEP
          go_wp2_with (first
            | (go_at_call 24
               refine HSTEP2.out.mono ?_
               rintro e w2 ⟨rfl, L2, K2, lo2, hi2, hrel2, hrs2, hfr2⟩
               obtain ⟨so2, co2, oO2, d4, d5, d6, _, _, _, _⟩ := hrs2.cells
               have HREL2 := Lib.hid hrel2
               have HRS2 := Lib.hid hrs2
               have HFR2 := Lib.hid hfr2
               clear hrel2 hrs2 hfr2 d4))
          go_roundw
          case rel => exact ⟨m + 1, by go_num, by omega, HF.out.trans HFR2.out (fun _ _ h => h), .inl ⟨s', L2, K2, lo2, hi2, _, HREL2.out, HRS2.out, by have := HO.out; split <;> simp <;> omega, HG2.out, by have h1 := HAL.out; have h2 := HA2.out; omega, HR2.out⟩⟩
          case measure => simp [intOf]; omega
        | halt f er =>
          have HH := HSTEP.out
          dsimp only at HH
          rw [hstep] at HH
          have HFAIR := Lib.hid (halt_fair hstep)
          have HERR := Lib.hid (halt_err hstep)
          by_cases he : er = 0
          · subst he
            have HSTEP2 := Lib.hid HH
            have HF0 := Lib.hid (HFAIR.out rfl)
            have HR2 := Lib.hid (show (O, f, (0 : Int)) = R by rw [← HRF.out, HST.out]; dsimp only; rw [hstep]; rfl)
            clear hstep HH HSTEP
            go_wp2_with (first
              | (go_at_call 24
                 refine HSTEP2.out.mono ?_
                 rintro e w2 ⟨rfl, L2, K2, lo2, hi2, hrs2, hfr2⟩
                 obtain ⟨so2, co2, oO2, d4, d5, d6, _, _, _, _⟩ := hrs2.cells
                 have HRS2 := Lib.hid hrs2
                 have HFR2 := Lib.hid hfr2
                 have d6' : w2.cell? ⟨w1.heap.size, 6, none⟩ = some (.bool false) := d6
                 clear hrs2 hfr2 d4 d6))
            go_roundw
            case rel => exact ⟨m + 1, by go_num, by omega, HF.out.trans HFR2.out (fun _ _ h => h), (.inr ⟨L2, K2, lo2, hi2, O, f, HF0.out, HRS2.out, HR2.out.symm⟩)⟩
            case measure => simp [intOf]; omega
          · obtain rfl : er = 3 := by rcases HERR.out with h | h; exact absurd h he; exact h
            have HSTEP2 := Lib.hid HH
            have HR2 := Lib.hid (show (([] : List Int), (0 : Int), (3 : Int)) = R by rw [← HRF.out, HST.out]; dsimp only; rw [hstep]; rfl)
            clear hstep HH HSTEP
            go_wp2_with (first
              | (go_at_call 24
                 refine HSTEP2.out.mono ?_
                 rintro e w2 ⟨rfl, L2, K2, lo2, hi2, hrs2, hfr2⟩
                 obtain ⟨so2, co2, oO2, d4, d5, d6, _, _, _, _⟩ := hrs2.cells
                 have HFR2 := Lib.hid hfr2
                 have RB2 := Lib.hid (hfr2.heap RBR.out (by have := LT.out; omega))
                 have d6' : w2.cell? ⟨w1.heap.size, 6, none⟩ = some (.bool true) := d6
                 have cb0' : w2.cell? ⟨w.heap.size, 0, none⟩ = some (.slice none 0 0) := by rw [heap_cell RB2.out]; rfl
                 have cb1' : w2.cell? ⟨w.heap.size, 1, none⟩ = some (.int .i64 0) := by rw [heap_cell RB2.out]; rfl
                 have cb2' : w2.cell? ⟨w.heap.size, 2, none⟩ = some (.int .i64 0) := by rw [heap_cell RB2.out]; rfl
                 have zb0' : w2.frozen? ⟨w.heap.size, 0, none⟩ = false := heap_frozen RB2.out 0
                 have zb1' : w2.frozen? ⟨w.heap.size, 1, none⟩ = false := heap_frozen RB2.out 1
                 have zb2' : w2.frozen? ⟨w.heap.size, 2, none⟩ = false := heap_frozen RB2.out 2
                 clear hrs2 hfr2 d4 d6 d5))
            have h3 := rput3 0 3 RB2.out (Lst.nil w2) (FT.out.trans HFR2.out (fun i hi h => by have := HF1.out.size; omega))
            generalize (((w2.setCell ⟨w.heap.size, 0, none⟩ (.slice none 0 0)).setCell ⟨w.heap.size, 1, none⟩ (.int .i64 0)).setCell ⟨w.heap.size, 2, none⟩ (.int .i64 3)) = w9 at h3 ⊢
            have e0 : w9.cell? ⟨w.heap.size, 0, none⟩ = some (.slice none 0 0) := by rw [heap_cell h3.1]; rfl
            have e1 : w9.cell? ⟨w.heap.size, 1, none⟩ = some (.int .i64 0) := by rw [heap_cell h3.1]; rfl
            have e2 : w9.cell? ⟨w.heap.size, 2, none⟩ = some (.int .i64 3) := by rw [heap_cell h3.1]; rfl
            refine bodyPost_ret (v := .agg #[.slice none 0 0, .int .i64 0, .int .i64 3]) ?_ rfl ⟨_, none, by rw [← HR2.out], by rw [← HR2.out]; exact h3.2.1, h3.2.2⟩
            simp [results, Tryz.results7, go_sem, e0, e1, e2, Result.andThen]
      · obtain rfl : l.length = m := by omega
        have HR2 := Lib.hid (show (O, (0 : Int), (0 : Int)) = R by rw [← HRF.out, List.drop_length]; rfl)
        go_wp2
        go_region
        all_goals
          go_wp2
          have h3 := rput3 0 0 RBR.out HLO.out FT.out
          generalize (((wr.setCell ⟨w.heap.size, 0, none⟩ (.slice co0 O.length cco)).setCell ⟨w.heap.size, 1, none⟩ (.int .i64 0)).setCell ⟨w.heap.size, 2, none⟩ (.int .i64 0)) = w9 at h3 ⊢
          have e0 : w9.cell? ⟨w.heap.size, 0, none⟩ = some (.slice co0 O.length cco) := by rw [heap_cell h3.1]; rfl
          have e1 : w9.cell? ⟨w.heap.size, 1, none⟩ = some (.int .i64 0) := by rw [heap_cell h3.1]; rfl
          have e2 : w9.cell? ⟨w.heap.size, 2, none⟩ = some (.int .i64 0) := by rw [heap_cell h3.1]; rfl
          refine bodyPost_ret (v := .agg #[.slice co0 O.length cco, .int .i64 0, .int .i64 0]) ?_ rfl ⟨_, oO, by rw [← HR2.out], by rw [← HR2.out]; exact h3.2.1.fr0 (Fr.drew _ _), h3.2.2.trans (Fr.drew _ _) (fun _ _ h => h)⟩
          simp [results, Tryz.results7, go_sem, e0, e1, e2, Result.andThen]
    · obtain ⟨L, K, lo, hi, O, f, hf0, hrs, hRR⟩ := hhalt
      obtain ⟨co0, cco, oO, c4, c5, c6, z3, c3, hblt, hlo⟩ := hrs.cells
      have hfb : (f == 0) = false := by simpa using hf0
      have HLO := Lib.hid hlo
      have HR2 := Lib.hid hRR.symm
      clear hrs hRR hlo hf0
      by_cases hlt : m < l.length
      · go_wp2
        go_region
        all_goals
          go_wp2
          have h3 := rput3 f 0 RBR.out HLO.out FT.out
          generalize (((wr.setCell ⟨w.heap.size, 0, none⟩ (.slice co0 O.length cco)).setCell ⟨w.heap.size, 1, none⟩ (.int .i64 f)).setCell ⟨w.heap.size, 2, none⟩ (.int .i64 0)) = w9 at h3 ⊢
          have e0 : w9.cell? ⟨w.heap.size, 0, none⟩ = some (.slice co0 O.length cco) := by rw [heap_cell h3.1]; rfl
          have e1 : w9.cell? ⟨w.heap.size, 1, none⟩ = some (.int .i64 f) := by rw [heap_cell h3.1]; rfl
          have e2 : w9.cell? ⟨w.heap.size, 2, none⟩ = some (.int .i64 0) := by rw [heap_cell h3.1]; rfl
          refine bodyPost_ret (v := .agg #[.slice co0 O.length cco, .int .i64 f, .int .i64 0]) ?_ rfl ⟨_, oO, by rw [← HR2.out], by rw [← HR2.out]; exact h3.2.1.fr0 (Fr.drew _ _), h3.2.2.trans (Fr.drew _ _) (fun _ _ h => h)⟩
          simp [results, Tryz.results7, go_sem, e0, e1, e2, Result.andThen]
      · obtain rfl : l.length = m := by omega
        go_wp2
        go_region
        all_goals
          go_wp2
          have h3 := rput3 f 0 RBR.out HLO.out FT.out
          generalize (((wr.setCell ⟨w.heap.size, 0, none⟩ (.slice co0 O.length cco)).setCell ⟨w.heap.size, 1, none⟩ (.int .i64 f)).setCell ⟨w.heap.size, 2, none⟩ (.int .i64 0)) = w9 at h3 ⊢
          have e0 : w9.cell? ⟨w.heap.size, 0, none⟩ = some (.slice co0 O.length cco) := by rw [heap_cell h3.1]; rfl
          have e1 : w9.cell? ⟨w.heap.size, 1, none⟩ = some (.int .i64 f) := by rw [heap_cell h3.1]; rfl
          have e2 : w9.cell? ⟨w.heap.size, 2, none⟩ = some (.int .i64 0) := by rw [heap_cell h3.1]; rfl
          refine bodyPost_ret (v := .agg #[.slice co0 O.length cco, .int .i64 f, .int .i64 0]) ?_ rfl ⟨_, oO, by rw [← HR2.out], by rw [← HR2.out]; exact h3.2.1.fr0 (Fr.drew _ _), h3.2.2.trans (Fr.drew _ _) (fun _ _ h => h)⟩
          simp [results, Tryz.results7, go_sem, e0, e1, e2, Result.andThen]
end Go.Proofs.YtpnbhoeghncnnaaGreatDoor

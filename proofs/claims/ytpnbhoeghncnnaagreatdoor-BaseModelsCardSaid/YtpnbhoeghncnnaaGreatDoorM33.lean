/-
  A part of the proof of Rows.BaseModelsCardSaid (for every class and script BaseModels answers true, and its arguments read as they did; the listed library variables as the program text lays them): texts UK. By an AI agent.
-/
import Derived.Test.YtpnbhoeghncnnaaGreatDoorM32
import Derived.Test.YtpnbhoeghncnnaaGreatDoorTie
import Derived.Test.YtpnbhoeghncnnaaGreatDoorCards
import Derived.WalkKit
import Derived.ProofKit
import Derived.Lay
import Derived.Deep.Slices
import Derived.SevenTiedAt
set_option linter.all false
set_option linter.unusedVariables false
set_option linter.unusedSimpArgs false
namespace Go.Proofs.YtpnbhoeghncnnaaGreatDoor
open Go.ChangeShapes Go.WideShapes Go.ChangeAt Go.RowKit
open Go.ChangeMaps (open_string shut_string)
theorem own_knob : ownKnob Tryz.prog.godebug = none := by kernel_rfl
theorem laid_out : laidOutB Tryz.prog = true := by kernel_rfl
theorem cells40 : Tryz.prog.cellsOf 40 = 3 := by kernel_rfl
theorem cells9 : Tryz.prog.cellsOf 9 = 1 := by kernel_rfl
theorem cells3 : Tryz.prog.cellsOf 3 = 1 := by kernel_rfl
theorem addr_cell {W : World} {a : Addr} {i : Nat} {v : Value} (h : W.cell? (a.add i) = some v) : W.cell? ⟨a.block, a.off + i, none⟩ = some v ∧ (i = 0 → a.spot = none) := by
  by_cases h0 : i = 0
  · subst h0
    obtain ⟨b, o, sp⟩ := a
    cases sp with
    | none => exact ⟨by simpa [Addr.add] using h, fun _ => rfl⟩
    | some s =>
      exfalso
      simp only [Addr.add, if_pos, World.cell?] at h
      split at h <;> simp at h
  · refine ⟨?_, fun e => absurd e h0⟩
    simpa [Addr.add, h0] using h
set_option maxRecDepth 100000 in
theorem open_scr {H : Type} {enc : TypeId × Value → H} {W : World} {b0 : Nat} {v : Value} {d : DataW H} {ps : List MemPlace} (hval : Value.okWide Tryz.prog W .any b0 22 v)
    (h : DataW.Trod enc Tryz.prog W 0 (fun _ => true) true 22 v d ps) : ∃ (so : Option Addr) (c : Nat) (l : List ScrT), v = .slice so l.length c ∧ ScrAt W so l := by
  obtain ⟨a, len, cap, rfl⟩ := okWide_slice Tryz.underlying22 hval
  obtain ⟨fuel, hf⟩ := h
  rcases Go.Deep.open_slice (cs := [.slice a len cap]) Tryz.underlying22 hf with ⟨hc, _⟩ | ⟨a', len', cap', m, n, D, Pl, hc, _, hl, hm, hmm, hx, hi⟩
  · cases hc; exact ⟨none, 0, [], rfl, fun j x hj => by simp at hj⟩
  · cases hc
    have key : ∀ i : Nat, ∃ x : ScrT, i < len → a'.spot = none ∧ W.cell? ⟨a'.block, a'.off + i * 3, none⟩ = some (.string x.1) ∧ W.cell? ⟨a'.block, a'.off + i * 3 + 1, none⟩ = some (.int .i64 x.2.1) ∧ W.cell? ⟨a'.block, a'.off + i * 3 + 2, none⟩ = some (.int .i64 x.2.2) := by
      intro i
      by_cases hil : i < len
      · obtain ⟨cs', hcs, ht⟩ := hi i (by rw [hmm]; simp only [if_true]; omega)
        obtain ⟨cs0, hcs0, _⟩ := hi 0 (by rw [hmm]; simp only [if_true]; omega)
        rw [cells40] at hcs hcs0
        obtain ⟨_, hcl, hat⟩ := World.cells?_some hcs
        obtain ⟨_, hcl0, hat0⟩ := World.cells?_some hcs0
        obtain ⟨ys, n', _, _, _, hyl, hfd⟩ := DataW.trod_struct Tryz.underlying40 ht
        match cs', hcl, ys, hyl with
        | [c0, c1, c2], _, [y0, y1, y2], _ =>
          have f0 : DataW.trod enc Tryz.prog W 0 (fun _ => true) true n' 9 (([c0, c1, c2].drop 0).take (Tryz.prog.cellsOf 9)) = some y0 := hfd 0 _ rfl
          have f1 : DataW.trod enc Tryz.prog W 0 (fun _ => true) true n' 3 (([c0, c1, c2].drop 1).take (Tryz.prog.cellsOf 3)) = some y1 := hfd 1 _ rfl
          have f2 : DataW.trod enc Tryz.prog W 0 (fun _ => true) true n' 3 (([c0, c1, c2].drop 2).take (Tryz.prog.cellsOf 3)) = some y2 := hfd 2 _ rfl
          rw [cells9] at f0
          rw [cells3] at f1 f2
          obtain ⟨s, e0, _, _⟩ := DataW.trod_string Tryz.underlying9 (show DataW.trod enc Tryz.prog W 0 _ true n' 9 [c0] = some y0 from f0)
          obtain ⟨p, e1, _, _⟩ := DataW.trod_int Tryz.underlying3 (show DataW.trod enc Tryz.prog W 0 _ true n' 3 [c1] = some y1 from f1)
          obtain ⟨q, e2, _, _⟩ := DataW.trod_int Tryz.underlying3 (show DataW.trod enc Tryz.prog W 0 _ true n' 3 [c2] = some y2 from f2)
          cases e0; cases e1; cases e2
          have g0 := hat 0 (by omega)
          have g1 := hat 1 (by omega)
          have g2 := hat 2 (by omega)
          have z0 := hat0 0 (by omega)
          rw [Go.Deep.add_add] at g0 g1 g2 z0
          refine ⟨(s, p, q), fun _ => ⟨?_, ?_, ?_, ?_⟩⟩
          · match cs0, hcl0 with
            | [b0, b1, b2], _ => exact (addr_cell (i := 0) (v := b0) (by simpa using z0)).2 rfl
          · simpa using (addr_cell g0).1
          · simpa [Nat.add_assoc] using (addr_cell g1).1
          · simpa [Nat.add_assoc] using (addr_cell g2).1
      · exact ⟨(⟨#[]⟩, 0, 0), fun h => absurd h hil⟩
    obtain ⟨f, hfn⟩ := Classical.axiomOfChoice key
    refine ⟨some a', cap, (List.range len).map f, by simp, fun j x hj => ?_⟩
    rw [List.getElem?_map] at hj
    have hjl : j < len := by
      rcases Nat.lt_or_ge j len with h | h
      · exact h
      · rw [List.getElem?_eq_none (by simpa using h)] at hj; cases hj
    rw [List.getElem?_range hjl] at hj
    cases hj
    obtain ⟨h0, h1, h2, h3⟩ := hfn j hjl
    obtain ⟨b, o, sp⟩ := a'
    cases h0
    exact ⟨b, o, rfl, h1, h2, h3⟩
abbrev laidL := Rows.baseModelsRow.laid
theorem law_lifted (s : ByteArray) (so : Option Addr) (c : Nat) (l : List ScrT) (w : World) (hs : ScrAt w so l) :
    Calls Tryz.prog 3 #[.string s, .slice so l.length c] w fun e w' => e = .returned (.bool true) ∧ Below w.heap.size w w' :=
  (law_true s so c l w hs).mono fun _ _ ⟨he, hf⟩ => ⟨he, hf.os, hf.tape, hf.output, hf.size, fun k hk => hf.block k hk id⟩
set_option maxRecDepth 100000 in
theorem lifted (os : Os) (started : os.Started) (H : Type) (enc : TypeId × Value → H) :
    ReturnsInHanded {} Tryz.checked os 3 .any (fun w args => (Rows.baseModelsSpec.pre enc Tryz.prog Tryz.f3 [] false w args ∧ laidMetH Tryz.prog laidL w) ∧ sizedMet enc Tryz.prog Tryz.f3 (OpenSpec.ofChange Rows.baseModelsSpec) false w args)
      (Rows.baseModelsSpec.post enc Tryz.prog Tryz.f3 false true false false) := by
  refine returnsInHanded_of_change_and (C := Tryz.checked) (X := fun w _ => laidMetH Tryz.prog laidL w) (fun _ _ _ hh h => h.of_heap hh) own_knob started (by kernel_rfl) Tryz.func3
    (ChangeSpec.witness_shaped (enc := enc) (C := Tryz.checked) (os := os) (X := fun w _ => laidMetH Tryz.prog laidL w) false (World.laidAll Tryz.prog os laidL) #[.string ⟨#[]⟩, .slice none 0 0] 8 (World.laidAll_os _ _ _)
      (World.shaped_of_ZipB (by kernel_rfl) (by kernel_rfl)) (by kernel_rfl) (by kernel_rfl) (by kernel_rfl)
      (by rw [MakeChecks.laidMetH_plain _ _ _ (by kernel_rfl)]; exact laidMet_laidAll _ (by kernel_rfl) (by kernel_rfl))) ?_
  intro W base args ds gs before hval0 hW _ _ _ _
  have hval : ∀ (j : Nat) t v, Tryz.f3.params[j]? = some t → args[j]? = some v → Value.okWide Tryz.prog W .any base t v := hval0
  have hW' := hW
  obtain ⟨p, q, hA0, hV, rfl, _, _⟩ := hW
  have hA : DataW.TrodAll enc Tryz.prog W 0 (fun _ => true) true Tryz.f3.params.toList args.toList ds p := hA0
  rw [Tryz.params3] at hA hval
  obtain ⟨v0, v1, d0, d1, p0, p1, rfl, rfl, rfl, h0, h1⟩ := trodAll_two hA
  obtain ⟨rfl, rfl⟩ := trodVars_none hV
  obtain ⟨s, rfl, rfl, rfl, ws⟩ := open_string Tryz.underlying9 (hval 0 9 v0 rfl rfl) h0
  obtain ⟨so, c, l, rfl, hs⟩ := open_scr (hval 1 22 v1 rfl rfl) h1
  have hlt : ∀ x ∈ p1, x.block < W.heap.size := fun x hx => hW'.lt x (by simp [hx])
  simp only [List.append_nil, List.nil_append] at hW'
  refine (law_lifted s so c l W hs).mono fun e W' ⟨he, hb⟩ => ?_
  subst he
  exact ⟨_, rfl, _, _, _, [], _, [], hW', trodAll_mk1 (shut_bool Tryz.underlying4 _), trodAll_mk2 (shut_string Tryz.underlying9 ws) (Below.trod laid_out (by kernel_rfl) (of_decide_eq_true (by kernel_rfl)) h1 hb hlt), rfl, hb.frame _, fun h => by cases h⟩
theorem baseModels_holds : Rows.BaseModelsSaid :=
  OpenClaim.holds_of_wide 3 Tryz.f3 rfl rfl rfl rfl rfl rfl rfl ⟨rfl, rfl, rfl, rfl, rfl⟩ rfl rfl rfl rfl rfl (by kernel_rfl) Tryz.func3 (by kernel_rfl)
    (of_decide_eq_true (by kernel_rfl)) (by unfold Func.isWrapper; first | (rw [if_pos (by decide +kernel)]; kernel_rfl) | (rw [if_neg (by decide +kernel)]; exact ⟨rfl, rfl⟩))
    (fun os started H enc _ => lifted os started H enc)
theorem baseModels_card : Rows.BaseModelsCardSaid :=
  Claim7.holds_tied_plain_at .later [] [.data, .data, .data] true (true, "5a0e36318e40b89b96e49423fe0cc19f0459800bb25cd33c947a9583d90536c3") true baseModels_holds (fun _ h => by cases h) (by kernel_rfl) (fun _ h => by cases h) baseModels_row_tie rfl ⟨rfl, rfl⟩ (by kernel_rfl) rfl
    (fun f fn hf hfn => by
      obtain rfl : f = 3 := Option.some.inj ((show Tryz.prog.funcNamed "cosigner/cosignerlaw26.BaseModels" = some 3 by kernel_rfl).symm.trans hf) |>.symm
      obtain rfl : fn = Tryz.f3 := (Option.some.inj (Tryz.func3.symm.trans hfn)).symm
      exact ⟨by kernel_rfl, fun j t ht => by
        rw [Tryz.params3] at ht
        have hm : t ∈ [9, 22] := by simpa using Array.mem_of_getElem? ht
        have hall : ([9, 22].all fun u => !Tryz.prog.wantsStandIn u) = true := by kernel_rfl
        exact (show Tryz.prog.wantsStandIn t = false by simpa using List.all_eq_true.1 hall t hm)⟩)
    (by kernel_rfl)
#print axioms baseModels_card
end Go.Proofs.YtpnbhoeghncnnaaGreatDoor

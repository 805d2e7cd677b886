/-
  A part of the proof of Rows.BaseModelsCardSaid (for every class and script BaseModels answers true, and its arguments read as they did; the listed library variables as the program text lays them): texts UA, UB, UC, UD, UE, UF. By an AI agent.
-/
import Derived.Test.YtpnbhoeghncnnaaGreatDoorM28
import Derived.Deep.QuietTactic
import Derived.BigQuiet
import Derived.Outline
set_option linter.all false
set_option linter.unusedVariables false
set_option linter.unusedSimpArgs false
namespace Go.Proofs.YtpnbhoeghncnnaaGreatDoor
open Go.RowKit
set_option maxHeartbeats 1000000 in
theorem sameInts_any (s1 s2 : Option Addr) (n c1 c2 : Nat) (o1 o2 : Option Nat) (xs : List Int) (w : World) (hn : n ≤ 1000) (hx : xs.length = n) (h1 : Lst w (.slice s1 n c1) o1 xs) (h2 : Lst w (.slice s2 n c2) o2 xs) :
    Calls Tryz.prog 8 #[.slice s1 n c1, .slice s2 n c2] w fun e w' => e = .returned (.bool true) ∧ ∃ q, w' = w.drewN q := by
  have H1 := Lib.hid h1
  have H2 := Lib.hid h2
  have HX := Lib.hid hx
  clear h1 h2 hx
  go_enter Tryz.func8, Tryz.ntmps8
  go_wp2
  go_loopw [5] (fun a wr => ∃ k q : Nat, a = .int .i64 k ∧ k ≤ n ∧ wr = w.drewN q) (fun a _ => n - (intOf a).toNat)
  case atStart => exact ⟨0, 0, rfl, by omega, rfl⟩
  case round =>
    obtain ⟨k, q, rfl, hk, rfl⟩ := hrel
    by_cases hlt : k < n
    · obtain ⟨z, hz⟩ := get_of_lt xs (show k < xs.length by have := HX.out; omega)
      obtain ⟨g1, p1, rfl, r1, l1⟩ := H1.out.at_ hz
      obtain ⟨g2, p2, rfl, r2, l2⟩ := H2.out.at_ hz
      clear hz
      have hl : (n : Int) ≤ 1000 := by omega
      go_wp2
      go_quiet (fail)
      go_wp2
      go_roundw
      case rel => exact ⟨k + 1, _, by go_num, by omega, rfl⟩
      case measure => simp [intOf]; omega
    · obtain rfl : n = k := by omega
      go_wp2
      go_ret
      exact ⟨rfl, q, rfl⟩
theorem few_yes (so : Option Addr) (n c : Nat) (w : World) (h : (n : Int) ≤ 20) :
    Calls Tryz.prog 5 #[.slice so n c] w fun e w' => e = .returned (.bool true) ∧ w = w' := by
  go_enter Tryz.func5, Tryz.ntmps5
  go_wp2
  go_ret
  exact ⟨rfl, rfl⟩
theorem few_mid (so : Option Addr) (n c : Nat) (w : World) (h1 : (20 : Int) < n) (h2 : (n : Int) ≤ 40) :
    Calls Tryz.prog 5 #[.slice so n c] w fun e w' => e = .returned (.bool false) ∧ w = w' := by
  have d1 : decide ((n : Int) ≤ 20) = false := by rw [decide_eq_false_iff_not]; omega
  go_enter Tryz.func5, Tryz.ntmps5
  go_wp2
  go_ret
  exact ⟨rfl, rfl⟩
theorem few_long (so : Option Addr) (n c : Nat) (w : World) (h1 : (40 : Int) < n) (h2 : (n : Int) ≤ 60) :
    Calls Tryz.prog 5 #[.slice so n c] w fun e w' => e = .returned (.bool true) ∧ w = w' := by
  have h3 : (20 : Int) < n := by omega
  go_enter Tryz.func5, Tryz.ntmps5
  go_wp2
  go_ret
  exact ⟨rfl, rfl⟩
theorem few_over (so : Option Addr) (n c : Nat) (w : World) (h1 : (60 : Int) < n) :
    Calls Tryz.prog 5 #[.slice so n c] w fun e w' => e = .returned (.bool false) ∧ w = w' := by
  have h3 : (20 : Int) < n := by omega
  have h4 : (40 : Int) < n := by omega
  have d1 : decide ((n : Int) ≤ 20) = false := by rw [decide_eq_false_iff_not]; omega
  have d2 : decide ((n : Int) ≤ 60) = false := by rw [decide_eq_false_iff_not]; omega
  go_enter Tryz.func5, Tryz.ntmps5
  go_wp2
  go_ret
  exact ⟨rfl, rfl⟩
set_option maxHeartbeats 1000000 in
theorem says_yes (cls : ByteArray) (l : List ScrT) (so sw : Option Addr) (c cw : Nat) (ow : Option Nat) (want : List Int) (f : Int) (w : World) (hB : Both cls l (want, f, 0)) (hs : ScrAt w so l) (hw : Lst w (.slice sw want.length cw) ow want) (hn : want.length ≤ 1000) :
    Calls Tryz.prog 13 #[.string cls, .slice so l.length c, .slice sw want.length cw, .int .i64 f] w fun e w' => e = .returned (.bool true) ∧ Fr (fun _ => False) w w' := by
  have HM := Lib.hid ((hB so c w hs).1)
  have HW := Lib.hid hw
  have HN := Lib.hid hn
  clear hB hs hw hn
  have g0 : ((0 : Int) == 0) = true := rfl
  have g1 : (f == f) = true := by simp
  go_enter Tryz.func13, Tryz.ntmps13
  go_wp2_with (first
    | (go_at_call 6
       refine HM.out.mono ?_
       rintro e w1 ⟨v, own, rfl, hl, hf⟩
       obtain ⟨s1, c1, rfl⟩ := hl.form
       have HL := Lib.hid hl
       have HF := Lib.hid hf
       clear hl hf)
    | (go_at_call 8; refine (sameInts_any _ _ _ _ _ _ _ want _ HN.out rfl HL.out (HW.out.fr0 HF.out)).mono ?_; rintro e w2 ⟨rfl, q, rfl⟩))
  go_ret
  exact ⟨rfl, HF.out.trans (Fr.drewN _ _ _) (fun _ _ h => h)⟩
end Go.Proofs.YtpnbhoeghncnnaaGreatDoor
namespace Go.Proofs.YtpnbhoeghncnnaaGreatDoor
open Go.RowKit
theorem infoStr : (Tryz.prog.info? 9).map (fun i => (i.zero, i.size, i.bytes)) = some (some (.string ⟨#[]⟩), 1, 16) := by kernel_rfl

/-- The slice v holds the numbers xs; they lie in the block own. -/
def SLst (w : World) (v : Value) (own : Option Nat) (xs : List ByteArray) : Prop :=
  (v = .slice none 0 0 ∧ own = none ∧ xs = []) ∨
  ∃ g o cap cs, v = .slice (some ⟨g, o, none⟩) xs.length cap ∧ own = some g ∧ w.heap[g]? = some (.cells cs 9 (0, 0)) ∧ o + cap ≤ cs.size ∧ xs.length ≤ cap ∧ cs.size ≤ 9223372036854775807 ∧
    ∀ i x, xs[i]? = some x → cs[o + i]? = some (.string x)
theorem SLst.fr {F : Nat → Prop} {w w' : World} {v : Value} {own : Option Nat} {xs : List ByteArray} (h : SLst w v own xs) (hf : Fr F w w') (hF : ∀ g, own = some g → ¬ F g) : SLst w' v own xs := by
  rcases h with h | ⟨g, o, cap, cs, h1, h2, h3, h4⟩
  · exact .inl h
  · exact .inr ⟨g, o, cap, cs, h1, h2, hf.heap h3 (hF g h2), h4⟩
theorem SLst.own_lt {w : World} {v : Value} {own : Option Nat} {xs : List ByteArray} (h : SLst w v own xs) {g : Nat} (hg : own = some g) : g < w.heap.size := by
  rcases h with ⟨_, h, _⟩ | ⟨g', o, cap, cs, h1, h2, h3, h4⟩
  · rw [h] at hg; cases hg
  · rw [h2] at hg; cases hg; exact heap_lt h3
theorem SLst.nil (w : World) : SLst w (.slice none 0 0) none [] := .inl ⟨rfl, rfl, rfl⟩
theorem SLst.form {w : World} {v : Value} {own : Option Nat} {xs : List ByteArray} (h : SLst w v own xs) : ∃ s c, v = .slice s xs.length c := by
  rcases h with ⟨h, _, hx⟩ | ⟨g', o, cap, cs, h1, h2, h3, h4⟩
  · exact ⟨none, 0, by rw [h, hx]; rfl⟩
  · exact ⟨_, _, h1⟩

theorem scells_out {w : World} {g o : Nat} {cs : Array Value} {t : TypeId} {fr : Nat × Nat} (h : w.heap[g]? = some (.cells cs t fr)) {xs : List ByteArray} (hx : ∀ i x, xs[i]? = some x → cs[o + i]? = some (.string x)) :
    ∀ j v, (xs.map (fun x => Value.string x))[j]? = some v → w.cell? ((⟨g, o, none⟩ : Addr).add j) = some v := by
  intro j v hv
  rw [List.getElem?_map] at hv
  cases hxj : xs[j]? with
  | none => rw [hxj] at hv; cases hv
  | some x =>
    rw [hxj] at hv
    cases hv
    rw [show (⟨g, o, none⟩ : Addr).add j = ⟨g, o + j, none⟩ by unfold Addr.add; split <;> simp_all]
    rw [heap_cell h]
    exact hx j x hxj

theorem sapp_run (w : World) (ty : TypeId) (v : Value) (own : Option Nat) (xs : List ByteArray) (h : SLst w v own xs) (ad : Addr) (m c : Nat) (ys : List ByteArray) (hm : ys.length = m) (h0 : 0 < m) (hs : xs.length + m ≤ 100000)
    (hys : ∀ j u, (ys.map (fun x => Value.string x))[j]? = some u → w.cell? (ad.add j) = some u) :
    ∃ g o cap w', (Builtin.append_ #[34, 34] ty #[v, .slice (some ad) m c]).run Tryz.prog w = .ok (.slice (some ⟨g, o, none⟩) (xs.length + m) cap) w' ∧
      SLst w' (.slice (some ⟨g, o, none⟩) (xs.length + m) cap) (some g) (xs ++ ys) ∧ Fr (fun k => own = some k) w w' ∧ (own = some g ∨ g = w.heap.size) := by
  obtain ⟨i, hi, hz, hsz, hby⟩ : ∃ i, Tryz.prog.info? 9 = some i ∧ i.zero = some (.string ⟨#[]⟩) ∧ i.size = 1 ∧ i.bytes = 16 := by
    have := infoStr
    cases hq : Tryz.prog.info? 9 with
    | none => rw [hq] at this; cases this
    | some i =>
      rw [hq] at this
      simp only [Option.map_some, Option.some.injEq, Prod.mk.injEq] at this
      exact ⟨i, rfl, this.1, this.2.1, this.2.2⟩
  have hl : (ys.map (fun x => Value.string x)).length = m * i.size := by rw [List.length_map, hm, hsz, Nat.mul_one]
  have h1 : ∀ u ∈ ys.map (fun x => Value.string x), u.oneCell' = true := by
    intro u hu; obtain ⟨x, _, rfl⟩ := List.mem_map.1 hu; rfl
  have grown : ∀ (cap cap' : Nat), xs.length + m ≤ cap' → cap' ≤ 9223372036854775807 → ∀ (own : Option Nat),
      SLst (w.drew.alloc (.cells ((xs.map (fun x => Value.string x)).toArray ++ (ys.map (fun x => Value.string x)).toArray ++ Builtin.zeroCells (Value.string ⟨#[]⟩).cells (cap' - (xs.length + m))) 9)) (.slice (some ⟨w.heap.size, 0, none⟩) (xs.length + m) cap') (some w.heap.size) (xs ++ ys) ∧
      Fr (fun k => own = some k) w (w.drew.alloc (.cells ((xs.map (fun x => Value.string x)).toArray ++ (ys.map (fun x => Value.string x)).toArray ++ Builtin.zeroCells (Value.string ⟨#[]⟩).cells (cap' - (xs.length + m))) 9)) := by
    intro cap cap' hc hc' own
    refine ⟨.inr ⟨w.heap.size, 0, cap', _, by rw [List.length_append, hm], rfl, heap_alloc_new w.drew _, ?_, by rw [List.length_append, hm]; exact hc, ?_, ?_⟩, (Fr.drew _ w).trans (Fr.alloc (fun k => own = some k) _ _) (fun _ _ h => h)⟩
    · simp only [Array.size_append, List.size_toArray, size_zeroCells, List.length_map, hm]
      show 0 + cap' ≤ xs.length + m + (cap' - (xs.length + m)) * 1
      omega
    · simp only [Array.size_append, List.size_toArray, size_zeroCells, List.length_map, hm]
      show xs.length + m + (cap' - (xs.length + m)) * 1 ≤ _
      omega
    · intro j x hx
      have hj : j < (xs ++ ys).length := by
        rcases Nat.lt_or_ge j (xs ++ ys).length with h' | h'
        · exact h'
        · rw [List.getElem?_eq_none h'] at hx; cases hx
      rw [Nat.zero_add, Array.getElem?_append_left (by simpa using hj)]
      rw [List.append_toArray, ← List.map_append, List.getElem?_toArray, List.getElem?_map, hx]
      rfl
  rcases h with ⟨rfl, rfl, rfl⟩ | ⟨g, o, cap, cs, rfl, rfl, hg, hcap, hlen, hmax, hcs⟩
  · have hr := run_append_nil (P := Tryz.prog) w 34 ty 9 i (.string ⟨#[]⟩) Tryz.underlying34 hi hz ad m c _ hl hys h0 (by simp at hs; omega) (by simp at hs; rw [hby]; omega)
    have hge := grownCap_ge w m 0 9
    have hle := grownCap_le_maxLen w m 0 9 (by simp [maxLen]; simp at hs; omega)
    have G := grown 0 (grownCap w m 0 9) (by simpa using hge) (by simpa [maxLen] using hle) none
    simp only [List.map_nil, List.nil_append, List.length_nil, Nat.zero_add, Array.empty_append] at G ⊢
    exact ⟨_, _, _, _, hr, G.1, G.2, .inr rfl⟩
  · by_cases hroom : xs.length + m ≤ cap
    · have hf := run_firstCells_some (P := Tryz.prog) w i.size m ad m c _ hl hys
      have hst := run_storeCells_at Tryz.prog g (o + xs.length) 9 (ys.map (fun x => Value.string x)) 0 cs w hg (by rw [List.length_map, hm]; omega) h1
      simp only [Nat.add_zero] at hst
      rw [hsz] at hf
      refine ⟨g, o, cap, w.setRow g (cs.toList.take (o + xs.length) ++ (ys.map (fun x => Value.string x)) ++ cs.toList.drop (o + xs.length + (ys.map (fun x => Value.string x)).length)).toArray, ?_, ?_, Fr.setRow (fun k => some g = some k) w g _ rfl, .inl rfl⟩
      · simp [Builtin.append_, run_underlying Tryz.underlying34, sizeOf, typeInfo, hi, hsz, Builtin.lenOf, hroom, hf, Addr.add_lit, hst]
      · refine .inr ⟨g, o, cap, _, by rw [List.length_append, hm], rfl, setRow_heap w g cs _ 9 _ hg, ?_, by rw [List.length_append, hm]; exact hroom, ?_, ?_⟩
        · simp only [List.size_toArray, List.length_append, List.length_take, List.length_drop, Array.length_toList, List.length_map, hm]; omega
        · simp only [List.size_toArray, List.length_append, List.length_take, List.length_drop, Array.length_toList, List.length_map, hm]; omega
        · intro j x hx
          rw [List.getElem?_toArray, List.append_assoc]
          rcases Nat.lt_or_ge j xs.length with hj | hj
          · rw [List.getElem?_append_left (by simp; omega), List.getElem?_take_of_lt (by omega), Array.getElem?_toList]
            rw [List.getElem?_append_left hj] at hx
            exact hcs j x hx
          · rw [List.getElem?_append_right (by simp; omega)]
            rw [List.getElem?_append_right hj] at hx
            have hjj : j - xs.length < ys.length := by
              rcases Nat.lt_or_ge (j - xs.length) ys.length with h' | h'
              · exact h'
              · rw [List.getElem?_eq_none h'] at hx; cases hx
            have e : o + j - (List.take (o + xs.length) cs.toList).length = j - xs.length := by simp; omega
            rw [e, List.getElem?_append_left (by simpa using hjj), List.getElem?_map, hx]
            rfl
    · have hr := run_append_grow (P := Tryz.prog) w 34 ty 9 i (.string ⟨#[]⟩) Tryz.underlying34 hi hz ⟨g, o, none⟩ xs.length cap (xs.map (fun x => Value.string x)) (by rw [List.length_map, hsz, Nat.mul_one]) (scells_out hg hcs) ad m c _ hl hys (by omega) (by omega) (growslice_fits (by omega) (by rw [hby]; omega))
      have hge := grownCap_ge w (xs.length + m) cap 9
      have hle := grownCap_le_maxLen w (xs.length + m) cap 9 (by simp [maxLen]; omega)
      have G := grown 0 (grownCap w (xs.length + m) cap 9) hge (by simpa [maxLen] using hle) (some g)
      exact ⟨_, _, _, _, hr, G.1, G.2, .inr rfl⟩

theorem swp_app {w : World} {o : Oper} {a : Act} {K : Act → World → Prop} {Q : Exit → Act → World → Prop} (s x : Operand)
    (ho : o.op = .call { callee := .builtin .append, args := #[s, x], argTypes := #[34, 34] })
    (v : Value) (own : Option Nat) (xs : List ByteArray) (h : SLst w v own xs) (hs : a.eval s = v) (ad : Addr) (m c : Nat) (ys : List ByteArray) (hx : a.eval x = .slice (some ad) m c) (hm : ys.length = m) (h0 : 0 < m) (hlen : xs.length + m ≤ 100000)
    (hys : ∀ j u, (ys.map (fun x => Value.string x))[j]? = some u → w.cell? (ad.add j) = some u)
    (hK : ∀ g i cap w', SLst w' (.slice (some ⟨g, i, none⟩) (xs.length + m) cap) (some g) (xs ++ ys) → Fr (fun k => own = some k) w w' → (own = some g ∨ g = w.heap.size) → K (a.put o.dst (.slice (some ⟨g, i, none⟩) (xs.length + m) cap)) w') : o.wp Tryz.prog a w K Q := by
  obtain ⟨g, i, cap, w', hr, h2, h3, h4⟩ := sapp_run w o.type v own xs h ad m c ys hm h0 hlen hys
  unfold Oper.wp execOp
  simp only [ho, resolve, invoke, builtin, Sem.run_bind, Sem.run_pure, Result.andThen_ok, List.map_toArray, List.map_cons, List.map_nil, hs, hx, hr]
  exact hK g i cap w' h2 h3 h4
theorem swpList_app {w : World} {ops : Array Oper} {rest : List Oper} {o : Oper} {a : Act} {Q : Exit → Act → World → Prop} (hgd : o.guard = none) (s x : Operand)
    (ho : o.op = .call { callee := .builtin .append, args := #[s, x], argTypes := #[34, 34] })
    (v : Value) (own : Option Nat) (xs : List ByteArray) (h : SLst w v own xs) (hs : a.eval s = v) (ad : Addr) (m c : Nat) (ys : List ByteArray) (hx : a.eval x = .slice (some ad) m c) (hm : ys.length = m) (h0 : 0 < m) (hlen : xs.length + m ≤ 100000)
    (hys : ∀ j u, (ys.map (fun x => Value.string x))[j]? = some u → w.cell? (ad.add j) = some u)
    (hK : ∀ g i cap w', SLst w' (.slice (some ⟨g, i, none⟩) (xs.length + m) cap) (some g) (xs ++ ys) → Fr (fun k => own = some k) w w' → (own = some g ∨ g = w.heap.size) → wpList Tryz.prog ops Q rest (a.put o.dst (.slice (some ⟨g, i, none⟩) (xs.length + m) cap)) w') : wpList Tryz.prog ops Q (o :: rest) a w :=
  wpList_plain hgd fun _ hK' => swp_app s x ho v own xs h hs ad m c ys hx hm h0 hlen hys fun g i cap w' h2 h3 h4 => hK' _ _ (hK g i cap w' h2 h3 h4)
theorem sstep_app {w : World} {ops : Array Oper} {o : Oper} {a : Act} {K : Act → World → Prop} {Q : Exit → Act → World → Prop} {E : Prop} (hgd : o.guard = none) (s x : Operand)
    (ho : o.op = .call { callee := .builtin .append, args := #[s, x], argTypes := #[34, 34] })
    (v : Value) (own : Option Nat) (xs : List ByteArray) (h : SLst w v own xs) (hs : a.eval s = v) (ad : Addr) (m c : Nat) (ys : List ByteArray) (hx : a.eval x = .slice (some ad) m c) (hm : ys.length = m) (h0 : 0 < m) (hlen : xs.length + m ≤ 100000)
    (hys : ∀ j u, (ys.map (fun x => Value.string x))[j]? = some u → w.cell? (ad.add j) = some u)
    (hK : ∀ g i cap w', SLst w' (.slice (some ⟨g, i, none⟩) (xs.length + m) cap) (some g) (xs ++ ys) → Fr (fun k => own = some k) w w' → (own = some g ∨ g = w.heap.size) → K (a.put o.dst (.slice (some ⟨g, i, none⟩) (xs.length + m) cap)) w') :
    if Region.wanted o (yielded ops a.tmps) = true then Oper.wp Tryz.prog o a w K Q else E := by
  have hw : Region.wanted o (yielded ops a.tmps) = true := by simp [Region.wanted, hgd]
  rw [if_pos hw]
  exact swp_app s x ho v own xs h hs ad m c ys hx hm h0 hlen hys hK
end Go.Proofs.YtpnbhoeghncnnaaGreatDoor
namespace Go.Proofs.YtpnbhoeghncnnaaGreatDoor
open Go.RowKit
theorem names1_any (nm t : ByteArray) (so : Option Addr) (n c : Nat) (w : World) :
    Calls Tryz.prog 106 #[.agg #[.string nm, .slice so n c, .string t]] w fun e w' => e = .returned (.string nm) ∧ Fr (fun _ => False) w w' := by
  go_enter Tryz.func106, Tryz.ntmps106
  go_wp2
  go_ret
  exact ⟨rfl, Fr.alloc _ _ _⟩
theorem one_cellS (w : World) (n : Nat) (hn : n = w.heap.size) (a : ByteArray) (t : TypeId) : ∀ j u, ([a].map Value.string)[j]? = some u → (w.alloc (.cells #[.string a] t)).cell? ((⟨n, 0, none⟩ : Addr).add j) = some u := by
  subst hn
  intro j u hu
  exact scells_out (o := 0) (xs := [a]) (heap_alloc_new w _) (by intro i x hx; rw [Nat.zero_add]; match i, hx with | 0, hx => cases hx; rfl) j u hu
theorem swpList_appN {w : World} {ops : Array Oper} {rest : List Oper} {o : Oper} {a : Act} {Q : Exit → Act → World → Prop} (hgd : o.guard = none) (s x : Operand)
    (ho : o.op = .call { callee := .builtin .append, args := #[s, x], argTypes := #[34, 34] })
    (v : Value) (own : Option Nat) (xs : List ByteArray) (h : SLst w v own xs) (n : Nat) (hnn : xs.length = n) (hs : a.eval s = v) (ad : Addr) (m c : Nat) (ys : List ByteArray) (hx : a.eval x = .slice (some ad) m c) (hm : ys.length = m) (h0 : 0 < m) (hlen : n + m ≤ 100000)
    (hys : ∀ j u, (ys.map Value.string)[j]? = some u → w.cell? (ad.add j) = some u)
    (hK : ∀ g i cap w', SLst w' (.slice (some ⟨g, i, none⟩) (n + m) cap) (some g) (xs ++ ys) → Fr (fun k => own = some k) w w' → (own = some g ∨ g = w.heap.size) → wpList Tryz.prog ops Q rest (a.put o.dst (.slice (some ⟨g, i, none⟩) (n + m) cap)) w') : wpList Tryz.prog ops Q (o :: rest) a w := by
  subst hnn
  exact swpList_app hgd s x ho v own xs h hs ad m c ys hx hm h0 hlen hys hK
theorem SLst.fr0 {w w' : World} {v : Value} {own : Option Nat} {xs : List ByteArray} (h : SLst w v own xs) (hf : Fr (fun _ => False) w w') : SLst w' v own xs := h.fr hf (fun _ _ h => h)
theorem take_nextS {α : Type} {xs : List α} {m : Nat} {z : α} (hz : xs[m]? = some z) : xs.take m ++ [z] = xs.take (m + 1) := by
  have hm : m < xs.length := by
    rcases Nat.lt_or_ge m xs.length with h' | h'
    · exact h'
    · rw [List.getElem?_eq_none h'] at hz; cases hz
  rw [List.take_succ_eq_append_getElem hm]
  rw [List.getElem?_eq_getElem hm] at hz; cases hz; rfl
set_option maxHeartbeats 1000000 in
theorem mapped_names (g : Nat) (w : World) (hi : ItAt w g names12) :
    Calls Tryz.prog 105 #[.slice (some ⟨g, 0, none⟩) 12 12, .func (.func 106) #[] #[]] w fun e w' => ∃ v own, e = .returned v ∧ SLst w' v own names12 ∧ Fr (fun _ => False) w w' := by
  have HI := Lib.hid hi
  clear hi
  go_enter Tryz.func105, Tryz.ntmps105
  go_wp2
  go_loopw [5, 10] (fun o i wr => ∃ (m : Nat) (s : Option Addr) (c : Nat) (own : Option Nat), i = .int .i64 m ∧ m ≤ 12 ∧ o = .slice s m c ∧ SLst wr (.slice s m c) own (names12.take m) ∧ (own = none ∨ ∃ g, own = some g ∧ w.heap.size ≤ g) ∧ Fr (fun _ => False) w wr) (fun _ i _ => 12 - (intOf i).toNat)
  case atStart => exact ⟨0, none, 0, none, rfl, by omega, rfl, SLst.nil _, .inl rfl, Fr.refl _ _⟩
  case round =>
    obtain ⟨m, s, c, own, rfl, hm, rfl, hl, ho, hf⟩ := hrel
    have HL := Lib.hid hl
    have HO := Lib.hid ho
    have HF := Lib.hid hf
    clear hl ho hf
    by_cases hlt : m < 12
    · obtain ⟨nm, hnm⟩ : ∃ x, names12[m]? = some x := ⟨_, List.getElem?_eq_getElem (by simpa [names12] using hlt)⟩
      obtain ⟨so, nn, cc, t, t0, t1, t2⟩ := (HI.out.fr HF.out) m nm hnm
      have HNM := Lib.hid hnm
      clear hnm
      have HLEN := Lib.hid (show (names12.take m).length = m by rw [List.length_take]; simp [names12]; omega)
      go_wp2_with (first
        | (go_at_call 106; refine (names1_any _ _ _ _ _ _).mono ?_; rintro e w2 ⟨rfl, hf2⟩; have HF2 := Lib.hid (HF.out.trans ((Fr.alloc (fun _ => False) wr _).trans hf2 (fun _ _ h => h)) (fun _ _ h => h)); have HF3 := Lib.hid ((Fr.alloc (fun _ => False) wr _).trans hf2 (fun _ _ h => h)); clear hf2)
        | (at_builtin; refine swpList_appN rfl (.tmp 14) (.tmp 18) rfl _ own (names12.take m) ((HL.out.fr0 HF3.out).fr0 (Fr.alloc _ _ _)) m HLEN.out rfl _ 1 _ [nm] rfl rfl (by decide) (by omega) (one_cellS _ _ rfl nm _) ?_
           intro g' i' cap' w3 hl3 hf3 ho3
           have HF4 := Lib.hid ((HF3.out.trans (Fr.alloc (fun _ => False) w2 (.cells #[.string nm] 9)) (fun _ _ h => h)))
           have L3 := Lib.hid hl3
           have F3 := Lib.hid hf3
           have O3 := Lib.hid ho3
           clear hl3 hf3 ho3))
      go_roundw
      case rel => exact ⟨m + 1, _, cap', some g', by go_num, by omega, rfl, (by have := L3.out; rw [take_nextS HNM.out] at this; exact this), (by
        rcases O3.out with h | h
        · rw [← h]; exact HO.out
        · exact .inr ⟨g', rfl, by rw [h]; have h1 := HF2.out.size; simp; omega⟩), Fr.shut ((HF.out.weak.trans HF4.out (fun _ _ h => h.elim)).trans F3.out (fun i hi h => by
          rcases HO.out with h' | ⟨g2, h', hg2⟩
          · rw [h'] at h; cases h
          · rw [h'] at h; cases h; exact hg2))⟩
      case measure => simp [intOf]; omega
    · obtain rfl : m = 12 := by omega
      go_wp2
      go_ret
      exact ⟨_, own, rfl, HL.out, HF.out⟩
end Go.Proofs.YtpnbhoeghncnnaaGreatDoor
namespace Go.Proofs.YtpnbhoeghncnnaaGreatDoor
open Go.RowKit
theorem names_any (w : World) :
    Calls Tryz.prog 88 #[] w fun e w' => ∃ s c own, e = .returned (.slice s 12 c) ∧ SLst w' (.slice s 12 c) own names12 ∧ Fr (fun _ => False) w w' := by
  have hmf : ∀ (fn : Fn) (first cap : Array Value) (w : World), (Instr.makeFunc fn first cap).run Tryz.prog w = .ok (.func fn first cap) w := fun _ _ _ _ => rfl
  go_enter Tryz.func88, Tryz.ntmps88
  go_wp2_with (first
    | (go_at_call 85
       refine (library_any _).mono ?_
       rintro e w2 ⟨gr, ROW, rfl, hrow, hlib, hgs, hf⟩
       have L3 := Lib.hid (libRow_at hrow hlib)
       have HF := Lib.hid hf
       clear hrow hlib hgs hf)
    | (go_at_call 105
       refine (mapped_names _ _ L3.out).mono ?_
       rintro e w3 ⟨v, own, rfl, hl, hf⟩
       obtain ⟨s, c, rfl⟩ := hl.form
       have HL := Lib.hid hl
       have HF2 := Lib.hid (HF.out.trans hf (fun _ _ h => h))
       clear hl hf))
  go_ret
  exact ⟨s, c, own, rfl, HL.out, HF2.out⟩
def sIx (s : ByteArray) (xs : List ByteArray) : Int := match xs.findIdx? (fun t => s.toList == t.toList) with | some i => (i : Int) | none => -1
theorem sIx_at {s : ByteArray} {xs : List ByteArray} {k : Nat} {t : ByteArray} (hy : xs[k]? = some t) (hp : (s.toList == t.toList) = true) (hb : ∀ j z, j < k → xs[j]? = some z → (s.toList == z.toList) = false) : sIx s xs = k := by
  have hk : k < xs.length := by
    rcases Nat.lt_or_ge k xs.length with h' | h'
    · exact h'
    · rw [List.getElem?_eq_none h'] at hy; cases hy
  have : xs.findIdx? (fun t => s.toList == t.toList) = some k := by
    rw [List.findIdx?_eq_some_iff_getElem]
    refine ⟨hk, by rw [List.getElem?_eq_getElem hk] at hy; cases hy; exact hp, fun j hj => ?_⟩
    rw [hb j _ hj (List.getElem?_eq_getElem (by omega))]; decide
  rw [sIx, this]
theorem sIx_no {s : ByteArray} {xs : List ByteArray} (hb : ∀ j z, j < xs.length → xs[j]? = some z → (s.toList == z.toList) = false) : sIx s xs = -1 := by
  have : xs.findIdx? (fun t => s.toList == t.toList) = none := by
    rw [List.findIdx?_eq_none_iff]
    intro x hx
    obtain ⟨j, hj, rfl⟩ := List.mem_iff_getElem.1 hx
    exact hb j _ hj (List.getElem?_eq_getElem hj)
  rw [sIx, this]
set_option maxHeartbeats 400000 in
theorem sindex_row (g o n cap : Nat) (xs : List ByteArray) (hx : xs.length = n) (s : ByteArray) (q : Int) (hq : sIx s xs = q) (w : World) (hn : n ≤ 1000) (hc : StrAt w g o xs) :
    Calls Tryz.prog 107 #[.slice (some ⟨g, o, none⟩) n cap, .string s] w fun e w' => e = .returned (.int .i64 q) ∧ w = w' := by
  have HC := Lib.hid hc
  have HN := Lib.hid hn
  have HX := Lib.hid hx
  have HQ := Lib.hid hq
  clear hc hn hx hq
  go_enter Tryz.func107, Tryz.ntmps107
  go_wp2
  go_loop [8] (fun a => ∃ k : Nat, a = .int .i64 k ∧ k ≤ n ∧ ∀ j z, j < k → xs[j]? = some z → (s.toList == z.toList) = false) (fun a => n - (intOf a).toNat)
  case atStart => exact ⟨0, rfl, by omega, fun j z h => by omega⟩
  case round =>
    obtain ⟨k, rfl, hk, hb⟩ := hrel
    have HB := Lib.hid hb
    clear hb
    by_cases hlt : k < n
    · obtain ⟨y, hy⟩ : ∃ y, xs[k]? = some y := ⟨_, List.getElem?_eq_getElem (by rw [HX.out]; exact hlt)⟩
      have hcell := HC.out k y hy
      have HY := Lib.hid hy
      have hl := HN.out
      clear hy
      cases hxy : s.toList == y.toList with
      | true =>
        have HA := Lib.hid (sIx_at HY.out hxy HB.out)
        go_wp2
        go_ret
        exact ⟨by rw [← HQ.out, HA.out]; rfl, rfl⟩
      | false =>
        have HZ := Lib.hid hxy
        go_wp2
        go_round
        case rel => exact ⟨k + 1, by go_num, by omega, fun j z hj hz => by
          rcases Nat.lt_or_ge j k with h | h
          · exact HB.out j z h hz
          · obtain rfl : j = k := by omega
            rw [HY.out] at hz; cases hz; exact HZ.out⟩
        case measure => simp [intOf]; omega
    · obtain rfl : n = k := by omega
      have HA := Lib.hid (sIx_no (fun j z hj hz => HB.out j z (by have := HX.out; omega) hz))
      go_wp2
      go_ret
      exact ⟨by rw [← HQ.out, HA.out]; rfl, rfl⟩
theorem scontains_row (g o n cap : Nat) (xs : List ByteArray) (hx : xs.length = n) (s : ByteArray) (q : Bool) (hq : decide (0 ≤ sIx s xs) = q) (w : World) (hn : n ≤ 1000) (hc : StrAt w g o xs) :
    Calls Tryz.prog 89 #[.slice (some ⟨g, o, none⟩) n cap, .string s] w fun e w' => e = .returned (.bool q) ∧ w = w' := by
  have H := fun w hc => sindex_row g o n cap xs hx s _ rfl w hn hc
  have HS := Lib.hid (H w hc)
  have HQ := Lib.hid hq
  clear H hq hc hx hn
  go_enter Tryz.func89, Tryz.ntmps89
  go_wp2_with (go_at_call 107; refine HS.out.mono ?_; rintro e w' ⟨rfl, rfl⟩)
  go_ret
  exact ⟨by rw [← HQ.out]; rfl, rfl⟩
def needP (xn : ByteArray) (needs : List ByteArray) (n : ByteArray) : Bool := n.toList == xn.toList || decide (0 ≤ sIx n needs)
theorem filter_next {α : Type} {xs : List α} {m : Nat} {z : α} (hz : xs[m]? = some z) (P : α → Bool) : (xs.take (m + 1)).filter P = (xs.take m).filter P ++ (if P z then [z] else []) := by
  rw [← take_nextS hz, List.filter_append]
  cases h : P z <;> simp [h]
set_option maxHeartbeats 2000000 in
theorem all_any (gs kk cap : Nat) (xn tx : ByteArray) (needs : List ByteArray) (hk : needs.length = kk) (hk2 : kk ≤ 1000) (w : World) (hs : StrAt w gs 0 needs) :
    Calls Tryz.prog 28 #[.agg #[.string xn, .slice (some ⟨gs, 0, none⟩) kk cap, .string tx]] w fun e w' => ∃ v own, e = .returned v ∧ SLst w' v own (names12.filter (needP xn needs)) ∧ Fr (fun _ => False) w w' := by
  have HK := Lib.hid hk
  have HK2 := Lib.hid hk2
  have HS := Lib.hid hs
  clear hk hk2 hs
  have F0 := Lib.hid (Fr.alloc (fun _ => False) w (.cells #[.string xn, .slice (some ⟨gs, 0, none⟩) kk cap, .string tx] 61))
  have BX := Lib.hid (heap_alloc_new w (.cells #[.string xn, .slice (some ⟨gs, 0, none⟩) kk cap, .string tx] 61))
  go_enter Tryz.func28, Tryz.ntmps28
  go_wp2_with (go_at_call 88; refine (names_any _).mono ?_; rintro e w1 ⟨sn, cn, on, rfl, hl, hf⟩
               have HL := Lib.hid hl
               have HF1 := Lib.hid (F0.out.trans hf (fun _ _ h => h))
               have BX1 := Lib.hid (hf.heap BX.out id)
               clear hl hf)
  go_loopw [3, 8] (fun o i wr => ∃ (m : Nat) (s : Option Addr) (c n : Nat) (own : Option Nat), i = .int .i64 m ∧ m ≤ 12 ∧ o = .slice s n c ∧ n ≤ m ∧ SLst wr (.slice s n c) own ((names12.take m).filter (needP xn needs)) ∧ ((names12.take m).filter (needP xn needs)).length = n ∧ (own = none ∨ ∃ g, own = some g ∧ w1.heap.size ≤ g) ∧ Fr (fun _ => False) w1 wr) (fun _ i _ => 12 - (intOf i).toNat)
  case atStart => exact ⟨0, none, 0, 0, none, rfl, by omega, rfl, Nat.le_refl _, SLst.nil _, rfl, .inl rfl, Fr.refl _ _⟩
  case round =>
    obtain ⟨m, s, c, n, own, rfl, hm, rfl, hnm, hl, hlen, ho, hf⟩ := hrel
    have HL2 := Lib.hid hl
    have HLEN := Lib.hid hlen
    have HO := Lib.hid ho
    have HF := Lib.hid hf
    clear hl ho hf hlen
    have BX2 := HF.out.heap BX1.out id
    have b0 : wr.cell? ⟨w.heap.size, 0, none⟩ = some (.string xn) := by rw [heap_cell BX2]; rfl
    have b1 : wr.cell? ⟨w.heap.size, 1, none⟩ = some (.slice (some ⟨gs, 0, none⟩) kk cap) := by rw [heap_cell BX2]; rfl
    clear BX2
    by_cases hlt : m < 12
    · obtain ⟨nm, hnm2⟩ : ∃ x, names12[m]? = some x := ⟨_, List.getElem?_eq_getElem (by simpa [names12] using hlt)⟩
      obtain ⟨g, o, rfl, hr, hg⟩ : ∃ g o, sn = some ⟨g, o, none⟩ ∧ wr.cell? ⟨g, o + m, none⟩ = some (.string nm) ∧ True := by
        rcases HL.out with ⟨h1, h2, h3⟩ | ⟨g, o, cap', cs, h1, h2, h3, h4, h5, h6, h7⟩
        · exact absurd h3 (by decide)
        · cases h1
          exact ⟨g, o, rfl, HF.out.cell (by rw [heap_cell h3]; exact h7 m nm hnm2) id, trivial⟩
      have HNM := Lib.hid hnm2
      clear hnm2 hg
      cases hp1 : nm.toList == xn.toList with
      | true =>
        have HP := Lib.hid (show needP xn needs nm = true by unfold needP; rw [hp1]; rfl)
        go_wp2_with (first
          | (at_builtin; refine swpList_appN rfl (.tmp 22) (.tmp 24) rfl _ own _ (HL2.out.fr0 (Fr.alloc _ _ _)) n HLEN.out rfl _ 1 _ [nm] rfl rfl (by decide) (by omega) (one_cellS _ _ rfl nm _) ?_
             intro g' i' cap' w3 hl3 hf3 ho3
             have HF4 := Lib.hid (HF.out.trans (Fr.alloc (fun _ => False) wr (.cells #[.string nm] 9)) (fun _ _ h => h))
             have L3 := Lib.hid hl3
             have F3 := Lib.hid hf3
             have O3 := Lib.hid ho3
             clear hl3 hf3 ho3))
        go_roundw
        case rel => exact ⟨m + 1, _, cap', n + 1, some g', by go_num, by omega, rfl, by omega, (by rw [filter_next HNM.out, HP.out]; exact L3.out), (by rw [filter_next HNM.out, HP.out]; simp [HLEN.out]), (by
          rcases O3.out with h | h
          · rw [← h]; exact HO.out
          · exact .inr ⟨g', rfl, by rw [h]; have h1 := HF.out.size; simp; omega⟩), Fr.shut (HF4.out.weak.trans F3.out (fun i hi h => by
            rcases HO.out with h' | ⟨g2, h', hg2⟩
            · rw [h'] at h; cases h
            · rw [h'] at h; cases h; exact hg2))⟩
        case measure => simp [intOf]; omega
      | false =>
        cases hp2 : decide (0 ≤ sIx nm needs) with
        | true =>
          have HP := Lib.hid (show needP xn needs nm = true by unfold needP; rw [hp1, hp2]; rfl)
          have HC := Lib.hid (scontains_row gs 0 kk cap needs HK.out nm true hp2 wr HK2.out ((HS.out.fr HF1.out).fr HF.out))
          clear hp2
          go_wp2_with (first
            | (go_at_call 89; refine HC.out.mono ?_; rintro e w' ⟨rfl, rfl⟩)
            | (at_builtin; refine swpList_appN rfl (.tmp 22) (.tmp 24) rfl _ own _ (HL2.out.fr0 (Fr.alloc _ _ _)) n HLEN.out rfl _ 1 _ [nm] rfl rfl (by decide) (by omega) (one_cellS _ _ rfl nm _) ?_
               intro g' i' cap' w3 hl3 hf3 ho3
               have HF4 := Lib.hid (HF.out.trans (Fr.alloc (fun _ => False) wr (.cells #[.string nm] 9)) (fun _ _ h => h))
               have L3 := Lib.hid hl3
               have F3 := Lib.hid hf3
               have O3 := Lib.hid ho3
               clear hl3 hf3 ho3))
          go_roundw
          case rel => exact ⟨m + 1, _, cap', n + 1, some g', by go_num, by omega, rfl, by omega, (by rw [filter_next HNM.out, HP.out]; exact L3.out), (by rw [filter_next HNM.out, HP.out]; simp [HLEN.out]), (by
            rcases O3.out with h | h
            · rw [← h]; exact HO.out
            · exact .inr ⟨g', rfl, by rw [h]; have h1 := HF.out.size; simp; omega⟩), Fr.shut (HF4.out.weak.trans F3.out (fun i hi h => by
              rcases HO.out with h' | ⟨g2, h', hg2⟩
              · rw [h'] at h; cases h
              · rw [h'] at h; cases h; exact hg2))⟩
          case measure => simp [intOf]; omega
        | false =>
          have HP := Lib.hid (show needP xn needs nm = false by unfold needP; rw [hp1, hp2]; rfl)
          have HC := Lib.hid (scontains_row gs 0 kk cap needs HK.out nm false hp2 wr HK2.out ((HS.out.fr HF1.out).fr HF.out))
          clear hp2
          go_wp2_with (go_at_call 89; refine HC.out.mono ?_; rintro e w' ⟨rfl, rfl⟩)
          go_roundw
          case rel => exact ⟨m + 1, s, c, n, own, by go_num, by omega, rfl, by omega, (by rw [filter_next HNM.out, HP.out]; simpa using HL2.out), (by rw [filter_next HNM.out, HP.out]; simpa using HLEN.out), HO.out, HF.out⟩
          case measure => simp [intOf]; omega
    · obtain rfl : m = 12 := by omega
      go_wp2
      go_ret
      exact ⟨_, own, rfl, HL2.out, HF1.out.trans HF.out (fun _ _ h => h)⟩
end Go.Proofs.YtpnbhoeghncnnaaGreatDoor
namespace Go.Proofs.YtpnbhoeghncnnaaGreatDoor
open Go.RowKit
def three : List ByteArray := [⟨#[76, 73, 78, 75]⟩, ⟨#[73, 78, 84, 83]⟩, ⟨#[83, 69, 84]⟩]
def two : List ByteArray := [⟨#[76, 73, 78, 75]⟩, ⟨#[73, 78, 84, 83]⟩]
theorem need_three : names12.filter (needP ⟨#[83, 69, 84]⟩ two) = three := by kernel_rfl
set_option maxHeartbeats 1000000 in
theorem needs_set (w : World) :
    Calls Tryz.prog 9 #[.string ⟨#[83, 69, 84]⟩] w fun e w' => ∃ s c own, e = .returned (.tuple #[.slice s 3 c, .int .i64 0]) ∧ SLst w' (.slice s 3 c) own three ∧ Fr (fun _ => False) w w' := by
  go_enter Tryz.func9, Tryz.ntmps9
  go_wp2_with (first
    | (go_at_call 27
       refine (found_yes ⟨#[83, 69, 84]⟩ 8 ⟨#[83, 69, 84]⟩ rfl (by kernel_rfl) _).mono ?_
       rintro e w1 ⟨so, n, c, t, rfl, h8, hf⟩
       obtain ⟨gs, rfl, rfl, rfl, hgs⟩ := h8 rfl
       have HST := Lib.hid (show StrAt w1 gs 0 two from fun j x hj => by
         rw [heap_cell hgs]
         match j, hj with
         | 0, hj => cases hj; rfl
         | 1, hj => cases hj; rfl
         | n + 2, hj => simp [two] at hj)
       have HF := Lib.hid hf
       clear h8 hgs hf)
    | (go_at_call 28
       refine (all_any gs 2 2 ⟨#[83, 69, 84]⟩ t two rfl (by omega) _ (HST.out.fr (Fr.alloc _ _ _))).mono ?_
       rintro e w2 ⟨v, own, rfl, hl, hf⟩
       rw [need_three] at hl
       obtain ⟨s, c, rfl⟩ := hl.form
       have HL := Lib.hid hl
       have HF2 := Lib.hid ((HF.out.trans (Fr.alloc _ _ _) (fun _ _ h => h)).trans hf (fun _ _ h => h))
       clear hl hf))
  go_ret2
  exact ⟨s, c, own, rfl, HL.out, HF2.out⟩
theorem SLst.at_ {w : World} {s : Option Addr} {n c : Nat} {own : Option Nat} {xs : List ByteArray} (h : SLst w (.slice s n c) own xs) {i : Nat} {x : ByteArray} (hx : xs[i]? = some x) : ∃ g o, s = some ⟨g, o, none⟩ ∧ w.cell? ⟨g, o + i, none⟩ = some (.string x) ∧ g < w.heap.size := by
  rcases h with ⟨he, ho, hx'⟩ | ⟨g', o, cap', cs, h1, h2, h3, h4, h5, h6, h7⟩
  · rw [hx'] at hx; simp at hx
  · cases h1; exact ⟨g', o, rfl, by rw [heap_cell h3]; exact h7 i x hx, heap_lt h3⟩
set_option maxHeartbeats 1000000 in
theorem sameNames_any (s1 s2 : Option Addr) (n c1 c2 : Nat) (o1 o2 : Option Nat) (xs : List ByteArray) (w : World) (hn : n ≤ 1000) (hx : xs.length = n) (h1 : SLst w (.slice s1 n c1) o1 xs) (h2 : SLst w (.slice s2 n c2) o2 xs) :
    Calls Tryz.prog 12 #[.slice s1 n c1, .slice s2 n c2] w fun e w' => e = .returned (.bool true) ∧ ∃ q, w' = w.drewN q := by
  have H1 := Lib.hid h1
  have H2 := Lib.hid h2
  have HX := Lib.hid hx
  clear h1 h2 hx
  go_enter Tryz.func12, Tryz.ntmps12
  go_wp2
  go_loopw [5] (fun a wr => ∃ k q : Nat, a = .int .i64 k ∧ k ≤ n ∧ wr = w.drewN q) (fun a _ => n - (intOf a).toNat)
  case atStart => exact ⟨0, 0, rfl, by omega, rfl⟩
  case round =>
    obtain ⟨k, q, rfl, hk, rfl⟩ := hrel
    by_cases hlt : k < n
    · obtain ⟨z, hz⟩ : ∃ z, xs[k]? = some z := ⟨_, List.getElem?_eq_getElem (by have := HX.out; omega)⟩
      obtain ⟨g1, p1, rfl, r1, l1⟩ := H1.out.at_ hz
      obtain ⟨g2, p2, rfl, r2, l2⟩ := H2.out.at_ hz
      clear hz
      have hl : (n : Int) ≤ 1000 := by omega
      go_wp2
      go_quiet (fail)
      go_wp2
      go_roundw
      case rel => exact ⟨k + 1, _, by go_num, by omega, rfl⟩
      case measure => simp [intOf]; omega
    · obtain rfl : n = k := by omega
      go_wp2
      go_ret
      exact ⟨rfl, q, rfl⟩
theorem do_any (nm : ByteArray) (a b : Int) (w : World) :
    Calls Tryz.prog 11 #[.string nm, .int .i64 a, .int .i64 b] w fun e w' => e = .returned (.agg #[.string nm, .int .i64 a, .int .i64 b]) ∧ Fr (fun _ => False) w w' := by
  go_enter Tryz.func11, Tryz.ntmps11
  go_wp2
  refine bodyPost_ret (v := .agg #[.string nm, .int .i64 a, .int .i64 b]) ?_ rfl ⟨rfl, Fr.alloc _ _ _⟩
  simp [results, Tryz.results11, go_sem, Result.andThen]
end Go.Proofs.YtpnbhoeghncnnaaGreatDoor
namespace Go.Proofs.YtpnbhoeghncnnaaGreatDoor
open Go.RowKit
theorem small_0 (w : World) : Calls Tryz.prog 118 #[.int .i64 0] w fun e w' => e = .returned (.string ⟨#[48]⟩) ∧ w = w' := by
  go_enter Tryz.func118, Tryz.ntmps118
  go_wp2
  go_ret
  exact ⟨rfl, rfl⟩
theorem format_0 (w : World) : Calls Tryz.prog 114 #[.int .i64 0, .int .i64 10] w fun e w' => e = .returned (.string ⟨#[48]⟩) ∧ w = w' := by
  go_enter Tryz.func114, Tryz.ntmps114
  go_wp2_with (go_at_call 118; refine (small_0 _).mono ?_; rintro e w' ⟨rfl, rfl⟩)
  go_ret
  exact ⟨rfl, rfl⟩
theorem itoa_0 (w : World) : Calls Tryz.prog 108 #[.int .i64 0] w fun e w' => e = .returned (.string ⟨#[48]⟩) ∧ w = w' := by
  go_enter Tryz.func108, Tryz.ntmps108
  go_wp2_with (go_at_call 114; refine (format_0 _).mono ?_; rintro e w' ⟨rfl, rfl⟩)
  go_ret
  exact ⟨rfl, rfl⟩
theorem sitoa_0 (w : World) : Calls Tryz.prog 92 #[.int .i64 0] w fun e w' => e = .returned (.string ⟨#[48]⟩) ∧ w = w' := by
  go_enter Tryz.func92, Tryz.ntmps92
  go_wp2_with (go_at_call 108; refine (itoa_0 _).mono ?_; rintro e w' ⟨rfl, rfl⟩)
  go_ret
  exact ⟨rfl, rfl⟩
theorem number_0 (w : World) : Calls Tryz.prog 91 #[.int .i64 0] w fun e w' => e = .returned (.string ⟨#[48]⟩) ∧ w' = w := by
  go_enter Tryz.func91, Tryz.ntmps91
  go_wp2_with (go_at_call 92; refine (sitoa_0 _).mono ?_; rintro e w' ⟨rfl, rfl⟩)
  go_ret
  exact ⟨rfl, rfl⟩
theorem small_2 (w : World) : Calls Tryz.prog 118 #[.int .i64 2] w fun e w' => e = .returned (.string ⟨#[50]⟩) ∧ w = w' := by
  go_enter Tryz.func118, Tryz.ntmps118
  go_wp2
  go_ret
  exact ⟨rfl, rfl⟩
theorem format_2 (w : World) : Calls Tryz.prog 114 #[.int .i64 2, .int .i64 10] w fun e w' => e = .returned (.string ⟨#[50]⟩) ∧ w = w' := by
  go_enter Tryz.func114, Tryz.ntmps114
  go_wp2_with (go_at_call 118; refine (small_2 _).mono ?_; rintro e w' ⟨rfl, rfl⟩)
  go_ret
  exact ⟨rfl, rfl⟩
theorem itoa_2 (w : World) : Calls Tryz.prog 108 #[.int .i64 2] w fun e w' => e = .returned (.string ⟨#[50]⟩) ∧ w = w' := by
  go_enter Tryz.func108, Tryz.ntmps108
  go_wp2_with (go_at_call 114; refine (format_2 _).mono ?_; rintro e w' ⟨rfl, rfl⟩)
  go_ret
  exact ⟨rfl, rfl⟩
theorem sitoa_2 (w : World) : Calls Tryz.prog 92 #[.int .i64 2] w fun e w' => e = .returned (.string ⟨#[50]⟩) ∧ w = w' := by
  go_enter Tryz.func92, Tryz.ntmps92
  go_wp2_with (go_at_call 108; refine (itoa_2 _).mono ?_; rintro e w' ⟨rfl, rfl⟩)
  go_ret
  exact ⟨rfl, rfl⟩
theorem number_2 (w : World) : Calls Tryz.prog 91 #[.int .i64 2] w fun e w' => e = .returned (.string ⟨#[50]⟩) ∧ w' = w := by
  go_enter Tryz.func91, Tryz.ntmps91
  go_wp2_with (go_at_call 92; refine (sitoa_2 _).mono ?_; rintro e w' ⟨rfl, rfl⟩)
  go_ret
  exact ⟨rfl, rfl⟩
end Go.Proofs.YtpnbhoeghncnnaaGreatDoor

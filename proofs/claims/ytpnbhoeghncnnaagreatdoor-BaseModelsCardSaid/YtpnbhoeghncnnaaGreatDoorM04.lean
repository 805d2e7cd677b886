/-
  A part of the proof of Rows.BaseModelsCardSaid (for every class and script BaseModels answers true, and its arguments read as they did; the listed library variables as the program text lays them): texts G. By an AI agent.
-/
import Derived.Test.YtpnbhoeghncnnaaGreatDoorM02
import Derived.Test.YtpnbhoeghncnnaaGreatDoorM03
namespace Go.Proofs.YtpnbhoeghncnnaaGreatDoor
open Go.RowKit
theorem Fr.setCells (F : Nat → Prop) (g : Nat) (h : F g) : ∀ (vs : List Value) (o : Nat) (w : World), Fr F w (w.setCells g o vs)
  | [], _, w => Fr.refl F w
  | v :: r, o, w => (Fr.setCell F w ⟨g, o, none⟩ v h).trans (Fr.setCells F g h r (o + 1) _) (fun _ _ h => h)
theorem heap_setCells (g : Nat) (t : TypeId) (fr : Nat × Nat) : ∀ (vs : List Value) (o : Nat) (w : World) (cs : Array Value), w.heap[g]? = some (.cells cs t fr) → o + vs.length ≤ cs.size →
    ∃ cs', (w.setCells g o vs).heap[g]? = some (.cells cs' t fr) ∧ cs'.size = cs.size ∧ ∀ k, cs'[k]? = if o ≤ k ∧ k < o + vs.length then vs[k - o]? else cs[k]?
  | [], o, w, cs, h, _ => ⟨cs, h, rfl, fun k => by rw [if_neg (by simp only [List.length_nil]; omega)]⟩
  | v :: r, o, w, cs, h, hs => by
    have h1 := heap_setCell h o v
    simp only [List.length_cons] at hs
    obtain ⟨cs', h2, h3, h4⟩ := heap_setCells g t fr r (o + 1) (w.setCell ⟨g, o, none⟩ v) _ h1 (by simp; omega)
    refine ⟨cs', h2, by rw [h3]; simp, fun k => ?_⟩
    rw [h4 k]
    simp only [List.length_cons]
    by_cases hk : k = o
    · subst hk
      rw [if_neg (by omega), if_pos (by omega), Nat.sub_self, Array.getElem?_setIfInBounds_self]
      rw [if_pos (by omega)]; rfl
    · by_cases hk2 : o + 1 ≤ k ∧ k < o + 1 + r.length
      · rw [if_pos hk2, if_pos (by omega), show k - o = (k - (o + 1)) + 1 by omega, List.getElem?_cons_succ]
      · rw [if_neg hk2, if_neg (by omega), Array.getElem?_setIfInBounds_ne (by omega)]

def insAt (i : Nat) (x : Int) (xs : List Int) : List Int := xs.take i ++ x :: xs.drop i
theorem insAt_len (i : Nat) (x : Int) (xs : List Int) (h : i ≤ xs.length) : (insAt i x xs).length = xs.length + 1 := by
  simp [insAt]; omega
theorem insAt_get (i : Nat) (x : Int) (xs : List Int) (h : i ≤ xs.length) (j : Nat) : (insAt i x xs)[j]? = if j < i then xs[j]? else if j = i then some x else xs[j - 1]? := by
  unfold insAt
  by_cases h1 : j < i
  · rw [if_pos h1, List.getElem?_append_left (by simp; omega), List.getElem?_take_of_lt h1]
  · rw [if_neg h1, List.getElem?_append_right (by simp; omega), List.length_take, Nat.min_eq_left h]
    by_cases h2 : j = i
    · rw [if_pos h2, h2, Nat.sub_self]; rfl
    · rw [if_neg h2, show j - i = (j - i - 1) + 1 by omega, List.getElem?_cons_succ, List.getElem?_drop, show i + (j - i - 1) = j - 1 by omega]
abbrev vals (xs : List Int) : List Value := xs.map (Value.int .i64)
theorem vals_one (xs : List Int) : ∀ v ∈ vals xs, v.oneCell' = true := by
  intro u hu; obtain ⟨x, _, rfl⟩ := List.mem_map.1 hu; rfl
theorem vals_cell {w : World} {g o : Nat} {cs : Array Value} {t : TypeId} {fr : Nat × Nat} (h : w.heap[g]? = some (.cells cs t fr)) {xs : List Int} (hx : ∀ i x, xs[i]? = some x → cs[o + i]? = some (.int .i64 x)) :
    ∀ j v, (vals xs)[j]? = some v → w.cell? ⟨g, o + j, none⟩ = some v := by
  intro j v hv
  rw [List.getElem?_map] at hv
  cases hxj : xs[j]? with
  | none => rw [hxj] at hv; cases hv
  | some x => rw [hxj] at hv; cases hv; rw [heap_cell h]; exact hx j x hxj
theorem zc_size (n : Nat) : (Builtin.zeroCells (Value.int .i64 0).cells n).size = n := by
  rw [size_zeroCells]; exact Nat.mul_one n
theorem row_new (w : World) (ys : List Int) (cap : Nat) (h : ys.length ≤ cap) (h2 : cap ≤ 9223372036854775807) :
    Lst (w.drew.alloc (.cells ((vals ys).toArray ++ Builtin.zeroCells (Value.int .i64 0).cells (cap - ys.length)) 3)) (.slice (some ⟨w.heap.size, 0, none⟩) ys.length cap) (some w.heap.size) ys := by
  refine .inr ⟨w.heap.size, 0, cap, _, rfl, rfl, heap_alloc_new w.drew _, ?_, h, ?_, ?_⟩
  · rw [Array.size_append, zc_size]; simp; omega
  · rw [Array.size_append, zc_size]; simp; omega
  · intro j x hx
    have hj : j < ys.length := by
      rcases Nat.lt_or_ge j ys.length with h' | h'
      · exact h'
      · rw [List.getElem?_eq_none h'] at hx; cases hx
    rw [Nat.zero_add, Array.getElem?_append_left (by simpa using hj), List.getElem?_toArray, List.getElem?_map, hx]
    rfl
theorem vals_get (xs : List Int) (j : Nat) : (vals xs)[j]? = (xs[j]?).map (Value.int .i64) := List.getElem?_map
theorem lt_of_get {xs : List Int} {j : Nat} {x : Int} (h : xs[j]? = some x) : j < xs.length := by
  rcases Nat.lt_or_ge j xs.length with h' | h'
  · exact h'
  · rw [List.getElem?_eq_none h'] at h; cases h
theorem get_of_lt (xs : List Int) {j : Nat} (h : j < xs.length) : ∃ x, xs[j]? = some x := ⟨_, List.getElem?_eq_getElem h⟩
/-- A row into which x has been laid at i, and xs from i on behind it. -/
theorem laid_in {w' : World} {g o cap n i : Nat} {cs' : Array Value} {xs : List Int} {x : Int} (hn : xs.length = n) (hi : i ≤ n) (hg : w'.heap[g]? = some (.cells cs' 3 (0, 0))) (h1 : o + cap ≤ cs'.size) (h2 : n + 1 ≤ cap) (h3 : cs'.size ≤ 9223372036854775807)
    (ha : ∀ j y, j < i → xs[j]? = some y → cs'[o + j]? = some (.int .i64 y)) (hb : cs'[o + i]? = some (.int .i64 x)) (hc : ∀ j y, i ≤ j → xs[j]? = some y → cs'[o + (j + 1)]? = some (.int .i64 y)) :
    Lst w' (.slice (some ⟨g, o, none⟩) (n + 1) cap) (some g) (insAt i x xs) := by
  refine .inr ⟨g, o, cap, cs', by rw [insAt_len i x xs (by omega), hn], rfl, hg, h1, by rw [insAt_len i x xs (by omega), hn]; exact h2, h3, ?_⟩
  intro j y hy
  rw [insAt_get i x xs (by omega)] at hy
  by_cases c1 : j < i
  · rw [if_pos c1] at hy; exact ha j y c1 hy
  · rw [if_neg c1] at hy
    by_cases c2 : j = i
    · rw [if_pos c2] at hy; cases hy; rw [c2]; exact hb
    · rw [if_neg c2] at hy
      have := hc (j - 1) y (by omega) hy
      rwa [show j - 1 + 1 = j by omega] at this
theorem grow_out (w : World) (xs : List Int) (i : Nat) (x : Int) (hi : i < xs.length) (G : Nat) (hge : xs.length + 1 ≤ G) (hle : G ≤ 9223372036854775807) :
    Lst ((((w.alloc (.cells (((vals xs).take i).toArray ++ Builtin.zeroCells (Value.int .i64 0).cells (xs.length + 1 - i) ++ Builtin.zeroCells (Value.int .i64 0).cells (G - (xs.length + 1))) 3)).drew.setCells w.heap.size i (vals [x])).drew).setCells w.heap.size (i + 1) ((vals xs).drop i))
      (.slice (some ⟨w.heap.size, 0, none⟩) (xs.length + 1) G) (some w.heap.size) (insAt i x xs) ∧
    Fr (fun _ => False) w ((((w.alloc (.cells (((vals xs).take i).toArray ++ Builtin.zeroCells (Value.int .i64 0).cells (xs.length + 1 - i) ++ Builtin.zeroCells (Value.int .i64 0).cells (G - (xs.length + 1))) 3)).drew.setCells w.heap.size i (vals [x])).drew).setCells w.heap.size (i + 1) ((vals xs).drop i)) := by
  obtain ⟨row, hrow⟩ : ∃ row, row = ((vals xs).take i).toArray ++ Builtin.zeroCells (Value.int .i64 0).cells (xs.length + 1 - i) ++ Builtin.zeroCells (Value.int .i64 0).cells (G - (xs.length + 1)) := ⟨_, rfl⟩
  have hsz : row.size = G := by rw [hrow, Array.size_append, Array.size_append, zc_size, zc_size]; simp; omega
  have hlo : ∀ j, j < i → row[j]? = (vals xs)[j]? := fun j hj => by
    rw [hrow, Array.append_assoc, Array.getElem?_append_left (by simp; omega), List.getElem?_toArray, List.getElem?_take_of_lt hj]
  rw [← hrow]
  obtain ⟨c1, k1, k2, k3⟩ := heap_setCells w.heap.size 3 (0, 0) (vals [x]) i ((w.alloc (.cells row 3)).drew) row (heap_alloc_new w _) (by rw [hsz]; simp; omega)
  obtain ⟨c2, k4, k5, k6⟩ := heap_setCells w.heap.size 3 (0, 0) ((vals xs).drop i) (i + 1) (((w.alloc (.cells row 3)).drew.setCells w.heap.size i (vals [x])).drew) c1 k1 (by rw [k2, hsz]; simp; omega)
  refine ⟨laid_in (cap := G) rfl (by omega) k4 (by omega) hge (by omega) ?_ ?_ ?_, ?_⟩
  · intro j y hj hy
    rw [Nat.zero_add, k6, if_neg (by omega), k3, if_neg (by omega), hlo j hj, vals_get, hy]
    rfl
  · rw [Nat.zero_add, k6, if_neg (by omega), k3, if_pos (by simp), Nat.sub_self]; rfl
  · intro j y hj hy
    have := lt_of_get hy
    rw [Nat.zero_add, k6, if_pos (by simp; omega), List.getElem?_drop, vals_get, show i + (j + 1 - (i + 1)) = j by omega, hy]
    rfl
  · have a1 := (Fr.alloc (fun _ => False) w (.cells row 3)).trans (Fr.drew _ _) (fun _ _ h => h)
    have a2 := a1.trans (Fr.setCells (fun k => k = w.heap.size) w.heap.size rfl (vals [x]) i _) (fun k hk h => by omega)
    have a3 := a2.trans (Fr.drew (fun _ => False) _) (fun _ _ h => h)
    exact a3.trans (Fr.setCells (fun k => k = w.heap.size) w.heap.size rfl ((vals xs).drop i) (i + 1) _) (fun k hk h => by omega)
theorem insert_call (w : World) (lv : Value) (own : Option Nat) (xs : List Int) (h : Lst w lv own xs) (i : Nat) (hi : i ≤ xs.length) (x : Int) (vb : Nat) (hv : w.heap[vb]? = some (.cells #[.int .i64 x] 3 (0, 0))) (hne : own ≠ some vb) (hn : xs.length ≤ 1000) :
    Calls Tryz.prog 98 #[lv, .int .i64 i, .slice (some ⟨vb, 0, none⟩) 1 1] w fun e w' => ∃ v' own', e = .returned v' ∧ Lst w' v' own' (insAt i x xs) ∧ New w own own' ∧ Fr (fun k => own = some k) w w' := by
  have hvs : ∀ j v, (vals [x])[j]? = some v → w.cell? ⟨vb, 0 + j, none⟩ = some v := vals_cell (o := 0) (xs := [x]) hv (by intro i y hy; rw [Nat.zero_add]; match i, hy with | 0, hy => cases hy; rfl)
  have hin : ∀ n, insAt n x xs = xs ++ [x] ∨ n < xs.length := fun n => by
    rcases Nat.lt_or_ge n xs.length with h' | h'
    · exact .inr h'
    · left; unfold insAt; rw [List.take_of_length_le h', List.drop_eq_nil_of_le h']
  have new := fun (q : World) (hq : q.heap.size = w.heap.size) (g : Nat) (hg : g = q.heap.size) => (show New w own (some g) from .inr (.inr ⟨g, rfl, by omega⟩))
  rcases h with ⟨rfl, rfl, rfl⟩ | ⟨g, o, cap, cs, rfl, rfl, hg, hcap, hlen, hmax, hcs⟩
  · obtain rfl : i = 0 := by simpa using hi
    refine (Any2.slices_Insert_int_end_grow Tryz.laysNm221 none 0 0 vb 0 1 1 [] (vals [x]) w (by omega) (by omega) (by omega) (by omega) rfl rfl (fun _ => rfl) (fun a h => nomatch h) hvs (vals_one _)).mono ?_
    rintro e w' ⟨rfl, rfl⟩
    have hge := grownCap_ge w (0 + 1) 0 3
    have hle := grownCap_le_maxLen w (0 + 1) 0 3 (by simp [maxLen])
    refine ⟨_, _, rfl, row_new w [x] (grownCap w (0 + 1) 0 3) (by simpa using hge) (by simpa [maxLen] using hle), new w rfl _ rfl, (Fr.drew _ w).trans (Fr.alloc (fun k => none = some k) _ _) (fun _ _ h => h)⟩
  · have hcells : ∀ j v, (vals xs)[j]? = some v → w.cell? ⟨g, o + j, none⟩ = some v := vals_cell hg hcs
    have hsome : ∀ j, j < cap → (w.cell? ⟨g, o + j, none⟩).isSome = true := fun j hj => by rw [heap_cell hg]; rw [Array.getElem?_eq_getElem (by omega)]; rfl
    have hfz : ∀ j, w.frozen? ⟨g, j, none⟩ = false := fun j => heap_frozen hg j
    have hvg : vb ≠ g := fun e => hne (by rw [e])
    by_cases hroom : xs.length + 1 ≤ cap
    · by_cases hend : i < xs.length
      · -- the shift
        refine (Any2.slices_Insert_int_shift Tryz.laysNm221 g o xs.length cap i vb 0 1 1 (vals xs) (vals [x]) w hend (by omega) hroom (by omega) hvg (by simp) rfl hcells (fun j hj => hsome j (by omega)) (fun j _ => hfz _) hvs (vals_one _) (vals_one _) 3 3 1 cs.size (heap_shape hv) (heap_shape hg) (by omega) (heap_frozen hv 0) (heap_frozen hv 1)).mono ?_
        rintro e w' ⟨rfl, rfl⟩
        obtain ⟨c1, k1, k2, k3⟩ := heap_setCells g 3 (0, 0) ((vals xs).drop i) (o + (i + 1)) w.drew cs hg (by simp; omega)
        obtain ⟨c2, k4, k5, k6⟩ := heap_setCells g 3 (0, 0) (vals [x]) (o + i) _ c1 k1 (by simp; omega)
        refine ⟨_, some g, rfl, laid_in rfl hi k4 (by omega) hroom (by omega) ?_ ?_ ?_, .inl rfl, ?_⟩
        · intro j y hj hy
          rw [k6, if_neg (by simp; omega), k3, if_neg (by simp; omega)]
          exact hcs j y hy
        · rw [k6, if_pos (by simp), Nat.sub_self]; rfl
        · intro j y hj hy
          have := lt_of_get hy
          rw [k6, if_neg (by simp; omega), k3, if_pos (by simp; omega), List.getElem?_drop, vals_get, show i + (o + (j + 1) - (o + (i + 1))) = j by omega, hy]
          rfl
        · exact ((Fr.drew _ w).trans (Fr.setCells (fun k => some g = some k) g rfl _ _ _) (fun _ _ h => h)).trans (Fr.setCells (fun k => some g = some k) g rfl _ _ _) (fun _ _ h => h)
      · -- at the end, with room
        obtain rfl : i = xs.length := by omega
        refine (Any2.slices_Insert_int_end_room Tryz.laysNm221 g o xs.length cap vb 0 1 1 (vals [x]) w (by omega) hroom (by omega) rfl (fun j hj => by rw [Nat.add_assoc]; exact hsome _ (by omega)) (fun j _ => hfz _) hvs (vals_one _)).mono ?_
        rintro e w' ⟨rfl, rfl⟩
        obtain ⟨c2, k4, k5, k6⟩ := heap_setCells g 3 (0, 0) (vals [x]) (o + xs.length) w cs hg (by simp; omega)
        refine ⟨_, some g, rfl, laid_in rfl hi k4 (by omega) hroom (by omega) ?_ ?_ ?_, .inl rfl, Fr.setCells (fun k => some g = some k) g rfl _ _ _⟩
        · intro j y hj hy
          rw [k6, if_neg (by simp; omega)]
          exact hcs j y hy
        · rw [k6, if_pos (by simp), Nat.sub_self]; rfl
        · intro j y hj hy
          have := lt_of_get hy
          omega
    · have hge := grownCap_ge w (xs.length + 1) cap 3
      have hle := grownCap_le_maxLen w (xs.length + 1) cap 3 (by simp [maxLen]; omega)
      rw [show maxLen = 9223372036854775807 from rfl] at hle
      by_cases hend : i < xs.length
      · refine (Any2.slices_Insert_int_grow Tryz.laysNm221 g o xs.length cap i vb 0 1 1 (vals xs) (vals [x]) w hend (by omega) hlen (by omega) (by omega) (by simp) rfl hcells hvs (vals_one _) (vals_one _)).mono ?_
        rintro e w' ⟨rfl, rfl⟩
        have G := grow_out w xs i x hend (grownCap w (xs.length + 1) cap 3) hge hle
        exact ⟨_, some w.heap.size, rfl, G.1, new w rfl _ rfl, G.2.mono (fun _ h => h.elim)⟩
      · obtain rfl : i = xs.length := by omega
        refine (Any2.slices_Insert_int_end_grow Tryz.laysNm221 (some ⟨g, o, none⟩) xs.length cap vb 0 1 1 (vals xs) (vals [x]) w (by omega) hlen (by omega) (by omega) (by simp) rfl (fun h => nomatch h) (fun a ha j v hv => by cases ha; rw [Addr.add_lit]; exact hcells j v hv) hvs (vals_one _)).mono ?_
        rintro e w' ⟨rfl, rfl⟩
        have R := row_new w (xs ++ [x]) (grownCap w (xs.length + 1) cap 3) (by simpa using hge) hle
        rw [List.length_append, List.length_singleton, show vals (xs ++ [x]) = vals xs ++ vals [x] from List.map_append] at R
        rw [(hin xs.length).resolve_right (by omega)]
        exact ⟨_, _, rfl, R, new w rfl _ rfl, (Fr.drew _ w).trans (Fr.alloc (fun k => some g = some k) _ _) (fun _ _ h => h)⟩
end Go.Proofs.YtpnbhoeghncnnaaGreatDoor

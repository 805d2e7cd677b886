/-
  A part of the proof of Rows.BaseModelsCardSaid (for every class and script BaseModels answers true, and its arguments read as they did; the listed library variables as the program text lays them): texts H, I, J, K, L, M, N, O. By an AI agent.
-/
import Derived.Test.YtpnbhoeghncnnaaGreatDoorM04
import Derived.Test.YtpnbhoeghncnnaaGreatDoorM05
import Derived.Deep.RegionWith
import Derived.RegionTactic
namespace Go.Proofs.YtpnbhoeghncnnaaGreatDoor
open Go.RowKit
def delAt (i : Nat) (xs : List Int) : List Int := xs.take i ++ xs.drop (i + 1)
theorem getD_cells {w : World} {g o : Nat} {cs : Array Value} {t : TypeId} {fr : Nat × Nat} (h : w.heap[g]? = some (.cells cs t fr)) {xs : List Int} (hx : ∀ i x, xs[i]? = some x → cs[o + i]? = some (.int .i64 x)) :
    ∀ j, j < xs.length → w.cell? ⟨g, o + j, none⟩ = some (.int .i64 (xs.getD j 0)) := fun j hj => by
  obtain ⟨y, hy⟩ := get_of_lt xs hj
  rw [heap_cell h, hx j y hy, List.getD_eq_getElem?_getD, hy]; rfl
theorem delete_call (w : World) (lv : Value) (own : Option Nat) (xs : List Int) (h : Lst w lv own xs) (i : Nat) (hi : i < xs.length) :
    Calls Tryz.prog 101 #[lv, .int .i64 i, .int .i64 (i + 1)] w fun e w' => ∃ v', e = .returned v' ∧ Lst w' v' own (delAt i xs) ∧ Fr (fun k => own = some k) w w' := by
  rcases h with ⟨rfl, rfl, rfl⟩ | ⟨g, o, cap, cs, rfl, rfl, hg, hcap, hlen, hmax, hcs⟩
  · exact absurd hi (by simp)
  · have K := Any.slices_Delete_int_cells Tryz.laysNm223 g o xs.length cap i (i + 1) xs w (Nat.le_refl _) hlen (by omega) (by omega) (by omega) (getD_cells hg hcs) (fun j _ => heap_frozen hg _)
    refine Calls.mono K ?_
    rintro e w' ⟨rfl, q, rfl⟩
    have hl : ((xs.take xs.length).take i ++ (xs.take xs.length).drop (i + 1) ++ List.replicate (i + 1 - i) 0).length = xs.length := by simp; omega
    obtain ⟨c1, k1, k2, k3⟩ := heap_setCells g 3 (0, 0) (((xs.take xs.length).take i ++ (xs.take xs.length).drop (i + 1) ++ List.replicate (i + 1 - i) 0).map (Value.int .i64)) o (w.drewN q) cs hg (by rw [List.length_map, hl]; omega)
    have hd : (delAt i xs).length = xs.length - (i + 1 - i) := by simp [delAt]; omega
    refine ⟨_, rfl, .inr ⟨g, o, cap, c1, by rw [hd], rfl, k1, by omega, by omega, by omega, ?_⟩, (Fr.drewN _ w q).trans (Fr.setCells (fun k => some g = some k) g rfl _ _ _) (fun _ _ h => h)⟩
    intro j x hx
    have hj := lt_of_get hx
    rw [k3, if_pos (by rw [List.length_map, hl]; omega), show o + j - o = j by omega, List.getElem?_map, List.take_length, List.getElem?_append_left (by exact hj)]
    rw [show List.take i xs ++ List.drop (i + 1) xs = delAt i xs from rfl, hx]; rfl
theorem reverse_call (w : World) (lv : Value) (own : Option Nat) (xs : List Int) (h : Lst w lv own xs) :
    Calls Tryz.prog 99 #[lv] w fun e w' => e = .returned (.tuple #[]) ∧ Lst w' lv own xs.reverse ∧ Fr (fun k => own = some k) w w' := by
  rcases h with ⟨rfl, rfl, rfl⟩ | ⟨g, o, cap, cs, rfl, rfl, hg, hcap, hlen, hmax, hcs⟩
  · refine Calls.mono (Any.slices_Reverse_int_empty Tryz.lays112 none 0 w) ?_
    rintro e w' ⟨rfl, rfl⟩
    exact ⟨rfl, Lst.nil _, Fr.refl _ _⟩
  · have K := Any.slices_Reverse_int_cells Tryz.lays112 g o xs.length cap xs w (Nat.le_refl _) (by omega) (getD_cells hg hcs) (fun j _ => heap_frozen hg _)
    refine Calls.mono K ?_
    rintro e w' ⟨rfl, q, rfl⟩
    rw [List.take_length]
    obtain ⟨c1, k1, k2, k3⟩ := heap_setCells g 3 (0, 0) (xs.reverse.map (Value.int .i64)) o (w.drewN q) cs hg (by simp; omega)
    refine ⟨rfl, .inr ⟨g, o, cap, c1, by rw [List.length_reverse], rfl, k1, by omega, by simp; omega, by omega, ?_⟩, (Fr.drewN _ w q).trans (Fr.setCells (fun k => some g = some k) g rfl _ _ _) (fun _ _ h => h)⟩
    intro j x hx
    have hj := lt_of_get hx
    rw [k3, if_pos (by rw [List.length_map]; omega), Nat.add_sub_cancel_left, List.getElem?_map, hx]; rfl

def ixI (p : Int → Bool) (xs : List Int) : Int := match xs.findIdx? p with | some i => (i : Int) | none => -1
theorem ixI_at {p : Int → Bool} {xs : List Int} {k : Nat} {y : Int} (hy : xs[k]? = some y) (hp : p y = true) (hb : ∀ j z, j < k → xs[j]? = some z → p z = false) : ixI p xs = k := by
  have hk := lt_of_get hy
  have : xs.findIdx? p = some k := by
    rw [List.findIdx?_eq_some_iff_getElem]
    refine ⟨hk, by rw [List.getElem?_eq_getElem hk] at hy; cases hy; exact hp, fun j hj => ?_⟩
    rw [hb j _ hj (List.getElem?_eq_getElem (by omega))]; decide
  rw [ixI, this]
theorem ixI_no {p : Int → Bool} {xs : List Int} (hb : ∀ j z, j < xs.length → xs[j]? = some z → p z = false) : ixI p xs = -1 := by
  have : xs.findIdx? p = none := by
    rw [List.findIdx?_eq_none_iff]
    intro x hx
    obtain ⟨j, hj, rfl⟩ := List.mem_iff_getElem.1 hx
    exact hb j _ hj (List.getElem?_eq_getElem hj)
  rw [ixI, this]
theorem index_nil (x : Int) (w : World) :
    Calls Tryz.prog 100 #[.slice none 0 0, .int .i64 x] w fun e w' => e = .returned (.int .i64 (-1)) ∧ w = w' := by
  go_enter Tryz.func100, Tryz.ntmps100
  go_wp2
  go_loop [8] (fun a => a = .int .i64 0) (fun _ => 0)
  case atStart => rfl
  case round =>
    obtain rfl := hrel
    go_wp2
    go_ret
    exact ⟨rfl, rfl⟩
set_option maxHeartbeats 400000 in
theorem index_row (g o cap : Nat) (xs : List Int) (x : Int) (w : World) (hn : xs.length ≤ 1000) (hc : ∀ j y, xs[j]? = some y → w.cell? ⟨g, o + j, none⟩ = some (.int .i64 y)) :
    Calls Tryz.prog 100 #[.slice (some ⟨g, o, none⟩) xs.length cap, .int .i64 x] w fun e w' => e = .returned (.int .i64 (ixI (fun y => x == y) xs)) ∧ w = w' := by
  have HC := Lib.hid hc
  have HN := Lib.hid hn
  clear hc hn
  go_enter Tryz.func100, Tryz.ntmps100
  go_wp2
  go_loop [8] (fun a => ∃ k : Nat, a = .int .i64 k ∧ k ≤ xs.length ∧ ∀ j z, j < k → xs[j]? = some z → (x == z) = false) (fun a => xs.length - (intOf a).toNat)
  case atStart => exact ⟨0, rfl, by omega, fun j z h => by omega⟩
  case round =>
    obtain ⟨k, rfl, hk, hb⟩ := hrel
    have HB := Lib.hid hb
    clear hb
    by_cases hlt : k < xs.length
    · obtain ⟨y, hy⟩ := get_of_lt xs hlt
      have hcell := HC.out k y hy
      have HY := Lib.hid hy
      clear hy
      by_cases hxy : x = y
      · subst hxy
        go_wp2
        go_ret
        exact ⟨by rw [ixI_at HY.out (by simp) HB.out]; rfl, rfl⟩
      · have h1 : (x == y) = false := by simpa using hxy
        have hl := HN.out
        go_wp2
        go_round
        case rel => exact ⟨k + 1, by go_num, by omega, fun j z hj hz => by
          rcases Nat.lt_or_ge j k with h | h
          · exact HB.out j z h hz
          · obtain rfl : j = k := by omega
            rw [HY.out] at hz; cases hz; exact h1⟩
        case measure => simp [intOf]; omega
    · obtain rfl : k = xs.length := by omega
      go_wp2
      go_ret
      exact ⟨by rw [ixI_no HB.out]; rfl, rfl⟩
theorem index_call (w : World) (lv : Value) (own : Option Nat) (xs : List Int) (h : Lst w lv own xs) (x : Int) (hn : xs.length ≤ 1000) :
    Calls Tryz.prog 100 #[lv, .int .i64 x] w fun e w' => e = .returned (.int .i64 (ixI (fun y => x == y) xs)) ∧ w = w' := by
  rcases h with ⟨rfl, rfl, rfl⟩ | ⟨g, o, cap, cs, rfl, rfl, hg, hcap, hlen, hmax, hcs⟩
  · exact index_nil x w
  · exact index_row g o cap xs x w hn (fun j y hy => by rw [heap_cell hg]; exact hcs j y hy)
end Go.Proofs.YtpnbhoeghncnnaaGreatDoor
namespace Go.Proofs.YtpnbhoeghncnnaaGreatDoor
open Go.RowKit
theorem insert1_any (y a : Int) (B : Nat) (w : World) (hB : w.cell? ⟨B, 0, none⟩ = some (.int .i64 a)) :
    Calls Tryz.prog 103 #[.int .i64 y, .pointer (some ⟨B, 0, none⟩)] w fun e w' => e = .returned (.bool (decide (a ≤ y))) ∧ w = w' := by
  go_enter Tryz.func103, Tryz.ntmps103
  go_wp2
  go_ret
  exact ⟨rfl, rfl⟩
theorem indexf_nil (B : Nat) (w : World) :
    Calls Tryz.prog 102 #[.slice none 0 0, .func (.func 103) #[] #[.pointer (some ⟨B, 0, none⟩)]] w fun e w' => e = .returned (.int .i64 (-1)) ∧ w = w' := by
  go_enter Tryz.func102, Tryz.ntmps102
  go_wp2
  go_loop [8] (fun a => a = .int .i64 0) (fun _ => 0)
  case atStart => rfl
  case round =>
    obtain rfl := hrel
    go_wp2
    go_ret
    exact ⟨rfl, rfl⟩
set_option maxHeartbeats 400000 in
theorem indexf_row (g o cap : Nat) (xs : List Int) (x : Int) (B : Nat) (w : World) (hn : xs.length ≤ 1000) (hB : w.cell? ⟨B, 0, none⟩ = some (.int .i64 x)) (hc : ∀ j y, xs[j]? = some y → w.cell? ⟨g, o + j, none⟩ = some (.int .i64 y)) :
    Calls Tryz.prog 102 #[.slice (some ⟨g, o, none⟩) xs.length cap, .func (.func 103) #[] #[.pointer (some ⟨B, 0, none⟩)]] w fun e w' => e = .returned (.int .i64 (ixI (fun y => decide (x ≤ y)) xs)) ∧ w = w' := by
  have HC := Lib.hid hc
  have HN := Lib.hid hn
  clear hc hn
  go_enter Tryz.func102, Tryz.ntmps102
  go_wp2
  go_loop [8] (fun a => ∃ k : Nat, a = .int .i64 k ∧ k ≤ xs.length ∧ ∀ j z, j < k → xs[j]? = some z → decide (x ≤ z) = false) (fun a => xs.length - (intOf a).toNat)
  case atStart => exact ⟨0, rfl, by omega, fun j z h => by omega⟩
  case round =>
    obtain ⟨k, rfl, hk, hb⟩ := hrel
    have HB := Lib.hid hb
    clear hb
    by_cases hlt : k < xs.length
    · obtain ⟨y, hy⟩ := get_of_lt xs hlt
      have hcell := HC.out k y hy
      have HY := Lib.hid hy
      clear hy
      by_cases hxy : x ≤ y
      · have hd : decide (x ≤ y) = true := by simpa using hxy
        go_wp2_with (go_at_call 103; refine (insert1_any _ x _ _ hB).mono ?_; rintro e w' ⟨rfl, rfl⟩)
        go_ret
        exact ⟨by rw [ixI_at HY.out hd HB.out]; rfl, rfl⟩
      · have hd : decide (x ≤ y) = false := by simpa using hxy
        have HD := Lib.hid hd
        have hl := HN.out
        go_wp2_with (go_at_call 103; refine (insert1_any _ x _ _ hB).mono ?_; rintro e w' ⟨rfl, rfl⟩)
        go_round
        case rel => exact ⟨k + 1, by go_num, by omega, fun j z hj hz => by
          rcases Nat.lt_or_ge j k with h | h
          · exact HB.out j z h hz
          · obtain rfl : j = k := by omega
            rw [HY.out] at hz; cases hz; exact HD.out⟩
        case measure => simp [intOf]; omega
    · obtain rfl : k = xs.length := by omega
      go_wp2
      go_ret
      exact ⟨by rw [ixI_no HB.out]; rfl, rfl⟩
theorem indexf_call (w : World) (lv : Value) (own : Option Nat) (xs : List Int) (h : Lst w lv own xs) (x : Int) (B : Nat) (hB : w.cell? ⟨B, 0, none⟩ = some (.int .i64 x)) (hn : xs.length ≤ 1000) :
    Calls Tryz.prog 102 #[lv, .func (.func 103) #[] #[.pointer (some ⟨B, 0, none⟩)]] w fun e w' => e = .returned (.int .i64 (ixI (fun y => decide (x ≤ y)) xs)) ∧ w = w' := by
  rcases h with ⟨rfl, rfl, rfl⟩ | ⟨g, o, cap, cs, rfl, rfl, hg, hcap, hlen, hmax, hcs⟩
  · exact indexf_nil B w
  · exact indexf_row g o cap xs x B w hn hB (fun j y hy => by rw [heap_cell hg]; exact hcs j y hy)
end Go.Proofs.YtpnbhoeghncnnaaGreatDoor
namespace Go.Proofs.YtpnbhoeghncnnaaGreatDoor
open Go.RowKit
theorem New.weak {w w0 : World} {own own' : Option Nat} (h : New w0 own own') (hs : w.heap.size ≤ w0.heap.size) : New w own own' := by
  rcases h with h | h | ⟨g, h, hg⟩
  · exact .inl h
  · exact .inr (.inl h)
  · exact .inr (.inr ⟨g, h, by omega⟩)
theorem New.same (w : World) (own : Option Nat) : New w own own := .inl rfl
theorem Lst.not_new {w : World} {v : Value} {own : Option Nat} {xs : List Int} (h : Lst w v own xs) : own ≠ some w.heap.size := fun e => by
  have := h.own_lt e; omega
theorem insAt_zero (x : Int) (xs : List Int) : insAt 0 x xs = x :: xs := rfl
theorem push_any (b kr dr : Nat) (lo hi : Int) (own : Option Nat) (xs : List Int) (x y : Int) (w : World) (h : LM w b kr dr lo hi own xs) (hn : xs.length ≤ 1000) :
    Calls Tryz.prog 37 #[.pointer (some ⟨b, 0, none⟩), .int .i64 x, .int .i64 y] w fun e w' => e = .returned (.tuple #[]) ∧ Did w b kr dr lo hi own (x :: xs) w' := by
  obtain ⟨lv, hm, hl, hb⟩ := h
  have h0 := hm.c0
  have hlt := heap_lt hm
  have HM := Lib.hid hm
  have HL := Lib.hid hl
  have HB := Lib.hid hb
  have HN := Lib.hid hn
  clear hm hl hb hn
  go_enter Tryz.func37, Tryz.ntmps37
  go_wp2_with (first
    | (go_at_call 98
       refine (insert_call _ lv own xs (HL.out.fr (Fr.alloc (fun _ => False) _ _) (fun _ _ h => h)) 0 (Nat.zero_le _) x w.heap.size (heap_alloc_new w _) HL.out.not_new HN.out).mono ?_
       rintro e w1 ⟨v', own', rfl, hl1, hnew, hf1⟩
       obtain ⟨s', c', rfl⟩ := hl1.form
       have HD := Lib.hid (Did.of_new HM.out HB.out ((Fr.alloc _ w _).trans hf1 (fun _ _ h => h)) (hnew.weak (by simp)) hl1)
       have c1 := HD.out.1.c0
       have z1 := HD.out.1.fz 0
       clear hl1 hf1 hnew))
  go_end0
  exact ⟨rfl, HD.out.2⟩
theorem wipe_any (b kr dr : Nat) (lo hi : Int) (own : Option Nat) (xs : List Int) (x y : Int) (w : World) (h : LM w b kr dr lo hi own xs) :
    Calls Tryz.prog 42 #[.pointer (some ⟨b, 0, none⟩), .int .i64 x, .int .i64 y] w fun e w' => e = .returned (.tuple #[]) ∧ Did w b kr dr lo hi own [] w' := by
  obtain ⟨lv, hm, hl, hb⟩ := h
  have h0 := hm.c0
  have hz := hm.fz 0
  have HD := Lib.hid (Did.of_new hm hb (Fr.refl _ w) (.inr (.inl rfl)) (Lst.nil w))
  clear hm hl hb
  go_enter Tryz.func42, Tryz.ntmps42
  go_wp2
  first | go_ret | go_end0
  exact ⟨rfl, HD.out.2⟩
theorem reverse_any (b kr dr : Nat) (lo hi : Int) (own : Option Nat) (xs : List Int) (x y : Int) (w : World) (h : LM w b kr dr lo hi own xs) :
    Calls Tryz.prog 39 #[.pointer (some ⟨b, 0, none⟩), .int .i64 x, .int .i64 y] w fun e w' => e = .returned (.tuple #[]) ∧ Did w b kr dr lo hi own xs.reverse w' := by
  obtain ⟨lv, hm, hl, hb⟩ := h
  have h0 := hm.c0
  have HM := Lib.hid hm
  have HL := Lib.hid hl
  have HB := Lib.hid hb
  clear hm hl hb
  go_enter Tryz.func39, Tryz.ntmps39
  go_wp2_with (first
    | (go_at_call 99
       refine (reverse_call _ lv own xs HL.out).mono ?_
       rintro e w1 ⟨rfl, hl1, hf1⟩
       have HD := Lib.hid (show Did w b kr dr lo hi own xs.reverse w1 from ⟨own, ⟨lv, hf1.heap HM.out HB.out, hl1, HB.out⟩, .inl rfl, hf1.mono (fun _ h => .inr h)⟩)
       clear hl1 hf1))
  go_end0
  exact ⟨rfl, HD.out⟩
def boolI (q : Bool) : Int := if q then 1 else 0
theorem boolI_true {p : Prop} [Decidable p] (h : p) : boolI (decide p) = 1 := by simp [boolI, h]
theorem boolI_false {p : Prop} [Decidable p] (h : ¬ p) : boolI (decide p) = 0 := by simp [boolI, h]
theorem has_any (b kr dr : Nat) (lo hi : Int) (own : Option Nat) (xs : List Int) (x y : Int) (w : World) (h : LM w b kr dr lo hi own xs) (hn : xs.length ≤ 1000) :
    Calls Tryz.prog 34 #[.pointer (some ⟨b, 0, none⟩), .int .i64 x, .int .i64 y] w fun e w' => e = .returned (.int .i64 (boolI (decide (0 ≤ ixI (fun y => x == y) xs)))) ∧ w = w' := by
  obtain ⟨lv, hm, hl, hb⟩ := h
  have h0 := hm.c0
  have HL := Lib.hid hl
  have HN := Lib.hid hn
  clear hm hl hb hn
  have hc : ∀ w1, w = w1 → Calls Tryz.prog 95 #[lv, .int .i64 x] w1 fun e w' => e = .returned (.bool (decide (0 ≤ ixI (fun y => x == y) xs))) ∧ w1 = w' := by
    rintro w1 rfl
    go_enter Tryz.func95, Tryz.ntmps95
    go_wp2_with (go_at_call 100; refine (index_call _ lv own xs HL.out x HN.out).mono ?_; rintro e w1 ⟨rfl, rfl⟩)
    go_ret
    exact ⟨rfl, rfl⟩
  generalize decide (0 ≤ ixI (fun y => x == y) xs) = q at hc ⊢
  have HC := Lib.hid hc
  clear hc
  cases q
  all_goals
   go_enter Tryz.func34, Tryz.ntmps34
   go_wp2_with (first
    | (go_at_call 95; refine (HC.out _ rfl).mono ?_; rintro e w1 ⟨rfl, rfl⟩)
    | (go_at_call 94; refine (truth_any _ _).mono ?_; rintro e w1 ⟨rfl, rfl⟩))
   go_ret
   exact ⟨rfl, rfl⟩
end Go.Proofs.YtpnbhoeghncnnaaGreatDoor
namespace Go.Proofs.YtpnbhoeghncnnaaGreatDoor
open Go.RowKit
def itemF (a : Int) (xs : List Int) : Res := if 1 ≤ a ∧ a ≤ xs.length then .val (xs.getD (a - 1).toNat 0) else .stop 1 0
set_option maxHeartbeats 400000 in
theorem item_any (b kr dr : Nat) (lo hi : Int) (own : Option Nat) (xs : List Int) (x y : Int) (w : World) (h : LM w b kr dr lo hi own xs) (hn : xs.length ≤ 1000) :
    Calls Tryz.prog 40 #[.pointer (some ⟨b, 0, none⟩), .int .i64 x, .int .i64 y] w fun e w' => e = (itemF x xs).ends ∧ w = w' := by
  obtain ⟨lv, hm, hl, hb⟩ := h
  have h0 := hm.c0
  have HL := Lib.hid hl
  have HN := Lib.hid hn
  clear hm hl hb hn
  by_cases h1 : 1 ≤ x
  · by_cases h2 : x ≤ xs.length
    · rcases HL.out with ⟨rfl, rfl, rfl⟩ | ⟨g, o, cap, cs, rfl, rfl, hg, hcap, hlen, hmax, hcs⟩
      · simp at h2; omega
      · obtain ⟨k, rfl⟩ : ∃ k : Nat, x = (k : Int) + 1 := ⟨(x - 1).toNat, by omega⟩
        have hk : k < xs.length := by omega
        obtain ⟨z, hz⟩ := get_of_lt xs hk
        have hc : w.cell? ⟨g, o + k, none⟩ = some (.int .i64 z) := by rw [heap_cell hg]; exact hcs k z hz
        have hr : itemF ((k : Int) + 1) xs = .val z := by
          rw [itemF, if_pos ⟨h1, h2⟩, show ((k : Int) + 1 - 1).toNat = k by omega, List.getD_eq_getElem?_getD, hz]; rfl
        have HR := Lib.hid hr
        have hl1 : (xs.length : Int) ≤ 1000 := by have := HN.out; omega
        have hkc : (k : Int) < (xs.length : Int) := by omega
        clear hr hg hcap hlen hmax hcs hz HL h1
        go_enter Tryz.func40, Tryz.ntmps40
        go_wp2_with (go_at_call 59; refine (must_true _ _).mono ?_; rintro e w' ⟨rfl, rfl⟩)
        go_ret
        exact ⟨by rw [HR.out]; rfl, rfl⟩
    · have hr : itemF x xs = .stop 1 0 := by rw [itemF, if_neg (by omega)]
      have HR := Lib.hid hr
      obtain ⟨s, c, rfl⟩ := HL.out.form
      have hd : decide (x ≤ (xs.length : Int)) = false := by simpa using h2
      clear hr h2
      go_enter Tryz.func40, Tryz.ntmps40
      go_wp2_with (go_at_call 59; refine (must_false _ _).mono ?_; rintro e w' ⟨rfl, rfl⟩)
      exact ⟨rfl, by rw [HR.out]; rfl, rfl⟩
  · have hr : itemF x xs = .stop 1 0 := by rw [itemF, if_neg (by omega)]
    have HR := Lib.hid hr
    have hd : decide (1 ≤ x) = false := by simpa using h1
    clear hr h1
    go_enter Tryz.func40, Tryz.ntmps40
    go_wp2_with (go_at_call 59; refine (must_false _ _).mono ?_; rintro e w' ⟨rfl, rfl⟩)
    exact ⟨rfl, by rw [HR.out]; rfl, rfl⟩

def rmF (x : Int) (xs : List Int) : List Int := if 0 ≤ ixI (fun y => x == y) xs then delAt (ixI (fun y => x == y) xs).toNat xs else xs
theorem ixI_lt {p : Int → Bool} {xs : List Int} (h : 0 ≤ ixI p xs) : (ixI p xs).toNat < xs.length := by
  unfold ixI at h ⊢
  cases hf : xs.findIdx? p with
  | none => rw [hf] at h; simp at h
  | some i =>
    have := (List.findIdx?_eq_some_iff_getElem.1 hf).1
    simpa using this
theorem ixI_le {p : Int → Bool} {xs : List Int} : ixI p xs < xs.length ∧ -1 ≤ ixI p xs := by
  by_cases h : 0 ≤ ixI p xs
  · have := ixI_lt h; omega
  · unfold ixI at h ⊢
    cases hf : xs.findIdx? p with
    | none => simp; omega
    | some i => rw [hf] at h; simp at h
theorem remove_any (b kr dr : Nat) (lo hi : Int) (own : Option Nat) (xs : List Int) (x y : Int) (w : World) (h : LM w b kr dr lo hi own xs) (hn : xs.length ≤ 1000) :
    Calls Tryz.prog 41 #[.pointer (some ⟨b, 0, none⟩), .int .i64 x, .int .i64 y] w fun e w' => e = .returned (.tuple #[]) ∧ Did w b kr dr lo hi own (rmF x xs) w' := by
  have h' := h
  obtain ⟨lv, hm, hl, hb⟩ := h
  have h0 := hm.c0
  have HM := Lib.hid hm
  have HL := Lib.hid hl
  have HB := Lib.hid hb
  have HN := Lib.hid hn
  have hi := index_call w lv own xs hl x hn
  clear hm hl hb hn
  have hr : rmF x xs = if 0 ≤ ixI (fun y => x == y) xs then delAt (ixI (fun y => x == y) xs).toNat xs else xs := rfl
  have hlt : 0 ≤ ixI (fun y => x == y) xs → (ixI (fun y => x == y) xs).toNat < xs.length := ixI_lt
  generalize ixI (fun y => x == y) xs = q at hi hr hlt
  have HI := Lib.hid hi
  by_cases hq : 0 ≤ q
  · obtain ⟨k, rfl⟩ := Int.eq_ofNat_of_zero_le hq
    have hk : k < xs.length := hlt hq
    have hk2 : (k : Int) < 1000 := by have := HN.out; omega
    rw [if_pos hq] at hr
    have HR := Lib.hid hr
    have HK := Lib.hid hk
    clear hr hlt hi hk h'
    go_enter Tryz.func41, Tryz.ntmps41
    go_wp2_with (first
      | (go_at_call 100; refine HI.out.mono ?_; rintro e w1 ⟨rfl, rfl⟩)
      | (go_at_call 101
         refine (delete_call _ lv own xs HL.out k HK.out).mono ?_
         rintro e w1 ⟨v', rfl, hl1, hf1⟩
         obtain ⟨s', c', rfl⟩ := hl1.form
         have HD := Lib.hid (Did.of_new HM.out HB.out hf1 (.inl rfl) hl1)
         have c1 := HD.out.1.c0
         have z1 := HD.out.1.fz 0
         clear hl1 hf1))
    go_end0
    exact ⟨rfl, by rw [HR.out]; exact HD.out.2⟩
  · rw [if_neg hq] at hr
    have HR := Lib.hid hr
    have H' := Lib.hid h'
    clear hr hlt hi h'
    go_enter Tryz.func41, Tryz.ntmps41
    go_wp2_with (go_at_call 100; refine HI.out.mono ?_; rintro e w1 ⟨rfl, rfl⟩)
    go_end0
    exact ⟨rfl, by rw [HR.out]; exact ⟨own, H'.out, .inl rfl, Fr.refl _ _⟩⟩
end Go.Proofs.YtpnbhoeghncnnaaGreatDoor
namespace Go.Proofs.YtpnbhoeghncnnaaGreatDoor
open Go.RowKit
def insF (x : Int) (xs : List Int) : List Int := insAt (if ixI (fun y => decide (x ≤ y)) xs < 0 then xs.length else (ixI (fun y => decide (x ≤ y)) xs).toNat) x xs
set_option maxHeartbeats 1000000 in
theorem insert_any (b kr dr : Nat) (lo hi : Int) (own : Option Nat) (xs : List Int) (x y : Int) (w : World) (h : LM w b kr dr lo hi own xs) (hn : xs.length ≤ 1000) :
    Calls Tryz.prog 43 #[.pointer (some ⟨b, 0, none⟩), .int .i64 x, .int .i64 y] w fun e w' => e = .returned (.tuple #[]) ∧ Did w b kr dr lo hi own (insF x xs) w' := by
  obtain ⟨lv, hm, hl, hb⟩ := h
  obtain ⟨s0, c0, rfl⟩ := hl.form
  have h0 := hm.c0
  have hlt := heap_lt hm
  have HM := Lib.hid hm
  have HL := Lib.hid hl
  have HB := Lib.hid hb
  have HN := Lib.hid hn
  have hl1 : (xs.length : Int) ≤ 1000 := by omega
  obtain ⟨BX, hBX⟩ : ∃ BX, BX = w.heap.size := ⟨_, rfl⟩
  have hi := indexf_call (w.alloc (.cells #[.int .i64 x] 3)) _ own xs (hl.fr (Fr.alloc (fun _ => False) _ _) (fun _ _ h => h)) x w.heap.size (by rw [heap_cell (heap_alloc_new w _)]; rfl) hn
  have hr : insF x xs = insAt (if ixI (fun y => decide (x ≤ y)) xs < 0 then xs.length else (ixI (fun y => decide (x ≤ y)) xs).toNat) x xs := rfl
  have hb1 : ixI (fun y => decide (x ≤ y)) xs < xs.length ∧ -1 ≤ ixI (fun y => decide (x ≤ y)) xs := ixI_le
  generalize ixI (fun y => decide (x ≤ y)) xs = q at hi hr hb1
  have HI := Lib.hid hi
  clear hm hl hb hn hi hBX
  by_cases hq : 0 ≤ q
  · obtain ⟨k, rfl⟩ := Int.eq_ofNat_of_zero_le hq
    rw [if_neg (by omega)] at hr
    have HR := Lib.hid hr
    have HK := Lib.hid hb1
    clear hr hb1
    go_enter Tryz.func43, Tryz.ntmps43
    go_wp2_with (first
      | (go_at_call 102; refine HI.out.mono ?_; rintro e w1 ⟨rfl, rfl⟩))
    have H1 : Mod (w.alloc (.cells #[.int .i64 x] 3)) b _ kr dr lo hi := (Fr.alloc (fun _ => False) w (.cells #[.int .i64 x] 3)).heap HM.out id
    have H2 : (w.alloc (.cells #[.int .i64 x] 3)).cell? ⟨w.heap.size, 0, none⟩ = some (.int .i64 x) := by rw [heap_cell (heap_alloc_new w _)]; rfl
    have H3 := HL.out.fr (Fr.alloc (fun _ => False) w (.cells #[.int .i64 x] 3)) (fun _ _ h => h)
    have H4 := Fr.alloc (fun _ => False) w (.cells #[.int .i64 x] 3)
    have hq2 := HK.out.1
    clear HI
    generalize w.alloc (.cells #[.int .i64 x] 3) = W0 at H1 H2 H3 H4 ⊢
    generalize w.heap.size = BX at H2 ⊢
    have h0 := H1.c0
    have hlt' := heap_lt H1
    have HM1 := Lib.hid H1
    have HL1 := Lib.hid H3
    have HF1 := Lib.hid H4
    clear H1 H3 H4 hlt
    go_region_with (first
      | (go_at_call 98
         refine (insert_call _ _ own xs (HL1.out.fr ((Fr.drew (fun _ => False) _).trans (Fr.alloc (fun _ => False) _ _) (fun _ _ h => h)) (fun _ _ h => h)) k (by omega) x W0.heap.size (heap_alloc_new W0.drew _) HL1.out.not_new HN.out).mono ?_
         rintro e w1 ⟨v', own', rfl, hl1, hnew, hf1⟩
         obtain ⟨s', c', rfl⟩ := hl1.form
         have HD := Lib.hid (Did.of_new HM.out HB.out ((HF1.out.weak.trans ((Fr.drew (fun _ => False) W0).trans (Fr.alloc (fun _ => False) _ (.cells #[.int .i64 x] 3)) (fun _ _ h => h)) (fun _ _ h => h.elim)).trans hf1 (fun _ _ h => h)) (hnew.weak (by have := HF1.out.size; simp; omega)) hl1)
         have c1 := HD.out.1.c0
         have z1 := HD.out.1.fz 0
         clear hl1 hf1 hnew))
    all_goals go_end0
    all_goals exact ⟨rfl, by rw [HR.out]; exact HD.out.2⟩
  · have hq' : q < 0 := by omega
    rw [if_pos hq'] at hr
    have HR := Lib.hid hr
    clear hr hb1 hq
    go_enter Tryz.func43, Tryz.ntmps43
    go_wp2_with (first
      | (go_at_call 102; refine HI.out.mono ?_; rintro e w1 ⟨rfl, rfl⟩))
    have H1 : Mod (w.alloc (.cells #[.int .i64 x] 3)) b _ kr dr lo hi := (Fr.alloc (fun _ => False) w (.cells #[.int .i64 x] 3)).heap HM.out id
    have H2 : (w.alloc (.cells #[.int .i64 x] 3)).cell? ⟨w.heap.size, 0, none⟩ = some (.int .i64 x) := by rw [heap_cell (heap_alloc_new w _)]; rfl
    have H3 := HL.out.fr (Fr.alloc (fun _ => False) w (.cells #[.int .i64 x] 3)) (fun _ _ h => h)
    have H4 := Fr.alloc (fun _ => False) w (.cells #[.int .i64 x] 3)
    clear HI
    generalize w.alloc (.cells #[.int .i64 x] 3) = W0 at H1 H2 H3 H4 ⊢
    generalize w.heap.size = BX at H2 ⊢
    have h0 := H1.c0
    have hlt' := heap_lt H1
    have HM1 := Lib.hid H1
    have HL1 := Lib.hid H3
    have HF1 := Lib.hid H4
    clear H1 H3 H4 hlt
    go_region_with (first
      | (go_at_call 98
         refine (insert_call _ _ own xs (HL1.out.fr ((Fr.drew (fun _ => False) _).trans (Fr.alloc (fun _ => False) _ _) (fun _ _ h => h)) (fun _ _ h => h)) xs.length (by omega) x W0.heap.size (heap_alloc_new W0.drew _) HL1.out.not_new HN.out).mono ?_
         rintro e w1 ⟨v', own', rfl, hl1, hnew, hf1⟩
         obtain ⟨s', c', rfl⟩ := hl1.form
         have HD := Lib.hid (Did.of_new HM.out HB.out ((HF1.out.weak.trans ((Fr.drew (fun _ => False) W0).trans (Fr.alloc (fun _ => False) _ (.cells #[.int .i64 x] 3)) (fun _ _ h => h)) (fun _ _ h => h.elim)).trans hf1 (fun _ _ h => h)) (hnew.weak (by have := HF1.out.size; simp; omega)) hl1)
         have c1 := HD.out.1.c0
         have z1 := HD.out.1.fz 0
         clear hl1 hf1 hnew))
    all_goals go_end0
    all_goals exact ⟨rfl, by rw [HR.out]; exact HD.out.2⟩
end Go.Proofs.YtpnbhoeghncnnaaGreatDoor
namespace Go.Proofs.YtpnbhoeghncnnaaGreatDoor
open Go.RowKit
theorem lay_yes (b kr dr : Nat) (lo hi : Int) (own : Option Nat) (xs : List Int) (x y : Int) (w : World) (h : LM w b kr dr lo hi own xs) (hn : xs.length ≤ 1000) (hx : 0 ≤ x) :
    Calls Tryz.prog 45 #[.pointer (some ⟨b, 0, none⟩), .int .i64 x, .int .i64 y] w fun e w' => e = .returned (.tuple #[]) ∧ Did w b kr dr lo hi own (x :: xs) w' := by
  have H := Lib.hid h
  have HN := Lib.hid hn
  clear h hn
  go_enter Tryz.func45, Tryz.ntmps45
  go_wp2_with (first
    | (go_at_call 59; refine (must_true _ _).mono ?_; rintro e w' ⟨rfl, rfl⟩)
    | (go_at_call 37; refine (push_any b kr dr lo hi own xs x _ _ H.out HN.out).mono ?_; rintro e w' ⟨rfl, hd⟩; have HD := Lib.hid hd; clear hd))
  go_end0
  exact ⟨rfl, HD.out⟩
theorem lay_no (b : Nat) (x y : Int) (w : World) (hx : x < 0) :
    Calls Tryz.prog 45 #[.pointer (some ⟨b, 0, none⟩), .int .i64 x, .int .i64 y] w fun e w' => e = (Res.stop 1 0).ends ∧ w = w' := by
  have hd : decide (0 ≤ x) = false := by simp; omega
  clear hx
  go_enter Tryz.func45, Tryz.ntmps45
  go_wp2_with (go_at_call 59; refine (must_false _ _).mono ?_; rintro e w' ⟨rfl, rfl⟩)
  exact ⟨rfl, rfl, rfl⟩
theorem leave_no (b kr dr : Nat) (lo hi : Int) (own : Option Nat) (x y : Int) (w : World) (h : LM w b kr dr lo hi own []) :
    Calls Tryz.prog 46 #[.pointer (some ⟨b, 0, none⟩), .int .i64 x, .int .i64 y] w fun e w' => e = (Res.stop 1 0).ends ∧ w = w' := by
  obtain ⟨lv, hm, hl, hb⟩ := h
  obtain ⟨s0, c0, rfl⟩ := hl.form
  have h0 := hm.c0
  clear hm hl hb
  go_enter Tryz.func46, Tryz.ntmps46
  go_wp2_with (go_at_call 59; refine (must_false _ _).mono ?_; rintro e w' ⟨rfl, rfl⟩)
  exact ⟨rfl, rfl, rfl⟩
theorem leave_yes (b kr dr : Nat) (lo hi : Int) (own : Option Nat) (z : Int) (xs : List Int) (x y : Int) (w : World) (h : LM w b kr dr lo hi own (z :: xs)) :
    Calls Tryz.prog 46 #[.pointer (some ⟨b, 0, none⟩), .int .i64 x, .int .i64 y] w fun e w' => e = .returned (.tuple #[]) ∧ Did w b kr dr lo hi own xs w' := by
  obtain ⟨lv, hm, hl, hb⟩ := h
  rcases hl with ⟨_, _, h⟩ | ⟨g, o, cap, cs, rfl, rfl, hg, hcap, hlen, hmax, hcs⟩
  · cases h
  have h0 := hm.c0
  have hz := hm.fz 0
  simp only [List.length_cons] at h0 hlen
  have hc1 : ((xs.length : Int) + 1) ≤ (cap : Int) := by omega
  have hc2 : (cap : Int) ≤ 9223372036854775807 := by omega
  by_cases hcap1 : cap = 1
  · obtain rfl : xs = [] := List.eq_nil_of_length_eq_zero (by omega)
    subst hcap1
    have hL : Lst w (.slice (some ⟨g, o, none⟩) 0 0) (some g) [] := .inr ⟨g, o, 0, cs, rfl, rfl, hg, by omega, by simp, hmax, fun i x hx => by simp at hx⟩
    have HD := Lib.hid (Did.of_new hm hb (Fr.refl _ w) (.inl rfl) hL)
    clear hm hg hcs hL hcap hmax hb
    simp only [List.length_nil, Nat.zero_add] at h0 hc1 hlen
    go_enter Tryz.func46, Tryz.ntmps46
    go_wp2_with (go_at_call 59; refine (must_true _ _).mono ?_; rintro e w' ⟨rfl, rfl⟩)
    go_end0
    exact ⟨rfl, HD.out.2⟩
  · have hL : Lst w (.slice (some ⟨g, o + 1, none⟩) xs.length (cap - 1)) (some g) xs := .inr ⟨g, o + 1, cap - 1, cs, rfl, rfl, hg, by omega, by omega, hmax, fun i x hx => by
      have := hcs (i + 1) x (by simpa using hx)
      rwa [show o + 1 + i = o + (i + 1) by omega]⟩
    have HD := Lib.hid (Did.of_new hm hb (Fr.refl _ w) (.inl rfl) hL)
    clear hm hg hcs hL hcap hmax hb
    go_enter Tryz.func46, Tryz.ntmps46
    go_wp2_with (go_at_call 59; refine (must_true _ _).mono ?_; rintro e w' ⟨rfl, rfl⟩)
    go_end0
    exact ⟨rfl, HD.out.2⟩
end Go.Proofs.YtpnbhoeghncnnaaGreatDoor
namespace Go.Proofs.YtpnbhoeghncnnaaGreatDoor
open Go.RowKit
def sumFrom : List Int → Int → Res
  | [], n => .val n
  | x :: r, n => if inNum (n + x) then sumFrom r (n + x) else .stop 7 0
def AllIn (xs : List Int) : Prop := ∀ x ∈ xs, inNum x = true
theorem AllIn.get {xs : List Int} (h : AllIn xs) {k : Nat} {x : Int} (hk : xs[k]? = some x) : inNum x = true := h x (List.mem_of_getElem? hk)
theorem drop_get {xs : List Int} {k : Nat} {x : Int} (h : xs[k]? = some x) : xs.drop k = x :: xs.drop (k + 1) := by
  have hk := lt_of_get h
  rw [List.drop_eq_getElem_cons hk]
  rw [List.getElem?_eq_getElem hk] at h
  cases h; rfl
theorem sum_nil (b c : Nat) (x y : Int) (w : World) (h0 : w.cell? ⟨b, 0, none⟩ = some (.slice none 0 c)) :
    Calls Tryz.prog 35 #[.pointer (some ⟨b, 0, none⟩), .int .i64 x, .int .i64 y] w fun e w' => e = .returned (.int .i64 0) ∧ w = w' := by
  go_enter Tryz.func35, Tryz.ntmps35
  go_wp2
  go_loop [7, 15] (fun p q => p = .int .i64 0 ∧ q = .int .i64 0) (fun _ _ => 0)
  case atStart => exact ⟨rfl, rfl⟩
  case round =>
    obtain ⟨rfl, rfl⟩ := hrel
    go_wp2
    go_ret
    exact ⟨rfl, rfl⟩
set_option maxHeartbeats 1000000 in
theorem sum_row (b g o cap : Nat) (xs : List Int) (x y : Int) (w : World) (h0 : w.cell? ⟨b, 0, none⟩ = some (.slice (some ⟨g, o, none⟩) xs.length cap)) (hn : xs.length ≤ 1000) (hc : ∀ j y, xs[j]? = some y → w.cell? ⟨g, o + j, none⟩ = some (.int .i64 y)) (ha : AllIn xs) :
    Calls Tryz.prog 35 #[.pointer (some ⟨b, 0, none⟩), .int .i64 x, .int .i64 y] w fun e w' => e = (sumFrom xs 0).ends ∧ w = w' := by
  have HC := Lib.hid hc
  have HN := Lib.hid hn
  have HA := Lib.hid ha
  clear hc hn ha
  go_enter Tryz.func35, Tryz.ntmps35
  go_wp2
  go_loop [7, 15] (fun p q => ∃ (n : Int) (k : Nat), p = .int .i64 n ∧ q = .int .i64 k ∧ k ≤ xs.length ∧ -1099511627776 ≤ n ∧ n ≤ 1099511627776 ∧ sumFrom (xs.drop k) n = sumFrom xs 0) (fun _ q => xs.length - (intOf q).toNat)
  case atStart => exact ⟨0, 0, rfl, rfl, by omega, by omega, by omega, rfl⟩
  case round =>
    obtain ⟨n, k, rfl, rfl, hk, hn0, hn1, hp⟩ := hrel
    have HP := Lib.hid hp
    clear hp
    by_cases hlt : k < xs.length
    · obtain ⟨z, hz⟩ := get_of_lt xs hlt
      have hcell := HC.out k z hz
      have hzi := inNum_true.1 (HA.out.get hz)
      have hl := HN.out
      cases hv : inNum (n + z) with
      | true =>
        have hs : sumFrom (xs.drop k) n = sumFrom (xs.drop (k + 1)) (n + z) := by rw [drop_get hz]; simp only [sumFrom]; rw [if_pos hv]
        have HS := Lib.hid hs
        have HV := Lib.hid hv
        have hx := inNum_true.1 hv
        clear hs hz hv
        go_wp2_with (go_at_call 96; refine (safe_in _ _ HV.out).mono ?_; rintro e w' ⟨rfl, rfl⟩)
        go_round
        case rel => exact ⟨n + z, k + 1, rfl, by go_num, by omega, hx.1, hx.2, by rw [← HS.out]; exact HP.out⟩
        case measure => simp [intOf]; omega
      | false =>
        have hs : sumFrom (xs.drop k) n = .stop 7 0 := by rw [drop_get hz]; simp only [sumFrom]; rw [if_neg (by rw [hv]; decide)]
        have HS := Lib.hid hs
        have HV := Lib.hid hv
        clear hs hz hv
        go_wp2_with (go_at_call 96; refine (safe_out _ _ HV.out).mono ?_; rintro e w' ⟨rfl, rfl⟩)
        exact ⟨rfl, by rw [← HP.out, HS.out]; rfl, rfl⟩
    · obtain rfl : k = xs.length := by omega
      go_wp2
      go_ret
      refine ⟨?_, rfl⟩
      rw [← HP.out, List.drop_length]; rfl
theorem sum_any (b kr dr : Nat) (lo hi : Int) (own : Option Nat) (xs : List Int) (x y : Int) (w : World) (h : LM w b kr dr lo hi own xs) (hn : xs.length ≤ 1000) (ha : AllIn xs) :
    Calls Tryz.prog 35 #[.pointer (some ⟨b, 0, none⟩), .int .i64 x, .int .i64 y] w fun e w' => e = (sumFrom xs 0).ends ∧ w = w' := by
  obtain ⟨lv, hm, hl, hb⟩ := h
  rcases hl with ⟨rfl, rfl, rfl⟩ | ⟨g, o, cap, cs, rfl, rfl, hg, hcap, hlen, hmax, hcs⟩
  · exact sum_nil b 0 x y w hm.c0
  · exact sum_row b g o cap xs x y w hm.c0 hn (fun j y hy => by rw [heap_cell hg]; exact hcs j y hy) ha
def joinF (x : Int) (xs : List Int) : List Int := if 0 ≤ ixI (fun y => x == y) xs then xs else x :: xs
theorem join_any (b kr dr : Nat) (lo hi : Int) (own : Option Nat) (xs : List Int) (x y : Int) (w : World) (h : LM w b kr dr lo hi own xs) (hn : xs.length ≤ 1000) :
    Calls Tryz.prog 54 #[.pointer (some ⟨b, 0, none⟩), .int .i64 x, .int .i64 y] w fun e w' => e = .returned (.tuple #[]) ∧ Did w b kr dr lo hi own (joinF x xs) w' := by
  have hc := has_any b kr dr lo hi own xs x y w h hn
  by_cases hq : 0 ≤ ixI (fun y => x == y) xs
  · have hr : joinF x xs = xs := if_pos hq
    rw [boolI_true hq] at hc
    have HR := Lib.hid hr
    have HC := Lib.hid hc
    have H := Lib.hid h
    clear hr hc h hn hq
    go_enter Tryz.func54, Tryz.ntmps54
    go_wp2_with (go_at_call 34; refine HC.out.mono ?_; rintro e w' ⟨rfl, rfl⟩)
    go_end0
    exact ⟨rfl, by rw [HR.out]; exact ⟨own, H.out, .inl rfl, Fr.refl _ _⟩⟩
  · have hr : joinF x xs = x :: xs := if_neg hq
    rw [boolI_false hq] at hc
    have HR := Lib.hid hr
    have HC := Lib.hid hc
    have H := Lib.hid h
    have HN := Lib.hid hn
    clear hr hc h hn hq
    go_enter Tryz.func54, Tryz.ntmps54
    go_wp2_with (first
      | (go_at_call 34; refine HC.out.mono ?_; rintro e w' ⟨rfl, rfl⟩)
      | (go_at_call 37; refine (push_any b kr dr lo hi own xs x _ _ H.out HN.out).mono ?_; rintro e w' ⟨rfl, hd⟩; have HD := Lib.hid hd; clear hd))
    go_end0
    exact ⟨rfl, by rw [HR.out]; exact HD.out⟩
end Go.Proofs.YtpnbhoeghncnnaaGreatDoor
namespace Go.Proofs.YtpnbhoeghncnnaaGreatDoor
open Go.RowKit
def DidN (w : World) (b kr dr : Nat) (lo hi : Int) (own : Option Nat) (xs : List Int) (w' : World) : Prop :=
  LM w' b kr dr lo hi own xs ∧ Fr (fun k => k = b) w w'
theorem Mod.set2 {w : World} {b : Nat} {lv : Value} {kr dr : Nat} {lo hi : Int} (h : Mod w b lv kr dr lo hi) (n : Int) : Mod (w.setCell ⟨b, 2, none⟩ (.int .i64 n)) b lv kr dr n hi := by
  unfold Mod; rw [heap_setCell h]; rfl
theorem Mod.set3 {w : World} {b : Nat} {lv : Value} {kr dr : Nat} {lo hi : Int} (h : Mod w b lv kr dr lo hi) (n : Int) : Mod (w.setCell ⟨b, 3, none⟩ (.int .i64 n)) b lv kr dr lo n := by
  unfold Mod; rw [heap_setCell h]; rfl
theorem LM.set2 {w : World} {b kr dr : Nat} {lo hi : Int} {own : Option Nat} {xs : List Int} (h : LM w b kr dr lo hi own xs) (n : Int) : DidN w b kr dr n hi own xs (w.setCell ⟨b, 2, none⟩ (.int .i64 n)) := by
  obtain ⟨lv, hm, hl, hb⟩ := h
  exact ⟨⟨lv, hm.set2 n, hl.fr (Fr.setCell (fun k => k = b) w ⟨b, 2, none⟩ _ rfl) (fun g h e => hb (by rw [h, e])), hb⟩, Fr.setCell (fun k => k = b) w ⟨b, 2, none⟩ _ rfl⟩
theorem LM.set3 {w : World} {b kr dr : Nat} {lo hi : Int} {own : Option Nat} {xs : List Int} (h : LM w b kr dr lo hi own xs) (n : Int) : DidN w b kr dr lo n own xs (w.setCell ⟨b, 3, none⟩ (.int .i64 n)) := by
  obtain ⟨lv, hm, hl, hb⟩ := h
  exact ⟨⟨lv, hm.set3 n, hl.fr (Fr.setCell (fun k => k = b) w ⟨b, 3, none⟩ _ rfl) (fun g h e => hb (by rw [h, e])), hb⟩, Fr.setCell (fun k => k = b) w ⟨b, 3, none⟩ _ rfl⟩
theorem more_yes (b kr dr : Nat) (lo hi : Int) (own : Option Nat) (xs : List Int) (a : Int) (w : World) (h : LM w b kr dr lo hi own xs) (hlo : inNum lo = true) (ha : inNum a = true) (hv : inNum (lo + a) = true) :
    Calls Tryz.prog 57 #[.pointer (some ⟨b, 0, none⟩), .int .i64 a] w fun e w' => e = .returned (.tuple #[]) ∧ DidN w b kr dr (lo + a) hi own xs w' := by
  have hd := h.set2 (lo + a)
  obtain ⟨lv, hm, hl, hb⟩ := h
  have h2 := hm.c2
  have hz := hm.fz 2
  have HD := Lib.hid hd
  have HV := Lib.hid hv
  have h3 := inNum_true.1 hlo
  have h4 := inNum_true.1 ha
  clear hm hl hb hd hv hlo ha
  go_enter Tryz.func57, Tryz.ntmps57
  go_wp2_with (go_at_call 96; refine (safe_in _ _ HV.out).mono ?_; rintro e w' ⟨rfl, rfl⟩)
  go_end0
  exact ⟨rfl, HD.out⟩
theorem more_no (b kr dr : Nat) (lo hi : Int) (own : Option Nat) (xs : List Int) (a : Int) (w : World) (h : LM w b kr dr lo hi own xs) (hlo : inNum lo = true) (ha : inNum a = true) (hv : inNum (lo + a) = false) :
    Calls Tryz.prog 57 #[.pointer (some ⟨b, 0, none⟩), .int .i64 a] w fun e w' => e = (Res.stop 7 0).ends ∧ w = w' := by
  obtain ⟨lv, hm, hl, hb⟩ := h
  have h2 := hm.c2
  have hz := hm.fz 2
  have HV := Lib.hid hv
  have h3 := inNum_true.1 hlo
  have h4 := inNum_true.1 ha
  clear hm hl hb hv hlo ha
  go_enter Tryz.func57, Tryz.ntmps57
  go_wp2_with (go_at_call 96; refine (safe_out _ _ HV.out).mono ?_; rintro e w' ⟨rfl, rfl⟩)
  exact ⟨rfl, rfl, rfl⟩
theorem contains_any (b kr dr : Nat) (lo hi : Int) (own : Option Nat) (xs : List Int) (x y : Int) (w : World) (h : LM w b kr dr lo hi own xs) :
    Calls Tryz.prog 62 #[.pointer (some ⟨b, 0, none⟩), .int .i64 x, .int .i64 y] w fun e w' => e = .returned (.int .i64 (boolI (decide (lo ≤ x ∧ x ≤ hi)))) ∧ w = w' := by
  obtain ⟨lv, hm, hl, hb⟩ := h
  have h2 := hm.c2
  have h3 := hm.c3
  clear hm hl hb
  by_cases h1 : lo ≤ x
  · by_cases h4 : x ≤ hi
    · have HR := Lib.hid (boolI_true (show lo ≤ x ∧ x ≤ hi from ⟨h1, h4⟩))
      have hd1 : decide (lo ≤ x) = true := by simpa using h1
      have hd2 : decide (x ≤ hi) = true := by simpa using h4
      go_enter Tryz.func62, Tryz.ntmps62
      go_wp2_with (go_at_call 94; refine (truth_any true _).mono ?_; rintro e w' ⟨rfl, rfl⟩)
      go_ret
      exact ⟨by rw [HR.out]; rfl, rfl⟩
    · have HR := Lib.hid (boolI_false (show ¬ (lo ≤ x ∧ x ≤ hi) by omega))
      have hd1 : decide (lo ≤ x) = true := by simpa using h1
      have hd2 : decide (x ≤ hi) = false := by simpa using h4
      clear h4
      go_enter Tryz.func62, Tryz.ntmps62
      go_wp2_with (go_at_call 94; refine (truth_any false _).mono ?_; rintro e w' ⟨rfl, rfl⟩)
      go_ret
      exact ⟨by rw [HR.out]; rfl, rfl⟩
  · have HR := Lib.hid (boolI_false (show ¬ (lo ≤ x ∧ x ≤ hi) by omega))
    have hd1 : decide (lo ≤ x) = false := by simpa using h1
    clear h1
    go_enter Tryz.func62, Tryz.ntmps62
    go_wp2_with (go_at_call 94; refine (truth_any false _).mono ?_; rintro e w' ⟨rfl, rfl⟩)
    go_ret
    exact ⟨by rw [HR.out]; rfl, rfl⟩
theorem span_yes (b kr dr : Nat) (lo hi : Int) (own : Option Nat) (xs : List Int) (x y : Int) (w : World) (h : LM w b kr dr lo hi own xs) (_hx : inNum x = true) (hy : inNum y = true) (hv : inNum (y + 1) = true) (hc : x ≤ y + 1) :
    Calls Tryz.prog 61 #[.pointer (some ⟨b, 0, none⟩), .int .i64 x, .int .i64 y] w fun e w' => e = .returned (.tuple #[]) ∧ DidN w b kr dr x y own xs w' := by
  have hd1 := h.set2 x
  have hd := hd1.1.set3 y
  have hD : DidN w b kr dr x y own xs ((w.setCell ⟨b, 2, none⟩ (.int .i64 x)).setCell ⟨b, 3, none⟩ (.int .i64 y)) := ⟨hd.1, hd1.2.trans hd.2 (fun _ _ h => h)⟩
  obtain ⟨lv, hm, hl, hb⟩ := h
  obtain ⟨lv', hm', _, _⟩ := hd1.1
  have h2 := hm.c2
  have h3 := hm.c3
  have hz := hm.fz 2
  have h3' := hm'.c3
  have hz' := hm'.fz 3
  have HD := Lib.hid hD
  have HV := Lib.hid hv
  have h5 := inNum_true.1 hy
  have hq : decide (x ≤ y + 1) = true := by simpa using hc
  clear hm hl hb hd hd1 hm' hD hv hy
  go_enter Tryz.func61, Tryz.ntmps61
  go_wp2_with (first
    | (go_at_call 96; refine (safe_in _ _ HV.out).mono ?_; rintro e w' ⟨rfl, rfl⟩)
    | (go_at_call 59; refine (must_true _ _).mono ?_; rintro e w' ⟨rfl, rfl⟩))
  go_end0
  exact ⟨rfl, HD.out⟩
theorem span_over (b : Nat) (x y : Int) (w : World) (_hx : inNum x = true) (hy : inNum y = true) (hv : inNum (y + 1) = false) :
    Calls Tryz.prog 61 #[.pointer (some ⟨b, 0, none⟩), .int .i64 x, .int .i64 y] w fun e w' => e = (Res.stop 7 0).ends ∧ w = w' := by
  have HV := Lib.hid hv
  have h5 := inNum_true.1 hy
  clear hv hy
  go_enter Tryz.func61, Tryz.ntmps61
  go_wp2_with (go_at_call 96; refine (safe_out _ _ HV.out).mono ?_; rintro e w' ⟨rfl, rfl⟩)
  exact ⟨rfl, rfl, rfl⟩
theorem span_no (b : Nat) (x y : Int) (w : World) (_hx : inNum x = true) (hy : inNum y = true) (hv : inNum (y + 1) = true) (hc : ¬ x ≤ y + 1) :
    Calls Tryz.prog 61 #[.pointer (some ⟨b, 0, none⟩), .int .i64 x, .int .i64 y] w fun e w' => e = (Res.stop 1 0).ends ∧ w = w' := by
  have HV := Lib.hid hv
  have h5 := inNum_true.1 hy
  have hq : decide (x ≤ y + 1) = false := by simpa using hc
  clear hv hy hc
  go_enter Tryz.func61, Tryz.ntmps61
  go_wp2_with (first
    | (go_at_call 96; refine (safe_in _ _ HV.out).mono ?_; rintro e w' ⟨rfl, rfl⟩)
    | (go_at_call 59; refine (must_false _ _).mono ?_; rintro e w' ⟨rfl, rfl⟩))
  exact ⟨rfl, rfl, rfl⟩
end Go.Proofs.YtpnbhoeghncnnaaGreatDoor

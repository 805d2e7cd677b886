/-
  A part of the proof of Rows.BaseModelsCardSaid (for every class and script BaseModels answers true, and its arguments read as they did; the listed library variables as the program text lays them): texts RK, RL. By an AI agent.
-/
import Derived.Deep.QuietTactic
import Derived.BigQuiet
import Derived.Outline
import Derived.Test.YtpnbhoeghncnnaaGreatDoorM13
namespace Go.Proofs.YtpnbhoeghncnnaaGreatDoor
open Go.RowKit
theorem box_at {w : World} {s : ByteArray} {x y : Int} {bx : Nat} (h : w.heap[bx]? = some (.cells #[.string s, .int .i64 x, .int .i64 y] 40 (0, 0))) : w.cell? ⟨bx, 0, none⟩ = some (.string s) ∧ w.cell? ⟨bx, 1, none⟩ = some (.int .i64 x) ∧ w.cell? ⟨bx, 2, none⟩ = some (.int .i64 y) := by
  refine ⟨?_, ?_, ?_⟩ <;> rw [heap_cell h] <;> rfl
theorem Lst.set_ {w : World} {g o n c : Nat} {own : Option Nat} {xs : List Int} (h : Lst w (.slice (some ⟨g, o, none⟩) n c) own xs) (i : Nat) (y : Int) : Lst (w.setCell ⟨g, o + i, none⟩ (.int .i64 y)) (.slice (some ⟨g, o, none⟩) n c) own (xs.set i y) := by
  rcases h with ⟨he, ho, hx'⟩ | ⟨g', o', cap', cs, h1, h2, h3, h4, h5, h6, h7⟩
  · cases he
  · cases h1
    refine .inr ⟨g, o, c, _, by rw [List.length_set], h2, heap_setCell h3 _ _, by simp; omega, by rw [List.length_set]; exact h5, by simp; omega, fun j x hx => ?_⟩
    rw [List.getElem?_set] at hx
    by_cases hj : i = j
    · subst hj
      rw [if_pos rfl] at hx
      split at hx
      · cases hx
        rw [Array.getElem?_setIfInBounds_self, if_pos (by omega)]
      · cases hx
    · rw [if_neg hj] at hx
      rw [Array.getElem?_setIfInBounds_ne (by omega)]
      exact h7 j x hx
theorem Lst.own_at {w : World} {g o n c : Nat} {own : Option Nat} {xs : List Int} (h : Lst w (.slice (some ⟨g, o, none⟩) n c) own xs) : own = some g ∧ ∀ i, w.frozen? ⟨g, i, none⟩ = false := by
  rcases h with ⟨he, ho, hx'⟩ | ⟨g', o', cap', cs, h1, h2, h3, h4, h5, h6, h7⟩
  · cases he
  · cases h1; exact ⟨h2, fun i => heap_frozen h3 i⟩
theorem setK_all {B : Nat} {w w1 : World} {b : Nat} {vL vK : Value} {lo hi : Int} {vO : Value} {f : Int} {lg : Bool} {oL oK oO : Option Nat} {L K O : List Int} (hm : RMod w b vL vK lo hi vO f lg) (hl : Lst w vL oL L) (_hk : Lst w vK oK K) (ho : Lst w vO oO O) (hs : Sep B b oL oK oO)
    {v' : Value} {own' : Option Nat} {K' : List Int} (hf : Fr (fun k => oK = some k) w w1) (hnew : New w oK own') (hl' : Lst w1 v' own' K') (bx : Nat) (box : Obj) (hbx : w.heap[bx]? = some box) (hb : b ≠ bx) (hobx : ∀ g, oK = some g → g ≠ bx) (W2 : World) (hW : w1.setCell ⟨b, 1, none⟩ v' = W2) :
    RMod w1 b vL vK lo hi vO f lg ∧ RMod W2 b vL v' lo hi vO f lg ∧ Lst W2 vL oL L ∧ Lst W2 v' own' K' ∧ Lst W2 vO oO O ∧ Sep B b oL own' oO ∧ Fr (fun k => B ≤ k) w W2 ∧ W2.heap[bx]? = some box ∧ (∀ g, own' = some g → g ≠ bx) := by
  subst hW
  have hb0 := hs.b0
  have hm1 : RMod w1 b vL vK lo hi vO f lg := hf.heap hm (fun h => (hs.k b h).2.1 rfl)
  have hfs := Fr.setCell (fun k => k = b) w1 ⟨b, 1, none⟩ v' rfl
  have own'ne : ∀ g, own' = some g → B ≤ g ∧ g ≠ b ∧ oL ≠ some g ∧ oO ≠ some g ∧ g ≠ bx := by
    intro g hg
    rcases hnew with h | h | ⟨g', h, hge⟩
    · have hk' := hs.k g (by rw [← h]; exact hg)
      exact ⟨hk'.1, hk'.2.1, fun e => (hs.l g e).2.2.1 (by rw [← h]; exact hg), hk'.2.2, hobx g (by rw [← h]; exact hg)⟩
    · rw [h] at hg; cases hg
    · rw [h] at hg; cases hg
      have hbl := heap_lt hm
      have hbx2 := heap_lt hbx
      refine ⟨by omega, by omega, fun e => ?_, fun e => ?_, by omega⟩
      · have := hl.own_lt e; omega
      · have := ho.own_lt e; omega
  exact ⟨hm1, hm1.set 1 v', (hl.fr hf (fun g hg e => (hs.l g hg).2.2.1 e)).fr hfs (fun g hg e => (hs.l g hg).2.1 e), hl'.fr hfs (fun g hg e => (own'ne g hg).2.1 e), (ho.fr hf (fun g hg e => (hs.k g e).2.2 hg)).fr hfs (fun g hg e => (hs.o g hg).2 e), ⟨hb0, fun g hg => ⟨(hs.l g hg).1, (hs.l g hg).2.1, fun e => (own'ne g e).2.2.1 hg, (hs.l g hg).2.2.2⟩, fun g hg => ⟨(own'ne g hg).1, (own'ne g hg).2.1, (own'ne g hg).2.2.2.1⟩, hs.o⟩,
    (hf.mono (fun k e => (hs.k k e).1)).trans hfs (fun i _ e => by rw [e]; exact hb0), hfs.heap (hf.heap hbx (fun e => hobx bx e rfl)) (fun e => hb e.symm), fun g hg => (own'ne g hg).2.2.2.2⟩
theorem setL_all {B : Nat} {w w1 : World} {b : Nat} {vL vK : Value} {lo hi : Int} {vO : Value} {f : Int} {lg : Bool} {oL oK oO : Option Nat} {L K O : List Int} (hm : RMod w b vL vK lo hi vO f lg) (_hl : Lst w vL oL L) (hk : Lst w vK oK K) (ho : Lst w vO oO O) (hs : Sep B b oL oK oO)
    {v' : Value} {own' : Option Nat} {L' : List Int} (hf : Fr (fun k => oL = some k) w w1) (hnew : New w oL own') (hl' : Lst w1 v' own' L') (bx : Nat) (box : Obj) (hbx : w.heap[bx]? = some box) (hb : b ≠ bx) (hobx : ∀ g, oL = some g → g ≠ bx) (W2 : World) (hW : w1.setCell ⟨b, 0, none⟩ v' = W2) :
    RMod w1 b vL vK lo hi vO f lg ∧ RMod W2 b v' vK lo hi vO f lg ∧ Lst W2 v' own' L' ∧ Lst W2 vK oK K ∧ Lst W2 vO oO O ∧ Sep B b own' oK oO ∧ Fr (fun k => B ≤ k) w W2 ∧ W2.heap[bx]? = some box ∧ (∀ g, own' = some g → g ≠ bx) := by
  subst hW
  have hb0 := hs.b0
  have hm1 : RMod w1 b vL vK lo hi vO f lg := hf.heap hm (fun h => (hs.l b h).2.1 rfl)
  have hfs := Fr.setCell (fun k => k = b) w1 ⟨b, 0, none⟩ v' rfl
  have own'ne : ∀ g, own' = some g → B ≤ g ∧ g ≠ b ∧ oK ≠ some g ∧ oO ≠ some g ∧ g ≠ bx := by
    intro g hg
    rcases hnew with h | h | ⟨g', h, hge⟩
    · have h' := hs.l g (by rw [← h]; exact hg)
      exact ⟨h'.1, h'.2.1, h'.2.2.1, h'.2.2.2, hobx g (by rw [← h]; exact hg)⟩
    · rw [h] at hg; cases hg
    · rw [h] at hg; cases hg
      have hbl := heap_lt hm
      have hbx2 := heap_lt hbx
      refine ⟨by omega, by omega, fun e => ?_, fun e => ?_, by omega⟩
      · have := hk.own_lt e; omega
      · have := ho.own_lt e; omega
  exact ⟨hm1, hm1.set 0 v', hl'.fr hfs (fun g hg e => (own'ne g hg).2.1 e), (hk.fr hf (fun g hg e => (hs.l g e).2.2.1 hg)).fr hfs (fun g hg e => (hs.k g hg).2.1 e), (ho.fr hf (fun g hg e => (hs.l g e).2.2.2 hg)).fr hfs (fun g hg e => (hs.o g hg).2 e), ⟨hb0, fun g hg => ⟨(own'ne g hg).1, (own'ne g hg).2.1, (own'ne g hg).2.2.1, (own'ne g hg).2.2.2.1⟩, hs.k, hs.o⟩,
    (hf.mono (fun k e => (hs.l k e).1)).trans hfs (fun i _ e => by rw [e]; exact hb0), hfs.heap (hf.heap hbx (fun e => hobx bx e rfl)) (fun e => hb e.symm), fun g hg => (own'ne g hg).2.2.2.2⟩
theorem RS.elem {B : Nat} {w : World} {b g o n c : Nat} {vK : Value} {lo hi : Int} {vO : Value} {f : Int} {lg : Bool} {oL oK oO : Option Nat} {L K O : List Int} (hm : RMod w b (.slice (some ⟨g, o, none⟩) n c) vK lo hi vO f lg) (hl : Lst w (.slice (some ⟨g, o, none⟩) n c) oL L) (hk : Lst w vK oK K) (ho : Lst w vO oO O) (hs : Sep B b oL oK oO) (i : Nat) (y : Int) :
    RS B (w.setCell ⟨g, o + i, none⟩ (.int .i64 y)) b (L.set i y) K lo hi O f lg ∧ Fr (fun k => B ≤ k) w (w.setCell ⟨g, o + i, none⟩ (.int .i64 y)) := by
  have hg := hl.own_at.1
  have hs1 := hs.l g hg
  have hfs := Fr.setCell (fun k => k = g) w ⟨g, o + i, none⟩ (.int .i64 y) rfl
  exact ⟨⟨_, vK, vO, oL, oK, oO, hfs.heap hm (fun e => hs1.2.1 e.symm), hl.set_ i y, hk.fr hfs (fun k hk' e => hs1.2.2.1 (by rw [hk', e])), ho.fr hfs (fun k hk' e => hs1.2.2.2 (by rw [hk', e])), hs⟩, hfs.mono (fun k e => by rw [e]; exact hs1.1)⟩
set_option maxHeartbeats 1000000 in
theorem rtable_count (B b : Nat) (L K : List Int) (lo hi : Int) (O : List Int) (x y : Int) (w : World) (h : RS B w b L K lo hi O 0 false) (hn : O.length ≤ 1000) (hkn : K.length ≤ 1000) (hln : L.length ≤ 1000) (q : Int) (hq : ixI (fun y => x == y) K = q) :
    Calls Tryz.prog 22 #[.pointer (some ⟨b, 0, none⟩), .agg #[.string ⟨#[99, 111, 117, 110, 116]⟩, .int .i64 x, .int .i64 y]] w fun e w' => e = .returned (.tuple #[]) ∧ RDid B w b L K lo hi (O ++ [(K.length : Int)]) 0 false w' := by
  have HKN := Lib.hid hkn
  have HLN := Lib.hid hln
  have HQ := Lib.hid hq
  clear hq hkn hln
  have H := Lib.hid h
  obtain ⟨vL, vK, vO, oL, oK, oO, hm, hl, hk, ho, hs⟩ := h
  obtain ⟨sL, cL, rfl⟩ := hl.form
  obtain ⟨sK, cK, rfl⟩ := hk.form
  have hlt := heap_lt hm
  generalize hLn : L.length = nL at hm hl
  generalize hKn : K.length = nK at hm hk
  have HNL := Lib.hid hLn
  have HNK := Lib.hid hKn
  clear hLn hKn
  have c1 := hm.c1
  have HM := Lib.hid hm
  have HL := Lib.hid hl
  have HK := Lib.hid hk
  have HO := Lib.hid ho
  have HS := Lib.hid hs
  have HN := Lib.hid hn
  clear hm hl hk ho hs hn
  go_enter Tryz.func22, Tryz.ntmps22
  go_wp2
  have F0 := Lib.hid (Fr.alloc (fun _ => False) w (.cells #[.string ⟨#[99, 111, 117, 110, 116]⟩, .int .i64 x, .int .i64 y] 40))
  go_quiet ((first | (go_at_call 80; exact Calls.quiet_of_same (rindex_q _ _ oK K ((HK.out.fr0 F0.out).fr0 (Fr.drewN _ _ _)) x q HKN.out HQ.out))))
  have F1 := Lib.hid (F0.out.trans (Fr.drewN _ _ nq) (fun _ _ h => h))
  go_wp2_with (go_at_call 77; refine (put_any B b L K lo hi O 0 false _ _ (H.out.fr0 F1.out) HN.out).mono ?_; rintro e w' ⟨rfl, hd⟩; have HD := Lib.hid (hd.tr F1.out.weak); clear hd)
  all_goals first | (refine bodyPost_ret (results_none rfl _ _ _) rfl ?_) | go_end0 | (go_wp2; first | (refine bodyPost_ret (results_none rfl _ _ _) rfl ?_) | go_end0)
  all_goals exact ⟨rfl, HD.out⟩
set_option maxHeartbeats 1000000 in
theorem rtable_has (B b : Nat) (L K : List Int) (lo hi : Int) (O : List Int) (x y : Int) (w : World) (h : RS B w b L K lo hi O 0 false) (hn : O.length ≤ 1000) (hkn : K.length ≤ 1000) (hln : L.length ≤ 1000) (q : Int) (hq : ixI (fun y => x == y) K = q) :
    Calls Tryz.prog 22 #[.pointer (some ⟨b, 0, none⟩), .agg #[.string ⟨#[104, 97, 115]⟩, .int .i64 x, .int .i64 y]] w fun e w' => e = .returned (.tuple #[]) ∧ RDid B w b L K lo hi (O ++ [boolI (decide (0 ≤ q))]) 0 false w' := by
  have HKN := Lib.hid hkn
  have HLN := Lib.hid hln
  have HQ := Lib.hid hq
  clear hq hkn hln
  have H := Lib.hid h
  obtain ⟨vL, vK, vO, oL, oK, oO, hm, hl, hk, ho, hs⟩ := h
  obtain ⟨sL, cL, rfl⟩ := hl.form
  obtain ⟨sK, cK, rfl⟩ := hk.form
  have hlt := heap_lt hm
  generalize hLn : L.length = nL at hm hl
  generalize hKn : K.length = nK at hm hk
  have HNL := Lib.hid hLn
  have HNK := Lib.hid hKn
  clear hLn hKn
  have c1 := hm.c1
  have HM := Lib.hid hm
  have HL := Lib.hid hl
  have HK := Lib.hid hk
  have HO := Lib.hid ho
  have HS := Lib.hid hs
  have HN := Lib.hid hn
  clear hm hl hk ho hs hn
  go_enter Tryz.func22, Tryz.ntmps22
  go_wp2
  have F0 := Lib.hid (Fr.alloc (fun _ => False) w (.cells #[.string ⟨#[104, 97, 115]⟩, .int .i64 x, .int .i64 y] 40))
  go_quiet ((first | (go_at_call 80; exact Calls.quiet_of_same (rindex_q _ _ oK K ((HK.out.fr0 F0.out).fr0 (Fr.drewN _ _ _)) x q HKN.out HQ.out))))
  have F1 := Lib.hid (F0.out.trans (Fr.drewN _ _ nq) (fun _ _ h => h))
  go_wp2_with (go_at_call 79; refine (rtruth_any B b L K lo hi O 0 false _ _ (H.out.fr0 F1.out) HN.out).mono ?_; rintro e w' ⟨rfl, hd⟩; have HD := Lib.hid (hd.tr F1.out.weak); clear hd)
  all_goals first | (refine bodyPost_ret (results_none rfl _ _ _) rfl ?_) | go_end0 | (go_wp2; first | (refine bodyPost_ret (results_none rfl _ _ _) rfl ?_) | go_end0)
  all_goals exact ⟨rfl, HD.out⟩
set_option maxHeartbeats 1000000 in
theorem rtable_value_no (B b : Nat) (L K : List Int) (lo hi : Int) (O : List Int) (x y : Int) (w : World) (h : RS B w b L K lo hi O 0 false) (hn : O.length ≤ 1000) (hkn : K.length ≤ 1000) (hln : L.length ≤ 1000) (q : Int) (hq : ixI (fun y => x == y) K = q) (h0 : q < 0) :
    Calls Tryz.prog 22 #[.pointer (some ⟨b, 0, none⟩), .agg #[.string ⟨#[118, 97, 108, 117, 101, 95, 111, 102]⟩, .int .i64 x, .int .i64 y]] w fun e w' => e = .returned (.tuple #[]) ∧ RDid B w b L K lo hi (O ++ [0]) 0 false w' := by
  have HKN := Lib.hid hkn
  have HLN := Lib.hid hln
  have HQ := Lib.hid hq
  clear hq hkn hln
  have H := Lib.hid h
  obtain ⟨vL, vK, vO, oL, oK, oO, hm, hl, hk, ho, hs⟩ := h
  obtain ⟨sL, cL, rfl⟩ := hl.form
  obtain ⟨sK, cK, rfl⟩ := hk.form
  have hlt := heap_lt hm
  generalize hLn : L.length = nL at hm hl
  generalize hKn : K.length = nK at hm hk
  have HNL := Lib.hid hLn
  have HNK := Lib.hid hKn
  clear hLn hKn
  have c1 := hm.c1
  have HM := Lib.hid hm
  have HL := Lib.hid hl
  have HK := Lib.hid hk
  have HO := Lib.hid ho
  have HS := Lib.hid hs
  have HN := Lib.hid hn
  clear hm hl hk ho hs hn
  go_enter Tryz.func22, Tryz.ntmps22
  go_wp2
  have F0 := Lib.hid (Fr.alloc (fun _ => False) w (.cells #[.string ⟨#[118, 97, 108, 117, 101, 95, 111, 102]⟩, .int .i64 x, .int .i64 y] 40))
  go_quiet ((first | (go_at_call 80; exact Calls.quiet_of_same (rindex_q _ _ oK K ((HK.out.fr0 F0.out).fr0 (Fr.drewN _ _ _)) x q HKN.out HQ.out))))
  have F1 := Lib.hid (F0.out.trans (Fr.drewN _ _ nq) (fun _ _ h => h))
  go_wp2_with (go_at_call 77; refine (put_any B b L K lo hi O 0 false _ _ (H.out.fr0 F1.out) HN.out).mono ?_; rintro e w' ⟨rfl, hd⟩; have HD := Lib.hid (hd.tr F1.out.weak); clear hd)
  all_goals first | (refine bodyPost_ret (results_none rfl _ _ _) rfl ?_) | go_end0 | (go_wp2; first | (refine bodyPost_ret (results_none rfl _ _ _) rfl ?_) | go_end0)
  all_goals exact ⟨rfl, HD.out⟩
set_option maxHeartbeats 1000000 in
theorem rtable_value_yes (B b : Nat) (L K : List Int) (lo hi : Int) (O : List Int) (x y : Int) (w : World) (h : RS B w b L K lo hi O 0 false) (hn : O.length ≤ 1000) (hkn : K.length ≤ 1000) (hln : L.length ≤ 1000) (q : Int) (k : Nat) (hqk : q = k) (hkl : k < L.length) (hkk : k < K.length) (hq : ixI (fun y => x == y) K = q) (z : Int) (hz : L[k]? = some z) :
    Calls Tryz.prog 22 #[.pointer (some ⟨b, 0, none⟩), .agg #[.string ⟨#[118, 97, 108, 117, 101, 95, 111, 102]⟩, .int .i64 x, .int .i64 y]] w fun e w' => e = .returned (.tuple #[]) ∧ RDid B w b L K lo hi (O ++ [z]) 0 false w' := by
  subst hqk
  have HKN := Lib.hid hkn
  have HLN := Lib.hid hln
  have HQ := Lib.hid hq
  clear hq hkn hln
  have HQK := Lib.hid hkl
  have HQKK := Lib.hid hkk
  clear hkl hkk
  have H := Lib.hid h
  obtain ⟨vL, vK, vO, oL, oK, oO, hm, hl, hk, ho, hs⟩ := h
  obtain ⟨sL, cL, rfl⟩ := hl.form
  obtain ⟨sK, cK, rfl⟩ := hk.form
  have hlt := heap_lt hm
  generalize hLn : L.length = nL at hm hl
  generalize hKn : K.length = nK at hm hk
  have HNL := Lib.hid hLn
  have HNK := Lib.hid hKn
  clear hLn hKn
  have c0 := hm.c0
  have c1 := hm.c1
  have HM := Lib.hid hm
  have HL := Lib.hid hl
  have HK := Lib.hid hk
  have HO := Lib.hid ho
  have HS := Lib.hid hs
  have HN := Lib.hid hn
  clear hm hl hk ho hs hn
  have hk1 : k < nL := by have := HQK.out; have := HNL.out; omega
  have hk2 : (k : Int) ≤ 1000 := by have := HQK.out; have := HLN.out; omega
  obtain ⟨g, o, rfl, hr, hg⟩ := HL.out.at_ hz
  clear hz
  go_enter Tryz.func22, Tryz.ntmps22
  go_wp2
  have F0 := Lib.hid (Fr.alloc (fun _ => False) w (.cells #[.string ⟨#[118, 97, 108, 117, 101, 95, 111, 102]⟩, .int .i64 x, .int .i64 y] 40))
  go_quiet ((first | (go_at_call 80; exact Calls.quiet_of_same (rindex_q _ _ oK K ((HK.out.fr0 F0.out).fr0 (Fr.drewN _ _ _)) x (k : Int) HKN.out HQ.out))))
  have F1 := Lib.hid (F0.out.trans (Fr.drewN _ _ nq) (fun _ _ h => h))
  go_wp2_with (go_at_call 77; refine (put_any B b L K lo hi O 0 false _ _ (H.out.fr0 F1.out) HN.out).mono ?_; rintro e w' ⟨rfl, hd⟩; have HD := Lib.hid (hd.tr F1.out.weak); clear hd)
  all_goals first | (refine bodyPost_ret (results_none rfl _ _ _) rfl ?_) | go_end0 | (go_wp2; first | (refine bodyPost_ret (results_none rfl _ _ _) rfl ?_) | go_end0)
  all_goals exact ⟨rfl, HD.out⟩
set_option maxHeartbeats 1000000 in
theorem rtable_force_new (B b : Nat) (L K : List Int) (lo hi : Int) (O : List Int) (x y : Int) (w : World) (h : RS B w b L K lo hi O 0 false) (hn : O.length ≤ 1000) (hkn : K.length ≤ 1000) (hln : L.length ≤ 1000) (q : Int) (hq : ixI (fun y => x == y) K = q) (h0 : q < 0) :
    Calls Tryz.prog 22 #[.pointer (some ⟨b, 0, none⟩), .agg #[.string ⟨#[102, 111, 114, 99, 101]⟩, .int .i64 x, .int .i64 y]] w fun e w' => e = .returned (.tuple #[]) ∧ RDid B w b (L ++ [y]) (K ++ [x]) lo hi O 0 false w' := by
  have HKN := Lib.hid hkn
  have HLN := Lib.hid hln
  have HQ := Lib.hid hq
  clear hq hkn hln
  have H := Lib.hid h
  obtain ⟨vL, vK, vO, oL, oK, oO, hm, hl, hk, ho, hs⟩ := h
  obtain ⟨sL, cL, rfl⟩ := hl.form
  obtain ⟨sK, cK, rfl⟩ := hk.form
  have hlt := heap_lt hm
  generalize hLn : L.length = nL at hm hl
  generalize hKn : K.length = nK at hm hk
  have HNL := Lib.hid hLn
  have HNK := Lib.hid hKn
  clear hLn hKn
  have c0 := hm.c0
  have c1 := hm.c1
  have HM := Lib.hid hm
  have HL := Lib.hid hl
  have HK := Lib.hid hk
  have HO := Lib.hid ho
  have HS := Lib.hid hs
  have HN := Lib.hid hn
  clear hm hl hk ho hs hn
  go_enter Tryz.func22, Tryz.ntmps22
  go_wp2
  have F0 := Lib.hid (Fr.alloc (fun _ => False) w (.cells #[.string ⟨#[102, 111, 114, 99, 101]⟩, .int .i64 x, .int .i64 y] 40))
  go_quiet ((first | (go_at_call 80; exact Calls.quiet_of_same (rindex_q _ _ oK K ((HK.out.fr0 F0.out).fr0 (Fr.drewN _ _ _)) x q HKN.out HQ.out))))
  have F1 := Lib.hid (F0.out.trans (Fr.drewN _ _ nq) (fun _ _ h => h))
  have BX0 := (Fr.drewN (fun _ => False) (w.alloc (.cells #[.string ⟨#[102, 111, 114, 99, 101]⟩, .int .i64 x, .int .i64 y] 40)) nq).heap (heap_alloc_new w (.cells #[.string ⟨#[102, 111, 114, 99, 101]⟩, .int .i64 x, .int .i64 y] 40)) id
  have HM1 := F1.out.heap HM.out id
  have HL1 := HL.out.fr0 F1.out
  have HK1 := HK.out.fr0 F1.out
  have HO1 := HO.out.fr0 F1.out
  have F2 := F1.out
  have SL : ∀ g, oL = some g → g ≠ w.heap.size := fun g hg => by have := HL.out.own_lt hg; omega
  have SK : ∀ g, oK = some g → g ≠ w.heap.size := fun g hg => by have := HK.out.own_lt hg; omega
  have SO : ∀ g, oO = some g → g ≠ w.heap.size := fun g hg => by have := HO.out.own_lt hg; omega
  have SB : b ≠ w.heap.size := by omega
  clear F0 F1 c0 c1 hlt
  generalize (w.alloc (.cells #[.string ⟨#[102, 111, 114, 99, 101]⟩, .int .i64 x, .int .i64 y] 40)).drewN nq = W at BX0 HM1 HL1 HK1 HO1 F2 ⊢
  have F2' := F2.size
  generalize w.heap.size = bx at BX0 SL SK SO SB ⊢
  have c0 := RMod.c0 HM1
  have c1 := RMod.c1 HM1
  have z0 := RMod.fz HM1 0
  have z1 := RMod.fz HM1 1
  have x0 := (box_at BX0).1
  have x1 := (box_at BX0).2.1
  have x2 := (box_at BX0).2.2
  have hlt := heap_lt HM1
  have hlx := heap_lt BX0
  have GM := Lib.hid HM1
  have GL := Lib.hid HL1
  have GK := Lib.hid HK1
  have GO := Lib.hid HO1
  have GB := Lib.hid BX0
  have GF := Lib.hid F2
  have GS := Lib.hid (And.intro SB (And.intro SL (And.intro SK SO)))
  clear HM1 HL1 HK1 HO1 BX0 F2 SL SK SO SB F2'
  go_wp2
  go_region_law (first
    | (refine step_appG rfl (.tmp 49) (.tmp 52) rfl _ oK K ((GK.out.fr0 (Fr.alloc (fun _ => False) W (.cells #[.int .i64 x] 3))).fr0 (Fr.drew _ _)) _ HNK.out rfl _ 1 _ [x] rfl ⟨rfl, fun _ => ⟨_, rfl, one_cell W _ rfl x 3⟩⟩ (by have := HKN.out; have := HNK.out; omega) ?_
       intro s1 cap1 own1 w1 hl1 hf1 ho1
       obtain ⟨W2, hW2⟩ : ∃ W2, w1.setCell ⟨b, 1, none⟩ (.slice s1 (nK + 1) cap1) = W2 := ⟨_, rfl⟩
       have FX := (Fr.alloc (fun _ => False) W (.cells #[.int .i64 x] 3)).trans (Fr.drew _ _) (fun _ _ h => h)
       have AL := Lib.hid (setK_all GM.out GL.out GK.out GO.out HS.out (FX.weak.trans hf1 (fun _ _ h => h)) (newG FX ho1) hl1 bx _ GB.out GS.out.1 GS.out.2.2.1 W2 hW2)
       have HW2 := Lib.hid hW2
       clear c1 z1
       have c1 := AL.out.1.c1
       have z1 := AL.out.1.fz 1
       clear hl1 hf1 ho1 hW2 FX))
  all_goals
    rw [HW2.out]
    have HM1 := AL.out.2.1
    have BX0 := AL.out.2.2.2.2.2.2.2.1
    have GM' := Lib.hid HM1
    have GL' := Lib.hid AL.out.2.2.1
    have GK' := Lib.hid AL.out.2.2.2.1
    have GO' := Lib.hid AL.out.2.2.2.2.1
    have GP := Lib.hid AL.out.2.2.2.2.2.1
    have GF' := Lib.hid (GF.out.weak.trans AL.out.2.2.2.2.2.2.1 (fun _ _ h => h))
    clear c0 c1 z0 z1 x0 x1 x2 hlt hlx GM GL GK GO GB GF GS HW2 AL
    have GM := GM'
    have GL := GL'
    have GK := GK'
    have GO := GO'
    have GF := GF'
    clear GM' GL' GK' GO' GF'
    have c0 := RMod.c0 HM1
    have c1 := RMod.c1 HM1
    have z0 := RMod.fz HM1 0
    have z1 := RMod.fz HM1 1
    have x0 := (box_at BX0).1
    have x1 := (box_at BX0).2.1
    have x2 := (box_at BX0).2.2
    have hlt := heap_lt HM1
    have hlx := heap_lt BX0
    clear HM1 BX0
    go_wp2
    go_region_law (first
      | (refine step_appG rfl (.tmp 60) (.tmp 63) rfl _ oL L ((GL.out.fr0 (Fr.alloc (fun _ => False) W2 (.cells #[.int .i64 y] 3))).fr0 (Fr.drew _ _)) _ HNL.out rfl _ 1 _ [y] rfl ⟨rfl, fun _ => ⟨_, rfl, one_cell W2 _ rfl y 3⟩⟩ (by have := HLN.out; have := HNL.out; omega) ?_
         intro s2 cap2 own2 w2 hl1 hf1 ho1
         have FX := (Fr.alloc (fun _ => False) W2 (.cells #[.int .i64 y] 3)).trans (Fr.drew _ _) (fun _ _ h => h)
         have HD := Lib.hid (RS.setL GM.out GL.out GK.out GO.out GP.out (FX.weak.trans hf1 (fun _ _ h => h)) (newG FX ho1) hl1)
         have c0 := HD.out.1.c0
         have z0 := HD.out.1.fz 0
         clear hl1 hf1 ho1 FX))
    all_goals first | (refine bodyPost_ret (results_none rfl _ _ _) rfl ?_) | go_end0 | (go_wp2; first | (refine bodyPost_ret (results_none rfl _ _ _) rfl ?_) | go_end0)
    all_goals exact ⟨rfl, HD.out.2.1, GF.out.trans HD.out.2.2 (fun _ _ h => h)⟩
end Go.Proofs.YtpnbhoeghncnnaaGreatDoor
namespace Go.Proofs.YtpnbhoeghncnnaaGreatDoor
open Go.RowKit
set_option maxHeartbeats 1000000 in
theorem rtable_force_old (B b : Nat) (L K : List Int) (lo hi : Int) (O : List Int) (x y : Int) (w : World) (h : RS B w b L K lo hi O 0 false) (hn : O.length ≤ 1000) (hkn : K.length ≤ 1000) (hln : L.length ≤ 1000) (q : Int) (k : Nat) (hqk : q = k) (hkl : k < L.length) (hkk : k < K.length) (hq : ixI (fun y => x == y) K = q) :
    Calls Tryz.prog 22 #[.pointer (some ⟨b, 0, none⟩), .agg #[.string ⟨#[102, 111, 114, 99, 101]⟩, .int .i64 x, .int .i64 y]] w fun e w' => e = .returned (.tuple #[]) ∧ RDid B w b (L.set k y) K lo hi O 0 false w' := by
  subst hqk
  have HKN := Lib.hid hkn
  have HLN := Lib.hid hln
  have HQ := Lib.hid hq
  clear hq hkn hln
  have HQK := Lib.hid hkl
  have HQKK := Lib.hid hkk
  clear hkl hkk
  have H := Lib.hid h
  obtain ⟨vL, vK, vO, oL, oK, oO, hm, hl, hk, ho, hs⟩ := h
  obtain ⟨sL, cL, rfl⟩ := hl.form
  obtain ⟨sK, cK, rfl⟩ := hk.form
  have hlt := heap_lt hm
  generalize hLn : L.length = nL at hm hl
  generalize hKn : K.length = nK at hm hk
  have HNL := Lib.hid hLn
  have HNK := Lib.hid hKn
  clear hLn hKn
  have c0 := hm.c0
  have c1 := hm.c1
  have HM := Lib.hid hm
  have HL := Lib.hid hl
  have HK := Lib.hid hk
  have HO := Lib.hid ho
  have HS := Lib.hid hs
  have HN := Lib.hid hn
  clear hm hl hk ho hs hn
  go_enter Tryz.func22, Tryz.ntmps22
  go_wp2
  have F0 := Lib.hid (Fr.alloc (fun _ => False) w (.cells #[.string ⟨#[102, 111, 114, 99, 101]⟩, .int .i64 x, .int .i64 y] 40))
  go_quiet ((first | (go_at_call 80; exact Calls.quiet_of_same (rindex_q _ _ oK K ((HK.out.fr0 F0.out).fr0 (Fr.drewN _ _ _)) x (k : Int) HKN.out HQ.out))))
  have F1 := Lib.hid (F0.out.trans (Fr.drewN _ _ nq) (fun _ _ h => h))
  have BX0 := (Fr.drewN (fun _ => False) (w.alloc (.cells #[.string ⟨#[102, 111, 114, 99, 101]⟩, .int .i64 x, .int .i64 y] 40)) nq).heap (heap_alloc_new w (.cells #[.string ⟨#[102, 111, 114, 99, 101]⟩, .int .i64 x, .int .i64 y] 40)) id
  have HM1 := F1.out.heap HM.out id
  have HL1 := HL.out.fr0 F1.out
  have HK1 := HK.out.fr0 F1.out
  have HO1 := HO.out.fr0 F1.out
  have F2 := F1.out
  have SL : ∀ g, oL = some g → g ≠ w.heap.size := fun g hg => by have := HL.out.own_lt hg; omega
  have SK : ∀ g, oK = some g → g ≠ w.heap.size := fun g hg => by have := HK.out.own_lt hg; omega
  have SO : ∀ g, oO = some g → g ≠ w.heap.size := fun g hg => by have := HO.out.own_lt hg; omega
  have SB : b ≠ w.heap.size := by omega
  clear F0 F1 c0 c1 hlt
  generalize (w.alloc (.cells #[.string ⟨#[102, 111, 114, 99, 101]⟩, .int .i64 x, .int .i64 y] 40)).drewN nq = W at BX0 HM1 HL1 HK1 HO1 F2 ⊢
  have F2' := F2.size
  generalize w.heap.size = bx at BX0 SL SK SO SB ⊢
  have c0 := RMod.c0 HM1
  have c1 := RMod.c1 HM1
  have z0 := RMod.fz HM1 0
  have z1 := RMod.fz HM1 1
  have x0 := (box_at BX0).1
  have x1 := (box_at BX0).2.1
  have x2 := (box_at BX0).2.2
  have hlt := heap_lt HM1
  have hlx := heap_lt BX0
  have GM := Lib.hid HM1
  have GL := Lib.hid HL1
  have GK := Lib.hid HK1
  have GO := Lib.hid HO1
  have GB := Lib.hid BX0
  have GF := Lib.hid F2
  have GS := Lib.hid (And.intro SB (And.intro SL (And.intro SK SO)))
  clear HM1 HL1 HK1 HO1 BX0 F2 SL SK SO SB F2'
  have hk1 : k < nL := by have := HQK.out; have := HNL.out; omega
  have hk2 : (k : Int) ≤ 1000 := by have := HQK.out; have := HLN.out; omega
  have hsrc := GL.out.src_to nL (by have := HNL.out; omega)
  rw [show L.take nL = L by rw [← HNL.out]; exact List.take_length] at hsrc
  have HSRC := Lib.hid hsrc
  have BL := Lib.hid (show 0 + nL ≤ 100000 by have := HLN.out; have := HNL.out; omega)
  clear hsrc
  go_wp2_with (first
    | (at_builtin; go_loud (refine wpList_appG rfl (.tmp 68) (.tmp 72) rfl _ _ [] (Lst.empty W) 0 rfl rfl sL nL _ L rfl (HSRC.out.fr0 (Fr.alloc _ _ _)) BL.out ?_; intro s1 cap1 own1 w1 hl1 hf1 ho1; simp only [Nat.zero_add, List.nil_append] at hl1 ⊢; obtain ⟨W2, hW2⟩ : ∃ W2, w1.setCell ⟨b, 0, none⟩ (.slice s1 nL cap1) = W2 := ⟨_, rfl⟩; have FX := (Fr.alloc (fun _ => False) W (.cells #[] 3)).trans hf1 (fun i hi h => by cases h; omega); have AL := Lib.hid (setL_all GM.out GL.out GK.out GO.out HS.out FX.weak (newF (Fr.refl _ W) (grown_own (Fr.alloc (fun _ => False) W (.cells #[] 3)) (.inr ⟨_, rfl, Nat.le_refl _⟩) ho1 (Nat.le_refl _))) hl1 bx _ GB.out GS.out.1 GS.out.2.1 W2 hW2); have HW2 := Lib.hid hW2; clear c0 z0; have c0 := AL.out.1.c0; have z0 := AL.out.1.fz 0; clear hl1 hf1 ho1 hW2 FX)))
  all_goals
    rw [HW2.out]
    obtain ⟨z, hz⟩ : ∃ z, L[k]? = some z := get_of_lt L HQK.out
    obtain ⟨g, o, rfl, hr, hg⟩ := AL.out.2.2.1.at_ hz
    have hfz := AL.out.2.2.1.own_at.2 (o + k)
    have HE := Lib.hid (RS.elem AL.out.2.1 AL.out.2.2.1 AL.out.2.2.2.1 AL.out.2.2.2.2.1 AL.out.2.2.2.2.2.1 k y)
    clear hz
    have HM1 := AL.out.2.1
    have BX0 := AL.out.2.2.2.2.2.2.2.1
    have GM' := Lib.hid HM1
    have GL' := Lib.hid AL.out.2.2.1
    have GK' := Lib.hid AL.out.2.2.2.1
    have GO' := Lib.hid AL.out.2.2.2.2.1
    have GP := Lib.hid AL.out.2.2.2.2.2.1
    have GF' := Lib.hid (GF.out.weak.trans AL.out.2.2.2.2.2.2.1 (fun _ _ h => h))
    clear c0 c1 z0 z1 x0 x1 x2 hlt hlx GM GL GK GO GB GF GS HW2 AL
    have GM := GM'
    have GL := GL'
    have GK := GK'
    have GO := GO'
    have GF := GF'
    clear GM' GL' GK' GO' GF'
    have c0 := RMod.c0 HM1
    have c1 := RMod.c1 HM1
    have z0 := RMod.fz HM1 0
    have z1 := RMod.fz HM1 1
    have x0 := (box_at BX0).1
    have x1 := (box_at BX0).2.1
    have x2 := (box_at BX0).2.2
    have hlt := heap_lt HM1
    have hlx := heap_lt BX0
    clear HM1 BX0
    go_region
    all_goals go_end0
    all_goals exact ⟨rfl, RDid.tr GF.out (RDid.then_ HE.out (Fr.drew _ _))⟩
set_option maxHeartbeats 1000000 in
theorem rtable_remove_no (B b : Nat) (L K : List Int) (lo hi : Int) (O : List Int) (x y : Int) (w : World) (h : RS B w b L K lo hi O 0 false) (hn : O.length ≤ 1000) (hkn : K.length ≤ 1000) (hln : L.length ≤ 1000) (q : Int) (hq : ixI (fun y => x == y) K = q) (h0 : q < 0) :
    Calls Tryz.prog 22 #[.pointer (some ⟨b, 0, none⟩), .agg #[.string ⟨#[114, 101, 109, 111, 118, 101]⟩, .int .i64 x, .int .i64 y]] w fun e w' => e = .returned (.tuple #[]) ∧ RDid B w b L K lo hi O 0 false w' := by
  have HKN := Lib.hid hkn
  have HLN := Lib.hid hln
  have HQ := Lib.hid hq
  clear hq hkn hln
  have H := Lib.hid h
  obtain ⟨vL, vK, vO, oL, oK, oO, hm, hl, hk, ho, hs⟩ := h
  obtain ⟨sL, cL, rfl⟩ := hl.form
  obtain ⟨sK, cK, rfl⟩ := hk.form
  have hlt := heap_lt hm
  generalize hLn : L.length = nL at hm hl
  generalize hKn : K.length = nK at hm hk
  have HNL := Lib.hid hLn
  have HNK := Lib.hid hKn
  clear hLn hKn
  have c0 := hm.c0
  have c1 := hm.c1
  have HM := Lib.hid hm
  have HL := Lib.hid hl
  have HK := Lib.hid hk
  have HO := Lib.hid ho
  have HS := Lib.hid hs
  have HN := Lib.hid hn
  clear hm hl hk ho hs hn
  go_enter Tryz.func22, Tryz.ntmps22
  go_wp2
  have F0 := Lib.hid (Fr.alloc (fun _ => False) w (.cells #[.string ⟨#[114, 101, 109, 111, 118, 101]⟩, .int .i64 x, .int .i64 y] 40))
  go_quiet ((first | (go_at_call 80; exact Calls.quiet_of_same (rindex_q _ _ oK K ((HK.out.fr0 F0.out).fr0 (Fr.drewN _ _ _)) x q HKN.out HQ.out))))
  have F1 := Lib.hid (F0.out.trans (Fr.drewN _ _ nq) (fun _ _ h => h))
  have BX0 := (Fr.drewN (fun _ => False) (w.alloc (.cells #[.string ⟨#[114, 101, 109, 111, 118, 101]⟩, .int .i64 x, .int .i64 y] 40)) nq).heap (heap_alloc_new w (.cells #[.string ⟨#[114, 101, 109, 111, 118, 101]⟩, .int .i64 x, .int .i64 y] 40)) id
  have HM1 := F1.out.heap HM.out id
  have HL1 := HL.out.fr0 F1.out
  have HK1 := HK.out.fr0 F1.out
  have HO1 := HO.out.fr0 F1.out
  have F2 := F1.out
  have SL : ∀ g, oL = some g → g ≠ w.heap.size := fun g hg => by have := HL.out.own_lt hg; omega
  have SK : ∀ g, oK = some g → g ≠ w.heap.size := fun g hg => by have := HK.out.own_lt hg; omega
  have SO : ∀ g, oO = some g → g ≠ w.heap.size := fun g hg => by have := HO.out.own_lt hg; omega
  have SB : b ≠ w.heap.size := by omega
  clear F0 F1 c0 c1 hlt
  generalize (w.alloc (.cells #[.string ⟨#[114, 101, 109, 111, 118, 101]⟩, .int .i64 x, .int .i64 y] 40)).drewN nq = W at BX0 HM1 HL1 HK1 HO1 F2 ⊢
  have F2' := F2.size
  generalize w.heap.size = bx at BX0 SL SK SO SB ⊢
  have c0 := RMod.c0 HM1
  have c1 := RMod.c1 HM1
  have z0 := RMod.fz HM1 0
  have z1 := RMod.fz HM1 1
  have x0 := (box_at BX0).1
  have x1 := (box_at BX0).2.1
  have x2 := (box_at BX0).2.2
  have hlt := heap_lt HM1
  have hlx := heap_lt BX0
  have GM := Lib.hid HM1
  have GL := Lib.hid HL1
  have GK := Lib.hid HK1
  have GO := Lib.hid HO1
  have GB := Lib.hid BX0
  have GF := Lib.hid F2
  have GS := Lib.hid (And.intro SB (And.intro SL (And.intro SK SO)))
  clear HM1 HL1 HK1 HO1 BX0 F2 SL SK SO SB F2'
  have RM1 := Lib.hid (setK_all GM.out GL.out GK.out GO.out HS.out (Fr.refl (fun k => oK = some k) W) (.inl rfl) GK.out bx _ GB.out GS.out.1 GS.out.2.2.1 _ rfl)
  have HD := Lib.hid (RS.setL RM1.out.2.1 RM1.out.2.2.1 RM1.out.2.2.2.1 RM1.out.2.2.2.2.1 RM1.out.2.2.2.2.2.1 (Fr.refl (fun k => oL = some k) _) (.inl rfl) RM1.out.2.2.1)
  go_wp2_with (first
    | (go_at_call 82; refine (rwithout_no _ _ _ _ _ (by omega)).mono ?_; rintro e w2 ⟨rfl, rfl⟩))
  all_goals first | (refine bodyPost_ret (results_none rfl _ _ _) rfl ?_) | go_end0 | (go_wp2; first | (refine bodyPost_ret (results_none rfl _ _ _) rfl ?_) | go_end0)
  all_goals exact ⟨rfl, HD.out.2.1, (GF.out.weak.trans RM1.out.2.2.2.2.2.2.1 (fun _ _ h => h)).trans HD.out.2.2 (fun _ _ h => h)⟩
set_option maxRecDepth 100000 in
set_option maxHeartbeats 2000000 in
theorem rtable_remove_yes (B b : Nat) (L K : List Int) (lo hi : Int) (O : List Int) (x y : Int) (w : World) (h : RS B w b L K lo hi O 0 false) (hn : O.length ≤ 1000) (hkn : K.length ≤ 1000) (hln : L.length ≤ 1000) (q : Int) (k : Nat) (hqk : q = k) (hkl : k < L.length) (hkk : k < K.length) (hq : ixI (fun y => x == y) K = q) :
    Calls Tryz.prog 22 #[.pointer (some ⟨b, 0, none⟩), .agg #[.string ⟨#[114, 101, 109, 111, 118, 101]⟩, .int .i64 x, .int .i64 y]] w fun e w' => e = .returned (.tuple #[]) ∧ RDid B w b (delAt k L) (delAt k K) lo hi O 0 false w' := by
  subst hqk
  have HKN := Lib.hid hkn
  have HLN := Lib.hid hln
  have HQ := Lib.hid hq
  clear hq hkn hln
  have HQK := Lib.hid hkl
  have HQKK := Lib.hid hkk
  clear hkl hkk
  have H := Lib.hid h
  obtain ⟨vL, vK, vO, oL, oK, oO, hm, hl, hk, ho, hs⟩ := h
  obtain ⟨sL, cL, rfl⟩ := hl.form
  obtain ⟨sK, cK, rfl⟩ := hk.form
  have hlt := heap_lt hm
  generalize hLn : L.length = nL at hm hl
  generalize hKn : K.length = nK at hm hk
  have HNL := Lib.hid hLn
  have HNK := Lib.hid hKn
  clear hLn hKn
  have c0 := hm.c0
  have c1 := hm.c1
  have HM := Lib.hid hm
  have HL := Lib.hid hl
  have HK := Lib.hid hk
  have HO := Lib.hid ho
  have HS := Lib.hid hs
  have HN := Lib.hid hn
  clear hm hl hk ho hs hn
  go_enter Tryz.func22, Tryz.ntmps22
  go_wp2
  have F0 := Lib.hid (Fr.alloc (fun _ => False) w (.cells #[.string ⟨#[114, 101, 109, 111, 118, 101]⟩, .int .i64 x, .int .i64 y] 40))
  go_quiet ((first | (go_at_call 80; exact Calls.quiet_of_same (rindex_q _ _ oK K ((HK.out.fr0 F0.out).fr0 (Fr.drewN _ _ _)) x (k : Int) HKN.out HQ.out))))
  have F1 := Lib.hid (F0.out.trans (Fr.drewN _ _ nq) (fun _ _ h => h))
  have BX0 := (Fr.drewN (fun _ => False) (w.alloc (.cells #[.string ⟨#[114, 101, 109, 111, 118, 101]⟩, .int .i64 x, .int .i64 y] 40)) nq).heap (heap_alloc_new w (.cells #[.string ⟨#[114, 101, 109, 111, 118, 101]⟩, .int .i64 x, .int .i64 y] 40)) id
  have HM1 := F1.out.heap HM.out id
  have HL1 := HL.out.fr0 F1.out
  have HK1 := HK.out.fr0 F1.out
  have HO1 := HO.out.fr0 F1.out
  have F2 := F1.out
  have SL : ∀ g, oL = some g → g ≠ w.heap.size := fun g hg => by have := HL.out.own_lt hg; omega
  have SK : ∀ g, oK = some g → g ≠ w.heap.size := fun g hg => by have := HK.out.own_lt hg; omega
  have SO : ∀ g, oO = some g → g ≠ w.heap.size := fun g hg => by have := HO.out.own_lt hg; omega
  have SB : b ≠ w.heap.size := by omega
  clear F0 F1 c0 c1 hlt
  generalize (w.alloc (.cells #[.string ⟨#[114, 101, 109, 111, 118, 101]⟩, .int .i64 x, .int .i64 y] 40)).drewN nq = W at BX0 HM1 HL1 HK1 HO1 F2 ⊢
  have F2' := F2.size
  generalize w.heap.size = bx at BX0 SL SK SO SB ⊢
  have c0 := RMod.c0 HM1
  have c1 := RMod.c1 HM1
  have z0 := RMod.fz HM1 0
  have z1 := RMod.fz HM1 1
  have x0 := (box_at BX0).1
  have x1 := (box_at BX0).2.1
  have x2 := (box_at BX0).2.2
  have hlt := heap_lt HM1
  have hlx := heap_lt BX0
  have GM := Lib.hid HM1
  have GL := Lib.hid HL1
  have GK := Lib.hid HK1
  have GO := Lib.hid HO1
  have GB := Lib.hid BX0
  have GF := Lib.hid F2
  have GS := Lib.hid (And.intro SB (And.intro SL (And.intro SK SO)))
  clear HM1 HL1 HK1 HO1 BX0 F2 SL SK SO SB F2'
  have hk2 : (k : Int) ≤ 1000 := by have := HQK.out; have := HLN.out; omega
  go_wp2_with (first
    | (go_at_call 82; refine (rwithout_n _ _ _ _ oL L AL.out.2.2.1 HNL.out k HQK.out HLN.out).mono ?_; rintro e w2 ⟨v2, own2, rfl, hl2, hnew2, hf2⟩
       obtain ⟨s2, c2, rfl⟩ := hl2.form
       have HD := Lib.hid (RS.setL AL.out.2.1 AL.out.2.2.1 AL.out.2.2.2.1 AL.out.2.2.2.2.1 AL.out.2.2.2.2.2.1 hf2.weak (newF (Fr.refl _ _) hnew2) hl2)
       have d0 := HD.out.1.c0
       have d1 := HD.out.1.fz 0
       clear hl2 hf2 hnew2)
    | (go_at_call 82; refine (rwithout_n _ _ _ _ oK K GK.out HNK.out k HQKK.out HKN.out).mono ?_; rintro e w1 ⟨v', own', rfl, hl1, hnew, hf1⟩
       obtain ⟨s', c', rfl⟩ := hl1.form
       have AL := Lib.hid (setK_all GM.out GL.out GK.out GO.out HS.out hf1.weak (newF (Fr.refl _ W) hnew) hl1 bx _ GB.out GS.out.1 GS.out.2.2.1 _ rfl)
       clear c1 z1 c0 z0
       have c1 := AL.out.1.c1
       have z1 := AL.out.1.fz 1
       have c0 := AL.out.1.c0
       have z0 := AL.out.1.fz 0
       clear hl1 hf1 hnew))
  all_goals first | (refine bodyPost_ret (results_none rfl _ _ _) rfl ?_) | go_end0 | (go_wp2; first | (refine bodyPost_ret (results_none rfl _ _ _) rfl ?_) | go_end0)
  all_goals exact ⟨rfl, HD.out.2.1, (GF.out.weak.trans AL.out.2.2.2.2.2.2.1 (fun _ _ h => h)).trans HD.out.2.2 (fun _ _ h => h)⟩
end Go.Proofs.YtpnbhoeghncnnaaGreatDoor

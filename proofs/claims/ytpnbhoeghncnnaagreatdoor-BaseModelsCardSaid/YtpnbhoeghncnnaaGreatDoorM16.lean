/-
  A part of the proof of Rows.BaseModelsCardSaid (for every class and script BaseModels answers true, and its arguments read as they did; the listed library variables as the program text lays them): texts RO5, RO6. By an AI agent.
-/
import Derived.Deep.QuietTactic
import Derived.BigQuiet
import Derived.IntWalk
import Derived.Test.YtpnbhoeghncnnaaGreatDoorM15
import Derived.Outline
set_option linter.all false
set_option linter.unusedVariables false
set_option linter.unusedSimpArgs false
namespace Go.Proofs.YtpnbhoeghncnnaaGreatDoor
open Go.RowKit
set_option maxRecDepth 100000 in
set_option maxHeartbeats 4000000 in
theorem rints_sreverse (B b : Nat) (L K : List Int) (lo hi : Int) (O : List Int) (x y : Int) (w : World) (h : RS B w b L K lo hi O 0 false) (hn : O.length ≤ 1000) (hln : L.length ≤ 1000) :
    Calls Tryz.prog 19 #[.pointer (some ⟨b, 0, none⟩), .agg #[.string ⟨#[114, 101, 118, 101, 114, 115, 101]⟩, .int .i64 x, .int .i64 y], .bool true] w fun e w' => e = .returned (.tuple #[]) ∧ RDid B w b L K lo hi O 0 false w' := by
  have HLN := Lib.hid hln
  clear hln
  have H := Lib.hid h
  obtain ⟨vL, vK, vO, oL, oK, oO, hm, hl, hk, ho, hs⟩ := h
  obtain ⟨sL, cL, rfl⟩ := hl.form
  obtain ⟨sK, cK, rfl⟩ := hk.form
  have hlt := heap_lt hm
  generalize hLn : L.length = nL at hm hl
  generalize hKn : K.length = nK at hm hk
  have HNL := Lib.hid hLn
  have HNK := Lib.hid hKn
  clear hLn hKn
  have c0 := hm.c0
  have z0 := hm.fz 0
  have HM := Lib.hid hm
  have HL := Lib.hid hl
  have HK := Lib.hid hk
  have HO := Lib.hid ho
  have HS := Lib.hid hs
  have HN := Lib.hid hn
  clear hm hl hk ho hs hn
  have hw1 : IntKind.i64.wrap ((nL : Int) - 1) = (nL : Int) - 1 := by have h1 := HLN.out; have h2 := HNL.out; exact IntWalk.i64_in _ (by omega)
  have hl : (nL : Int) ≤ 1000 := by have h1 := HLN.out; have h2 := HNL.out; omega
  go_enter Tryz.func19, Tryz.ntmps19
  go_wp2
  go_loop [10] (fun p => p = .int .i64 ((nL : Int) - 1)) (fun _ => 0)
  case atStart => rfl
  case round =>
    obtain rfl := hrel
    rcases Nat.eq_zero_or_pos nL with h0 | h0
    · have h1 : (nL : Int) - 1 < 0 := by omega
      have h2 : (nL : Int) < 1 := by omega
      go_wp2
      all_goals first | (refine bodyPost_ret (results_none rfl _ _ _) rfl ?_) | go_end0 | (go_wp2; first | (refine bodyPost_ret (results_none rfl _ _ _) rfl ?_) | go_end0)
      all_goals exact ⟨rfl, H.out.fr0 (Fr.alloc _ _ _), (Fr.alloc _ _ _).weak⟩
    · have h1 : 0 ≤ (nL : Int) - 1 := by omega
      have h2 : 1 ≤ (nL : Int) := by omega
      go_wp2
      all_goals first | (refine bodyPost_ret (results_none rfl _ _ _) rfl ?_) | go_end0 | (go_wp2; first | (refine bodyPost_ret (results_none rfl _ _ _) rfl ?_) | go_end0)
      all_goals exact ⟨rfl, H.out.fr0 (Fr.alloc _ _ _), (Fr.alloc _ _ _).weak⟩
end Go.Proofs.YtpnbhoeghncnnaaGreatDoor
namespace Go.Proofs.YtpnbhoeghncnnaaGreatDoor
open Go.RowKit
theorem rev_take_next {xs : List Int} {m : Nat} {z : Int} (hz : xs[m]? = some z) : (xs.drop (m + 1)).reverse ++ [z] = (xs.drop m).reverse := by
  rw [drop_get hz, List.reverse_cons]
set_option maxRecDepth 100000 in
set_option maxHeartbeats 4000000 in
theorem rints_reverse (B b : Nat) (L K : List Int) (lo hi : Int) (O : List Int) (x y : Int) (w : World) (h : RS B w b L K lo hi O 0 false) (hn : O.length ≤ 1000) (hln : L.length ≤ 1000) :
    Calls Tryz.prog 19 #[.pointer (some ⟨b, 0, none⟩), .agg #[.string ⟨#[114, 101, 118, 101, 114, 115, 101]⟩, .int .i64 x, .int .i64 y], .bool false] w fun e w' => e = .returned (.tuple #[]) ∧ RDid B w b L.reverse K lo hi O 0 false w' := by
  have HLN := Lib.hid hln
  clear hln
  have H := Lib.hid h
  obtain ⟨vL, vK, vO, oL, oK, oO, hm, hl, hk, ho, hs⟩ := h
  obtain ⟨sL, cL, rfl⟩ := hl.form
  obtain ⟨sK, cK, rfl⟩ := hk.form
  have hlt := heap_lt hm
  generalize hLn : L.length = nL at hm hl
  generalize hKn : K.length = nK at hm hk
  have HNL := Lib.hid hLn
  have HNK := Lib.hid hKn
  clear hLn hKn
  have c0 := hm.c0
  have z0 := hm.fz 0
  have HM := Lib.hid hm
  have HL := Lib.hid hl
  have HK := Lib.hid hk
  have HO := Lib.hid ho
  have HS := Lib.hid hs
  have HN := Lib.hid hn
  clear hm hl hk ho hs hn
  have hw1 : IntKind.i64.wrap ((nL : Int) - 1) = (nL : Int) - 1 := by have h1 := HLN.out; have h2 := HNL.out; exact IntWalk.i64_in _ (by omega)
  have hl : (nL : Int) ≤ 1000 := by have h1 := HLN.out; have h2 := HNL.out; omega
  go_enter Tryz.func19, Tryz.ntmps19
  go_wp2
  have F0 := Lib.hid (Fr.alloc (fun _ => False) w (.cells #[.string ⟨#[114, 101, 118, 101, 114, 115, 101]⟩, .int .i64 x, .int .i64 y] 40))
  go_loopw [9, 10] (fun p r wr => ∃ (m n : Nat) (i : Int) (s : Option Addr) (c : Nat) (own : Option Nat), r = .int .i64 i ∧ i + 1 = m ∧ n + m = nL ∧ p = .slice s n c ∧ Lst wr (.slice s n c) own (L.drop m).reverse ∧ (own = none ∨ ∃ g, own = some g ∧ w.heap.size < g) ∧ Fr (fun _ => False) (w.alloc (.cells #[.string ⟨#[114, 101, 118, 101, 114, 115, 101]⟩, .int .i64 x, .int .i64 y] 40)) wr) (fun _ r _ => (intOf r + 1).toNat)
  case atStart => exact ⟨nL, 0, _, none, 0, none, rfl, by omega, by omega, rfl, by rw [← HNL.out, List.drop_length]; exact Lst.nil _, .inl rfl, Fr.refl _ _⟩
  case round =>
    obtain ⟨m, n, i, s, c, own, rfl, him, hnm, rfl, hlst, hown, hfr⟩ := hrel
    have HL2 := Lib.hid hlst
    have HOW := Lib.hid hown
    have HFR := Lib.hid hfr
    have HF3 := Lib.hid (F0.out.trans hfr (fun _ _ h => h))
    have c0' := (HF3.out).cell c0 id
    have z0' : wr.frozen? ⟨b, 0, none⟩ = false := heap_frozen (HF3.out.heap HM.out id) 0
    have hl : (nL : Int) ≤ 1000 := by have h1 := HLN.out; have h2 := HNL.out; omega
    have hlt' : b < wr.heap.size := Nat.lt_of_lt_of_le hlt HF3.out.size
    have hlt2 : w.heap.size < wr.heap.size := by have := hfr.size; simp at this; omega
    clear hlst hown hfr
    have HNM := Lib.hid hnm
    clear hnm
    rcases Nat.eq_zero_or_pos m with hm0 | hm0
    · subst hm0
      obtain rfl : i = -1 := by omega
      clear him
      have HD := Lib.hid (RS.setL HM.out HL.out HK.out HO.out HS.out HF3.out.weak (by rcases HOW.out with h | ⟨g, h, hg⟩; exact .inr (.inl h); exact .inr (.inr ⟨g, h, by omega⟩)) HL2.out)
      go_wp2
      all_goals first | (refine bodyPost_ret (results_none rfl _ _ _) rfl ?_) | go_end0 | (go_wp2; first | (refine bodyPost_ret (results_none rfl _ _ _) rfl ?_) | go_end0)
      all_goals exact ⟨rfl, HD.out.2⟩
    · obtain ⟨k, rfl⟩ : ∃ k, m = k + 1 := ⟨m - 1, by omega⟩
      obtain rfl : i = k := by omega
      obtain ⟨z, hz⟩ : ∃ z, L[k]? = some z := get_of_lt L (by have h1 := HNL.out; have h2 := HNM.out; omega)
      obtain ⟨g, o, rfl, hr, hg⟩ := HL.out.at_ hz
      have hr' := HF3.out.cell hr id
      have hg' : g < wr.heap.size := Nat.lt_of_lt_of_le hg HF3.out.size
      have hkn : k < nL := by have h2 := HNM.out; omega
      have hkn2 : (k : Int) ≤ 1000 := by omega
      have HZ := Lib.hid hz
      clear hz him
      go_wp2_with (first
        | (at_builtin; refine wpList_appG rfl (.tmp 167) (.tmp 175) rfl _ own _ (HL2.out.fr0 (Fr.alloc _ wr _)) n (by have h1 := HNM.out; have h2 := HNL.out; rw [List.length_reverse, List.length_drop]; omega) rfl _ 1 _ [z] rfl ⟨rfl, fun _ => ⟨_, rfl, one_cell wr _ rfl z 3⟩⟩ (by have h1 := HNM.out; omega) ?_; intro s1 cap1 own1 w1 hl1 hf1 ho1
           rw [rev_take_next HZ.out] at hl1
           have R1 := Lib.hid hl1
           have R2 := Lib.hid ((Fr.alloc (fun _ => False) wr (.cells #[.int .i64 z] 3)).weak.trans hf1 (fun _ _ h => h))
           have R3 := Lib.hid ho1
           clear hl1 hf1 ho1))
      go_roundw
      case rel => exact ⟨k, n + 1, (k : Int) - 1, s1, cap1, own1, rfl, by omega, by have := HNM.out; omega, rfl, R1.out, (by
        rcases R3.out with h | h
        · rw [h]; exact HOW.out
        · exact .inr ⟨_, h, by simp only [World.alloc, Array.size_push]; omega⟩), HFR.out.trans R2.out (fun i hi h => by rcases HOW.out with h' | ⟨g', h', hg'⟩ <;> rw [h'] at h <;> cases h; simp at hi; omega)⟩
      case measure => simp [intOf]
end Go.Proofs.YtpnbhoeghncnnaaGreatDoor

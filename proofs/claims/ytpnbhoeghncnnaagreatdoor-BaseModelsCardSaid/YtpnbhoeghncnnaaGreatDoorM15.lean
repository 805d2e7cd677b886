/-
  A part of the proof of Rows.BaseModelsCardSaid (for every class and script BaseModels answers true, and its arguments read as they did; the listed library variables as the program text lays them): texts RM, RN, RO1, RO2, RO3, RO4. By an AI agent.
-/
import Derived.IntWalk
import Derived.Test.YtpnbhoeghncnnaaGreatDoorM14
import Derived.Outline
import Derived.Deep.QuietTactic
import Derived.BigQuiet
set_option linter.all false
set_option linter.unusedVariables false
set_option linter.unusedSimpArgs false
namespace Go.Proofs.YtpnbhoeghncnnaaGreatDoor
open Go.RowKit
theorem RS.long {B : Nat} {w w' : World} {b : Nat} {L K : List Int} {lo hi : Int} {O : List Int} {f : Int} {lg : Bool} (h : RS B w b L K lo hi O f lg) (hf : Fr (fun _ => False) (w.setCell ⟨b, 6, none⟩ (.bool true)) w') : RDid B w b L K lo hi O f true w' :=
  ⟨(h.set6 true).1.fr0 hf, (h.set6 true).2.trans hf (fun _ _ h => h.elim)⟩
theorem rproduct_ok (a b : Int) (w : World) (h0 : -1099511627776 ≤ a) (h1 : a ≤ 1099511627776) (h2 : -1099511627776 ≤ b) (h3 : b ≤ 1099511627776) (v : Int) (hv : inNum (a * b) = true) (hvv : a * b = v) :
    Calls Tryz.prog 84 #[.int .i64 a, .int .i64 b] w fun e w' => e = .returned (.tuple #[.int .i64 v, .bool true]) ∧ w = w' := by subst hvv; exact rproduct_in a b w h0 h1 h2 h3 hv
set_option maxHeartbeats 1000000 in
theorem rarith_tries_hi (B b : Nat) (L K : List Int) (lo hi : Int) (O : List Int) (x y : Int) (w : World) (h : RS B w b L K lo hi O 0 false) (hn : O.length ≤ 1000) (hx0 : -1099511627776 ≤ x) (hx1 : x ≤ 1099511627776) (hy0 : -1099511627776 ≤ y) (hy1 : y ≤ 1099511627776) (hx : 20 < x) :
    Calls Tryz.prog 26 #[.pointer (some ⟨b, 0, none⟩), .agg #[.string ⟨#[116, 114, 105, 101, 115]⟩, .int .i64 x, .int .i64 y]] w fun e w' => e = .returned (.tuple #[]) ∧ RRes B w b L K lo hi O (triesF x) w' := by
  have HR := Lib.hid (show triesF x = .stop 107 0 by unfold triesF; rw [if_neg (by omega)])
  have H := Lib.hid h
  obtain ⟨vL, vK, vO, oL, oK, oO, hm, hl, hk, ho, hs⟩ := h
  obtain ⟨sL, cL, rfl⟩ := hl.form
  obtain ⟨sK, cK, rfl⟩ := hk.form
  have hlt := heap_lt hm
  generalize hLn : L.length = nL at hm hl
  generalize hKn : K.length = nK at hm hk
  have HNL := Lib.hid hLn
  have HNK := Lib.hid hKn
  clear hLn hKn
  have c5 := hm.c5
  have z5 := hm.fz 5
  have c6 := hm.c6
  have z6 := hm.fz 6
  have HM := Lib.hid hm
  have HL := Lib.hid hl
  have HK := Lib.hid hk
  have HO := Lib.hid ho
  have HS := Lib.hid hs
  have HN := Lib.hid hn
  clear hm hl hk ho hs hn
  go_enter Tryz.func26, Tryz.ntmps26
  go_wp2
  first | (refine bodyPost_ret (results_none rfl _ _ _) rfl ?_) | go_end0
  exact ⟨rfl, RRes.of HR.out.symm (show RRes B w b L K lo hi O (.stop 107 0) _ from H.out.fault 107 (Fr.alloc _ _ _))⟩
set_option maxHeartbeats 1000000 in
theorem rarith_tries_lo (B b : Nat) (L K : List Int) (lo hi : Int) (O : List Int) (x y : Int) (w : World) (h : RS B w b L K lo hi O 0 false) (hn : O.length ≤ 1000) (hx0 : -1099511627776 ≤ x) (hx1 : x ≤ 1099511627776) (hy0 : -1099511627776 ≤ y) (hy1 : y ≤ 1099511627776) (hx : x ≤ 20) (v : Int) (hv : max 0 x = v) :
    Calls Tryz.prog 26 #[.pointer (some ⟨b, 0, none⟩), .agg #[.string ⟨#[116, 114, 105, 101, 115]⟩, .int .i64 x, .int .i64 y]] w fun e w' => e = .returned (.tuple #[]) ∧ RRes B w b L K lo hi O (triesF x) w' := by
  have HR := Lib.hid (show triesF x = .val v by unfold triesF; rw [if_pos hx]; subst hv; congr 1; split <;> omega)
  have H := Lib.hid h
  obtain ⟨vL, vK, vO, oL, oK, oO, hm, hl, hk, ho, hs⟩ := h
  obtain ⟨sL, cL, rfl⟩ := hl.form
  obtain ⟨sK, cK, rfl⟩ := hk.form
  have hlt := heap_lt hm
  generalize hLn : L.length = nL at hm hl
  generalize hKn : K.length = nK at hm hk
  have HNL := Lib.hid hLn
  have HNK := Lib.hid hKn
  clear hLn hKn
  have c5 := hm.c5
  have z5 := hm.fz 5
  have c6 := hm.c6
  have z6 := hm.fz 6
  have HM := Lib.hid hm
  have HL := Lib.hid hl
  have HK := Lib.hid hk
  have HO := Lib.hid ho
  have HS := Lib.hid hs
  have HN := Lib.hid hn
  clear hm hl hk ho hs hn
  go_enter Tryz.func26, Tryz.ntmps26
  go_wp2_with (first
    | (go_at_call 77; refine (put_any B b L K lo hi O 0 false _ _ (H.out.fr0 (Fr.alloc _ w _)) HN.out).mono ?_; rintro e w' ⟨rfl, hd⟩; have HD := Lib.hid (hd.tr ((Fr.alloc _ w _).weak)); clear hd))
  first | (refine bodyPost_ret (results_none rfl _ _ _) rfl ?_) | go_end0
  exact ⟨rfl, RRes.of HR.out.symm (show RRes B w b L K lo hi O (.val v) _ from HD.out)⟩
set_option maxHeartbeats 1000000 in
theorem rarith_gcd_nox (B b : Nat) (L K : List Int) (lo hi : Int) (O : List Int) (x y : Int) (w : World) (h : RS B w b L K lo hi O 0 false) (hn : O.length ≤ 1000) (hx0 : -1099511627776 ≤ x) (hx1 : x ≤ 1099511627776) (hy0 : -1099511627776 ≤ y) (hy1 : y ≤ 1099511627776) (hx : x < 0) :
    Calls Tryz.prog 26 #[.pointer (some ⟨b, 0, none⟩), .agg #[.string ⟨#[103, 99, 100]⟩, .int .i64 x, .int .i64 y]] w fun e w' => e = .returned (.tuple #[]) ∧ RRes B w b L K lo hi O (gcdF x y) w' := by
  have HR := Lib.hid (show gcdF x y = .stop 1 0 by unfold gcdF; rw [if_neg (by omega)])
  have H := Lib.hid h
  obtain ⟨vL, vK, vO, oL, oK, oO, hm, hl, hk, ho, hs⟩ := h
  obtain ⟨sL, cL, rfl⟩ := hl.form
  obtain ⟨sK, cK, rfl⟩ := hk.form
  have hlt := heap_lt hm
  generalize hLn : L.length = nL at hm hl
  generalize hKn : K.length = nK at hm hk
  have HNL := Lib.hid hLn
  have HNK := Lib.hid hKn
  clear hLn hKn
  have c5 := hm.c5
  have z5 := hm.fz 5
  have c6 := hm.c6
  have z6 := hm.fz 6
  have HM := Lib.hid hm
  have HL := Lib.hid hl
  have HK := Lib.hid hk
  have HO := Lib.hid ho
  have HS := Lib.hid hs
  have HN := Lib.hid hn
  clear hm hl hk ho hs hn
  go_enter Tryz.func26, Tryz.ntmps26
  go_wp2
  first | (refine bodyPost_ret (results_none rfl _ _ _) rfl ?_) | go_end0
  exact ⟨rfl, RRes.of HR.out.symm (show RRes B w b L K lo hi O (.stop 1 0) _ from H.out.fault 1 (Fr.alloc _ _ _))⟩
set_option maxHeartbeats 1000000 in
theorem rarith_gcd_noy (B b : Nat) (L K : List Int) (lo hi : Int) (O : List Int) (x y : Int) (w : World) (h : RS B w b L K lo hi O 0 false) (hn : O.length ≤ 1000) (hx0 : -1099511627776 ≤ x) (hx1 : x ≤ 1099511627776) (hy0 : -1099511627776 ≤ y) (hy1 : y ≤ 1099511627776) (hx : 0 ≤ x) (hy : y < 0) :
    Calls Tryz.prog 26 #[.pointer (some ⟨b, 0, none⟩), .agg #[.string ⟨#[103, 99, 100]⟩, .int .i64 x, .int .i64 y]] w fun e w' => e = .returned (.tuple #[]) ∧ RRes B w b L K lo hi O (gcdF x y) w' := by
  have HR := Lib.hid (show gcdF x y = .stop 1 0 by unfold gcdF; rw [if_neg (by omega)])
  have H := Lib.hid h
  obtain ⟨vL, vK, vO, oL, oK, oO, hm, hl, hk, ho, hs⟩ := h
  obtain ⟨sL, cL, rfl⟩ := hl.form
  obtain ⟨sK, cK, rfl⟩ := hk.form
  have hlt := heap_lt hm
  generalize hLn : L.length = nL at hm hl
  generalize hKn : K.length = nK at hm hk
  have HNL := Lib.hid hLn
  have HNK := Lib.hid hKn
  clear hLn hKn
  have c5 := hm.c5
  have z5 := hm.fz 5
  have c6 := hm.c6
  have z6 := hm.fz 6
  have HM := Lib.hid hm
  have HL := Lib.hid hl
  have HK := Lib.hid hk
  have HO := Lib.hid ho
  have HS := Lib.hid hs
  have HN := Lib.hid hn
  clear hm hl hk ho hs hn
  go_enter Tryz.func26, Tryz.ntmps26
  go_wp2
  first | (refine bodyPost_ret (results_none rfl _ _ _) rfl ?_) | go_end0
  exact ⟨rfl, RRes.of HR.out.symm (show RRes B w b L K lo hi O (.stop 1 0) _ from H.out.fault 1 (Fr.alloc _ _ _))⟩
set_option maxHeartbeats 1000000 in
theorem rarith_power_noa (B b : Nat) (L K : List Int) (lo hi : Int) (O : List Int) (x y : Int) (w : World) (h : RS B w b L K lo hi O 0 false) (hn : O.length ≤ 1000) (hx0 : -1099511627776 ≤ x) (hx1 : x ≤ 1099511627776) (hy0 : -1099511627776 ≤ y) (hy1 : y ≤ 1099511627776) (hx : x < 0) (hy : y < 0) :
    Calls Tryz.prog 26 #[.pointer (some ⟨b, 0, none⟩), .agg #[.string ⟨#[112, 111, 119, 101, 114]⟩, .int .i64 x, .int .i64 y]] w fun e w' => e = .returned (.tuple #[]) ∧ RRes B w b L K lo hi O (powF x y) w' := by
  have HR := Lib.hid (show powF x y = .stop 1 0 by unfold powF; rw [if_neg (by omega)])
  have H := Lib.hid h
  obtain ⟨vL, vK, vO, oL, oK, oO, hm, hl, hk, ho, hs⟩ := h
  obtain ⟨sL, cL, rfl⟩ := hl.form
  obtain ⟨sK, cK, rfl⟩ := hk.form
  have hlt := heap_lt hm
  generalize hLn : L.length = nL at hm hl
  generalize hKn : K.length = nK at hm hk
  have HNL := Lib.hid hLn
  have HNK := Lib.hid hKn
  clear hLn hKn
  have c5 := hm.c5
  have z5 := hm.fz 5
  have c6 := hm.c6
  have z6 := hm.fz 6
  have HM := Lib.hid hm
  have HL := Lib.hid hl
  have HK := Lib.hid hk
  have HO := Lib.hid ho
  have HS := Lib.hid hs
  have HN := Lib.hid hn
  clear hm hl hk ho hs hn
  go_enter Tryz.func26, Tryz.ntmps26
  go_wp2
  first | (refine bodyPost_ret (results_none rfl _ _ _) rfl ?_) | go_end0
  exact ⟨rfl, RRes.of HR.out.symm (show RRes B w b L K lo hi O (.stop 1 0) _ from H.out.fault 1 (Fr.alloc _ _ _))⟩
set_option maxHeartbeats 1000000 in
theorem rarith_power_nob (B b : Nat) (L K : List Int) (lo hi : Int) (O : List Int) (x y : Int) (w : World) (h : RS B w b L K lo hi O 0 false) (hn : O.length ≤ 1000) (hx0 : -1099511627776 ≤ x) (hx1 : x ≤ 1099511627776) (hy0 : -1099511627776 ≤ y) (hy1 : y ≤ 1099511627776) (hx : 0 ≤ x) (hy : y < 0) :
    Calls Tryz.prog 26 #[.pointer (some ⟨b, 0, none⟩), .agg #[.string ⟨#[112, 111, 119, 101, 114]⟩, .int .i64 x, .int .i64 y]] w fun e w' => e = .returned (.tuple #[]) ∧ RRes B w b L K lo hi O (powF x y) w' := by
  have HR := Lib.hid (show powF x y = .stop 1 0 by unfold powF; rw [if_neg (by omega)])
  have H := Lib.hid h
  obtain ⟨vL, vK, vO, oL, oK, oO, hm, hl, hk, ho, hs⟩ := h
  obtain ⟨sL, cL, rfl⟩ := hl.form
  obtain ⟨sK, cK, rfl⟩ := hk.form
  have hlt := heap_lt hm
  generalize hLn : L.length = nL at hm hl
  generalize hKn : K.length = nK at hm hk
  have HNL := Lib.hid hLn
  have HNK := Lib.hid hKn
  clear hLn hKn
  have c5 := hm.c5
  have z5 := hm.fz 5
  have c6 := hm.c6
  have z6 := hm.fz 6
  have HM := Lib.hid hm
  have HL := Lib.hid hl
  have HK := Lib.hid hk
  have HO := Lib.hid ho
  have HS := Lib.hid hs
  have HN := Lib.hid hn
  clear hm hl hk ho hs hn
  go_enter Tryz.func26, Tryz.ntmps26
  go_wp2
  first | (refine bodyPost_ret (results_none rfl _ _ _) rfl ?_) | go_end0
  exact ⟨rfl, RRes.of HR.out.symm (show RRes B w b L K lo hi O (.stop 1 0) _ from H.out.fault 1 (Fr.alloc _ _ _))⟩
set_option maxHeartbeats 1000000 in
theorem rarith_fact_no (B b : Nat) (L K : List Int) (lo hi : Int) (O : List Int) (x y : Int) (w : World) (h : RS B w b L K lo hi O 0 false) (hn : O.length ≤ 1000) (hx0 : -1099511627776 ≤ x) (hx1 : x ≤ 1099511627776) (hy0 : -1099511627776 ≤ y) (hy1 : y ≤ 1099511627776) (hx : x < 0) :
    Calls Tryz.prog 26 #[.pointer (some ⟨b, 0, none⟩), .agg #[.string ⟨#[102, 97, 99, 116]⟩, .int .i64 x, .int .i64 y]] w fun e w' => e = .returned (.tuple #[]) ∧ RRes B w b L K lo hi O (factF x) w' := by
  have HR := Lib.hid (show factF x = .stop 1 0 by unfold factF; rw [if_pos (by omega)])
  have H := Lib.hid h
  obtain ⟨vL, vK, vO, oL, oK, oO, hm, hl, hk, ho, hs⟩ := h
  obtain ⟨sL, cL, rfl⟩ := hl.form
  obtain ⟨sK, cK, rfl⟩ := hk.form
  have hlt := heap_lt hm
  generalize hLn : L.length = nL at hm hl
  generalize hKn : K.length = nK at hm hk
  have HNL := Lib.hid hLn
  have HNK := Lib.hid hKn
  clear hLn hKn
  have c5 := hm.c5
  have z5 := hm.fz 5
  have c6 := hm.c6
  have z6 := hm.fz 6
  have HM := Lib.hid hm
  have HL := Lib.hid hl
  have HK := Lib.hid hk
  have HO := Lib.hid ho
  have HS := Lib.hid hs
  have HN := Lib.hid hn
  clear hm hl hk ho hs hn
  go_enter Tryz.func26, Tryz.ntmps26
  go_wp2
  first | (refine bodyPost_ret (results_none rfl _ _ _) rfl ?_) | go_end0
  exact ⟨rfl, RRes.of HR.out.symm (show RRes B w b L K lo hi O (.stop 1 0) _ from H.out.fault 1 (Fr.alloc _ _ _))⟩
set_option maxHeartbeats 1000000 in
theorem rarith_fact_deep (B b : Nat) (L K : List Int) (lo hi : Int) (O : List Int) (x y : Int) (w : World) (h : RS B w b L K lo hi O 0 false) (hn : O.length ≤ 1000) (hx0 : -1099511627776 ≤ x) (hx1 : x ≤ 1099511627776) (hy0 : -1099511627776 ≤ y) (hy1 : y ≤ 1099511627776) (hx : 64 ≤ x) (hy : 0 ≤ y) :
    Calls Tryz.prog 26 #[.pointer (some ⟨b, 0, none⟩), .agg #[.string ⟨#[102, 97, 99, 116]⟩, .int .i64 x, .int .i64 y]] w fun e w' => e = .returned (.tuple #[]) ∧ RRes B w b L K lo hi O (factF x) w' := by
  have HR := Lib.hid (show factF x = .stop 9 0 by unfold factF; rw [if_neg (by omega), if_pos (by omega)])
  have H := Lib.hid h
  obtain ⟨vL, vK, vO, oL, oK, oO, hm, hl, hk, ho, hs⟩ := h
  obtain ⟨sL, cL, rfl⟩ := hl.form
  obtain ⟨sK, cK, rfl⟩ := hk.form
  have hlt := heap_lt hm
  generalize hLn : L.length = nL at hm hl
  generalize hKn : K.length = nK at hm hk
  have HNL := Lib.hid hLn
  have HNK := Lib.hid hKn
  clear hLn hKn
  have c5 := hm.c5
  have z5 := hm.fz 5
  have c6 := hm.c6
  have z6 := hm.fz 6
  have HM := Lib.hid hm
  have HL := Lib.hid hl
  have HK := Lib.hid hk
  have HO := Lib.hid ho
  have HS := Lib.hid hs
  have HN := Lib.hid hn
  clear hm hl hk ho hs hn
  go_enter Tryz.func26, Tryz.ntmps26
  go_wp2
  first | (refine bodyPost_ret (results_none rfl _ _ _) rfl ?_) | go_end0
  exact ⟨rfl, RRes.of HR.out.symm (show RRes B w b L K lo hi O (.stop 9 0) _ from H.out.fault 9 (Fr.alloc _ _ _))⟩
set_option maxRecDepth 100000 in
set_option maxHeartbeats 2000000 in
theorem rarith_gcd_yes (B b : Nat) (L K : List Int) (lo hi : Int) (O : List Int) (a c : Nat) (h1 : (a : Int) ≤ 1099511627776) (h3 : (c : Int) ≤ 1099511627776) (w : World) (h : RS B w b L K lo hi O 0 false) (hn : O.length ≤ 1000) :
    Calls Tryz.prog 26 #[.pointer (some ⟨b, 0, none⟩), .agg #[.string ⟨#[103, 99, 100]⟩, .int .i64 a, .int .i64 c]] w fun e w' => e = .returned (.tuple #[]) ∧ RRes B w b L K lo hi O (.val (Nat.gcd a c : Nat)) w' := by
  have p1 : (0 : Int) ≤ a := by omega
  have p2 : (0 : Int) ≤ c := by omega
  have H := Lib.hid h
  obtain ⟨vL, vK, vO, oL, oK, oO, hm, hl, hk, ho, hs⟩ := h
  obtain ⟨sL, cL, rfl⟩ := hl.form
  obtain ⟨sK, cK, rfl⟩ := hk.form
  have hlt := heap_lt hm
  generalize hLn : L.length = nL at hm hl
  generalize hKn : K.length = nK at hm hk
  have HNL := Lib.hid hLn
  have HNK := Lib.hid hKn
  clear hLn hKn
  have c5 := hm.c5
  have z5 := hm.fz 5
  have c6 := hm.c6
  have z6 := hm.fz 6
  have HM := Lib.hid hm
  have HL := Lib.hid hl
  have HK := Lib.hid hk
  have HO := Lib.hid ho
  have HS := Lib.hid hs
  have HN := Lib.hid hn
  clear hm hl hk ho hs hn
  go_enter Tryz.func26, Tryz.ntmps26
  go_wp2
  go_loop [4, 5] (fun u v => ∃ p q : Nat, u = .int .i64 p ∧ v = .int .i64 q ∧ (p : Int) ≤ 1099511627776 ∧ (q : Int) ≤ 1099511627776 ∧ Nat.gcd p q = Nat.gcd a c) (fun _ v => (intOf v).toNat)
  case atStart => exact ⟨a, c, rfl, rfl, h1, h3, rfl⟩
  case round =>
    obtain ⟨p, q, rfl, rfl, hp, hq, hg⟩ := hrel
    have HG := Lib.hid hg
    clear hg
    by_cases hz : q = 0
    · subst hz
      go_wp2_with (first
        | (go_at_call 77; refine (put_any B b L K lo hi O 0 false _ _ (H.out.fr0 (Fr.alloc _ w _)) HN.out).mono ?_; rintro e w' ⟨rfl, hd⟩; have HD := Lib.hid (hd.tr ((Fr.alloc _ w _).weak)); clear hd))
      first | (refine bodyPost_ret (results_none rfl _ _ _) rfl ?_) | go_end0
      exact ⟨rfl, RRes.of (by rw [← HG.out, Nat.gcd_zero_right]) (show RRes B w b L K lo hi O (.val (p : Int)) _ from HD.out)⟩
    · have hz' : ((q : Int) != 0) = true := by simpa using hz
      have q0 : (0 : Int) < q := by omega
      have hq0 : ¬ (q : Int) = 0 := by omega
      go_wp2
      go_round
      case rel => exact ⟨q, p % q, rfl, by simp, hq, by have := Nat.mod_lt p (show 0 < q by omega); omega, by rw [← HG.out, Nat.gcd_comm p q, Nat.gcd_rec q p, Nat.gcd_comm]⟩
      case measure => have := Nat.mod_lt p (show 0 < q by omega); simp [intOf]; omega
set_option maxRecDepth 100000 in
set_option maxHeartbeats 2000000 in
theorem rarith_power_yesa (B b : Nat) (L K : List Int) (lo hi : Int) (O : List Int) (a : Int) (c : Nat) (h0 : -1099511627776 ≤ a) (h1 : a ≤ 1099511627776) (hx : a < 0) (h3 : (c : Int) ≤ 1099511627776) (w : World) (h : RS B w b L K lo hi O 0 false) (hn : O.length ≤ 1000) :
    Calls Tryz.prog 26 #[.pointer (some ⟨b, 0, none⟩), .agg #[.string ⟨#[112, 111, 119, 101, 114]⟩, .int .i64 a, .int .i64 c]] w fun e w' => e = .returned (.tuple #[]) ∧ RRes B w b L K lo hi O (powFrom a c 0 1) w' := by
  have p2 : (0 : Int) ≤ c := by omega
  have H := Lib.hid h
  obtain ⟨vL, vK, vO, oL, oK, oO, hm, hl, hk, ho, hs⟩ := h
  obtain ⟨sL, cL, rfl⟩ := hl.form
  obtain ⟨sK, cK, rfl⟩ := hk.form
  have hlt := heap_lt hm
  generalize hLn : L.length = nL at hm hl
  generalize hKn : K.length = nK at hm hk
  have HNL := Lib.hid hLn
  have HNK := Lib.hid hKn
  clear hLn hKn
  have c5 := hm.c5
  have z5 := hm.fz 5
  have c6 := hm.c6
  have z6 := hm.fz 6
  have HM := Lib.hid hm
  have HL := Lib.hid hl
  have HK := Lib.hid hk
  have HO := Lib.hid ho
  have HS := Lib.hid hs
  have HN := Lib.hid hn
  clear hm hl hk ho hs hn
  go_enter Tryz.func26, Tryz.ntmps26
  go_wp2
  go_loop [7, 8] (fun u v => ∃ (n : Int) (k : Nat), u = .int .i64 n ∧ v = .int .i64 k ∧ k ≤ c ∧ k ≤ 100000 ∧ -1099511627776 ≤ n ∧ n ≤ 1099511627776 ∧ powFrom a (c - k) k n = powFrom a c 0 1) (fun _ v => c - (intOf v).toNat)
  case atStart => exact ⟨1, 0, rfl, rfl, by omega, by omega, by omega, by omega, rfl⟩
  case round =>
    obtain ⟨n, k, rfl, rfl, hk, hkm, hn0, hn1, hp⟩ := hrel
    have HP := Lib.hid hp
    clear hp
    by_cases hlt : k < c
    · obtain ⟨r, hr⟩ : ∃ r, c - k = r + 1 := ⟨c - k - 1, by omega⟩
      have hr' : c - (k + 1) = r := by omega
      by_cases hl : k = 100000
      · have hs : powFrom a (c - k) k n = .stop 0 3 := by rw [hr]; simp only [powFrom]; rw [if_pos (by omega)]
        have HS' := Lib.hid hs
        have hme : ((k : Int) == 100000) = true := by rw [beq_iff_eq]; omega
        clear hs hr hr' hl
        go_wp2
        refine bodyPost_ret (results_none rfl _ _ _) rfl ⟨rfl, RRes.of (HS'.out.symm.trans HP.out) ?_⟩
        exact H.out.long (Fr.alloc _ _ _)
      · have hme : ((k : Int) == 100000) = false := by rw [beq_eq_false_iff_ne]; omega
        have hk1 : k < 100000 := by omega
        cases hv : inNum (n * a) with
        | true =>
          have hs : powFrom a (c - k) k n = powFrom a (c - (k + 1)) (k + 1) (n * a) := by rw [hr, hr']; simp only [powFrom]; rw [if_neg (by omega), if_pos hv]
          have HS' := Lib.hid hs
          have HV := Lib.hid hv
          have hx := inNum_true.1 hv
          clear hs hr hr' hv hl
          go_wp2_with (go_at_call 84; refine (rproduct_in n a _ hn0 hn1 h0 h1 HV.out).mono ?_; rintro e w' ⟨rfl, rfl⟩)
          go_round
          case rel => exact ⟨n * a, k + 1, rfl, by go_num, by omega, by omega, hx.1, hx.2, by rw [← HS'.out]; exact HP.out⟩
          case measure => simp [intOf]; omega
        | false =>
          have hs : powFrom a (c - k) k n = .stop 7 0 := by rw [hr]; simp only [powFrom]; rw [if_neg (by omega), if_neg (by rw [hv]; decide)]
          have HS' := Lib.hid hs
          have HV := Lib.hid hv
          clear hs hr hr' hv hl
          go_wp2_with (go_at_call 84; refine (rproduct_out n a _ hn0 hn1 h0 h1 HV.out).mono ?_; rintro e w' ⟨rfl, rfl⟩)
          refine bodyPost_ret (results_none rfl _ _ _) rfl ⟨rfl, RRes.of (HS'.out.symm.trans HP.out) ?_⟩
          exact H.out.fault 7 (Fr.alloc _ _ _)
    · obtain rfl : k = c := by omega
      go_wp2_with (first
        | (go_at_call 77; refine (put_any B b L K lo hi O 0 false _ _ (H.out.fr0 (Fr.alloc _ w _)) HN.out).mono ?_; rintro e w' ⟨rfl, hd⟩; have HD := Lib.hid (hd.tr ((Fr.alloc _ w _).weak)); clear hd))
      first | (refine bodyPost_ret (results_none rfl _ _ _) rfl ?_) | go_end0
      exact ⟨rfl, RRes.of (by rw [← HP.out, Nat.sub_self]; rfl) (show RRes B w b L K lo hi O (.val n) _ from HD.out)⟩
set_option maxRecDepth 100000 in
set_option maxHeartbeats 2000000 in
theorem rarith_power_yesb (B b : Nat) (L K : List Int) (lo hi : Int) (O : List Int) (a : Int) (c : Nat) (h0 : -1099511627776 ≤ a) (h1 : a ≤ 1099511627776) (hx : 0 ≤ a) (h3 : (c : Int) ≤ 1099511627776) (w : World) (h : RS B w b L K lo hi O 0 false) (hn : O.length ≤ 1000) :
    Calls Tryz.prog 26 #[.pointer (some ⟨b, 0, none⟩), .agg #[.string ⟨#[112, 111, 119, 101, 114]⟩, .int .i64 a, .int .i64 c]] w fun e w' => e = .returned (.tuple #[]) ∧ RRes B w b L K lo hi O (powFrom a c 0 1) w' := by
  have p2 : (0 : Int) ≤ c := by omega
  have H := Lib.hid h
  obtain ⟨vL, vK, vO, oL, oK, oO, hm, hl, hk, ho, hs⟩ := h
  obtain ⟨sL, cL, rfl⟩ := hl.form
  obtain ⟨sK, cK, rfl⟩ := hk.form
  have hlt := heap_lt hm
  generalize hLn : L.length = nL at hm hl
  generalize hKn : K.length = nK at hm hk
  have HNL := Lib.hid hLn
  have HNK := Lib.hid hKn
  clear hLn hKn
  have c5 := hm.c5
  have z5 := hm.fz 5
  have c6 := hm.c6
  have z6 := hm.fz 6
  have HM := Lib.hid hm
  have HL := Lib.hid hl
  have HK := Lib.hid hk
  have HO := Lib.hid ho
  have HS := Lib.hid hs
  have HN := Lib.hid hn
  clear hm hl hk ho hs hn
  go_enter Tryz.func26, Tryz.ntmps26
  go_wp2
  go_loop [7, 8] (fun u v => ∃ (n : Int) (k : Nat), u = .int .i64 n ∧ v = .int .i64 k ∧ k ≤ c ∧ k ≤ 100000 ∧ -1099511627776 ≤ n ∧ n ≤ 1099511627776 ∧ powFrom a (c - k) k n = powFrom a c 0 1) (fun _ v => c - (intOf v).toNat)
  case atStart => exact ⟨1, 0, rfl, rfl, by omega, by omega, by omega, by omega, rfl⟩
  case round =>
    obtain ⟨n, k, rfl, rfl, hk, hkm, hn0, hn1, hp⟩ := hrel
    have HP := Lib.hid hp
    clear hp
    by_cases hlt : k < c
    · obtain ⟨r, hr⟩ : ∃ r, c - k = r + 1 := ⟨c - k - 1, by omega⟩
      have hr' : c - (k + 1) = r := by omega
      by_cases hl : k = 100000
      · have hs : powFrom a (c - k) k n = .stop 0 3 := by rw [hr]; simp only [powFrom]; rw [if_pos (by omega)]
        have HS' := Lib.hid hs
        have hme : ((k : Int) == 100000) = true := by rw [beq_iff_eq]; omega
        clear hs hr hr' hl
        go_wp2
        refine bodyPost_ret (results_none rfl _ _ _) rfl ⟨rfl, RRes.of (HS'.out.symm.trans HP.out) ?_⟩
        exact H.out.long (Fr.alloc _ _ _)
      · have hme : ((k : Int) == 100000) = false := by rw [beq_eq_false_iff_ne]; omega
        have hk1 : k < 100000 := by omega
        cases hv : inNum (n * a) with
        | true =>
          have hs : powFrom a (c - k) k n = powFrom a (c - (k + 1)) (k + 1) (n * a) := by rw [hr, hr']; simp only [powFrom]; rw [if_neg (by omega), if_pos hv]
          have HS' := Lib.hid hs
          have HV := Lib.hid hv
          have hx := inNum_true.1 hv
          clear hs hr hr' hv hl
          go_wp2_with (go_at_call 84; refine (rproduct_in n a _ hn0 hn1 h0 h1 HV.out).mono ?_; rintro e w' ⟨rfl, rfl⟩)
          go_round
          case rel => exact ⟨n * a, k + 1, rfl, by go_num, by omega, by omega, hx.1, hx.2, by rw [← HS'.out]; exact HP.out⟩
          case measure => simp [intOf]; omega
        | false =>
          have hs : powFrom a (c - k) k n = .stop 7 0 := by rw [hr]; simp only [powFrom]; rw [if_neg (by omega), if_neg (by rw [hv]; decide)]
          have HS' := Lib.hid hs
          have HV := Lib.hid hv
          clear hs hr hr' hv hl
          go_wp2_with (go_at_call 84; refine (rproduct_out n a _ hn0 hn1 h0 h1 HV.out).mono ?_; rintro e w' ⟨rfl, rfl⟩)
          refine bodyPost_ret (results_none rfl _ _ _) rfl ⟨rfl, RRes.of (HS'.out.symm.trans HP.out) ?_⟩
          exact H.out.fault 7 (Fr.alloc _ _ _)
    · obtain rfl : k = c := by omega
      go_wp2_with (first
        | (go_at_call 77; refine (put_any B b L K lo hi O 0 false _ _ (H.out.fr0 (Fr.alloc _ w _)) HN.out).mono ?_; rintro e w' ⟨rfl, hd⟩; have HD := Lib.hid (hd.tr ((Fr.alloc _ w _).weak)); clear hd))
      first | (refine bodyPost_ret (results_none rfl _ _ _) rfl ?_) | go_end0
      exact ⟨rfl, RRes.of (by rw [← HP.out, Nat.sub_self]; rfl) (show RRes B w b L K lo hi O (.val n) _ from HD.out)⟩
set_option maxRecDepth 100000 in
set_option maxHeartbeats 2000000 in
theorem rarith_fact_yes (B b : Nat) (L K : List Int) (lo hi : Int) (O : List Int) (a y : Int) (h0 : 0 ≤ a) (h1 : a < 64) (hy : 0 ≤ y) (w : World) (h : RS B w b L K lo hi O 0 false) (hn : O.length ≤ 1000) :
    Calls Tryz.prog 26 #[.pointer (some ⟨b, 0, none⟩), .agg #[.string ⟨#[102, 97, 99, 116]⟩, .int .i64 a, .int .i64 y]] w fun e w' => e = .returned (.tuple #[]) ∧ RRes B w b L K lo hi O (factFrom (a.toNat - 1) 2 1) w' := by
  have H := Lib.hid h
  obtain ⟨vL, vK, vO, oL, oK, oO, hm, hl, hk, ho, hs⟩ := h
  obtain ⟨sL, cL, rfl⟩ := hl.form
  obtain ⟨sK, cK, rfl⟩ := hk.form
  have hlt := heap_lt hm
  generalize hLn : L.length = nL at hm hl
  generalize hKn : K.length = nK at hm hk
  have HNL := Lib.hid hLn
  have HNK := Lib.hid hKn
  clear hLn hKn
  have c5 := hm.c5
  have z5 := hm.fz 5
  have c6 := hm.c6
  have z6 := hm.fz 6
  have HM := Lib.hid hm
  have HL := Lib.hid hl
  have HK := Lib.hid hk
  have HO := Lib.hid ho
  have HS := Lib.hid hs
  have HN := Lib.hid hn
  clear hm hl hk ho hs hn
  go_enter Tryz.func26, Tryz.ntmps26
  go_wp2
  go_loop [11, 12] (fun u v => ∃ (n k : Int), u = .int .i64 n ∧ v = .int .i64 k ∧ 2 ≤ k ∧ k ≤ 65 ∧ -1099511627776 ≤ n ∧ n ≤ 1099511627776 ∧ factFrom (a + 1 - k).toNat k n = factFrom (a.toNat - 1) 2 1) (fun _ v => (a + 1 - intOf v).toNat)
  case atStart => exact ⟨1, 2, rfl, rfl, by omega, by omega, by omega, by omega, by rw [show (a + 1 - 2).toNat = a.toNat - 1 by omega]⟩
  case round =>
    obtain ⟨n, k, rfl, rfl, hk0, hk1, hn0, hn1, hp⟩ := hrel
    have HP := Lib.hid hp
    clear hp
    by_cases hlt : k ≤ a
    · obtain ⟨r, hr⟩ : ∃ r, (a + 1 - k).toNat = r + 1 := ⟨(a - k).toNat, by omega⟩
      have hr' : (a + 1 - (k + 1)).toNat = r := by omega
      cases hv : inNum (n * k) with
      | true =>
        have hs : factFrom (a + 1 - k).toNat k n = factFrom (a + 1 - (k + 1)).toNat (k + 1) (n * k) := by rw [hr, hr']; simp only [factFrom]; rw [if_pos hv]
        have HS' := Lib.hid hs
        have HV := Lib.hid hv
        have hx := inNum_true.1 hv
        clear hs hr hr' hv
        go_wp2_with (go_at_call 84; refine (rproduct_in n k _ hn0 hn1 (by omega) (by omega) HV.out).mono ?_; rintro e w' ⟨rfl, rfl⟩)
        go_round
        case rel => exact ⟨n * k, k + 1, rfl, rfl, by omega, by omega, hx.1, hx.2, by rw [← HS'.out]; exact HP.out⟩
        case measure => simp [intOf]; omega
      | false =>
        have hs : factFrom (a + 1 - k).toNat k n = .stop 7 0 := by rw [hr]; simp only [factFrom]; rw [if_neg (by rw [hv]; decide)]
        have HS' := Lib.hid hs
        have HV := Lib.hid hv
        clear hs hr hr' hv
        go_wp2_with (go_at_call 84; refine (rproduct_out n k _ hn0 hn1 (by omega) (by omega) HV.out).mono ?_; rintro e w' ⟨rfl, rfl⟩)
        refine bodyPost_ret (results_none rfl _ _ _) rfl ⟨rfl, RRes.of (HS'.out.symm.trans HP.out) ?_⟩
        exact H.out.fault 7 (Fr.alloc _ _ _)
    · have hz : (a + 1 - k).toNat = 0 := by omega
      have HZ := Lib.hid hz
      clear hz
      go_wp2_with (first
        | (go_at_call 77; refine (put_any B b L K lo hi O 0 false _ _ (H.out.fr0 (Fr.alloc _ w _)) HN.out).mono ?_; rintro e w' ⟨rfl, hd⟩; have HD := Lib.hid (hd.tr ((Fr.alloc _ w _).weak)); clear hd))
      first | (refine bodyPost_ret (results_none rfl _ _ _) rfl ?_) | go_end0
      exact ⟨rfl, RRes.of (by rw [← HP.out, HZ.out]; rfl) (show RRes B w b L K lo hi O (.val n) _ from HD.out)⟩
end Go.Proofs.YtpnbhoeghncnnaaGreatDoor
namespace Go.Proofs.YtpnbhoeghncnnaaGreatDoor
open Go.RowKit
theorem insAt_end (x : Int) (xs : List Int) : insAt xs.length x xs = xs ++ [x] := by unfold insAt; rw [List.take_length, List.drop_length]
theorem rinsert_n (w : World) (s : Option Addr) (n c : Nat) (own : Option Nat) (xs : List Int) (h : Lst w (.slice s n c) own xs) (hx : xs.length = n) (k : Nat) (ki : Int) (hki : ki = k) (hk : k ≤ xs.length) (x : Int) (hn : xs.length ≤ 1000) (ys : List Int) (hys : insAt k x xs = ys) :
    Calls Tryz.prog 78 #[.slice s n c, .int .i64 ki, .int .i64 x] w fun e w' => ∃ v' own', e = .returned v' ∧ Lst w' v' own' ys ∧ (own' = none ∨ ∃ g, own' = some g ∧ w.heap.size ≤ g) ∧ Fr (fun _ => False) w w' := by
  subst hx hki hys
  exact rinsert_any w s c own xs h k hk x hn
set_option maxRecDepth 100000 in
set_option maxHeartbeats 4000000 in
theorem rints_count (B b : Nat) (L K : List Int) (lo hi : Int) (O : List Int) (x y : Int) (w : World) (h : RS B w b L K lo hi O 0 false) (hn : O.length ≤ 1000) (so : Bool) :
    Calls Tryz.prog 19 #[.pointer (some ⟨b, 0, none⟩), .agg #[.string ⟨#[99, 111, 117, 110, 116]⟩, .int .i64 x, .int .i64 y], .bool so] w fun e w' => e = .returned (.tuple #[]) ∧ RDid B w b L K lo hi (O ++ [(L.length : Int)]) 0 false w' := by
  have H := Lib.hid h
  obtain ⟨vL, vK, vO, oL, oK, oO, hm, hl, hk, ho, hs⟩ := h
  obtain ⟨sL, cL, rfl⟩ := hl.form
  obtain ⟨sK, cK, rfl⟩ := hk.form
  have hlt := heap_lt hm
  generalize hLn : L.length = nL at hm hl
  generalize hKn : K.length = nK at hm hk
  have HNL := Lib.hid hLn
  have HNK := Lib.hid hKn
  clear hLn hKn
  have c0 := hm.c0
  have HM := Lib.hid hm
  have HL := Lib.hid hl
  have HK := Lib.hid hk
  have HO := Lib.hid ho
  have HS := Lib.hid hs
  have HN := Lib.hid hn
  clear hm hl hk ho hs hn
  go_enter Tryz.func19, Tryz.ntmps19
  go_wp2_with (go_at_call 77; refine (put_any B b L K lo hi O 0 false _ _ (H.out.fr0 (Fr.alloc _ w _)) HN.out).mono ?_; rintro e w' ⟨rfl, hd⟩; have HD := Lib.hid (hd.tr ((Fr.alloc _ w _).weak)); clear hd)
  all_goals first | (refine bodyPost_ret (results_none rfl _ _ _) rfl ?_) | go_end0 | (go_wp2; first | (refine bodyPost_ret (results_none rfl _ _ _) rfl ?_) | go_end0)
  all_goals exact ⟨rfl, HD.out⟩
set_option maxRecDepth 100000 in
set_option maxHeartbeats 4000000 in
theorem rints_wipe (B b : Nat) (L K : List Int) (lo hi : Int) (O : List Int) (x y : Int) (w : World) (h : RS B w b L K lo hi O 0 false) (hn : O.length ≤ 1000) (so : Bool) :
    Calls Tryz.prog 19 #[.pointer (some ⟨b, 0, none⟩), .agg #[.string ⟨#[119, 105, 112, 101]⟩, .int .i64 x, .int .i64 y], .bool so] w fun e w' => e = .returned (.tuple #[]) ∧ RDid B w b [] K lo hi O 0 false w' := by
  have H := Lib.hid h
  obtain ⟨vL, vK, vO, oL, oK, oO, hm, hl, hk, ho, hs⟩ := h
  obtain ⟨sL, cL, rfl⟩ := hl.form
  obtain ⟨sK, cK, rfl⟩ := hk.form
  have hlt := heap_lt hm
  generalize hLn : L.length = nL at hm hl
  generalize hKn : K.length = nK at hm hk
  have HNL := Lib.hid hLn
  have HNK := Lib.hid hKn
  clear hLn hKn
  have c0 := hm.c0
  have z0 := hm.fz 0
  have HM := Lib.hid hm
  have HL := Lib.hid hl
  have HK := Lib.hid hk
  have HO := Lib.hid ho
  have HS := Lib.hid hs
  have HN := Lib.hid hn
  clear hm hl hk ho hs hn
  have HD := Lib.hid (RS.setL HM.out HL.out HK.out HO.out HS.out (Fr.refl _ w) (.inr (.inl rfl)) (Lst.nil w))
  go_enter Tryz.func19, Tryz.ntmps19
  go_wp2
  all_goals first | (refine bodyPost_ret (results_none rfl _ _ _) rfl ?_) | go_end0 | (go_wp2; first | (refine bodyPost_ret (results_none rfl _ _ _) rfl ?_) | go_end0)
  all_goals exact ⟨rfl, RDid.then_ HD.out.2 (Fr.alloc _ _ _)⟩
set_option maxRecDepth 100000 in
set_option maxHeartbeats 4000000 in
theorem rints_push (B b : Nat) (L K : List Int) (lo hi : Int) (O : List Int) (x y : Int) (w : World) (h : RS B w b L K lo hi O 0 false) (hn : O.length ≤ 1000) (hln : L.length ≤ 1000) :
    Calls Tryz.prog 19 #[.pointer (some ⟨b, 0, none⟩), .agg #[.string ⟨#[112, 117, 115, 104]⟩, .int .i64 x, .int .i64 y], .bool false] w fun e w' => e = .returned (.tuple #[]) ∧ RDid B w b (x :: L) K lo hi O 0 false w' := by
  have HLN := Lib.hid hln
  clear hln
  have H := Lib.hid h
  obtain ⟨vL, vK, vO, oL, oK, oO, hm, hl, hk, ho, hs⟩ := h
  obtain ⟨sL, cL, rfl⟩ := hl.form
  obtain ⟨sK, cK, rfl⟩ := hk.form
  have hlt := heap_lt hm
  generalize hLn : L.length = nL at hm hl
  generalize hKn : K.length = nK at hm hk
  have HNL := Lib.hid hLn
  have HNK := Lib.hid hKn
  clear hLn hKn
  have c0 := hm.c0
  have z0 := hm.fz 0
  have HM := Lib.hid hm
  have HL := Lib.hid hl
  have HK := Lib.hid hk
  have HO := Lib.hid ho
  have HS := Lib.hid hs
  have HN := Lib.hid hn
  clear hm hl hk ho hs hn
  go_enter Tryz.func19, Tryz.ntmps19
  go_wp2
  have F0 := Lib.hid (Fr.alloc (fun _ => False) w (.cells #[.string ⟨#[112, 117, 115, 104]⟩, .int .i64 x, .int .i64 y] 40))
  go_region_with (first
    | (go_at_call 78; refine (rinsert_n _ _ nL _ oL L (HL.out.fr0 (F0.out.trans (Fr.drew _ _) (fun _ _ h => h))) HNL.out 0 _ rfl (Nat.zero_le _) x HLN.out (x :: L) rfl).mono ?_; rintro e w1 ⟨v', own', rfl, hl1, hnew, hf1⟩
       obtain ⟨s', c', rfl⟩ := hl1.form
       have HD := Lib.hid (RS.setL HM.out HL.out HK.out HO.out HS.out ((F0.out.trans (Fr.drew _ _) (fun _ _ h => h)).trans hf1 (fun _ _ h => h)).weak (newF (F0.out.trans (Fr.drew _ _) (fun _ _ h => h)) hnew) hl1)
       have c1 := HD.out.1.c0
       have z1 := HD.out.1.fz 0
       clear hl1 hf1 hnew))
  all_goals first | (refine bodyPost_ret (results_none rfl _ _ _) rfl ?_) | go_end0 | (go_wp2; first | (refine bodyPost_ret (results_none rfl _ _ _) rfl ?_) | go_end0)
  all_goals exact ⟨rfl, HD.out.2⟩
set_option maxRecDepth 100000 in
set_option maxHeartbeats 4000000 in
theorem rints_extend (B b : Nat) (L K : List Int) (lo hi : Int) (O : List Int) (x y : Int) (w : World) (h : RS B w b L K lo hi O 0 false) (hn : O.length ≤ 1000) (hln : L.length ≤ 1000) :
    Calls Tryz.prog 19 #[.pointer (some ⟨b, 0, none⟩), .agg #[.string ⟨#[101, 120, 116, 101, 110, 100]⟩, .int .i64 x, .int .i64 y], .bool false] w fun e w' => e = .returned (.tuple #[]) ∧ RDid B w b (L ++ [x]) K lo hi O 0 false w' := by
  generalize hY : L ++ [x] = ys
  have HY := Lib.hid hY
  clear hY
  have HLN := Lib.hid hln
  clear hln
  have H := Lib.hid h
  obtain ⟨vL, vK, vO, oL, oK, oO, hm, hl, hk, ho, hs⟩ := h
  obtain ⟨sL, cL, rfl⟩ := hl.form
  obtain ⟨sK, cK, rfl⟩ := hk.form
  have hlt := heap_lt hm
  generalize hLn : L.length = nL at hm hl
  generalize hKn : K.length = nK at hm hk
  have HNL := Lib.hid hLn
  have HNK := Lib.hid hKn
  clear hLn hKn
  have c0 := hm.c0
  have z0 := hm.fz 0
  have HM := Lib.hid hm
  have HL := Lib.hid hl
  have HK := Lib.hid hk
  have HO := Lib.hid ho
  have HS := Lib.hid hs
  have HN := Lib.hid hn
  clear hm hl hk ho hs hn
  have HLL := Lib.hid (show (nL : Int) = (L.length : Nat) by rw [HNL.out])
  go_enter Tryz.func19, Tryz.ntmps19
  go_wp2
  have F0 := Lib.hid (Fr.alloc (fun _ => False) w (.cells #[.string ⟨#[101, 120, 116, 101, 110, 100]⟩, .int .i64 x, .int .i64 y] 40))
  go_region_with (first
    | (go_at_call 78; refine (rinsert_n _ _ nL _ oL L (HL.out.fr0 (F0.out.trans (Fr.drew _ _) (fun _ _ h => h))) HNL.out L.length _ HLL.out (Nat.le_refl _) x HLN.out ys ((insAt_end x L).trans HY.out)).mono ?_; rintro e w1 ⟨v', own', rfl, hl1, hnew, hf1⟩
       obtain ⟨s', c', rfl⟩ := hl1.form
       have HD := Lib.hid (RS.setL HM.out HL.out HK.out HO.out HS.out ((F0.out.trans (Fr.drew _ _) (fun _ _ h => h)).trans hf1 (fun _ _ h => h)).weak (newF (F0.out.trans (Fr.drew _ _) (fun _ _ h => h)) hnew) hl1)
       have c1 := HD.out.1.c0
       have z1 := HD.out.1.fz 0
       clear hl1 hf1 hnew))
  all_goals first | (refine bodyPost_ret (results_none rfl _ _ _) rfl ?_) | go_end0 | (go_wp2; first | (refine bodyPost_ret (results_none rfl _ _ _) rfl ?_) | go_end0)
  all_goals exact ⟨rfl, HD.out.2⟩
set_option maxRecDepth 100000 in
set_option maxHeartbeats 4000000 in
theorem rints_has (B b : Nat) (L K : List Int) (lo hi : Int) (O : List Int) (x y : Int) (w : World) (h : RS B w b L K lo hi O 0 false) (hn : O.length ≤ 1000) (so : Bool) (hln : L.length ≤ 1000) (q : Int) (hq : ixI (fun y => x == y) L = q) :
    Calls Tryz.prog 19 #[.pointer (some ⟨b, 0, none⟩), .agg #[.string ⟨#[104, 97, 115]⟩, .int .i64 x, .int .i64 y], .bool so] w fun e w' => e = .returned (.tuple #[]) ∧ RDid B w b L K lo hi (O ++ [boolI (decide (0 ≤ q))]) 0 false w' := by
  have HLN := Lib.hid hln
  clear hln
  have HQ := Lib.hid hq
  clear hq
  have H := Lib.hid h
  obtain ⟨vL, vK, vO, oL, oK, oO, hm, hl, hk, ho, hs⟩ := h
  obtain ⟨sL, cL, rfl⟩ := hl.form
  obtain ⟨sK, cK, rfl⟩ := hk.form
  have hlt := heap_lt hm
  generalize hLn : L.length = nL at hm hl
  generalize hKn : K.length = nK at hm hk
  have HNL := Lib.hid hLn
  have HNK := Lib.hid hKn
  clear hLn hKn
  have c0 := hm.c0
  have HM := Lib.hid hm
  have HL := Lib.hid hl
  have HK := Lib.hid hk
  have HO := Lib.hid ho
  have HS := Lib.hid hs
  have HN := Lib.hid hn
  clear hm hl hk ho hs hn
  go_enter Tryz.func19, Tryz.ntmps19
  go_wp2
  have F0 := Lib.hid (Fr.alloc (fun _ => False) w (.cells #[.string ⟨#[104, 97, 115]⟩, .int .i64 x, .int .i64 y] 40))
  go_region_with (first
    | (go_at_call 80; refine (rindex_q _ _ oL L (HL.out.fr0 (F0.out.trans (Fr.drew _ _) (fun _ _ h => h))) x q HLN.out HQ.out).mono ?_; rintro e w' ⟨rfl, rfl⟩)
    | (go_at_call 79; refine (rtruth_any B b L K lo hi O 0 false _ _ (H.out.fr0 (F0.out.trans (Fr.drew _ _) (fun _ _ h => h))) HN.out).mono ?_; rintro e w' ⟨rfl, hd⟩; have HD := Lib.hid (hd.tr (F0.out.trans (Fr.drew _ _) (fun _ _ h => h)).weak); clear hd))
  all_goals first | (refine bodyPost_ret (results_none rfl _ _ _) rfl ?_) | go_end0 | (go_wp2; first | (refine bodyPost_ret (results_none rfl _ _ _) rfl ?_) | go_end0)
  all_goals exact ⟨rfl, HD.out⟩
set_option maxRecDepth 100000 in
set_option maxHeartbeats 4000000 in
theorem rints_remove_no (B b : Nat) (L K : List Int) (lo hi : Int) (O : List Int) (x y : Int) (w : World) (h : RS B w b L K lo hi O 0 false) (hn : O.length ≤ 1000) (so : Bool) (hln : L.length ≤ 1000) (q : Int) (hq : ixI (fun y => x == y) L = q) (h0 : q < 0) :
    Calls Tryz.prog 19 #[.pointer (some ⟨b, 0, none⟩), .agg #[.string ⟨#[114, 101, 109, 111, 118, 101]⟩, .int .i64 x, .int .i64 y], .bool so] w fun e w' => e = .returned (.tuple #[]) ∧ RDid B w b L K lo hi O 0 false w' := by
  have HLN := Lib.hid hln
  clear hln
  have HQ := Lib.hid hq
  clear hq
  have H0 := Lib.hid h0
  clear h0
  have H := Lib.hid h
  obtain ⟨vL, vK, vO, oL, oK, oO, hm, hl, hk, ho, hs⟩ := h
  obtain ⟨sL, cL, rfl⟩ := hl.form
  obtain ⟨sK, cK, rfl⟩ := hk.form
  have hlt := heap_lt hm
  generalize hLn : L.length = nL at hm hl
  generalize hKn : K.length = nK at hm hk
  have HNL := Lib.hid hLn
  have HNK := Lib.hid hKn
  clear hLn hKn
  have c0 := hm.c0
  have z0 := hm.fz 0
  have HM := Lib.hid hm
  have HL := Lib.hid hl
  have HK := Lib.hid hk
  have HO := Lib.hid ho
  have HS := Lib.hid hs
  have HN := Lib.hid hn
  clear hm hl hk ho hs hn
  go_enter Tryz.func19, Tryz.ntmps19
  go_wp2
  have F0 := Lib.hid (Fr.alloc (fun _ => False) w (.cells #[.string ⟨#[114, 101, 109, 111, 118, 101]⟩, .int .i64 x, .int .i64 y] 40))
  have HD := Lib.hid (RS.setL HM.out HL.out HK.out HO.out HS.out (Fr.refl _ w) (.inl rfl) HL.out)
  go_region_with (first
    | (go_at_call 80; refine (rindex_q _ _ oL L (HL.out.fr0 (F0.out.trans (Fr.drew _ _) (fun _ _ h => h))) x q HLN.out HQ.out).mono ?_; rintro e w' ⟨rfl, rfl⟩)
    | (go_at_call 82; refine (rwithout_no _ _ _ _ _ H0.out).mono ?_; rintro e w2 ⟨rfl, rfl⟩))
  all_goals first | (refine bodyPost_ret (results_none rfl _ _ _) rfl ?_) | go_end0 | (go_wp2; first | (refine bodyPost_ret (results_none rfl _ _ _) rfl ?_) | go_end0)
  all_goals exact ⟨rfl, RDid.then_ HD.out.2 ((Fr.alloc _ _ _).trans (Fr.drew _ _) (fun _ _ h => h))⟩
set_option maxRecDepth 100000 in
set_option maxHeartbeats 4000000 in
theorem rints_remove_yes (B b : Nat) (L K : List Int) (lo hi : Int) (O : List Int) (x y : Int) (w : World) (h : RS B w b L K lo hi O 0 false) (hn : O.length ≤ 1000) (so : Bool) (hln : L.length ≤ 1000) (q : Int) (k : Nat) (hqk : q = k) (hkl : k < L.length) (hq : ixI (fun y => x == y) L = q) :
    Calls Tryz.prog 19 #[.pointer (some ⟨b, 0, none⟩), .agg #[.string ⟨#[114, 101, 109, 111, 118, 101]⟩, .int .i64 x, .int .i64 y], .bool so] w fun e w' => e = .returned (.tuple #[]) ∧ RDid B w b (delAt k L) K lo hi O 0 false w' := by
  subst hqk
  have HLN := Lib.hid hln
  clear hln
  have HQ := Lib.hid hq
  clear hq
  have HQK := Lib.hid hkl
  clear hkl
  have H := Lib.hid h
  obtain ⟨vL, vK, vO, oL, oK, oO, hm, hl, hk, ho, hs⟩ := h
  obtain ⟨sL, cL, rfl⟩ := hl.form
  obtain ⟨sK, cK, rfl⟩ := hk.form
  have hlt := heap_lt hm
  generalize hLn : L.length = nL at hm hl
  generalize hKn : K.length = nK at hm hk
  have HNL := Lib.hid hLn
  have HNK := Lib.hid hKn
  clear hLn hKn
  have c0 := hm.c0
  have z0 := hm.fz 0
  have HM := Lib.hid hm
  have HL := Lib.hid hl
  have HK := Lib.hid hk
  have HO := Lib.hid ho
  have HS := Lib.hid hs
  have HN := Lib.hid hn
  clear hm hl hk ho hs hn
  go_enter Tryz.func19, Tryz.ntmps19
  go_wp2
  have F0 := Lib.hid (Fr.alloc (fun _ => False) w (.cells #[.string ⟨#[114, 101, 109, 111, 118, 101]⟩, .int .i64 x, .int .i64 y] 40))
  go_region_with (first
    | (go_at_call 80; refine (rindex_q _ _ oL L (HL.out.fr0 (F0.out.trans (Fr.drew _ _) (fun _ _ h => h))) x (k : Int) HLN.out HQ.out).mono ?_; rintro e w' ⟨rfl, rfl⟩)
    | (go_at_call 82; refine (rwithout_n _ _ _ _ oL L (HL.out.fr0 (F0.out.trans (Fr.drew _ _) (fun _ _ h => h))) HNL.out k HQK.out HLN.out).mono ?_; rintro e w2 ⟨v', own', rfl, hl1, hnew, hf1⟩
       obtain ⟨s', c', rfl⟩ := hl1.form
       have HD := Lib.hid (RS.setL HM.out HL.out HK.out HO.out HS.out ((F0.out.trans (Fr.drew _ _) (fun _ _ h => h)).trans hf1 (fun _ _ h => h)).weak (newF (F0.out.trans (Fr.drew _ _) (fun _ _ h => h)) hnew) hl1)
       have c1 := HD.out.1.c0
       have z1 := HD.out.1.fz 0
       clear hl1 hf1 hnew))
  all_goals first | (refine bodyPost_ret (results_none rfl _ _ _) rfl ?_) | go_end0 | (go_wp2; first | (refine bodyPost_ret (results_none rfl _ _ _) rfl ?_) | go_end0)
  all_goals exact ⟨rfl, HD.out.2⟩
end Go.Proofs.YtpnbhoeghncnnaaGreatDoor
namespace Go.Proofs.YtpnbhoeghncnnaaGreatDoor
open Go.RowKit
set_option maxRecDepth 100000 in
set_option maxHeartbeats 4000000 in
theorem rints_item_no (B b : Nat) (L K : List Int) (lo hi : Int) (O : List Int) (x y : Int) (w : World) (h : RS B w b L K lo hi O 0 false) (hn : O.length ≤ 1000) (so : Bool) (hln : L.length ≤ 1000) (hx : ¬ (1 ≤ x ∧ x ≤ L.length)) :
    Calls Tryz.prog 19 #[.pointer (some ⟨b, 0, none⟩), .agg #[.string ⟨#[105, 116, 101, 109]⟩, .int .i64 x, .int .i64 y], .bool so] w fun e w' => e = .returned (.tuple #[]) ∧ RRes B w b L K lo hi O (itemF x L) w' := by
  have HLN := Lib.hid hln
  clear hln
  have HR := Lib.hid (show itemF x L = .stop 1 0 by unfold itemF; rw [if_neg hx])
  have HQ0 := Lib.hid (show (decide ((1 : Int) ≤ x) && decide (x ≤ (L.length : Int))) = false by rw [Bool.and_eq_false_iff, decide_eq_false_iff_not, decide_eq_false_iff_not]; omega)
  clear hx
  have H := Lib.hid h
  obtain ⟨vL, vK, vO, oL, oK, oO, hm, hl, hk, ho, hs⟩ := h
  obtain ⟨sL, cL, rfl⟩ := hl.form
  obtain ⟨sK, cK, rfl⟩ := hk.form
  have hlt := heap_lt hm
  generalize hLn : L.length = nL at hm hl
  generalize hKn : K.length = nK at hm hk
  have HNL := Lib.hid hLn
  have HNK := Lib.hid hKn
  clear hLn hKn
  have c0 := hm.c0
  have c5 := hm.c5
  have z5 := hm.fz 5
  have HM := Lib.hid hm
  have HL := Lib.hid hl
  have HK := Lib.hid hk
  have HO := Lib.hid ho
  have HS := Lib.hid hs
  have HN := Lib.hid hn
  clear hm hl hk ho hs hn
  have HQ := Lib.hid (show (decide ((1 : Int) ≤ x) && decide (x ≤ (nL : Int))) = false by rw [← HNL.out]; exact HQ0.out)
  go_enter Tryz.func19, Tryz.ntmps19
  go_wp2
  go_quiet ((first | (go_at_call 76; exact Calls.quiet_of_same (in_eq _ _ _ _ false HQ.out))))
  go_wp2
  all_goals first | (refine bodyPost_ret (results_none rfl _ _ _) rfl ?_) | go_end0 | (go_wp2; first | (refine bodyPost_ret (results_none rfl _ _ _) rfl ?_) | go_end0)
  all_goals exact ⟨rfl, RRes.of HR.out.symm (show RRes B w b L K lo hi O (.stop 1 0) _ from H.out.fault3 ((Fr.alloc _ _ _).trans (Fr.drewN _ _ _) (fun _ _ h => h)) 1 (Fr.refl _ _))⟩
set_option maxRecDepth 100000 in
set_option maxHeartbeats 4000000 in
theorem rints_item_yes (B b : Nat) (L K : List Int) (lo hi : Int) (O : List Int) (i : Nat) (y : Int) (w : World) (h : RS B w b L K lo hi O 0 false) (hn : O.length ≤ 1000) (so : Bool) (hln : L.length ≤ 1000) (z : Int) (hz : L[i]? = some z) :
    Calls Tryz.prog 19 #[.pointer (some ⟨b, 0, none⟩), .agg #[.string ⟨#[105, 116, 101, 109]⟩, .int .i64 ((i : Int) + 1), .int .i64 y], .bool so] w fun e w' => e = .returned (.tuple #[]) ∧ RRes B w b L K lo hi O (.val z) w' := by
  have HLN := Lib.hid hln
  clear hln
  have H := Lib.hid h
  obtain ⟨vL, vK, vO, oL, oK, oO, hm, hl, hk, ho, hs⟩ := h
  obtain ⟨sL, cL, rfl⟩ := hl.form
  obtain ⟨sK, cK, rfl⟩ := hk.form
  have hlt := heap_lt hm
  generalize hLn : L.length = nL at hm hl
  generalize hKn : K.length = nK at hm hk
  have HNL := Lib.hid hLn
  have HNK := Lib.hid hKn
  clear hLn hKn
  have c0 := hm.c0
  have HM := Lib.hid hm
  have HL := Lib.hid hl
  have HK := Lib.hid hk
  have HO := Lib.hid ho
  have HS := Lib.hid hs
  have HN := Lib.hid hn
  clear hm hl hk ho hs hn
  have hi1 : i < nL := by have := lt_of_get hz; have := HNL.out; omega
  have hi2 : (i : Int) + 1 ≤ 1000 := by have := HLN.out; have := HNL.out; omega
  have hw1 : IntKind.i64.wrap ((i : Int) + 1 - 1) = (i : Int) := by rw [IntWalk.i64_in _ (by omega)]; omega
  have hw2 : IntKind.i64.wrap (i : Int) = (i : Int) := IntWalk.i64_in _ (by omega)
  have hi3 : (i : Int) < (nL : Int) := by omega
  have hi4 : (0 : Int) ≤ (i : Int) := by omega
  have HQ := Lib.hid (show (decide ((1 : Int) ≤ (i : Int) + 1) && decide ((i : Int) + 1 ≤ (nL : Int))) = true by rw [Bool.and_eq_true, decide_eq_true_eq, decide_eq_true_eq]; omega)
  obtain ⟨g, o, rfl, hr, hg⟩ := HL.out.at_ hz
  clear hz
  go_enter Tryz.func19, Tryz.ntmps19
  go_wp2
  go_quiet ((first | (go_at_call 76; exact Calls.quiet_of_same (in_eq _ _ _ _ true HQ.out))))
  go_wp2
  have F0 := Lib.hid (Fr.alloc (fun _ => False) w (.cells #[.string ⟨#[105, 116, 101, 109]⟩, .int .i64 ((i : Int) + 1), .int .i64 y] 40))
  go_region_with (first
    | (go_at_call 77; refine (put_any B b L K lo hi O 0 false _ _ ((H.out.fr0 F0.out).fr0 (Fr.drewN _ _ _)) HN.out).mono ?_; rintro e w' ⟨rfl, hd⟩; have HD := Lib.hid (hd.tr ((F0.out.trans (Fr.drewN _ _ _) (fun _ _ h => h)).weak)); clear hd))
  all_goals first | (refine bodyPost_ret (results_none rfl _ _ _) rfl ?_) | go_end0 | (go_wp2; first | (refine bodyPost_ret (results_none rfl _ _ _) rfl ?_) | go_end0)
  all_goals exact ⟨rfl, HD.out⟩
end Go.Proofs.YtpnbhoeghncnnaaGreatDoor
namespace Go.Proofs.YtpnbhoeghncnnaaGreatDoor
open Go.RowKit
set_option maxRecDepth 100000 in
set_option maxHeartbeats 4000000 in
theorem rints_sum (B b : Nat) (L K : List Int) (lo hi : Int) (O : List Int) (x y : Int) (w : World) (h : RS B w b L K lo hi O 0 false) (hn : O.length ≤ 1000) (so : Bool) (hln : L.length ≤ 1000) (ha : AllIn L) :
    Calls Tryz.prog 19 #[.pointer (some ⟨b, 0, none⟩), .agg #[.string ⟨#[115, 117, 109]⟩, .int .i64 x, .int .i64 y], .bool so] w fun e w' => e = .returned (.tuple #[]) ∧ RRes B w b L K lo hi O (sumFrom L 0) w' := by
  generalize hT : sumFrom L 0 = T
  have HT := Lib.hid hT
  clear hT
  have HLN := Lib.hid hln
  clear hln
  have HA := Lib.hid ha
  clear ha
  have H := Lib.hid h
  obtain ⟨vL, vK, vO, oL, oK, oO, hm, hl, hk, ho, hs⟩ := h
  obtain ⟨sL, cL, rfl⟩ := hl.form
  obtain ⟨sK, cK, rfl⟩ := hk.form
  have hlt := heap_lt hm
  generalize hLn : L.length = nL at hm hl
  generalize hKn : K.length = nK at hm hk
  have HNL := Lib.hid hLn
  have HNK := Lib.hid hKn
  clear hLn hKn
  have c0 := hm.c0
  have c5 := hm.c5
  have z5 := hm.fz 5
  have HM := Lib.hid hm
  have HL := Lib.hid hl
  have HK := Lib.hid hk
  have HO := Lib.hid ho
  have HS := Lib.hid hs
  have HN := Lib.hid hn
  clear hm hl hk ho hs hn
  go_enter Tryz.func19, Tryz.ntmps19
  go_wp2
  go_loop [7, 8] (fun p q => ∃ (n : Int) (k : Nat), p = .int .i64 n ∧ q = .int .i64 k ∧ k ≤ nL ∧ -1099511627776 ≤ n ∧ n ≤ 1099511627776 ∧ sumFrom (L.drop k) n = T) (fun _ q => nL - (intOf q).toNat)
  case atStart => exact ⟨0, 0, rfl, rfl, by omega, by omega, by omega, HT.out⟩
  case round =>
    obtain ⟨n, k, rfl, rfl, hk, hn0, hn1, hp⟩ := hrel
    have HP := Lib.hid hp
    clear hp
    by_cases hlt : k < nL
    · obtain ⟨z, hz⟩ : ∃ z, L[k]? = some z := get_of_lt L (by have := HNL.out; omega)
      obtain ⟨g, o, rfl, hr, hg⟩ := HL.out.at_ hz
      have hzi := inNum_true.1 (HA.out.get hz)
      have hl : (nL : Int) ≤ 1000 := by have := HLN.out; have := HNL.out; omega
      cases hv : inNum (n + z) with
      | true =>
        have hs : sumFrom (L.drop k) n = sumFrom (L.drop (k + 1)) (n + z) := by rw [drop_get hz]; simp only [sumFrom]; rw [if_pos hv]
        have HS' := Lib.hid hs
        have HV := Lib.hid hv
        have hx := inNum_true.1 hv
        clear hs hz hv
        go_wp2_with (go_at_call 81; refine (beyond_any _ _).mono ?_; rintro e w' ⟨rfl, rfl⟩; rw [HV.out])
        go_round
        case rel => exact ⟨n + z, k + 1, rfl, by go_num, by omega, hx.1, hx.2, by rw [← HS'.out]; exact HP.out⟩
        case measure => simp [intOf]; omega
      | false =>
        have hs : sumFrom (L.drop k) n = .stop 7 0 := by rw [drop_get hz]; simp only [sumFrom]; rw [if_neg (by rw [hv]; decide)]
        have HS' := Lib.hid hs
        have HV := Lib.hid hv
        clear hs hz hv
        go_wp2_with (go_at_call 81; refine (beyond_any _ _).mono ?_; rintro e w' ⟨rfl, rfl⟩; rw [HV.out])
        refine bodyPost_ret (results_none rfl _ _ _) rfl ⟨rfl, RRes.of (HS'.out.symm.trans HP.out) ?_⟩
        exact H.out.fault 7 (Fr.alloc _ _ _)
    · obtain rfl : k = nL := by omega
      go_wp2_with (go_at_call 77; refine (put_any B b L K lo hi O 0 false _ _ (H.out.fr0 (Fr.alloc _ w _)) HN.out).mono ?_; rintro e w' ⟨rfl, hd⟩; have HD := Lib.hid (hd.tr ((Fr.alloc _ w _).weak)); clear hd)
      all_goals first | (refine bodyPost_ret (results_none rfl _ _ _) rfl ?_) | go_end0 | (go_wp2; first | (refine bodyPost_ret (results_none rfl _ _ _) rfl ?_) | go_end0)
      all_goals exact ⟨rfl, RRes.of (by rw [← HP.out, ← HNL.out, List.drop_length]; rfl) (show RRes B w b L K lo hi O (.val n) _ from HD.out)⟩
end Go.Proofs.YtpnbhoeghncnnaaGreatDoor
namespace Go.Proofs.YtpnbhoeghncnnaaGreatDoor
open Go.RowKit
set_option maxRecDepth 100000 in
set_option maxHeartbeats 4000000 in
theorem rints_spush (B b : Nat) (L K : List Int) (lo hi : Int) (O : List Int) (x y : Int) (w : World) (h : RS B w b L K lo hi O 0 false) (hn : O.length ≤ 1000) (hln : L.length ≤ 1000) (ys : List Int) (hy : insF x L = ys) :
    Calls Tryz.prog 19 #[.pointer (some ⟨b, 0, none⟩), .agg #[.string ⟨#[112, 117, 115, 104]⟩, .int .i64 x, .int .i64 y], .bool true] w fun e w' => e = .returned (.tuple #[]) ∧ RDid B w b ys K lo hi O 0 false w' := by
  have HLN := Lib.hid hln
  clear hln
  have HY := Lib.hid hy
  clear hy
  have H := Lib.hid h
  obtain ⟨vL, vK, vO, oL, oK, oO, hm, hl, hk, ho, hs⟩ := h
  obtain ⟨sL, cL, rfl⟩ := hl.form
  obtain ⟨sK, cK, rfl⟩ := hk.form
  have hlt := heap_lt hm
  generalize hLn : L.length = nL at hm hl
  generalize hKn : K.length = nK at hm hk
  have HNL := Lib.hid hLn
  have HNK := Lib.hid hKn
  clear hLn hKn
  have c0 := hm.c0
  have z0 := hm.fz 0
  have HM := Lib.hid hm
  have HL := Lib.hid hl
  have HK := Lib.hid hk
  have HO := Lib.hid ho
  have HS := Lib.hid hs
  have HN := Lib.hid hn
  clear hm hl hk ho hs hn
  go_enter Tryz.func19, Tryz.ntmps19
  go_wp2
  have F0 := Lib.hid (Fr.alloc (fun _ => False) w (.cells #[.string ⟨#[112, 117, 115, 104]⟩, .int .i64 x, .int .i64 y] 40))
  go_loopw [6] (fun p wr => ∃ (m q : Nat), p = .int .i64 m ∧ m ≤ nL ∧ (∀ j z, j < m → L[j]? = some z → decide (x ≤ z) = false) ∧ wr = (w.alloc (.cells #[.string ⟨#[112, 117, 115, 104]⟩, .int .i64 x, .int .i64 y] 40)).drewN q) (fun p _ => nL - (intOf p).toNat)
  case atStart => exact ⟨0, 0, rfl, by omega, fun j z h => by omega, rfl⟩
  case round =>
    obtain ⟨m, q, rfl, hm1, hb, rfl⟩ := hrel
    have HB := Lib.hid hb
    clear hb
    have hl : (nL : Int) ≤ 1000 := by have := HLN.out; have := HNL.out; omega
    by_cases hlt : m < nL
    · obtain ⟨z, hz⟩ : ∃ z, L[m]? = some z := get_of_lt L (by have := HNL.out; omega)
      obtain ⟨g, o, rfl, hr, hg⟩ := HL.out.at_ hz
      by_cases hzx : z < x
      · have hd : decide (z < x) = true := by simpa using hzx
        have HZ := Lib.hid hz
        clear hz
        go_wp2
        go_quiet (fail)
        go_wp2
        go_roundw
        case rel => exact ⟨m + 1, _, by go_num, by omega, fun j z' hj hz' => by
          rcases Nat.lt_or_ge j m with h | h
          · exact HB.out j z' h hz'
          · obtain rfl : j = m := by omega
            rw [HZ.out] at hz'; cases hz'; rw [decide_eq_false_iff_not]; omega, rfl⟩
        case measure => simp [intOf]; omega
      · have hd : decide (z < x) = false := by simpa using hzx
        have HI := Lib.hid (show insAt m x L = ys by
          rw [← HY.out]; unfold insF
          rw [ixI_at hz (by rw [decide_eq_true_eq]; omega) HB.out, if_neg (by omega)]; rfl)
        clear hz
        go_wp2
        go_quiet (fail)
        go_wp2
        have FQ := Lib.hid (F0.out.trans (Fr.drewN _ _ (q + nq + 1)) (fun _ _ h => h))
        go_region_with (first
          | (go_at_call 78; refine (rinsert_n _ _ nL _ oL L (HL.out.fr0 FQ.out) HNL.out m _ rfl (by have := HNL.out; omega) x HLN.out ys HI.out).mono ?_; rintro e w1 ⟨v', own', rfl, hl1, hnew, hf1⟩
             obtain ⟨s', c', rfl⟩ := hl1.form
             have HD := Lib.hid (RS.setL HM.out HL.out HK.out HO.out HS.out (FQ.out.trans hf1 (fun _ _ h => h)).weak (newF FQ.out hnew) hl1)
             have c1 := HD.out.1.c0
             have z1 := HD.out.1.fz 0
             clear hl1 hf1 hnew))
        all_goals first | (refine bodyPost_ret (results_none rfl _ _ _) rfl ?_) | go_end0 | (go_wp2; first | (refine bodyPost_ret (results_none rfl _ _ _) rfl ?_) | go_end0)
        all_goals exact ⟨rfl, HD.out.2⟩
    · obtain rfl : nL = m := by omega
      have hd : decide (nL < nL) = false := by simp
      have HI := Lib.hid (show insAt nL x L = ys by
        rw [← HY.out]; unfold insF
        rw [ixI_no (fun j z hj hz => HB.out j z (by have := HNL.out; omega) hz), if_pos (by omega), HNL.out])
      go_wp2
      go_quiet (fail)
      go_wp2
      have FQ := Lib.hid (F0.out.trans (Fr.drewN _ _ (q + nq + 1)) (fun _ _ h => h))
      go_region_with (first
        | (go_at_call 78; refine (rinsert_n _ _ nL _ oL L (HL.out.fr0 FQ.out) HNL.out nL _ rfl (by have := HNL.out; omega) x HLN.out ys HI.out).mono ?_; rintro e w1 ⟨v', own', rfl, hl1, hnew, hf1⟩
           obtain ⟨s', c', rfl⟩ := hl1.form
           have HD := Lib.hid (RS.setL HM.out HL.out HK.out HO.out HS.out (FQ.out.trans hf1 (fun _ _ h => h)).weak (newF FQ.out hnew) hl1)
           have c1 := HD.out.1.c0
           have z1 := HD.out.1.fz 0
           clear hl1 hf1 hnew))
      all_goals first | (refine bodyPost_ret (results_none rfl _ _ _) rfl ?_) | go_end0 | (go_wp2; first | (refine bodyPost_ret (results_none rfl _ _ _) rfl ?_) | go_end0)
      all_goals exact ⟨rfl, HD.out.2⟩
end Go.Proofs.YtpnbhoeghncnnaaGreatDoor
namespace Go.Proofs.YtpnbhoeghncnnaaGreatDoor
open Go.RowKit
set_option maxRecDepth 100000 in
set_option maxHeartbeats 4000000 in
theorem rints_sextend (B b : Nat) (L K : List Int) (lo hi : Int) (O : List Int) (x y : Int) (w : World) (h : RS B w b L K lo hi O 0 false) (hn : O.length ≤ 1000) (hln : L.length ≤ 1000) (ys : List Int) (hy : insF x L = ys) :
    Calls Tryz.prog 19 #[.pointer (some ⟨b, 0, none⟩), .agg #[.string ⟨#[101, 120, 116, 101, 110, 100]⟩, .int .i64 x, .int .i64 y], .bool true] w fun e w' => e = .returned (.tuple #[]) ∧ RDid B w b ys K lo hi O 0 false w' := by
  have HLN := Lib.hid hln
  clear hln
  have HY := Lib.hid hy
  clear hy
  have H := Lib.hid h
  obtain ⟨vL, vK, vO, oL, oK, oO, hm, hl, hk, ho, hs⟩ := h
  obtain ⟨sL, cL, rfl⟩ := hl.form
  obtain ⟨sK, cK, rfl⟩ := hk.form
  have hlt := heap_lt hm
  generalize hLn : L.length = nL at hm hl
  generalize hKn : K.length = nK at hm hk
  have HNL := Lib.hid hLn
  have HNK := Lib.hid hKn
  clear hLn hKn
  have c0 := hm.c0
  have z0 := hm.fz 0
  have HM := Lib.hid hm
  have HL := Lib.hid hl
  have HK := Lib.hid hk
  have HO := Lib.hid ho
  have HS := Lib.hid hs
  have HN := Lib.hid hn
  clear hm hl hk ho hs hn
  go_enter Tryz.func19, Tryz.ntmps19
  go_wp2
  have F0 := Lib.hid (Fr.alloc (fun _ => False) w (.cells #[.string ⟨#[101, 120, 116, 101, 110, 100]⟩, .int .i64 x, .int .i64 y] 40))
  go_loopw [6] (fun p wr => ∃ (m q : Nat), p = .int .i64 m ∧ m ≤ nL ∧ (∀ j z, j < m → L[j]? = some z → decide (x ≤ z) = false) ∧ wr = (w.alloc (.cells #[.string ⟨#[101, 120, 116, 101, 110, 100]⟩, .int .i64 x, .int .i64 y] 40)).drewN q) (fun p _ => nL - (intOf p).toNat)
  case atStart => exact ⟨0, 0, rfl, by omega, fun j z h => by omega, rfl⟩
  case round =>
    obtain ⟨m, q, rfl, hm1, hb, rfl⟩ := hrel
    have HB := Lib.hid hb
    clear hb
    have hl : (nL : Int) ≤ 1000 := by have := HLN.out; have := HNL.out; omega
    by_cases hlt : m < nL
    · obtain ⟨z, hz⟩ : ∃ z, L[m]? = some z := get_of_lt L (by have := HNL.out; omega)
      obtain ⟨g, o, rfl, hr, hg⟩ := HL.out.at_ hz
      by_cases hzx : z < x
      · have hd : decide (z < x) = true := by simpa using hzx
        have HZ := Lib.hid hz
        clear hz
        go_wp2
        go_quiet (fail)
        go_wp2
        go_roundw
        case rel => exact ⟨m + 1, _, by go_num, by omega, fun j z' hj hz' => by
          rcases Nat.lt_or_ge j m with h | h
          · exact HB.out j z' h hz'
          · obtain rfl : j = m := by omega
            rw [HZ.out] at hz'; cases hz'; rw [decide_eq_false_iff_not]; omega, rfl⟩
        case measure => simp [intOf]; omega
      · have hd : decide (z < x) = false := by simpa using hzx
        have HI := Lib.hid (show insAt m x L = ys by
          rw [← HY.out]; unfold insF
          rw [ixI_at hz (by rw [decide_eq_true_eq]; omega) HB.out, if_neg (by omega)]; rfl)
        clear hz
        go_wp2
        go_quiet (fail)
        go_wp2
        have FQ := Lib.hid (F0.out.trans (Fr.drewN _ _ (q + nq + 1)) (fun _ _ h => h))
        go_region_with (first
          | (go_at_call 78; refine (rinsert_n _ _ nL _ oL L (HL.out.fr0 FQ.out) HNL.out m _ rfl (by have := HNL.out; omega) x HLN.out ys HI.out).mono ?_; rintro e w1 ⟨v', own', rfl, hl1, hnew, hf1⟩
             obtain ⟨s', c', rfl⟩ := hl1.form
             have HD := Lib.hid (RS.setL HM.out HL.out HK.out HO.out HS.out (FQ.out.trans hf1 (fun _ _ h => h)).weak (newF FQ.out hnew) hl1)
             have c1 := HD.out.1.c0
             have z1 := HD.out.1.fz 0
             clear hl1 hf1 hnew))
        all_goals first | (refine bodyPost_ret (results_none rfl _ _ _) rfl ?_) | go_end0 | (go_wp2; first | (refine bodyPost_ret (results_none rfl _ _ _) rfl ?_) | go_end0)
        all_goals exact ⟨rfl, HD.out.2⟩
    · obtain rfl : nL = m := by omega
      have hd : decide (nL < nL) = false := by simp
      have HI := Lib.hid (show insAt nL x L = ys by
        rw [← HY.out]; unfold insF
        rw [ixI_no (fun j z hj hz => HB.out j z (by have := HNL.out; omega) hz), if_pos (by omega), HNL.out])
      go_wp2
      go_quiet (fail)
      go_wp2
      have FQ := Lib.hid (F0.out.trans (Fr.drewN _ _ (q + nq + 1)) (fun _ _ h => h))
      go_region_with (first
        | (go_at_call 78; refine (rinsert_n _ _ nL _ oL L (HL.out.fr0 FQ.out) HNL.out nL _ rfl (by have := HNL.out; omega) x HLN.out ys HI.out).mono ?_; rintro e w1 ⟨v', own', rfl, hl1, hnew, hf1⟩
           obtain ⟨s', c', rfl⟩ := hl1.form
           have HD := Lib.hid (RS.setL HM.out HL.out HK.out HO.out HS.out (FQ.out.trans hf1 (fun _ _ h => h)).weak (newF FQ.out hnew) hl1)
           have c1 := HD.out.1.c0
           have z1 := HD.out.1.fz 0
           clear hl1 hf1 hnew))
      all_goals first | (refine bodyPost_ret (results_none rfl _ _ _) rfl ?_) | go_end0 | (go_wp2; first | (refine bodyPost_ret (results_none rfl _ _ _) rfl ?_) | go_end0)
      all_goals exact ⟨rfl, HD.out.2⟩
end Go.Proofs.YtpnbhoeghncnnaaGreatDoor

/-
  A part of the proof of Rows.BaseModelsCardSaid (for every class and script BaseModels answers true, and its arguments read as they did; the listed library variables as the program text lays them): texts RH, RI, RJ. By an AI agent.
-/
import Derived.Deep.QuietTactic
import Derived.BigQuiet
import Derived.IntWalk
import Derived.Deep.RegionWith
import Derived.RegionTactic
import Derived.Test.YtpnbhoeghncnnaaGreatDoorM12
namespace Go.Proofs.YtpnbhoeghncnnaaGreatDoor
open Go.RowKit
theorem beyond_no (n : Int) (w : World) (h : inNum n = true) : Calls Tryz.prog 81 #[.int .i64 n] w fun e w' => e = .returned (.bool false) ∧ w' = w := (beyond_any n w).mono fun _ _ ⟨he, hw⟩ => ⟨by rw [he, h]; rfl, hw.symm⟩
theorem beyond_yes (n : Int) (w : World) (h : inNum n = false) : Calls Tryz.prog 81 #[.int .i64 n] w fun e w' => e = .returned (.bool true) ∧ w' = w := (beyond_any n w).mono fun _ _ ⟨he, hw⟩ => ⟨by rw [he, h]; rfl, hw.symm⟩
theorem in_eq (n lo hi : Int) (w : World) (q : Bool) (h : (decide (lo ≤ n) && decide (n ≤ hi)) = q) : Calls Tryz.prog 76 #[.int .i64 n, .int .i64 lo, .int .i64 hi] w fun e w' => e = .returned (.bool q) ∧ w' = w := (in_any n lo hi w).mono fun _ _ ⟨he, hw⟩ => ⟨by rw [he, h], hw.symm⟩
theorem RS.hi_ {B : Nat} {w w' : World} {b : Nat} {L K : List Int} {lo hi : Int} {O : List Int} {f : Int} {lg : Bool} (h : RS B w b L K lo hi O f lg) (n m : Int) (hf : Fr (fun _ => False) ((w.setCell ⟨b, 2, none⟩ (.int .i64 n)).setCell ⟨b, 3, none⟩ (.int .i64 m)) w') : RDid B w b L K n m O f lg w' :=
  ⟨((h.set2 n).1.set3 m).1.fr0 hf, ((h.set2 n).2.trans ((h.set2 n).1.set3 m).2 (fun _ _ h => h)).trans hf (fun _ _ h => h.elim)⟩
theorem RS.fault3 {B : Nat} {w w1 w' : World} {b : Nat} {L K : List Int} {lo hi : Int} {O : List Int} {f : Int} {lg : Bool} (h : RS B w b L K lo hi O f lg) (hf1 : Fr (fun _ => False) w w1) (f' : Int) (hf : Fr (fun _ => False) (w1.setCell ⟨b, 5, none⟩ (.int .i64 f')) w') : RDid B w b L K lo hi O f' lg w' :=
  ((h.fr0 hf1).fault f' hf).tr hf1.weak
set_option maxHeartbeats 1000000 in
theorem rrange_low (B b : Nat) (L K : List Int) (lo hi : Int) (O : List Int) (x y : Int) (w : World) (h : RS B w b L K lo hi O 0 false) (hn : O.length ≤ 1000) :
    Calls Tryz.prog 25 #[.pointer (some ⟨b, 0, none⟩), .agg #[.string ⟨#[108, 111, 119]⟩, .int .i64 x, .int .i64 y]] w fun e w' => e = .returned (.tuple #[]) ∧ RDid B w b L K lo hi (O ++ [lo]) 0 false w' := by
  have H := Lib.hid h
  obtain ⟨vL, vK, vO, oL, oK, oO, hm, hl, hk, ho, hs⟩ := h
  obtain ⟨sL, cL, rfl⟩ := hl.form
  obtain ⟨sK, cK, rfl⟩ := hk.form
  have hlt := heap_lt hm
  have c2 := hm.c2
  have HM := Lib.hid hm
  have HL := Lib.hid hl
  have HK := Lib.hid hk
  have HO := Lib.hid ho
  have HS := Lib.hid hs
  have HN := Lib.hid hn
  clear hm hl hk ho hs hn
  go_enter Tryz.func25, Tryz.ntmps25
  go_wp2_with (first
    | (go_at_call 77; refine (put_any B b L K lo hi O 0 false _ _ (H.out.fr0 (Fr.alloc _ w _)) HN.out).mono ?_; rintro e w' ⟨rfl, hd⟩; have HD := Lib.hid (hd.tr ((Fr.alloc _ w _).weak)); clear hd))
  first | (refine bodyPost_ret (results_none rfl _ _ _) rfl ?_) | go_end0
  exact ⟨rfl, HD.out⟩
set_option maxHeartbeats 1000000 in
theorem rrange_high (B b : Nat) (L K : List Int) (lo hi : Int) (O : List Int) (x y : Int) (w : World) (h : RS B w b L K lo hi O 0 false) (hn : O.length ≤ 1000) :
    Calls Tryz.prog 25 #[.pointer (some ⟨b, 0, none⟩), .agg #[.string ⟨#[104, 105, 103, 104]⟩, .int .i64 x, .int .i64 y]] w fun e w' => e = .returned (.tuple #[]) ∧ RDid B w b L K lo hi (O ++ [hi]) 0 false w' := by
  have H := Lib.hid h
  obtain ⟨vL, vK, vO, oL, oK, oO, hm, hl, hk, ho, hs⟩ := h
  obtain ⟨sL, cL, rfl⟩ := hl.form
  obtain ⟨sK, cK, rfl⟩ := hk.form
  have hlt := heap_lt hm
  have c3 := hm.c3
  have HM := Lib.hid hm
  have HL := Lib.hid hl
  have HK := Lib.hid hk
  have HO := Lib.hid ho
  have HS := Lib.hid hs
  have HN := Lib.hid hn
  clear hm hl hk ho hs hn
  go_enter Tryz.func25, Tryz.ntmps25
  go_wp2_with (first
    | (go_at_call 77; refine (put_any B b L K lo hi O 0 false _ _ (H.out.fr0 (Fr.alloc _ w _)) HN.out).mono ?_; rintro e w' ⟨rfl, hd⟩; have HD := Lib.hid (hd.tr ((Fr.alloc _ w _).weak)); clear hd))
  first | (refine bodyPost_ret (results_none rfl _ _ _) rfl ?_) | go_end0
  exact ⟨rfl, HD.out⟩
set_option maxHeartbeats 1000000 in
theorem rrange_span_over (B b : Nat) (L K : List Int) (lo hi : Int) (O : List Int) (x y : Int) (w : World) (h : RS B w b L K lo hi O 0 false) (hn : O.length ≤ 1000) (hy : inNum y = true) (hv : inNum (y + 1) = false) :
    Calls Tryz.prog 25 #[.pointer (some ⟨b, 0, none⟩), .agg #[.string ⟨#[115, 112, 97, 110]⟩, .int .i64 x, .int .i64 y]] w fun e w' => e = .returned (.tuple #[]) ∧ RDid B w b L K lo hi O 7 false w' := by
  have HV := Lib.hid hv
  have b2 := inNum_true.1 hy
  clear hy hv
  have H := Lib.hid h
  obtain ⟨vL, vK, vO, oL, oK, oO, hm, hl, hk, ho, hs⟩ := h
  obtain ⟨sL, cL, rfl⟩ := hl.form
  obtain ⟨sK, cK, rfl⟩ := hk.form
  have hlt := heap_lt hm
  have c2 := hm.c2
  have z2 := hm.fz 2
  have c3 := hm.c3
  have z3 := hm.fz 3
  have c5 := hm.c5
  have z5 := hm.fz 5
  have HM := Lib.hid hm
  have HL := Lib.hid hl
  have HK := Lib.hid hk
  have HO := Lib.hid ho
  have HS := Lib.hid hs
  have HN := Lib.hid hn
  clear hm hl hk ho hs hn
  go_enter Tryz.func25, Tryz.ntmps25
  go_wp2_with (first
    | (go_at_call 81; refine (beyond_any _ _).mono ?_; rintro e w' ⟨rfl, rfl⟩; rw [HV.out]))
  first | (refine bodyPost_ret (results_none rfl _ _ _) rfl ?_) | go_end0
  exact ⟨rfl, H.out.fault 7 (Fr.alloc _ _ _)⟩
set_option maxHeartbeats 1000000 in
theorem rrange_span_no (B b : Nat) (L K : List Int) (lo hi : Int) (O : List Int) (x y : Int) (w : World) (h : RS B w b L K lo hi O 0 false) (hn : O.length ≤ 1000) (hy : inNum y = true) (hv : inNum (y + 1) = true) (hc : ¬ x ≤ y + 1) :
    Calls Tryz.prog 25 #[.pointer (some ⟨b, 0, none⟩), .agg #[.string ⟨#[115, 112, 97, 110]⟩, .int .i64 x, .int .i64 y]] w fun e w' => e = .returned (.tuple #[]) ∧ RDid B w b L K lo hi O 1 false w' := by
  have HV := Lib.hid hv
  have b2 := inNum_true.1 hy
  clear hy hv
  have hc2 : y + 1 < x := by omega
  clear hc
  have H := Lib.hid h
  obtain ⟨vL, vK, vO, oL, oK, oO, hm, hl, hk, ho, hs⟩ := h
  obtain ⟨sL, cL, rfl⟩ := hl.form
  obtain ⟨sK, cK, rfl⟩ := hk.form
  have hlt := heap_lt hm
  have c2 := hm.c2
  have z2 := hm.fz 2
  have c3 := hm.c3
  have z3 := hm.fz 3
  have c5 := hm.c5
  have z5 := hm.fz 5
  have HM := Lib.hid hm
  have HL := Lib.hid hl
  have HK := Lib.hid hk
  have HO := Lib.hid ho
  have HS := Lib.hid hs
  have HN := Lib.hid hn
  clear hm hl hk ho hs hn
  go_enter Tryz.func25, Tryz.ntmps25
  go_wp2_with (first
    | (go_at_call 81; refine (beyond_any _ _).mono ?_; rintro e w' ⟨rfl, rfl⟩; rw [HV.out]))
  first | (refine bodyPost_ret (results_none rfl _ _ _) rfl ?_) | go_end0
  exact ⟨rfl, H.out.fault 1 (Fr.alloc _ _ _)⟩
set_option maxHeartbeats 1000000 in
theorem rrange_span_yes (B b : Nat) (L K : List Int) (lo hi : Int) (O : List Int) (x y : Int) (w : World) (h : RS B w b L K lo hi O 0 false) (hn : O.length ≤ 1000) (hy : inNum y = true) (hv : inNum (y + 1) = true) (hc : x ≤ y + 1) :
    Calls Tryz.prog 25 #[.pointer (some ⟨b, 0, none⟩), .agg #[.string ⟨#[115, 112, 97, 110]⟩, .int .i64 x, .int .i64 y]] w fun e w' => e = .returned (.tuple #[]) ∧ RDid B w b L K x y O 0 false w' := by
  have HV := Lib.hid hv
  have b2 := inNum_true.1 hy
  clear hy hv
  have H := Lib.hid h
  obtain ⟨vL, vK, vO, oL, oK, oO, hm, hl, hk, ho, hs⟩ := h
  obtain ⟨sL, cL, rfl⟩ := hl.form
  obtain ⟨sK, cK, rfl⟩ := hk.form
  have hlt := heap_lt hm
  have c2 := hm.c2
  have z2 := hm.fz 2
  have c3 := hm.c3
  have z3 := hm.fz 3
  have c5 := hm.c5
  have z5 := hm.fz 5
  have HM := Lib.hid hm
  have HL := Lib.hid hl
  have HK := Lib.hid hk
  have HO := Lib.hid ho
  have HS := Lib.hid hs
  have HN := Lib.hid hn
  clear hm hl hk ho hs hn
  go_enter Tryz.func25, Tryz.ntmps25
  go_wp2_with (first
    | (go_at_call 81; refine (beyond_any _ _).mono ?_; rintro e w' ⟨rfl, rfl⟩; rw [HV.out]))
  first | (refine bodyPost_ret (results_none rfl _ _ _) rfl ?_) | go_end0
  exact ⟨rfl, H.out.hi_ _ _ (Fr.alloc _ _ _)⟩
set_option maxHeartbeats 1000000 in
theorem rrange_contains (B b : Nat) (L K : List Int) (lo hi : Int) (O : List Int) (x y : Int) (w : World) (h : RS B w b L K lo hi O 0 false) (hn : O.length ≤ 1000) :
    Calls Tryz.prog 25 #[.pointer (some ⟨b, 0, none⟩), .agg #[.string ⟨#[99, 111, 110, 116, 97, 105, 110, 115]⟩, .int .i64 x, .int .i64 y]] w fun e w' => e = .returned (.tuple #[]) ∧ RDid B w b L K lo hi (O ++ [boolI (decide (lo ≤ x) && decide (x ≤ hi))]) 0 false w' := by
  generalize hq : (decide (lo ≤ x) && decide (x ≤ hi)) = q
  have HQ := Lib.hid hq
  clear hq
  have H := Lib.hid h
  obtain ⟨vL, vK, vO, oL, oK, oO, hm, hl, hk, ho, hs⟩ := h
  obtain ⟨sL, cL, rfl⟩ := hl.form
  obtain ⟨sK, cK, rfl⟩ := hk.form
  have hlt := heap_lt hm
  have c2 := hm.c2
  have c3 := hm.c3
  have HM := Lib.hid hm
  have HL := Lib.hid hl
  have HK := Lib.hid hk
  have HO := Lib.hid ho
  have HS := Lib.hid hs
  have HN := Lib.hid hn
  clear hm hl hk ho hs hn
  go_enter Tryz.func25, Tryz.ntmps25
  go_wp2
  have F0 := Lib.hid (Fr.alloc (fun _ => False) w (.cells #[.string ⟨#[99, 111, 110, 116, 97, 105, 110, 115]⟩, .int .i64 x, .int .i64 y] 40))
  go_region_with (first
    | (go_at_call 76; refine (in_eq _ _ _ _ q HQ.out).mono ?_; rintro e w' ⟨rfl, rfl⟩)
    | (go_at_call 79; refine (rtruth_any B b L K lo hi O 0 false q _ ((H.out.fr0 F0.out).fr0 (Fr.drew _ _)) HN.out).mono ?_; rintro e w' ⟨rfl, hd⟩; have HD := Lib.hid (hd.tr ((F0.out.trans (Fr.drew _ _) (fun _ _ h => h)).weak)); clear hd))
  all_goals go_end0
  all_goals exact ⟨rfl, HD.out⟩
set_option maxHeartbeats 1000000 in
theorem rrange_size_no1 (B b : Nat) (L K : List Int) (lo hi : Int) (O : List Int) (x y : Int) (w : World) (h : RS B w b L K lo hi O 0 false) (hn : O.length ≤ 1000) (hlo : inNum lo = true) (hhi : inNum hi = true) (hv : inNum (hi - lo) = false) :
    Calls Tryz.prog 25 #[.pointer (some ⟨b, 0, none⟩), .agg #[.string ⟨#[115, 105, 122, 101]⟩, .int .i64 x, .int .i64 y]] w fun e w' => e = .returned (.tuple #[]) ∧ RDid B w b L K lo hi O 7 false w' := by
  have b1 := inNum_true.1 hlo
  have b2 := inNum_true.1 hhi
  have hw1 : IntKind.i64.wrap (hi - lo) = hi - lo := IntWalk.i64_in _ (by omega)
  have hw2 : IntKind.i64.wrap (hi - lo + 1) = hi - lo + 1 := IntWalk.i64_in _ (by omega)
  have HV := Lib.hid hv
  clear hlo hhi hv
  have H := Lib.hid h
  obtain ⟨vL, vK, vO, oL, oK, oO, hm, hl, hk, ho, hs⟩ := h
  obtain ⟨sL, cL, rfl⟩ := hl.form
  obtain ⟨sK, cK, rfl⟩ := hk.form
  have hlt := heap_lt hm
  have c2 := hm.c2
  have c3 := hm.c3
  have c5 := hm.c5
  have z5 := hm.fz 5
  have HM := Lib.hid hm
  have HL := Lib.hid hl
  have HK := Lib.hid hk
  have HO := Lib.hid ho
  have HS := Lib.hid hs
  have HN := Lib.hid hn
  clear hm hl hk ho hs hn
  go_enter Tryz.func25, Tryz.ntmps25
  go_wp2
  go_quiet ((first | (go_at_call 81; exact Calls.quiet_of_same (beyond_yes _ _ HV.out))))
  go_wp2
  first | (refine bodyPost_ret (results_none rfl _ _ _) rfl ?_) | go_end0
  exact ⟨rfl, H.out.fault3 ((Fr.alloc _ _ _).trans (Fr.drewN _ _ _) (fun _ _ h => h)) 7 (Fr.refl _ _)⟩
set_option maxHeartbeats 1000000 in
theorem rrange_size_no2 (B b : Nat) (L K : List Int) (lo hi : Int) (O : List Int) (x y : Int) (w : World) (h : RS B w b L K lo hi O 0 false) (hn : O.length ≤ 1000) (hlo : inNum lo = true) (hhi : inNum hi = true) (hv : inNum (hi - lo) = true) (hv2 : inNum (hi - lo + 1) = false) :
    Calls Tryz.prog 25 #[.pointer (some ⟨b, 0, none⟩), .agg #[.string ⟨#[115, 105, 122, 101]⟩, .int .i64 x, .int .i64 y]] w fun e w' => e = .returned (.tuple #[]) ∧ RDid B w b L K lo hi O 7 false w' := by
  have b1 := inNum_true.1 hlo
  have b2 := inNum_true.1 hhi
  have hw1 : IntKind.i64.wrap (hi - lo) = hi - lo := IntWalk.i64_in _ (by omega)
  have hw2 : IntKind.i64.wrap (hi - lo + 1) = hi - lo + 1 := IntWalk.i64_in _ (by omega)
  have HV := Lib.hid hv
  have HV2 := Lib.hid hv2
  clear hlo hhi hv hv2
  have H := Lib.hid h
  obtain ⟨vL, vK, vO, oL, oK, oO, hm, hl, hk, ho, hs⟩ := h
  obtain ⟨sL, cL, rfl⟩ := hl.form
  obtain ⟨sK, cK, rfl⟩ := hk.form
  have hlt := heap_lt hm
  have c2 := hm.c2
  have c3 := hm.c3
  have c5 := hm.c5
  have z5 := hm.fz 5
  have HM := Lib.hid hm
  have HL := Lib.hid hl
  have HK := Lib.hid hk
  have HO := Lib.hid ho
  have HS := Lib.hid hs
  have HN := Lib.hid hn
  clear hm hl hk ho hs hn
  go_enter Tryz.func25, Tryz.ntmps25
  go_wp2
  go_quiet ((first | (go_at_call 81; exact Calls.quiet_of_same (beyond_yes _ _ HV2.out)) | (go_at_call 81; exact Calls.quiet_of_same (beyond_no _ _ HV.out))))
  go_wp2
  first | (refine bodyPost_ret (results_none rfl _ _ _) rfl ?_) | go_end0
  exact ⟨rfl, H.out.fault3 ((Fr.alloc _ _ _).trans (Fr.drewN _ _ _) (fun _ _ h => h)) 7 (Fr.refl _ _)⟩
set_option maxHeartbeats 1000000 in
theorem rrange_size_yes (B b : Nat) (L K : List Int) (lo hi : Int) (O : List Int) (x y : Int) (w : World) (h : RS B w b L K lo hi O 0 false) (hn : O.length ≤ 1000) (hlo : inNum lo = true) (hhi : inNum hi = true) (hv : inNum (hi - lo) = true) (hv2 : inNum (hi - lo + 1) = true) :
    Calls Tryz.prog 25 #[.pointer (some ⟨b, 0, none⟩), .agg #[.string ⟨#[115, 105, 122, 101]⟩, .int .i64 x, .int .i64 y]] w fun e w' => e = .returned (.tuple #[]) ∧ RDid B w b L K lo hi (O ++ [hi - lo + 1]) 0 false w' := by
  have b1 := inNum_true.1 hlo
  have b2 := inNum_true.1 hhi
  have hw1 : IntKind.i64.wrap (hi - lo) = hi - lo := IntWalk.i64_in _ (by omega)
  have hw2 : IntKind.i64.wrap (hi - lo + 1) = hi - lo + 1 := IntWalk.i64_in _ (by omega)
  have HV := Lib.hid hv
  have HV2 := Lib.hid hv2
  clear hlo hhi hv hv2
  have H := Lib.hid h
  obtain ⟨vL, vK, vO, oL, oK, oO, hm, hl, hk, ho, hs⟩ := h
  obtain ⟨sL, cL, rfl⟩ := hl.form
  obtain ⟨sK, cK, rfl⟩ := hk.form
  have hlt := heap_lt hm
  have c2 := hm.c2
  have c3 := hm.c3
  have c5 := hm.c5
  have z5 := hm.fz 5
  have HM := Lib.hid hm
  have HL := Lib.hid hl
  have HK := Lib.hid hk
  have HO := Lib.hid ho
  have HS := Lib.hid hs
  have HN := Lib.hid hn
  clear hm hl hk ho hs hn
  go_enter Tryz.func25, Tryz.ntmps25
  go_wp2
  go_quiet ((first | (go_at_call 81; exact Calls.quiet_of_same (beyond_no _ _ HV2.out)) | (go_at_call 81; exact Calls.quiet_of_same (beyond_no _ _ HV.out))))
  go_wp2
  have F0 := Lib.hid (Fr.alloc (fun _ => False) w (.cells #[.string ⟨#[115, 105, 122, 101]⟩, .int .i64 x, .int .i64 y] 40))
  go_region_with (first
    | (go_at_call 77; refine (put_any B b L K lo hi O 0 false _ _ ((H.out.fr0 F0.out).fr0 (Fr.drewN _ _ _)) HN.out).mono ?_; rintro e w' ⟨rfl, hd⟩; have HD := Lib.hid (hd.tr ((F0.out.trans (Fr.drewN _ _ _) (fun _ _ h => h)).weak)); clear hd))
  all_goals first | (refine bodyPost_ret (results_none rfl _ _ _) rfl ?_) | go_wp2
  all_goals try (refine bodyPost_ret (results_none rfl _ _ _) rfl ?_)
  all_goals exact ⟨rfl, HD.out⟩
set_option maxHeartbeats 1000000 in
theorem rrange_sum_no1 (B b : Nat) (L K : List Int) (lo hi : Int) (O : List Int) (x y : Int) (w : World) (h : RS B w b L K lo hi O 0 false) (hn : O.length ≤ 1000) (hlo : inNum lo = true) (hhi : inNum hi = true) (hv : inNum (hi - lo) = false) :
    Calls Tryz.prog 25 #[.pointer (some ⟨b, 0, none⟩), .agg #[.string ⟨#[115, 117, 109]⟩, .int .i64 x, .int .i64 y]] w fun e w' => e = .returned (.tuple #[]) ∧ RDid B w b L K lo hi O 7 false w' := by
  have b1 := inNum_true.1 hlo
  have b2 := inNum_true.1 hhi
  have hw1 : IntKind.i64.wrap (hi - lo) = hi - lo := IntWalk.i64_in _ (by omega)
  have hw2 : IntKind.i64.wrap (hi - lo + 1) = hi - lo + 1 := IntWalk.i64_in _ (by omega)
  have HV := Lib.hid hv
  have HV2 := HV
  clear hlo hhi hv
  have H := Lib.hid h
  obtain ⟨vL, vK, vO, oL, oK, oO, hm, hl, hk, ho, hs⟩ := h
  obtain ⟨sL, cL, rfl⟩ := hl.form
  obtain ⟨sK, cK, rfl⟩ := hk.form
  have hlt := heap_lt hm
  have c2 := hm.c2
  have c3 := hm.c3
  have c5 := hm.c5
  have z5 := hm.fz 5
  have HM := Lib.hid hm
  have HL := Lib.hid hl
  have HK := Lib.hid hk
  have HO := Lib.hid ho
  have HS := Lib.hid hs
  have HN := Lib.hid hn
  clear hm hl hk ho hs hn
  go_enter Tryz.func25, Tryz.ntmps25
  go_wp2
  go_quiet ((first | (go_at_call 81; exact Calls.quiet_of_same (beyond_yes _ _ HV2.out)) | (go_at_call 81; exact Calls.quiet_of_same (beyond_no _ _ HV.out)) | (go_at_call 81; exact Calls.quiet_of_same (beyond_yes _ _ HV.out))))
  go_wp2
  first | (refine bodyPost_ret (results_none rfl _ _ _) rfl ?_) | go_end0
  exact ⟨rfl, H.out.fault3 ((Fr.alloc _ _ _).trans (Fr.drewN _ _ _) (fun _ _ h => h)) 7 (Fr.refl _ _)⟩
set_option maxHeartbeats 1000000 in
theorem rrange_sum_no2 (B b : Nat) (L K : List Int) (lo hi : Int) (O : List Int) (x y : Int) (w : World) (h : RS B w b L K lo hi O 0 false) (hn : O.length ≤ 1000) (hlo : inNum lo = true) (hhi : inNum hi = true) (hv : inNum (hi - lo) = true) (hv2 : inNum (hi - lo + 1) = false) :
    Calls Tryz.prog 25 #[.pointer (some ⟨b, 0, none⟩), .agg #[.string ⟨#[115, 117, 109]⟩, .int .i64 x, .int .i64 y]] w fun e w' => e = .returned (.tuple #[]) ∧ RDid B w b L K lo hi O 7 false w' := by
  have b1 := inNum_true.1 hlo
  have b2 := inNum_true.1 hhi
  have hw1 : IntKind.i64.wrap (hi - lo) = hi - lo := IntWalk.i64_in _ (by omega)
  have hw2 : IntKind.i64.wrap (hi - lo + 1) = hi - lo + 1 := IntWalk.i64_in _ (by omega)
  have HV := Lib.hid hv
  have HV2 := Lib.hid hv2
  clear hlo hhi hv hv2
  have H := Lib.hid h
  obtain ⟨vL, vK, vO, oL, oK, oO, hm, hl, hk, ho, hs⟩ := h
  obtain ⟨sL, cL, rfl⟩ := hl.form
  obtain ⟨sK, cK, rfl⟩ := hk.form
  have hlt := heap_lt hm
  have c2 := hm.c2
  have c3 := hm.c3
  have c5 := hm.c5
  have z5 := hm.fz 5
  have HM := Lib.hid hm
  have HL := Lib.hid hl
  have HK := Lib.hid hk
  have HO := Lib.hid ho
  have HS := Lib.hid hs
  have HN := Lib.hid hn
  clear hm hl hk ho hs hn
  go_enter Tryz.func25, Tryz.ntmps25
  go_wp2
  go_quiet ((first | (go_at_call 81; exact Calls.quiet_of_same (beyond_yes _ _ HV2.out)) | (go_at_call 81; exact Calls.quiet_of_same (beyond_no _ _ HV.out)) | (go_at_call 81; exact Calls.quiet_of_same (beyond_yes _ _ HV.out))))
  go_wp2
  first | (refine bodyPost_ret (results_none rfl _ _ _) rfl ?_) | go_end0
  exact ⟨rfl, H.out.fault3 ((Fr.alloc _ _ _).trans (Fr.drewN _ _ _) (fun _ _ h => h)) 7 (Fr.refl _ _)⟩
set_option maxHeartbeats 1000000 in
theorem rrange_sum_yes (B b : Nat) (L K : List Int) (lo hi : Int) (O : List Int) (x y : Int) (w : World) (h : RS B w b L K lo hi O 0 false) (hn : O.length ≤ 1000) (hlo : inNum lo = true) (hhi : inNum hi = true) (hv : inNum (hi - lo) = true) (hv2 : inNum (hi - lo + 1) = true) :
    Calls Tryz.prog 25 #[.pointer (some ⟨b, 0, none⟩), .agg #[.string ⟨#[115, 117, 109]⟩, .int .i64 x, .int .i64 y]] w fun e w' => e = .returned (.tuple #[]) ∧ RRes B w b L K lo hi O (totFrom lo (hi + 1 - lo).toNat lo 0) w' := by
  have b1 := inNum_true.1 hlo
  have b2 := inNum_true.1 hhi
  have hw1 : IntKind.i64.wrap (hi - lo) = hi - lo := IntWalk.i64_in _ (by omega)
  have hw2 : IntKind.i64.wrap (hi - lo + 1) = hi - lo + 1 := IntWalk.i64_in _ (by omega)
  have HV := Lib.hid hv
  have HV2 := Lib.hid hv2
  have HLO := Lib.hid hlo
  have HHI := Lib.hid hhi
  clear hlo hhi hv hv2
  have H := Lib.hid h
  obtain ⟨vL, vK, vO, oL, oK, oO, hm, hl, hk, ho, hs⟩ := h
  obtain ⟨sL, cL, rfl⟩ := hl.form
  obtain ⟨sK, cK, rfl⟩ := hk.form
  have hlt := heap_lt hm
  have c2 := hm.c2
  have c3 := hm.c3
  have c5 := hm.c5
  have z5 := hm.fz 5
  have HM := Lib.hid hm
  have HL := Lib.hid hl
  have HK := Lib.hid hk
  have HO := Lib.hid ho
  have HS := Lib.hid hs
  have HN := Lib.hid hn
  clear hm hl hk ho hs hn
  go_enter Tryz.func25, Tryz.ntmps25
  go_wp2
  go_quiet ((first | (go_at_call 81; exact Calls.quiet_of_same (beyond_no _ _ HV2.out)) | (go_at_call 81; exact Calls.quiet_of_same (beyond_no _ _ HV.out))))
  have F0 := Lib.hid (Fr.alloc (fun _ => False) w (.cells #[.string ⟨#[115, 117, 109]⟩, .int .i64 x, .int .i64 y] 40))
  go_wp2_with (go_at_call 83; refine (rsum_any B b L K lo hi O _ ((H.out.fr0 F0.out).fr0 (Fr.drewN _ _ _)) HN.out HLO.out HHI.out).mono ?_; rintro e w' ⟨rfl, hd⟩; have HD := Lib.hid (RRes.tr (F0.out.trans (Fr.drewN _ _ _) (fun _ _ h => h)).weak hd); clear hd)
  first | (refine bodyPost_ret (results_none rfl _ _ _) rfl ?_) | go_end0
  exact ⟨rfl, HD.out⟩
end Go.Proofs.YtpnbhoeghncnnaaGreatDoor
namespace Go.Proofs.YtpnbhoeghncnnaaGreatDoor
open Go.RowKit
theorem newG {w W : World} {own own' : Option Nat} (hf : Fr (fun _ => False) w W) (h : own' = own ∨ own' = some W.heap.size) : New w own own' := by
  rcases h with h | h
  · exact .inl h
  · exact .inr (.inr ⟨_, h, hf.size⟩)
theorem Lst.from_ {w : World} {s : Option Addr} {n c : Nat} {own : Option Nat} {xs : List Int} (h : Lst w (.slice s n c) own xs) (k : Nat) (hk : k ≤ xs.length) : Lst w (.slice (if c = k then s else s.map (·.add (k * 1))) (n - k) (c - k)) own (xs.drop k) := by
  rcases h with ⟨he, ho, hx⟩ | ⟨g', o, cap', cs, h1, h2, h3, h4, h5, h6, h7⟩
  · cases he; subst hx
    obtain rfl : k = 0 := by simpa using hk
    exact .inl ⟨rfl, ho, rfl⟩
  · cases h1
    have hl : (xs.drop k).length = xs.length - k := List.length_drop
    by_cases hc : c = k
    · rw [if_pos hc]
      refine .inr ⟨g', o, c - k, cs, by rw [hl], h2, h3, by omega, by omega, h6, fun i x hx => ?_⟩
      have := lt_of_get hx
      omega
    · rw [if_neg hc]
      refine .inr ⟨g', o + k, c - k, cs, ?_, h2, h3, by omega, by omega, h6, fun i x hx => ?_⟩
      · rw [hl]; unfold Addr.add; split <;> simp_all
      · rw [List.getElem?_drop] at hx
        have := h7 _ x hx
        rwa [show o + k + i = o + (k + i) by omega]
theorem one_cellD (w : World) (o : Obj) (a : Int) : ∀ j u, ([a].map (fun x => Value.int .i64 x))[j]? = some u → ((w.alloc o).alloc (.cells #[.int .i64 a] 3)).drew.cell? ((⟨w.heap.size + 1, 0, none⟩ : Addr).add j) = some u := one_cell (w.alloc o) (w.heap.size + 1) (by simp) a 3
theorem one_cellN (w : World) (o : Obj) (n : Nat) (a : Int) : ∀ j u, ([a].map (fun x => Value.int .i64 x))[j]? = some u → (((w.alloc o).alloc (.cells #[.int .i64 a] 3)).drewN n).cell? ((⟨w.heap.size + 1, 0, none⟩ : Addr).add j) = some u := one_cell (w.alloc o) (w.heap.size + 1) (by simp) a 3
theorem Lst.at_ {w : World} {s : Option Addr} {n c : Nat} {own : Option Nat} {xs : List Int} (h : Lst w (.slice s n c) own xs) {i : Nat} {x : Int} (hx : xs[i]? = some x) : ∃ g o, s = some ⟨g, o, none⟩ ∧ w.cell? ⟨g, o + i, none⟩ = some (.int .i64 x) ∧ g < w.heap.size := by
  rcases h with ⟨he, ho, hx'⟩ | ⟨g', o, cap', cs, h1, h2, h3, h4, h5, h6, h7⟩
  · rw [hx'] at hx; simp at hx
  · cases h1; exact ⟨g', o, rfl, by rw [heap_cell h3]; exact h7 i x hx, heap_lt h3⟩
theorem RDid.then_ {B : Nat} {w w1 : World} {b : Nat} {L K : List Int} {lo hi : Int} {O : List Int} {f : Int} {lg : Bool} {w' : World} (h : RS B w1 b L K lo hi O f lg ∧ Fr (fun k => B ≤ k) w w1) (hf : Fr (fun _ => False) w1 w') : RDid B w b L K lo hi O f lg w' :=
  ⟨h.1.fr0 hf, h.2.trans hf (fun _ _ h => h.elim)⟩
theorem rindex_q (w : World) (lv : Value) (own : Option Nat) (xs : List Int) (h : Lst w lv own xs) (x q : Int) (hn : xs.length ≤ 1000) (hq : ixI (fun y => x == y) xs = q) :
    Calls Tryz.prog 80 #[lv, .int .i64 x] w fun e w' => e = .returned (.int .i64 q) ∧ w' = w := (rindex_call w lv own xs h x hn).mono fun _ _ ⟨he, hw⟩ => ⟨by rw [he, hq], hw.symm⟩
set_option maxHeartbeats 1000000 in
theorem rqueue_enter (B b : Nat) (L K : List Int) (lo hi : Int) (O : List Int) (x y : Int) (w : World) (h : RS B w b L K lo hi O 0 false) (hn : O.length ≤ 1000) (hln : L.length ≤ 1000) :
    Calls Tryz.prog 21 #[.pointer (some ⟨b, 0, none⟩), .agg #[.string ⟨#[101, 110, 116, 101, 114]⟩, .int .i64 x, .int .i64 y]] w fun e w' => e = .returned (.tuple #[]) ∧ RDid B w b (L ++ [x]) K lo hi O 0 false w' := by
  have HLN := Lib.hid hln
  clear hln
  have H := Lib.hid h
  obtain ⟨vL, vK, vO, oL, oK, oO, hm, hl, hk, ho, hs⟩ := h
  obtain ⟨sL, cL, rfl⟩ := hl.form
  obtain ⟨sK, cK, rfl⟩ := hk.form
  have hlt := heap_lt hm
  generalize hLn : L.length = nL at hm hl
  generalize hKn : K.length = nK at hm hk
  have HNL := Lib.hid hLn
  have HNK := Lib.hid hKn
  clear hLn hKn
  have c0 := hm.c0
  have z0 := hm.fz 0
  have HM := Lib.hid hm
  have HL := Lib.hid hl
  have HK := Lib.hid hk
  have HO := Lib.hid ho
  have HS := Lib.hid hs
  have HN := Lib.hid hn
  clear hm hl hk ho hs hn
  rcases Nat.eq_zero_or_pos nL with rfl | hp
  rotate_left
  have hz : ((nL : Int) == 0) = false := by rw [beq_eq_false_iff_ne]; omega
  all_goals
    go_enter Tryz.func21, Tryz.ntmps21
    go_wp2
    have F0 := Lib.hid (Fr.alloc (fun _ => False) w (.cells #[.string ⟨#[101, 110, 116, 101, 114]⟩, .int .i64 x, .int .i64 y] 40))
    go_region_law (first
      | (refine step_appG rfl (.tmp 48) (.tmp 51) rfl _ oL L (HL.out.fr0 (((F0.out).trans (Fr.alloc (fun _ => False) _ (.cells #[.int .i64 x] 3)) (fun _ _ h => h)).trans (Fr.drew _ _) (fun _ _ h => h))) _ HNL.out rfl _ 1 _ [x] rfl ⟨rfl, fun _ => ⟨_, rfl, one_cellD w _ x⟩⟩ (by have := HLN.out; have := HNL.out; have := HNK.out; omega) ?_; intro s1 cap1 own1 w1 hl1 hf1 ho1
         have HD := Lib.hid (RS.setL HM.out HL.out HK.out HO.out HS.out ((((F0.out).trans (Fr.alloc (fun _ => False) _ (.cells #[.int .i64 x] 3)) (fun _ _ h => h)).trans (Fr.drew _ _) (fun _ _ h => h)).weak.trans hf1 (fun _ _ h => h)) (newG (((F0.out).trans (Fr.alloc (fun _ => False) _ (.cells #[.int .i64 x] 3)) (fun _ _ h => h)).trans (Fr.drew _ _) (fun _ _ h => h)) ho1) hl1)
         have c1 := HD.out.1.c0
         have z1 := HD.out.1.fz 0
         clear hl1 hf1 ho1))
    all_goals first | (refine bodyPost_ret (results_none rfl _ _ _) rfl ?_) | go_end0 | (go_wp2; go_end0)
    all_goals exact ⟨rfl, HD.out.2⟩
set_option maxHeartbeats 1000000 in
theorem rqueue_count (B b : Nat) (L K : List Int) (lo hi : Int) (O : List Int) (x y : Int) (w : World) (h : RS B w b L K lo hi O 0 false) (hn : O.length ≤ 1000) :
    Calls Tryz.prog 21 #[.pointer (some ⟨b, 0, none⟩), .agg #[.string ⟨#[99, 111, 117, 110, 116]⟩, .int .i64 x, .int .i64 y]] w fun e w' => e = .returned (.tuple #[]) ∧ RDid B w b L K lo hi (O ++ [(L.length : Int)]) 0 false w' := by
  have H := Lib.hid h
  obtain ⟨vL, vK, vO, oL, oK, oO, hm, hl, hk, ho, hs⟩ := h
  obtain ⟨sL, cL, rfl⟩ := hl.form
  obtain ⟨sK, cK, rfl⟩ := hk.form
  have hlt := heap_lt hm
  generalize hLn : L.length = nL at hm hl
  generalize hKn : K.length = nK at hm hk
  have HNL := Lib.hid hLn
  have HNK := Lib.hid hKn
  clear hLn hKn
  have c0 := hm.c0
  have HM := Lib.hid hm
  have HL := Lib.hid hl
  have HK := Lib.hid hk
  have HO := Lib.hid ho
  have HS := Lib.hid hs
  have HN := Lib.hid hn
  clear hm hl hk ho hs hn
  rcases Nat.eq_zero_or_pos nL with rfl | hp
  rotate_left
  have hz : ((nL : Int) == 0) = false := by rw [beq_eq_false_iff_ne]; omega
  all_goals
    go_enter Tryz.func21, Tryz.ntmps21
    go_wp2_with (go_at_call 77; refine (put_any B b L K lo hi O 0 false _ _ (H.out.fr0 (Fr.alloc _ w _)) HN.out).mono ?_; rintro e w' ⟨rfl, hd⟩; have HD := Lib.hid (hd.tr ((Fr.alloc _ w _).weak)); clear hd)
    all_goals first | (refine bodyPost_ret (results_none rfl _ _ _) rfl ?_) | go_end0 | (go_wp2; go_end0)
    all_goals exact ⟨rfl, HD.out⟩
set_option maxHeartbeats 1000000 in
theorem rqueue_leave_no (B b : Nat) (L K : List Int) (lo hi : Int) (O : List Int) (x y : Int) (w : World) (h : RS B w b L K lo hi O 0 false) (hn : O.length ≤ 1000) (hnil : L = []) :
    Calls Tryz.prog 21 #[.pointer (some ⟨b, 0, none⟩), .agg #[.string ⟨#[108, 101, 97, 118, 101]⟩, .int .i64 x, .int .i64 y]] w fun e w' => e = .returned (.tuple #[]) ∧ RDid B w b L K lo hi O 1 false w' := by
  have H := Lib.hid h
  obtain ⟨vL, vK, vO, oL, oK, oO, hm, hl, hk, ho, hs⟩ := h
  obtain ⟨sL, cL, rfl⟩ := hl.form
  obtain ⟨sK, cK, rfl⟩ := hk.form
  have hlt := heap_lt hm
  generalize hLn : L.length = nL at hm hl
  generalize hKn : K.length = nK at hm hk
  have HNL := Lib.hid hLn
  have HNK := Lib.hid hKn
  clear hLn hKn
  have c0 := hm.c0
  have c5 := hm.c5
  have z5 := hm.fz 5
  have HM := Lib.hid hm
  have HL := Lib.hid hl
  have HK := Lib.hid hk
  have HO := Lib.hid ho
  have HS := Lib.hid hs
  have HN := Lib.hid hn
  clear hm hl hk ho hs hn
  obtain rfl : nL = 0 := by rw [← HNL.out, hnil]; rfl
  clear hnil
  go_enter Tryz.func21, Tryz.ntmps21
  go_wp2
  all_goals first | (refine bodyPost_ret (results_none rfl _ _ _) rfl ?_) | go_end0 | (go_wp2; go_end0)
  all_goals exact ⟨rfl, H.out.fault 1 (Fr.alloc _ _ _)⟩
set_option maxHeartbeats 1000000 in
theorem rqueue_front_no (B b : Nat) (L K : List Int) (lo hi : Int) (O : List Int) (x y : Int) (w : World) (h : RS B w b L K lo hi O 0 false) (hn : O.length ≤ 1000) (hnil : L = []) :
    Calls Tryz.prog 21 #[.pointer (some ⟨b, 0, none⟩), .agg #[.string ⟨#[102, 114, 111, 110, 116]⟩, .int .i64 x, .int .i64 y]] w fun e w' => e = .returned (.tuple #[]) ∧ RDid B w b L K lo hi O 1 false w' := by
  have H := Lib.hid h
  obtain ⟨vL, vK, vO, oL, oK, oO, hm, hl, hk, ho, hs⟩ := h
  obtain ⟨sL, cL, rfl⟩ := hl.form
  obtain ⟨sK, cK, rfl⟩ := hk.form
  have hlt := heap_lt hm
  generalize hLn : L.length = nL at hm hl
  generalize hKn : K.length = nK at hm hk
  have HNL := Lib.hid hLn
  have HNK := Lib.hid hKn
  clear hLn hKn
  have c0 := hm.c0
  have c5 := hm.c5
  have z5 := hm.fz 5
  have HM := Lib.hid hm
  have HL := Lib.hid hl
  have HK := Lib.hid hk
  have HO := Lib.hid ho
  have HS := Lib.hid hs
  have HN := Lib.hid hn
  clear hm hl hk ho hs hn
  obtain rfl : nL = 0 := by rw [← HNL.out, hnil]; rfl
  clear hnil
  go_enter Tryz.func21, Tryz.ntmps21
  go_wp2
  all_goals first | (refine bodyPost_ret (results_none rfl _ _ _) rfl ?_) | go_end0 | (go_wp2; go_end0)
  all_goals exact ⟨rfl, H.out.fault 1 (Fr.alloc _ _ _)⟩
set_option maxHeartbeats 1000000 in
theorem rqueue_leave_yes (B b : Nat) (L K : List Int) (lo hi : Int) (O : List Int) (x y : Int) (w : World) (h : RS B w b L K lo hi O 0 false) (hn : O.length ≤ 1000) (z : Int) (L1 : List Int) (hcons : L = z :: L1) :
    Calls Tryz.prog 21 #[.pointer (some ⟨b, 0, none⟩), .agg #[.string ⟨#[108, 101, 97, 118, 101]⟩, .int .i64 x, .int .i64 y]] w fun e w' => e = .returned (.tuple #[]) ∧ RDid B w b L1 K lo hi O 0 false w' := by
  have H := Lib.hid h
  obtain ⟨vL, vK, vO, oL, oK, oO, hm, hl, hk, ho, hs⟩ := h
  obtain ⟨sL, cL, rfl⟩ := hl.form
  obtain ⟨sK, cK, rfl⟩ := hk.form
  have hlt := heap_lt hm
  generalize hLn : L.length = nL at hm hl
  generalize hKn : K.length = nK at hm hk
  have HNL := Lib.hid hLn
  have HNK := Lib.hid hKn
  clear hLn hKn
  have c0 := hm.c0
  have z0 := hm.fz 0
  have HM := Lib.hid hm
  have HL := Lib.hid hl
  have HK := Lib.hid hk
  have HO := Lib.hid ho
  have HS := Lib.hid hs
  have HN := Lib.hid hn
  clear hm hl hk ho hs hn
  have hz : ((nL : Int) == 0) = false := by rw [beq_eq_false_iff_ne]; have := HNL.out; rw [hcons] at this; simp at this; omega
  have hn1 : 1 ≤ nL := by have := HNL.out; rw [hcons] at this; simp at this; omega
  have hfr := fun u => (show (Instr.sliceAt 25 (.slice sL nL cL) (some (.int .i64 (1 : Int))) none none).run Tryz.prog u = _ from run_from sL nL cL 1 (by omega) u)
  have hto := HL.out.from_ 1 (by have := HNL.out; omega)
  rw [show L.drop 1 = L1 by rw [hcons]; rfl] at hto
  generalize (if cL = 1 then sL else sL.map (·.add (1 * 1))) = s2 at hfr hto
  generalize nL - 1 = n2 at hfr hto
  generalize cL - 1 = c2 at hfr hto
  have HD := Lib.hid (RS.setL HM.out HL.out HK.out HO.out HS.out (Fr.refl _ w) (.inl rfl) hto)
  clear hto hcons
  go_enter Tryz.func21, Tryz.ntmps21
  go_wp2
  all_goals first | (refine bodyPost_ret (results_none rfl _ _ _) rfl ?_) | go_end0 | (go_wp2; go_end0)
  all_goals exact ⟨rfl, RDid.then_ HD.out.2 (Fr.alloc _ _ _)⟩
set_option maxHeartbeats 1000000 in
theorem rqueue_front_yes (B b : Nat) (L K : List Int) (lo hi : Int) (O : List Int) (x y : Int) (w : World) (h : RS B w b L K lo hi O 0 false) (hn : O.length ≤ 1000) (z : Int) (L1 : List Int) (hcons : L = z :: L1) :
    Calls Tryz.prog 21 #[.pointer (some ⟨b, 0, none⟩), .agg #[.string ⟨#[102, 114, 111, 110, 116]⟩, .int .i64 x, .int .i64 y]] w fun e w' => e = .returned (.tuple #[]) ∧ RDid B w b L K lo hi (O ++ [z]) 0 false w' := by
  have H := Lib.hid h
  obtain ⟨vL, vK, vO, oL, oK, oO, hm, hl, hk, ho, hs⟩ := h
  obtain ⟨sL, cL, rfl⟩ := hl.form
  obtain ⟨sK, cK, rfl⟩ := hk.form
  have hlt := heap_lt hm
  generalize hLn : L.length = nL at hm hl
  generalize hKn : K.length = nK at hm hk
  have HNL := Lib.hid hLn
  have HNK := Lib.hid hKn
  clear hLn hKn
  have c0 := hm.c0
  have HM := Lib.hid hm
  have HL := Lib.hid hl
  have HK := Lib.hid hk
  have HO := Lib.hid ho
  have HS := Lib.hid hs
  have HN := Lib.hid hn
  clear hm hl hk ho hs hn
  have hz : ((nL : Int) == 0) = false := by rw [beq_eq_false_iff_ne]; have := HNL.out; rw [hcons] at this; simp at this; omega
  have hn1 : (1 : Int) ≤ nL := by have := HNL.out; rw [hcons] at this; simp at this; omega
  obtain ⟨g, o, rfl, hr, hg⟩ := HL.out.at_ (i := 0) (x := z) (by rw [hcons]; rfl)
  simp only [Nat.add_zero] at hr
  clear hcons
  go_enter Tryz.func21, Tryz.ntmps21
  go_wp2_with (go_at_call 77; refine (put_any B b L K lo hi O 0 false _ _ (H.out.fr0 (Fr.alloc _ w _)) HN.out).mono ?_; rintro e w' ⟨rfl, hd⟩; have HD := Lib.hid (hd.tr ((Fr.alloc _ w _).weak)); clear hd)
  all_goals first | (refine bodyPost_ret (results_none rfl _ _ _) rfl ?_) | go_end0 | (go_wp2; go_end0)
  all_goals exact ⟨rfl, HD.out⟩
set_option maxHeartbeats 1000000 in
theorem rstack_count (B b : Nat) (L K : List Int) (lo hi : Int) (O : List Int) (x y : Int) (w : World) (h : RS B w b L K lo hi O 0 false) (hn : O.length ≤ 1000) :
    Calls Tryz.prog 20 #[.pointer (some ⟨b, 0, none⟩), .agg #[.string ⟨#[99, 111, 117, 110, 116]⟩, .int .i64 x, .int .i64 y]] w fun e w' => e = .returned (.tuple #[]) ∧ RDid B w b L K lo hi (O ++ [(L.length : Int)]) 0 false w' := by
  have H := Lib.hid h
  obtain ⟨vL, vK, vO, oL, oK, oO, hm, hl, hk, ho, hs⟩ := h
  obtain ⟨sL, cL, rfl⟩ := hl.form
  obtain ⟨sK, cK, rfl⟩ := hk.form
  have hlt := heap_lt hm
  generalize hLn : L.length = nL at hm hl
  generalize hKn : K.length = nK at hm hk
  have HNL := Lib.hid hLn
  have HNK := Lib.hid hKn
  clear hLn hKn
  have c0 := hm.c0
  have HM := Lib.hid hm
  have HL := Lib.hid hl
  have HK := Lib.hid hk
  have HO := Lib.hid ho
  have HS := Lib.hid hs
  have HN := Lib.hid hn
  clear hm hl hk ho hs hn
  go_enter Tryz.func20, Tryz.ntmps20
  go_wp2_with (go_at_call 77; refine (put_any B b L K lo hi O 0 false _ _ (H.out.fr0 (Fr.alloc _ w _)) HN.out).mono ?_; rintro e w' ⟨rfl, hd⟩; have HD := Lib.hid (hd.tr ((Fr.alloc _ w _).weak)); clear hd)
  all_goals first | (refine bodyPost_ret (results_none rfl _ _ _) rfl ?_) | go_end0 | (go_wp2; go_end0)
  all_goals exact ⟨rfl, HD.out⟩
set_option maxHeartbeats 1000000 in
theorem rstack_push_no (B b : Nat) (L K : List Int) (lo hi : Int) (O : List Int) (x y : Int) (w : World) (h : RS B w b L K lo hi O 0 false) (hn : O.length ≤ 1000) (hx : x < 0) :
    Calls Tryz.prog 20 #[.pointer (some ⟨b, 0, none⟩), .agg #[.string ⟨#[112, 117, 115, 104]⟩, .int .i64 x, .int .i64 y]] w fun e w' => e = .returned (.tuple #[]) ∧ RDid B w b L K lo hi O 1 false w' := by
  have H := Lib.hid h
  obtain ⟨vL, vK, vO, oL, oK, oO, hm, hl, hk, ho, hs⟩ := h
  obtain ⟨sL, cL, rfl⟩ := hl.form
  obtain ⟨sK, cK, rfl⟩ := hk.form
  have hlt := heap_lt hm
  generalize hLn : L.length = nL at hm hl
  generalize hKn : K.length = nK at hm hk
  have HNL := Lib.hid hLn
  have HNK := Lib.hid hKn
  clear hLn hKn
  have c0 := hm.c0
  have c5 := hm.c5
  have z5 := hm.fz 5
  have HM := Lib.hid hm
  have HL := Lib.hid hl
  have HK := Lib.hid hk
  have HO := Lib.hid ho
  have HS := Lib.hid hs
  have HN := Lib.hid hn
  clear hm hl hk ho hs hn
  go_enter Tryz.func20, Tryz.ntmps20
  go_wp2
  all_goals first | (refine bodyPost_ret (results_none rfl _ _ _) rfl ?_) | go_end0 | (go_wp2; go_end0)
  all_goals exact ⟨rfl, H.out.fault 1 (Fr.alloc _ _ _)⟩
set_option maxHeartbeats 1000000 in
theorem rstack_push_yes (B b : Nat) (L K : List Int) (lo hi : Int) (O : List Int) (x y : Int) (w : World) (h : RS B w b L K lo hi O 0 false) (hn : O.length ≤ 1000) (hln : L.length ≤ 1000) (hx : 0 ≤ x) :
    Calls Tryz.prog 20 #[.pointer (some ⟨b, 0, none⟩), .agg #[.string ⟨#[112, 117, 115, 104]⟩, .int .i64 x, .int .i64 y]] w fun e w' => e = .returned (.tuple #[]) ∧ RDid B w b (L ++ [x]) K lo hi O 0 false w' := by
  have HLN := Lib.hid hln
  clear hln
  have H := Lib.hid h
  obtain ⟨vL, vK, vO, oL, oK, oO, hm, hl, hk, ho, hs⟩ := h
  obtain ⟨sL, cL, rfl⟩ := hl.form
  obtain ⟨sK, cK, rfl⟩ := hk.form
  have hlt := heap_lt hm
  generalize hLn : L.length = nL at hm hl
  generalize hKn : K.length = nK at hm hk
  have HNL := Lib.hid hLn
  have HNK := Lib.hid hKn
  clear hLn hKn
  have c0 := hm.c0
  have z0 := hm.fz 0
  have HM := Lib.hid hm
  have HL := Lib.hid hl
  have HK := Lib.hid hk
  have HO := Lib.hid ho
  have HS := Lib.hid hs
  have HN := Lib.hid hn
  clear hm hl hk ho hs hn
  go_enter Tryz.func20, Tryz.ntmps20
  go_wp2
  have F0 := Lib.hid (Fr.alloc (fun _ => False) w (.cells #[.string ⟨#[112, 117, 115, 104]⟩, .int .i64 x, .int .i64 y] 40))
  go_region_law (first
    | (refine step_appG rfl (.tmp 43) (.tmp 46) rfl _ oL L (HL.out.fr0 (((F0.out).trans (Fr.alloc (fun _ => False) _ (.cells #[.int .i64 x] 3)) (fun _ _ h => h)).trans (Fr.drew _ _) (fun _ _ h => h))) _ HNL.out rfl _ 1 _ [x] rfl ⟨rfl, fun _ => ⟨_, rfl, one_cellD w _ x⟩⟩ (by have := HLN.out; have := HNL.out; have := HNK.out; omega) ?_; intro s1 cap1 own1 w1 hl1 hf1 ho1
       have HD := Lib.hid (RS.setL HM.out HL.out HK.out HO.out HS.out ((((F0.out).trans (Fr.alloc (fun _ => False) _ (.cells #[.int .i64 x] 3)) (fun _ _ h => h)).trans (Fr.drew _ _) (fun _ _ h => h)).weak.trans hf1 (fun _ _ h => h)) (newG (((F0.out).trans (Fr.alloc (fun _ => False) _ (.cells #[.int .i64 x] 3)) (fun _ _ h => h)).trans (Fr.drew _ _) (fun _ _ h => h)) ho1) hl1)
       have c1 := HD.out.1.c0
       have z1 := HD.out.1.fz 0
       clear hl1 hf1 ho1))
  all_goals first | (refine bodyPost_ret (results_none rfl _ _ _) rfl ?_) | go_end0 | (go_wp2; go_end0)
  all_goals exact ⟨rfl, HD.out.2⟩
set_option maxHeartbeats 1000000 in
theorem rstack_pop_no (B b : Nat) (L K : List Int) (lo hi : Int) (O : List Int) (x y : Int) (w : World) (h : RS B w b L K lo hi O 0 false) (hn : O.length ≤ 1000) (hnil : L = []) :
    Calls Tryz.prog 20 #[.pointer (some ⟨b, 0, none⟩), .agg #[.string ⟨#[112, 111, 112]⟩, .int .i64 x, .int .i64 y]] w fun e w' => e = .returned (.tuple #[]) ∧ RDid B w b L K lo hi O 1 false w' := by
  have H := Lib.hid h
  obtain ⟨vL, vK, vO, oL, oK, oO, hm, hl, hk, ho, hs⟩ := h
  obtain ⟨sL, cL, rfl⟩ := hl.form
  obtain ⟨sK, cK, rfl⟩ := hk.form
  have hlt := heap_lt hm
  generalize hLn : L.length = nL at hm hl
  generalize hKn : K.length = nK at hm hk
  have HNL := Lib.hid hLn
  have HNK := Lib.hid hKn
  clear hLn hKn
  have c0 := hm.c0
  have c5 := hm.c5
  have z5 := hm.fz 5
  have HM := Lib.hid hm
  have HL := Lib.hid hl
  have HK := Lib.hid hk
  have HO := Lib.hid ho
  have HS := Lib.hid hs
  have HN := Lib.hid hn
  clear hm hl hk ho hs hn
  obtain rfl : nL = 0 := by rw [← HNL.out, hnil]; rfl
  clear hnil
  go_enter Tryz.func20, Tryz.ntmps20
  go_wp2
  all_goals first | (refine bodyPost_ret (results_none rfl _ _ _) rfl ?_) | go_end0 | (go_wp2; go_end0)
  all_goals exact ⟨rfl, H.out.fault 1 (Fr.alloc _ _ _)⟩
set_option maxHeartbeats 1000000 in
theorem rstack_peek_nil (B b : Nat) (L K : List Int) (lo hi : Int) (O : List Int) (x y : Int) (w : World) (h : RS B w b L K lo hi O 0 false) (hn : O.length ≤ 1000) (hnil : L = []) :
    Calls Tryz.prog 20 #[.pointer (some ⟨b, 0, none⟩), .agg #[.string ⟨#[112, 101, 101, 107]⟩, .int .i64 x, .int .i64 y]] w fun e w' => e = .returned (.tuple #[]) ∧ RDid B w b L K lo hi (O ++ [0]) 0 false w' := by
  have H := Lib.hid h
  obtain ⟨vL, vK, vO, oL, oK, oO, hm, hl, hk, ho, hs⟩ := h
  obtain ⟨sL, cL, rfl⟩ := hl.form
  obtain ⟨sK, cK, rfl⟩ := hk.form
  have hlt := heap_lt hm
  generalize hLn : L.length = nL at hm hl
  generalize hKn : K.length = nK at hm hk
  have HNL := Lib.hid hLn
  have HNK := Lib.hid hKn
  clear hLn hKn
  have c0 := hm.c0
  have c5 := hm.c5
  have z5 := hm.fz 5
  have HM := Lib.hid hm
  have HL := Lib.hid hl
  have HK := Lib.hid hk
  have HO := Lib.hid ho
  have HS := Lib.hid hs
  have HN := Lib.hid hn
  clear hm hl hk ho hs hn
  obtain rfl : nL = 0 := by rw [← HNL.out, hnil]; rfl
  clear hnil
  go_enter Tryz.func20, Tryz.ntmps20
  go_wp2_with (go_at_call 77; refine (put_any B b L K lo hi O 0 false _ _ (H.out.fr0 (Fr.alloc _ w _)) HN.out).mono ?_; rintro e w' ⟨rfl, hd⟩; have HD := Lib.hid (hd.tr ((Fr.alloc _ w _).weak)); clear hd)
  all_goals first | (refine bodyPost_ret (results_none rfl _ _ _) rfl ?_) | go_end0 | (go_wp2; go_end0)
  all_goals exact ⟨rfl, HD.out⟩
set_option maxHeartbeats 1000000 in
theorem rstack_pop_yes (B b : Nat) (L K : List Int) (lo hi : Int) (O : List Int) (x y : Int) (w : World) (h : RS B w b L K lo hi O 0 false) (hn : O.length ≤ 1000) (hln : L.length ≤ 1000) (z : Int) (L1 : List Int) (hsnoc : L = L1 ++ [z]) :
    Calls Tryz.prog 20 #[.pointer (some ⟨b, 0, none⟩), .agg #[.string ⟨#[112, 111, 112]⟩, .int .i64 x, .int .i64 y]] w fun e w' => e = .returned (.tuple #[]) ∧ RDid B w b L1 K lo hi O 0 false w' := by
  have HLN := Lib.hid hln
  clear hln
  have H := Lib.hid h
  obtain ⟨vL, vK, vO, oL, oK, oO, hm, hl, hk, ho, hs⟩ := h
  obtain ⟨sL, cL, rfl⟩ := hl.form
  obtain ⟨sK, cK, rfl⟩ := hk.form
  have hlt := heap_lt hm
  generalize hLn : L.length = nL at hm hl
  generalize hKn : K.length = nK at hm hk
  have HNL := Lib.hid hLn
  have HNK := Lib.hid hKn
  clear hLn hKn
  have c0 := hm.c0
  have z0 := hm.fz 0
  have HM := Lib.hid hm
  have HL := Lib.hid hl
  have HK := Lib.hid hk
  have HO := Lib.hid ho
  have HS := Lib.hid hs
  have HN := Lib.hid hn
  clear hm hl hk ho hs hn
  obtain ⟨m, rfl⟩ : ∃ m, nL = m + 1 := ⟨L1.length, by rw [← HNL.out, hsnoc]; simp⟩
  have hm0 : m = L1.length := by have := HNL.out; rw [hsnoc] at this; simp at this; omega
  have hz : ((m : Int) + 1 == 0) = false := by rw [beq_eq_false_iff_ne]; omega
  have hmx : (m : Int) + 1 ≤ 1000 := by have := HLN.out; have := HNL.out; omega
  have hto := fun u => run_to sL (m + 1) cL m (by have := HL.out.cap; omega) u
  have hl' := HL.out.to m (by have := HNL.out; omega)
  rw [show L.take m = L1 by rw [hsnoc, hm0]; simp] at hl'
  have HD := Lib.hid (RS.setL HM.out HL.out HK.out HO.out HS.out (Fr.refl _ w) (.inl rfl) hl')
  clear hl' hsnoc hm0
  go_enter Tryz.func20, Tryz.ntmps20
  go_wp2
  all_goals first | (refine bodyPost_ret (results_none rfl _ _ _) rfl ?_) | go_end0 | (go_wp2; go_end0)
  all_goals exact ⟨rfl, RDid.then_ HD.out.2 (Fr.alloc _ _ _)⟩
set_option maxHeartbeats 1000000 in
theorem rstack_peek_yes (B b : Nat) (L K : List Int) (lo hi : Int) (O : List Int) (x y : Int) (w : World) (h : RS B w b L K lo hi O 0 false) (hn : O.length ≤ 1000) (hln : L.length ≤ 1000) (z : Int) (L1 : List Int) (hsnoc : L = L1 ++ [z]) :
    Calls Tryz.prog 20 #[.pointer (some ⟨b, 0, none⟩), .agg #[.string ⟨#[112, 101, 101, 107]⟩, .int .i64 x, .int .i64 y]] w fun e w' => e = .returned (.tuple #[]) ∧ RDid B w b L K lo hi (O ++ [z]) 0 false w' := by
  have HLN := Lib.hid hln
  clear hln
  have H := Lib.hid h
  obtain ⟨vL, vK, vO, oL, oK, oO, hm, hl, hk, ho, hs⟩ := h
  obtain ⟨sL, cL, rfl⟩ := hl.form
  obtain ⟨sK, cK, rfl⟩ := hk.form
  have hlt := heap_lt hm
  generalize hLn : L.length = nL at hm hl
  generalize hKn : K.length = nK at hm hk
  have HNL := Lib.hid hLn
  have HNK := Lib.hid hKn
  clear hLn hKn
  have c0 := hm.c0
  have HM := Lib.hid hm
  have HL := Lib.hid hl
  have HK := Lib.hid hk
  have HO := Lib.hid ho
  have HS := Lib.hid hs
  have HN := Lib.hid hn
  clear hm hl hk ho hs hn
  obtain ⟨m, rfl⟩ : ∃ m, nL = m + 1 := ⟨L1.length, by rw [← HNL.out, hsnoc]; simp⟩
  have hm0 : m = L1.length := by have := HNL.out; rw [hsnoc] at this; simp at this; omega
  have hz : ((m : Int) + 1 == 0) = false := by rw [beq_eq_false_iff_ne]; omega
  have hmx : (m : Int) + 1 ≤ 1000 := by have := HLN.out; have := HNL.out; omega
  obtain ⟨g, o, rfl, hr, hg⟩ := HL.out.at_ (i := m) (x := z) (by rw [hsnoc, hm0]; simp)
  clear hsnoc hm0
  go_enter Tryz.func20, Tryz.ntmps20
  go_wp2_with (go_at_call 77; refine (put_any B b L K lo hi O 0 false _ _ (H.out.fr0 (Fr.alloc _ w _)) HN.out).mono ?_; rintro e w' ⟨rfl, hd⟩; have HD := Lib.hid (hd.tr ((Fr.alloc _ w _).weak)); clear hd)
  all_goals first | (refine bodyPost_ret (results_none rfl _ _ _) rfl ?_) | go_end0 | (go_wp2; go_end0)
  all_goals exact ⟨rfl, HD.out⟩
end Go.Proofs.YtpnbhoeghncnnaaGreatDoor
namespace Go.Proofs.YtpnbhoeghncnnaaGreatDoor
open Go.RowKit
theorem rwithout_n (w : World) (s : Option Addr) (n c : Nat) (own : Option Nat) (xs : List Int) (h : Lst w (.slice s n c) own xs) (hx : xs.length = n) (k : Nat) (hk : k < xs.length) (hn : xs.length ≤ 1000) :
    Calls Tryz.prog 82 #[.slice s n c, .int .i64 k] w fun e w' => ∃ v' own', e = .returned v' ∧ Lst w' v' own' (delAt k xs) ∧ (own' = none ∨ ∃ g, own' = some g ∧ w.heap.size ≤ g) ∧ Fr (fun _ => False) w w' := by
  subst hx
  exact rwithout_any w s c own xs h k hk hn
theorem newF {w W : World} {own own' : Option Nat} (hf : Fr (fun _ => False) w W) (h : own' = none ∨ ∃ g, own' = some g ∧ W.heap.size ≤ g) : New w own own' := by
  rcases h with h | ⟨g, h, hg⟩
  · exact .inr (.inl h)
  · exact .inr (.inr ⟨g, h, by have := hf.size; omega⟩)
set_option maxHeartbeats 1000000 in
theorem rset_size (B b : Nat) (L K : List Int) (lo hi : Int) (O : List Int) (x y : Int) (w : World) (h : RS B w b L K lo hi O 0 false) (hn : O.length ≤ 1000) (hln : L.length ≤ 1000) (q : Int) (hq : ixI (fun y => x == y) L = q) :
    Calls Tryz.prog 23 #[.pointer (some ⟨b, 0, none⟩), .agg #[.string ⟨#[115, 105, 122, 101]⟩, .int .i64 x, .int .i64 y]] w fun e w' => e = .returned (.tuple #[]) ∧ RDid B w b L K lo hi (O ++ [(L.length : Int)]) 0 false w' := by
  have HLN := Lib.hid hln
  clear hln
  have HQ := Lib.hid hq
  clear hq
  have H := Lib.hid h
  obtain ⟨vL, vK, vO, oL, oK, oO, hm, hl, hk, ho, hs⟩ := h
  obtain ⟨sL, cL, rfl⟩ := hl.form
  obtain ⟨sK, cK, rfl⟩ := hk.form
  have hlt := heap_lt hm
  generalize hLn : L.length = nL at hm hl
  generalize hKn : K.length = nK at hm hk
  have HNL := Lib.hid hLn
  have HNK := Lib.hid hKn
  clear hLn hKn
  have c0 := hm.c0
  have HM := Lib.hid hm
  have HL := Lib.hid hl
  have HK := Lib.hid hk
  have HO := Lib.hid ho
  have HS := Lib.hid hs
  have HN := Lib.hid hn
  clear hm hl hk ho hs hn
  go_enter Tryz.func23, Tryz.ntmps23
  go_wp2
  have F0 := Lib.hid (Fr.alloc (fun _ => False) w (.cells #[.string ⟨#[115, 105, 122, 101]⟩, .int .i64 x, .int .i64 y] 40))
  go_quiet ((first | (go_at_call 80; exact Calls.quiet_of_same (rindex_q _ _ oL L ((HL.out.fr0 F0.out).fr0 (Fr.drewN _ _ _)) x q HLN.out HQ.out))))
  have F1 := Lib.hid (F0.out.trans (Fr.drewN _ _ nq) (fun _ _ h => h))
  go_wp2_with (go_at_call 77; refine (put_any B b L K lo hi O 0 false _ _ (H.out.fr0 F1.out) HN.out).mono ?_; rintro e w' ⟨rfl, hd⟩; have HD := Lib.hid (hd.tr F1.out.weak); clear hd)
  all_goals first | (refine bodyPost_ret (results_none rfl _ _ _) rfl ?_) | go_end0 | (go_wp2; go_end0)
  all_goals exact ⟨rfl, HD.out⟩
set_option maxHeartbeats 1000000 in
theorem rset_has (B b : Nat) (L K : List Int) (lo hi : Int) (O : List Int) (x y : Int) (w : World) (h : RS B w b L K lo hi O 0 false) (hn : O.length ≤ 1000) (hln : L.length ≤ 1000) (q : Int) (hq : ixI (fun y => x == y) L = q) :
    Calls Tryz.prog 23 #[.pointer (some ⟨b, 0, none⟩), .agg #[.string ⟨#[104, 97, 115]⟩, .int .i64 x, .int .i64 y]] w fun e w' => e = .returned (.tuple #[]) ∧ RDid B w b L K lo hi (O ++ [boolI (decide (0 ≤ q))]) 0 false w' := by
  have HLN := Lib.hid hln
  clear hln
  have HQ := Lib.hid hq
  clear hq
  have H := Lib.hid h
  obtain ⟨vL, vK, vO, oL, oK, oO, hm, hl, hk, ho, hs⟩ := h
  obtain ⟨sL, cL, rfl⟩ := hl.form
  obtain ⟨sK, cK, rfl⟩ := hk.form
  have hlt := heap_lt hm
  generalize hLn : L.length = nL at hm hl
  generalize hKn : K.length = nK at hm hk
  have HNL := Lib.hid hLn
  have HNK := Lib.hid hKn
  clear hLn hKn
  have c0 := hm.c0
  have HM := Lib.hid hm
  have HL := Lib.hid hl
  have HK := Lib.hid hk
  have HO := Lib.hid ho
  have HS := Lib.hid hs
  have HN := Lib.hid hn
  clear hm hl hk ho hs hn
  go_enter Tryz.func23, Tryz.ntmps23
  go_wp2
  have F0 := Lib.hid (Fr.alloc (fun _ => False) w (.cells #[.string ⟨#[104, 97, 115]⟩, .int .i64 x, .int .i64 y] 40))
  go_quiet ((first | (go_at_call 80; exact Calls.quiet_of_same (rindex_q _ _ oL L ((HL.out.fr0 F0.out).fr0 (Fr.drewN _ _ _)) x q HLN.out HQ.out))))
  have F1 := Lib.hid (F0.out.trans (Fr.drewN _ _ nq) (fun _ _ h => h))
  go_wp2_with (go_at_call 79; refine (rtruth_any B b L K lo hi O 0 false _ _ (H.out.fr0 F1.out) HN.out).mono ?_; rintro e w' ⟨rfl, hd⟩; have HD := Lib.hid (hd.tr F1.out.weak); clear hd)
  all_goals first | (refine bodyPost_ret (results_none rfl _ _ _) rfl ?_) | go_end0 | (go_wp2; go_end0)
  all_goals exact ⟨rfl, HD.out⟩
set_option maxHeartbeats 1000000 in
theorem rset_add_old (B b : Nat) (L K : List Int) (lo hi : Int) (O : List Int) (x y : Int) (w : World) (h : RS B w b L K lo hi O 0 false) (hn : O.length ≤ 1000) (hln : L.length ≤ 1000) (q : Int) (hq : ixI (fun y => x == y) L = q) (h0 : 0 ≤ q) :
    Calls Tryz.prog 23 #[.pointer (some ⟨b, 0, none⟩), .agg #[.string ⟨#[97, 100, 100]⟩, .int .i64 x, .int .i64 y]] w fun e w' => e = .returned (.tuple #[]) ∧ RDid B w b L K lo hi O 0 false w' := by
  have HLN := Lib.hid hln
  clear hln
  have HQ := Lib.hid hq
  clear hq
  have H := Lib.hid h
  obtain ⟨vL, vK, vO, oL, oK, oO, hm, hl, hk, ho, hs⟩ := h
  obtain ⟨sL, cL, rfl⟩ := hl.form
  obtain ⟨sK, cK, rfl⟩ := hk.form
  have hlt := heap_lt hm
  generalize hLn : L.length = nL at hm hl
  generalize hKn : K.length = nK at hm hk
  have HNL := Lib.hid hLn
  have HNK := Lib.hid hKn
  clear hLn hKn
  have c0 := hm.c0
  have HM := Lib.hid hm
  have HL := Lib.hid hl
  have HK := Lib.hid hk
  have HO := Lib.hid ho
  have HS := Lib.hid hs
  have HN := Lib.hid hn
  clear hm hl hk ho hs hn
  go_enter Tryz.func23, Tryz.ntmps23
  go_wp2
  have F0 := Lib.hid (Fr.alloc (fun _ => False) w (.cells #[.string ⟨#[97, 100, 100]⟩, .int .i64 x, .int .i64 y] 40))
  go_quiet ((first | (go_at_call 80; exact Calls.quiet_of_same (rindex_q _ _ oL L ((HL.out.fr0 F0.out).fr0 (Fr.drewN _ _ _)) x q HLN.out HQ.out))))
  have F1 := Lib.hid (F0.out.trans (Fr.drewN _ _ nq) (fun _ _ h => h))
  go_wp2
  all_goals first | (refine bodyPost_ret (results_none rfl _ _ _) rfl ?_) | go_end0 | (go_wp2; go_end0)
  all_goals exact ⟨rfl, H.out.fr0 F1.out, F1.out.weak⟩
set_option maxHeartbeats 1000000 in
theorem rset_add_new (B b : Nat) (L K : List Int) (lo hi : Int) (O : List Int) (x y : Int) (w : World) (h : RS B w b L K lo hi O 0 false) (hn : O.length ≤ 1000) (hln : L.length ≤ 1000) (q : Int) (hq : ixI (fun y => x == y) L = q) (h0 : q < 0) :
    Calls Tryz.prog 23 #[.pointer (some ⟨b, 0, none⟩), .agg #[.string ⟨#[97, 100, 100]⟩, .int .i64 x, .int .i64 y]] w fun e w' => e = .returned (.tuple #[]) ∧ RDid B w b (L ++ [x]) K lo hi O 0 false w' := by
  have HLN := Lib.hid hln
  clear hln
  have HQ := Lib.hid hq
  clear hq
  have H := Lib.hid h
  obtain ⟨vL, vK, vO, oL, oK, oO, hm, hl, hk, ho, hs⟩ := h
  obtain ⟨sL, cL, rfl⟩ := hl.form
  obtain ⟨sK, cK, rfl⟩ := hk.form
  have hlt := heap_lt hm
  generalize hLn : L.length = nL at hm hl
  generalize hKn : K.length = nK at hm hk
  have HNL := Lib.hid hLn
  have HNK := Lib.hid hKn
  clear hLn hKn
  have c0 := hm.c0
  have z0 := hm.fz 0
  have HM := Lib.hid hm
  have HL := Lib.hid hl
  have HK := Lib.hid hk
  have HO := Lib.hid ho
  have HS := Lib.hid hs
  have HN := Lib.hid hn
  clear hm hl hk ho hs hn
  go_enter Tryz.func23, Tryz.ntmps23
  go_wp2
  have F0 := Lib.hid (Fr.alloc (fun _ => False) w (.cells #[.string ⟨#[97, 100, 100]⟩, .int .i64 x, .int .i64 y] 40))
  go_quiet ((first | (go_at_call 80; exact Calls.quiet_of_same (rindex_q _ _ oL L ((HL.out.fr0 F0.out).fr0 (Fr.drewN _ _ _)) x q HLN.out HQ.out))))
  have F1 := Lib.hid (F0.out.trans (Fr.drewN _ _ nq) (fun _ _ h => h))
  go_wp2
  go_region_law (first
    | (refine step_appG rfl (.tmp 29) (.tmp 32) rfl _ oL L (HL.out.fr0 (((F0.out).trans (Fr.alloc (fun _ => False) _ (.cells #[.int .i64 x] 3)) (fun _ _ h => h)).trans (Fr.drewN _ _ _) (fun _ _ h => h))) _ HNL.out rfl _ 1 _ [x] rfl ⟨rfl, fun _ => ⟨_, rfl, one_cellN w _ _ x⟩⟩ (by have := HLN.out; have := HNL.out; have := HNK.out; omega) ?_; intro s1 cap1 own1 w1 hl1 hf1 ho1
       have HD := Lib.hid (RS.setL HM.out HL.out HK.out HO.out HS.out ((((F0.out).trans (Fr.alloc (fun _ => False) _ (.cells #[.int .i64 x] 3)) (fun _ _ h => h)).trans (Fr.drewN _ _ _) (fun _ _ h => h)).weak.trans hf1 (fun _ _ h => h)) (newG (((F0.out).trans (Fr.alloc (fun _ => False) _ (.cells #[.int .i64 x] 3)) (fun _ _ h => h)).trans (Fr.drewN _ _ _) (fun _ _ h => h)) ho1) hl1)
       have c1 := HD.out.1.c0
       have z1 := HD.out.1.fz 0
       clear hl1 hf1 ho1))
  all_goals first | (refine bodyPost_ret (results_none rfl _ _ _) rfl ?_) | go_end0 | (go_wp2; go_end0)
  all_goals exact ⟨rfl, HD.out.2⟩
set_option maxHeartbeats 1000000 in
theorem rset_drop_no (B b : Nat) (L K : List Int) (lo hi : Int) (O : List Int) (x y : Int) (w : World) (h : RS B w b L K lo hi O 0 false) (hn : O.length ≤ 1000) (hln : L.length ≤ 1000) (q : Int) (hq : ixI (fun y => x == y) L = q) (h0 : q < 0) :
    Calls Tryz.prog 23 #[.pointer (some ⟨b, 0, none⟩), .agg #[.string ⟨#[100, 114, 111, 112]⟩, .int .i64 x, .int .i64 y]] w fun e w' => e = .returned (.tuple #[]) ∧ RDid B w b L K lo hi O 0 false w' := by
  have HLN := Lib.hid hln
  clear hln
  have HQ := Lib.hid hq
  clear hq
  have H := Lib.hid h
  obtain ⟨vL, vK, vO, oL, oK, oO, hm, hl, hk, ho, hs⟩ := h
  obtain ⟨sL, cL, rfl⟩ := hl.form
  obtain ⟨sK, cK, rfl⟩ := hk.form
  have hlt := heap_lt hm
  generalize hLn : L.length = nL at hm hl
  generalize hKn : K.length = nK at hm hk
  have HNL := Lib.hid hLn
  have HNK := Lib.hid hKn
  clear hLn hKn
  have c0 := hm.c0
  have z0 := hm.fz 0
  have HM := Lib.hid hm
  have HL := Lib.hid hl
  have HK := Lib.hid hk
  have HO := Lib.hid ho
  have HS := Lib.hid hs
  have HN := Lib.hid hn
  clear hm hl hk ho hs hn
  go_enter Tryz.func23, Tryz.ntmps23
  go_wp2
  have F0 := Lib.hid (Fr.alloc (fun _ => False) w (.cells #[.string ⟨#[100, 114, 111, 112]⟩, .int .i64 x, .int .i64 y] 40))
  go_quiet ((first | (go_at_call 80; exact Calls.quiet_of_same (rindex_q _ _ oL L ((HL.out.fr0 F0.out).fr0 (Fr.drewN _ _ _)) x q HLN.out HQ.out))))
  have F1 := Lib.hid (F0.out.trans (Fr.drewN _ _ nq) (fun _ _ h => h))
  go_wp2_with (first
    | (go_at_call 82; refine (rwithout_no _ _ _ _ _ (by omega)).mono ?_; rintro e w2 ⟨rfl, rfl⟩
       have HD := Lib.hid (RS.setL HM.out HL.out HK.out HO.out HS.out F1.out.weak (.inl rfl) (HL.out.fr0 F1.out))))
  all_goals first | (refine bodyPost_ret (results_none rfl _ _ _) rfl ?_) | go_end0 | (go_wp2; go_end0)
  all_goals exact ⟨rfl, HD.out.2⟩
set_option maxHeartbeats 1000000 in
theorem rset_drop_yes (B b : Nat) (L K : List Int) (lo hi : Int) (O : List Int) (x y : Int) (w : World) (h : RS B w b L K lo hi O 0 false) (hn : O.length ≤ 1000) (hln : L.length ≤ 1000) (q : Int) (k : Nat) (hqk : q = k) (hkl : k < L.length) (hq : ixI (fun y => x == y) L = q) :
    Calls Tryz.prog 23 #[.pointer (some ⟨b, 0, none⟩), .agg #[.string ⟨#[100, 114, 111, 112]⟩, .int .i64 x, .int .i64 y]] w fun e w' => e = .returned (.tuple #[]) ∧ RDid B w b (delAt k L) K lo hi O 0 false w' := by
  subst hqk
  have HLN := Lib.hid hln
  clear hln
  have HQ := Lib.hid hq
  clear hq
  have HQK := Lib.hid hkl
  clear hkl
  have H := Lib.hid h
  obtain ⟨vL, vK, vO, oL, oK, oO, hm, hl, hk, ho, hs⟩ := h
  obtain ⟨sL, cL, rfl⟩ := hl.form
  obtain ⟨sK, cK, rfl⟩ := hk.form
  have hlt := heap_lt hm
  generalize hLn : L.length = nL at hm hl
  generalize hKn : K.length = nK at hm hk
  have HNL := Lib.hid hLn
  have HNK := Lib.hid hKn
  clear hLn hKn
  have c0 := hm.c0
  have z0 := hm.fz 0
  have HM := Lib.hid hm
  have HL := Lib.hid hl
  have HK := Lib.hid hk
  have HO := Lib.hid ho
  have HS := Lib.hid hs
  have HN := Lib.hid hn
  clear hm hl hk ho hs hn
  go_enter Tryz.func23, Tryz.ntmps23
  go_wp2
  have F0 := Lib.hid (Fr.alloc (fun _ => False) w (.cells #[.string ⟨#[100, 114, 111, 112]⟩, .int .i64 x, .int .i64 y] 40))
  go_quiet ((first | (go_at_call 80; exact Calls.quiet_of_same (rindex_q _ _ oL L ((HL.out.fr0 F0.out).fr0 (Fr.drewN _ _ _)) x (k : Int) HLN.out HQ.out))))
  have F1 := Lib.hid (F0.out.trans (Fr.drewN _ _ nq) (fun _ _ h => h))
  go_wp2_with (first
    | (go_at_call 82; refine (rwithout_n _ _ _ _ oL L (HL.out.fr0 F1.out) HNL.out k (by have := HQK.out; omega) HLN.out).mono ?_; rintro e w2 ⟨v', own', rfl, hl1, hnew, hf1⟩
       obtain ⟨s', c', rfl⟩ := hl1.form
       have HD := Lib.hid (RS.setL HM.out HL.out HK.out HO.out HS.out (F1.out.trans hf1 (fun _ _ h => h)).weak (newF F1.out hnew) hl1)
       have c1 := HD.out.1.c0
       have z1 := HD.out.1.fz 0
       clear hl1 hf1 hnew))
  all_goals first | (refine bodyPost_ret (results_none rfl _ _ _) rfl ?_) | go_end0 | (go_wp2; go_end0)
  all_goals exact ⟨rfl, HD.out.2⟩
end Go.Proofs.YtpnbhoeghncnnaaGreatDoor

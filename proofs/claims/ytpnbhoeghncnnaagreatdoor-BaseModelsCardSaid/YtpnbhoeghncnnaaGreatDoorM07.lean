/-
  A part of the proof of Rows.BaseModelsCardSaid (for every class and script BaseModels answers true, and its arguments read as they did; the listed library variables as the program text lays them): texts P, R. By an AI agent.
-/
import Derived.Test.YtpnbhoeghncnnaaGreatDoorM06
import Derived.Deep.RegionHeld3
import Derived.MapKept
namespace Go.Proofs.YtpnbhoeghncnnaaGreatDoor
open Go.RowKit
set_option linter.unusedSimpArgs false
def widthF (lo hi : Int) : Res := if inNum (hi - lo) then (if inNum (hi - lo + 1) then .val (hi - lo + 1) else .stop 7 0) else .stop 7 0
theorem safe_q (n : Int) (w : World) (h : inNum n = true) : Calls Tryz.prog 96 #[.int .i64 n] w fun e w' => e = .returned (.int .i64 n) ∧ w' = w :=
  (safe_in n w h).mono fun _ _ h => ⟨h.1, h.2.symm⟩
set_option maxHeartbeats 1000000 in
theorem width_no1 (b : Nat) (lo hi x y : Int) (w : World) (h2 : w.cell? ⟨b, 2, none⟩ = some (.int .i64 lo)) (h3 : w.cell? ⟨b, 3, none⟩ = some (.int .i64 hi)) (hw1 : IntKind.i64.wrap (hi - lo) = hi - lo) (_hw2 : IntKind.i64.wrap (hi - lo + 1) = hi - lo + 1) (hv : inNum (hi - lo) = false) :
    Calls Tryz.prog 63 #[.pointer (some ⟨b, 0, none⟩), .int .i64 x, .int .i64 y] w fun e w' => e = (Res.stop 7 0).ends ∧ ∃ n, w' = w.drewN n := by
  have HV := Lib.hid hv
  clear hv
  go_enter Tryz.func63, Tryz.ntmps63
  go_wp2
  refine wp_region_held_drew (S := fun w' => w'.cell? ⟨b, 2, none⟩ = some (.int .i64 lo) ∧ w'.cell? ⟨b, 3, none⟩ = some (.int .i64 hi)) (by kernel_rfl) ⟨h2, h3⟩ (fun hHeld => ?_)
  refine' wpAnyH_take (i := 0) (oi := _) (v := _) ?hi1 (by kernel_rfl) (by kernel_rfl) (by kernel_rfl) ?hq1 (Or.inl ⟨?hw1, ?hy1⟩) (by assumption) ?rest1
  case hi1 => simp only [List.getElem?_toArray, List.getElem?_cons_succ, List.getElem?_cons_zero]; rfl
  case hq1 => exact fun _ _ _ h => h
  case hw1 => rfl
  case hy1 => intro w hSw; (try dsimp only at hSw); go_simp; (try with_reducible rfl)
  try simp only [Act.put, List.setIfInBounds_toArray, List.set_cons_zero, List.set_cons_succ]
  refine' wpAnyH_take (i := 1) (oi := _) (v := _) ?hi2 (by kernel_rfl) (by kernel_rfl) (by kernel_rfl) ?hq2 (Or.inl ⟨?hw2, ?hy2⟩) (by assumption) ?rest2
  case hi2 => simp only [List.getElem?_toArray, List.getElem?_cons_succ, List.getElem?_cons_zero]; rfl
  case hq2 => exact fun _ _ _ h => h
  case hw2 => rfl
  case hy2 => intro w hSw; (try dsimp only at hSw); go_simp; (try with_reducible rfl)
  try simp only [Act.put, List.setIfInBounds_toArray, List.set_cons_zero, List.set_cons_succ]
  refine' wpAnyH_take (i := 2) (oi := _) (v := _) ?hi3 (by kernel_rfl) (by kernel_rfl) (by kernel_rfl) ?hq3 (Or.inl ⟨?hw3, ?hy3⟩) (by assumption) ?rest3
  case hi3 => simp only [List.getElem?_toArray, List.getElem?_cons_succ, List.getElem?_cons_zero]; rfl
  case hq3 => exact fun _ _ _ h => h
  case hw3 => rfl
  case hy3 => intro w hSw; (try dsimp only at hSw); go_simp; (try with_reducible rfl)
  try simp only [Act.put, List.setIfInBounds_toArray, List.set_cons_zero, List.set_cons_succ]
  refine' wpAnyH_take (i := 3) (oi := _) (v := _) ?hi4 (by kernel_rfl) (by kernel_rfl) (by kernel_rfl) ?hq4 (Or.inl ⟨?hw4, ?hy4⟩) (by assumption) ?rest4
  case hi4 => simp only [List.getElem?_toArray, List.getElem?_cons_succ, List.getElem?_cons_zero]; rfl
  case hq4 => exact fun _ _ _ h => h
  case hw4 => rfl
  case hy4 => intro w hSw; (try dsimp only at hSw); go_simp; (try with_reducible rfl)
  try simp only [Act.put, List.setIfInBounds_toArray, List.set_cons_zero, List.set_cons_succ]
  refine' wpAnyH_take (i := 4) (oi := _) (v := _) ?hi5 (by kernel_rfl) (by kernel_rfl) (by kernel_rfl) ?hq5 (Or.inl ⟨?hw5, ?hy5⟩) (by assumption) ?rest5
  case hi5 => simp only [List.getElem?_toArray, List.getElem?_cons_succ, List.getElem?_cons_zero]; rfl
  case hq5 => exact fun _ _ _ h => h
  case hw5 => rfl
  case hy5 => intro w hSw; (try dsimp only at hSw); go_simp; (try with_reducible rfl)
  try simp only [Act.put, List.setIfInBounds_toArray, List.set_cons_zero, List.set_cons_succ]
  refine' wpAnyH_take (i := 5) (oi := _) (v := _) ?hi6 (by kernel_rfl) (by kernel_rfl) (by kernel_rfl) ?hq6 (Or.inl ⟨?hw6, ?hy6⟩) (by assumption) ?rest6
  case hi6 => simp only [List.getElem?_toArray, List.getElem?_cons_succ, List.getElem?_cons_zero]; rfl
  case hq6 => exact fun _ _ _ h => h
  case hw6 => rfl
  case hy6 => intro w hSw; (try dsimp only at hSw); go_simp; (try with_reducible rfl)
  try simp only [Act.put, List.setIfInBounds_toArray, List.set_cons_zero, List.set_cons_succ]
  refine' wpAnyH_take (i := 6) (oi := _) (v := _) ?hi7 (by kernel_rfl) (by kernel_rfl) (by kernel_rfl) ?hq7 (Or.inl ⟨?hw7, ?hy7⟩) (by assumption) ?rest7
  case hi7 => simp only [List.getElem?_toArray, List.getElem?_cons_succ, List.getElem?_cons_zero]; rfl
  case hq7 => exact fun _ _ _ h => h
  case hw7 => rfl
  case hy7 => intro w hSw; (try dsimp only at hSw); go_simp; (try with_reducible rfl)
  try simp only [Act.put, List.setIfInBounds_toArray, List.set_cons_zero, List.set_cons_succ]
  refine' wpAnyH_take (i := 7) (oi := _) (v := _) ?hi8 (by kernel_rfl) (by kernel_rfl) (by kernel_rfl) ?hq8 (Or.inl ⟨?hw8, ?hy8⟩) (by assumption) ?rest8
  case hi8 => simp only [List.getElem?_toArray, List.getElem?_cons_succ, List.getElem?_cons_zero]; rfl
  case hq8 => exact fun _ _ _ h => h
  case hw8 => rfl
  case hy8 => intro w hSw; (try dsimp only at hSw); go_simp; (try with_reducible rfl)
  try simp only [Act.put, List.setIfInBounds_toArray, List.set_cons_zero, List.set_cons_succ]
  refine' wpAnyH_take (i := 8) (oi := _) (v := _) ?hi9 (by kernel_rfl) (by kernel_rfl) (by kernel_rfl) ?hq9 (Or.inl ⟨?hw9, ?hy9⟩) (by assumption) ?rest9
  case hi9 => simp only [List.getElem?_toArray, List.getElem?_cons_succ, List.getElem?_cons_zero]; rfl
  case hq9 => exact fun _ _ _ h => h
  case hw9 => rfl
  case hy9 => intro w hSw; (try dsimp only at hSw); go_simp; (try with_reducible rfl)
  try simp only [Act.put, List.setIfInBounds_toArray, List.set_cons_zero, List.set_cons_succ]
  refine wpAnyH_ready (rs := [9]) (by kernel_rfl) (by simp) ?_
  refine AllReadyH.cons rfl (fun K hK => ?_) AllReadyH.nil
  go_simp
  go_at_call 96
  refine (safe_out _ _ HV.out).mono ?_
  rintro e w' ⟨rfl, rfl⟩
  exact ⟨rfl, rfl, 1, rfl⟩
set_option maxHeartbeats 1000000 in
theorem width_no2 (b : Nat) (lo hi x y : Int) (w : World) (h2 : w.cell? ⟨b, 2, none⟩ = some (.int .i64 lo)) (h3 : w.cell? ⟨b, 3, none⟩ = some (.int .i64 hi)) (hw1 : IntKind.i64.wrap (hi - lo) = hi - lo) (hw2 : IntKind.i64.wrap (hi - lo + 1) = hi - lo + 1) (hv : inNum (hi - lo) = true) (hv2 : inNum (hi - lo + 1) = false) :
    Calls Tryz.prog 63 #[.pointer (some ⟨b, 0, none⟩), .int .i64 x, .int .i64 y] w fun e w' => e = (Res.stop 7 0).ends ∧ ∃ n, w' = w.drewN n := by
  have HV := Lib.hid hv
  clear hv
  have HV2 := Lib.hid hv2
  clear hv2
  go_enter Tryz.func63, Tryz.ntmps63
  go_wp2
  refine wp_region_held_drew (S := fun w' => w'.cell? ⟨b, 2, none⟩ = some (.int .i64 lo) ∧ w'.cell? ⟨b, 3, none⟩ = some (.int .i64 hi)) (by kernel_rfl) ⟨h2, h3⟩ (fun hHeld => ?_)
  refine' wpAnyH_take (i := 0) (oi := _) (v := _) ?hi10 (by kernel_rfl) (by kernel_rfl) (by kernel_rfl) ?hq10 (Or.inl ⟨?hw10, ?hy10⟩) (by assumption) ?rest10
  case hi10 => simp only [List.getElem?_toArray, List.getElem?_cons_succ, List.getElem?_cons_zero]; rfl
  case hq10 => exact fun _ _ _ h => h
  case hw10 => rfl
  case hy10 => intro w hSw; (try dsimp only at hSw); go_simp; (try with_reducible rfl)
  try simp only [Act.put, List.setIfInBounds_toArray, List.set_cons_zero, List.set_cons_succ]
  refine' wpAnyH_take (i := 1) (oi := _) (v := _) ?hi11 (by kernel_rfl) (by kernel_rfl) (by kernel_rfl) ?hq11 (Or.inl ⟨?hw11, ?hy11⟩) (by assumption) ?rest11
  case hi11 => simp only [List.getElem?_toArray, List.getElem?_cons_succ, List.getElem?_cons_zero]; rfl
  case hq11 => exact fun _ _ _ h => h
  case hw11 => rfl
  case hy11 => intro w hSw; (try dsimp only at hSw); go_simp; (try with_reducible rfl)
  try simp only [Act.put, List.setIfInBounds_toArray, List.set_cons_zero, List.set_cons_succ]
  refine' wpAnyH_take (i := 2) (oi := _) (v := _) ?hi12 (by kernel_rfl) (by kernel_rfl) (by kernel_rfl) ?hq12 (Or.inl ⟨?hw12, ?hy12⟩) (by assumption) ?rest12
  case hi12 => simp only [List.getElem?_toArray, List.getElem?_cons_succ, List.getElem?_cons_zero]; rfl
  case hq12 => exact fun _ _ _ h => h
  case hw12 => rfl
  case hy12 => intro w hSw; (try dsimp only at hSw); go_simp; (try with_reducible rfl)
  try simp only [Act.put, List.setIfInBounds_toArray, List.set_cons_zero, List.set_cons_succ]
  refine' wpAnyH_take (i := 3) (oi := _) (v := _) ?hi13 (by kernel_rfl) (by kernel_rfl) (by kernel_rfl) ?hq13 (Or.inl ⟨?hw13, ?hy13⟩) (by assumption) ?rest13
  case hi13 => simp only [List.getElem?_toArray, List.getElem?_cons_succ, List.getElem?_cons_zero]; rfl
  case hq13 => exact fun _ _ _ h => h
  case hw13 => rfl
  case hy13 => intro w hSw; (try dsimp only at hSw); go_simp; (try with_reducible rfl)
  try simp only [Act.put, List.setIfInBounds_toArray, List.set_cons_zero, List.set_cons_succ]
  refine' wpAnyH_take (i := 4) (oi := _) (v := _) ?hi14 (by kernel_rfl) (by kernel_rfl) (by kernel_rfl) ?hq14 (Or.inl ⟨?hw14, ?hy14⟩) (by assumption) ?rest14
  case hi14 => simp only [List.getElem?_toArray, List.getElem?_cons_succ, List.getElem?_cons_zero]; rfl
  case hq14 => exact fun _ _ _ h => h
  case hw14 => rfl
  case hy14 => intro w hSw; (try dsimp only at hSw); go_simp; (try with_reducible rfl)
  try simp only [Act.put, List.setIfInBounds_toArray, List.set_cons_zero, List.set_cons_succ]
  refine' wpAnyH_take (i := 5) (oi := _) (v := _) ?hi15 (by kernel_rfl) (by kernel_rfl) (by kernel_rfl) ?hq15 (Or.inl ⟨?hw15, ?hy15⟩) (by assumption) ?rest15
  case hi15 => simp only [List.getElem?_toArray, List.getElem?_cons_succ, List.getElem?_cons_zero]; rfl
  case hq15 => exact fun _ _ _ h => h
  case hw15 => rfl
  case hy15 => intro w hSw; (try dsimp only at hSw); go_simp; (try with_reducible rfl)
  try simp only [Act.put, List.setIfInBounds_toArray, List.set_cons_zero, List.set_cons_succ]
  refine' wpAnyH_take (i := 6) (oi := _) (v := _) ?hi16 (by kernel_rfl) (by kernel_rfl) (by kernel_rfl) ?hq16 (Or.inl ⟨?hw16, ?hy16⟩) (by assumption) ?rest16
  case hi16 => simp only [List.getElem?_toArray, List.getElem?_cons_succ, List.getElem?_cons_zero]; rfl
  case hq16 => exact fun _ _ _ h => h
  case hw16 => rfl
  case hy16 => intro w hSw; (try dsimp only at hSw); go_simp; (try with_reducible rfl)
  try simp only [Act.put, List.setIfInBounds_toArray, List.set_cons_zero, List.set_cons_succ]
  refine' wpAnyH_take (i := 7) (oi := _) (v := _) ?hi17 (by kernel_rfl) (by kernel_rfl) (by kernel_rfl) ?hq17 (Or.inl ⟨?hw17, ?hy17⟩) (by assumption) ?rest17
  case hi17 => simp only [List.getElem?_toArray, List.getElem?_cons_succ, List.getElem?_cons_zero]; rfl
  case hq17 => exact fun _ _ _ h => h
  case hw17 => rfl
  case hy17 => intro w hSw; (try dsimp only at hSw); go_simp; (try with_reducible rfl)
  try simp only [Act.put, List.setIfInBounds_toArray, List.set_cons_zero, List.set_cons_succ]
  refine' wpAnyH_take (i := 8) (oi := _) (v := _) ?hi18 (by kernel_rfl) (by kernel_rfl) (by kernel_rfl) ?hq18 (Or.inl ⟨?hw18, ?hy18⟩) (by assumption) ?rest18
  case hi18 => simp only [List.getElem?_toArray, List.getElem?_cons_succ, List.getElem?_cons_zero]; rfl
  case hq18 => exact fun _ _ _ h => h
  case hw18 => rfl
  case hy18 => intro w hSw; (try dsimp only at hSw); go_simp; (try with_reducible rfl)
  try simp only [Act.put, List.setIfInBounds_toArray, List.set_cons_zero, List.set_cons_succ]
  refine wpAnyH_ready (rs := [9]) (by kernel_rfl) (by simp) ?_
  refine AllReadyH.cons rfl (fun K hK => ?_) AllReadyH.nil
  go_simp
  go_at_call 96
  refine (safe_in _ _ HV.out).mono ?_
  rintro e w' ⟨rfl, rfl⟩
  refine hK.out _ _ hHeld (fun hHeld => ?_)
  clear hK K
  try simp only [Act.put, List.setIfInBounds_toArray, List.set_cons_zero, List.set_cons_succ]
  refine' wpAnyH_take (i := 10) (oi := _) (v := _) ?hi19 (by kernel_rfl) (by kernel_rfl) (by kernel_rfl) ?hq19 (Or.inl ⟨?hw19, ?hy19⟩) (by assumption) ?rest19
  case hi19 => simp only [List.getElem?_toArray, List.getElem?_cons_succ, List.getElem?_cons_zero]; rfl
  case hq19 => exact fun _ _ _ h => h
  case hw19 => rfl
  case hy19 => intro w hSw; (try dsimp only at hSw); go_simp; (try with_reducible rfl)
  try simp only [Act.put, List.setIfInBounds_toArray, List.set_cons_zero, List.set_cons_succ]
  refine wpAnyH_ready (rs := [11]) (by kernel_rfl) (by simp) ?_
  refine AllReadyH.cons rfl (fun K hK => ?_) AllReadyH.nil
  go_simp
  go_at_call 96
  refine (safe_out _ _ HV2.out).mono ?_
  rintro e w' ⟨rfl, rfl⟩
  exact ⟨rfl, rfl, 1, rfl⟩
set_option maxHeartbeats 1000000 in
theorem total_no1 (b : Nat) (lo hi x y : Int) (w : World) (h2 : w.cell? ⟨b, 2, none⟩ = some (.int .i64 lo)) (h3 : w.cell? ⟨b, 3, none⟩ = some (.int .i64 hi)) (hw1 : IntKind.i64.wrap (hi - lo) = hi - lo) (_hw2 : IntKind.i64.wrap (hi - lo + 1) = hi - lo + 1) (hv : inNum (hi - lo) = false) :
    Calls Tryz.prog 64 #[.pointer (some ⟨b, 0, none⟩), .int .i64 x, .int .i64 y] w fun e w' => e = (Res.stop 7 0).ends ∧ ∃ n, w' = w.drewN n := by
  have HV := Lib.hid hv
  clear hv
  go_enter Tryz.func64, Tryz.ntmps64
  go_wp2
  refine wp_region_held_drew (S := fun w' => w'.cell? ⟨b, 2, none⟩ = some (.int .i64 lo) ∧ w'.cell? ⟨b, 3, none⟩ = some (.int .i64 hi)) (by kernel_rfl) ⟨h2, h3⟩ (fun hHeld => ?_)
  refine' wpAnyH_take (i := 0) (oi := _) (v := _) ?hi20 (by kernel_rfl) (by kernel_rfl) (by kernel_rfl) ?hq20 (Or.inl ⟨?hw20, ?hy20⟩) (by assumption) ?rest20
  case hi20 => simp only [List.getElem?_toArray, List.getElem?_cons_succ, List.getElem?_cons_zero]; rfl
  case hq20 => exact fun _ _ _ h => h
  case hw20 => rfl
  case hy20 => intro w hSw; (try dsimp only at hSw); go_simp; (try with_reducible rfl)
  try simp only [Act.put, List.setIfInBounds_toArray, List.set_cons_zero, List.set_cons_succ]
  refine' wpAnyH_take (i := 1) (oi := _) (v := _) ?hi21 (by kernel_rfl) (by kernel_rfl) (by kernel_rfl) ?hq21 (Or.inl ⟨?hw21, ?hy21⟩) (by assumption) ?rest21
  case hi21 => simp only [List.getElem?_toArray, List.getElem?_cons_succ, List.getElem?_cons_zero]; rfl
  case hq21 => exact fun _ _ _ h => h
  case hw21 => rfl
  case hy21 => intro w hSw; (try dsimp only at hSw); go_simp; (try with_reducible rfl)
  try simp only [Act.put, List.setIfInBounds_toArray, List.set_cons_zero, List.set_cons_succ]
  refine' wpAnyH_take (i := 2) (oi := _) (v := _) ?hi22 (by kernel_rfl) (by kernel_rfl) (by kernel_rfl) ?hq22 (Or.inl ⟨?hw22, ?hy22⟩) (by assumption) ?rest22
  case hi22 => simp only [List.getElem?_toArray, List.getElem?_cons_succ, List.getElem?_cons_zero]; rfl
  case hq22 => exact fun _ _ _ h => h
  case hw22 => rfl
  case hy22 => intro w hSw; (try dsimp only at hSw); go_simp; (try with_reducible rfl)
  try simp only [Act.put, List.setIfInBounds_toArray, List.set_cons_zero, List.set_cons_succ]
  refine' wpAnyH_take (i := 3) (oi := _) (v := _) ?hi23 (by kernel_rfl) (by kernel_rfl) (by kernel_rfl) ?hq23 (Or.inl ⟨?hw23, ?hy23⟩) (by assumption) ?rest23
  case hi23 => simp only [List.getElem?_toArray, List.getElem?_cons_succ, List.getElem?_cons_zero]; rfl
  case hq23 => exact fun _ _ _ h => h
  case hw23 => rfl
  case hy23 => intro w hSw; (try dsimp only at hSw); go_simp; (try with_reducible rfl)
  try simp only [Act.put, List.setIfInBounds_toArray, List.set_cons_zero, List.set_cons_succ]
  refine' wpAnyH_take (i := 4) (oi := _) (v := _) ?hi24 (by kernel_rfl) (by kernel_rfl) (by kernel_rfl) ?hq24 (Or.inl ⟨?hw24, ?hy24⟩) (by assumption) ?rest24
  case hi24 => simp only [List.getElem?_toArray, List.getElem?_cons_succ, List.getElem?_cons_zero]; rfl
  case hq24 => exact fun _ _ _ h => h
  case hw24 => rfl
  case hy24 => intro w hSw; (try dsimp only at hSw); go_simp; (try with_reducible rfl)
  try simp only [Act.put, List.setIfInBounds_toArray, List.set_cons_zero, List.set_cons_succ]
  refine' wpAnyH_take (i := 5) (oi := _) (v := _) ?hi25 (by kernel_rfl) (by kernel_rfl) (by kernel_rfl) ?hq25 (Or.inl ⟨?hw25, ?hy25⟩) (by assumption) ?rest25
  case hi25 => simp only [List.getElem?_toArray, List.getElem?_cons_succ, List.getElem?_cons_zero]; rfl
  case hq25 => exact fun _ _ _ h => h
  case hw25 => rfl
  case hy25 => intro w hSw; (try dsimp only at hSw); go_simp; (try with_reducible rfl)
  try simp only [Act.put, List.setIfInBounds_toArray, List.set_cons_zero, List.set_cons_succ]
  refine' wpAnyH_take (i := 6) (oi := _) (v := _) ?hi26 (by kernel_rfl) (by kernel_rfl) (by kernel_rfl) ?hq26 (Or.inl ⟨?hw26, ?hy26⟩) (by assumption) ?rest26
  case hi26 => simp only [List.getElem?_toArray, List.getElem?_cons_succ, List.getElem?_cons_zero]; rfl
  case hq26 => exact fun _ _ _ h => h
  case hw26 => rfl
  case hy26 => intro w hSw; (try dsimp only at hSw); go_simp; (try with_reducible rfl)
  try simp only [Act.put, List.setIfInBounds_toArray, List.set_cons_zero, List.set_cons_succ]
  refine' wpAnyH_take (i := 7) (oi := _) (v := _) ?hi27 (by kernel_rfl) (by kernel_rfl) (by kernel_rfl) ?hq27 (Or.inl ⟨?hw27, ?hy27⟩) (by assumption) ?rest27
  case hi27 => simp only [List.getElem?_toArray, List.getElem?_cons_succ, List.getElem?_cons_zero]; rfl
  case hq27 => exact fun _ _ _ h => h
  case hw27 => rfl
  case hy27 => intro w hSw; (try dsimp only at hSw); go_simp; (try with_reducible rfl)
  try simp only [Act.put, List.setIfInBounds_toArray, List.set_cons_zero, List.set_cons_succ]
  refine' wpAnyH_take (i := 8) (oi := _) (v := _) ?hi28 (by kernel_rfl) (by kernel_rfl) (by kernel_rfl) ?hq28 (Or.inl ⟨?hw28, ?hy28⟩) (by assumption) ?rest28
  case hi28 => simp only [List.getElem?_toArray, List.getElem?_cons_succ, List.getElem?_cons_zero]; rfl
  case hq28 => exact fun _ _ _ h => h
  case hw28 => rfl
  case hy28 => intro w hSw; (try dsimp only at hSw); go_simp; (try with_reducible rfl)
  try simp only [Act.put, List.setIfInBounds_toArray, List.set_cons_zero, List.set_cons_succ]
  refine wpAnyH_ready (rs := [9]) (by kernel_rfl) (by simp) ?_
  refine AllReadyH.cons rfl (fun K hK => ?_) AllReadyH.nil
  go_simp
  go_at_call 96
  refine (safe_out _ _ HV.out).mono ?_
  rintro e w' ⟨rfl, rfl⟩
  exact ⟨rfl, rfl, 1, rfl⟩
set_option maxHeartbeats 1000000 in
theorem total_no2 (b : Nat) (lo hi x y : Int) (w : World) (h2 : w.cell? ⟨b, 2, none⟩ = some (.int .i64 lo)) (h3 : w.cell? ⟨b, 3, none⟩ = some (.int .i64 hi)) (hw1 : IntKind.i64.wrap (hi - lo) = hi - lo) (hw2 : IntKind.i64.wrap (hi - lo + 1) = hi - lo + 1) (hv : inNum (hi - lo) = true) (hv2 : inNum (hi - lo + 1) = false) :
    Calls Tryz.prog 64 #[.pointer (some ⟨b, 0, none⟩), .int .i64 x, .int .i64 y] w fun e w' => e = (Res.stop 7 0).ends ∧ ∃ n, w' = w.drewN n := by
  have HV := Lib.hid hv
  clear hv
  have HV2 := Lib.hid hv2
  clear hv2
  go_enter Tryz.func64, Tryz.ntmps64
  go_wp2
  refine wp_region_held_drew (S := fun w' => w'.cell? ⟨b, 2, none⟩ = some (.int .i64 lo) ∧ w'.cell? ⟨b, 3, none⟩ = some (.int .i64 hi)) (by kernel_rfl) ⟨h2, h3⟩ (fun hHeld => ?_)
  refine' wpAnyH_take (i := 0) (oi := _) (v := _) ?hi29 (by kernel_rfl) (by kernel_rfl) (by kernel_rfl) ?hq29 (Or.inl ⟨?hw29, ?hy29⟩) (by assumption) ?rest29
  case hi29 => simp only [List.getElem?_toArray, List.getElem?_cons_succ, List.getElem?_cons_zero]; rfl
  case hq29 => exact fun _ _ _ h => h
  case hw29 => rfl
  case hy29 => intro w hSw; (try dsimp only at hSw); go_simp; (try with_reducible rfl)
  try simp only [Act.put, List.setIfInBounds_toArray, List.set_cons_zero, List.set_cons_succ]
  refine' wpAnyH_take (i := 1) (oi := _) (v := _) ?hi30 (by kernel_rfl) (by kernel_rfl) (by kernel_rfl) ?hq30 (Or.inl ⟨?hw30, ?hy30⟩) (by assumption) ?rest30
  case hi30 => simp only [List.getElem?_toArray, List.getElem?_cons_succ, List.getElem?_cons_zero]; rfl
  case hq30 => exact fun _ _ _ h => h
  case hw30 => rfl
  case hy30 => intro w hSw; (try dsimp only at hSw); go_simp; (try with_reducible rfl)
  try simp only [Act.put, List.setIfInBounds_toArray, List.set_cons_zero, List.set_cons_succ]
  refine' wpAnyH_take (i := 2) (oi := _) (v := _) ?hi31 (by kernel_rfl) (by kernel_rfl) (by kernel_rfl) ?hq31 (Or.inl ⟨?hw31, ?hy31⟩) (by assumption) ?rest31
  case hi31 => simp only [List.getElem?_toArray, List.getElem?_cons_succ, List.getElem?_cons_zero]; rfl
  case hq31 => exact fun _ _ _ h => h
  case hw31 => rfl
  case hy31 => intro w hSw; (try dsimp only at hSw); go_simp; (try with_reducible rfl)
  try simp only [Act.put, List.setIfInBounds_toArray, List.set_cons_zero, List.set_cons_succ]
  refine' wpAnyH_take (i := 3) (oi := _) (v := _) ?hi32 (by kernel_rfl) (by kernel_rfl) (by kernel_rfl) ?hq32 (Or.inl ⟨?hw32, ?hy32⟩) (by assumption) ?rest32
  case hi32 => simp only [List.getElem?_toArray, List.getElem?_cons_succ, List.getElem?_cons_zero]; rfl
  case hq32 => exact fun _ _ _ h => h
  case hw32 => rfl
  case hy32 => intro w hSw; (try dsimp only at hSw); go_simp; (try with_reducible rfl)
  try simp only [Act.put, List.setIfInBounds_toArray, List.set_cons_zero, List.set_cons_succ]
  refine' wpAnyH_take (i := 4) (oi := _) (v := _) ?hi33 (by kernel_rfl) (by kernel_rfl) (by kernel_rfl) ?hq33 (Or.inl ⟨?hw33, ?hy33⟩) (by assumption) ?rest33
  case hi33 => simp only [List.getElem?_toArray, List.getElem?_cons_succ, List.getElem?_cons_zero]; rfl
  case hq33 => exact fun _ _ _ h => h
  case hw33 => rfl
  case hy33 => intro w hSw; (try dsimp only at hSw); go_simp; (try with_reducible rfl)
  try simp only [Act.put, List.setIfInBounds_toArray, List.set_cons_zero, List.set_cons_succ]
  refine' wpAnyH_take (i := 5) (oi := _) (v := _) ?hi34 (by kernel_rfl) (by kernel_rfl) (by kernel_rfl) ?hq34 (Or.inl ⟨?hw34, ?hy34⟩) (by assumption) ?rest34
  case hi34 => simp only [List.getElem?_toArray, List.getElem?_cons_succ, List.getElem?_cons_zero]; rfl
  case hq34 => exact fun _ _ _ h => h
  case hw34 => rfl
  case hy34 => intro w hSw; (try dsimp only at hSw); go_simp; (try with_reducible rfl)
  try simp only [Act.put, List.setIfInBounds_toArray, List.set_cons_zero, List.set_cons_succ]
  refine' wpAnyH_take (i := 6) (oi := _) (v := _) ?hi35 (by kernel_rfl) (by kernel_rfl) (by kernel_rfl) ?hq35 (Or.inl ⟨?hw35, ?hy35⟩) (by assumption) ?rest35
  case hi35 => simp only [List.getElem?_toArray, List.getElem?_cons_succ, List.getElem?_cons_zero]; rfl
  case hq35 => exact fun _ _ _ h => h
  case hw35 => rfl
  case hy35 => intro w hSw; (try dsimp only at hSw); go_simp; (try with_reducible rfl)
  try simp only [Act.put, List.setIfInBounds_toArray, List.set_cons_zero, List.set_cons_succ]
  refine' wpAnyH_take (i := 7) (oi := _) (v := _) ?hi36 (by kernel_rfl) (by kernel_rfl) (by kernel_rfl) ?hq36 (Or.inl ⟨?hw36, ?hy36⟩) (by assumption) ?rest36
  case hi36 => simp only [List.getElem?_toArray, List.getElem?_cons_succ, List.getElem?_cons_zero]; rfl
  case hq36 => exact fun _ _ _ h => h
  case hw36 => rfl
  case hy36 => intro w hSw; (try dsimp only at hSw); go_simp; (try with_reducible rfl)
  try simp only [Act.put, List.setIfInBounds_toArray, List.set_cons_zero, List.set_cons_succ]
  refine' wpAnyH_take (i := 8) (oi := _) (v := _) ?hi37 (by kernel_rfl) (by kernel_rfl) (by kernel_rfl) ?hq37 (Or.inl ⟨?hw37, ?hy37⟩) (by assumption) ?rest37
  case hi37 => simp only [List.getElem?_toArray, List.getElem?_cons_succ, List.getElem?_cons_zero]; rfl
  case hq37 => exact fun _ _ _ h => h
  case hw37 => rfl
  case hy37 => intro w hSw; (try dsimp only at hSw); go_simp; (try with_reducible rfl)
  try simp only [Act.put, List.setIfInBounds_toArray, List.set_cons_zero, List.set_cons_succ]
  refine wpAnyH_ready (rs := [9]) (by kernel_rfl) (by simp) ?_
  refine AllReadyH.cons rfl (fun K hK => ?_) AllReadyH.nil
  go_simp
  go_at_call 96
  refine (safe_in _ _ HV.out).mono ?_
  rintro e w' ⟨rfl, rfl⟩
  refine hK.out _ _ hHeld (fun hHeld => ?_)
  clear hK K
  try simp only [Act.put, List.setIfInBounds_toArray, List.set_cons_zero, List.set_cons_succ]
  refine' wpAnyH_take (i := 10) (oi := _) (v := _) ?hi38 (by kernel_rfl) (by kernel_rfl) (by kernel_rfl) ?hq38 (Or.inl ⟨?hw38, ?hy38⟩) (by assumption) ?rest38
  case hi38 => simp only [List.getElem?_toArray, List.getElem?_cons_succ, List.getElem?_cons_zero]; rfl
  case hq38 => exact fun _ _ _ h => h
  case hw38 => rfl
  case hy38 => intro w hSw; (try dsimp only at hSw); go_simp; (try with_reducible rfl)
  try simp only [Act.put, List.setIfInBounds_toArray, List.set_cons_zero, List.set_cons_succ]
  refine wpAnyH_ready (rs := [11]) (by kernel_rfl) (by simp) ?_
  refine AllReadyH.cons rfl (fun K hK => ?_) AllReadyH.nil
  go_simp
  go_at_call 96
  refine (safe_out _ _ HV2.out).mono ?_
  rintro e w' ⟨rfl, rfl⟩
  exact ⟨rfl, rfl, 1, rfl⟩
set_option maxHeartbeats 1000000 in
theorem width_yes (b : Nat) (lo hi x y : Int) (w : World) (h2 : w.cell? ⟨b, 2, none⟩ = some (.int .i64 lo)) (h3 : w.cell? ⟨b, 3, none⟩ = some (.int .i64 hi)) (hw1 : IntKind.i64.wrap (hi - lo) = hi - lo) (hw2 : IntKind.i64.wrap (hi - lo + 1) = hi - lo + 1) (hv : inNum (hi - lo) = true) (hv2 : inNum (hi - lo + 1) = true) :
    Calls Tryz.prog 63 #[.pointer (some ⟨b, 0, none⟩), .int .i64 x, .int .i64 y] w fun e w' => e = .returned (.int .i64 (hi - lo + 1)) ∧ ∃ n, w' = w.drewN n := by
  have HV := Lib.hid hv
  have HV2 := Lib.hid hv2
  clear hv hv2
  go_enter Tryz.func63, Tryz.ntmps63
  go_wp2
  refine wp_region_held_drew (S := fun w' => w'.cell? ⟨b, 2, none⟩ = some (.int .i64 lo) ∧ w'.cell? ⟨b, 3, none⟩ = some (.int .i64 hi)) (by kernel_rfl) ⟨h2, h3⟩ (fun hHeld => ?_)
  refine' wpAnyH_take (i := 0) (oi := _) (v := _) ?hi39 (by kernel_rfl) (by kernel_rfl) (by kernel_rfl) ?hq39 (Or.inl ⟨?hw39, ?hy39⟩) (by assumption) ?rest39
  case hi39 => simp only [List.getElem?_toArray, List.getElem?_cons_succ, List.getElem?_cons_zero]; rfl
  case hq39 => exact fun _ _ _ h => h
  case hw39 => rfl
  case hy39 => intro w hSw; (try dsimp only at hSw); go_simp; (try with_reducible rfl)
  try simp only [Act.put, List.setIfInBounds_toArray, List.set_cons_zero, List.set_cons_succ]
  refine' wpAnyH_take (i := 1) (oi := _) (v := _) ?hi40 (by kernel_rfl) (by kernel_rfl) (by kernel_rfl) ?hq40 (Or.inl ⟨?hw40, ?hy40⟩) (by assumption) ?rest40
  case hi40 => simp only [List.getElem?_toArray, List.getElem?_cons_succ, List.getElem?_cons_zero]; rfl
  case hq40 => exact fun _ _ _ h => h
  case hw40 => rfl
  case hy40 => intro w hSw; (try dsimp only at hSw); go_simp; (try with_reducible rfl)
  try simp only [Act.put, List.setIfInBounds_toArray, List.set_cons_zero, List.set_cons_succ]
  refine' wpAnyH_take (i := 2) (oi := _) (v := _) ?hi41 (by kernel_rfl) (by kernel_rfl) (by kernel_rfl) ?hq41 (Or.inl ⟨?hw41, ?hy41⟩) (by assumption) ?rest41
  case hi41 => simp only [List.getElem?_toArray, List.getElem?_cons_succ, List.getElem?_cons_zero]; rfl
  case hq41 => exact fun _ _ _ h => h
  case hw41 => rfl
  case hy41 => intro w hSw; (try dsimp only at hSw); go_simp; (try with_reducible rfl)
  try simp only [Act.put, List.setIfInBounds_toArray, List.set_cons_zero, List.set_cons_succ]
  refine' wpAnyH_take (i := 3) (oi := _) (v := _) ?hi42 (by kernel_rfl) (by kernel_rfl) (by kernel_rfl) ?hq42 (Or.inl ⟨?hw42, ?hy42⟩) (by assumption) ?rest42
  case hi42 => simp only [List.getElem?_toArray, List.getElem?_cons_succ, List.getElem?_cons_zero]; rfl
  case hq42 => exact fun _ _ _ h => h
  case hw42 => rfl
  case hy42 => intro w hSw; (try dsimp only at hSw); go_simp; (try with_reducible rfl)
  try simp only [Act.put, List.setIfInBounds_toArray, List.set_cons_zero, List.set_cons_succ]
  refine' wpAnyH_take (i := 4) (oi := _) (v := _) ?hi43 (by kernel_rfl) (by kernel_rfl) (by kernel_rfl) ?hq43 (Or.inl ⟨?hw43, ?hy43⟩) (by assumption) ?rest43
  case hi43 => simp only [List.getElem?_toArray, List.getElem?_cons_succ, List.getElem?_cons_zero]; rfl
  case hq43 => exact fun _ _ _ h => h
  case hw43 => rfl
  case hy43 => intro w hSw; (try dsimp only at hSw); go_simp; (try with_reducible rfl)
  try simp only [Act.put, List.setIfInBounds_toArray, List.set_cons_zero, List.set_cons_succ]
  refine' wpAnyH_take (i := 5) (oi := _) (v := _) ?hi44 (by kernel_rfl) (by kernel_rfl) (by kernel_rfl) ?hq44 (Or.inl ⟨?hw44, ?hy44⟩) (by assumption) ?rest44
  case hi44 => simp only [List.getElem?_toArray, List.getElem?_cons_succ, List.getElem?_cons_zero]; rfl
  case hq44 => exact fun _ _ _ h => h
  case hw44 => rfl
  case hy44 => intro w hSw; (try dsimp only at hSw); go_simp; (try with_reducible rfl)
  try simp only [Act.put, List.setIfInBounds_toArray, List.set_cons_zero, List.set_cons_succ]
  refine' wpAnyH_take (i := 6) (oi := _) (v := _) ?hi45 (by kernel_rfl) (by kernel_rfl) (by kernel_rfl) ?hq45 (Or.inl ⟨?hw45, ?hy45⟩) (by assumption) ?rest45
  case hi45 => simp only [List.getElem?_toArray, List.getElem?_cons_succ, List.getElem?_cons_zero]; rfl
  case hq45 => exact fun _ _ _ h => h
  case hw45 => rfl
  case hy45 => intro w hSw; (try dsimp only at hSw); go_simp; (try with_reducible rfl)
  try simp only [Act.put, List.setIfInBounds_toArray, List.set_cons_zero, List.set_cons_succ]
  refine' wpAnyH_take (i := 7) (oi := _) (v := _) ?hi46 (by kernel_rfl) (by kernel_rfl) (by kernel_rfl) ?hq46 (Or.inl ⟨?hw46, ?hy46⟩) (by assumption) ?rest46
  case hi46 => simp only [List.getElem?_toArray, List.getElem?_cons_succ, List.getElem?_cons_zero]; rfl
  case hq46 => exact fun _ _ _ h => h
  case hw46 => rfl
  case hy46 => intro w hSw; (try dsimp only at hSw); go_simp; (try with_reducible rfl)
  try simp only [Act.put, List.setIfInBounds_toArray, List.set_cons_zero, List.set_cons_succ]
  refine' wpAnyH_take (i := 8) (oi := _) (v := _) ?hi47 (by kernel_rfl) (by kernel_rfl) (by kernel_rfl) ?hq47 (Or.inl ⟨?hw47, ?hy47⟩) (by assumption) ?rest47
  case hi47 => simp only [List.getElem?_toArray, List.getElem?_cons_succ, List.getElem?_cons_zero]; rfl
  case hq47 => exact fun _ _ _ h => h
  case hw47 => rfl
  case hy47 => intro w hSw; (try dsimp only at hSw); go_simp; (try with_reducible rfl)
  try simp only [Act.put, List.setIfInBounds_toArray, List.set_cons_zero, List.set_cons_succ]
  refine wpAnyH_ready (rs := [9]) (by kernel_rfl) (by simp) ?_
  refine AllReadyH.cons rfl (fun K hK => ?_) AllReadyH.nil
  go_simp
  go_at_call 96
  refine (safe_in _ _ HV.out).mono ?_
  rintro e w' ⟨rfl, rfl⟩
  refine hK.out _ _ hHeld (fun hHeld => ?_)
  clear hK K
  try simp only [Act.put, List.setIfInBounds_toArray, List.set_cons_zero, List.set_cons_succ]
  refine' wpAnyH_take (i := 10) (oi := _) (v := _) ?hi48 (by kernel_rfl) (by kernel_rfl) (by kernel_rfl) ?hq48 (Or.inl ⟨?hw48, ?hy48⟩) (by assumption) ?rest48
  case hi48 => simp only [List.getElem?_toArray, List.getElem?_cons_succ, List.getElem?_cons_zero]; rfl
  case hq48 => exact fun _ _ _ h => h
  case hw48 => rfl
  case hy48 => intro w hSw; (try dsimp only at hSw); go_simp; (try with_reducible rfl)
  try simp only [Act.put, List.setIfInBounds_toArray, List.set_cons_zero, List.set_cons_succ]
  refine wpAnyH_ready (rs := [11]) (by kernel_rfl) (by simp) ?_
  refine AllReadyH.cons rfl (fun K hK => ?_) AllReadyH.nil
  go_simp
  go_at_call 96
  refine (safe_in _ _ HV2.out).mono ?_
  rintro e w' ⟨rfl, rfl⟩
  refine hK.out _ _ hHeld (fun hHeld => ?_)
  clear hK K
  try simp only [Act.put, List.setIfInBounds_toArray, List.set_cons_zero, List.set_cons_succ]
  refine' wpAnyH_take (i := 12) (oi := _) (v := _) ?hi49 (by kernel_rfl) (by kernel_rfl) (by kernel_rfl) ?hq49 (Or.inl ⟨?hw49, ?hy49⟩) (by assumption) ?rest49
  case hi49 => simp only [List.getElem?_toArray, List.getElem?_cons_succ, List.getElem?_cons_zero]; rfl
  case hq49 => exact fun _ _ _ h => h
  case hw49 => rfl
  case hy49 => intro w hSw; (try dsimp only at hSw); go_simp; (try with_reducible rfl)
  try simp only [Act.put, List.setIfInBounds_toArray, List.set_cons_zero, List.set_cons_succ]
  refine wpAnyH_done (by kernel_rfl) ?_ _
  go_wp2
  go_ret
  exact ⟨rfl, 1, rfl⟩
def totFrom (lo : Int) : Nat → Int → Int → Res
  | 0, _, n => .val n
  | r + 1, k, n => if 100000 ≤ k - lo then .stop 0 3 else if inNum (n + k) then totFrom lo r (k + 1) (n + k) else .stop 7 0
def totF (lo hi : Int) : Res := match widthF lo hi with
  | .stop f e => .stop f e
  | .val _ => totFrom lo (hi + 1 - lo).toNat lo 0
set_option maxHeartbeats 4000000 in
theorem total_yes (b : Nat) (lo hi x y : Int) (w : World) (h2 : w.cell? ⟨b, 2, none⟩ = some (.int .i64 lo)) (h3 : w.cell? ⟨b, 3, none⟩ = some (.int .i64 hi)) (hw1 : IntKind.i64.wrap (hi - lo) = hi - lo) (hw2 : IntKind.i64.wrap (hi - lo + 1) = hi - lo + 1) (hv : inNum (hi - lo) = true) (hv2 : inNum (hi - lo + 1) = true) (hlo : inNum lo = true) (hhi : inNum hi = true) :
    Calls Tryz.prog 64 #[.pointer (some ⟨b, 0, none⟩), .int .i64 x, .int .i64 y] w fun e w' => e = (totFrom lo (hi + 1 - lo).toNat lo 0).ends ∧ ∃ n, w' = w.drewN n := by
  have b1 := inNum_true.1 hlo
  have b2 := inNum_true.1 hhi
  have b3 := inNum_true.1 hv
  clear hlo hhi
  have HV := Lib.hid hv
  have HV2 := Lib.hid hv2
  clear hv hv2
  go_enter Tryz.func64, Tryz.ntmps64
  go_wp2
  refine wp_region_held_drew (S := fun w' => w'.cell? ⟨b, 2, none⟩ = some (.int .i64 lo) ∧ w'.cell? ⟨b, 3, none⟩ = some (.int .i64 hi)) (by kernel_rfl) ⟨h2, h3⟩ (fun hHeld => ?_)
  refine' wpAnyH_take (i := 0) (oi := _) (v := _) ?hi50 (by kernel_rfl) (by kernel_rfl) (by kernel_rfl) ?hq50 (Or.inl ⟨?hw50, ?hy50⟩) (by assumption) ?rest50
  case hi50 => simp only [List.getElem?_toArray, List.getElem?_cons_succ, List.getElem?_cons_zero]; rfl
  case hq50 => exact fun _ _ _ h => h
  case hw50 => rfl
  case hy50 => intro w hSw; (try dsimp only at hSw); go_simp; (try with_reducible rfl)
  try simp only [Act.put, List.setIfInBounds_toArray, List.set_cons_zero, List.set_cons_succ]
  refine' wpAnyH_take (i := 1) (oi := _) (v := _) ?hi51 (by kernel_rfl) (by kernel_rfl) (by kernel_rfl) ?hq51 (Or.inl ⟨?hw51, ?hy51⟩) (by assumption) ?rest51
  case hi51 => simp only [List.getElem?_toArray, List.getElem?_cons_succ, List.getElem?_cons_zero]; rfl
  case hq51 => exact fun _ _ _ h => h
  case hw51 => rfl
  case hy51 => intro w hSw; (try dsimp only at hSw); go_simp; (try with_reducible rfl)
  try simp only [Act.put, List.setIfInBounds_toArray, List.set_cons_zero, List.set_cons_succ]
  refine' wpAnyH_take (i := 2) (oi := _) (v := _) ?hi52 (by kernel_rfl) (by kernel_rfl) (by kernel_rfl) ?hq52 (Or.inl ⟨?hw52, ?hy52⟩) (by assumption) ?rest52
  case hi52 => simp only [List.getElem?_toArray, List.getElem?_cons_succ, List.getElem?_cons_zero]; rfl
  case hq52 => exact fun _ _ _ h => h
  case hw52 => rfl
  case hy52 => intro w hSw; (try dsimp only at hSw); go_simp; (try with_reducible rfl)
  try simp only [Act.put, List.setIfInBounds_toArray, List.set_cons_zero, List.set_cons_succ]
  refine' wpAnyH_take (i := 3) (oi := _) (v := _) ?hi53 (by kernel_rfl) (by kernel_rfl) (by kernel_rfl) ?hq53 (Or.inl ⟨?hw53, ?hy53⟩) (by assumption) ?rest53
  case hi53 => simp only [List.getElem?_toArray, List.getElem?_cons_succ, List.getElem?_cons_zero]; rfl
  case hq53 => exact fun _ _ _ h => h
  case hw53 => rfl
  case hy53 => intro w hSw; (try dsimp only at hSw); go_simp; (try with_reducible rfl)
  try simp only [Act.put, List.setIfInBounds_toArray, List.set_cons_zero, List.set_cons_succ]
  refine' wpAnyH_take (i := 4) (oi := _) (v := _) ?hi54 (by kernel_rfl) (by kernel_rfl) (by kernel_rfl) ?hq54 (Or.inl ⟨?hw54, ?hy54⟩) (by assumption) ?rest54
  case hi54 => simp only [List.getElem?_toArray, List.getElem?_cons_succ, List.getElem?_cons_zero]; rfl
  case hq54 => exact fun _ _ _ h => h
  case hw54 => rfl
  case hy54 => intro w hSw; (try dsimp only at hSw); go_simp; (try with_reducible rfl)
  try simp only [Act.put, List.setIfInBounds_toArray, List.set_cons_zero, List.set_cons_succ]
  refine' wpAnyH_take (i := 5) (oi := _) (v := _) ?hi55 (by kernel_rfl) (by kernel_rfl) (by kernel_rfl) ?hq55 (Or.inl ⟨?hw55, ?hy55⟩) (by assumption) ?rest55
  case hi55 => simp only [List.getElem?_toArray, List.getElem?_cons_succ, List.getElem?_cons_zero]; rfl
  case hq55 => exact fun _ _ _ h => h
  case hw55 => rfl
  case hy55 => intro w hSw; (try dsimp only at hSw); go_simp; (try with_reducible rfl)
  try simp only [Act.put, List.setIfInBounds_toArray, List.set_cons_zero, List.set_cons_succ]
  refine' wpAnyH_take (i := 6) (oi := _) (v := _) ?hi56 (by kernel_rfl) (by kernel_rfl) (by kernel_rfl) ?hq56 (Or.inl ⟨?hw56, ?hy56⟩) (by assumption) ?rest56
  case hi56 => simp only [List.getElem?_toArray, List.getElem?_cons_succ, List.getElem?_cons_zero]; rfl
  case hq56 => exact fun _ _ _ h => h
  case hw56 => rfl
  case hy56 => intro w hSw; (try dsimp only at hSw); go_simp; (try with_reducible rfl)
  try simp only [Act.put, List.setIfInBounds_toArray, List.set_cons_zero, List.set_cons_succ]
  refine' wpAnyH_take (i := 7) (oi := _) (v := _) ?hi57 (by kernel_rfl) (by kernel_rfl) (by kernel_rfl) ?hq57 (Or.inl ⟨?hw57, ?hy57⟩) (by assumption) ?rest57
  case hi57 => simp only [List.getElem?_toArray, List.getElem?_cons_succ, List.getElem?_cons_zero]; rfl
  case hq57 => exact fun _ _ _ h => h
  case hw57 => rfl
  case hy57 => intro w hSw; (try dsimp only at hSw); go_simp; (try with_reducible rfl)
  try simp only [Act.put, List.setIfInBounds_toArray, List.set_cons_zero, List.set_cons_succ]
  refine' wpAnyH_take (i := 8) (oi := _) (v := _) ?hi58 (by kernel_rfl) (by kernel_rfl) (by kernel_rfl) ?hq58 (Or.inl ⟨?hw58, ?hy58⟩) (by assumption) ?rest58
  case hi58 => simp only [List.getElem?_toArray, List.getElem?_cons_succ, List.getElem?_cons_zero]; rfl
  case hq58 => exact fun _ _ _ h => h
  case hw58 => rfl
  case hy58 => intro w hSw; (try dsimp only at hSw); go_simp; (try with_reducible rfl)
  try simp only [Act.put, List.setIfInBounds_toArray, List.set_cons_zero, List.set_cons_succ]
  refine wpAnyH_ready (rs := [9]) (by kernel_rfl) (by simp) ?_
  refine AllReadyH.cons rfl (fun K hK => ?_) AllReadyH.nil
  go_simp
  go_at_call 96
  refine (safe_in _ _ HV.out).mono ?_
  rintro e w' ⟨rfl, rfl⟩
  refine hK.out _ _ hHeld (fun hHeld => ?_)
  clear hK K
  try simp only [Act.put, List.setIfInBounds_toArray, List.set_cons_zero, List.set_cons_succ]
  refine' wpAnyH_take (i := 10) (oi := _) (v := _) ?hi59 (by kernel_rfl) (by kernel_rfl) (by kernel_rfl) ?hq59 (Or.inl ⟨?hw59, ?hy59⟩) (by assumption) ?rest59
  case hi59 => simp only [List.getElem?_toArray, List.getElem?_cons_succ, List.getElem?_cons_zero]; rfl
  case hq59 => exact fun _ _ _ h => h
  case hw59 => rfl
  case hy59 => intro w hSw; (try dsimp only at hSw); go_simp; (try with_reducible rfl)
  try simp only [Act.put, List.setIfInBounds_toArray, List.set_cons_zero, List.set_cons_succ]
  refine wpAnyH_ready (rs := [11]) (by kernel_rfl) (by simp) ?_
  refine AllReadyH.cons rfl (fun K hK => ?_) AllReadyH.nil
  go_simp
  go_at_call 96
  refine (safe_in _ _ HV2.out).mono ?_
  rintro e w' ⟨rfl, rfl⟩
  refine hK.out _ _ hHeld (fun hHeld => ?_)
  clear hK K
  try simp only [Act.put, List.setIfInBounds_toArray, List.set_cons_zero, List.set_cons_succ]
  refine wpAnyH_done (by kernel_rfl) ?_ _
  clear hHeld
  go_wp2
  go_loop [7, 8] (fun p q => ∃ (n k : Int), p = .int .i64 n ∧ q = .int .i64 k ∧ lo ≤ k ∧ (k = lo ∨ k ≤ hi + 1) ∧ -1099511627776 ≤ n ∧ n ≤ 1099511627776 ∧ totFrom lo (hi + 1 - k).toNat k n = totFrom lo (hi + 1 - lo).toNat lo 0) (fun _ q => (hi + 1 - intOf q).toNat)
  case atStart => exact ⟨0, lo, rfl, rfl, by omega, .inl rfl, by omega, by omega, rfl⟩
  case round =>
    obtain ⟨n, k, rfl, rfl, hk0, hk1, hn0, hn1, hp⟩ := hrel
    have HP := Lib.hid hp
    have HK1 := Lib.hid hk1
    clear hp hk1
    by_cases hlt : k ≤ hi
    · obtain ⟨r, hr⟩ : ∃ r, (hi + 1 - k).toNat = r + 1 := ⟨(hi - k).toNat, by omega⟩
      have hr' : (hi + 1 - (k + 1)).toNat = r := by omega
      by_cases hl : 100000 ≤ k - lo
      · have hs : totFrom lo (hi + 1 - k).toNat k n = .stop 0 3 := by rw [hr]; simp only [totFrom]; rw [if_pos hl]
        have HS := Lib.hid hs
        clear hs hr hr'
        go_wp2
        exact ⟨rfl, by rw [← HP.out, HS.out]; rfl, 1, rfl⟩
      · cases hv : inNum (n + k) with
        | true =>
          have hs : totFrom lo (hi + 1 - k).toNat k n = totFrom lo (hi + 1 - (k + 1)).toNat (k + 1) (n + k) := by rw [hr, hr']; simp only [totFrom]; rw [if_neg hl, if_pos hv]
          have HS := Lib.hid hs
          have HVV := Lib.hid hv
          have hx := inNum_true.1 hv
          clear hs hr hr' hv
          go_wp2_with (go_at_call 96; refine (safe_in _ _ HVV.out).mono ?_; rintro e w' ⟨rfl, rfl⟩)
          go_round
          case rel => exact ⟨n + k, k + 1, rfl, by go_num, by omega, by omega, hx.1, hx.2, by rw [← HS.out]; exact HP.out⟩
          case measure => simp [intOf]; omega
        | false =>
          have hs : totFrom lo (hi + 1 - k).toNat k n = .stop 7 0 := by rw [hr]; simp only [totFrom]; rw [if_neg hl, if_neg (by rw [hv]; decide)]
          have HS := Lib.hid hs
          have HVV := Lib.hid hv
          clear hs hr hr' hv
          go_wp2_with (go_at_call 96; refine (safe_out _ _ HVV.out).mono ?_; rintro e w' ⟨rfl, rfl⟩)
          exact ⟨rfl, by rw [← HP.out, HS.out]; rfl, 1, rfl⟩
    · have hz : (hi + 1 - k).toNat = 0 := by omega
      have HZ := Lib.hid hz
      clear hz
      go_wp2
      go_ret
      refine ⟨?_, 1, rfl⟩
      rw [← HP.out, HZ.out]; rfl
theorem width_any (b kr dr : Nat) (lo hi : Int) (own : Option Nat) (xs : List Int) (x y : Int) (w : World) (h : LM w b kr dr lo hi own xs) (hlo : inNum lo = true) (hhi : inNum hi = true) :
    Calls Tryz.prog 63 #[.pointer (some ⟨b, 0, none⟩), .int .i64 x, .int .i64 y] w fun e w' => e = (widthF lo hi).ends ∧ ∃ n, w' = w.drewN n := by
  obtain ⟨lv, hm, hl, hb⟩ := h
  have h2 := hm.c2
  have h3 := hm.c3
  have b1 := inNum_true.1 hlo
  have b2 := inNum_true.1 hhi
  have hw1 : IntKind.i64.wrap (hi - lo) = hi - lo := by rw [IntKind.wrap_i64] <;> omega
  have hw2 : IntKind.i64.wrap (hi - lo + 1) = hi - lo + 1 := by rw [IntKind.wrap_i64] <;> omega
  cases hv : inNum (hi - lo) with
  | false => rw [widthF, if_neg (by rw [hv]; decide)]; exact width_no1 b lo hi x y w h2 h3 hw1 hw2 hv
  | true =>
    cases hv2 : inNum (hi - lo + 1) with
    | false => rw [widthF, if_pos hv, if_neg (by rw [hv2]; decide)]; exact width_no2 b lo hi x y w h2 h3 hw1 hw2 hv hv2
    | true => rw [widthF, if_pos hv, if_pos hv2]; exact width_yes b lo hi x y w h2 h3 hw1 hw2 hv hv2
theorem total_any (b kr dr : Nat) (lo hi : Int) (own : Option Nat) (xs : List Int) (x y : Int) (w : World) (h : LM w b kr dr lo hi own xs) (hlo : inNum lo = true) (hhi : inNum hi = true) :
    Calls Tryz.prog 64 #[.pointer (some ⟨b, 0, none⟩), .int .i64 x, .int .i64 y] w fun e w' => e = (totF lo hi).ends ∧ ∃ n, w' = w.drewN n := by
  obtain ⟨lv, hm, hl, hb⟩ := h
  have h2 := hm.c2
  have h3 := hm.c3
  have b1 := inNum_true.1 hlo
  have b2 := inNum_true.1 hhi
  have hw1 : IntKind.i64.wrap (hi - lo) = hi - lo := by rw [IntKind.wrap_i64] <;> omega
  have hw2 : IntKind.i64.wrap (hi - lo + 1) = hi - lo + 1 := by rw [IntKind.wrap_i64] <;> omega
  cases hv : inNum (hi - lo) with
  | false => rw [totF, widthF, if_neg (by rw [hv]; decide)]; exact total_no1 b lo hi x y w h2 h3 hw1 hw2 hv
  | true =>
    cases hv2 : inNum (hi - lo + 1) with
    | false => rw [totF, widthF, if_pos hv, if_neg (by rw [hv2]; decide)]; exact total_no2 b lo hi x y w h2 h3 hw1 hw2 hv hv2
    | true => rw [totF, widthF, if_pos hv, if_pos hv2]; exact total_yes b lo hi x y w h2 h3 hw1 hw2 hv hv2 hlo hhi
end Go.Proofs.YtpnbhoeghncnnaaGreatDoor
namespace Go.Proofs.YtpnbhoeghncnnaaGreatDoor
open Go.RowKit
def putMap (w : World) (r : Nat) (es : Array MapEntry) (c : Nat) : World := { w with heap := w.heap.setIfInBounds r (.map es c) }
theorem Fr.putMap (F : Nat → Prop) (w : World) (r : Nat) (es : Array MapEntry) (c : Nat) (h : F r) : Fr F w (putMap w r es c) :=
  ⟨rfl, rfl, rfl, by simp [YtpnbhoeghncnnaaGreatDoor.putMap], fun k _ hF => by
    have : k ≠ r := fun e => hF (e ▸ h)
    simp [YtpnbhoeghncnnaaGreatDoor.putMap, Ne.symm this]⟩
theorem heap_putMap {w : World} {r : Nat} {o : Obj} (h : w.heap[r]? = some o) (es : Array MapEntry) (c : Nat) : (putMap w r es c).heap[r]? = some (.map es c) := (MapKept.heap_set h).1
theorem cell_putMap {w : World} {r : Nat} {es0 : Array MapEntry} {c0 : Nat} (h : w.heap[r]? = some (.map es0 c0)) (es : Array MapEntry) (c : Nat) (a : Addr) : (putMap w r es c).cell? a = w.cell? a := by
  by_cases hb : a.block = r
  · have h1 := heap_putMap h es c
    unfold World.cell?
    rw [hb, h1, h]
  · exact World.cell?_of_block ((MapKept.heap_set h).2 a.block hb)
theorem frozen_putMap {w : World} {r : Nat} {es0 : Array MapEntry} {c0 : Nat} (h : w.heap[r]? = some (.map es0 c0)) (es : Array MapEntry) (c : Nat) (a : Addr) : (putMap w r es c).frozen? a = w.frozen? a := by
  by_cases hb : a.block = r
  · have h1 := heap_putMap h es c
    unfold World.frozen?
    rw [hb, h1, h]
  · exact World.frozen?_of_block ((MapKept.heap_set h).2 a.block hb)
/-- The map r holds these numbers by these. -/
def KM (w : World) (r : Nat) (al : List (Int × Int)) : Prop :=
  ∃ es c, w.heap[r]? = some (.map es c) ∧ es.toList.map (fun e => (e.key, e.val)) = al.map (fun p => (Value.int .i64 p.1, Value.int .i64 p.2))
def fndA (k : Int) : List (Int × Int) → Nat → Option (Nat × Int)
  | [], _ => none
  | p :: r, i => if k = p.1 then some (i, p.2) else fndA k r (i + 1)
theorem findNow_al (k : Int) : ∀ (l : List MapEntry) (al : List (Int × Int)) (i : Nat), l.map (fun e => (e.key, e.val)) = al.map (fun p => (Value.int .i64 p.1, Value.int .i64 p.2)) →
    Instr.findNow (.int .i64) (.int .i64 k) l i = some ((fndA k al i).map fun p => (p.1, Value.int .i64 p.2))
  | [], [], i, _ => rfl
  | [], _ :: _, i, h => by simp at h
  | _ :: _, [], i, h => by simp at h
  | e :: l, p :: al, i, h => by
    simp only [List.map_cons, List.cons.injEq, Prod.mk.injEq] at h
    have ih := findNow_al k l al (i + 1) h.2
    have hs : Instr.sameNow (.int .i64) (.int .i64 k) e.key = some (k == p.1) := by rw [h.1.1]; rfl
    unfold Instr.findNow fndA
    rw [hs]
    by_cases hk : k = p.1
    · subst hk
      simp only [beq_self_eq_true, if_true, Option.map_some, h.1.2]
    · have hkb : (k == p.1) = false := by simpa using hk
      simp only [hkb, if_neg hk, ih]
theorem underlying3 : Tryz.prog.underlying 3 = some (.int .i64) := Tryz.underlying3
theorem run_look (w : World) (r : Nat) (al : List (Int × Int)) (h : KM w r al) (k : Int) (ok : Bool) :
    (Instr.lookup 72 (.map (some r)) (.int .i64 k) ok).run Tryz.prog w = .ok (let v : Value := .int .i64 (((fndA k al 0).map (·.2)).getD 0); if ok then .tuple #[v, .bool (fndA k al 0).isSome] else v) w := by
  obtain ⟨es, c, hr, he⟩ := h
  have hf := findNow_al k es.toList al 0 he
  have hc : ∀ b, (Instr.checkKey b 10000 3 (.int .i64 k)).run Tryz.prog w = .ok () w := fun b => MapKept.run_checkKey (k := .int .i64 k) underlying3 (by simp [MapKept.IsKey]) b 9999
  have hz := Tryz.zeroValue3 w
  cases hq : fndA k al 0 with
  | none =>
    rw [hq] at hf
    simp [Instr.lookup, run_underlying Tryz.underlying72, MapKept.run_getObj_map hr, hc, MapKept.run_findKey underlying3 hf, Result.andThen, hz]
  | some p =>
    rw [hq] at hf
    simp [Instr.lookup, run_underlying Tryz.underlying72, MapKept.run_getObj_map hr, hc, MapKept.run_findKey underlying3 hf, Result.andThen]

theorem map_modify_const {α β : Type} (p : α → β) (g : α → α) (b : β) (h : ∀ e, p (g e) = b) : ∀ (l : List α) (i : Nat), (l.modify i g).map p = (l.map p).set i b
  | [], i => by simp
  | e :: l, 0 => by simp [h]
  | e :: l, i + 1 => by simp [map_modify_const p g b h l i]
theorem fndA_lt (k : Int) : ∀ (al : List (Int × Int)) (i : Nat) (p : Nat × Int), fndA k al i = some p → i ≤ p.1 ∧ p.1 - i < al.length ∧ al[p.1 - i]? = some (k, p.2)
  | [], i, p, h => by simp [fndA] at h
  | q :: al, i, p, h => by
    unfold fndA at h
    by_cases hk : k = q.1
    · rw [if_pos hk] at h; cases h; simp; rw [hk]
    · rw [if_neg hk] at h
      have ih := fndA_lt k al (i + 1) p h
      refine ⟨by omega, by simp; omega, ?_⟩
      rw [show p.1 - i = (p.1 - (i + 1)) + 1 by omega, List.getElem?_cons_succ]
      exact ih.2.2
def updA (k v : Int) (al : List (Int × Int)) : List (Int × Int) := match fndA k al 0 with | some p => al.set p.1 (k, v) | none => al ++ [(k, v)]
def delA (k : Int) (al : List (Int × Int)) : List (Int × Int) := match fndA k al 0 with | some p => al.eraseIdx p.1 | none => al
theorem run_upd (w : World) (r : Nat) (al : List (Int × Int)) (h : KM w r al) (k v : Int) :
    ∃ es c, (Instr.mapUpdate 72 (.map (some r)) (.int .i64 k) (.int .i64 v)).run Tryz.prog w = .ok () (putMap w r es c) ∧ KM (putMap w r es c) r (updA k v al) := by
  obtain ⟨es, c, hr, he⟩ := h
  have hf := findNow_al k es.toList al 0 he
  have hc : ∀ b, (Instr.checkKey b 10000 3 (.int .i64 k)).run Tryz.prog w = .ok () w := fun b => MapKept.run_checkKey (k := .int .i64 k) underlying3 (by simp [MapKept.IsKey]) b 9999
  cases hq : fndA k al 0 with
  | none =>
    rw [hq] at hf
    refine ⟨es.push { key := .int .i64 k, val := .int .i64 v, born := c }, c + 1, ?_, _, _, heap_putMap hr _ _, ?_⟩
    · simp [Instr.mapUpdate, run_underlying Tryz.underlying72, MapKept.run_getObj_map hr, hc, MapKept.run_findKey underlying3 hf, MapKept.run_setObj_map _ hr, Result.andThen, putMap]
    · simp [updA, hq, he]
  | some p =>
    rw [hq] at hf
    have hl := fndA_lt k al 0 p hq
    simp only [Nat.sub_zero] at hl
    have hkey : ((es[p.1]?).map (·.key)).getD (.int .i64 k) = .int .i64 k := by
      have h1 : (es.toList.map (fun e => (e.key, e.val)))[p.1]? = some (Value.int .i64 k, Value.int .i64 p.2) := by
        rw [he, List.getElem?_map, hl.2.2]; rfl
      rw [List.getElem?_map, Array.getElem?_toList] at h1
      cases hx : es[p.1]? with
      | none => rfl
      | some e => rw [hx] at h1; simp only [Option.map_some, Option.some.injEq, Prod.mk.injEq] at h1; simp [h1.1]
    refine ⟨es.modify p.1 fun e => { e with key := .int .i64 k, val := .int .i64 v }, c, ?_, _, _, heap_putMap hr _ _, ?_⟩
    · simp [Instr.mapUpdate, run_underlying Tryz.underlying72, MapKept.run_getObj_map hr, hc, MapKept.run_findKey underlying3 hf, MapKept.run_setObj_map _ hr, Result.andThen, putMap, hkey, Instr.keyThatStays, Instr.sameBits]
    · rw [Array.toList_modify, map_modify_const (fun e : MapEntry => (e.key, e.val)) (fun e => { e with key := .int .i64 k, val := .int .i64 v }) (Value.int .i64 k, Value.int .i64 v) (fun e => rfl), he]
      simp [updA, hq, List.map_set]
theorem run_del (w : World) (ty : TypeId) (r : Nat) (al : List (Int × Int)) (h : KM w r al) (k : Int) :
    ∃ es c, (Builtin.delete_ #[72, 3] ty #[.map (some r), .int .i64 k]).run Tryz.prog w = .ok (.tuple #[]) (putMap w r es c) ∧ KM (putMap w r es c) r (delA k al) := by
  obtain ⟨es, c, hr, he⟩ := h
  have hf := findNow_al k es.toList al 0 he
  have hc : ∀ b, (Instr.checkKey b 10000 3 (.int .i64 k)).run Tryz.prog w = .ok () w := fun b => MapKept.run_checkKey (k := .int .i64 k) underlying3 (by simp [MapKept.IsKey]) b 9999
  cases hq : fndA k al 0 with
  | none =>
    rw [hq] at hf
    refine ⟨es, c, ?_, _, _, heap_putMap hr _ _, ?_⟩
    · simp [Builtin.delete_, run_underlying Tryz.underlying72, MapKept.run_getObj_map hr, hc, MapKept.run_findKey underlying3 hf, MapKept.run_setObj_map _ hr, Result.andThen, putMap]
    · simp [delA, hq, he]
  | some p =>
    rw [hq] at hf
    refine ⟨es.eraseIdxIfInBounds p.1, c, ?_, _, _, heap_putMap hr _ _, ?_⟩
    · simp [Builtin.delete_, run_underlying Tryz.underlying72, MapKept.run_getObj_map hr, hc, MapKept.run_findKey underlying3 hf, MapKept.run_setObj_map _ hr, Result.andThen, putMap]
    · have e1 : (es.eraseIdxIfInBounds p.1).toList = es.toList.eraseIdx p.1 := by simp
      rw [e1, delA, hq]
      have : ∀ (l : List MapEntry) (al : List (Int × Int)) (i : Nat), l.map (fun e => (e.key, e.val)) = al.map (fun p => (Value.int .i64 p.1, Value.int .i64 p.2)) → (l.eraseIdx i).map (fun e => (e.key, e.val)) = (al.eraseIdx i).map (fun p => (Value.int .i64 p.1, Value.int .i64 p.2)) := by
        intro l
        induction l with
        | nil => intro al i h; cases al with
          | nil => simp
          | cons _ _ => simp at h
        | cons e l ih => intro al i h; cases al with
          | nil => simp at h
          | cons q al =>
            simp only [List.map_cons, List.cons.injEq] at h
            cases i with
            | zero => simpa using h.2
            | succ i => simp only [List.eraseIdx_cons_succ, List.map_cons, ih al i h.2, h.1]
      exact this _ _ _ he
theorem run_len (w : World) (ty : TypeId) (r : Nat) (al : List (Int × Int)) (h : KM w r al) :
    (Builtin.len_ #[72] ty #[.map (some r)]).run Tryz.prog w = .ok (.int .i64 al.length) w := by
  obtain ⟨es, c, hr, he⟩ := h
  have : es.size = al.length := by
    have := congrArg List.length he
    simpa using this
  simp [Builtin.len_, run_underlying Tryz.underlying72, MapKept.run_getObj_map hr, Result.andThen, this]
  rfl

def getA (k : Int) (al : List (Int × Int)) : Int := ((fndA k al 0).map (·.2)).getD 0
def hasA (k : Int) (al : List (Int × Int)) : Bool := (fndA k al 0).isSome
theorem run_look1 (w : World) (r : Nat) (al : List (Int × Int)) (h : KM w r al) (k : Int) :
    (Instr.lookup 72 (.map (some r)) (.int .i64 k) false).run Tryz.prog w = .ok (.int .i64 (getA k al)) w := run_look w r al h k false
theorem run_look2 (w : World) (r : Nat) (al : List (Int × Int)) (h : KM w r al) (k : Int) :
    (Instr.lookup 72 (.map (some r)) (.int .i64 k) true).run Tryz.prog w = .ok (.tuple #[.int .i64 (getA k al), .bool (hasA k al)]) w := run_look w r al h k true
theorem LM.put {w : World} {b kr dr : Nat} {lo hi : Int} {own : Option Nat} {xs : List Int} (h : LM w b kr dr lo hi own xs) {al : List (Int × Int)} (hk : KM w kr al) (es : Array MapEntry) (c : Nat) : LM (putMap w kr es c) b kr dr lo hi own xs := by
  obtain ⟨lv, hm, hl, hb⟩ := h
  obtain ⟨es0, c0, hr, _⟩ := hk
  have hf := Fr.putMap (fun k => k = kr) w kr es c rfl
  have hbk : b ≠ kr := fun e => by rw [e] at hm; unfold Mod at hm; rw [hr] at hm; cases hm
  refine ⟨lv, hf.heap hm hbk, ?_, hb⟩
  rcases hl with h | ⟨g, o, cap, cs, h1, h2, h3, h4⟩
  · exact .inl h
  · exact .inr ⟨g, o, cap, cs, h1, h2, hf.heap h3 (fun e => by rw [e, hr] at h3; cases h3), h4⟩
def DidK (w : World) (b kr dr : Nat) (lo hi : Int) (own : Option Nat) (xs : List Int) (al : List (Int × Int)) (w' : World) : Prop :=
  LM w' b kr dr lo hi own xs ∧ KM w' kr al ∧ Fr (fun k => k = kr) w w'
theorem force_any (b kr dr : Nat) (lo hi : Int) (own : Option Nat) (xs : List Int) (al : List (Int × Int)) (x y : Int) (w : World) (h : LM w b kr dr lo hi own xs) (hk : KM w kr al) :
    Calls Tryz.prog 49 #[.pointer (some ⟨b, 0, none⟩), .int .i64 x, .int .i64 y] w fun e w' => e = .returned (.tuple #[]) ∧ DidK w b kr dr lo hi own xs (updA x y al) w' := by
  obtain ⟨es, c, hu, hk'⟩ := run_upd w kr al hk x y
  have HD := Lib.hid (show DidK w b kr dr lo hi own xs (updA x y al) (putMap w kr es c) from ⟨h.put hk es c, hk', Fr.putMap _ w kr es c rfl⟩)
  obtain ⟨lv, hm, hl, hb⟩ := h
  have h1 := hm.c1
  clear hm hl hb hk hk'
  go_enter Tryz.func49, Tryz.ntmps49
  go_wp2
  go_end0
  exact ⟨rfl, HD.out⟩
theorem known_any (b kr dr : Nat) (lo hi : Int) (own : Option Nat) (xs : List Int) (al : List (Int × Int)) (x y : Int) (w : World) (h : LM w b kr dr lo hi own xs) (hk : KM w kr al) :
    Calls Tryz.prog 50 #[.pointer (some ⟨b, 0, none⟩), .int .i64 x, .int .i64 y] w fun e w' => e = .returned (.int .i64 (boolI (hasA x al))) ∧ w = w' := by
  have hu := run_look2 w kr al hk x
  obtain ⟨lv, hm, hl, hb⟩ := h
  have h1 := hm.c1
  clear hm hl hb hk
  generalize hasA x al = q at hu ⊢
  cases q
  all_goals
    go_enter Tryz.func50, Tryz.ntmps50
    go_wp2_with (go_at_call 94; refine (truth_any _ _).mono ?_; rintro e w' ⟨rfl, rfl⟩)
    go_ret
    exact ⟨rfl, rfl⟩
theorem value_any (b kr dr : Nat) (lo hi : Int) (own : Option Nat) (xs : List Int) (al : List (Int × Int)) (x y : Int) (w : World) (h : LM w b kr dr lo hi own xs) (hk : KM w kr al) :
    Calls Tryz.prog 51 #[.pointer (some ⟨b, 0, none⟩), .int .i64 x, .int .i64 y] w fun e w' => e = .returned (.int .i64 (getA x al)) ∧ w = w' := by
  have hu := run_look1 w kr al hk x
  obtain ⟨lv, hm, hl, hb⟩ := h
  have h1 := hm.c1
  clear hm hl hb hk
  go_enter Tryz.func51, Tryz.ntmps51
  go_wp2
  go_ret
  exact ⟨rfl, rfl⟩
theorem lose_any (b kr dr : Nat) (lo hi : Int) (own : Option Nat) (xs : List Int) (al : List (Int × Int)) (x y : Int) (w : World) (h : LM w b kr dr lo hi own xs) (hk : KM w kr al) :
    Calls Tryz.prog 52 #[.pointer (some ⟨b, 0, none⟩), .int .i64 x, .int .i64 y] w fun e w' => e = .returned (.tuple #[]) ∧ DidK w b kr dr lo hi own xs (delA x al) w' := by
  obtain ⟨es, c, hu, hk'⟩ := run_del w 0 kr al hk x
  have HD := Lib.hid (show DidK w b kr dr lo hi own xs (delA x al) (putMap w kr es c) from ⟨h.put hk es c, hk', Fr.putMap _ w kr es c rfl⟩)
  obtain ⟨lv, hm, hl, hb⟩ := h
  have h1 := hm.c1
  clear hm hl hb hk hk'
  go_enter Tryz.func52, Tryz.ntmps52
  go_wp2
  go_end0
  exact ⟨rfl, HD.out⟩
theorem many_any (b kr dr : Nat) (lo hi : Int) (own : Option Nat) (xs : List Int) (al : List (Int × Int)) (x y : Int) (w : World) (h : LM w b kr dr lo hi own xs) (hk : KM w kr al) :
    Calls Tryz.prog 53 #[.pointer (some ⟨b, 0, none⟩), .int .i64 x, .int .i64 y] w fun e w' => e = .returned (.int .i64 al.length) ∧ w = w' := by
  have hu := run_len w 3 kr al hk
  obtain ⟨lv, hm, hl, hb⟩ := h
  have h1 := hm.c1
  clear hm hl hb hk
  go_enter Tryz.func53, Tryz.ntmps53
  go_wp2
  go_ret
  exact ⟨rfl, rfl⟩
end Go.Proofs.YtpnbhoeghncnnaaGreatDoor

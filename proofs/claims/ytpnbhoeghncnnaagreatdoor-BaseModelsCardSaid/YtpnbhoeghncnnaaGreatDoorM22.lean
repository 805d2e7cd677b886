/-
  A part of the proof of Rows.BaseModelsCardSaid (for every class and script BaseModels answers true, and its arguments read as they did; the listed library variables as the program text lays them): texts X6. By an AI agent.
-/
import Derived.Test.YtpnbhoeghncnnaaGreatDoorM18
import Derived.Deep.RegionHeld3
namespace Go.Proofs.YtpnbhoeghncnnaaGreatDoor
open Go.RowKit
set_option linter.unusedSimpArgs false
set_option maxRecDepth 20000 in
set_option maxHeartbeats 8000000 in
theorem modelOf_table (w : World) :
    Calls Tryz.prog 15 #[.string ⟨#[84, 65, 66, 76, 69]⟩] w fun e w' => e = .returned (.pointer (some ⟨w.heap.size + 1, 0, none⟩)) ∧ ∃ bx1 bx2 : Nat, MS w (some (w.heap.size + 1 + 1 + 1)) (#[{ key := .string ⟨#[99, 111, 117, 110, 116]⟩, val := .func (.func 53) #[.pointer (some ⟨w.heap.size + 1, 0, none⟩)] #[], born := 0 }, { key := .string ⟨#[104, 97, 115]⟩, val := .func (.func 50) #[.pointer (some ⟨w.heap.size + 1, 0, none⟩)] #[], born := 1 }, { key := .string ⟨#[115, 105, 122, 101]⟩, val := .func (.func 33) #[.pointer (some ⟨w.heap.size + 1, 0, none⟩)] #[], born := 2 }, { key := .string ⟨#[115, 117, 109]⟩, val := .func (.func 35) #[.pointer (some ⟨w.heap.size + 1, 0, none⟩)] #[], born := 3 }, { key := .string ⟨#[102, 111, 114, 99, 101]⟩, val := .func (.func 97) #[] #[.pointer (some ⟨bx1, 0, none⟩)], born := 4 }, { key := .string ⟨#[118, 97, 108, 117, 101, 95, 111, 102]⟩, val := .func (.func 51) #[.pointer (some ⟨w.heap.size + 1, 0, none⟩)] #[], born := 5 }, { key := .string ⟨#[114, 101, 109, 111, 118, 101]⟩, val := .func (.func 97) #[] #[.pointer (some ⟨bx2, 0, none⟩)], born := 6 }]) 7 w' ∧ w'.heap[bx1]? = some (.cells #[.func (.func 49) #[.pointer (some ⟨w.heap.size + 1, 0, none⟩)] #[]] 78 (0, 0)) ∧ w'.heap[bx2]? = some (.cells #[.func (.func 52) #[.pointer (some ⟨w.heap.size + 1, 0, none⟩)] #[]] 78 (0, 0)) := by
  obtain ⟨W1, W2, W3, W4, e1, e2, e3, e4, M1, M2, M3, M4⟩ := pre w
  have b0 := (ms00 w).c2
  have b1 := M1.c2
  have b2 := M2.c2
  have b3 := M3.c2
  have b4 := M4.c2
  have d4 := M4.c4
  have z4 := M4.z4
  have MU0 := Lib.hid (M4.set4 (some (w.heap.size + 1 + 1 + 1)))
  have mm := MU0.out.c2
  clear M1 M2 M3 M4
  have hmf : ∀ (fn : Fn) (first cap : Array Value) (w : World), (Instr.makeFunc fn first cap).run Tryz.prog w = .ok (.func fn first cap) w := fun _ _ _ _ => rfl
  have hmm := @run_makeMap Tryz.prog
  go_enter Tryz.func15, Tryz.ntmps15
  go_wp2
  generalize W4.setCell ⟨w.heap.size + 1, 4, none⟩ (.map (some (w.heap.size + 1 + 1 + 1))) = U0 at MU0 mm ⊢
  clear e1 e2 e3 e4 b0 b1 b2 b3 b4 d4 z4 hmm W1 W2 W3 W4
  refine wp_region_held_drew (S := fun w' => w'.cell? ⟨w.heap.size + 1 + 1, 0, none⟩ = some (.pointer (some ⟨w.heap.size + 1, 0, none⟩)) ∧ w'.cell? ⟨w.heap.size + 1, 4, none⟩ = some (.map (some (w.heap.size + 1 + 1 + 1)))) (by kernel_rfl) ⟨MU0.out.c2, MU0.out.c4⟩ (fun hHeld => ?_)
  have MU1 := Lib.hid (MU0.out.fr_of (Fr.drew _ _))
  generalize World.drew U0 = U1 at hHeld MU1 ⊢
  refine' wpAnyH_take (i := 0) (oi := _) (v := _) ?hi1 (by kernel_rfl) (by kernel_rfl) (by kernel_rfl) ?hq1 (Or.inl ⟨?hw1, ?hy1⟩) (by assumption) ?rest1
  case hi1 => rfl
  case hq1 => exact fun _ _ _ h => h
  case hw1 => rfl
  case hy1 => intro w hSw; (try dsimp only at hSw); go_simp; (try with_reducible rfl)
  try simp only [Act.put, List.setIfInBounds_toArray, List.set_cons_zero, List.set_cons_succ]
  refine' wpAnyH_take (i := 1) (oi := _) (v := _) ?hi2 (by kernel_rfl) (by kernel_rfl) (by kernel_rfl) ?hq2 (Or.inl ⟨?hw2, ?hy2⟩) (by assumption) ?rest2
  case hi2 => rfl
  case hq2 => exact fun _ _ _ h => h
  case hw2 => rfl
  case hy2 => intro w hSw; (try dsimp only at hSw); go_simp; (try with_reducible rfl)
  try simp only [Act.put, List.setIfInBounds_toArray, List.set_cons_zero, List.set_cons_succ]
  refine' wpAnyH_take (i := 2) (oi := _) (v := _) ?hi3 (by kernel_rfl) (by kernel_rfl) (by kernel_rfl) ?hq3 (Or.inl ⟨?hw3, ?hy3⟩) (by assumption) ?rest3
  case hi3 => rfl
  case hq3 => exact fun _ _ _ h => h
  case hw3 => rfl
  case hy3 => intro w hSw; (try dsimp only at hSw); go_simp; (try with_reducible rfl)
  try simp only [Act.put, List.setIfInBounds_toArray, List.set_cons_zero, List.set_cons_succ]
  refine' wpAnyH_take (i := 3) (oi := _) (v := _) ?hi4 (by kernel_rfl) (by kernel_rfl) (by kernel_rfl) ?hq4 (Or.inl ⟨?hw4, ?hy4⟩) (by assumption) ?rest4
  case hi4 => rfl
  case hq4 => exact fun _ _ _ h => h
  case hw4 => rfl
  case hy4 => intro w hSw; (try dsimp only at hSw); go_simp; (try with_reducible rfl)
  try simp only [Act.put, List.setIfInBounds_toArray, List.set_cons_zero, List.set_cons_succ]
  refine' wpAnyH_take (i := 4) (oi := _) (v := _) ?hi5 (by kernel_rfl) (by kernel_rfl) (by kernel_rfl) ?hq5 (Or.inl ⟨?hw5, ?hy5⟩) (by assumption) ?rest5
  case hi5 => rfl
  case hq5 => exact fun _ _ _ h => h
  case hw5 => rfl
  case hy5 => intro w hSw; (try dsimp only at hSw); go_simp; (try with_reducible rfl)
  try simp only [Act.put, List.setIfInBounds_toArray, List.set_cons_zero, List.set_cons_succ]
  refine' wpAnyH_take (i := 5) (oi := _) (v := _) ?hi6 (by kernel_rfl) (by kernel_rfl) (by kernel_rfl) ?hq6 (Or.inl ⟨?hw6, ?hy6⟩) (by assumption) ?rest6
  case hi6 => rfl
  case hq6 => exact fun _ _ _ h => h
  case hw6 => rfl
  case hy6 => intro w hSw; (try dsimp only at hSw); go_simp; (try with_reducible rfl)
  try simp only [Act.put, List.setIfInBounds_toArray, List.set_cons_zero, List.set_cons_succ]
  refine' wpAnyH_take (i := 6) (oi := _) (v := _) ?hi7 (by kernel_rfl) (by kernel_rfl) (by kernel_rfl) ?hq7 (Or.inl ⟨?hw7, ?hy7⟩) (by assumption) ?rest7
  case hi7 => rfl
  case hq7 => exact fun _ _ _ h => h
  case hw7 => rfl
  case hy7 => intro w hSw; (try dsimp only at hSw); go_simp; (try with_reducible rfl)
  try simp only [Act.put, List.setIfInBounds_toArray, List.set_cons_zero, List.set_cons_succ]
  refine' wpAnyH_take (i := 7) (oi := _) (v := _) ?hi8 (by kernel_rfl) (by kernel_rfl) (by kernel_rfl) ?hq8 (Or.inl ⟨?hw8, ?hy8⟩) (by assumption) ?rest8
  case hi8 => rfl
  case hq8 => exact fun _ _ _ h => h
  case hw8 => rfl
  case hy8 => intro w hSw; (try dsimp only at hSw); go_simp; (try with_reducible rfl)
  try simp only [Act.put, List.setIfInBounds_toArray, List.set_cons_zero, List.set_cons_succ]
  refine' wpAnyH_take (i := 8) (oi := _) (v := _) ?hi9 (by kernel_rfl) (by kernel_rfl) (by kernel_rfl) ?hq9 (Or.inl ⟨?hw9, ?hy9⟩) (by assumption) ?rest9
  case hi9 => rfl
  case hq9 => exact fun _ _ _ h => h
  case hw9 => rfl
  case hy9 => intro w hSw; (try dsimp only at hSw); go_simp; (try with_reducible rfl)
  try simp only [Act.put, List.setIfInBounds_toArray, List.set_cons_zero, List.set_cons_succ]
  refine' wpAnyH_take (i := 9) (oi := _) (v := _) ?hi10 (by kernel_rfl) (by kernel_rfl) (by kernel_rfl) ?hq10 (Or.inl ⟨?hw10, ?hy10⟩) (by assumption) ?rest10
  case hi10 => rfl
  case hq10 => exact fun _ _ _ h => h
  case hw10 => rfl
  case hy10 => intro w hSw; (try dsimp only at hSw); go_simp; (try with_reducible rfl)
  try simp only [Act.put, List.setIfInBounds_toArray, List.set_cons_zero, List.set_cons_succ]
  refine' wpAnyH_take (i := 10) (oi := _) (v := _) ?hi11 (by kernel_rfl) (by kernel_rfl) (by kernel_rfl) ?hq11 (Or.inl ⟨?hw11, ?hy11⟩) (by assumption) ?rest11
  case hi11 => rfl
  case hq11 => exact fun _ _ _ h => h
  case hw11 => rfl
  case hy11 => intro w hSw; (try dsimp only at hSw); go_simp; (try with_reducible rfl)
  try simp only [Act.put, List.setIfInBounds_toArray, List.set_cons_zero, List.set_cons_succ]
  refine' wpAnyH_take (i := 11) (oi := _) (v := _) ?hi12 (by kernel_rfl) (by kernel_rfl) (by kernel_rfl) ?hq12 (Or.inl ⟨?hw12, ?hy12⟩) (by assumption) ?rest12
  case hi12 => rfl
  case hq12 => exact fun _ _ _ h => h
  case hw12 => rfl
  case hy12 => intro w hSw; (try dsimp only at hSw); go_simp; (try with_reducible rfl)
  try simp only [Act.put, List.setIfInBounds_toArray, List.set_cons_zero, List.set_cons_succ]
  refine' wpAnyH_take (i := 12) (oi := _) (v := _) ?hi13 (by kernel_rfl) (by kernel_rfl) (by kernel_rfl) ?hq13 (Or.inl ⟨?hw13, ?hy13⟩) (by assumption) ?rest13
  case hi13 => rfl
  case hq13 => exact fun _ _ _ h => h
  case hw13 => rfl
  case hy13 => intro w hSw; (try dsimp only at hSw); go_simp; (try with_reducible rfl)
  try simp only [Act.put, List.setIfInBounds_toArray, List.set_cons_zero, List.set_cons_succ]
  refine' wpAnyH_take (i := 13) (oi := _) (v := _) ?hi14 (by kernel_rfl) (by kernel_rfl) (by kernel_rfl) ?hq14 (Or.inl ⟨?hw14, ?hy14⟩) (by assumption) ?rest14
  case hi14 => rfl
  case hq14 => exact fun _ _ _ h => h
  case hw14 => rfl
  case hy14 => intro w hSw; (try dsimp only at hSw); go_simp; (try with_reducible rfl)
  try simp only [Act.put, List.setIfInBounds_toArray, List.set_cons_zero, List.set_cons_succ]
  refine' wpAnyH_take (i := 14) (oi := _) (v := _) ?hi15 (by kernel_rfl) (by kernel_rfl) (by kernel_rfl) ?hq15 (Or.inl ⟨?hw15, ?hy15⟩) (by assumption) ?rest15
  case hi15 => rfl
  case hq15 => exact fun _ _ _ h => h
  case hw15 => rfl
  case hy15 => intro w hSw; (try dsimp only at hSw); go_simp; (try with_reducible rfl)
  try simp only [Act.put, List.setIfInBounds_toArray, List.set_cons_zero, List.set_cons_succ]
  refine' wpAnyH_take (i := 15) (oi := _) (v := _) ?hi16 (by kernel_rfl) (by kernel_rfl) (by kernel_rfl) ?hq16 (Or.inl ⟨?hw16, ?hy16⟩) (by assumption) ?rest16
  case hi16 => rfl
  case hq16 => exact fun _ _ _ h => h
  case hw16 => rfl
  case hy16 => intro w hSw; (try dsimp only at hSw); go_simp; (try with_reducible rfl)
  try simp only [Act.put, List.setIfInBounds_toArray, List.set_cons_zero, List.set_cons_succ]
  refine' wpAnyH_take (i := 16) (oi := _) (v := _) ?hi17 (by kernel_rfl) (by kernel_rfl) (by kernel_rfl) ?hq17 (Or.inl ⟨?hw17, ?hy17⟩) (by assumption) ?rest17
  case hi17 => rfl
  case hq17 => exact fun _ _ _ h => h
  case hw17 => rfl
  case hy17 => intro w hSw; (try dsimp only at hSw); go_simp; (try with_reducible rfl)
  try simp only [Act.put, List.setIfInBounds_toArray, List.set_cons_zero, List.set_cons_succ]
  refine' wpAnyH_take (i := 17) (oi := _) (v := _) ?hi18 (by kernel_rfl) (by kernel_rfl) (by kernel_rfl) ?hq18 (Or.inl ⟨?hw18, ?hy18⟩) (by assumption) ?rest18
  case hi18 => rfl
  case hq18 => exact fun _ _ _ h => h
  case hw18 => rfl
  case hy18 => intro w hSw; (try dsimp only at hSw); go_simp; (try with_reducible rfl)
  try simp only [Act.put, List.setIfInBounds_toArray, List.set_cons_zero, List.set_cons_succ]
  refine' wpAnyH_take (i := 18) (oi := _) (v := _) ?hi19 (by kernel_rfl) (by kernel_rfl) (by kernel_rfl) ?hq19 (Or.inl ⟨?hw19, ?hy19⟩) (by assumption) ?rest19
  case hi19 => rfl
  case hq19 => exact fun _ _ _ h => h
  case hw19 => rfl
  case hy19 => intro w hSw; (try dsimp only at hSw); go_simp; (try with_reducible rfl)
  try simp only [Act.put, List.setIfInBounds_toArray, List.set_cons_zero, List.set_cons_succ]
  refine' wpAnyH_take (i := 19) (oi := _) (v := _) ?hi20 (by kernel_rfl) (by kernel_rfl) (by kernel_rfl) ?hq20 (Or.inl ⟨?hw20, ?hy20⟩) (by assumption) ?rest20
  case hi20 => rfl
  case hq20 => exact fun _ _ _ h => h
  case hw20 => rfl
  case hy20 => intro w hSw; (try dsimp only at hSw); go_simp; (try with_reducible rfl)
  try simp only [Act.put, List.setIfInBounds_toArray, List.set_cons_zero, List.set_cons_succ]
  refine' wpAnyH_take (i := 20) (oi := _) (v := _) ?hi21 (by kernel_rfl) (by kernel_rfl) (by kernel_rfl) ?hq21 (Or.inl ⟨?hw21, ?hy21⟩) (by assumption) ?rest21
  case hi21 => rfl
  case hq21 => exact fun _ _ _ h => h
  case hw21 => rfl
  case hy21 => intro w hSw; (try dsimp only at hSw); go_simp; (try with_reducible rfl)
  try simp only [Act.put, List.setIfInBounds_toArray, List.set_cons_zero, List.set_cons_succ]
  refine' wpAnyH_take (i := 21) (oi := _) (v := _) ?hi22 (by kernel_rfl) (by kernel_rfl) (by kernel_rfl) ?hq22 (Or.inl ⟨?hw22, ?hy22⟩) (by assumption) ?rest22
  case hi22 => rfl
  case hq22 => exact fun _ _ _ h => h
  case hw22 => rfl
  case hy22 => intro w hSw; (try dsimp only at hSw); go_simp; (try with_reducible rfl)
  try simp only [Act.put, List.setIfInBounds_toArray, List.set_cons_zero, List.set_cons_succ]
  refine' wpAnyH_take (i := 23) (oi := _) (v := _) ?hi23 (by kernel_rfl) (by kernel_rfl) (by kernel_rfl) ?hq23 (Or.inl ⟨?hw23, ?hy23⟩) (by assumption) ?rest23
  case hi23 => rfl
  case hq23 => exact fun _ _ _ h => h
  case hw23 => rfl
  case hy23 => intro w hSw; (try dsimp only at hSw); go_simp; (try with_reducible rfl)
  try simp only [Act.put, List.setIfInBounds_toArray, List.set_cons_zero, List.set_cons_succ]
  refine' wpAnyH_take (i := 24) (oi := _) (v := _) ?hi24 (by kernel_rfl) (by kernel_rfl) (by kernel_rfl) ?hq24 (Or.inl ⟨?hw24, ?hy24⟩) (by assumption) ?rest24
  case hi24 => rfl
  case hq24 => exact fun _ _ _ h => h
  case hw24 => rfl
  case hy24 => intro w hSw; (try dsimp only at hSw); go_simp; (try with_reducible rfl)
  try simp only [Act.put, List.setIfInBounds_toArray, List.set_cons_zero, List.set_cons_succ]
  refine' wpAnyH_take (i := 25) (oi := _) (v := _) ?hi25 (by kernel_rfl) (by kernel_rfl) (by kernel_rfl) ?hq25 (Or.inl ⟨?hw25, ?hy25⟩) (by assumption) ?rest25
  case hi25 => rfl
  case hq25 => exact fun _ _ _ h => h
  case hw25 => rfl
  case hy25 => intro w hSw; (try dsimp only at hSw); go_simp; (try with_reducible rfl)
  try simp only [Act.put, List.setIfInBounds_toArray, List.set_cons_zero, List.set_cons_succ]
  refine' wpAnyH_take (i := 26) (oi := _) (v := _) ?hi26 (by kernel_rfl) (by kernel_rfl) (by kernel_rfl) ?hq26 (Or.inl ⟨?hw26, ?hy26⟩) (by assumption) ?rest26
  case hi26 => rfl
  case hq26 => exact fun _ _ _ h => h
  case hw26 => rfl
  case hy26 => intro w hSw; (try dsimp only at hSw); go_simp; (try with_reducible rfl)
  try simp only [Act.put, List.setIfInBounds_toArray, List.set_cons_zero, List.set_cons_succ]
  refine' wpAnyH_take (i := 27) (oi := _) (v := _) ?hi27 (by kernel_rfl) (by kernel_rfl) (by kernel_rfl) ?hq27 (Or.inl ⟨?hw27, ?hy27⟩) (by assumption) ?rest27
  case hi27 => rfl
  case hq27 => exact fun _ _ _ h => h
  case hw27 => rfl
  case hy27 => intro w hSw; (try dsimp only at hSw); go_simp; (try with_reducible rfl)
  try simp only [Act.put, List.setIfInBounds_toArray, List.set_cons_zero, List.set_cons_succ]
  refine' wpAnyH_take (i := 28) (oi := _) (v := _) ?hi28 (by kernel_rfl) (by kernel_rfl) (by kernel_rfl) ?hq28 (Or.inl ⟨?hw28, ?hy28⟩) (by assumption) ?rest28
  case hi28 => rfl
  case hq28 => exact fun _ _ _ h => h
  case hw28 => rfl
  case hy28 => intro w hSw; (try dsimp only at hSw); go_simp; (try with_reducible rfl)
  try simp only [Act.put, List.setIfInBounds_toArray, List.set_cons_zero, List.set_cons_succ]
  refine' wpAnyH_take (i := 30) (oi := _) (v := _) ?hi29 (by kernel_rfl) (by kernel_rfl) (by kernel_rfl) ?hq29 (Or.inl ⟨?hw29, ?hy29⟩) (by assumption) ?rest29
  case hi29 => rfl
  case hq29 => exact fun _ _ _ h => h
  case hw29 => rfl
  case hy29 => intro w hSw; (try dsimp only at hSw); go_simp; (try with_reducible rfl)
  try simp only [Act.put, List.setIfInBounds_toArray, List.set_cons_zero, List.set_cons_succ]
  refine' wpAnyH_take (i := 31) (oi := _) (v := _) ?hi30 (by kernel_rfl) (by kernel_rfl) (by kernel_rfl) ?hq30 (Or.inl ⟨?hw30, ?hy30⟩) (by assumption) ?rest30
  case hi30 => rfl
  case hq30 => exact fun _ _ _ h => h
  case hw30 => rfl
  case hy30 => intro w hSw; (try dsimp only at hSw); go_simp; (try with_reducible rfl)
  try simp only [Act.put, List.setIfInBounds_toArray, List.set_cons_zero, List.set_cons_succ]
  refine wpAnyH_ready (rs := [22]) (by kernel_rfl) (by simp) ?_
  refine AllReadyH.cons rfl (fun K hK => ?_) AllReadyH.nil
  go_simp
  go_at_call 36
  refine (quiet_any _ _ _ _).mono ?_
  rintro e w' ⟨rfl, rfl⟩
  have MU2 := Lib.hid (MU1.out.fr_of (Fr.alloc (fun _ => False) _ (.cells #[.func (.func 49) #[.pointer (some ⟨w.heap.size + 1, 0, none⟩)] #[]] 78)))
  have hb1_U2 := Lib.hid (heap_alloc_new U1 (.cells #[.func (.func 49) #[.pointer (some ⟨w.heap.size + 1, 0, none⟩)] #[]] 78))
  generalize U1.alloc (.cells #[.func (.func 49) #[.pointer (some ⟨w.heap.size + 1, 0, none⟩)] #[]] 78) = U2 at MU2 hb1_U2 ⊢
  generalize U1.heap.size = bx1 at hb1_U2 ⊢
  refine hK.out _ _ ⟨MU2.out.c2, MU2.out.c4⟩ (fun hHeld => ?_)
  clear hK K
  try simp only [Act.put, List.setIfInBounds_toArray, List.set_cons_zero, List.set_cons_succ]
  clear MU1
  refine wpAnyH_ready (rs := [29]) (by kernel_rfl) (by simp) ?_
  refine AllReadyH.cons rfl (fun K hK => ?_) AllReadyH.nil
  go_simp
  go_at_call 36
  refine (quiet_any _ _ _ _).mono ?_
  rintro e w' ⟨rfl, rfl⟩
  have MU3 := Lib.hid (MU2.out.fr_of (Fr.alloc (fun _ => False) _ (.cells #[.func (.func 52) #[.pointer (some ⟨w.heap.size + 1, 0, none⟩)] #[]] 78)))
  have hb2_U3 := Lib.hid (heap_alloc_new U2 (.cells #[.func (.func 52) #[.pointer (some ⟨w.heap.size + 1, 0, none⟩)] #[]] 78))
  have hb1_U3 := Lib.hid ((Fr.alloc (fun _ => False) U2 (.cells #[.func (.func 52) #[.pointer (some ⟨w.heap.size + 1, 0, none⟩)] #[]] 78)).heap hb1_U2.out id)
  generalize U2.alloc (.cells #[.func (.func 52) #[.pointer (some ⟨w.heap.size + 1, 0, none⟩)] #[]] 78) = U3 at MU3 hb2_U3 hb1_U3 ⊢
  generalize U2.heap.size = bx2 at hb2_U3 ⊢
  refine hK.out _ _ ⟨MU3.out.c2, MU3.out.c4⟩ (fun hHeld => ?_)
  clear hK K
  try simp only [Act.put, List.setIfInBounds_toArray, List.set_cons_zero, List.set_cons_succ]
  clear MU2 hb1_U2
  refine wpAnyH_ready (rs := [32]) (by kernel_rfl) (by simp) ?_
  have ee : (Instr.mapEntry 73 (.map (some (w.heap.size + 1 + 1 + 1))) (.string ⟨#[102, 111, 114, 99, 101]⟩)).run Tryz.prog U3 = .ok (.tuple #[.nilFunc, .int .i64 4]) (putMap U3 (w.heap.size + 1 + 1 + 1) (#[{ key := .string ⟨#[99, 111, 117, 110, 116]⟩, val := .func (.func 33) #[.pointer (some ⟨w.heap.size + 1, 0, none⟩)] #[], born := 0 }, { key := .string ⟨#[104, 97, 115]⟩, val := .func (.func 34) #[.pointer (some ⟨w.heap.size + 1, 0, none⟩)] #[], born := 1 }, { key := .string ⟨#[115, 105, 122, 101]⟩, val := .func (.func 33) #[.pointer (some ⟨w.heap.size + 1, 0, none⟩)] #[], born := 2 }, { key := .string ⟨#[115, 117, 109]⟩, val := .func (.func 35) #[.pointer (some ⟨w.heap.size + 1, 0, none⟩)] #[], born := 3 }, { key := .string ⟨#[102, 111, 114, 99, 101]⟩, val := .nilFunc, born := 4 }]) 5) := me_new _ _ _ _ _ MU3.out.hm3 (by kernel_rfl)
  refine AllReadyH.cons rfl (fun K hK => ?_) AllReadyH.nil
  go_simp
  clear ee
  generalize hZ : putMap U3 (w.heap.size + 1 + 1 + 1) (#[{ key := .string ⟨#[99, 111, 117, 110, 116]⟩, val := .func (.func 33) #[.pointer (some ⟨w.heap.size + 1, 0, none⟩)] #[], born := 0 }, { key := .string ⟨#[104, 97, 115]⟩, val := .func (.func 34) #[.pointer (some ⟨w.heap.size + 1, 0, none⟩)] #[], born := 1 }, { key := .string ⟨#[115, 105, 122, 101]⟩, val := .func (.func 33) #[.pointer (some ⟨w.heap.size + 1, 0, none⟩)] #[], born := 2 }, { key := .string ⟨#[115, 117, 109]⟩, val := .func (.func 35) #[.pointer (some ⟨w.heap.size + 1, 0, none⟩)] #[], born := 3 }, { key := .string ⟨#[102, 111, 114, 99, 101]⟩, val := .nilFunc, born := 4 }]) 5 = U4 at ⊢
  have MU4 := Lib.hid (MU3.out.putE hZ)
  have hb1_U4 := Lib.hid (box_putE hZ hb1_U3.out MU3.out.hm3)
  have hb2_U4 := Lib.hid (box_putE hZ hb2_U3.out MU3.out.hm3)
  clear hZ
  refine hK.out _ _ ⟨MU4.out.c2, MU4.out.c4⟩ (fun hHeld => ?_)
  clear hK K
  try simp only [Act.put, List.setIfInBounds_toArray, List.set_cons_zero, List.set_cons_succ]
  clear MU3 hb1_U3 hb2_U3
  refine' wpAnyH_take (i := 33) (oi := _) (v := _) ?hi31 (by kernel_rfl) (by kernel_rfl) (by kernel_rfl) ?hq31 (Or.inl ⟨?hw31, ?hy31⟩) (by assumption) ?rest31
  case hi31 => rfl
  case hq31 => exact fun _ _ _ h => h
  case hw31 => rfl
  case hy31 => intro w hSw; (try dsimp only at hSw); go_simp; (try with_reducible rfl)
  try simp only [Act.put, List.setIfInBounds_toArray, List.set_cons_zero, List.set_cons_succ]
  refine wpAnyH_ready (rs := [34]) (by kernel_rfl) (by simp) ?_
  have ee : (Instr.entryStore 73 (.map (some (w.heap.size + 1 + 1 + 1))) (.int .i64 4) (.func (.func 97) #[] #[.pointer (some ⟨bx1, 0, none⟩)])).run Tryz.prog U4 = .ok () (putMap U4 (w.heap.size + 1 + 1 + 1) (#[{ key := .string ⟨#[99, 111, 117, 110, 116]⟩, val := .func (.func 33) #[.pointer (some ⟨w.heap.size + 1, 0, none⟩)] #[], born := 0 }, { key := .string ⟨#[104, 97, 115]⟩, val := .func (.func 34) #[.pointer (some ⟨w.heap.size + 1, 0, none⟩)] #[], born := 1 }, { key := .string ⟨#[115, 105, 122, 101]⟩, val := .func (.func 33) #[.pointer (some ⟨w.heap.size + 1, 0, none⟩)] #[], born := 2 }, { key := .string ⟨#[115, 117, 109]⟩, val := .func (.func 35) #[.pointer (some ⟨w.heap.size + 1, 0, none⟩)] #[], born := 3 }, { key := .string ⟨#[102, 111, 114, 99, 101]⟩, val := .func (.func 97) #[] #[.pointer (some ⟨bx1, 0, none⟩)], born := 4 }]) 5) := st_at _ _ _ 4 _ 4 _ MU4.out.hm3 (by kernel_rfl)
  refine AllReadyH.cons rfl (fun K hK => ?_) AllReadyH.nil
  go_simp
  clear ee
  generalize hZ : putMap U4 (w.heap.size + 1 + 1 + 1) (#[{ key := .string ⟨#[99, 111, 117, 110, 116]⟩, val := .func (.func 33) #[.pointer (some ⟨w.heap.size + 1, 0, none⟩)] #[], born := 0 }, { key := .string ⟨#[104, 97, 115]⟩, val := .func (.func 34) #[.pointer (some ⟨w.heap.size + 1, 0, none⟩)] #[], born := 1 }, { key := .string ⟨#[115, 105, 122, 101]⟩, val := .func (.func 33) #[.pointer (some ⟨w.heap.size + 1, 0, none⟩)] #[], born := 2 }, { key := .string ⟨#[115, 117, 109]⟩, val := .func (.func 35) #[.pointer (some ⟨w.heap.size + 1, 0, none⟩)] #[], born := 3 }, { key := .string ⟨#[102, 111, 114, 99, 101]⟩, val := .func (.func 97) #[] #[.pointer (some ⟨bx1, 0, none⟩)], born := 4 }]) 5 = U5 at ⊢
  have MU5 := Lib.hid (MU4.out.putE hZ)
  have hb1_U5 := Lib.hid (box_putE hZ hb1_U4.out MU4.out.hm3)
  have hb2_U5 := Lib.hid (box_putE hZ hb2_U4.out MU4.out.hm3)
  clear hZ
  refine hK.out _ _ ⟨MU5.out.c2, MU5.out.c4⟩ (fun hHeld => ?_)
  clear hK K
  try simp only [Act.put, List.setIfInBounds_toArray, List.set_cons_zero, List.set_cons_succ]
  clear MU4 hb1_U4 hb2_U4
  refine wpAnyH_ready (rs := [35]) (by kernel_rfl) (by simp) ?_
  have ee : (Instr.mapEntry 73 (.map (some (w.heap.size + 1 + 1 + 1))) (.string ⟨#[104, 97, 115]⟩)).run Tryz.prog U5 = .ok (.tuple #[.func (.func 34) #[.pointer (some ⟨w.heap.size + 1, 0, none⟩)] #[], .int .i64 1]) (putMap U5 (w.heap.size + 1 + 1 + 1) (#[{ key := .string ⟨#[99, 111, 117, 110, 116]⟩, val := .func (.func 33) #[.pointer (some ⟨w.heap.size + 1, 0, none⟩)] #[], born := 0 }, { key := .string ⟨#[104, 97, 115]⟩, val := .func (.func 34) #[.pointer (some ⟨w.heap.size + 1, 0, none⟩)] #[], born := 1 }, { key := .string ⟨#[115, 105, 122, 101]⟩, val := .func (.func 33) #[.pointer (some ⟨w.heap.size + 1, 0, none⟩)] #[], born := 2 }, { key := .string ⟨#[115, 117, 109]⟩, val := .func (.func 35) #[.pointer (some ⟨w.heap.size + 1, 0, none⟩)] #[], born := 3 }, { key := .string ⟨#[102, 111, 114, 99, 101]⟩, val := .func (.func 97) #[] #[.pointer (some ⟨bx1, 0, none⟩)], born := 4 }]) 5) := me_old _ _ _ 1 _ _ _ MU5.out.hm3 (by kernel_rfl) 1 (by kernel_rfl) (by kernel_rfl)
  refine AllReadyH.cons rfl (fun K hK => ?_) AllReadyH.nil
  go_simp
  clear ee
  generalize hZ : putMap U5 (w.heap.size + 1 + 1 + 1) (#[{ key := .string ⟨#[99, 111, 117, 110, 116]⟩, val := .func (.func 33) #[.pointer (some ⟨w.heap.size + 1, 0, none⟩)] #[], born := 0 }, { key := .string ⟨#[104, 97, 115]⟩, val := .func (.func 34) #[.pointer (some ⟨w.heap.size + 1, 0, none⟩)] #[], born := 1 }, { key := .string ⟨#[115, 105, 122, 101]⟩, val := .func (.func 33) #[.pointer (some ⟨w.heap.size + 1, 0, none⟩)] #[], born := 2 }, { key := .string ⟨#[115, 117, 109]⟩, val := .func (.func 35) #[.pointer (some ⟨w.heap.size + 1, 0, none⟩)] #[], born := 3 }, { key := .string ⟨#[102, 111, 114, 99, 101]⟩, val := .func (.func 97) #[] #[.pointer (some ⟨bx1, 0, none⟩)], born := 4 }]) 5 = U6 at ⊢
  have MU6 := Lib.hid (MU5.out.putE hZ)
  have hb1_U6 := Lib.hid (box_putE hZ hb1_U5.out MU5.out.hm3)
  have hb2_U6 := Lib.hid (box_putE hZ hb2_U5.out MU5.out.hm3)
  clear hZ
  refine hK.out _ _ ⟨MU6.out.c2, MU6.out.c4⟩ (fun hHeld => ?_)
  clear hK K
  try simp only [Act.put, List.setIfInBounds_toArray, List.set_cons_zero, List.set_cons_succ]
  clear MU5 hb1_U5 hb2_U5
  refine' wpAnyH_take (i := 36) (oi := _) (v := _) ?hi32 (by kernel_rfl) (by kernel_rfl) (by kernel_rfl) ?hq32 (Or.inl ⟨?hw32, ?hy32⟩) (by assumption) ?rest32
  case hi32 => rfl
  case hq32 => exact fun _ _ _ h => h
  case hw32 => rfl
  case hy32 => intro w hSw; (try dsimp only at hSw); go_simp; (try with_reducible rfl)
  try simp only [Act.put, List.setIfInBounds_toArray, List.set_cons_zero, List.set_cons_succ]
  refine wpAnyH_ready (rs := [37]) (by kernel_rfl) (by simp) ?_
  have ee : (Instr.entryStore 73 (.map (some (w.heap.size + 1 + 1 + 1))) (.int .i64 1) (.func (.func 50) #[.pointer (some ⟨w.heap.size + 1, 0, none⟩)] #[])).run Tryz.prog U6 = .ok () (putMap U6 (w.heap.size + 1 + 1 + 1) (#[{ key := .string ⟨#[99, 111, 117, 110, 116]⟩, val := .func (.func 33) #[.pointer (some ⟨w.heap.size + 1, 0, none⟩)] #[], born := 0 }, { key := .string ⟨#[104, 97, 115]⟩, val := .func (.func 50) #[.pointer (some ⟨w.heap.size + 1, 0, none⟩)] #[], born := 1 }, { key := .string ⟨#[115, 105, 122, 101]⟩, val := .func (.func 33) #[.pointer (some ⟨w.heap.size + 1, 0, none⟩)] #[], born := 2 }, { key := .string ⟨#[115, 117, 109]⟩, val := .func (.func 35) #[.pointer (some ⟨w.heap.size + 1, 0, none⟩)] #[], born := 3 }, { key := .string ⟨#[102, 111, 114, 99, 101]⟩, val := .func (.func 97) #[] #[.pointer (some ⟨bx1, 0, none⟩)], born := 4 }]) 5) := st_at _ _ _ 1 _ 1 _ MU6.out.hm3 (by kernel_rfl)
  refine AllReadyH.cons rfl (fun K hK => ?_) AllReadyH.nil
  go_simp
  clear ee
  generalize hZ : putMap U6 (w.heap.size + 1 + 1 + 1) (#[{ key := .string ⟨#[99, 111, 117, 110, 116]⟩, val := .func (.func 33) #[.pointer (some ⟨w.heap.size + 1, 0, none⟩)] #[], born := 0 }, { key := .string ⟨#[104, 97, 115]⟩, val := .func (.func 50) #[.pointer (some ⟨w.heap.size + 1, 0, none⟩)] #[], born := 1 }, { key := .string ⟨#[115, 105, 122, 101]⟩, val := .func (.func 33) #[.pointer (some ⟨w.heap.size + 1, 0, none⟩)] #[], born := 2 }, { key := .string ⟨#[115, 117, 109]⟩, val := .func (.func 35) #[.pointer (some ⟨w.heap.size + 1, 0, none⟩)] #[], born := 3 }, { key := .string ⟨#[102, 111, 114, 99, 101]⟩, val := .func (.func 97) #[] #[.pointer (some ⟨bx1, 0, none⟩)], born := 4 }]) 5 = U7 at ⊢
  have MU7 := Lib.hid (MU6.out.putE hZ)
  have hb1_U7 := Lib.hid (box_putE hZ hb1_U6.out MU6.out.hm3)
  have hb2_U7 := Lib.hid (box_putE hZ hb2_U6.out MU6.out.hm3)
  clear hZ
  refine hK.out _ _ ⟨MU7.out.c2, MU7.out.c4⟩ (fun hHeld => ?_)
  clear hK K
  try simp only [Act.put, List.setIfInBounds_toArray, List.set_cons_zero, List.set_cons_succ]
  clear MU6 hb1_U6 hb2_U6
  refine wpAnyH_ready (rs := [38]) (by kernel_rfl) (by simp) ?_
  have ee : (Instr.mapEntry 73 (.map (some (w.heap.size + 1 + 1 + 1))) (.string ⟨#[118, 97, 108, 117, 101, 95, 111, 102]⟩)).run Tryz.prog U7 = .ok (.tuple #[.nilFunc, .int .i64 5]) (putMap U7 (w.heap.size + 1 + 1 + 1) (#[{ key := .string ⟨#[99, 111, 117, 110, 116]⟩, val := .func (.func 33) #[.pointer (some ⟨w.heap.size + 1, 0, none⟩)] #[], born := 0 }, { key := .string ⟨#[104, 97, 115]⟩, val := .func (.func 50) #[.pointer (some ⟨w.heap.size + 1, 0, none⟩)] #[], born := 1 }, { key := .string ⟨#[115, 105, 122, 101]⟩, val := .func (.func 33) #[.pointer (some ⟨w.heap.size + 1, 0, none⟩)] #[], born := 2 }, { key := .string ⟨#[115, 117, 109]⟩, val := .func (.func 35) #[.pointer (some ⟨w.heap.size + 1, 0, none⟩)] #[], born := 3 }, { key := .string ⟨#[102, 111, 114, 99, 101]⟩, val := .func (.func 97) #[] #[.pointer (some ⟨bx1, 0, none⟩)], born := 4 }, { key := .string ⟨#[118, 97, 108, 117, 101, 95, 111, 102]⟩, val := .nilFunc, born := 5 }]) 6) := me_new _ _ _ _ _ MU7.out.hm3 (by kernel_rfl)
  refine AllReadyH.cons rfl (fun K hK => ?_) AllReadyH.nil
  go_simp
  clear ee
  generalize hZ : putMap U7 (w.heap.size + 1 + 1 + 1) (#[{ key := .string ⟨#[99, 111, 117, 110, 116]⟩, val := .func (.func 33) #[.pointer (some ⟨w.heap.size + 1, 0, none⟩)] #[], born := 0 }, { key := .string ⟨#[104, 97, 115]⟩, val := .func (.func 50) #[.pointer (some ⟨w.heap.size + 1, 0, none⟩)] #[], born := 1 }, { key := .string ⟨#[115, 105, 122, 101]⟩, val := .func (.func 33) #[.pointer (some ⟨w.heap.size + 1, 0, none⟩)] #[], born := 2 }, { key := .string ⟨#[115, 117, 109]⟩, val := .func (.func 35) #[.pointer (some ⟨w.heap.size + 1, 0, none⟩)] #[], born := 3 }, { key := .string ⟨#[102, 111, 114, 99, 101]⟩, val := .func (.func 97) #[] #[.pointer (some ⟨bx1, 0, none⟩)], born := 4 }, { key := .string ⟨#[118, 97, 108, 117, 101, 95, 111, 102]⟩, val := .nilFunc, born := 5 }]) 6 = U8 at ⊢
  have MU8 := Lib.hid (MU7.out.putE hZ)
  have hb1_U8 := Lib.hid (box_putE hZ hb1_U7.out MU7.out.hm3)
  have hb2_U8 := Lib.hid (box_putE hZ hb2_U7.out MU7.out.hm3)
  clear hZ
  refine hK.out _ _ ⟨MU8.out.c2, MU8.out.c4⟩ (fun hHeld => ?_)
  clear hK K
  try simp only [Act.put, List.setIfInBounds_toArray, List.set_cons_zero, List.set_cons_succ]
  clear MU7 hb1_U7 hb2_U7
  refine' wpAnyH_take (i := 39) (oi := _) (v := _) ?hi33 (by kernel_rfl) (by kernel_rfl) (by kernel_rfl) ?hq33 (Or.inl ⟨?hw33, ?hy33⟩) (by assumption) ?rest33
  case hi33 => rfl
  case hq33 => exact fun _ _ _ h => h
  case hw33 => rfl
  case hy33 => intro w hSw; (try dsimp only at hSw); go_simp; (try with_reducible rfl)
  try simp only [Act.put, List.setIfInBounds_toArray, List.set_cons_zero, List.set_cons_succ]
  refine wpAnyH_ready (rs := [40]) (by kernel_rfl) (by simp) ?_
  have ee : (Instr.entryStore 73 (.map (some (w.heap.size + 1 + 1 + 1))) (.int .i64 5) (.func (.func 51) #[.pointer (some ⟨w.heap.size + 1, 0, none⟩)] #[])).run Tryz.prog U8 = .ok () (putMap U8 (w.heap.size + 1 + 1 + 1) (#[{ key := .string ⟨#[99, 111, 117, 110, 116]⟩, val := .func (.func 33) #[.pointer (some ⟨w.heap.size + 1, 0, none⟩)] #[], born := 0 }, { key := .string ⟨#[104, 97, 115]⟩, val := .func (.func 50) #[.pointer (some ⟨w.heap.size + 1, 0, none⟩)] #[], born := 1 }, { key := .string ⟨#[115, 105, 122, 101]⟩, val := .func (.func 33) #[.pointer (some ⟨w.heap.size + 1, 0, none⟩)] #[], born := 2 }, { key := .string ⟨#[115, 117, 109]⟩, val := .func (.func 35) #[.pointer (some ⟨w.heap.size + 1, 0, none⟩)] #[], born := 3 }, { key := .string ⟨#[102, 111, 114, 99, 101]⟩, val := .func (.func 97) #[] #[.pointer (some ⟨bx1, 0, none⟩)], born := 4 }, { key := .string ⟨#[118, 97, 108, 117, 101, 95, 111, 102]⟩, val := .func (.func 51) #[.pointer (some ⟨w.heap.size + 1, 0, none⟩)] #[], born := 5 }]) 6) := st_at _ _ _ 5 _ 5 _ MU8.out.hm3 (by kernel_rfl)
  refine AllReadyH.cons rfl (fun K hK => ?_) AllReadyH.nil
  go_simp
  clear ee
  generalize hZ : putMap U8 (w.heap.size + 1 + 1 + 1) (#[{ key := .string ⟨#[99, 111, 117, 110, 116]⟩, val := .func (.func 33) #[.pointer (some ⟨w.heap.size + 1, 0, none⟩)] #[], born := 0 }, { key := .string ⟨#[104, 97, 115]⟩, val := .func (.func 50) #[.pointer (some ⟨w.heap.size + 1, 0, none⟩)] #[], born := 1 }, { key := .string ⟨#[115, 105, 122, 101]⟩, val := .func (.func 33) #[.pointer (some ⟨w.heap.size + 1, 0, none⟩)] #[], born := 2 }, { key := .string ⟨#[115, 117, 109]⟩, val := .func (.func 35) #[.pointer (some ⟨w.heap.size + 1, 0, none⟩)] #[], born := 3 }, { key := .string ⟨#[102, 111, 114, 99, 101]⟩, val := .func (.func 97) #[] #[.pointer (some ⟨bx1, 0, none⟩)], born := 4 }, { key := .string ⟨#[118, 97, 108, 117, 101, 95, 111, 102]⟩, val := .func (.func 51) #[.pointer (some ⟨w.heap.size + 1, 0, none⟩)] #[], born := 5 }]) 6 = U9 at ⊢
  have MU9 := Lib.hid (MU8.out.putE hZ)
  have hb1_U9 := Lib.hid (box_putE hZ hb1_U8.out MU8.out.hm3)
  have hb2_U9 := Lib.hid (box_putE hZ hb2_U8.out MU8.out.hm3)
  clear hZ
  refine hK.out _ _ ⟨MU9.out.c2, MU9.out.c4⟩ (fun hHeld => ?_)
  clear hK K
  try simp only [Act.put, List.setIfInBounds_toArray, List.set_cons_zero, List.set_cons_succ]
  clear MU8 hb1_U8 hb2_U8
  refine wpAnyH_ready (rs := [41]) (by kernel_rfl) (by simp) ?_
  have ee : (Instr.mapEntry 73 (.map (some (w.heap.size + 1 + 1 + 1))) (.string ⟨#[114, 101, 109, 111, 118, 101]⟩)).run Tryz.prog U9 = .ok (.tuple #[.nilFunc, .int .i64 6]) (putMap U9 (w.heap.size + 1 + 1 + 1) (#[{ key := .string ⟨#[99, 111, 117, 110, 116]⟩, val := .func (.func 33) #[.pointer (some ⟨w.heap.size + 1, 0, none⟩)] #[], born := 0 }, { key := .string ⟨#[104, 97, 115]⟩, val := .func (.func 50) #[.pointer (some ⟨w.heap.size + 1, 0, none⟩)] #[], born := 1 }, { key := .string ⟨#[115, 105, 122, 101]⟩, val := .func (.func 33) #[.pointer (some ⟨w.heap.size + 1, 0, none⟩)] #[], born := 2 }, { key := .string ⟨#[115, 117, 109]⟩, val := .func (.func 35) #[.pointer (some ⟨w.heap.size + 1, 0, none⟩)] #[], born := 3 }, { key := .string ⟨#[102, 111, 114, 99, 101]⟩, val := .func (.func 97) #[] #[.pointer (some ⟨bx1, 0, none⟩)], born := 4 }, { key := .string ⟨#[118, 97, 108, 117, 101, 95, 111, 102]⟩, val := .func (.func 51) #[.pointer (some ⟨w.heap.size + 1, 0, none⟩)] #[], born := 5 }, { key := .string ⟨#[114, 101, 109, 111, 118, 101]⟩, val := .nilFunc, born := 6 }]) 7) := me_new _ _ _ _ _ MU9.out.hm3 (by kernel_rfl)
  refine AllReadyH.cons rfl (fun K hK => ?_) AllReadyH.nil
  go_simp
  clear ee
  generalize hZ : putMap U9 (w.heap.size + 1 + 1 + 1) (#[{ key := .string ⟨#[99, 111, 117, 110, 116]⟩, val := .func (.func 33) #[.pointer (some ⟨w.heap.size + 1, 0, none⟩)] #[], born := 0 }, { key := .string ⟨#[104, 97, 115]⟩, val := .func (.func 50) #[.pointer (some ⟨w.heap.size + 1, 0, none⟩)] #[], born := 1 }, { key := .string ⟨#[115, 105, 122, 101]⟩, val := .func (.func 33) #[.pointer (some ⟨w.heap.size + 1, 0, none⟩)] #[], born := 2 }, { key := .string ⟨#[115, 117, 109]⟩, val := .func (.func 35) #[.pointer (some ⟨w.heap.size + 1, 0, none⟩)] #[], born := 3 }, { key := .string ⟨#[102, 111, 114, 99, 101]⟩, val := .func (.func 97) #[] #[.pointer (some ⟨bx1, 0, none⟩)], born := 4 }, { key := .string ⟨#[118, 97, 108, 117, 101, 95, 111, 102]⟩, val := .func (.func 51) #[.pointer (some ⟨w.heap.size + 1, 0, none⟩)] #[], born := 5 }, { key := .string ⟨#[114, 101, 109, 111, 118, 101]⟩, val := .nilFunc, born := 6 }]) 7 = U10 at ⊢
  have MU10 := Lib.hid (MU9.out.putE hZ)
  have hb1_U10 := Lib.hid (box_putE hZ hb1_U9.out MU9.out.hm3)
  have hb2_U10 := Lib.hid (box_putE hZ hb2_U9.out MU9.out.hm3)
  clear hZ
  refine hK.out _ _ ⟨MU10.out.c2, MU10.out.c4⟩ (fun hHeld => ?_)
  clear hK K
  try simp only [Act.put, List.setIfInBounds_toArray, List.set_cons_zero, List.set_cons_succ]
  clear MU9 hb1_U9 hb2_U9
  refine' wpAnyH_take (i := 42) (oi := _) (v := _) ?hi34 (by kernel_rfl) (by kernel_rfl) (by kernel_rfl) ?hq34 (Or.inl ⟨?hw34, ?hy34⟩) (by assumption) ?rest34
  case hi34 => rfl
  case hq34 => exact fun _ _ _ h => h
  case hw34 => rfl
  case hy34 => intro w hSw; (try dsimp only at hSw); go_simp; (try with_reducible rfl)
  try simp only [Act.put, List.setIfInBounds_toArray, List.set_cons_zero, List.set_cons_succ]
  refine wpAnyH_ready (rs := [43]) (by kernel_rfl) (by simp) ?_
  have ee : (Instr.entryStore 73 (.map (some (w.heap.size + 1 + 1 + 1))) (.int .i64 6) (.func (.func 97) #[] #[.pointer (some ⟨bx2, 0, none⟩)])).run Tryz.prog U10 = .ok () (putMap U10 (w.heap.size + 1 + 1 + 1) (#[{ key := .string ⟨#[99, 111, 117, 110, 116]⟩, val := .func (.func 33) #[.pointer (some ⟨w.heap.size + 1, 0, none⟩)] #[], born := 0 }, { key := .string ⟨#[104, 97, 115]⟩, val := .func (.func 50) #[.pointer (some ⟨w.heap.size + 1, 0, none⟩)] #[], born := 1 }, { key := .string ⟨#[115, 105, 122, 101]⟩, val := .func (.func 33) #[.pointer (some ⟨w.heap.size + 1, 0, none⟩)] #[], born := 2 }, { key := .string ⟨#[115, 117, 109]⟩, val := .func (.func 35) #[.pointer (some ⟨w.heap.size + 1, 0, none⟩)] #[], born := 3 }, { key := .string ⟨#[102, 111, 114, 99, 101]⟩, val := .func (.func 97) #[] #[.pointer (some ⟨bx1, 0, none⟩)], born := 4 }, { key := .string ⟨#[118, 97, 108, 117, 101, 95, 111, 102]⟩, val := .func (.func 51) #[.pointer (some ⟨w.heap.size + 1, 0, none⟩)] #[], born := 5 }, { key := .string ⟨#[114, 101, 109, 111, 118, 101]⟩, val := .func (.func 97) #[] #[.pointer (some ⟨bx2, 0, none⟩)], born := 6 }]) 7) := st_at _ _ _ 6 _ 6 _ MU10.out.hm3 (by kernel_rfl)
  refine AllReadyH.cons rfl (fun K hK => ?_) AllReadyH.nil
  go_simp
  clear ee
  generalize hZ : putMap U10 (w.heap.size + 1 + 1 + 1) (#[{ key := .string ⟨#[99, 111, 117, 110, 116]⟩, val := .func (.func 33) #[.pointer (some ⟨w.heap.size + 1, 0, none⟩)] #[], born := 0 }, { key := .string ⟨#[104, 97, 115]⟩, val := .func (.func 50) #[.pointer (some ⟨w.heap.size + 1, 0, none⟩)] #[], born := 1 }, { key := .string ⟨#[115, 105, 122, 101]⟩, val := .func (.func 33) #[.pointer (some ⟨w.heap.size + 1, 0, none⟩)] #[], born := 2 }, { key := .string ⟨#[115, 117, 109]⟩, val := .func (.func 35) #[.pointer (some ⟨w.heap.size + 1, 0, none⟩)] #[], born := 3 }, { key := .string ⟨#[102, 111, 114, 99, 101]⟩, val := .func (.func 97) #[] #[.pointer (some ⟨bx1, 0, none⟩)], born := 4 }, { key := .string ⟨#[118, 97, 108, 117, 101, 95, 111, 102]⟩, val := .func (.func 51) #[.pointer (some ⟨w.heap.size + 1, 0, none⟩)] #[], born := 5 }, { key := .string ⟨#[114, 101, 109, 111, 118, 101]⟩, val := .func (.func 97) #[] #[.pointer (some ⟨bx2, 0, none⟩)], born := 6 }]) 7 = U11 at ⊢
  have MU11 := Lib.hid (MU10.out.putE hZ)
  have hb1_U11 := Lib.hid (box_putE hZ hb1_U10.out MU10.out.hm3)
  have hb2_U11 := Lib.hid (box_putE hZ hb2_U10.out MU10.out.hm3)
  clear hZ
  refine hK.out _ _ ⟨MU11.out.c2, MU11.out.c4⟩ (fun hHeld => ?_)
  clear hK K
  try simp only [Act.put, List.setIfInBounds_toArray, List.set_cons_zero, List.set_cons_succ]
  clear MU10 hb1_U10 hb2_U10
  refine wpAnyH_ready (rs := [44]) (by kernel_rfl) (by simp) ?_
  have ee : (Instr.mapEntry 73 (.map (some (w.heap.size + 1 + 1 + 1))) (.string ⟨#[99, 111, 117, 110, 116]⟩)).run Tryz.prog U11 = .ok (.tuple #[.func (.func 33) #[.pointer (some ⟨w.heap.size + 1, 0, none⟩)] #[], .int .i64 0]) (putMap U11 (w.heap.size + 1 + 1 + 1) (#[{ key := .string ⟨#[99, 111, 117, 110, 116]⟩, val := .func (.func 33) #[.pointer (some ⟨w.heap.size + 1, 0, none⟩)] #[], born := 0 }, { key := .string ⟨#[104, 97, 115]⟩, val := .func (.func 50) #[.pointer (some ⟨w.heap.size + 1, 0, none⟩)] #[], born := 1 }, { key := .string ⟨#[115, 105, 122, 101]⟩, val := .func (.func 33) #[.pointer (some ⟨w.heap.size + 1, 0, none⟩)] #[], born := 2 }, { key := .string ⟨#[115, 117, 109]⟩, val := .func (.func 35) #[.pointer (some ⟨w.heap.size + 1, 0, none⟩)] #[], born := 3 }, { key := .string ⟨#[102, 111, 114, 99, 101]⟩, val := .func (.func 97) #[] #[.pointer (some ⟨bx1, 0, none⟩)], born := 4 }, { key := .string ⟨#[118, 97, 108, 117, 101, 95, 111, 102]⟩, val := .func (.func 51) #[.pointer (some ⟨w.heap.size + 1, 0, none⟩)] #[], born := 5 }, { key := .string ⟨#[114, 101, 109, 111, 118, 101]⟩, val := .func (.func 97) #[] #[.pointer (some ⟨bx2, 0, none⟩)], born := 6 }]) 7) := me_old _ _ _ 0 _ _ _ MU11.out.hm3 (by kernel_rfl) 0 (by kernel_rfl) (by kernel_rfl)
  refine AllReadyH.cons rfl (fun K hK => ?_) AllReadyH.nil
  go_simp
  clear ee
  generalize hZ : putMap U11 (w.heap.size + 1 + 1 + 1) (#[{ key := .string ⟨#[99, 111, 117, 110, 116]⟩, val := .func (.func 33) #[.pointer (some ⟨w.heap.size + 1, 0, none⟩)] #[], born := 0 }, { key := .string ⟨#[104, 97, 115]⟩, val := .func (.func 50) #[.pointer (some ⟨w.heap.size + 1, 0, none⟩)] #[], born := 1 }, { key := .string ⟨#[115, 105, 122, 101]⟩, val := .func (.func 33) #[.pointer (some ⟨w.heap.size + 1, 0, none⟩)] #[], born := 2 }, { key := .string ⟨#[115, 117, 109]⟩, val := .func (.func 35) #[.pointer (some ⟨w.heap.size + 1, 0, none⟩)] #[], born := 3 }, { key := .string ⟨#[102, 111, 114, 99, 101]⟩, val := .func (.func 97) #[] #[.pointer (some ⟨bx1, 0, none⟩)], born := 4 }, { key := .string ⟨#[118, 97, 108, 117, 101, 95, 111, 102]⟩, val := .func (.func 51) #[.pointer (some ⟨w.heap.size + 1, 0, none⟩)] #[], born := 5 }, { key := .string ⟨#[114, 101, 109, 111, 118, 101]⟩, val := .func (.func 97) #[] #[.pointer (some ⟨bx2, 0, none⟩)], born := 6 }]) 7 = U12 at ⊢
  have MU12 := Lib.hid (MU11.out.putE hZ)
  have hb1_U12 := Lib.hid (box_putE hZ hb1_U11.out MU11.out.hm3)
  have hb2_U12 := Lib.hid (box_putE hZ hb2_U11.out MU11.out.hm3)
  clear hZ
  refine hK.out _ _ ⟨MU12.out.c2, MU12.out.c4⟩ (fun hHeld => ?_)
  clear hK K
  try simp only [Act.put, List.setIfInBounds_toArray, List.set_cons_zero, List.set_cons_succ]
  clear MU11 hb1_U11 hb2_U11
  refine' wpAnyH_take (i := 45) (oi := _) (v := _) ?hi35 (by kernel_rfl) (by kernel_rfl) (by kernel_rfl) ?hq35 (Or.inl ⟨?hw35, ?hy35⟩) (by assumption) ?rest35
  case hi35 => rfl
  case hq35 => exact fun _ _ _ h => h
  case hw35 => rfl
  case hy35 => intro w hSw; (try dsimp only at hSw); go_simp; (try with_reducible rfl)
  try simp only [Act.put, List.setIfInBounds_toArray, List.set_cons_zero, List.set_cons_succ]
  refine wpAnyH_ready (rs := [46]) (by kernel_rfl) (by simp) ?_
  have ee : (Instr.entryStore 73 (.map (some (w.heap.size + 1 + 1 + 1))) (.int .i64 0) (.func (.func 53) #[.pointer (some ⟨w.heap.size + 1, 0, none⟩)] #[])).run Tryz.prog U12 = .ok () (putMap U12 (w.heap.size + 1 + 1 + 1) (#[{ key := .string ⟨#[99, 111, 117, 110, 116]⟩, val := .func (.func 53) #[.pointer (some ⟨w.heap.size + 1, 0, none⟩)] #[], born := 0 }, { key := .string ⟨#[104, 97, 115]⟩, val := .func (.func 50) #[.pointer (some ⟨w.heap.size + 1, 0, none⟩)] #[], born := 1 }, { key := .string ⟨#[115, 105, 122, 101]⟩, val := .func (.func 33) #[.pointer (some ⟨w.heap.size + 1, 0, none⟩)] #[], born := 2 }, { key := .string ⟨#[115, 117, 109]⟩, val := .func (.func 35) #[.pointer (some ⟨w.heap.size + 1, 0, none⟩)] #[], born := 3 }, { key := .string ⟨#[102, 111, 114, 99, 101]⟩, val := .func (.func 97) #[] #[.pointer (some ⟨bx1, 0, none⟩)], born := 4 }, { key := .string ⟨#[118, 97, 108, 117, 101, 95, 111, 102]⟩, val := .func (.func 51) #[.pointer (some ⟨w.heap.size + 1, 0, none⟩)] #[], born := 5 }, { key := .string ⟨#[114, 101, 109, 111, 118, 101]⟩, val := .func (.func 97) #[] #[.pointer (some ⟨bx2, 0, none⟩)], born := 6 }]) 7) := st_at _ _ _ 0 _ 0 _ MU12.out.hm3 (by kernel_rfl)
  refine AllReadyH.cons rfl (fun K hK => ?_) AllReadyH.nil
  go_simp
  clear ee
  generalize hZ : putMap U12 (w.heap.size + 1 + 1 + 1) (#[{ key := .string ⟨#[99, 111, 117, 110, 116]⟩, val := .func (.func 53) #[.pointer (some ⟨w.heap.size + 1, 0, none⟩)] #[], born := 0 }, { key := .string ⟨#[104, 97, 115]⟩, val := .func (.func 50) #[.pointer (some ⟨w.heap.size + 1, 0, none⟩)] #[], born := 1 }, { key := .string ⟨#[115, 105, 122, 101]⟩, val := .func (.func 33) #[.pointer (some ⟨w.heap.size + 1, 0, none⟩)] #[], born := 2 }, { key := .string ⟨#[115, 117, 109]⟩, val := .func (.func 35) #[.pointer (some ⟨w.heap.size + 1, 0, none⟩)] #[], born := 3 }, { key := .string ⟨#[102, 111, 114, 99, 101]⟩, val := .func (.func 97) #[] #[.pointer (some ⟨bx1, 0, none⟩)], born := 4 }, { key := .string ⟨#[118, 97, 108, 117, 101, 95, 111, 102]⟩, val := .func (.func 51) #[.pointer (some ⟨w.heap.size + 1, 0, none⟩)] #[], born := 5 }, { key := .string ⟨#[114, 101, 109, 111, 118, 101]⟩, val := .func (.func 97) #[] #[.pointer (some ⟨bx2, 0, none⟩)], born := 6 }]) 7 = U13 at ⊢
  have MU13 := Lib.hid (MU12.out.putE hZ)
  have hb1_U13 := Lib.hid (box_putE hZ hb1_U12.out MU12.out.hm3)
  have hb2_U13 := Lib.hid (box_putE hZ hb2_U12.out MU12.out.hm3)
  clear hZ
  refine hK.out _ _ ⟨MU13.out.c2, MU13.out.c4⟩ (fun hHeld => ?_)
  clear hK K
  try simp only [Act.put, List.setIfInBounds_toArray, List.set_cons_zero, List.set_cons_succ]
  clear MU12 hb1_U12 hb2_U12
  refine wpAnyH_done (by kernel_rfl) ?_ _
  clear hHeld
  have mmU13 := MU13.out.c2
  go_wp2
  go_ret
  exact ⟨rfl, bx1, bx2, MU13.out, hb1_U13.out, hb2_U13.out⟩
end Go.Proofs.YtpnbhoeghncnnaaGreatDoor

/-
  A part of the proof of Rows.BaseModelsCardSaid (for every class and script BaseModels answers true, and its arguments read as they did; the listed library variables as the program text lays them): texts X7. By an AI agent.
-/
import Derived.Test.YtpnbhoeghncnnaaGreatDoorM18
import Derived.Deep.RegionHeld3
namespace Go.Proofs.YtpnbhoeghncnnaaGreatDoor
open Go.RowKit
set_option linter.unusedSimpArgs false
set_option maxRecDepth 20000 in
set_option maxHeartbeats 8000000 in
theorem modelOf_counter (w : World) :
    Calls Tryz.prog 15 #[.string ⟨#[67, 79, 85, 78, 84, 69, 82]⟩] w fun e w' => e = .returned (.pointer (some ⟨w.heap.size + 1, 0, none⟩)) ∧ ∃ bx1 bx2 : Nat, MS w (some (w.heap.size + 1 + 1 + 1)) (#[{ key := .string ⟨#[99, 111, 117, 110, 116]⟩, val := .func (.func 55) #[.pointer (some ⟨w.heap.size + 1, 0, none⟩)] #[], born := 0 }, { key := .string ⟨#[104, 97, 115]⟩, val := .func (.func 34) #[.pointer (some ⟨w.heap.size + 1, 0, none⟩)] #[], born := 1 }, { key := .string ⟨#[115, 105, 122, 101]⟩, val := .func (.func 33) #[.pointer (some ⟨w.heap.size + 1, 0, none⟩)] #[], born := 2 }, { key := .string ⟨#[115, 117, 109]⟩, val := .func (.func 35) #[.pointer (some ⟨w.heap.size + 1, 0, none⟩)] #[], born := 3 }, { key := .string ⟨#[117, 112]⟩, val := .func (.func 97) #[] #[.pointer (some ⟨bx1, 0, none⟩)], born := 4 }, { key := .string ⟨#[97, 100, 100]⟩, val := .func (.func 97) #[] #[.pointer (some ⟨bx2, 0, none⟩)], born := 5 }]) 6 w' ∧ w'.heap[bx1]? = some (.cells #[.func (.func 56) #[] #[.pointer (some ⟨w.heap.size + 1 + 1, 0, none⟩)]] 78 (0, 0)) ∧ w'.heap[bx2]? = some (.cells #[.func (.func 58) #[] #[.pointer (some ⟨w.heap.size + 1 + 1, 0, none⟩)]] 78 (0, 0)) := by
  obtain ⟨W1, W2, W3, W4, e1, e2, e3, e4, M1, M2, M3, M4⟩ := pre w
  have b0 := (ms00 w).c2
  have b1 := M1.c2
  have b2 := M2.c2
  have b3 := M3.c2
  have b4 := M4.c2
  have d4 := M4.c4
  have z4 := M4.z4
  have MU0 := Lib.hid (M4.set4 (some (w.heap.size + 1 + 1 + 1)))
  have mm := MU0.out.c2
  clear M1 M2 M3 M4
  have hmf : ∀ (fn : Fn) (first cap : Array Value) (w : World), (Instr.makeFunc fn first cap).run Tryz.prog w = .ok (.func fn first cap) w := fun _ _ _ _ => rfl
  have hmm := @run_makeMap Tryz.prog
  go_enter Tryz.func15, Tryz.ntmps15
  go_wp2
  generalize W4.setCell ⟨w.heap.size + 1, 4, none⟩ (.map (some (w.heap.size + 1 + 1 + 1))) = U0 at MU0 mm ⊢
  clear e1 e2 e3 e4 b0 b1 b2 b3 b4 d4 z4 hmm W1 W2 W3 W4
  refine wp_region_held_drew (S := fun w' => w'.cell? ⟨w.heap.size + 1 + 1, 0, none⟩ = some (.pointer (some ⟨w.heap.size + 1, 0, none⟩)) ∧ w'.cell? ⟨w.heap.size + 1, 4, none⟩ = some (.map (some (w.heap.size + 1 + 1 + 1)))) (by kernel_rfl) ⟨MU0.out.c2, MU0.out.c4⟩ (fun hHeld => ?_)
  have MU1 := Lib.hid (MU0.out.fr_of (Fr.drew _ _))
  generalize World.drew U0 = U1 at hHeld MU1 ⊢
  refine' wpAnyH_take (i := 0) (oi := _) (v := _) ?hi1 (by kernel_rfl) (by kernel_rfl) (by kernel_rfl) ?hq1 (Or.inl ⟨?hw1, ?hy1⟩) (by assumption) ?rest1
  case hi1 => rfl
  case hq1 => exact fun _ _ _ h => h
  case hw1 => rfl
  case hy1 => intro w hSw; (try dsimp only at hSw); go_simp; (try with_reducible rfl)
  try simp only [Act.put, List.setIfInBounds_toArray, List.set_cons_zero, List.set_cons_succ]
  refine' wpAnyH_take (i := 1) (oi := _) (v := _) ?hi2 (by kernel_rfl) (by kernel_rfl) (by kernel_rfl) ?hq2 (Or.inl ⟨?hw2, ?hy2⟩) (by assumption) ?rest2
  case hi2 => rfl
  case hq2 => exact fun _ _ _ h => h
  case hw2 => rfl
  case hy2 => intro w hSw; (try dsimp only at hSw); go_simp; (try with_reducible rfl)
  try simp only [Act.put, List.setIfInBounds_toArray, List.set_cons_zero, List.set_cons_succ]
  refine' wpAnyH_take (i := 2) (oi := _) (v := _) ?hi3 (by kernel_rfl) (by kernel_rfl) (by kernel_rfl) ?hq3 (Or.inl ⟨?hw3, ?hy3⟩) (by assumption) ?rest3
  case hi3 => rfl
  case hq3 => exact fun _ _ _ h => h
  case hw3 => rfl
  case hy3 => intro w hSw; (try dsimp only at hSw); go_simp; (try with_reducible rfl)
  try simp only [Act.put, List.setIfInBounds_toArray, List.set_cons_zero, List.set_cons_succ]
  refine' wpAnyH_take (i := 3) (oi := _) (v := _) ?hi4 (by kernel_rfl) (by kernel_rfl) (by kernel_rfl) ?hq4 (Or.inl ⟨?hw4, ?hy4⟩) (by assumption) ?rest4
  case hi4 => rfl
  case hq4 => exact fun _ _ _ h => h
  case hw4 => rfl
  case hy4 => intro w hSw; (try dsimp only at hSw); go_simp; (try with_reducible rfl)
  try simp only [Act.put, List.setIfInBounds_toArray, List.set_cons_zero, List.set_cons_succ]
  refine' wpAnyH_take (i := 4) (oi := _) (v := _) ?hi5 (by kernel_rfl) (by kernel_rfl) (by kernel_rfl) ?hq5 (Or.inl ⟨?hw5, ?hy5⟩) (by assumption) ?rest5
  case hi5 => rfl
  case hq5 => exact fun _ _ _ h => h
  case hw5 => rfl
  case hy5 => intro w hSw; (try dsimp only at hSw); go_simp; (try with_reducible rfl)
  try simp only [Act.put, List.setIfInBounds_toArray, List.set_cons_zero, List.set_cons_succ]
  refine' wpAnyH_take (i := 5) (oi := _) (v := _) ?hi6 (by kernel_rfl) (by kernel_rfl) (by kernel_rfl) ?hq6 (Or.inl ⟨?hw6, ?hy6⟩) (by assumption) ?rest6
  case hi6 => rfl
  case hq6 => exact fun _ _ _ h => h
  case hw6 => rfl
  case hy6 => intro w hSw; (try dsimp only at hSw); go_simp; (try with_reducible rfl)
  try simp only [Act.put, List.setIfInBounds_toArray, List.set_cons_zero, List.set_cons_succ]
  refine' wpAnyH_take (i := 6) (oi := _) (v := _) ?hi7 (by kernel_rfl) (by kernel_rfl) (by kernel_rfl) ?hq7 (Or.inl ⟨?hw7, ?hy7⟩) (by assumption) ?rest7
  case hi7 => rfl
  case hq7 => exact fun _ _ _ h => h
  case hw7 => rfl
  case hy7 => intro w hSw; (try dsimp only at hSw); go_simp; (try with_reducible rfl)
  try simp only [Act.put, List.setIfInBounds_toArray, List.set_cons_zero, List.set_cons_succ]
  refine' wpAnyH_take (i := 7) (oi := _) (v := _) ?hi8 (by kernel_rfl) (by kernel_rfl) (by kernel_rfl) ?hq8 (Or.inl ⟨?hw8, ?hy8⟩) (by assumption) ?rest8
  case hi8 => rfl
  case hq8 => exact fun _ _ _ h => h
  case hw8 => rfl
  case hy8 => intro w hSw; (try dsimp only at hSw); go_simp; (try with_reducible rfl)
  try simp only [Act.put, List.setIfInBounds_toArray, List.set_cons_zero, List.set_cons_succ]
  refine' wpAnyH_take (i := 8) (oi := _) (v := _) ?hi9 (by kernel_rfl) (by kernel_rfl) (by kernel_rfl) ?hq9 (Or.inl ⟨?hw9, ?hy9⟩) (by assumption) ?rest9
  case hi9 => rfl
  case hq9 => exact fun _ _ _ h => h
  case hw9 => rfl
  case hy9 => intro w hSw; (try dsimp only at hSw); go_simp; (try with_reducible rfl)
  try simp only [Act.put, List.setIfInBounds_toArray, List.set_cons_zero, List.set_cons_succ]
  refine' wpAnyH_take (i := 9) (oi := _) (v := _) ?hi10 (by kernel_rfl) (by kernel_rfl) (by kernel_rfl) ?hq10 (Or.inl ⟨?hw10, ?hy10⟩) (by assumption) ?rest10
  case hi10 => rfl
  case hq10 => exact fun _ _ _ h => h
  case hw10 => rfl
  case hy10 => intro w hSw; (try dsimp only at hSw); go_simp; (try with_reducible rfl)
  try simp only [Act.put, List.setIfInBounds_toArray, List.set_cons_zero, List.set_cons_succ]
  refine' wpAnyH_take (i := 10) (oi := _) (v := _) ?hi11 (by kernel_rfl) (by kernel_rfl) (by kernel_rfl) ?hq11 (Or.inl ⟨?hw11, ?hy11⟩) (by assumption) ?rest11
  case hi11 => rfl
  case hq11 => exact fun _ _ _ h => h
  case hw11 => rfl
  case hy11 => intro w hSw; (try dsimp only at hSw); go_simp; (try with_reducible rfl)
  try simp only [Act.put, List.setIfInBounds_toArray, List.set_cons_zero, List.set_cons_succ]
  refine' wpAnyH_take (i := 11) (oi := _) (v := _) ?hi12 (by kernel_rfl) (by kernel_rfl) (by kernel_rfl) ?hq12 (Or.inl ⟨?hw12, ?hy12⟩) (by assumption) ?rest12
  case hi12 => rfl
  case hq12 => exact fun _ _ _ h => h
  case hw12 => rfl
  case hy12 => intro w hSw; (try dsimp only at hSw); go_simp; (try with_reducible rfl)
  try simp only [Act.put, List.setIfInBounds_toArray, List.set_cons_zero, List.set_cons_succ]
  refine' wpAnyH_take (i := 12) (oi := _) (v := _) ?hi13 (by kernel_rfl) (by kernel_rfl) (by kernel_rfl) ?hq13 (Or.inl ⟨?hw13, ?hy13⟩) (by assumption) ?rest13
  case hi13 => rfl
  case hq13 => exact fun _ _ _ h => h
  case hw13 => rfl
  case hy13 => intro w hSw; (try dsimp only at hSw); go_simp; (try with_reducible rfl)
  try simp only [Act.put, List.setIfInBounds_toArray, List.set_cons_zero, List.set_cons_succ]
  refine' wpAnyH_take (i := 13) (oi := _) (v := _) ?hi14 (by kernel_rfl) (by kernel_rfl) (by kernel_rfl) ?hq14 (Or.inl ⟨?hw14, ?hy14⟩) (by assumption) ?rest14
  case hi14 => rfl
  case hq14 => exact fun _ _ _ h => h
  case hw14 => rfl
  case hy14 => intro w hSw; (try dsimp only at hSw); go_simp; (try with_reducible rfl)
  try simp only [Act.put, List.setIfInBounds_toArray, List.set_cons_zero, List.set_cons_succ]
  refine' wpAnyH_take (i := 14) (oi := _) (v := _) ?hi15 (by kernel_rfl) (by kernel_rfl) (by kernel_rfl) ?hq15 (Or.inl ⟨?hw15, ?hy15⟩) (by assumption) ?rest15
  case hi15 => rfl
  case hq15 => exact fun _ _ _ h => h
  case hw15 => rfl
  case hy15 => intro w hSw; (try dsimp only at hSw); go_simp; (try with_reducible rfl)
  try simp only [Act.put, List.setIfInBounds_toArray, List.set_cons_zero, List.set_cons_succ]
  refine' wpAnyH_take (i := 16) (oi := _) (v := _) ?hi16 (by kernel_rfl) (by kernel_rfl) (by kernel_rfl) ?hq16 (Or.inl ⟨?hw16, ?hy16⟩) (by assumption) ?rest16
  case hi16 => rfl
  case hq16 => exact fun _ _ _ h => h
  case hw16 => rfl
  case hy16 => intro w hSw; (try dsimp only at hSw); go_simp; (try with_reducible rfl)
  try simp only [Act.put, List.setIfInBounds_toArray, List.set_cons_zero, List.set_cons_succ]
  refine wpAnyH_ready (rs := [15]) (by kernel_rfl) (by simp) ?_
  refine AllReadyH.cons rfl (fun K hK => ?_) AllReadyH.nil
  go_simp
  go_at_call 36
  refine (quiet_any _ _ _ _).mono ?_
  rintro e w' ⟨rfl, rfl⟩
  have MU2 := Lib.hid (MU1.out.fr_of (Fr.alloc (fun _ => False) _ (.cells #[.func (.func 56) #[] #[.pointer (some ⟨w.heap.size + 1 + 1, 0, none⟩)]] 78)))
  have hb1_U2 := Lib.hid (heap_alloc_new U1 (.cells #[.func (.func 56) #[] #[.pointer (some ⟨w.heap.size + 1 + 1, 0, none⟩)]] 78))
  generalize U1.alloc (.cells #[.func (.func 56) #[] #[.pointer (some ⟨w.heap.size + 1 + 1, 0, none⟩)]] 78) = U2 at MU2 hb1_U2 ⊢
  generalize U1.heap.size = bx1 at hb1_U2 ⊢
  refine hK.out _ _ ⟨MU2.out.c2, MU2.out.c4⟩ (fun hHeld => ?_)
  clear hK K
  try simp only [Act.put, List.setIfInBounds_toArray, List.set_cons_zero, List.set_cons_succ]
  clear MU1
  refine wpAnyH_ready (rs := [17]) (by kernel_rfl) (by simp) ?_
  refine AllReadyH.cons rfl (fun K hK => ?_) AllReadyH.nil
  go_simp
  go_at_call 36
  refine (quiet_any _ _ _ _).mono ?_
  rintro e w' ⟨rfl, rfl⟩
  have MU3 := Lib.hid (MU2.out.fr_of (Fr.alloc (fun _ => False) _ (.cells #[.func (.func 58) #[] #[.pointer (some ⟨w.heap.size + 1 + 1, 0, none⟩)]] 78)))
  have hb2_U3 := Lib.hid (heap_alloc_new U2 (.cells #[.func (.func 58) #[] #[.pointer (some ⟨w.heap.size + 1 + 1, 0, none⟩)]] 78))
  have hb1_U3 := Lib.hid ((Fr.alloc (fun _ => False) U2 (.cells #[.func (.func 58) #[] #[.pointer (some ⟨w.heap.size + 1 + 1, 0, none⟩)]] 78)).heap hb1_U2.out id)
  generalize U2.alloc (.cells #[.func (.func 58) #[] #[.pointer (some ⟨w.heap.size + 1 + 1, 0, none⟩)]] 78) = U3 at MU3 hb2_U3 hb1_U3 ⊢
  generalize U2.heap.size = bx2 at hb2_U3 ⊢
  refine hK.out _ _ ⟨MU3.out.c2, MU3.out.c4⟩ (fun hHeld => ?_)
  clear hK K
  try simp only [Act.put, List.setIfInBounds_toArray, List.set_cons_zero, List.set_cons_succ]
  clear MU2 hb1_U2
  refine wpAnyH_ready (rs := [18]) (by kernel_rfl) (by simp) ?_
  have ee : (Instr.mapEntry 73 (.map (some (w.heap.size + 1 + 1 + 1))) (.string ⟨#[99, 111, 117, 110, 116]⟩)).run Tryz.prog U3 = .ok (.tuple #[.func (.func 33) #[.pointer (some ⟨w.heap.size + 1, 0, none⟩)] #[], .int .i64 0]) (putMap U3 (w.heap.size + 1 + 1 + 1) (#[{ key := .string ⟨#[99, 111, 117, 110, 116]⟩, val := .func (.func 33) #[.pointer (some ⟨w.heap.size + 1, 0, none⟩)] #[], born := 0 }, { key := .string ⟨#[104, 97, 115]⟩, val := .func (.func 34) #[.pointer (some ⟨w.heap.size + 1, 0, none⟩)] #[], born := 1 }, { key := .string ⟨#[115, 105, 122, 101]⟩, val := .func (.func 33) #[.pointer (some ⟨w.heap.size + 1, 0, none⟩)] #[], born := 2 }, { key := .string ⟨#[115, 117, 109]⟩, val := .func (.func 35) #[.pointer (some ⟨w.heap.size + 1, 0, none⟩)] #[], born := 3 }]) 4) := me_old _ _ _ 0 _ _ _ MU3.out.hm3 (by kernel_rfl) 0 (by kernel_rfl) (by kernel_rfl)
  refine AllReadyH.cons rfl (fun K hK => ?_) AllReadyH.nil
  go_simp
  clear ee
  generalize hZ : putMap U3 (w.heap.size + 1 + 1 + 1) (#[{ key := .string ⟨#[99, 111, 117, 110, 116]⟩, val := .func (.func 33) #[.pointer (some ⟨w.heap.size + 1, 0, none⟩)] #[], born := 0 }, { key := .string ⟨#[104, 97, 115]⟩, val := .func (.func 34) #[.pointer (some ⟨w.heap.size + 1, 0, none⟩)] #[], born := 1 }, { key := .string ⟨#[115, 105, 122, 101]⟩, val := .func (.func 33) #[.pointer (some ⟨w.heap.size + 1, 0, none⟩)] #[], born := 2 }, { key := .string ⟨#[115, 117, 109]⟩, val := .func (.func 35) #[.pointer (some ⟨w.heap.size + 1, 0, none⟩)] #[], born := 3 }]) 4 = U4 at ⊢
  have MU4 := Lib.hid (MU3.out.putE hZ)
  have hb1_U4 := Lib.hid (box_putE hZ hb1_U3.out MU3.out.hm3)
  have hb2_U4 := Lib.hid (box_putE hZ hb2_U3.out MU3.out.hm3)
  clear hZ
  refine hK.out _ _ ⟨MU4.out.c2, MU4.out.c4⟩ (fun hHeld => ?_)
  clear hK K
  try simp only [Act.put, List.setIfInBounds_toArray, List.set_cons_zero, List.set_cons_succ]
  clear MU3 hb1_U3 hb2_U3
  refine' wpAnyH_take (i := 19) (oi := _) (v := _) ?hi17 (by kernel_rfl) (by kernel_rfl) (by kernel_rfl) ?hq17 (Or.inl ⟨?hw17, ?hy17⟩) (by assumption) ?rest17
  case hi17 => rfl
  case hq17 => exact fun _ _ _ h => h
  case hw17 => rfl
  case hy17 => intro w hSw; (try dsimp only at hSw); go_simp; (try with_reducible rfl)
  try simp only [Act.put, List.setIfInBounds_toArray, List.set_cons_zero, List.set_cons_succ]
  refine wpAnyH_ready (rs := [20]) (by kernel_rfl) (by simp) ?_
  have ee : (Instr.entryStore 73 (.map (some (w.heap.size + 1 + 1 + 1))) (.int .i64 0) (.func (.func 55) #[.pointer (some ⟨w.heap.size + 1, 0, none⟩)] #[])).run Tryz.prog U4 = .ok () (putMap U4 (w.heap.size + 1 + 1 + 1) (#[{ key := .string ⟨#[99, 111, 117, 110, 116]⟩, val := .func (.func 55) #[.pointer (some ⟨w.heap.size + 1, 0, none⟩)] #[], born := 0 }, { key := .string ⟨#[104, 97, 115]⟩, val := .func (.func 34) #[.pointer (some ⟨w.heap.size + 1, 0, none⟩)] #[], born := 1 }, { key := .string ⟨#[115, 105, 122, 101]⟩, val := .func (.func 33) #[.pointer (some ⟨w.heap.size + 1, 0, none⟩)] #[], born := 2 }, { key := .string ⟨#[115, 117, 109]⟩, val := .func (.func 35) #[.pointer (some ⟨w.heap.size + 1, 0, none⟩)] #[], born := 3 }]) 4) := st_at _ _ _ 0 _ 0 _ MU4.out.hm3 (by kernel_rfl)
  refine AllReadyH.cons rfl (fun K hK => ?_) AllReadyH.nil
  go_simp
  clear ee
  generalize hZ : putMap U4 (w.heap.size + 1 + 1 + 1) (#[{ key := .string ⟨#[99, 111, 117, 110, 116]⟩, val := .func (.func 55) #[.pointer (some ⟨w.heap.size + 1, 0, none⟩)] #[], born := 0 }, { key := .string ⟨#[104, 97, 115]⟩, val := .func (.func 34) #[.pointer (some ⟨w.heap.size + 1, 0, none⟩)] #[], born := 1 }, { key := .string ⟨#[115, 105, 122, 101]⟩, val := .func (.func 33) #[.pointer (some ⟨w.heap.size + 1, 0, none⟩)] #[], born := 2 }, { key := .string ⟨#[115, 117, 109]⟩, val := .func (.func 35) #[.pointer (some ⟨w.heap.size + 1, 0, none⟩)] #[], born := 3 }]) 4 = U5 at ⊢
  have MU5 := Lib.hid (MU4.out.putE hZ)
  have hb1_U5 := Lib.hid (box_putE hZ hb1_U4.out MU4.out.hm3)
  have hb2_U5 := Lib.hid (box_putE hZ hb2_U4.out MU4.out.hm3)
  clear hZ
  refine hK.out _ _ ⟨MU5.out.c2, MU5.out.c4⟩ (fun hHeld => ?_)
  clear hK K
  try simp only [Act.put, List.setIfInBounds_toArray, List.set_cons_zero, List.set_cons_succ]
  clear MU4 hb1_U4 hb2_U4
  refine wpAnyH_ready (rs := [21]) (by kernel_rfl) (by simp) ?_
  have ee : (Instr.mapEntry 73 (.map (some (w.heap.size + 1 + 1 + 1))) (.string ⟨#[117, 112]⟩)).run Tryz.prog U5 = .ok (.tuple #[.nilFunc, .int .i64 4]) (putMap U5 (w.heap.size + 1 + 1 + 1) (#[{ key := .string ⟨#[99, 111, 117, 110, 116]⟩, val := .func (.func 55) #[.pointer (some ⟨w.heap.size + 1, 0, none⟩)] #[], born := 0 }, { key := .string ⟨#[104, 97, 115]⟩, val := .func (.func 34) #[.pointer (some ⟨w.heap.size + 1, 0, none⟩)] #[], born := 1 }, { key := .string ⟨#[115, 105, 122, 101]⟩, val := .func (.func 33) #[.pointer (some ⟨w.heap.size + 1, 0, none⟩)] #[], born := 2 }, { key := .string ⟨#[115, 117, 109]⟩, val := .func (.func 35) #[.pointer (some ⟨w.heap.size + 1, 0, none⟩)] #[], born := 3 }, { key := .string ⟨#[117, 112]⟩, val := .nilFunc, born := 4 }]) 5) := me_new _ _ _ _ _ MU5.out.hm3 (by kernel_rfl)
  refine AllReadyH.cons rfl (fun K hK => ?_) AllReadyH.nil
  go_simp
  clear ee
  generalize hZ : putMap U5 (w.heap.size + 1 + 1 + 1) (#[{ key := .string ⟨#[99, 111, 117, 110, 116]⟩, val := .func (.func 55) #[.pointer (some ⟨w.heap.size + 1, 0, none⟩)] #[], born := 0 }, { key := .string ⟨#[104, 97, 115]⟩, val := .func (.func 34) #[.pointer (some ⟨w.heap.size + 1, 0, none⟩)] #[], born := 1 }, { key := .string ⟨#[115, 105, 122, 101]⟩, val := .func (.func 33) #[.pointer (some ⟨w.heap.size + 1, 0, none⟩)] #[], born := 2 }, { key := .string ⟨#[115, 117, 109]⟩, val := .func (.func 35) #[.pointer (some ⟨w.heap.size + 1, 0, none⟩)] #[], born := 3 }, { key := .string ⟨#[117, 112]⟩, val := .nilFunc, born := 4 }]) 5 = U6 at ⊢
  have MU6 := Lib.hid (MU5.out.putE hZ)
  have hb1_U6 := Lib.hid (box_putE hZ hb1_U5.out MU5.out.hm3)
  have hb2_U6 := Lib.hid (box_putE hZ hb2_U5.out MU5.out.hm3)
  clear hZ
  refine hK.out _ _ ⟨MU6.out.c2, MU6.out.c4⟩ (fun hHeld => ?_)
  clear hK K
  try simp only [Act.put, List.setIfInBounds_toArray, List.set_cons_zero, List.set_cons_succ]
  clear MU5 hb1_U5 hb2_U5
  refine' wpAnyH_take (i := 22) (oi := _) (v := _) ?hi18 (by kernel_rfl) (by kernel_rfl) (by kernel_rfl) ?hq18 (Or.inl ⟨?hw18, ?hy18⟩) (by assumption) ?rest18
  case hi18 => rfl
  case hq18 => exact fun _ _ _ h => h
  case hw18 => rfl
  case hy18 => intro w hSw; (try dsimp only at hSw); go_simp; (try with_reducible rfl)
  try simp only [Act.put, List.setIfInBounds_toArray, List.set_cons_zero, List.set_cons_succ]
  refine wpAnyH_ready (rs := [23]) (by kernel_rfl) (by simp) ?_
  have ee : (Instr.entryStore 73 (.map (some (w.heap.size + 1 + 1 + 1))) (.int .i64 4) (.func (.func 97) #[] #[.pointer (some ⟨bx1, 0, none⟩)])).run Tryz.prog U6 = .ok () (putMap U6 (w.heap.size + 1 + 1 + 1) (#[{ key := .string ⟨#[99, 111, 117, 110, 116]⟩, val := .func (.func 55) #[.pointer (some ⟨w.heap.size + 1, 0, none⟩)] #[], born := 0 }, { key := .string ⟨#[104, 97, 115]⟩, val := .func (.func 34) #[.pointer (some ⟨w.heap.size + 1, 0, none⟩)] #[], born := 1 }, { key := .string ⟨#[115, 105, 122, 101]⟩, val := .func (.func 33) #[.pointer (some ⟨w.heap.size + 1, 0, none⟩)] #[], born := 2 }, { key := .string ⟨#[115, 117, 109]⟩, val := .func (.func 35) #[.pointer (some ⟨w.heap.size + 1, 0, none⟩)] #[], born := 3 }, { key := .string ⟨#[117, 112]⟩, val := .func (.func 97) #[] #[.pointer (some ⟨bx1, 0, none⟩)], born := 4 }]) 5) := st_at _ _ _ 4 _ 4 _ MU6.out.hm3 (by kernel_rfl)
  refine AllReadyH.cons rfl (fun K hK => ?_) AllReadyH.nil
  go_simp
  clear ee
  generalize hZ : putMap U6 (w.heap.size + 1 + 1 + 1) (#[{ key := .string ⟨#[99, 111, 117, 110, 116]⟩, val := .func (.func 55) #[.pointer (some ⟨w.heap.size + 1, 0, none⟩)] #[], born := 0 }, { key := .string ⟨#[104, 97, 115]⟩, val := .func (.func 34) #[.pointer (some ⟨w.heap.size + 1, 0, none⟩)] #[], born := 1 }, { key := .string ⟨#[115, 105, 122, 101]⟩, val := .func (.func 33) #[.pointer (some ⟨w.heap.size + 1, 0, none⟩)] #[], born := 2 }, { key := .string ⟨#[115, 117, 109]⟩, val := .func (.func 35) #[.pointer (some ⟨w.heap.size + 1, 0, none⟩)] #[], born := 3 }, { key := .string ⟨#[117, 112]⟩, val := .func (.func 97) #[] #[.pointer (some ⟨bx1, 0, none⟩)], born := 4 }]) 5 = U7 at ⊢
  have MU7 := Lib.hid (MU6.out.putE hZ)
  have hb1_U7 := Lib.hid (box_putE hZ hb1_U6.out MU6.out.hm3)
  have hb2_U7 := Lib.hid (box_putE hZ hb2_U6.out MU6.out.hm3)
  clear hZ
  refine hK.out _ _ ⟨MU7.out.c2, MU7.out.c4⟩ (fun hHeld => ?_)
  clear hK K
  try simp only [Act.put, List.setIfInBounds_toArray, List.set_cons_zero, List.set_cons_succ]
  clear MU6 hb1_U6 hb2_U6
  refine wpAnyH_ready (rs := [24]) (by kernel_rfl) (by simp) ?_
  have ee : (Instr.mapEntry 73 (.map (some (w.heap.size + 1 + 1 + 1))) (.string ⟨#[97, 100, 100]⟩)).run Tryz.prog U7 = .ok (.tuple #[.nilFunc, .int .i64 5]) (putMap U7 (w.heap.size + 1 + 1 + 1) (#[{ key := .string ⟨#[99, 111, 117, 110, 116]⟩, val := .func (.func 55) #[.pointer (some ⟨w.heap.size + 1, 0, none⟩)] #[], born := 0 }, { key := .string ⟨#[104, 97, 115]⟩, val := .func (.func 34) #[.pointer (some ⟨w.heap.size + 1, 0, none⟩)] #[], born := 1 }, { key := .string ⟨#[115, 105, 122, 101]⟩, val := .func (.func 33) #[.pointer (some ⟨w.heap.size + 1, 0, none⟩)] #[], born := 2 }, { key := .string ⟨#[115, 117, 109]⟩, val := .func (.func 35) #[.pointer (some ⟨w.heap.size + 1, 0, none⟩)] #[], born := 3 }, { key := .string ⟨#[117, 112]⟩, val := .func (.func 97) #[] #[.pointer (some ⟨bx1, 0, none⟩)], born := 4 }, { key := .string ⟨#[97, 100, 100]⟩, val := .nilFunc, born := 5 }]) 6) := me_new _ _ _ _ _ MU7.out.hm3 (by kernel_rfl)
  refine AllReadyH.cons rfl (fun K hK => ?_) AllReadyH.nil
  go_simp
  clear ee
  generalize hZ : putMap U7 (w.heap.size + 1 + 1 + 1) (#[{ key := .string ⟨#[99, 111, 117, 110, 116]⟩, val := .func (.func 55) #[.pointer (some ⟨w.heap.size + 1, 0, none⟩)] #[], born := 0 }, { key := .string ⟨#[104, 97, 115]⟩, val := .func (.func 34) #[.pointer (some ⟨w.heap.size + 1, 0, none⟩)] #[], born := 1 }, { key := .string ⟨#[115, 105, 122, 101]⟩, val := .func (.func 33) #[.pointer (some ⟨w.heap.size + 1, 0, none⟩)] #[], born := 2 }, { key := .string ⟨#[115, 117, 109]⟩, val := .func (.func 35) #[.pointer (some ⟨w.heap.size + 1, 0, none⟩)] #[], born := 3 }, { key := .string ⟨#[117, 112]⟩, val := .func (.func 97) #[] #[.pointer (some ⟨bx1, 0, none⟩)], born := 4 }, { key := .string ⟨#[97, 100, 100]⟩, val := .nilFunc, born := 5 }]) 6 = U8 at ⊢
  have MU8 := Lib.hid (MU7.out.putE hZ)
  have hb1_U8 := Lib.hid (box_putE hZ hb1_U7.out MU7.out.hm3)
  have hb2_U8 := Lib.hid (box_putE hZ hb2_U7.out MU7.out.hm3)
  clear hZ
  refine hK.out _ _ ⟨MU8.out.c2, MU8.out.c4⟩ (fun hHeld => ?_)
  clear hK K
  try simp only [Act.put, List.setIfInBounds_toArray, List.set_cons_zero, List.set_cons_succ]
  clear MU7 hb1_U7 hb2_U7
  refine' wpAnyH_take (i := 25) (oi := _) (v := _) ?hi19 (by kernel_rfl) (by kernel_rfl) (by kernel_rfl) ?hq19 (Or.inl ⟨?hw19, ?hy19⟩) (by assumption) ?rest19
  case hi19 => rfl
  case hq19 => exact fun _ _ _ h => h
  case hw19 => rfl
  case hy19 => intro w hSw; (try dsimp only at hSw); go_simp; (try with_reducible rfl)
  try simp only [Act.put, List.setIfInBounds_toArray, List.set_cons_zero, List.set_cons_succ]
  refine wpAnyH_ready (rs := [26]) (by kernel_rfl) (by simp) ?_
  have ee : (Instr.entryStore 73 (.map (some (w.heap.size + 1 + 1 + 1))) (.int .i64 5) (.func (.func 97) #[] #[.pointer (some ⟨bx2, 0, none⟩)])).run Tryz.prog U8 = .ok () (putMap U8 (w.heap.size + 1 + 1 + 1) (#[{ key := .string ⟨#[99, 111, 117, 110, 116]⟩, val := .func (.func 55) #[.pointer (some ⟨w.heap.size + 1, 0, none⟩)] #[], born := 0 }, { key := .string ⟨#[104, 97, 115]⟩, val := .func (.func 34) #[.pointer (some ⟨w.heap.size + 1, 0, none⟩)] #[], born := 1 }, { key := .string ⟨#[115, 105, 122, 101]⟩, val := .func (.func 33) #[.pointer (some ⟨w.heap.size + 1, 0, none⟩)] #[], born := 2 }, { key := .string ⟨#[115, 117, 109]⟩, val := .func (.func 35) #[.pointer (some ⟨w.heap.size + 1, 0, none⟩)] #[], born := 3 }, { key := .string ⟨#[117, 112]⟩, val := .func (.func 97) #[] #[.pointer (some ⟨bx1, 0, none⟩)], born := 4 }, { key := .string ⟨#[97, 100, 100]⟩, val := .func (.func 97) #[] #[.pointer (some ⟨bx2, 0, none⟩)], born := 5 }]) 6) := st_at _ _ _ 5 _ 5 _ MU8.out.hm3 (by kernel_rfl)
  refine AllReadyH.cons rfl (fun K hK => ?_) AllReadyH.nil
  go_simp
  clear ee
  generalize hZ : putMap U8 (w.heap.size + 1 + 1 + 1) (#[{ key := .string ⟨#[99, 111, 117, 110, 116]⟩, val := .func (.func 55) #[.pointer (some ⟨w.heap.size + 1, 0, none⟩)] #[], born := 0 }, { key := .string ⟨#[104, 97, 115]⟩, val := .func (.func 34) #[.pointer (some ⟨w.heap.size + 1, 0, none⟩)] #[], born := 1 }, { key := .string ⟨#[115, 105, 122, 101]⟩, val := .func (.func 33) #[.pointer (some ⟨w.heap.size + 1, 0, none⟩)] #[], born := 2 }, { key := .string ⟨#[115, 117, 109]⟩, val := .func (.func 35) #[.pointer (some ⟨w.heap.size + 1, 0, none⟩)] #[], born := 3 }, { key := .string ⟨#[117, 112]⟩, val := .func (.func 97) #[] #[.pointer (some ⟨bx1, 0, none⟩)], born := 4 }, { key := .string ⟨#[97, 100, 100]⟩, val := .func (.func 97) #[] #[.pointer (some ⟨bx2, 0, none⟩)], born := 5 }]) 6 = U9 at ⊢
  have MU9 := Lib.hid (MU8.out.putE hZ)
  have hb1_U9 := Lib.hid (box_putE hZ hb1_U8.out MU8.out.hm3)
  have hb2_U9 := Lib.hid (box_putE hZ hb2_U8.out MU8.out.hm3)
  clear hZ
  refine hK.out _ _ ⟨MU9.out.c2, MU9.out.c4⟩ (fun hHeld => ?_)
  clear hK K
  try simp only [Act.put, List.setIfInBounds_toArray, List.set_cons_zero, List.set_cons_succ]
  clear MU8 hb1_U8 hb2_U8
  refine wpAnyH_done (by kernel_rfl) ?_ _
  clear hHeld
  have mmU9 := MU9.out.c2
  go_wp2
  go_ret
  exact ⟨rfl, bx1, bx2, MU9.out, hb1_U9.out, hb2_U9.out⟩
end Go.Proofs.YtpnbhoeghncnnaaGreatDoor

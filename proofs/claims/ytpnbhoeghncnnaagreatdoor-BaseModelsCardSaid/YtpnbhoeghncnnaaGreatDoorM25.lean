/-
  A part of the proof of Rows.BaseModelsCardSaid (for every class and script BaseModels answers true, and its arguments read as they did; the listed library variables as the program text lays them): texts X9, PE, PF. By an AI agent.
-/
import Derived.Test.YtpnbhoeghncnnaaGreatDoorM18
import Derived.Deep.RegionHeld3
import Derived.Test.YtpnbhoeghncnnaaGreatDoorM10
import Derived.Test.YtpnbhoeghncnnaaGreatDoorM19
import Derived.Test.YtpnbhoeghncnnaaGreatDoorM20
import Derived.Test.YtpnbhoeghncnnaaGreatDoorM21
import Derived.Test.YtpnbhoeghncnnaaGreatDoorM22
import Derived.Test.YtpnbhoeghncnnaaGreatDoorM23
import Derived.Test.YtpnbhoeghncnnaaGreatDoorM24
import Derived.Outline
import Derived.Deep.QuietTactic
import Derived.BigQuiet
import Derived.Test.YtpnbhoeghncnnaaGreatDoorM11
import Derived.Test.YtpnbhoeghncnnaaGreatDoorM12
set_option linter.all false
set_option linter.unusedVariables false
set_option linter.unusedSimpArgs false
namespace Go.Proofs.YtpnbhoeghncnnaaGreatDoor
open Go.RowKit
set_option linter.unusedSimpArgs false
set_option maxRecDepth 20000 in
set_option maxHeartbeats 8000000 in
theorem modelOf_arith (w : World) :
    Calls Tryz.prog 15 #[.string ⟨#[65, 82, 73, 84, 72]⟩] w fun e w' => e = .returned (.pointer (some ⟨w.heap.size + 1, 0, none⟩)) ∧ MS w (some (w.heap.size + 1 + 1 + 1)) (#[{ key := .string ⟨#[99, 111, 117, 110, 116]⟩, val := .func (.func 33) #[.pointer (some ⟨w.heap.size + 1, 0, none⟩)] #[], born := 0 }, { key := .string ⟨#[104, 97, 115]⟩, val := .func (.func 34) #[.pointer (some ⟨w.heap.size + 1, 0, none⟩)] #[], born := 1 }, { key := .string ⟨#[115, 105, 122, 101]⟩, val := .func (.func 33) #[.pointer (some ⟨w.heap.size + 1, 0, none⟩)] #[], born := 2 }, { key := .string ⟨#[115, 117, 109]⟩, val := .func (.func 35) #[.pointer (some ⟨w.heap.size + 1, 0, none⟩)] #[], born := 3 }, { key := .string ⟨#[103, 99, 100]⟩, val := .func (.func 65) #[] #[], born := 4 }, { key := .string ⟨#[112, 111, 119, 101, 114]⟩, val := .func (.func 66) #[] #[], born := 5 }, { key := .string ⟨#[102, 97, 99, 116]⟩, val := .func (.func 67) #[] #[], born := 6 }, { key := .string ⟨#[116, 114, 105, 101, 115]⟩, val := .func (.func 68) #[] #[], born := 7 }]) 8 w' := by
  obtain ⟨W1, W2, W3, W4, e1, e2, e3, e4, M1, M2, M3, M4⟩ := pre w
  have b0 := (ms00 w).c2
  have b1 := M1.c2
  have b2 := M2.c2
  have b3 := M3.c2
  have b4 := M4.c2
  have d4 := M4.c4
  have z4 := M4.z4
  have MU0 := Lib.hid (M4.set4 (some (w.heap.size + 1 + 1 + 1)))
  have mm := MU0.out.c2
  clear M1 M2 M3 M4
  have hmf : ∀ (fn : Fn) (first cap : Array Value) (w : World), (Instr.makeFunc fn first cap).run Tryz.prog w = .ok (.func fn first cap) w := fun _ _ _ _ => rfl
  have hmm := @run_makeMap Tryz.prog
  go_enter Tryz.func15, Tryz.ntmps15
  go_wp2
  generalize W4.setCell ⟨w.heap.size + 1, 4, none⟩ (.map (some (w.heap.size + 1 + 1 + 1))) = U0 at MU0 mm ⊢
  clear e1 e2 e3 e4 b0 b1 b2 b3 b4 d4 z4 hmm W1 W2 W3 W4
  refine wp_region_held_drew (S := fun w' => w'.cell? ⟨w.heap.size + 1 + 1, 0, none⟩ = some (.pointer (some ⟨w.heap.size + 1, 0, none⟩)) ∧ w'.cell? ⟨w.heap.size + 1, 4, none⟩ = some (.map (some (w.heap.size + 1 + 1 + 1)))) (by kernel_rfl) ⟨MU0.out.c2, MU0.out.c4⟩ (fun hHeld => ?_)
  have MU1 := Lib.hid (MU0.out.fr_of (Fr.drew _ _))
  generalize World.drew U0 = U1 at hHeld MU1 ⊢
  refine' wpAnyH_take (i := 0) (oi := _) (v := _) ?hi1 (by kernel_rfl) (by kernel_rfl) (by kernel_rfl) ?hq1 (Or.inl ⟨?hw1, ?hy1⟩) (by assumption) ?rest1
  case hi1 => rfl
  case hq1 => exact fun _ _ _ h => h
  case hw1 => rfl
  case hy1 => intro w hSw; (try dsimp only at hSw); go_simp; (try with_reducible rfl)
  try simp only [Act.put, List.setIfInBounds_toArray, List.set_cons_zero, List.set_cons_succ]
  refine' wpAnyH_take (i := 1) (oi := _) (v := _) ?hi2 (by kernel_rfl) (by kernel_rfl) (by kernel_rfl) ?hq2 (Or.inl ⟨?hw2, ?hy2⟩) (by assumption) ?rest2
  case hi2 => rfl
  case hq2 => exact fun _ _ _ h => h
  case hw2 => rfl
  case hy2 => intro w hSw; (try dsimp only at hSw); go_simp; (try with_reducible rfl)
  try simp only [Act.put, List.setIfInBounds_toArray, List.set_cons_zero, List.set_cons_succ]
  refine' wpAnyH_take (i := 2) (oi := _) (v := _) ?hi3 (by kernel_rfl) (by kernel_rfl) (by kernel_rfl) ?hq3 (Or.inl ⟨?hw3, ?hy3⟩) (by assumption) ?rest3
  case hi3 => rfl
  case hq3 => exact fun _ _ _ h => h
  case hw3 => rfl
  case hy3 => intro w hSw; (try dsimp only at hSw); go_simp; (try with_reducible rfl)
  try simp only [Act.put, List.setIfInBounds_toArray, List.set_cons_zero, List.set_cons_succ]
  refine' wpAnyH_take (i := 3) (oi := _) (v := _) ?hi4 (by kernel_rfl) (by kernel_rfl) (by kernel_rfl) ?hq4 (Or.inl ⟨?hw4, ?hy4⟩) (by assumption) ?rest4
  case hi4 => rfl
  case hq4 => exact fun _ _ _ h => h
  case hw4 => rfl
  case hy4 => intro w hSw; (try dsimp only at hSw); go_simp; (try with_reducible rfl)
  try simp only [Act.put, List.setIfInBounds_toArray, List.set_cons_zero, List.set_cons_succ]
  refine' wpAnyH_take (i := 4) (oi := _) (v := _) ?hi5 (by kernel_rfl) (by kernel_rfl) (by kernel_rfl) ?hq5 (Or.inl ⟨?hw5, ?hy5⟩) (by assumption) ?rest5
  case hi5 => rfl
  case hq5 => exact fun _ _ _ h => h
  case hw5 => rfl
  case hy5 => intro w hSw; (try dsimp only at hSw); go_simp; (try with_reducible rfl)
  try simp only [Act.put, List.setIfInBounds_toArray, List.set_cons_zero, List.set_cons_succ]
  refine' wpAnyH_take (i := 5) (oi := _) (v := _) ?hi6 (by kernel_rfl) (by kernel_rfl) (by kernel_rfl) ?hq6 (Or.inl ⟨?hw6, ?hy6⟩) (by assumption) ?rest6
  case hi6 => rfl
  case hq6 => exact fun _ _ _ h => h
  case hw6 => rfl
  case hy6 => intro w hSw; (try dsimp only at hSw); go_simp; (try with_reducible rfl)
  try simp only [Act.put, List.setIfInBounds_toArray, List.set_cons_zero, List.set_cons_succ]
  refine' wpAnyH_take (i := 6) (oi := _) (v := _) ?hi7 (by kernel_rfl) (by kernel_rfl) (by kernel_rfl) ?hq7 (Or.inl ⟨?hw7, ?hy7⟩) (by assumption) ?rest7
  case hi7 => rfl
  case hq7 => exact fun _ _ _ h => h
  case hw7 => rfl
  case hy7 => intro w hSw; (try dsimp only at hSw); go_simp; (try with_reducible rfl)
  try simp only [Act.put, List.setIfInBounds_toArray, List.set_cons_zero, List.set_cons_succ]
  refine' wpAnyH_take (i := 7) (oi := _) (v := _) ?hi8 (by kernel_rfl) (by kernel_rfl) (by kernel_rfl) ?hq8 (Or.inl ⟨?hw8, ?hy8⟩) (by assumption) ?rest8
  case hi8 => rfl
  case hq8 => exact fun _ _ _ h => h
  case hw8 => rfl
  case hy8 => intro w hSw; (try dsimp only at hSw); go_simp; (try with_reducible rfl)
  try simp only [Act.put, List.setIfInBounds_toArray, List.set_cons_zero, List.set_cons_succ]
  refine' wpAnyH_take (i := 8) (oi := _) (v := _) ?hi9 (by kernel_rfl) (by kernel_rfl) (by kernel_rfl) ?hq9 (Or.inl ⟨?hw9, ?hy9⟩) (by assumption) ?rest9
  case hi9 => rfl
  case hq9 => exact fun _ _ _ h => h
  case hw9 => rfl
  case hy9 => intro w hSw; (try dsimp only at hSw); go_simp; (try with_reducible rfl)
  try simp only [Act.put, List.setIfInBounds_toArray, List.set_cons_zero, List.set_cons_succ]
  refine' wpAnyH_take (i := 9) (oi := _) (v := _) ?hi10 (by kernel_rfl) (by kernel_rfl) (by kernel_rfl) ?hq10 (Or.inl ⟨?hw10, ?hy10⟩) (by assumption) ?rest10
  case hi10 => rfl
  case hq10 => exact fun _ _ _ h => h
  case hw10 => rfl
  case hy10 => intro w hSw; (try dsimp only at hSw); go_simp; (try with_reducible rfl)
  try simp only [Act.put, List.setIfInBounds_toArray, List.set_cons_zero, List.set_cons_succ]
  refine' wpAnyH_take (i := 10) (oi := _) (v := _) ?hi11 (by kernel_rfl) (by kernel_rfl) (by kernel_rfl) ?hq11 (Or.inl ⟨?hw11, ?hy11⟩) (by assumption) ?rest11
  case hi11 => rfl
  case hq11 => exact fun _ _ _ h => h
  case hw11 => rfl
  case hy11 => intro w hSw; (try dsimp only at hSw); go_simp; (try with_reducible rfl)
  try simp only [Act.put, List.setIfInBounds_toArray, List.set_cons_zero, List.set_cons_succ]
  refine' wpAnyH_take (i := 11) (oi := _) (v := _) ?hi12 (by kernel_rfl) (by kernel_rfl) (by kernel_rfl) ?hq12 (Or.inl ⟨?hw12, ?hy12⟩) (by assumption) ?rest12
  case hi12 => rfl
  case hq12 => exact fun _ _ _ h => h
  case hw12 => rfl
  case hy12 => intro w hSw; (try dsimp only at hSw); go_simp; (try with_reducible rfl)
  try simp only [Act.put, List.setIfInBounds_toArray, List.set_cons_zero, List.set_cons_succ]
  refine' wpAnyH_take (i := 12) (oi := _) (v := _) ?hi13 (by kernel_rfl) (by kernel_rfl) (by kernel_rfl) ?hq13 (Or.inl ⟨?hw13, ?hy13⟩) (by assumption) ?rest13
  case hi13 => rfl
  case hq13 => exact fun _ _ _ h => h
  case hw13 => rfl
  case hy13 => intro w hSw; (try dsimp only at hSw); go_simp; (try with_reducible rfl)
  try simp only [Act.put, List.setIfInBounds_toArray, List.set_cons_zero, List.set_cons_succ]
  refine' wpAnyH_take (i := 13) (oi := _) (v := _) ?hi14 (by kernel_rfl) (by kernel_rfl) (by kernel_rfl) ?hq14 (Or.inl ⟨?hw14, ?hy14⟩) (by assumption) ?rest14
  case hi14 => rfl
  case hq14 => exact fun _ _ _ h => h
  case hw14 => rfl
  case hy14 => intro w hSw; (try dsimp only at hSw); go_simp; (try with_reducible rfl)
  try simp only [Act.put, List.setIfInBounds_toArray, List.set_cons_zero, List.set_cons_succ]
  refine' wpAnyH_take (i := 14) (oi := _) (v := _) ?hi15 (by kernel_rfl) (by kernel_rfl) (by kernel_rfl) ?hq15 (Or.inl ⟨?hw15, ?hy15⟩) (by assumption) ?rest15
  case hi15 => rfl
  case hq15 => exact fun _ _ _ h => h
  case hw15 => rfl
  case hy15 => intro w hSw; (try dsimp only at hSw); go_simp; (try with_reducible rfl)
  try simp only [Act.put, List.setIfInBounds_toArray, List.set_cons_zero, List.set_cons_succ]
  refine' wpAnyH_take (i := 15) (oi := _) (v := _) ?hi16 (by kernel_rfl) (by kernel_rfl) (by kernel_rfl) ?hq16 (Or.inl ⟨?hw16, ?hy16⟩) (by assumption) ?rest16
  case hi16 => rfl
  case hq16 => exact fun _ _ _ h => h
  case hw16 => rfl
  case hy16 => intro w hSw; (try dsimp only at hSw); go_simp; (try with_reducible rfl)
  try simp only [Act.put, List.setIfInBounds_toArray, List.set_cons_zero, List.set_cons_succ]
  refine wpAnyH_ready (rs := [16]) (by kernel_rfl) (by simp) ?_
  have ee : (Instr.mapEntry 73 (.map (some (w.heap.size + 1 + 1 + 1))) (.string ⟨#[103, 99, 100]⟩)).run Tryz.prog U1 = .ok (.tuple #[.nilFunc, .int .i64 4]) (putMap U1 (w.heap.size + 1 + 1 + 1) (#[{ key := .string ⟨#[99, 111, 117, 110, 116]⟩, val := .func (.func 33) #[.pointer (some ⟨w.heap.size + 1, 0, none⟩)] #[], born := 0 }, { key := .string ⟨#[104, 97, 115]⟩, val := .func (.func 34) #[.pointer (some ⟨w.heap.size + 1, 0, none⟩)] #[], born := 1 }, { key := .string ⟨#[115, 105, 122, 101]⟩, val := .func (.func 33) #[.pointer (some ⟨w.heap.size + 1, 0, none⟩)] #[], born := 2 }, { key := .string ⟨#[115, 117, 109]⟩, val := .func (.func 35) #[.pointer (some ⟨w.heap.size + 1, 0, none⟩)] #[], born := 3 }, { key := .string ⟨#[103, 99, 100]⟩, val := .nilFunc, born := 4 }]) 5) := me_new _ _ _ _ _ MU1.out.hm3 (by kernel_rfl)
  refine AllReadyH.cons rfl (fun K hK => ?_) AllReadyH.nil
  go_simp
  clear ee
  generalize hZ : putMap U1 (w.heap.size + 1 + 1 + 1) (#[{ key := .string ⟨#[99, 111, 117, 110, 116]⟩, val := .func (.func 33) #[.pointer (some ⟨w.heap.size + 1, 0, none⟩)] #[], born := 0 }, { key := .string ⟨#[104, 97, 115]⟩, val := .func (.func 34) #[.pointer (some ⟨w.heap.size + 1, 0, none⟩)] #[], born := 1 }, { key := .string ⟨#[115, 105, 122, 101]⟩, val := .func (.func 33) #[.pointer (some ⟨w.heap.size + 1, 0, none⟩)] #[], born := 2 }, { key := .string ⟨#[115, 117, 109]⟩, val := .func (.func 35) #[.pointer (some ⟨w.heap.size + 1, 0, none⟩)] #[], born := 3 }, { key := .string ⟨#[103, 99, 100]⟩, val := .nilFunc, born := 4 }]) 5 = U2 at ⊢
  have MU2 := Lib.hid (MU1.out.putE hZ)
  clear hZ
  refine hK.out _ _ ⟨MU2.out.c2, MU2.out.c4⟩ (fun hHeld => ?_)
  clear hK K
  try simp only [Act.put, List.setIfInBounds_toArray, List.set_cons_zero, List.set_cons_succ]
  clear MU1
  refine' wpAnyH_take (i := 17) (oi := _) (v := _) ?hi17 (by kernel_rfl) (by kernel_rfl) (by kernel_rfl) ?hq17 (Or.inl ⟨?hw17, ?hy17⟩) (by assumption) ?rest17
  case hi17 => rfl
  case hq17 => exact fun _ _ _ h => h
  case hw17 => rfl
  case hy17 => intro w hSw; (try dsimp only at hSw); go_simp; (try with_reducible rfl)
  try simp only [Act.put, List.setIfInBounds_toArray, List.set_cons_zero, List.set_cons_succ]
  refine wpAnyH_ready (rs := [18]) (by kernel_rfl) (by simp) ?_
  have ee : (Instr.entryStore 73 (.map (some (w.heap.size + 1 + 1 + 1))) (.int .i64 4) (.func (.func 65) #[] #[])).run Tryz.prog U2 = .ok () (putMap U2 (w.heap.size + 1 + 1 + 1) (#[{ key := .string ⟨#[99, 111, 117, 110, 116]⟩, val := .func (.func 33) #[.pointer (some ⟨w.heap.size + 1, 0, none⟩)] #[], born := 0 }, { key := .string ⟨#[104, 97, 115]⟩, val := .func (.func 34) #[.pointer (some ⟨w.heap.size + 1, 0, none⟩)] #[], born := 1 }, { key := .string ⟨#[115, 105, 122, 101]⟩, val := .func (.func 33) #[.pointer (some ⟨w.heap.size + 1, 0, none⟩)] #[], born := 2 }, { key := .string ⟨#[115, 117, 109]⟩, val := .func (.func 35) #[.pointer (some ⟨w.heap.size + 1, 0, none⟩)] #[], born := 3 }, { key := .string ⟨#[103, 99, 100]⟩, val := .func (.func 65) #[] #[], born := 4 }]) 5) := st_at _ _ _ 4 _ 4 _ MU2.out.hm3 (by kernel_rfl)
  refine AllReadyH.cons rfl (fun K hK => ?_) AllReadyH.nil
  go_simp
  clear ee
  generalize hZ : putMap U2 (w.heap.size + 1 + 1 + 1) (#[{ key := .string ⟨#[99, 111, 117, 110, 116]⟩, val := .func (.func 33) #[.pointer (some ⟨w.heap.size + 1, 0, none⟩)] #[], born := 0 }, { key := .string ⟨#[104, 97, 115]⟩, val := .func (.func 34) #[.pointer (some ⟨w.heap.size + 1, 0, none⟩)] #[], born := 1 }, { key := .string ⟨#[115, 105, 122, 101]⟩, val := .func (.func 33) #[.pointer (some ⟨w.heap.size + 1, 0, none⟩)] #[], born := 2 }, { key := .string ⟨#[115, 117, 109]⟩, val := .func (.func 35) #[.pointer (some ⟨w.heap.size + 1, 0, none⟩)] #[], born := 3 }, { key := .string ⟨#[103, 99, 100]⟩, val := .func (.func 65) #[] #[], born := 4 }]) 5 = U3 at ⊢
  have MU3 := Lib.hid (MU2.out.putE hZ)
  clear hZ
  refine hK.out _ _ ⟨MU3.out.c2, MU3.out.c4⟩ (fun hHeld => ?_)
  clear hK K
  try simp only [Act.put, List.setIfInBounds_toArray, List.set_cons_zero, List.set_cons_succ]
  clear MU2
  refine wpAnyH_ready (rs := [19]) (by kernel_rfl) (by simp) ?_
  have ee : (Instr.mapEntry 73 (.map (some (w.heap.size + 1 + 1 + 1))) (.string ⟨#[112, 111, 119, 101, 114]⟩)).run Tryz.prog U3 = .ok (.tuple #[.nilFunc, .int .i64 5]) (putMap U3 (w.heap.size + 1 + 1 + 1) (#[{ key := .string ⟨#[99, 111, 117, 110, 116]⟩, val := .func (.func 33) #[.pointer (some ⟨w.heap.size + 1, 0, none⟩)] #[], born := 0 }, { key := .string ⟨#[104, 97, 115]⟩, val := .func (.func 34) #[.pointer (some ⟨w.heap.size + 1, 0, none⟩)] #[], born := 1 }, { key := .string ⟨#[115, 105, 122, 101]⟩, val := .func (.func 33) #[.pointer (some ⟨w.heap.size + 1, 0, none⟩)] #[], born := 2 }, { key := .string ⟨#[115, 117, 109]⟩, val := .func (.func 35) #[.pointer (some ⟨w.heap.size + 1, 0, none⟩)] #[], born := 3 }, { key := .string ⟨#[103, 99, 100]⟩, val := .func (.func 65) #[] #[], born := 4 }, { key := .string ⟨#[112, 111, 119, 101, 114]⟩, val := .nilFunc, born := 5 }]) 6) := me_new _ _ _ _ _ MU3.out.hm3 (by kernel_rfl)
  refine AllReadyH.cons rfl (fun K hK => ?_) AllReadyH.nil
  go_simp
  clear ee
  generalize hZ : putMap U3 (w.heap.size + 1 + 1 + 1) (#[{ key := .string ⟨#[99, 111, 117, 110, 116]⟩, val := .func (.func 33) #[.pointer (some ⟨w.heap.size + 1, 0, none⟩)] #[], born := 0 }, { key := .string ⟨#[104, 97, 115]⟩, val := .func (.func 34) #[.pointer (some ⟨w.heap.size + 1, 0, none⟩)] #[], born := 1 }, { key := .string ⟨#[115, 105, 122, 101]⟩, val := .func (.func 33) #[.pointer (some ⟨w.heap.size + 1, 0, none⟩)] #[], born := 2 }, { key := .string ⟨#[115, 117, 109]⟩, val := .func (.func 35) #[.pointer (some ⟨w.heap.size + 1, 0, none⟩)] #[], born := 3 }, { key := .string ⟨#[103, 99, 100]⟩, val := .func (.func 65) #[] #[], born := 4 }, { key := .string ⟨#[112, 111, 119, 101, 114]⟩, val := .nilFunc, born := 5 }]) 6 = U4 at ⊢
  have MU4 := Lib.hid (MU3.out.putE hZ)
  clear hZ
  refine hK.out _ _ ⟨MU4.out.c2, MU4.out.c4⟩ (fun hHeld => ?_)
  clear hK K
  try simp only [Act.put, List.setIfInBounds_toArray, List.set_cons_zero, List.set_cons_succ]
  clear MU3
  refine' wpAnyH_take (i := 20) (oi := _) (v := _) ?hi18 (by kernel_rfl) (by kernel_rfl) (by kernel_rfl) ?hq18 (Or.inl ⟨?hw18, ?hy18⟩) (by assumption) ?rest18
  case hi18 => rfl
  case hq18 => exact fun _ _ _ h => h
  case hw18 => rfl
  case hy18 => intro w hSw; (try dsimp only at hSw); go_simp; (try with_reducible rfl)
  try simp only [Act.put, List.setIfInBounds_toArray, List.set_cons_zero, List.set_cons_succ]
  refine wpAnyH_ready (rs := [21]) (by kernel_rfl) (by simp) ?_
  have ee : (Instr.entryStore 73 (.map (some (w.heap.size + 1 + 1 + 1))) (.int .i64 5) (.func (.func 66) #[] #[])).run Tryz.prog U4 = .ok () (putMap U4 (w.heap.size + 1 + 1 + 1) (#[{ key := .string ⟨#[99, 111, 117, 110, 116]⟩, val := .func (.func 33) #[.pointer (some ⟨w.heap.size + 1, 0, none⟩)] #[], born := 0 }, { key := .string ⟨#[104, 97, 115]⟩, val := .func (.func 34) #[.pointer (some ⟨w.heap.size + 1, 0, none⟩)] #[], born := 1 }, { key := .string ⟨#[115, 105, 122, 101]⟩, val := .func (.func 33) #[.pointer (some ⟨w.heap.size + 1, 0, none⟩)] #[], born := 2 }, { key := .string ⟨#[115, 117, 109]⟩, val := .func (.func 35) #[.pointer (some ⟨w.heap.size + 1, 0, none⟩)] #[], born := 3 }, { key := .string ⟨#[103, 99, 100]⟩, val := .func (.func 65) #[] #[], born := 4 }, { key := .string ⟨#[112, 111, 119, 101, 114]⟩, val := .func (.func 66) #[] #[], born := 5 }]) 6) := st_at _ _ _ 5 _ 5 _ MU4.out.hm3 (by kernel_rfl)
  refine AllReadyH.cons rfl (fun K hK => ?_) AllReadyH.nil
  go_simp
  clear ee
  generalize hZ : putMap U4 (w.heap.size + 1 + 1 + 1) (#[{ key := .string ⟨#[99, 111, 117, 110, 116]⟩, val := .func (.func 33) #[.pointer (some ⟨w.heap.size + 1, 0, none⟩)] #[], born := 0 }, { key := .string ⟨#[104, 97, 115]⟩, val := .func (.func 34) #[.pointer (some ⟨w.heap.size + 1, 0, none⟩)] #[], born := 1 }, { key := .string ⟨#[115, 105, 122, 101]⟩, val := .func (.func 33) #[.pointer (some ⟨w.heap.size + 1, 0, none⟩)] #[], born := 2 }, { key := .string ⟨#[115, 117, 109]⟩, val := .func (.func 35) #[.pointer (some ⟨w.heap.size + 1, 0, none⟩)] #[], born := 3 }, { key := .string ⟨#[103, 99, 100]⟩, val := .func (.func 65) #[] #[], born := 4 }, { key := .string ⟨#[112, 111, 119, 101, 114]⟩, val := .func (.func 66) #[] #[], born := 5 }]) 6 = U5 at ⊢
  have MU5 := Lib.hid (MU4.out.putE hZ)
  clear hZ
  refine hK.out _ _ ⟨MU5.out.c2, MU5.out.c4⟩ (fun hHeld => ?_)
  clear hK K
  try simp only [Act.put, List.setIfInBounds_toArray, List.set_cons_zero, List.set_cons_succ]
  clear MU4
  refine wpAnyH_ready (rs := [22]) (by kernel_rfl) (by simp) ?_
  have ee : (Instr.mapEntry 73 (.map (some (w.heap.size + 1 + 1 + 1))) (.string ⟨#[102, 97, 99, 116]⟩)).run Tryz.prog U5 = .ok (.tuple #[.nilFunc, .int .i64 6]) (putMap U5 (w.heap.size + 1 + 1 + 1) (#[{ key := .string ⟨#[99, 111, 117, 110, 116]⟩, val := .func (.func 33) #[.pointer (some ⟨w.heap.size + 1, 0, none⟩)] #[], born := 0 }, { key := .string ⟨#[104, 97, 115]⟩, val := .func (.func 34) #[.pointer (some ⟨w.heap.size + 1, 0, none⟩)] #[], born := 1 }, { key := .string ⟨#[115, 105, 122, 101]⟩, val := .func (.func 33) #[.pointer (some ⟨w.heap.size + 1, 0, none⟩)] #[], born := 2 }, { key := .string ⟨#[115, 117, 109]⟩, val := .func (.func 35) #[.pointer (some ⟨w.heap.size + 1, 0, none⟩)] #[], born := 3 }, { key := .string ⟨#[103, 99, 100]⟩, val := .func (.func 65) #[] #[], born := 4 }, { key := .string ⟨#[112, 111, 119, 101, 114]⟩, val := .func (.func 66) #[] #[], born := 5 }, { key := .string ⟨#[102, 97, 99, 116]⟩, val := .nilFunc, born := 6 }]) 7) := me_new _ _ _ _ _ MU5.out.hm3 (by kernel_rfl)
  refine AllReadyH.cons rfl (fun K hK => ?_) AllReadyH.nil
  go_simp
  clear ee
  generalize hZ : putMap U5 (w.heap.size + 1 + 1 + 1) (#[{ key := .string ⟨#[99, 111, 117, 110, 116]⟩, val := .func (.func 33) #[.pointer (some ⟨w.heap.size + 1, 0, none⟩)] #[], born := 0 }, { key := .string ⟨#[104, 97, 115]⟩, val := .func (.func 34) #[.pointer (some ⟨w.heap.size + 1, 0, none⟩)] #[], born := 1 }, { key := .string ⟨#[115, 105, 122, 101]⟩, val := .func (.func 33) #[.pointer (some ⟨w.heap.size + 1, 0, none⟩)] #[], born := 2 }, { key := .string ⟨#[115, 117, 109]⟩, val := .func (.func 35) #[.pointer (some ⟨w.heap.size + 1, 0, none⟩)] #[], born := 3 }, { key := .string ⟨#[103, 99, 100]⟩, val := .func (.func 65) #[] #[], born := 4 }, { key := .string ⟨#[112, 111, 119, 101, 114]⟩, val := .func (.func 66) #[] #[], born := 5 }, { key := .string ⟨#[102, 97, 99, 116]⟩, val := .nilFunc, born := 6 }]) 7 = U6 at ⊢
  have MU6 := Lib.hid (MU5.out.putE hZ)
  clear hZ
  refine hK.out _ _ ⟨MU6.out.c2, MU6.out.c4⟩ (fun hHeld => ?_)
  clear hK K
  try simp only [Act.put, List.setIfInBounds_toArray, List.set_cons_zero, List.set_cons_succ]
  clear MU5
  refine' wpAnyH_take (i := 23) (oi := _) (v := _) ?hi19 (by kernel_rfl) (by kernel_rfl) (by kernel_rfl) ?hq19 (Or.inl ⟨?hw19, ?hy19⟩) (by assumption) ?rest19
  case hi19 => rfl
  case hq19 => exact fun _ _ _ h => h
  case hw19 => rfl
  case hy19 => intro w hSw; (try dsimp only at hSw); go_simp; (try with_reducible rfl)
  try simp only [Act.put, List.setIfInBounds_toArray, List.set_cons_zero, List.set_cons_succ]
  refine wpAnyH_ready (rs := [24]) (by kernel_rfl) (by simp) ?_
  have ee : (Instr.entryStore 73 (.map (some (w.heap.size + 1 + 1 + 1))) (.int .i64 6) (.func (.func 67) #[] #[])).run Tryz.prog U6 = .ok () (putMap U6 (w.heap.size + 1 + 1 + 1) (#[{ key := .string ⟨#[99, 111, 117, 110, 116]⟩, val := .func (.func 33) #[.pointer (some ⟨w.heap.size + 1, 0, none⟩)] #[], born := 0 }, { key := .string ⟨#[104, 97, 115]⟩, val := .func (.func 34) #[.pointer (some ⟨w.heap.size + 1, 0, none⟩)] #[], born := 1 }, { key := .string ⟨#[115, 105, 122, 101]⟩, val := .func (.func 33) #[.pointer (some ⟨w.heap.size + 1, 0, none⟩)] #[], born := 2 }, { key := .string ⟨#[115, 117, 109]⟩, val := .func (.func 35) #[.pointer (some ⟨w.heap.size + 1, 0, none⟩)] #[], born := 3 }, { key := .string ⟨#[103, 99, 100]⟩, val := .func (.func 65) #[] #[], born := 4 }, { key := .string ⟨#[112, 111, 119, 101, 114]⟩, val := .func (.func 66) #[] #[], born := 5 }, { key := .string ⟨#[102, 97, 99, 116]⟩, val := .func (.func 67) #[] #[], born := 6 }]) 7) := st_at _ _ _ 6 _ 6 _ MU6.out.hm3 (by kernel_rfl)
  refine AllReadyH.cons rfl (fun K hK => ?_) AllReadyH.nil
  go_simp
  clear ee
  generalize hZ : putMap U6 (w.heap.size + 1 + 1 + 1) (#[{ key := .string ⟨#[99, 111, 117, 110, 116]⟩, val := .func (.func 33) #[.pointer (some ⟨w.heap.size + 1, 0, none⟩)] #[], born := 0 }, { key := .string ⟨#[104, 97, 115]⟩, val := .func (.func 34) #[.pointer (some ⟨w.heap.size + 1, 0, none⟩)] #[], born := 1 }, { key := .string ⟨#[115, 105, 122, 101]⟩, val := .func (.func 33) #[.pointer (some ⟨w.heap.size + 1, 0, none⟩)] #[], born := 2 }, { key := .string ⟨#[115, 117, 109]⟩, val := .func (.func 35) #[.pointer (some ⟨w.heap.size + 1, 0, none⟩)] #[], born := 3 }, { key := .string ⟨#[103, 99, 100]⟩, val := .func (.func 65) #[] #[], born := 4 }, { key := .string ⟨#[112, 111, 119, 101, 114]⟩, val := .func (.func 66) #[] #[], born := 5 }, { key := .string ⟨#[102, 97, 99, 116]⟩, val := .func (.func 67) #[] #[], born := 6 }]) 7 = U7 at ⊢
  have MU7 := Lib.hid (MU6.out.putE hZ)
  clear hZ
  refine hK.out _ _ ⟨MU7.out.c2, MU7.out.c4⟩ (fun hHeld => ?_)
  clear hK K
  try simp only [Act.put, List.setIfInBounds_toArray, List.set_cons_zero, List.set_cons_succ]
  clear MU6
  refine wpAnyH_ready (rs := [25]) (by kernel_rfl) (by simp) ?_
  have ee : (Instr.mapEntry 73 (.map (some (w.heap.size + 1 + 1 + 1))) (.string ⟨#[116, 114, 105, 101, 115]⟩)).run Tryz.prog U7 = .ok (.tuple #[.nilFunc, .int .i64 7]) (putMap U7 (w.heap.size + 1 + 1 + 1) (#[{ key := .string ⟨#[99, 111, 117, 110, 116]⟩, val := .func (.func 33) #[.pointer (some ⟨w.heap.size + 1, 0, none⟩)] #[], born := 0 }, { key := .string ⟨#[104, 97, 115]⟩, val := .func (.func 34) #[.pointer (some ⟨w.heap.size + 1, 0, none⟩)] #[], born := 1 }, { key := .string ⟨#[115, 105, 122, 101]⟩, val := .func (.func 33) #[.pointer (some ⟨w.heap.size + 1, 0, none⟩)] #[], born := 2 }, { key := .string ⟨#[115, 117, 109]⟩, val := .func (.func 35) #[.pointer (some ⟨w.heap.size + 1, 0, none⟩)] #[], born := 3 }, { key := .string ⟨#[103, 99, 100]⟩, val := .func (.func 65) #[] #[], born := 4 }, { key := .string ⟨#[112, 111, 119, 101, 114]⟩, val := .func (.func 66) #[] #[], born := 5 }, { key := .string ⟨#[102, 97, 99, 116]⟩, val := .func (.func 67) #[] #[], born := 6 }, { key := .string ⟨#[116, 114, 105, 101, 115]⟩, val := .nilFunc, born := 7 }]) 8) := me_new _ _ _ _ _ MU7.out.hm3 (by kernel_rfl)
  refine AllReadyH.cons rfl (fun K hK => ?_) AllReadyH.nil
  go_simp
  clear ee
  generalize hZ : putMap U7 (w.heap.size + 1 + 1 + 1) (#[{ key := .string ⟨#[99, 111, 117, 110, 116]⟩, val := .func (.func 33) #[.pointer (some ⟨w.heap.size + 1, 0, none⟩)] #[], born := 0 }, { key := .string ⟨#[104, 97, 115]⟩, val := .func (.func 34) #[.pointer (some ⟨w.heap.size + 1, 0, none⟩)] #[], born := 1 }, { key := .string ⟨#[115, 105, 122, 101]⟩, val := .func (.func 33) #[.pointer (some ⟨w.heap.size + 1, 0, none⟩)] #[], born := 2 }, { key := .string ⟨#[115, 117, 109]⟩, val := .func (.func 35) #[.pointer (some ⟨w.heap.size + 1, 0, none⟩)] #[], born := 3 }, { key := .string ⟨#[103, 99, 100]⟩, val := .func (.func 65) #[] #[], born := 4 }, { key := .string ⟨#[112, 111, 119, 101, 114]⟩, val := .func (.func 66) #[] #[], born := 5 }, { key := .string ⟨#[102, 97, 99, 116]⟩, val := .func (.func 67) #[] #[], born := 6 }, { key := .string ⟨#[116, 114, 105, 101, 115]⟩, val := .nilFunc, born := 7 }]) 8 = U8 at ⊢
  have MU8 := Lib.hid (MU7.out.putE hZ)
  clear hZ
  refine hK.out _ _ ⟨MU8.out.c2, MU8.out.c4⟩ (fun hHeld => ?_)
  clear hK K
  try simp only [Act.put, List.setIfInBounds_toArray, List.set_cons_zero, List.set_cons_succ]
  clear MU7
  refine' wpAnyH_take (i := 26) (oi := _) (v := _) ?hi20 (by kernel_rfl) (by kernel_rfl) (by kernel_rfl) ?hq20 (Or.inl ⟨?hw20, ?hy20⟩) (by assumption) ?rest20
  case hi20 => rfl
  case hq20 => exact fun _ _ _ h => h
  case hw20 => rfl
  case hy20 => intro w hSw; (try dsimp only at hSw); go_simp; (try with_reducible rfl)
  try simp only [Act.put, List.setIfInBounds_toArray, List.set_cons_zero, List.set_cons_succ]
  refine wpAnyH_ready (rs := [27]) (by kernel_rfl) (by simp) ?_
  have ee : (Instr.entryStore 73 (.map (some (w.heap.size + 1 + 1 + 1))) (.int .i64 7) (.func (.func 68) #[] #[])).run Tryz.prog U8 = .ok () (putMap U8 (w.heap.size + 1 + 1 + 1) (#[{ key := .string ⟨#[99, 111, 117, 110, 116]⟩, val := .func (.func 33) #[.pointer (some ⟨w.heap.size + 1, 0, none⟩)] #[], born := 0 }, { key := .string ⟨#[104, 97, 115]⟩, val := .func (.func 34) #[.pointer (some ⟨w.heap.size + 1, 0, none⟩)] #[], born := 1 }, { key := .string ⟨#[115, 105, 122, 101]⟩, val := .func (.func 33) #[.pointer (some ⟨w.heap.size + 1, 0, none⟩)] #[], born := 2 }, { key := .string ⟨#[115, 117, 109]⟩, val := .func (.func 35) #[.pointer (some ⟨w.heap.size + 1, 0, none⟩)] #[], born := 3 }, { key := .string ⟨#[103, 99, 100]⟩, val := .func (.func 65) #[] #[], born := 4 }, { key := .string ⟨#[112, 111, 119, 101, 114]⟩, val := .func (.func 66) #[] #[], born := 5 }, { key := .string ⟨#[102, 97, 99, 116]⟩, val := .func (.func 67) #[] #[], born := 6 }, { key := .string ⟨#[116, 114, 105, 101, 115]⟩, val := .func (.func 68) #[] #[], born := 7 }]) 8) := st_at _ _ _ 7 _ 7 _ MU8.out.hm3 (by kernel_rfl)
  refine AllReadyH.cons rfl (fun K hK => ?_) AllReadyH.nil
  go_simp
  clear ee
  generalize hZ : putMap U8 (w.heap.size + 1 + 1 + 1) (#[{ key := .string ⟨#[99, 111, 117, 110, 116]⟩, val := .func (.func 33) #[.pointer (some ⟨w.heap.size + 1, 0, none⟩)] #[], born := 0 }, { key := .string ⟨#[104, 97, 115]⟩, val := .func (.func 34) #[.pointer (some ⟨w.heap.size + 1, 0, none⟩)] #[], born := 1 }, { key := .string ⟨#[115, 105, 122, 101]⟩, val := .func (.func 33) #[.pointer (some ⟨w.heap.size + 1, 0, none⟩)] #[], born := 2 }, { key := .string ⟨#[115, 117, 109]⟩, val := .func (.func 35) #[.pointer (some ⟨w.heap.size + 1, 0, none⟩)] #[], born := 3 }, { key := .string ⟨#[103, 99, 100]⟩, val := .func (.func 65) #[] #[], born := 4 }, { key := .string ⟨#[112, 111, 119, 101, 114]⟩, val := .func (.func 66) #[] #[], born := 5 }, { key := .string ⟨#[102, 97, 99, 116]⟩, val := .func (.func 67) #[] #[], born := 6 }, { key := .string ⟨#[116, 114, 105, 101, 115]⟩, val := .func (.func 68) #[] #[], born := 7 }]) 8 = U9 at ⊢
  have MU9 := Lib.hid (MU8.out.putE hZ)
  clear hZ
  refine hK.out _ _ ⟨MU9.out.c2, MU9.out.c4⟩ (fun hHeld => ?_)
  clear hK K
  try simp only [Act.put, List.setIfInBounds_toArray, List.set_cons_zero, List.set_cons_succ]
  clear MU8
  refine wpAnyH_done (by kernel_rfl) ?_ _
  clear hHeld
  have mmU9 := MU9.out.c2
  go_wp2
  go_ret
  exact ⟨rfl, MU9.out⟩
end Go.Proofs.YtpnbhoeghncnnaaGreatDoor
namespace Go.Proofs.YtpnbhoeghncnnaaGreatDoor
open Go.RowKit
def St0 : St := ⟨[], [], 0, -1⟩
def Init (k : Nat) (cls : ByteArray) : Prop := ∀ w, Calls Tryz.prog 15 #[.string cls] w fun e w' => ∃ b kr dr mb, e = .returned (.pointer (some ⟨b, 0, none⟩)) ∧ BInv k b kr dr mb St0 none w' ∧ w.heap.size ≤ b ∧ w.heap.size ≤ kr ∧ b ≠ kr ∧ Fr (fun _ => False) w w'
theorem MS.lm {w : World} {D : Nat} {es : Array MapEntry} {c : Nat} {W : World} (h : MS w (some D) es c W) : LM W (w.heap.size + 1) w.heap.size D 0 (-1) none [] := ⟨_, h.hm1, Lst.nil _, fun h => nomatch h⟩
theorem MS.km {w : World} {D : Option Nat} {es : Array MapEntry} {c : Nat} {W : World} (h : MS w D es c W) : KM W w.heap.size [] := ⟨#[], 0, h.hm0, rfl⟩
set_option maxRecDepth 20000 in
theorem init_1 : Init 1 ⟨#[73, 78, 84, 83]⟩ := by
  intro w
  refine (modelOf_ints w).mono ?_
  rintro e w' ⟨rfl, bx1, bx2, bx3, bx4, bx5, hM, hbx1, hbx2, hbx3, hbx4, hbx5⟩
  refine ⟨_, _, _, _, rfl, ⟨hM.lm, hM.km, by omega, hM.hm2, _, _, hM.hm3, fun i t ht => ?_⟩, by omega, by omega, by omega, hM.fr⟩
  match i, ht with
  | 0, ht => cases ht; exact ⟨0, _, _, _, by kernel_rfl, ⟨rfl, rfl, rfl⟩⟩
  | 1, ht => cases ht; exact ⟨4, _, _, _, by kernel_rfl, ⟨rfl, rfl, _, rfl, hbx1⟩⟩
  | 2, ht => cases ht; exact ⟨5, _, _, _, by kernel_rfl, ⟨rfl, rfl, _, rfl, hbx2⟩⟩
  | 3, ht => cases ht; exact ⟨1, _, _, _, by kernel_rfl, ⟨rfl, rfl, rfl⟩⟩
  | 4, ht => cases ht; exact ⟨7, _, _, _, by kernel_rfl, ⟨rfl, rfl, rfl⟩⟩
  | 5, ht => cases ht; exact ⟨3, _, _, _, by kernel_rfl, ⟨rfl, rfl, rfl⟩⟩
  | 6, ht => cases ht; exact ⟨8, _, _, _, by kernel_rfl, ⟨rfl, rfl, _, rfl, hbx4⟩⟩
  | 7, ht => cases ht; exact ⟨6, _, _, _, by kernel_rfl, ⟨rfl, rfl, _, rfl, hbx3⟩⟩
  | 8, ht => cases ht; exact ⟨9, _, _, _, by kernel_rfl, ⟨rfl, rfl, _, rfl, hbx5⟩⟩
  | n + 9, ht => simp [tabK, tabINTS] at ht
set_option maxRecDepth 20000 in
theorem init_2 : Init 2 ⟨#[83, 79, 82, 84, 69, 68]⟩ := by
  intro w
  refine (modelOf_sorted w).mono ?_
  rintro e w' ⟨rfl, bx1, bx2, bx3, bx4, bx5, bx6, bx7, bx8, hM, hbx1, hbx2, hbx3, hbx4, hbx5, hbx6, hbx7, hbx8⟩
  refine ⟨_, _, _, _, rfl, ⟨hM.lm, hM.km, by omega, hM.hm2, _, _, hM.hm3, fun i t ht => ?_⟩, by omega, by omega, by omega, hM.fr⟩
  match i, ht with
  | 0, ht => cases ht; exact ⟨0, _, _, _, by kernel_rfl, ⟨rfl, rfl, rfl⟩⟩
  | 1, ht => cases ht; exact ⟨4, _, _, _, by kernel_rfl, ⟨rfl, rfl, _, rfl, hbx6⟩⟩
  | 2, ht => cases ht; exact ⟨5, _, _, _, by kernel_rfl, ⟨rfl, rfl, _, rfl, hbx7⟩⟩
  | 3, ht => cases ht; exact ⟨1, _, _, _, by kernel_rfl, ⟨rfl, rfl, rfl⟩⟩
  | 4, ht => cases ht; exact ⟨7, _, _, _, by kernel_rfl, ⟨rfl, rfl, rfl⟩⟩
  | 5, ht => cases ht; exact ⟨3, _, _, _, by kernel_rfl, ⟨rfl, rfl, rfl⟩⟩
  | 6, ht => cases ht; exact ⟨8, _, _, _, by kernel_rfl, ⟨rfl, rfl, _, rfl, hbx4⟩⟩
  | 7, ht => cases ht; exact ⟨6, _, _, _, by kernel_rfl, ⟨rfl, rfl, _, rfl, hbx8⟩⟩
  | 8, ht => cases ht; exact ⟨9, _, _, _, by kernel_rfl, ⟨rfl, rfl, _, rfl, hbx5⟩⟩
  | n + 9, ht => simp [tabK, tabSORTED] at ht
set_option maxRecDepth 20000 in
theorem init_4 : Init 4 ⟨#[83, 84, 65, 67, 75]⟩ := by
  intro w
  refine (modelOf_stack w).mono ?_
  rintro e w' ⟨rfl, bx1, bx2, hM, hbx1, hbx2⟩
  refine ⟨_, _, _, _, rfl, ⟨hM.lm, hM.km, by omega, hM.hm2, _, _, hM.hm3, fun i t ht => ?_⟩, by omega, by omega, by omega, hM.fr⟩
  match i, ht with
  | 0, ht => cases ht; exact ⟨0, _, _, _, by kernel_rfl, ⟨rfl, rfl, rfl⟩⟩
  | 1, ht => cases ht; exact ⟨4, _, _, _, by kernel_rfl, ⟨rfl, rfl, _, rfl, hbx1⟩⟩
  | 2, ht => cases ht; exact ⟨5, _, _, _, by kernel_rfl, ⟨rfl, rfl, _, rfl, hbx2⟩⟩
  | 3, ht => cases ht; exact ⟨6, _, _, _, by kernel_rfl, ⟨rfl, rfl, rfl⟩⟩
  | n + 4, ht => simp [tabK, tabSTACK] at ht
set_option maxRecDepth 20000 in
theorem init_5 : Init 5 ⟨#[81, 85, 69, 85, 69]⟩ := by
  intro w
  refine (modelOf_queue w).mono ?_
  rintro e w' ⟨rfl, bx1, bx2, hM, hbx1, hbx2⟩
  refine ⟨_, _, _, _, rfl, ⟨hM.lm, hM.km, by omega, hM.hm2, _, _, hM.hm3, fun i t ht => ?_⟩, by omega, by omega, by omega, hM.fr⟩
  match i, ht with
  | 0, ht => cases ht; exact ⟨0, _, _, _, by kernel_rfl, ⟨rfl, rfl, rfl⟩⟩
  | 1, ht => cases ht; exact ⟨4, _, _, _, by kernel_rfl, ⟨rfl, rfl, _, rfl, hbx1⟩⟩
  | 2, ht => cases ht; exact ⟨5, _, _, _, by kernel_rfl, ⟨rfl, rfl, _, rfl, hbx2⟩⟩
  | 3, ht => cases ht; exact ⟨6, _, _, _, by kernel_rfl, ⟨rfl, rfl, rfl⟩⟩
  | n + 4, ht => simp [tabK, tabQUEUE] at ht
set_option maxRecDepth 20000 in
theorem init_7 : Init 7 ⟨#[84, 65, 66, 76, 69]⟩ := by
  intro w
  refine (modelOf_table w).mono ?_
  rintro e w' ⟨rfl, bx1, bx2, hM, hbx1, hbx2⟩
  refine ⟨_, _, _, _, rfl, ⟨hM.lm, hM.km, by omega, hM.hm2, _, _, hM.hm3, fun i t ht => ?_⟩, by omega, by omega, by omega, hM.fr⟩
  match i, ht with
  | 0, ht => cases ht; exact ⟨0, _, _, _, by kernel_rfl, ⟨rfl, rfl, rfl⟩⟩
  | 1, ht => cases ht; exact ⟨4, _, _, _, by kernel_rfl, ⟨rfl, rfl, _, rfl, hbx1⟩⟩
  | 2, ht => cases ht; exact ⟨1, _, _, _, by kernel_rfl, ⟨rfl, rfl, rfl⟩⟩
  | 3, ht => cases ht; exact ⟨5, _, _, _, by kernel_rfl, ⟨rfl, rfl, rfl⟩⟩
  | 4, ht => cases ht; exact ⟨6, _, _, _, by kernel_rfl, ⟨rfl, rfl, _, rfl, hbx2⟩⟩
  | n + 5, ht => simp [tabK, tabTABLE] at ht
set_option maxRecDepth 20000 in
theorem init_8 : Init 8 ⟨#[83, 69, 84]⟩ := by
  intro w
  refine (modelOf_set w).mono ?_
  rintro e w' ⟨rfl, bx1, bx2, hM, hbx1, hbx2⟩
  refine ⟨_, _, _, _, rfl, ⟨hM.lm, hM.km, by omega, hM.hm2, _, _, hM.hm3, fun i t ht => ?_⟩, by omega, by omega, by omega, hM.fr⟩
  match i, ht with
  | 0, ht => cases ht; exact ⟨4, _, _, _, by kernel_rfl, ⟨rfl, rfl, _, rfl, hbx1⟩⟩
  | 1, ht => cases ht; exact ⟨5, _, _, _, by kernel_rfl, ⟨rfl, rfl, _, rfl, hbx2⟩⟩
  | 2, ht => cases ht; exact ⟨1, _, _, _, by kernel_rfl, ⟨rfl, rfl, rfl⟩⟩
  | 3, ht => cases ht; exact ⟨2, _, _, _, by kernel_rfl, ⟨rfl, rfl, rfl⟩⟩
  | n + 4, ht => simp [tabK, tabSET] at ht
set_option maxRecDepth 20000 in
theorem init_9 : Init 9 ⟨#[67, 79, 85, 78, 84, 69, 82]⟩ := by
  intro w
  refine (modelOf_counter w).mono ?_
  rintro e w' ⟨rfl, bx1, bx2, hM, hbx1, hbx2⟩
  refine ⟨_, _, _, _, rfl, ⟨hM.lm, hM.km, by omega, hM.hm2, _, _, hM.hm3, fun i t ht => ?_⟩, by omega, by omega, by omega, hM.fr⟩
  match i, ht with
  | 0, ht => cases ht; exact ⟨0, _, _, _, by kernel_rfl, ⟨rfl, rfl, rfl⟩⟩
  | 1, ht => cases ht; exact ⟨4, _, _, _, by kernel_rfl, ⟨rfl, rfl, _, rfl, hbx1⟩⟩
  | 2, ht => cases ht; exact ⟨5, _, _, _, by kernel_rfl, ⟨rfl, rfl, _, rfl, hbx2⟩⟩
  | n + 3, ht => simp [tabK, tabCOUNTER] at ht
set_option maxRecDepth 20000 in
theorem init_10 : Init 10 ⟨#[82, 65, 78, 71, 69]⟩ := by
  intro w
  refine (modelOf_range w).mono ?_
  rintro e w' ⟨rfl, bx1, hM, hbx1⟩
  refine ⟨_, _, _, _, rfl, ⟨hM.lm, hM.km, by omega, hM.hm2, _, _, hM.hm3, fun i t ht => ?_⟩, by omega, by omega, by omega, hM.fr⟩
  match i, ht with
  | 0, ht => cases ht; exact ⟨4, _, _, _, by kernel_rfl, ⟨rfl, rfl, rfl⟩⟩
  | 1, ht => cases ht; exact ⟨5, _, _, _, by kernel_rfl, ⟨rfl, rfl, rfl⟩⟩
  | 2, ht => cases ht; exact ⟨6, _, _, _, by kernel_rfl, ⟨rfl, rfl, _, rfl, hbx1⟩⟩
  | 3, ht => cases ht; exact ⟨7, _, _, _, by kernel_rfl, ⟨rfl, rfl, rfl⟩⟩
  | 4, ht => cases ht; exact ⟨2, _, _, _, by kernel_rfl, ⟨rfl, rfl, rfl⟩⟩
  | 5, ht => cases ht; exact ⟨3, _, _, _, by kernel_rfl, ⟨rfl, rfl, rfl⟩⟩
  | n + 6, ht => simp [tabK, tabRANGE] at ht
set_option maxRecDepth 20000 in
theorem init_11 : Init 11 ⟨#[65, 82, 73, 84, 72]⟩ := by
  intro w
  refine (modelOf_arith w).mono ?_
  rintro e w' ⟨rfl, hM⟩
  refine ⟨_, _, _, _, rfl, ⟨hM.lm, hM.km, by omega, hM.hm2, _, _, hM.hm3, fun i t ht => ?_⟩, by omega, by omega, by omega, hM.fr⟩
  match i, ht with
  | 0, ht => cases ht; exact ⟨4, _, _, _, by kernel_rfl, ⟨rfl, rfl, rfl⟩⟩
  | 1, ht => cases ht; exact ⟨5, _, _, _, by kernel_rfl, ⟨rfl, rfl, rfl⟩⟩
  | 2, ht => cases ht; exact ⟨6, _, _, _, by kernel_rfl, ⟨rfl, rfl, rfl⟩⟩
  | 3, ht => cases ht; exact ⟨7, _, _, _, by kernel_rfl, ⟨rfl, rfl, rfl⟩⟩
  | n + 4, ht => simp [tabK, tabARITH] at ht
end Go.Proofs.YtpnbhoeghncnnaaGreatDoor
namespace Go.Proofs.YtpnbhoeghncnnaaGreatDoor
open Go.RowKit
theorem good_call {tb : List CallT} {l : List ScrT} (hg : l.any (badF tb) = false) {m : Nat} {x : ScrT} (h : l[m]? = some x) : ∃ i t, tb.findIdx? (fun t => t.1.toList == x.1.toList) = some i ∧ tb[i]? = some t ∧ t.1 = x.1 ∧ tbIx x.1 tb = i ∧ inNum x.2.1 = true ∧ inNum x.2.2 = true ∧ (1 ≤ t.2.1 ∨ x.2.1 = 0) ∧ (2 ≤ t.2.1 ∨ x.2.2 = 0) := by
  rw [List.any_eq_false] at hg
  have hb := hg x (List.mem_of_getElem? h)
  cases hf : tb.findIdx? (fun t => t.1.toList == x.1.toList) with
  | none => exact absurd (bad_none hf).2 hb
  | some i =>
    obtain ⟨t, ht, hix, hbd⟩ := bad_some hf
    rw [hbd] at hb
    obtain ⟨hi, hp, _⟩ := List.findIdx?_eq_some_iff_getElem.1 hf
    rw [List.getElem?_eq_getElem hi] at ht
    cases ht
    refine ⟨i, tb[i], rfl, List.getElem?_eq_getElem hi, ba_eq hp, hix, ?_⟩
    cases p1 : inNum x.2.1 <;> cases p2 : inNum x.2.2 <;> simp [p1, p2] at hb ⊢
    obtain ⟨h1, h2⟩ := hb
    refine ⟨?_, ?_⟩ <;> omega
def Sep2 (N b kr : Nat) (own oo : Option Nat) : Prop := oo ≠ some b ∧ oo ≠ some kr ∧ (∀ g, oo = some g → own ≠ some g) ∧ (∀ g, own = some g → N ≤ g) ∧ (∀ g, oo = some g → N ≤ g)
theorem Sep2.none (N b kr : Nat) : Sep2 N b kr none none := ⟨(fun h => nomatch h), (fun h => nomatch h), (fun g h => nomatch h), (fun g h => nomatch h), (fun g h => nomatch h)⟩
structure RunR (k b kr dr mb : Nat) (l : List ScrT) (w : World) (R : List Int × Int × Int) (m : Nat) (s : St) (own oo : Option Nat) (O : List Int) (vo : Value) (wr : World) : Prop where
  out : Lst wr vo oo O
  len : O.length ≤ m
  inv : BInv k b kr dr mb s own wr
  good : Good m s
  fr : Fr (fun j => w.heap.size ≤ j) w wr
  sep : Sep2 w.heap.size b kr own oo
  run : runF k (l.drop m) s O = R
theorem Fr.shut {w w' : World} (h : Fr (fun j => w.heap.size ≤ j) w w') : Fr (fun _ => False) w w' := ⟨h.os, h.tape, h.output, h.size, fun k hk _ => h.block k hk (by omega)⟩
theorem one_cellD2 (w : World) (o : Obj) (a : Int) : ∀ j u, ([a].map (fun x => Value.int .i64 x))[j]? = some u → ((w.alloc o).alloc (.cells #[.int .i64 a] 3)).cell? ((⟨w.heap.size + 1, 0, none⟩ : Addr).add j) = some u := one_cell (w.alloc o) (w.heap.size + 1) (by simp) a 3
theorem Lst.at_own {w : World} {v : Value} {own : Option Nat} {xs : List Int} (h : Lst w v own xs) {g : Nat} (hg : own = some g) : ∃ cs, w.heap[g]? = some (.cells cs 3 (0, 0)) := by
  rcases h with ⟨_, ho, _⟩ | ⟨g', o, cap, cs, h1, h2, h3, h4⟩
  · rw [ho] at hg; cases hg
  · rw [h2] at hg; cases hg; exact ⟨cs, h3⟩
theorem BInv.app {k b kr dr mb : Nat} {s : St} {own oo : Option Nat} {w w' : World} {vo : Value} {O : List Int} (h : BInv k b kr dr mb s own w) (hl : Lst w vo oo O) (h1 : oo ≠ some b) (h2 : oo ≠ some kr) (h3 : ∀ g, oo = some g → own ≠ some g) (hf : Fr (fun j => oo = some j) w w') : BInv k b kr dr mb s own w' := by
  have ho := fun g hg => hl.at_own (g := g) hg
  refine ⟨h.lm.fr hf h1 (fun g hg e => h3 g e hg), h.km.fr hf h2, h.dk, hf.heap h.mbp (fun e => by obtain ⟨cs, hc⟩ := ho _ e; rw [h.mbp] at hc; cases hc), ?_⟩
  obtain ⟨es, c, hd, hx⟩ := h.deeds
  refine ⟨es, c, hf.heap hd (fun e => by obtain ⟨cs, hc⟩ := ho _ e; rw [hd] at hc; cases hc), fun i t ht => ?_⟩
  obtain ⟨j, n, first, cap, h4, h5⟩ := hx i t ht
  exact ⟨j, n, first, cap, h4, h5.fr hf (fun B cs hB e => by obtain ⟨cs', hc⟩ := ho _ e; rw [hB] at hc; cases hc)⟩
theorem RunR.next {k b kr dr mb : Nat} {l : List ScrT} {w : World} {R : List Int × Int × Int} {m : Nat} {s : St} {own oo : Option Nat} {O : List Int} {vo : Value} {wr : World} (h : RunR k b kr dr mb l w R m s own oo O vo wr) (hsb : w.heap.size ≤ b ∧ w.heap.size ≤ kr ∧ b ≠ kr) {W3 w4 w5 : World} (f3 : Fr (fun _ => False) wr W3) {own' : Option Nat} {s' : St} (hb : BInv k b kr dr mb s' own' w4) (hnew : New W3 own own') (f4 : Fr (FB b kr own) W3 w4) (f5 : Fr (fun _ => False) w4 w5) :
    Lst w5 vo oo O ∧ BInv k b kr dr mb s' own' w5 ∧ Fr (fun j => w.heap.size ≤ j) w w5 ∧ Sep2 w.heap.size b kr own' oo := by
  obtain ⟨e1, e2, e3, e4, e5⟩ := h.sep
  have hl3 := h.out.fr0 f3
  refine ⟨(hl3.fr f4 ?_).fr0 f5, hb.fr f5 (fun _ _ => id), ?_, e1, e2, ?_, ?_, e5⟩
  · rintro g hg (e | e | e)
    · exact e1 (by rw [hg, e])
    · exact e2 (by rw [hg, e])
    · exact e3 g hg e
  · refine ((h.fr.trans f3 (fun _ _ h => h.elim)).trans f4 ?_).trans f5 (fun _ _ h => h.elim)
    rintro i hi (e | e | e)
    · omega
    · omega
    · exact e4 i e
  · intro g hg hg'
    rcases hnew with e | e | ⟨g', e, hge⟩
    · exact e3 g hg (by rw [← e]; exact hg')
    · rw [e] at hg'; cases hg'
    · rw [e] at hg'; cases hg'
      have := h.out.own_lt hg; have := f3.size; omega
  · intro g hg
    rcases hnew with e | e | ⟨g', e, hge⟩
    · exact e4 g (by rw [← e]; exact hg)
    · rw [e] at hg; cases hg
    · rw [e] at hg; cases hg
      have := h.fr.size; have := f3.size; omega
theorem RunR.stop {k b kr dr mb : Nat} {l : List ScrT} {w : World} {R : List Int × Int × Int} {m : Nat} {s : St} {own oo : Option Nat} {O : List Int} {vo : Value} {wr : World} (h : RunR k b kr dr mb l w R m s own oo O vo wr) (hsb : w.heap.size ≤ b ∧ w.heap.size ≤ kr ∧ b ≠ kr) {W3 w4 w5 : World} (f3 : Fr (fun _ => False) wr W3) (f4 : Fr (FB b kr own) W3 w4) (f5 : Fr (fun _ => False) w4 w5) :
    Lst w5 vo oo O ∧ Fr (fun _ => False) w w5 := by
  obtain ⟨e1, e2, e3, e4, e5⟩ := h.sep
  have hl3 := h.out.fr0 f3
  refine ⟨(hl3.fr f4 ?_).fr0 f5, Fr.shut ?_⟩
  · rintro g hg (e | e | e)
    · exact e1 (by rw [hg, e])
    · exact e2 (by rw [hg, e])
    · exact e3 g hg e
  · refine ((h.fr.trans f3 (fun _ _ h => h.elim)).trans f4 ?_).trans f5 (fun _ _ h => h.elim)
    rintro i hi (e | e | e)
    · omega
    · omega
    · exact e4 i e
theorem RunR.puts {k b kr dr mb : Nat} {w w5 w6 : World} {s' : St} {own' oo oo' : Option Nat} {O : List Int} {vo : Value} (h : Lst w5 vo oo O ∧ BInv k b kr dr mb s' own' w5 ∧ Fr (fun j => w.heap.size ≤ j) w w5 ∧ Sep2 w.heap.size b kr own' oo) (f6 : Fr (fun j => oo = some j) w5 w6) (ho : oo' = oo ∨ oo' = some w5.heap.size) :
    BInv k b kr dr mb s' own' w6 ∧ Fr (fun j => w.heap.size ≤ j) w w6 ∧ Sep2 w.heap.size b kr own' oo' := by
  obtain ⟨hl, hb, hf, e1, e2, e3, e4, e5⟩ := h
  refine ⟨hb.app hl e1 e2 e3 f6, hf.trans f6 (fun i _ e => e5 i e), ?_⟩
  rcases ho with rfl | rfl
  · exact ⟨e1, e2, e3, e4, e5⟩
  · have h1 := hb.b_lt
    have h2 := hb.kr_lt
    refine ⟨fun e => by cases e; omega, fun e => by cases e; omega, fun g e e' => ?_, e4, fun g e => ?_⟩
    · cases e; have := hb.own_lt e'; omega
    · cases e; exact hf.size
theorem drop_scr {l : List ScrT} {k : Nat} {x : ScrT} (h : l[k]? = some x) : l.drop k = x :: l.drop (k + 1) := by
  have hk : k < l.length := by
    rcases Nat.lt_or_ge k l.length with h' | h'
    · exact h'
    · rw [List.getElem?_eq_none h'] at h; cases h
  rw [List.drop_eq_getElem_cons hk]
  rw [List.getElem?_eq_getElem hk] at h; cases h; rfl
theorem runF_step {k : Nat} {l : List ScrT} {m : Nat} {x : ScrT} (hx : l[m]? = some x) {i : Nat} {t : CallT} (hf : (tabK k).findIdx? (fun t => t.1.toList == x.1.toList) = some i) (ht : (tabK k)[i]? = some t) (s : St) (O : List Int) :
    runF k (l.drop m) s O = match stepF k i x.2.1 x.2.2 s with
      | .go n s' => runF k (l.drop (m + 1)) s' (if t.2.2 then O ++ [n] else O)
      | .halt f e => if e ≠ 0 then ([], 0, e) else (O, f, 0) := by
  rw [drop_scr hx]
  rw [runF, hf]
  simp only [ht]
  cases stepF k i x.2.1 x.2.2 s <;> rfl
set_option maxRecDepth 100000 in
set_option maxHeartbeats 8000000 in
theorem model_run (cls : ByteArray) (so : Option Addr) (c k : Nat) (x12 : ByteArray) (l : List ScrT) (w : World) (hk : k = 1 ∨ k = 2 ∨ k = 4 ∨ k = 5 ∨ k = 7 ∨ k = 8 ∨ k = 9 ∨ k = 10 ∨ k = 11) (ht : names12[k]? = some x12) (hix : nmIx cls names12 = k)
    (hc : CallsOf cls (tabK k)) (h0 : (0 : Int) < ((tabK k).length : Int)) (htb : (tabK k).length ≤ 100) (hn : (l.length : Int) ≤ 20) (hs : ScrAt w so l) (hg : l.any (badF (tabK k)) = false) (hi : Init k cls) :
    Calls Tryz.prog 6 #[.string cls, .slice so l.length c] w fun e w' => ∃ v own, e = .returned (.tuple #[v, .int .i64 (runF k l St0 []).2.1, .int .i64 (runF k l St0 []).2.2]) ∧ Lst w' v own (runF k l St0 []).1 ∧ Fr (fun _ => False) w w' := by
  have hchk := check_run cls so c k x12 (tabK k) l w ht hix hc h0 htb (by omega) hs
  rw [hg] at hchk
  have HCHK := Lib.hid hchk
  have HI := Lib.hid hi
  have HS := Lib.hid hs
  have HG := Lib.hid hg
  have HC := Lib.hid hc
  have HTB := Lib.hid htb
  have HKK := Lib.hid hk
  generalize hR : runF k l St0 [] = R
  have HR := Lib.hid hR
  clear hchk hi hs hg hc htb hk hR ht hix h0
  go_enter Tryz.func6, Tryz.ntmps6
  go_wp2
  go_step3
  go_wp2_with (first
    | (go_at_call 14; refine HCHK.out.mono ?_; rintro e w1 ⟨rfl, hf⟩; have HF1 := Lib.hid hf; clear hf)
    | (go_at_call 15; refine (HI.out _).mono ?_; rintro e w2 ⟨b, kr, dr, mb, rfl, hb, hb1, hb2, hb3, hf⟩; have HB0 := Lib.hid hb; have HF2 := Lib.hid (HF1.out.trans hf (fun _ _ h => h)); have HSB := Lib.hid (And.intro (Nat.le_trans HF1.out.size hb1) (And.intro (Nat.le_trans HF1.out.size hb2) hb3)); clear hb hb1 hb2 hb3 hf))
  go_step3
  go_wp2
  go_loopw [9, 10, 27] (fun o f i wr => ∃ (m : Nat) (s : St) (own oo : Option Nat) (O : List Int) (sx : Option Addr) (cx : Nat), i = .int .i64 m ∧ m ≤ l.length ∧ f = .int .i64 0 ∧ o = .slice sx O.length cx ∧ RunR k b kr dr mb l w R m s own oo O (.slice sx O.length cx) wr) (fun _ _ i _ => l.length - (intOf i).toNat)
  case atStart => exact ⟨0, St0, none, none, [], none, 0, rfl, by omega, rfl, rfl, ⟨Lst.nil _, Nat.le_refl _, HB0.out, ⟨by simp [St0], (fun _ h => by cases h), by decide, by decide⟩, HF2.out.weak, Sep2.none _ _ _, by rw [List.drop_zero]; exact HR.out⟩⟩
  case round =>
    obtain ⟨m, s, own, oo, O, sx, cx, rfl, hm, rfl, rfl, hrun⟩ := hrel
    have HRUN := Lib.hid hrun
    clear hrun
    by_cases hlt : m < l.length
    · obtain ⟨⟨nm, va, vb⟩, hy⟩ : ∃ y, l[m]? = some y := ⟨_, List.getElem?_eq_getElem hlt⟩
      obtain ⟨gg, oof, rfl, y0, y1, y2⟩ := HS.out.fr (w' := wr) HRUN.out.fr.shut m _ hy
      obtain ⟨i, ⟨tn, na, tr⟩, hfi, hti, hnm, htix, hva, hvb, _, _⟩ := good_call HG.out hy
      dsimp only at y0 y1 y2 hfi hnm htix hva hvb
      have HST := Lib.hid (runF_step hy hfi hti s O)
      subst hnm
      have HY := Lib.hid hy
      have HTI := Lib.hid hti
      have HIX := Lib.hid htix
      have HVA := Lib.hid hva
      have HVB := Lib.hid hvb
      clear hy hfi hti htix hva hvb
      have Z0 := Lib.hid (show (wr.alloc (.cells #[.string tn, .int .i64 va, .int .i64 vb] 40)).cell? ⟨wr.heap.size, 0, none⟩ = some (.string tn) by rw [heap_cell (heap_alloc_new wr _)]; rfl)
      have Z1 := Lib.hid (show (wr.alloc (.cells #[.string tn, .int .i64 va, .int .i64 vb] 40)).cell? ⟨wr.heap.size, 1, none⟩ = some (.int .i64 va) by rw [heap_cell (heap_alloc_new wr _)]; rfl)
      have Z2 := Lib.hid (show (wr.alloc (.cells #[.string tn, .int .i64 va, .int .i64 vb] 40)).cell? ⟨wr.heap.size, 2, none⟩ = some (.int .i64 vb) by rw [heap_cell (heap_alloc_new wr _)]; rfl)
      have Z3 := Lib.hid (show wr.heap.size < (wr.alloc (.cells #[.string tn, .int .i64 va, .int .i64 vb] 40)).heap.size by simp)
      have LB := Lib.hid HRUN.out.inv.b_lt
      have LK := Lib.hid HRUN.out.inv.kr_lt
      have LO := Lib.hid (fun g (h : own = some g) => HRUN.out.inv.own_lt h)
      have BI := Lib.hid HRUN.out.inv
      have GD := Lib.hid (show Good 100 s from ⟨by have h1 := HRUN.out.good.len; omega, HRUN.out.good.all, HRUN.out.good.lo, HRUN.out.good.hi⟩)
      cases hstep : stepF k i va vb s with
      | go n s' =>
        have HSTEP := Lib.hid hstep
        have HR2 := Lib.hid (show runF k (l.drop (m + 1)) s' (if tr then O ++ [n] else O) = R by rw [← HRUN.out.run, HST.out]; dsimp only; rw [hstep])
        have HG2 := Lib.hid (good_step (n := m) HVA.out HVB.out HRUN.out.good hstep)
        clear hstep
        cases tr with
        | false =>
          go_wp2_with (first
            | (go_at_call 16; (with_reducible refine (callOf_yes cls tn (tabK k) HC.out HTB.out i (tn, na, false) HTI.out HIX.out _).mono ?_); rintro e w2' ⟨rfl, hf⟩; have HF3 := Lib.hid hf; have q0 := hf.cell Z0.out id; have q1 := hf.cell Z1.out id; have q2 := hf.cell Z2.out id; have hz := Nat.lt_of_lt_of_le Z3.out hf.size; clear hf; dsimp only)
            | (go_at_call 17
               have HW3 := Lib.hid ((Fr.alloc (fun _ => False) wr (.cells #[.string tn, .int .i64 va, .int .i64 vb] 40)).trans (HF3.out.trans (Fr.alloc (fun _ => False) w2' (.cells #[.string tn, .int .i64 na, .bool false] 48)) (fun _ _ h => h)) (fun _ _ h => h))
               have hst := bstep HKK.out (BI.out.fr HW3.out (fun _ _ h => h)) GD.out HVA.out HVB.out HTI.out
               rw [HSTEP.out] at hst
               refine hst.mono ?_
               clear hst
               rintro e w4 ⟨rfl, own', hb', hnew, hf4⟩
               have HB4 := Lib.hid hb'
               have HN4 := Lib.hid hnew
               have HF4 := Lib.hid hf4
               have hblk : (w2'.alloc (.cells #[.string tn, .int .i64 na, .bool false] 48)).heap[w2'.heap.size]? = some (.cells #[.string tn, .int .i64 na, .bool false] 48 (0, 0)) := heap_alloc_new w2' _
               have hblk4 := hf4.heap hblk (by rintro (e | e | e); have := LB.out; omega; have := LK.out; omega; have := LO.out _ e; omega)
               have r2 : w4.cell? ⟨w2'.heap.size, 2, none⟩ = some (.bool false) := by rw [heap_cell hblk4]; rfl
               have hz4 := heap_lt hblk4
               clear hb' hnew hf4 hblk hblk4))
          go_roundw
          case rel => exact ⟨m + 1, s', own', oo, O, sx, cx, by go_num, by omega, rfl, rfl, (by have hN := HRUN.out.next HSB.out HW3.out HB4.out HN4.out HF4.out (Fr.alloc (fun _ => False) w4 (.cells #[.int .i64 0, .int .i64 0] 52)); exact ⟨hN.1, by have := HRUN.out.len; omega, hN.2.1, HG2.out, hN.2.2.1, hN.2.2.2, HR2.out⟩)⟩
          case measure => simp [intOf]; omega
        | true =>
          go_wp2_with (first
            | (go_at_call 16; (with_reducible refine (callOf_yes cls tn (tabK k) HC.out HTB.out i (tn, na, true) HTI.out HIX.out _).mono ?_); rintro e w2' ⟨rfl, hf⟩; have HF3 := Lib.hid hf; have q0 := hf.cell Z0.out id; have q1 := hf.cell Z1.out id; have q2 := hf.cell Z2.out id; have hz := Nat.lt_of_lt_of_le Z3.out hf.size; clear hf; dsimp only)
            | (go_at_call 17
               have HW3 := Lib.hid ((Fr.alloc (fun _ => False) wr (.cells #[.string tn, .int .i64 va, .int .i64 vb] 40)).trans (HF3.out.trans (Fr.alloc (fun _ => False) w2' (.cells #[.string tn, .int .i64 na, .bool true] 48)) (fun _ _ h => h)) (fun _ _ h => h))
               have hst := bstep HKK.out (BI.out.fr HW3.out (fun _ _ h => h)) GD.out HVA.out HVB.out HTI.out
               rw [HSTEP.out] at hst
               refine hst.mono ?_
               clear hst
               rintro e w4 ⟨rfl, own', hb', hnew, hf4⟩
               have HB4 := Lib.hid hb'
               have HN4 := Lib.hid hnew
               have HF4 := Lib.hid hf4
               have hblk : (w2'.alloc (.cells #[.string tn, .int .i64 na, .bool true] 48)).heap[w2'.heap.size]? = some (.cells #[.string tn, .int .i64 na, .bool true] 48 (0, 0)) := heap_alloc_new w2' _
               have hblk4 := hf4.heap hblk (by rintro (e | e | e); have := LB.out; omega; have := LK.out; omega; have := LO.out _ e; omega)
               have r2 : w4.cell? ⟨w2'.heap.size, 2, none⟩ = some (.bool true) := by rw [heap_cell hblk4]; rfl
               have hz4 := heap_lt hblk4
               clear hb' hnew hf4 hblk hblk4)
            | (at_builtin; refine wpList_appG rfl (.tmp 59) (.tmp 61) rfl _ oo O ((HRUN.out.next HSB.out HW3.out HB4.out HN4.out HF4.out ((Fr.alloc (fun _ => False) w4 (.cells #[.int .i64 0, .int .i64 0] 52)).trans (Fr.alloc (fun _ => False) _ (.cells #[.int .i64 n] 3)) (fun _ _ h => h))).1) O.length rfl rfl _ 1 _ [n] rfl ⟨rfl, fun _ => ⟨_, rfl, one_cellD2 w4 _ n⟩⟩ (by have := HRUN.out.len; omega) ?_; intro sx' cx' oo' w6 hl6 hf6 ho6
               have HN := HRUN.out.next HSB.out HW3.out HB4.out HN4.out HF4.out ((Fr.alloc (fun _ => False) w4 (.cells #[.int .i64 0, .int .i64 0] 52)).trans (Fr.alloc (fun _ => False) _ (.cells #[.int .i64 n] 3)) (fun _ _ h => h))
               have HP := RunR.puts HN hf6 ho6
               have REL2 := Lib.hid (show RunR k b kr dr mb l w R (m + 1) s' own' oo' (O ++ [n]) (.slice sx' (O ++ [n]).length cx') w6 from ⟨by rw [List.length_append]; exact hl6, by have := HRUN.out.len; simp; omega, HP.1, HG2.out, HP.2.1, HP.2.2, HR2.out⟩)
               clear hl6 hf6 ho6 HN HP))
          go_roundw
          case rel => exact ⟨m + 1, s', own', oo', O ++ [n], sx', cx', by go_num, by omega, rfl, by rw [List.length_append]; rfl, REL2.out⟩
          case measure => simp [intOf]; omega
      | halt f er =>
        have HSTEP := Lib.hid hstep
        have HFAIR := Lib.hid (halt_fair hstep)
        by_cases he : er = 0
        · subst he
          have hf0 : (f != 0) = true := by simpa using HFAIR.out rfl
          have HR2 := Lib.hid (show (O, f, (0 : Int)) = R by rw [← HRUN.out.run, HST.out]; dsimp only; rw [hstep]; rfl)
          clear hstep
          go_wp2_with (first
            | (go_at_call 16; (with_reducible refine (callOf_yes cls tn (tabK k) HC.out HTB.out i (tn, na, tr) HTI.out HIX.out _).mono ?_); rintro e w2' ⟨rfl, hf⟩; have HF3 := Lib.hid hf; have q0 := hf.cell Z0.out id; have q1 := hf.cell Z1.out id; have q2 := hf.cell Z2.out id; have hz := Nat.lt_of_lt_of_le Z3.out hf.size; clear hf; dsimp only)
            | (go_at_call 17
               have HW3 := Lib.hid ((Fr.alloc (fun _ => False) wr (.cells #[.string tn, .int .i64 va, .int .i64 vb] 40)).trans (HF3.out.trans (Fr.alloc (fun _ => False) w2' (.cells #[.string tn, .int .i64 na, .bool tr] 48)) (fun _ _ h => h)) (fun _ _ h => h))
               have hst := bstep HKK.out (BI.out.fr HW3.out (fun _ _ h => h)) GD.out HVA.out HVB.out HTI.out
               rw [HSTEP.out] at hst
               refine hst.mono ?_
               clear hst
               rintro e w4 ⟨rfl, hf4⟩
               have HF4 := Lib.hid hf4
               clear hf4))
          rw [Exit.noGoto_ret]
          go_ret3
          have hS := HRUN.out.stop HSB.out HW3.out HF4.out (Fr.alloc (fun _ => False) w4 (.cells #[.int .i64 f, .int .i64 0] 52))
          rw [← HR2.out]
          exact ⟨_, oo, rfl, hS.1, hS.2⟩
        · have he0 : (er != 0) = true := by simpa using he
          have HR2 := Lib.hid (show (([] : List Int), (0 : Int), er) = R by rw [← HRUN.out.run, HST.out]; dsimp only; rw [hstep]; dsimp only; rw [if_pos he])
          clear hstep
          go_wp2_with (first
            | (go_at_call 16; (with_reducible refine (callOf_yes cls tn (tabK k) HC.out HTB.out i (tn, na, tr) HTI.out HIX.out _).mono ?_); rintro e w2' ⟨rfl, hf⟩; have HF3 := Lib.hid hf; have q0 := hf.cell Z0.out id; have q1 := hf.cell Z1.out id; have q2 := hf.cell Z2.out id; have hz := Nat.lt_of_lt_of_le Z3.out hf.size; clear hf; dsimp only)
            | (go_at_call 17
               have HW3 := Lib.hid ((Fr.alloc (fun _ => False) wr (.cells #[.string tn, .int .i64 va, .int .i64 vb] 40)).trans (HF3.out.trans (Fr.alloc (fun _ => False) w2' (.cells #[.string tn, .int .i64 na, .bool tr] 48)) (fun _ _ h => h)) (fun _ _ h => h))
               have hst := bstep HKK.out (BI.out.fr HW3.out (fun _ _ h => h)) GD.out HVA.out HVB.out HTI.out
               rw [HSTEP.out] at hst
               refine hst.mono ?_
               clear hst
               rintro e w4 ⟨rfl, hf4⟩
               have HF4 := Lib.hid hf4
               clear hf4))
          go_quiet (fail)
          go_wp2
          try rw [Exit.noGoto_ret]
          go_ret3
          have hS := HRUN.out.stop HSB.out HW3.out HF4.out (Fr.alloc (fun _ => False) w4 (.cells #[.int .i64 f, .int .i64 er] 52))
          rw [← HR2.out]
          exact ⟨_, none, rfl, Lst.nil _, hS.2.trans (Fr.drewN _ _ _) (fun _ _ h => h)⟩
    · obtain rfl : l.length = m := by omega
      have HR2 := Lib.hid (show (O, (0 : Int), (0 : Int)) = R by rw [← HRUN.out.run, List.drop_length]; rfl)
      go_wp2
      rw [Exit.noGoto_ret]
      go_ret3
      rw [← HR2.out]
      exact ⟨_, oo, rfl, HRUN.out.out, HRUN.out.fr.shut⟩
end Go.Proofs.YtpnbhoeghncnnaaGreatDoor

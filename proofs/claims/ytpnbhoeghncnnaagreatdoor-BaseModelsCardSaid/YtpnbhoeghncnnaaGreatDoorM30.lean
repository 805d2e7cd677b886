/-
  A part of the proof of Rows.BaseModelsCardSaid (for every class and script BaseModels answers true, and its arguments read as they did; the listed library variables as the program text lays them): texts UG. By an AI agent.
-/
import Derived.Outline
import Derived.RangeFuncBox
import Derived.RangeFuncNested
import Derived.RangeFuncBound
import Derived.RangeFuncCalls
import Derived.RangeFuncLeaves
import Derived.Shelf.Abstract
import Derived.Shelf.RegionOpen
import Derived.WalkKit
import Derived.OwnWalkIn
import Derived.TacticsInMore
import Derived.LoopNIn
import Derived.LoopIn
import Derived.Sort.QuietTacIn
import Derived.Sort.BigQuietIn
import Derived.Deep.QuietTactic
import Derived.BigQuiet
import Derived.Test.YtpnbhoeghncnnaaGreatDoorM29
set_option linter.all false
set_option linter.unusedVariables false
set_option linter.unusedSimpArgs false
namespace Go.Proofs.YtpnbhoeghncnnaaGreatDoor
open Go.RowKit
attribute [local go_sem] Oper.semAt_some
theorem Fr.grown {w w' : World} (h : Fr (fun _ => False) w w') : w.grownBy w' none := ⟨h.os, h.tape, h.output, h.size, fun k hk _ => h.block k hk id⟩
def line1 : ByteArray := ⟨#[99, 32, 46, 32, 97, 100, 100, 32, 40, 32, 50, 32, 41, 32, 59]⟩
def line2 : ByteArray := ⟨#[112, 117, 116, 32, 99, 32, 46, 32, 99, 111, 117, 110, 116, 32, 59]⟩
def KpL (b2 gg : Nat) (W W' : World) : Prop := W'.heap[b2]? = W.heap[b2]? ∧ W'.heap[gg]? = W.heap[gg]?
theorem callsOf_C : CallsOf ⟨#[67, 79, 85, 78, 84, 69, 82]⟩ tabCOUNTER := fun w => calls_COUNTER w
set_option maxRecDepth 100000 in
set_option maxHeartbeats 8000000 in
theorem lines1_in (n : Nat) (hn : 1 ≤ n) (l b1 b2 gg c t2 : Nat) (J Jx : List ByteArray → World → Prop)
    (W : World) (hJ : AbidesFrom W.heap.size J)
    (hY : ∀ pre x W1, J pre W1 → pre.length < 2 → YieldAt Fence.wide (n - 1) Tryz.prog l #[.string x] W1 fun e W' =>
      (e = .returned (.bool true) ∧ J (pre ++ [x]) W' ∧ KpL b2 gg W1 W') ∨ (e = .returned (.bool false) ∧ Jx (pre ++ [x]) W'))
    (hc1 : W.cell? ⟨b1, 0, none⟩ = some (.slice (some ⟨gg, 0, none⟩) 2 c)) (hc2 : W.heap[b2]? = some (.cells #[.string ⟨#[67, 79, 85, 78, 84, 69, 82]⟩] t2 (0, 0))) (hgg : W.heap[gg]? = some (.cells #[.string ⟨#[97, 100, 100]⟩, .int .i64 2, .int .i64 0, .string ⟨#[99, 111, 117, 110, 116]⟩, .int .i64 0, .int .i64 0] 40 (0, 0))) (h0 : J [] W) :
    CallsIn Fence.wide n Tryz.prog 90 #[.func (.yield l) #[] #[], .pointer (some ⟨b1, 0, none⟩), .pointer (some ⟨b2, 0, none⟩)] W fun e W' => (∃ v, e = .returned v) ∧
      ((∃ ys, ys = [line1, line2] ∧ J ys W') ∨ (∃ pre, pre <+: [line1, line2] ∧ Jx pre W')) := by
  have HJ := Lib.hid hJ
  have HY := Lib.hid hY
  have H0 := Lib.hid h0
  have HC2 := Lib.hid hc2
  have HG := Lib.hid hgg
  clear hJ hY h0 hc2 hgg
  have q0 := fun w => number_0 w
  refine callsIn_of_wp Tryz.func90 rfl trivial ?_ rfl
  simp only [Tryz.ntmps90, List.size_toArray, List.length_cons, List.length_nil, Nat.reduceAdd, Nat.reduceSub, Array.replicate_succ, Array.replicate_zero, List.push_toArray, List.append_toArray, List.nil_append, List.cons_append]
  clear q0
  gi_wp2
  gi_loopw [13] (fun i wr => ∃ k : Nat, k ≤ 2 ∧ i = .int .i64 k ∧ J ([line1, line2].take k) wr ∧ wr.heap[b2]? = some (.cells #[.string ⟨#[67, 79, 85, 78, 84, 69, 82]⟩] t2 (0, 0)) ∧ wr.heap[gg]? = some (.cells #[.string ⟨#[97, 100, 100]⟩, .int .i64 2, .int .i64 0, .string ⟨#[99, 111, 117, 110, 116]⟩, .int .i64 0, .int .i64 0] 40 (0, 0))) (fun i _ => 2 - (intOf i).toNat)
  case atStart => exact ⟨0, by omega, rfl, H0.out, HC2.out, HG.out⟩
  case round =>
    obtain ⟨k, hk, rfl, hJs, HB2, HGG⟩ := hrel
    have HJS := Lib.hid hJs
    clear hJs
    rcases Nat.eq_zero_or_pos k with rfl | hk0
    · have u0 := HJS.out
      have y0 : wr.cell? ⟨gg, 0, none⟩ = some (.string ⟨#[97, 100, 100]⟩) := by rw [heap_cell HGG]; rfl
      have y1 : wr.cell? ⟨gg, 1, none⟩ = some (.int .i64 2) := by rw [heap_cell HGG]; rfl
      have y2 : wr.cell? ⟨gg, 2, none⟩ = some (.int .i64 0) := by rw [heap_cell HGG]; rfl
      have k2 : wr.cell? ⟨b2, 0, none⟩ = some (.string ⟨#[67, 79, 85, 78, 84, 69, 82]⟩) := by rw [heap_cell HB2]; rfl
      have lt2 := heap_lt HB2
      have ltg := heap_lt HGG
      have KB2 := Lib.hid HB2
      have KGG := Lib.hid HGG
      have BXa := Lib.hid (heap_alloc_new wr (.cells #[.string ⟨#[97, 100, 100]⟩, .int .i64 2, .int .i64 0] 40))
      clear HB2 HGG
      gi_wp2_with (refine ⟨trivial, ?_⟩; gi_at_call 16
                   refine (callsIn_wide.2 (callOf_yes ⟨#[67, 79, 85, 78, 84, 69, 82]⟩ ⟨#[97, 100, 100]⟩ tabCOUNTER callsOf_C (by decide) 2 (⟨#[97, 100, 100]⟩, 1, false) rfl (by kernel_rfl) _)).mono ?_
                   rintro e w2 ⟨rfl, hf⟩
                   have FA := Lib.hid ((Fr.alloc (fun _ => False) wr (.cells #[.string ⟨#[97, 100, 100]⟩, .int .i64 2, .int .i64 0] 40)).trans hf (fun _ _ h => h))
                   have BXb := hf.heap BXa.out id
                   have d1 : w2.cell? ⟨wr.heap.size, 0, none⟩ = some (.string ⟨#[97, 100, 100]⟩) := by rw [heap_cell BXb]; rfl
                   have d2 : w2.cell? ⟨wr.heap.size, 1, none⟩ = some (.int .i64 2) := by rw [heap_cell BXb]; rfl
                   have d3 : w2.cell? ⟨wr.heap.size, 2, none⟩ = some (.int .i64 0) := by rw [heap_cell BXb]; rfl
                   have hz := heap_lt BXb
                   have e2 : w2.cell? ⟨b2, 0, none⟩ = some (.string ⟨#[67, 79, 85, 78, 84, 69, 82]⟩) := by rw [heap_cell (FA.out.heap KB2.out id)]; rfl
                   have hz2 := heap_lt (FA.out.heap KB2.out id)
                   clear hf BXb)
      have FB2 := Lib.hid (FA.out.trans (Fr.alloc (fun _ => False) w2 (.cells #[.string ⟨#[97, 100, 100]⟩, .int .i64 1, .bool false] 48)) (fun _ _ h => h))
      have r0 : (w2.alloc (.cells #[.string ⟨#[97, 100, 100]⟩, .int .i64 1, .bool false] 48)).cell? ⟨wr.heap.size, 0, none⟩ = some (.string ⟨#[97, 100, 100]⟩) := (Fr.alloc (fun _ => False) w2 (.cells #[.string ⟨#[97, 100, 100]⟩, .int .i64 1, .bool false] 48)).cell d1 id
      have r1 : (w2.alloc (.cells #[.string ⟨#[97, 100, 100]⟩, .int .i64 1, .bool false] 48)).cell? ⟨wr.heap.size, 1, none⟩ = some (.int .i64 2) := (Fr.alloc (fun _ => False) w2 (.cells #[.string ⟨#[97, 100, 100]⟩, .int .i64 1, .bool false] 48)).cell d2 id
      have r2 : (w2.alloc (.cells #[.string ⟨#[97, 100, 100]⟩, .int .i64 1, .bool false] 48)).cell? ⟨wr.heap.size, 2, none⟩ = some (.int .i64 0) := (Fr.alloc (fun _ => False) w2 (.cells #[.string ⟨#[97, 100, 100]⟩, .int .i64 1, .bool false] 48)).cell d3 id
      have r3 : (w2.alloc (.cells #[.string ⟨#[97, 100, 100]⟩, .int .i64 1, .bool false] 48)).cell? ⟨w2.heap.size, 1, none⟩ = some (.int .i64 1) := by rw [heap_cell (heap_alloc_new w2 _)]; rfl
      have r4 : (w2.alloc (.cells #[.string ⟨#[97, 100, 100]⟩, .int .i64 1, .bool false] 48)).cell? ⟨w2.heap.size, 2, none⟩ = some (.bool false) := by rw [heap_cell (heap_alloc_new w2 _)]; rfl
      have r5 : (w2.alloc (.cells #[.string ⟨#[97, 100, 100]⟩, .int .i64 1, .bool false] 48)).cell? ⟨b2, 0, none⟩ = some (.string ⟨#[67, 79, 85, 78, 84, 69, 82]⟩) := (Fr.alloc (fun _ => False) w2 (.cells #[.string ⟨#[97, 100, 100]⟩, .int .i64 1, .bool false] 48)).cell e2 id
      clear d1 d2 d3 e2 y0 y1 y2 k2 lt2 ltg hz hz2 hc1
      generalize w2.alloc (.cells #[.string ⟨#[97, 100, 100]⟩, .int .i64 1, .bool false] 48) = W3 at FB2 r0 r1 r2 r3 r4 r5 ⊢
      generalize w2.heap.size = hb2 at r3 r4 ⊢
      generalize wr.heap.size = hb1 at r0 r1 r2 ⊢
      refine wpIn_wide.2 ?_
      clear u0
      have i0 : ∀ (x0 x1 x2 : Value) (w : World), (Instr.index 101 (.agg #[x0, x1, x2]) (.int .i64 1)).run Tryz.prog w = .ok x1 w := fun x0 x1 x2 w => by kernel_rfl
      refine wp_region_quiet_lit (by kernel_rfl) (by kernel_rfl) ?_
      go_big_quiet_step ((go_at_call 91; exact Calls.quiet_of_same (number_2 _)))
      go_big_quiet_step ((go_at_call 91; exact Calls.quiet_of_same (number_2 _)))
      go_big_quiet_step ((go_at_call 91; exact Calls.quiet_of_same (number_2 _)))
      go_big_quiet_step ((go_at_call 91; exact Calls.quiet_of_same (number_2 _)))
      go_big_quiet_step ((go_at_call 91; exact Calls.quiet_of_same (number_2 _)))
      go_big_quiet_step ((go_at_call 91; exact Calls.quiet_of_same (number_2 _)))
      go_big_quiet_step ((go_at_call 91; exact Calls.quiet_of_same (number_2 _)))
      go_big_quiet_step ((go_at_call 91; exact Calls.quiet_of_same (number_2 _)))
      go_big_quiet_step ((go_at_call 91; exact Calls.quiet_of_same (number_2 _)))
      go_big_quiet_step ((go_at_call 91; exact Calls.quiet_of_same (number_2 _)))
      go_big_quiet_step ((go_at_call 91; exact Calls.quiet_of_same (number_2 _)))
      go_big_quiet_step ((go_at_call 91; exact Calls.quiet_of_same (number_2 _)))
      go_big_quiet_step ((go_at_call 91; exact Calls.quiet_of_same (number_0 _)))
      go_big_quiet_step ((go_at_call 91; exact Calls.quiet_of_same (number_2 _)))
      go_big_quiet_step ((go_at_call 91; exact Calls.quiet_of_same (number_2 _)))
      go_big_quiet_step ((go_at_call 91; exact Calls.quiet_of_same (number_2 _)))
      go_big_quiet_step ((go_at_call 91; exact Calls.quiet_of_same (number_2 _)))
      go_big_quiet_step ((go_at_call 91; exact Calls.quiet_of_same (number_2 _)))
      go_big_quiet_step ((go_at_call 91; exact Calls.quiet_of_same (number_2 _)))
      go_big_quiet_step ((go_at_call 91; exact Calls.quiet_of_same (number_2 _)))
      refine wpQuiet_nil ?_
      intro _ hw'
      obtain ⟨nq, hw''⟩ := hw'
      subst hw''
      rename_i Q2 K1 aa1 K2 aa2
      have FY := Lib.hid (FB2.out.trans (Fr.drewN (fun _ => False) W3 nq) (fun _ _ h => h))
      replace r0 := (Fr.drewN (fun _ => False) W3 nq).cell r0 id
      replace r1 := (Fr.drewN (fun _ => False) W3 nq).cell r1 id
      replace r2 := (Fr.drewN (fun _ => False) W3 nq).cell r2 id
      replace r3 := (Fr.drewN (fun _ => False) W3 nq).cell r3 id
      replace r4 := (Fr.drewN (fun _ => False) W3 nq).cell r4 id
      replace r5 := (Fr.drewN (fun _ => False) W3 nq).cell r5 id
      refine aa2 _ _ ?_
      clear FB2 aa2 i0
      generalize W3.drewN nq = Wy at FY r0 r1 r2 r3 r4 r5 ⊢
      have hJy : J (List.take 0 [line1, line2]) Wy := HJ.out _ wr Wy none HJS.out FY.out.grown (by intro r hr; cases hr)
      obtain ⟨fn, tmps, assign, body, hy, hR⟩ := HY.out _ line1 Wy hJy (by decide)
      have hch : (({ data := #[99, 32, 46, 32] } : ByteArray) ++ ({ data := #[97, 100, 100] } : ByteArray) ++ ({ data := #[32] } : ByteArray) ++ (({ data := #[40, 32] } : ByteArray) ++ ({ data := #[50] } : ByteArray) ++ ({ data := #[32, 41, 32] } : ByteArray)) ++ ({ data := #[59] } : ByteArray)) = line1 := by kernel_rfl
      rw [← hch] at hy
      have HR := Lib.hid hR
      have HB3 := Lib.hid (FY.out.heap KB2.out id)
      have HG3 := Lib.hid (FY.out.heap KGG.out id)
      clear hR hch hJy FY KB2 KGG HJ HY H0 HJS BXa FA
      gi_wp2
      refine HR.out.mono ?_
      rintro e W3 (⟨rfl, hJ3, hk3⟩ | ⟨rfl, hJx3⟩)
      · gi_wp2
        go_roundw
        case rel => exact ⟨1, by decide, rfl, hJ3, hk3.1.trans HB3.out, hk3.2.trans HG3.out⟩
        case measure => decide
      · gi_wp2
        refine bodyPost_ret (results_none rfl _ _ _) rfl ?_
        exact ⟨⟨_, rfl⟩, .inr ⟨_, ⟨[line2], rfl⟩, hJx3⟩⟩
    · rcases Nat.eq_or_lt_of_le hk0 with rfl | hk1
      · have u0 := HJS.out
        have y0 : wr.cell? ⟨gg, 3, none⟩ = some (.string ⟨#[99, 111, 117, 110, 116]⟩) := by rw [heap_cell HGG]; rfl
        have y1 : wr.cell? ⟨gg, 4, none⟩ = some (.int .i64 0) := by rw [heap_cell HGG]; rfl
        have y2 : wr.cell? ⟨gg, 5, none⟩ = some (.int .i64 0) := by rw [heap_cell HGG]; rfl
        have k2 : wr.cell? ⟨b2, 0, none⟩ = some (.string ⟨#[67, 79, 85, 78, 84, 69, 82]⟩) := by rw [heap_cell HB2]; rfl
        have lt2 := heap_lt HB2
        have ltg := heap_lt HGG
        have KB2 := Lib.hid HB2
        have KGG := Lib.hid HGG
        have BXa := Lib.hid (heap_alloc_new wr (.cells #[.string ⟨#[99, 111, 117, 110, 116]⟩, .int .i64 0, .int .i64 0] 40))
        clear HB2 HGG
        gi_wp2_with (refine ⟨trivial, ?_⟩; gi_at_call 16
                     refine (callsIn_wide.2 (callOf_yes ⟨#[67, 79, 85, 78, 84, 69, 82]⟩ ⟨#[99, 111, 117, 110, 116]⟩ tabCOUNTER callsOf_C (by decide) 0 (⟨#[99, 111, 117, 110, 116]⟩, 0, true) rfl (by kernel_rfl) _)).mono ?_
                     rintro e w2 ⟨rfl, hf⟩
                     have FA := Lib.hid ((Fr.alloc (fun _ => False) wr (.cells #[.string ⟨#[99, 111, 117, 110, 116]⟩, .int .i64 0, .int .i64 0] 40)).trans hf (fun _ _ h => h))
                     have BXb := hf.heap BXa.out id
                     have d1 : w2.cell? ⟨wr.heap.size, 0, none⟩ = some (.string ⟨#[99, 111, 117, 110, 116]⟩) := by rw [heap_cell BXb]; rfl
                     have d2 : w2.cell? ⟨wr.heap.size, 1, none⟩ = some (.int .i64 0) := by rw [heap_cell BXb]; rfl
                     have d3 : w2.cell? ⟨wr.heap.size, 2, none⟩ = some (.int .i64 0) := by rw [heap_cell BXb]; rfl
                     have hz := heap_lt BXb
                     have e2 : w2.cell? ⟨b2, 0, none⟩ = some (.string ⟨#[67, 79, 85, 78, 84, 69, 82]⟩) := by rw [heap_cell (FA.out.heap KB2.out id)]; rfl
                     have hz2 := heap_lt (FA.out.heap KB2.out id)
                     clear hf BXb)
        have FB2 := Lib.hid (FA.out.trans (Fr.alloc (fun _ => False) w2 (.cells #[.string ⟨#[99, 111, 117, 110, 116]⟩, .int .i64 0, .bool true] 48)) (fun _ _ h => h))
        have r0 : (w2.alloc (.cells #[.string ⟨#[99, 111, 117, 110, 116]⟩, .int .i64 0, .bool true] 48)).cell? ⟨wr.heap.size, 0, none⟩ = some (.string ⟨#[99, 111, 117, 110, 116]⟩) := (Fr.alloc (fun _ => False) w2 (.cells #[.string ⟨#[99, 111, 117, 110, 116]⟩, .int .i64 0, .bool true] 48)).cell d1 id
        have r1 : (w2.alloc (.cells #[.string ⟨#[99, 111, 117, 110, 116]⟩, .int .i64 0, .bool true] 48)).cell? ⟨wr.heap.size, 1, none⟩ = some (.int .i64 0) := (Fr.alloc (fun _ => False) w2 (.cells #[.string ⟨#[99, 111, 117, 110, 116]⟩, .int .i64 0, .bool true] 48)).cell d2 id
        have r2 : (w2.alloc (.cells #[.string ⟨#[99, 111, 117, 110, 116]⟩, .int .i64 0, .bool true] 48)).cell? ⟨wr.heap.size, 2, none⟩ = some (.int .i64 0) := (Fr.alloc (fun _ => False) w2 (.cells #[.string ⟨#[99, 111, 117, 110, 116]⟩, .int .i64 0, .bool true] 48)).cell d3 id
        have r3 : (w2.alloc (.cells #[.string ⟨#[99, 111, 117, 110, 116]⟩, .int .i64 0, .bool true] 48)).cell? ⟨w2.heap.size, 1, none⟩ = some (.int .i64 0) := by rw [heap_cell (heap_alloc_new w2 _)]; rfl
        have r4 : (w2.alloc (.cells #[.string ⟨#[99, 111, 117, 110, 116]⟩, .int .i64 0, .bool true] 48)).cell? ⟨w2.heap.size, 2, none⟩ = some (.bool true) := by rw [heap_cell (heap_alloc_new w2 _)]; rfl
        have r5 : (w2.alloc (.cells #[.string ⟨#[99, 111, 117, 110, 116]⟩, .int .i64 0, .bool true] 48)).cell? ⟨b2, 0, none⟩ = some (.string ⟨#[67, 79, 85, 78, 84, 69, 82]⟩) := (Fr.alloc (fun _ => False) w2 (.cells #[.string ⟨#[99, 111, 117, 110, 116]⟩, .int .i64 0, .bool true] 48)).cell e2 id
        clear d1 d2 d3 e2 y0 y1 y2 k2 lt2 ltg hz hz2 hc1
        generalize w2.alloc (.cells #[.string ⟨#[99, 111, 117, 110, 116]⟩, .int .i64 0, .bool true] 48) = W3 at FB2 r0 r1 r2 r3 r4 r5 ⊢
        generalize w2.heap.size = hb2 at r3 r4 ⊢
        generalize wr.heap.size = hb1 at r0 r1 r2 ⊢
        refine wpIn_wide.2 ?_
        clear u0
        have i0 : ∀ (x0 x1 x2 : Value) (w : World), (Instr.index 101 (.agg #[x0, x1, x2]) (.int .i64 0)).run Tryz.prog w = .ok x0 w := fun x0 x1 x2 w => by kernel_rfl
        refine wp_region_quiet_lit (by kernel_rfl) (by kernel_rfl) ?_
        go_big_quiet_step ((go_at_call 91; exact Calls.quiet_of_same (number_0 _)))
        go_big_quiet_step ((go_at_call 91; exact Calls.quiet_of_same (number_0 _)))
        go_big_quiet_step ((go_at_call 91; exact Calls.quiet_of_same (number_0 _)))
        go_big_quiet_step ((go_at_call 91; exact Calls.quiet_of_same (number_0 _)))
        go_big_quiet_step ((go_at_call 91; exact Calls.quiet_of_same (number_0 _)))
        go_big_quiet_step ((go_at_call 91; exact Calls.quiet_of_same (number_0 _)))
        go_big_quiet_step ((go_at_call 91; exact Calls.quiet_of_same (number_0 _)))
        go_big_quiet_step ((go_at_call 91; exact Calls.quiet_of_same (number_0 _)))
        go_big_quiet_step ((go_at_call 91; exact Calls.quiet_of_same (number_0 _)))
        go_big_quiet_step ((go_at_call 91; exact Calls.quiet_of_same (number_0 _)))
        go_big_quiet_step ((go_at_call 91; exact Calls.quiet_of_same (number_0 _)))
        go_big_quiet_step ((go_at_call 91; exact Calls.quiet_of_same (number_0 _)))
        go_big_quiet_step ((go_at_call 91; exact Calls.quiet_of_same (number_0 _)))
        go_big_quiet_step ((go_at_call 91; exact Calls.quiet_of_same (number_0 _)))
        go_big_quiet_step ((go_at_call 91; exact Calls.quiet_of_same (number_0 _)))
        go_big_quiet_step ((go_at_call 91; exact Calls.quiet_of_same (number_0 _)))
        go_big_quiet_step ((go_at_call 91; exact Calls.quiet_of_same (number_0 _)))
        go_big_quiet_step ((go_at_call 91; exact Calls.quiet_of_same (number_0 _)))
        go_big_quiet_step ((go_at_call 91; exact Calls.quiet_of_same (number_0 _)))
        go_big_quiet_step ((go_at_call 91; exact Calls.quiet_of_same (number_0 _)))
        refine wpQuiet_nil ?_
        intro _ hw'
        obtain ⟨nq, hw''⟩ := hw'
        subst hw''
        rename_i Q2 K1 aa1 K2 aa2
        have FY := Lib.hid (FB2.out.trans (Fr.drewN (fun _ => False) W3 nq) (fun _ _ h => h))
        replace r0 := (Fr.drewN (fun _ => False) W3 nq).cell r0 id
        replace r1 := (Fr.drewN (fun _ => False) W3 nq).cell r1 id
        replace r2 := (Fr.drewN (fun _ => False) W3 nq).cell r2 id
        replace r3 := (Fr.drewN (fun _ => False) W3 nq).cell r3 id
        replace r4 := (Fr.drewN (fun _ => False) W3 nq).cell r4 id
        replace r5 := (Fr.drewN (fun _ => False) W3 nq).cell r5 id
        refine aa2 _ _ ?_
        clear FB2 aa2 i0
        generalize W3.drewN nq = Wy at FY r0 r1 r2 r3 r4 r5 ⊢
        have hJy : J (List.take 1 [line1, line2]) Wy := HJ.out _ wr Wy none HJS.out FY.out.grown (by intro r hr; cases hr)
        obtain ⟨fn, tmps, assign, body, hy, hR⟩ := HY.out _ line2 Wy hJy (by decide)
        have hch : (({ data := #[112, 117, 116, 32] } : ByteArray) ++ (({ data := #[99, 32, 46, 32] } : ByteArray) ++ ({ data := #[99, 111, 117, 110, 116] } : ByteArray) ++ ({ data := #[32] } : ByteArray) ++ ({ data := #[] } : ByteArray) ++ ({ data := #[59] } : ByteArray))) = line2 := by kernel_rfl
        rw [← hch] at hy
        have HR := Lib.hid hR
        have HB3 := Lib.hid (FY.out.heap KB2.out id)
        have HG3 := Lib.hid (FY.out.heap KGG.out id)
        clear hR hch hJy FY KB2 KGG HJ HY H0 HJS BXa FA
        gi_wp2
        refine HR.out.mono ?_
        rintro e W3 (⟨rfl, hJ3, hk3⟩ | ⟨rfl, hJx3⟩)
        · gi_wp2
          go_roundw
          case rel => exact ⟨2, by decide, rfl, hJ3, hk3.1.trans HB3.out, hk3.2.trans HG3.out⟩
          case measure => decide
        · gi_wp2
          refine bodyPost_ret (results_none rfl _ _ _) rfl ?_
          exact ⟨⟨_, rfl⟩, .inr ⟨_, ⟨[], rfl⟩, hJx3⟩⟩
      · obtain rfl : k = 2 := by omega
        have hJ9 := HJS.out
        clear HJ HY H0 HJS HB2 HGG HC2 HG
        gi_wp2
        go_end0
        exact ⟨⟨_, rfl⟩, .inl ⟨_, rfl, hJ9⟩⟩
end Go.Proofs.YtpnbhoeghncnnaaGreatDoor

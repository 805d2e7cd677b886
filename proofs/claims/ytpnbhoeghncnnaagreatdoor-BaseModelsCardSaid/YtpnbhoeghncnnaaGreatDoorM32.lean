/-
  A part of the proof of Rows.BaseModelsCardSaid (for every class and script BaseModels answers true, and its arguments read as they did; the listed library variables as the program text lays them): texts UH, UI, UJ. By an AI agent.
-/
import Derived.Outline
import Derived.RangeFuncBox
import Derived.RangeFuncNested
import Derived.RangeFuncBound
import Derived.RangeFuncCalls
import Derived.RangeFuncLeaves
import Derived.Shelf.Abstract
import Derived.Shelf.RegionOpen
import Derived.WalkKit
import Derived.OwnWalkIn
import Derived.TacticsInMore
import Derived.LoopNIn
import Derived.LoopIn
import Derived.Test.YtpnbhoeghncnnaaGreatDoorM30
import Derived.Test.YtpnbhoeghncnnaaGreatDoorM31
import Derived.Test.YtpnbhoeghncnnaaGreatDoorM29
set_option linter.all false
set_option linter.unusedVariables false
set_option linter.unusedSimpArgs false
namespace Go.Proofs.YtpnbhoeghncnnaaGreatDoor
open Go.RowKit
attribute [local go_sem] Oper.semAt_some
theorem swpListIn_app {F : Fence} {n : Nat} {w : World} {ops : Array Oper} {rest : List Oper} {o : Oper} {a : Act} {Q : Exit → Act → World → Prop} (hgd : o.guard = none) (s x : Operand)
    (ho : o.op = .call { callee := .builtin .append, args := #[s, x], argTypes := #[34, 34] })
    (v : Value) (own : Option Nat) (xs : List ByteArray) (h : SLst w v own xs) (hs : a.eval s = v) (ad : Addr) (m c : Nat) (ys : List ByteArray) (hx : a.eval x = .slice (some ad) m c) (hm : ys.length = m) (h0 : 0 < m) (hlen : xs.length + m ≤ 100000)
    (hys : ∀ j u, (ys.map (fun x => Value.string x))[j]? = some u → w.cell? (ad.add j) = some u)
    (hK : ∀ g i cap w', SLst w' (.slice (some ⟨g, i, none⟩) (xs.length + m) cap) (some g) (xs ++ ys) → Fr (fun k => own = some k) w w' → (own = some g ∨ g = w.heap.size) → wpListIn F n Tryz.prog ops Q rest (a.put o.dst (.slice (some ⟨g, i, none⟩) (xs.length + m) cap)) w') : wpListIn F n Tryz.prog ops Q (o :: rest) a w := by
  refine wpListIn_plain hgd fun K hK' => ?_
  obtain ⟨g, i, cap, w', hr, h2, h3, h4⟩ := sapp_run w o.type v own xs h ad m c ys hm h0 hlen hys
  unfold Oper.wpIn
  refine ⟨?_, ?_⟩
  · simp [Oper.about, ho, resolve, Target.leads, Sem.run_pure]
  · rw [Oper.semAt_plain F _ _ (by rw [ho]; intro c hc'; cases hc')]
    simp [execOp, ho, resolve, invoke, builtin, hs, hx, hr, Result.andThen]
    exact hK' _ _ (hK g i cap w' h2 h3 h4)
theorem KpL_t {b2 gg : Nat} {A B C : World} (h : KpL b2 gg A B) (k : KpL b2 gg B C) : KpL b2 gg A C := ⟨k.1.trans h.1, k.2.trans h.2⟩
theorem KpL_b {b2 gg : Nat} {w : World} (h2 : b2 < w.heap.size) (hg : gg < w.heap.size) (W : World) (l : Nat) (o o' : Obj) (hl : w.heap.size ≤ l) (h : W.heap[l]? = some o) (hc : o.isCells = false) (hw : o.isWalk = false) : KpL b2 gg W (W.putObj l o') :=
  ⟨(belowK_b (Nat.le_refl _) W l o o' hl h hc hw).block b2 h2, (belowK_b (Nat.le_refl _) W l o o' hl h hc hw).block gg hg⟩
def CN : ByteArray := ⟨#[67, 79, 85, 78, 84, 69, 82]⟩
def CRow : Obj := .cells #[.string ⟨#[97, 100, 100]⟩, .int .i64 2, .int .i64 0, .string ⟨#[99, 111, 117, 110, 116]⟩, .int .i64 0, .int .i64 0] 40 (0, 0)
def CScr : List ScrT := [(⟨#[97, 100, 100]⟩, 2, 0), (⟨#[99, 111, 117, 110, 116]⟩, 0, 0)]
theorem lines_stops (n : Nat) (hn : 1 ≤ n) (b1 b2 gg c t2 : Nat) (w : World)
    (hc1 : w.cell? ⟨b1, 0, none⟩ = some (.slice (some ⟨gg, 0, none⟩) 2 c)) (hb1 : b1 < w.heap.size) (hc2 : w.heap[b2]? = some (.cells #[.string CN] t2 (0, 0))) (hgg : w.heap[gg]? = some CRow) :
    SeqStopsK Fence.wide n Tryz.prog 90 #[.pointer (some ⟨b1, 0, none⟩), .pointer (some ⟨b2, 0, none⟩)] (fun x : ByteArray => #[Value.string x]) (KpL b2 gg) (fun ys => ys = [line1, line2]) (fun pre => pre <+: [line1, line2]) 2 w := fun l J Jx W hW hJ _ hY h0 =>
  lines1_in n hn l b1 b2 gg c t2 J Jx W hJ hY ((hW.cell (p := ⟨b1, 0, none⟩) hb1).trans hc1) ((hW.block b2 (heap_lt hc2)).trans hc2) ((hW.block gg (heap_lt hgg)).trans hgg) h0
theorem SLst.join {w : World} {s : Option Addr} {n c : Nat} {own : Option Nat} {xs : List ByteArray} (h : SLst w (.slice s n c) own xs) (hn : 0 < n) : ∃ g o, s = some ⟨g, o, none⟩ ∧ g < w.heap.size ∧ n = xs.length ∧ n ≤ c ∧ ∀ (j : Nat) x, xs[j]? = some x → w.cell? ⟨g, o + j, none⟩ = some (.string x) := by
  rcases h with ⟨he, ho, hx'⟩ | ⟨g', o, cap', cs, h1, h2, h3, h4, h5, h6, h7⟩
  · cases he; omega
  · cases h1; exact ⟨g', o, rfl, heap_lt h3, rfl, h5, fun j x hx => by rw [heap_cell h3]; exact h7 j x hx⟩
def joinT (xs : List ByteArray) : ByteArray := ⟨(Lib.join (xs.map (·.data.toList)) [32]).toArray⟩
set_option maxHeartbeats 1000000 in
theorem joined_any (s : Option Addr) (n c : Nat) (own : Option Nat) (xs : List ByteArray) (w : World) (h : SLst w (.slice s n c) own xs) (hn : 0 < n) (hn' : n ≤ 1000) (hl : (Lib.join (xs.map (·.data.toList)) [32]).length ≤ 1000000) :
    Calls Tryz.prog 30 #[.slice s n c] w fun e w' => e = .returned (.string (joinT xs)) ∧ Fr (fun _ => False) w w' := by
  obtain ⟨g, o, rfl, hg, rfl, hc, hx⟩ := h.join hn
  have HX := Lib.hid hx
  have HL := Lib.hid hl
  clear hx hl h
  go_enter Tryz.func30, Tryz.ntmps30
  go_wp2_with (go_at_call 93
               refine (Tryz.strings_Join g o c xs ⟨#[32]⟩ _ HX.out hg (by omega) hc (Nat.le_trans HL.out (by omega))).mono ?_
               rintro e w2 ⟨rfl, hf⟩
               have HF := Lib.hid hf
               clear hf)
  go_ret
  exact ⟨rfl, HF.out.os, HF.out.tape, HF.out.output, HF.out.size, fun k hk _ => HF.out.block k hk⟩
theorem lines_in (n : Nat) (cls : ByteArray) (so : Option Addr) (k c : Nat) (w : World) :
    CallsIn Fence.wide n Tryz.prog 29 #[.string cls, .slice so k c] w fun e w' => e = .returned (.func (.func 90) #[] #[.pointer (some ⟨w.heap.size + 1, 0, none⟩), .pointer (some ⟨w.heap.size, 0, none⟩)]) ∧ w' = (w.alloc (.cells #[.string cls] 9)).alloc (.cells #[.slice so k c] 22) := by
  refine callsIn_of_wp Tryz.func29 rfl trivial ?_ rfl
  simp only [Tryz.ntmps29, List.size_toArray, List.length_cons, List.length_nil, Nat.reduceAdd, Nat.reduceSub, Array.replicate_succ, Array.replicate_zero, List.push_toArray, List.append_toArray, List.nil_append, List.cons_append]
  gi_wp2
  go_ret
  exact ⟨rfl, rfl⟩
def base3 : List ByteArray := [⟨#[99, 108, 97, 115, 115, 32, 77, 65, 73, 78, 32, 99, 114, 101, 97, 116, 101, 32, 109, 97, 107, 101, 32, 102, 101, 97, 116, 117, 114, 101, 32, 123, 32, 65, 78, 89, 32, 125, 32, 109, 97, 107, 101, 32, 108, 111, 99, 97, 108]⟩, ⟨#[99, 32, 58, 32]⟩ ++ ⟨#[67, 79, 85, 78, 84, 69, 82]⟩, ⟨#[100, 111, 32, 99, 114, 101, 97, 116, 101, 32, 99, 32, 46, 32, 109, 97, 107, 101, 32, 59]⟩]
def dWords : List ByteArray := base3 ++ [line1, line2] ++ [⟨#[101, 110, 100, 32, 101, 110, 100]⟩]
theorem dLen : (Lib.join (dWords.map (·.data.toList)) [32]).length ≤ 1000000 := by decide
theorem base3_at (i : Nat) (x : ByteArray) (h : (base3 ++ [])[i]? = some x) : (#[Value.string ⟨#[99, 108, 97, 115, 115, 32, 77, 65, 73, 78, 32, 99, 114, 101, 97, 116, 101, 32, 109, 97, 107, 101, 32, 102, 101, 97, 116, 117, 114, 101, 32, 123, 32, 65, 78, 89, 32, 125, 32, 109, 97, 107, 101, 32, 108, 111, 99, 97, 108]⟩, .string (⟨#[99, 32, 58, 32]⟩ ++ ⟨#[67, 79, 85, 78, 84, 69, 82]⟩), .string ⟨#[100, 111, 32, 99, 114, 101, 97, 116, 101, 32, 99, 32, 46, 32, 109, 97, 107, 101, 32, 59]⟩] : Array Value)[0 + i]? = some (.string x) := by
  match i, h with
  | 0, h => cases h; rfl
  | 1, h => cases h; rfl
  | 2, h => cases h; rfl
  | n + 3, h => simp [base3] at h
def DInv (B8 : Nat) (b2 gg : Nat) (w : World) (pre : List ByteArray) (W : World) : Prop :=
  ∃ v g, W.heap[B8]? = some (.cells #[v] 34 (0, 0)) ∧ SLst W v (some g) (base3 ++ pre) ∧ g ≠ B8 ∧ g ≠ b2 ∧ g ≠ gg ∧ w.heap.size ≤ g ∧ Below w.heap.size w W ∧ B8 + 3 ≤ W.heap.size
theorem dinv_own (B8 b2 gg B : Nat) (w : World) (hB : w.heap.size ≤ B) : OwnFrom B (DInv B8 b2 gg w) := by
  rintro pre W W' row ⟨v, g, h1, h2, h3, h4, h5, h6, h7, h8⟩ hg hr
  have kp : ∀ (k : Nat) (cs : Array Value) (t : TypeId) (fr : Nat × Nat), W.heap[k]? = some (Obj.cells cs t fr) → W'.heap[k]? = some (Obj.cells cs t fr) := by
    intro k cs t fr hk
    refine (hg.block k (heap_lt hk) (fun e => ?_)).trans hk
    obtain ⟨_, o, ho, hc⟩ := hr k e.symm
    rw [hk] at ho; cases ho; cases hc
  refine ⟨v, g, kp _ _ _ _ h1, ?_, h3, h4, h5, h6, h7.grown hg h7.size (fun k e => by have := (hr k e).1; omega), Nat.le_trans h8 hg.size⟩
  rcases h2 with ⟨_, he, _⟩ | ⟨g', o, cap, cs, e1, e2, e3, e4⟩
  · cases he
  · exact .inr ⟨g', o, cap, cs, e1, e2, kp _ _ _ _ e3, e4⟩
set_option maxRecDepth 100000 in
set_option maxHeartbeats 4000000 in
theorem driver_C (gg c : Nat) (w : World) (hg : w.heap[gg]? = some CRow) (hs : ScrAt w (some ⟨gg, 0, none⟩) CScr) :
    Calls Tryz.prog 10 #[.string ⟨#[67, 79, 85, 78, 84, 69, 82]⟩, .slice (some ⟨gg, 0, none⟩) 2 c] w fun e w' => e = .returned (.tuple #[.string (joinT dWords ++ ⟨#[10]⟩), .int .i64 0]) ∧ Fr (fun _ => False) w w' := by
  have HG := Lib.hid hg
  have HS := Lib.hid hs
  clear hg hs
  refine (callsIn_wide (n := 5)).1 ?_
  refine callsIn_of_wp_marks Tryz.func10 rfl trivial ?_ rfl
  simp only [Tryz.ntmps10, List.size_toArray, List.length_cons, List.length_nil, Nat.reduceAdd, Nat.reduceSub, Array.replicate_succ, Array.replicate_zero, List.push_toArray, List.append_toArray, List.nil_append, List.cons_append]
  have nb : CScr.any (badF tabCOUNTER) = false := by kernel_rfl
  have CK := check_run ⟨#[67, 79, 85, 78, 84, 69, 82]⟩ (some ⟨gg, 0, none⟩) c 9 CN tabCOUNTER CScr w rfl (by kernel_rfl) callsOf_C (by decide) (by decide) (by decide) HS.out
  rw [nb] at CK
  gi_wp2_with (first
    | (refine ⟨trivial, ?_⟩; gi_at_call 14
       refine (callsIn_wide.2 CK).mono ?_
       rintro e w1 ⟨rfl, hf⟩
       have HF := Lib.hid hf
       clear hf CK nb)
    | (refine ⟨trivial, ?_⟩; gi_at_call 29; refine (lines_in _ _ _ _ _ _).mono ?_; rintro e w' ⟨rfl, rfl⟩))
  have HROW := Lib.hid (heap_alloc_new w1 (.cells #[.string ⟨#[99, 108, 97, 115, 115, 32, 77, 65, 73, 78, 32, 99, 114, 101, 97, 116, 101, 32, 109, 97, 107, 101, 32, 102, 101, 97, 116, 117, 114, 101, 32, 123, 32, 65, 78, 89, 32, 125, 32, 109, 97, 107, 101, 32, 108, 111, 99, 97, 108]⟩, .string (⟨#[99, 32, 58, 32]⟩ ++ ⟨#[67, 79, 85, 78, 84, 69, 82]⟩), .string ⟨#[100, 111, 32, 99, 114, 101, 97, 116, 101, 32, 99, 32, 46, 32, 109, 97, 107, 101, 32, 59]⟩] 9))
  have F1 := Fr.alloc (fun _ => False) w1 (.cells #[.string ⟨#[99, 108, 97, 115, 115, 32, 77, 65, 73, 78, 32, 99, 114, 101, 97, 116, 101, 32, 109, 97, 107, 101, 32, 102, 101, 97, 116, 117, 114, 101, 32, 123, 32, 65, 78, 89, 32, 125, 32, 109, 97, 107, 101, 32, 108, 111, 99, 97, 108]⟩, .string (⟨#[99, 32, 58, 32]⟩ ++ ⟨#[67, 79, 85, 78, 84, 69, 82]⟩), .string ⟨#[100, 111, 32, 99, 114, 101, 97, 116, 101, 32, 99, 32, 46, 32, 109, 97, 107, 101, 32, 59]⟩] 9)
  have e1 : (w1.alloc (.cells #[.string ⟨#[99, 108, 97, 115, 115, 32, 77, 65, 73, 78, 32, 99, 114, 101, 97, 116, 101, 32, 109, 97, 107, 101, 32, 102, 101, 97, 116, 117, 114, 101, 32, 123, 32, 65, 78, 89, 32, 125, 32, 109, 97, 107, 101, 32, 108, 111, 99, 97, 108]⟩, .string (⟨#[99, 32, 58, 32]⟩ ++ ⟨#[67, 79, 85, 78, 84, 69, 82]⟩), .string ⟨#[100, 111, 32, 99, 114, 101, 97, 116, 101, 32, 99, 32, 46, 32, 109, 97, 107, 101, 32, 59]⟩] 9)).heap.size = w1.heap.size + 1 := World.size_alloc _ _
  generalize w1.alloc (.cells #[.string ⟨#[99, 108, 97, 115, 115, 32, 77, 65, 73, 78, 32, 99, 114, 101, 97, 116, 101, 32, 109, 97, 107, 101, 32, 102, 101, 97, 116, 117, 114, 101, 32, 123, 32, 65, 78, 89, 32, 125, 32, 109, 97, 107, 101, 32, 108, 111, 99, 97, 108]⟩, .string (⟨#[99, 32, 58, 32]⟩ ++ ⟨#[67, 79, 85, 78, 84, 69, 82]⟩), .string ⟨#[100, 111, 32, 99, 114, 101, 97, 116, 101, 32, 99, 32, 46, 32, 109, 97, 107, 101, 32, 59]⟩] 9) = u1 at HROW F1 e1 ⊢
  have HBOX := Lib.hid (heap_alloc_new u1 (.cells #[.slice (some ⟨w1.heap.size, 0, none⟩) 3 3] 34))
  have F2 := Fr.alloc (fun _ => False) u1 (.cells #[.slice (some ⟨w1.heap.size, 0, none⟩) 3 3] 34)
  have e2 : (u1.alloc (.cells #[.slice (some ⟨w1.heap.size, 0, none⟩) 3 3] 34)).heap.size = u1.heap.size + 1 := World.size_alloc _ _
  generalize u1.alloc (.cells #[.slice (some ⟨w1.heap.size, 0, none⟩) 3 3] 34) = u2 at HBOX F2 e2 ⊢
  have HCB := Lib.hid (heap_alloc_new u2 (.cells #[.string ⟨#[67, 79, 85, 78, 84, 69, 82]⟩] 9))
  have F3 := Fr.alloc (fun _ => False) u2 (.cells #[.string ⟨#[67, 79, 85, 78, 84, 69, 82]⟩] 9)
  have e3 : (u2.alloc (.cells #[.string ⟨#[67, 79, 85, 78, 84, 69, 82]⟩] 9)).heap.size = u2.heap.size + 1 := World.size_alloc _ _
  generalize u2.alloc (.cells #[.string ⟨#[67, 79, 85, 78, 84, 69, 82]⟩] 9) = u3 at HCB F3 e3 ⊢
  have HSB := Lib.hid (heap_alloc_new u3 (.cells #[.slice (some ⟨gg, 0, none⟩) 2 c] 22))
  have F4 := Fr.alloc (fun _ => False) u3 (.cells #[.slice (some ⟨gg, 0, none⟩) 2 c] 22)
  have e4 : (u3.alloc (.cells #[.slice (some ⟨gg, 0, none⟩) 2 c] 22)).heap.size = u3.heap.size + 1 := World.size_alloc _ _
  generalize u3.alloc (.cells #[.slice (some ⟨gg, 0, none⟩) 2 c] 22) = W0 at HSB F4 e4 ⊢
  have e0 := HF.out.size
  have eg := heap_lt HG.out
  rw [e1] at e2 HBOX
  rw [e2] at e3 HCB
  rw [e3] at e4 HSB
  have K1 := (F2.trans (F3.trans F4 (fun _ _ h => h)) (fun _ _ h => h)).heap HROW.out id
  have K2 := (F3.trans F4 (fun _ _ h => h)).heap HBOX.out id
  have K3 := F4.heap HCB.out id
  have K4 := HSB.out
  have KF := HF.out.trans (F1.trans (F2.trans (F3.trans F4 (fun _ _ h => h)) (fun _ _ h => h)) (fun _ _ h => h)) (fun _ _ h => h)
  have KG := KF.heap HG.out id
  have KB : Below w.heap.size w W0 := ⟨KF.os, KF.tape, KF.output, KF.size, fun k hk => KF.block k hk id⟩
  clear HROW HBOX HCB HSB F1 F2 F3 F4 KF HG HS e1 e2 e3 HF
  clear u1 u2 u3
  generalize w1.heap.size = z at e0 e4 K1 K2 K3 K4 ⊢
  simp only [Nat.add_assoc, Nat.reduceAdd] at e4 K2 K3 K4 ⊢
  have jl : (joinT dWords).size = 122 := by kernel_rfl
  have k4 : W0.cell? ⟨z + 3, 0, none⟩ = some (.slice (some ⟨gg, 0, none⟩) 2 c) := by rw [heap_cell K4]; rfl
  refine wpIn_rangeFunc_ownG rfl (by omega) (gf := 90) (lb := #[.pointer (some ⟨z + 3, 0, none⟩), .pointer (some ⟨z + 2, 0, none⟩)]) rfl trivial (enters_of Tryz.func90 (by kernel_rfl) rfl)
    (lines_stops 4 (by omega) (z + 3) (z + 2) gg c 9 W0 k4 (by omega) K3 KG) KpL_t (KpL_b (by omega) (by omega)) (Below.refl _ _) (fun _ => rfl)
    (DInv (z + 1) (z + 2) gg w) (fun _ _ _ => False) (dinv_own _ _ _ _ _ (by omega)) (fun _ _ _ _ _ hs _ _ => hs)
    ⟨_, z, K2, .inr ⟨z, 0, 3, _, rfl, rfl, K1, by decide, by decide, by decide, base3_at⟩, by omega, by omega, by omega, e0, KB, by omega⟩
    (fun x => { tmps := #[.string ⟨#[67, 79, 85, 78, 84, 69, 82]⟩, .slice (some ⟨gg, 0, none⟩) 2 c, undef, undef, .string ⟨#[]⟩, .int .i64 0, .int .i64 0, .string (⟨#[99, 32, 58, 32]⟩ ++ ⟨#[67, 79, 85, 78, 84, 69, 82]⟩), .pointer (some ⟨z + 1, 0, none⟩), .string x, .string ⟨#[67, 79, 85, 78, 84, 69, 82]⟩, .slice (some ⟨gg, 0, none⟩) 2 c, .int .i64 0, .int .i64 0, .bool false, undef, .string ⟨#[67, 79, 85, 78, 84, 69, 82]⟩, .string (⟨#[99, 32, 58, 32]⟩ ++ ⟨#[67, 79, 85, 78, 84, 69, 82]⟩), .string ⟨#[67, 79, 85, 78, 84, 69, 82]⟩, .bool false, .string (⟨#[99, 32, 58, 32]⟩ ++ ⟨#[67, 79, 85, 78, 84, 69, 82]⟩), .slice (some ⟨z, 0, none⟩) 3 3, .string ⟨#[67, 79, 85, 78, 84, 69, 82]⟩, .slice (some ⟨gg, 0, none⟩) 2 c, .func (.func 90) #[] #[.pointer (some ⟨z + 3, 0, none⟩), .pointer (some ⟨z + 2, 0, none⟩)], .string x, undef, undef, undef, undef, undef, undef, undef, undef, undef], defers := [] }) ?assign ?body ?done ?stop
  case assign =>
    intro l x W K hK
    gi_wp2
    exact hK
  case body =>
    rintro l pre x W ⟨v, g, h1, h2, h3, h4, h5, h6, h7, h8⟩ hlt
    have H2 := Lib.hid h2
    have H7 := Lib.hid h7
    have hc1 : W.cell? ⟨z + 1, 0, none⟩ = some v := by rw [heap_cell h1]; rfl
    have H1 := Lib.hid h1
    have hz1 := heap_lt h1
    clear h1 h2 h7 K1 K2 K3 K4 KG KB k4
    gi_wp2_with (gi_at_builtin
                 refine swpListIn_app rfl _ _ rfl v (some g) (base3 ++ pre) (H2.out.fr (Fr.alloc (fun _ => False) _ _) (fun _ _ => id)) rfl ⟨W.heap.size, 0, none⟩ 1 1 [x] rfl rfl (by decide) (by simp [base3]; omega) (one_cellS _ _ rfl _ _) ?_
                 intro g' i cap w' hS hF hor
                 have HS := Lib.hid hS
                 have HF := Lib.hid hF
                 have H1' := HF.out.heap ((Fr.alloc (fun _ => False) W _).heap H1.out id) (fun e => h3 (Option.some.inj e))
                 have hc1' : w'.cell? ⟨z + 1, 0, none⟩ = some v := by rw [heap_cell H1']; rfl
                 have hfz : w'.frozen? ⟨z + 1, 0, none⟩ = false := heap_frozen H1' 0
                 have HB := Lib.hid H1'
                 clear hS hF hc1 H1')
    have F := ((Fr.alloc (fun k => k = g ∨ k = z + 1) W _).trans (HF.out.mono (fun k e => Or.inl (Option.some.inj e).symm)) (fun _ _ h => h)).trans (Fr.setCell (fun k => k = g ∨ k = z + 1) w' ⟨z + 1, 0, none⟩ (.slice (some ⟨g', i, none⟩) (base3.length + pre.length + 1) cap) (Or.inr rfl)) (fun _ _ h => h)
    have hgc : ∃ cs : Array Value, W.heap[g]? = some (Obj.cells cs 9 (0, 0)) := by
      rcases H2.out with ⟨_, he, _⟩ | ⟨g9, o9, cap9, cs9, e1, e2, e3, e4⟩
      · cases he
      · cases e2; exact ⟨_, e3⟩
    obtain ⟨cs, hgc⟩ := hgc
    have hg1 : g' = g ∨ g' = W.heap.size + 1 := by
      rcases hor with h | h
      · exact .inl (Option.some.inj h).symm
      · exact .inr (h.trans (World.size_alloc _ _))
    have hws := H7.out.size
    refine ⟨KeepsOthers.from ⟨F.size, fun k o hk ho => F.heap hk (fun e => ?_)⟩ _, ⟨F.block (z + 2) (by omega) (by omega), F.block gg (by omega) (by omega)⟩, _, g', heap_setCell HB.out 0 _, ?_, by omega, by omega, by omega, by omega, ⟨F.os.trans H7.out.os, F.tape.trans H7.out.tape, F.output.trans H7.out.output, Nat.le_trans H7.out.size F.size, fun k hk => (F.block k (by omega) (by omega)).trans (H7.out.block k hk)⟩, Nat.le_trans h8 F.size⟩
    · rcases e with rfl | rfl
      · rw [hgc] at hk; cases hk; cases ho
      · rw [H1.out] at hk; cases hk; cases ho
    · have := HS.out.fr (Fr.setCell (fun k => k = z + 1) w' ⟨z + 1, 0, none⟩ (.slice (some ⟨g', i, none⟩) (base3.length + pre.length + 1) cap) rfl) (by intro g0 e; cases e; omega)
      simpa only [List.length_append, List.append_assoc] using this
  case done =>
    rintro D ys W hD rfl ⟨v, g, h1, h2, h3, h4, h5, h6, h7, h8⟩ hK
    have H2 := Lib.hid h2
    have H7 := Lib.hid h7
    have HK := Lib.hid hK
    have hc1 : W.cell? ⟨z + 1, 0, none⟩ = some v := by rw [heap_cell h1]; rfl
    have H1 := Lib.hid h1
    have hz1 := heap_lt h1
    clear h1 h2 h7 hK K1 K2 K3 K4 KG KB k4
    gi_wp2_with (first
      | (gi_at_builtin
         refine swpListIn_app rfl _ _ rfl v (some g) (base3 ++ [line1, line2]) (H2.out.fr (Fr.alloc (fun _ => False) _ _) (fun _ _ => id)) rfl ⟨W.heap.size, 0, none⟩ 1 1 [⟨#[101, 110, 100, 32, 101, 110, 100]⟩] rfl rfl (by decide) (by decide) (one_cellS _ _ rfl _ _) ?_
         intro g' i cap w' hS hF hor
         have HS := Lib.hid hS
         have HF := Lib.hid hF
         clear hS hF hc1)
      | (refine ⟨trivial, ?_⟩; gi_at_call 30
         refine (callsIn_wide.2 (joined_any _ _ _ _ dWords _ HS.out (by decide) (by decide) dLen)).mono ?_
         rintro e w2 ⟨rfl, hF2⟩
         have HF2 := Lib.hid hF2
         clear hF2))
    have FR := HF2.out
    have hK2 := FR.heap (HF.out.heap ((Fr.alloc (fun _ => False) W _).heap HK.out id) (fun e => by
      rcases H2.out with ⟨_, he, _⟩ | ⟨g9, o9, cap9, cs9, e1, e2, e3, e4⟩
      · cases he
      · cases e2; cases e; rw [HK.out] at e3; cases e3)) id
    refine ⟨by simp, .inl ⟨_, _, rfl, run_takeDeferred hK2, ?_⟩⟩
    refine ⟨_, results_tmp2 rfl _ _ _, rfl, ?_⟩
    have F := ((Fr.alloc (fun k => k = g ∨ w.heap.size ≤ k) W _).trans (HF.out.mono (fun k e => Or.inl (Option.some.inj e).symm)) (fun _ _ h => h)).trans (HF2.out.weak (F := fun k => k = g ∨ w.heap.size ≤ k)) (fun _ _ h => h)
    have hws := H7.out.size
    have B3 : Below w.heap.size w w2 := ⟨F.os.trans H7.out.os, F.tape.trans H7.out.tape, F.output.trans H7.out.output, Nat.le_trans H7.out.size F.size, fun k hk => (F.block k (by omega) (by omega)).trans (H7.out.block k hk)⟩
    have B4 := B3.trans (belowK_b (w := w) (Nat.le_refl _) w2 D _ (.deferred none) (by omega) hK2 rfl rfl)
    exact ⟨B4.os, B4.tape, B4.output, B4.size, fun k hk _ => B4.block k hk⟩
  case stop =>
    rintro D c pre W _ _ h _
    exact h.elim
end Go.Proofs.YtpnbhoeghncnnaaGreatDoor
namespace Go.Proofs.YtpnbhoeghncnnaaGreatDoor
open Go.RowKit
theorem scr_COUNTER {w : World} {g : Nat} (h : w.heap[g]? = some (.cells #[.string ⟨#[97, 100, 100]⟩, .int .i64 2, .int .i64 0, .string ⟨#[99, 111, 117, 110, 116]⟩, .int .i64 0, .int .i64 0] 40 (0, 0))) : ScrAt w (some ⟨g, 0, none⟩) CScr := by
  intro j x hj
  match j, hj with
  | 0, hj => cases hj; exact ⟨g, 0, rfl, by rw [heap_cell h]; rfl, by rw [heap_cell h]; rfl, by rw [heap_cell h]; rfl⟩
  | 1, hj => cases hj; exact ⟨g, 0, rfl, by rw [heap_cell h]; rfl, by rw [heap_cell h]; rfl, by rw [heap_cell h]; rfl⟩
  | n + 2, hj => simp [CScr] at hj
def scrINTS : List ScrT := [(⟨#[112, 117, 115, 104]⟩, 3, 0), (⟨#[101, 120, 116, 101, 110, 100]⟩, 5, 0), (⟨#[112, 117, 115, 104]⟩, 1, 0), (⟨#[115, 117, 109]⟩, 0, 0), (⟨#[114, 101, 118, 101, 114, 115, 101]⟩, 0, 0), (⟨#[105, 116, 101, 109]⟩, 1, 0)]
theorem scr_INTS {w : World} {g : Nat} (h : w.heap[g]? = some (.cells #[.string ⟨#[112, 117, 115, 104]⟩, .int .i64 3, .int .i64 0, .string ⟨#[101, 120, 116, 101, 110, 100]⟩, .int .i64 5, .int .i64 0, .string ⟨#[112, 117, 115, 104]⟩, .int .i64 1, .int .i64 0, .string ⟨#[115, 117, 109]⟩, .int .i64 0, .int .i64 0, .string ⟨#[114, 101, 118, 101, 114, 115, 101]⟩, .int .i64 0, .int .i64 0, .string ⟨#[105, 116, 101, 109]⟩, .int .i64 1, .int .i64 0] 40 (0, 0))) : ScrAt w (some ⟨g, 0, none⟩) scrINTS := by
  intro j x hj
  match j, hj with
  | 0, hj => cases hj; exact ⟨g, 0, rfl, by rw [heap_cell h]; rfl, by rw [heap_cell h]; rfl, by rw [heap_cell h]; rfl⟩
  | 1, hj => cases hj; exact ⟨g, 0, rfl, by rw [heap_cell h]; rfl, by rw [heap_cell h]; rfl, by rw [heap_cell h]; rfl⟩
  | 2, hj => cases hj; exact ⟨g, 0, rfl, by rw [heap_cell h]; rfl, by rw [heap_cell h]; rfl, by rw [heap_cell h]; rfl⟩
  | 3, hj => cases hj; exact ⟨g, 0, rfl, by rw [heap_cell h]; rfl, by rw [heap_cell h]; rfl, by rw [heap_cell h]; rfl⟩
  | 4, hj => cases hj; exact ⟨g, 0, rfl, by rw [heap_cell h]; rfl, by rw [heap_cell h]; rfl, by rw [heap_cell h]; rfl⟩
  | 5, hj => cases hj; exact ⟨g, 0, rfl, by rw [heap_cell h]; rfl, by rw [heap_cell h]; rfl, by rw [heap_cell h]; rfl⟩
  | n + 6, hj => simp [scrINTS] at hj
theorem both_INTS : Both ⟨#[73, 78, 84, 83]⟩ scrINTS ([9, 5], 0, 0) := by
  have h := both_run_INTS scrINTS (by decide) (by kernel_rfl)
  rwa [show runF 1 scrINTS St0 [] = ([9, 5], 0, 0) by kernel_rfl] at h
theorem want_INTS {w : World} {g : Nat} (h : w.heap[g]? = some (.cells #[.int .i64 9, .int .i64 5] 3 (0, 0))) : Lst w (.slice (some ⟨g, 0, none⟩) 2 2) (some g) [9, 5] := by
  refine .inr ⟨g, 0, 2, _, rfl, rfl, h, by decide, by decide, by decide, ?_⟩
  intro j x hj
  match j, hj with
  | 0, hj => cases hj; rfl
  | 1, hj => cases hj; rfl
  | n + 2, hj => simp at hj
def scrSORTED : List ScrT := [(⟨#[112, 117, 115, 104]⟩, 3, 0), (⟨#[101, 120, 116, 101, 110, 100]⟩, 1, 0), (⟨#[112, 117, 115, 104]⟩, 2, 0), (⟨#[105, 116, 101, 109]⟩, 2, 0), (⟨#[105, 116, 101, 109]⟩, 4, 0)]
theorem scr_SORTED {w : World} {g : Nat} (h : w.heap[g]? = some (.cells #[.string ⟨#[112, 117, 115, 104]⟩, .int .i64 3, .int .i64 0, .string ⟨#[101, 120, 116, 101, 110, 100]⟩, .int .i64 1, .int .i64 0, .string ⟨#[112, 117, 115, 104]⟩, .int .i64 2, .int .i64 0, .string ⟨#[105, 116, 101, 109]⟩, .int .i64 2, .int .i64 0, .string ⟨#[105, 116, 101, 109]⟩, .int .i64 4, .int .i64 0] 40 (0, 0))) : ScrAt w (some ⟨g, 0, none⟩) scrSORTED := by
  intro j x hj
  match j, hj with
  | 0, hj => cases hj; exact ⟨g, 0, rfl, by rw [heap_cell h]; rfl, by rw [heap_cell h]; rfl, by rw [heap_cell h]; rfl⟩
  | 1, hj => cases hj; exact ⟨g, 0, rfl, by rw [heap_cell h]; rfl, by rw [heap_cell h]; rfl, by rw [heap_cell h]; rfl⟩
  | 2, hj => cases hj; exact ⟨g, 0, rfl, by rw [heap_cell h]; rfl, by rw [heap_cell h]; rfl, by rw [heap_cell h]; rfl⟩
  | 3, hj => cases hj; exact ⟨g, 0, rfl, by rw [heap_cell h]; rfl, by rw [heap_cell h]; rfl, by rw [heap_cell h]; rfl⟩
  | 4, hj => cases hj; exact ⟨g, 0, rfl, by rw [heap_cell h]; rfl, by rw [heap_cell h]; rfl, by rw [heap_cell h]; rfl⟩
  | n + 5, hj => simp [scrSORTED] at hj
theorem both_SORTED : Both ⟨#[83, 79, 82, 84, 69, 68]⟩ scrSORTED ([2], 1, 0) := by
  have h := both_run_SORTED scrSORTED (by decide) (by kernel_rfl)
  rwa [show runF 2 scrSORTED St0 [] = ([2], 1, 0) by kernel_rfl] at h
theorem want_SORTED {w : World} {g : Nat} (h : w.heap[g]? = some (.cells #[.int .i64 2] 3 (0, 0))) : Lst w (.slice (some ⟨g, 0, none⟩) 1 1) (some g) [2] := by
  refine .inr ⟨g, 0, 1, _, rfl, rfl, h, by decide, by decide, by decide, ?_⟩
  intro j x hj
  match j, hj with
  | 0, hj => cases hj; rfl
  | n + 1, hj => simp at hj
def scrTABLE : List ScrT := [(⟨#[102, 111, 114, 99, 101]⟩, 1, 7), (⟨#[102, 111, 114, 99, 101]⟩, 1, 8), (⟨#[99, 111, 117, 110, 116]⟩, 0, 0), (⟨#[118, 97, 108, 117, 101, 95, 111, 102]⟩, 1, 0), (⟨#[118, 97, 108, 117, 101, 95, 111, 102]⟩, 2, 0)]
theorem scr_TABLE {w : World} {g : Nat} (h : w.heap[g]? = some (.cells #[.string ⟨#[102, 111, 114, 99, 101]⟩, .int .i64 1, .int .i64 7, .string ⟨#[102, 111, 114, 99, 101]⟩, .int .i64 1, .int .i64 8, .string ⟨#[99, 111, 117, 110, 116]⟩, .int .i64 0, .int .i64 0, .string ⟨#[118, 97, 108, 117, 101, 95, 111, 102]⟩, .int .i64 1, .int .i64 0, .string ⟨#[118, 97, 108, 117, 101, 95, 111, 102]⟩, .int .i64 2, .int .i64 0] 40 (0, 0))) : ScrAt w (some ⟨g, 0, none⟩) scrTABLE := by
  intro j x hj
  match j, hj with
  | 0, hj => cases hj; exact ⟨g, 0, rfl, by rw [heap_cell h]; rfl, by rw [heap_cell h]; rfl, by rw [heap_cell h]; rfl⟩
  | 1, hj => cases hj; exact ⟨g, 0, rfl, by rw [heap_cell h]; rfl, by rw [heap_cell h]; rfl, by rw [heap_cell h]; rfl⟩
  | 2, hj => cases hj; exact ⟨g, 0, rfl, by rw [heap_cell h]; rfl, by rw [heap_cell h]; rfl, by rw [heap_cell h]; rfl⟩
  | 3, hj => cases hj; exact ⟨g, 0, rfl, by rw [heap_cell h]; rfl, by rw [heap_cell h]; rfl, by rw [heap_cell h]; rfl⟩
  | 4, hj => cases hj; exact ⟨g, 0, rfl, by rw [heap_cell h]; rfl, by rw [heap_cell h]; rfl, by rw [heap_cell h]; rfl⟩
  | n + 5, hj => simp [scrTABLE] at hj
theorem both_TABLE : Both ⟨#[84, 65, 66, 76, 69]⟩ scrTABLE ([1, 8, 0], 0, 0) := by
  have h := both_run_TABLE scrTABLE (by decide) (by kernel_rfl)
  rwa [show runF 7 scrTABLE St0 [] = ([1, 8, 0], 0, 0) by kernel_rfl] at h
theorem want_TABLE {w : World} {g : Nat} (h : w.heap[g]? = some (.cells #[.int .i64 1, .int .i64 8, .int .i64 0] 3 (0, 0))) : Lst w (.slice (some ⟨g, 0, none⟩) 3 3) (some g) [1, 8, 0] := by
  refine .inr ⟨g, 0, 3, _, rfl, rfl, h, by decide, by decide, by decide, ?_⟩
  intro j x hj
  match j, hj with
  | 0, hj => cases hj; rfl
  | 1, hj => cases hj; rfl
  | 2, hj => cases hj; rfl
  | n + 3, hj => simp at hj
def scrARITH : List ScrT := [(⟨#[103, 99, 100]⟩, 12, 18), (⟨#[112, 111, 119, 101, 114]⟩, 2, 10), (⟨#[102, 97, 99, 116]⟩, 5, 0), (⟨#[116, 114, 105, 101, 115]⟩, 3, 0), (⟨#[116, 114, 105, 101, 115]⟩, 21, 0)]
theorem scr_ARITH {w : World} {g : Nat} (h : w.heap[g]? = some (.cells #[.string ⟨#[103, 99, 100]⟩, .int .i64 12, .int .i64 18, .string ⟨#[112, 111, 119, 101, 114]⟩, .int .i64 2, .int .i64 10, .string ⟨#[102, 97, 99, 116]⟩, .int .i64 5, .int .i64 0, .string ⟨#[116, 114, 105, 101, 115]⟩, .int .i64 3, .int .i64 0, .string ⟨#[116, 114, 105, 101, 115]⟩, .int .i64 21, .int .i64 0] 40 (0, 0))) : ScrAt w (some ⟨g, 0, none⟩) scrARITH := by
  intro j x hj
  match j, hj with
  | 0, hj => cases hj; exact ⟨g, 0, rfl, by rw [heap_cell h]; rfl, by rw [heap_cell h]; rfl, by rw [heap_cell h]; rfl⟩
  | 1, hj => cases hj; exact ⟨g, 0, rfl, by rw [heap_cell h]; rfl, by rw [heap_cell h]; rfl, by rw [heap_cell h]; rfl⟩
  | 2, hj => cases hj; exact ⟨g, 0, rfl, by rw [heap_cell h]; rfl, by rw [heap_cell h]; rfl, by rw [heap_cell h]; rfl⟩
  | 3, hj => cases hj; exact ⟨g, 0, rfl, by rw [heap_cell h]; rfl, by rw [heap_cell h]; rfl, by rw [heap_cell h]; rfl⟩
  | 4, hj => cases hj; exact ⟨g, 0, rfl, by rw [heap_cell h]; rfl, by rw [heap_cell h]; rfl, by rw [heap_cell h]; rfl⟩
  | n + 5, hj => simp [scrARITH] at hj
theorem both_ARITH : Both ⟨#[65, 82, 73, 84, 72]⟩ scrARITH ([6, 1024, 120, 3], 107, 0) := by
  have h := both_run_ARITH scrARITH (by decide) (by kernel_rfl)
  rwa [show runF 11 scrARITH St0 [] = ([6, 1024, 120, 3], 107, 0) by kernel_rfl] at h
theorem want_ARITH {w : World} {g : Nat} (h : w.heap[g]? = some (.cells #[.int .i64 6, .int .i64 1024, .int .i64 120, .int .i64 3] 3 (0, 0))) : Lst w (.slice (some ⟨g, 0, none⟩) 4 4) (some g) [6, 1024, 120, 3] := by
  refine .inr ⟨g, 0, 4, _, rfl, rfl, h, by decide, by decide, by decide, ?_⟩
  intro j x hj
  match j, hj with
  | 0, hj => cases hj; rfl
  | 1, hj => cases hj; rfl
  | 2, hj => cases hj; rfl
  | 3, hj => cases hj; rfl
  | n + 4, hj => simp at hj
def scrRANGE : List ScrT := [(⟨#[115, 112, 97, 110]⟩, 3, 6), (⟨#[115, 105, 122, 101]⟩, 0, 0), (⟨#[115, 117, 109]⟩, 0, 0), (⟨#[115, 112, 97, 110]⟩, 5, 3)]
theorem scr_RANGE {w : World} {g : Nat} (h : w.heap[g]? = some (.cells #[.string ⟨#[115, 112, 97, 110]⟩, .int .i64 3, .int .i64 6, .string ⟨#[115, 105, 122, 101]⟩, .int .i64 0, .int .i64 0, .string ⟨#[115, 117, 109]⟩, .int .i64 0, .int .i64 0, .string ⟨#[115, 112, 97, 110]⟩, .int .i64 5, .int .i64 3] 40 (0, 0))) : ScrAt w (some ⟨g, 0, none⟩) scrRANGE := by
  intro j x hj
  match j, hj with
  | 0, hj => cases hj; exact ⟨g, 0, rfl, by rw [heap_cell h]; rfl, by rw [heap_cell h]; rfl, by rw [heap_cell h]; rfl⟩
  | 1, hj => cases hj; exact ⟨g, 0, rfl, by rw [heap_cell h]; rfl, by rw [heap_cell h]; rfl, by rw [heap_cell h]; rfl⟩
  | 2, hj => cases hj; exact ⟨g, 0, rfl, by rw [heap_cell h]; rfl, by rw [heap_cell h]; rfl, by rw [heap_cell h]; rfl⟩
  | 3, hj => cases hj; exact ⟨g, 0, rfl, by rw [heap_cell h]; rfl, by rw [heap_cell h]; rfl, by rw [heap_cell h]; rfl⟩
  | n + 4, hj => simp [scrRANGE] at hj
theorem both_RANGE : Both ⟨#[82, 65, 78, 71, 69]⟩ scrRANGE ([4, 18], 1, 0) := by
  have h := both_run_RANGE scrRANGE (by decide) (by kernel_rfl)
  rwa [show runF 10 scrRANGE St0 [] = ([4, 18], 1, 0) by kernel_rfl] at h
theorem want_RANGE {w : World} {g : Nat} (h : w.heap[g]? = some (.cells #[.int .i64 4, .int .i64 18] 3 (0, 0))) : Lst w (.slice (some ⟨g, 0, none⟩) 2 2) (some g) [4, 18] := by
  refine .inr ⟨g, 0, 2, _, rfl, rfl, h, by decide, by decide, by decide, ?_⟩
  intro j x hj
  match j, hj with
  | 0, hj => cases hj; rfl
  | 1, hj => cases hj; rfl
  | n + 2, hj => simp at hj
theorem three_row {w : World} {g : Nat} (h : w.heap[g]? = some (.cells #[.string ⟨#[76, 73, 78, 75]⟩, .string ⟨#[73, 78, 84, 83]⟩, .string ⟨#[83, 69, 84]⟩] 9 (0, 0))) : SLst w (.slice (some ⟨g, 0, none⟩) 3 3) (some g) three := by
  refine .inr ⟨g, 0, 3, _, rfl, rfl, h, by decide, by decide, by decide, ?_⟩
  intro j x hj
  match j, hj with
  | 0, hj => cases hj; rfl
  | 1, hj => cases hj; rfl
  | 2, hj => cases hj; rfl
  | n + 3, hj => simp [three] at hj
def expT : ByteArray := ⟨#[99, 108, 97, 115, 115, 32, 77, 65, 73, 78, 32, 99, 114, 101, 97, 116, 101, 32, 109, 97, 107, 101, 32, 102, 101, 97, 116, 117, 114, 101, 32, 123, 32, 65, 78, 89, 32, 125, 32, 109, 97, 107, 101, 32, 108, 111, 99, 97, 108, 32, 99, 32, 58, 32, 67, 79, 85, 78, 84, 69, 82, 32, 100, 111, 32, 99, 114, 101, 97, 116, 101, 32, 99, 32, 46, 32, 109, 97, 107, 101, 32, 59, 32, 99, 32, 46, 32, 97, 100, 100, 32, 40, 32, 50, 32, 41, 32, 59, 32, 112, 117, 116, 32, 99, 32, 46, 32, 99, 111, 117, 110, 116, 32, 59, 32, 101, 110, 100, 32, 101, 110, 100, 10]⟩
theorem exp_eq : (joinT dWords ++ ⟨#[10]⟩ : ByteArray) = expT := by kernel_rfl
theorem Fr.of_drewN {w w' : World} {q : Nat} (h : w' = w.drewN q) : Fr (fun _ => False) w w' := h ▸ Fr.drewN _ _ q
set_option maxRecDepth 100000 in
set_option maxHeartbeats 8000000 in
theorem head_true (w : World) :
    Calls Tryz.prog 4 #[] w fun e w' => e = .returned (.bool true) ∧ Fr (fun _ => False) w w' := by
  have hx : (expT.toList == [99, 108, 97, 115, 115, 32, 77, 65, 73, 78, 32, 99, 114, 101, 97, 116, 101, 32, 109, 97, 107, 101, 32, 102, 101, 97, 116, 117, 114, 101, 32, 123, 32, 65, 78, 89, 32, 125, 32, 109, 97, 107, 101, 32, 108, 111, 99, 97, 108, 32, 99, 32, 58, 32, 67, 79, 85, 78, 84, 69, 82, 32, 100, 111, 32, 99, 114, 101, 97, 116, 101, 32, 99, 32, 46, 32, 109, 97, 107, 101, 32, 59, 32, 99, 32, 46, 32, 97, 100, 100, 32, 40, 32, 50, 32, 41, 32, 59, 32, 112, 117, 116, 32, 99, 32, 46, 32, 99, 111, 117, 110, 116, 32, 59, 32, 101, 110, 100, 32, 101, 110, 100, 10]) = true := by kernel_rfl
  go_enter Tryz.func4, Tryz.ntmps4
  go_wp2_with (first
    | (go_at_call 9
       refine (needs_set _).mono ?_
       rintro e w1 ⟨s, c, own, rfl, hl, hf⟩
       have HL := Lib.hid hl
       have FN := Lib.hid hf
       clear hl hf)
    | (go_at_call 11
       refine (do_any _ _ _ _).mono ?_
       rintro e w1 ⟨rfl, hf⟩
       have FN := Lib.hid (FN.out.trans hf (fun _ _ h => h))
       have HL := Lib.hid (HL.out.fr hf (fun _ _ => id))
       clear hf)
    | (go_at_call 10
       refine (driver_C _ _ _ (heap_alloc_new _ _) (scr_COUNTER (heap_alloc_new _ _))).mono ?_
       rintro e w1 ⟨rfl, hf⟩
       rw [exp_eq]
       have HL := Lib.hid ((HL.out.fr (Fr.alloc (fun _ => False) _ _) (fun _ _ => id)).fr hf (fun _ _ => id))
       have FN := Lib.hid (FN.out.trans ((Fr.alloc (fun _ => False) _ _).trans hf (fun _ _ h => h)) (fun _ _ h => h))
       clear hf)
    | (go_at_call 12
       refine (sameNames_any _ _ 3 _ _ _ _ three _ (by decide) rfl (HL.out.fr (Fr.alloc (fun _ => False) _ _) (fun _ _ => id)) (three_row (heap_alloc_new _ _))).mono ?_
       rintro e w1 ⟨rfl, q, hw⟩
       have hf := Fr.of_drewN hw
       have HL := Lib.hid ((HL.out.fr (Fr.alloc (fun _ => False) _ _) (fun _ _ => id)).fr hf (fun _ _ => id))
       have FN := Lib.hid (FN.out.trans ((Fr.alloc (fun _ => False) _ _).trans hf (fun _ _ h => h)) (fun _ _ h => h))
       clear hf hw))
  refine (says_yes ⟨#[73, 78, 84, 83]⟩ scrINTS _ _ 6 2 _ [9, 5] 0 _ both_INTS ((scr_INTS (heap_alloc_new _ _)).fr (Fr.alloc (fun _ => False) _ _)) (want_INTS (by rw [← World.size_alloc]; exact heap_alloc_new _ _)) (by decide)).mono ?_
  rintro e w2 ⟨rfl, hf⟩
  have FN := Lib.hid (FN.out.trans ((Fr.alloc (fun _ => False) _ _).trans ((Fr.alloc (fun _ => False) _ _).trans hf (fun _ _ h => h)) (fun _ _ h => h)) (fun _ _ h => h))
  have HL := Lib.hid (((HL.out.fr (Fr.alloc (fun _ => False) _ _) (fun _ _ => id)).fr (Fr.alloc (fun _ => False) _ _) (fun _ _ => id)).fr hf (fun _ _ => id))
  clear hf
  go_wp2_with (go_at_call 11
               refine (do_any _ _ _ _).mono ?_
               rintro e w1 ⟨rfl, hf⟩
               have FN := Lib.hid (FN.out.trans hf (fun _ _ h => h))
               have HL := Lib.hid (HL.out.fr hf (fun _ _ => id))
               clear hf)
  refine (says_yes ⟨#[83, 79, 82, 84, 69, 68]⟩ scrSORTED _ _ 5 1 _ [2] 1 _ both_SORTED ((scr_SORTED (heap_alloc_new _ _)).fr (Fr.alloc (fun _ => False) _ _)) (want_SORTED (by rw [← World.size_alloc]; exact heap_alloc_new _ _)) (by decide)).mono ?_
  rintro e w2 ⟨rfl, hf⟩
  have FN := Lib.hid (FN.out.trans ((Fr.alloc (fun _ => False) _ _).trans ((Fr.alloc (fun _ => False) _ _).trans hf (fun _ _ h => h)) (fun _ _ h => h)) (fun _ _ h => h))
  have HL := Lib.hid (((HL.out.fr (Fr.alloc (fun _ => False) _ _) (fun _ _ => id)).fr (Fr.alloc (fun _ => False) _ _) (fun _ _ => id)).fr hf (fun _ _ => id))
  clear hf
  go_wp2_with (go_at_call 11
               refine (do_any _ _ _ _).mono ?_
               rintro e w1 ⟨rfl, hf⟩
               have FN := Lib.hid (FN.out.trans hf (fun _ _ h => h))
               have HL := Lib.hid (HL.out.fr hf (fun _ _ => id))
               clear hf)
  refine (says_yes ⟨#[84, 65, 66, 76, 69]⟩ scrTABLE _ _ 5 3 _ [1, 8, 0] 0 _ both_TABLE ((scr_TABLE (heap_alloc_new _ _)).fr (Fr.alloc (fun _ => False) _ _)) (want_TABLE (by rw [← World.size_alloc]; exact heap_alloc_new _ _)) (by decide)).mono ?_
  rintro e w2 ⟨rfl, hf⟩
  have FN := Lib.hid (FN.out.trans ((Fr.alloc (fun _ => False) _ _).trans ((Fr.alloc (fun _ => False) _ _).trans hf (fun _ _ h => h)) (fun _ _ h => h)) (fun _ _ h => h))
  have HL := Lib.hid (((HL.out.fr (Fr.alloc (fun _ => False) _ _) (fun _ _ => id)).fr (Fr.alloc (fun _ => False) _ _) (fun _ _ => id)).fr hf (fun _ _ => id))
  clear hf
  go_wp2_with (go_at_call 11
               refine (do_any _ _ _ _).mono ?_
               rintro e w1 ⟨rfl, hf⟩
               have FN := Lib.hid (FN.out.trans hf (fun _ _ h => h))
               have HL := Lib.hid (HL.out.fr hf (fun _ _ => id))
               clear hf)
  refine (says_yes ⟨#[65, 82, 73, 84, 72]⟩ scrARITH _ _ 5 4 _ [6, 1024, 120, 3] 107 _ both_ARITH ((scr_ARITH (heap_alloc_new _ _)).fr (Fr.alloc (fun _ => False) _ _)) (want_ARITH (by rw [← World.size_alloc]; exact heap_alloc_new _ _)) (by decide)).mono ?_
  rintro e w2 ⟨rfl, hf⟩
  have FN := Lib.hid (FN.out.trans ((Fr.alloc (fun _ => False) _ _).trans ((Fr.alloc (fun _ => False) _ _).trans hf (fun _ _ h => h)) (fun _ _ h => h)) (fun _ _ h => h))
  have HL := Lib.hid (((HL.out.fr (Fr.alloc (fun _ => False) _ _) (fun _ _ => id)).fr (Fr.alloc (fun _ => False) _ _) (fun _ _ => id)).fr hf (fun _ _ => id))
  clear hf
  go_wp2_with (go_at_call 11
               refine (do_any _ _ _ _).mono ?_
               rintro e w1 ⟨rfl, hf⟩
               have FN := Lib.hid (FN.out.trans hf (fun _ _ h => h))
               have HL := Lib.hid (HL.out.fr hf (fun _ _ => id))
               clear hf)
  refine (says_yes ⟨#[82, 65, 78, 71, 69]⟩ scrRANGE _ _ 4 2 _ [4, 18] 1 _ both_RANGE ((scr_RANGE (heap_alloc_new _ _)).fr (Fr.alloc (fun _ => False) _ _)) (want_RANGE (by rw [← World.size_alloc]; exact heap_alloc_new _ _)) (by decide)).mono ?_
  rintro e w2 ⟨rfl, hf⟩
  have FN := Lib.hid (FN.out.trans ((Fr.alloc (fun _ => False) _ _).trans ((Fr.alloc (fun _ => False) _ _).trans hf (fun _ _ h => h)) (fun _ _ h => h)) (fun _ _ h => h))
  have HL := Lib.hid (((HL.out.fr (Fr.alloc (fun _ => False) _ _) (fun _ _ => id)).fr (Fr.alloc (fun _ => False) _ _) (fun _ _ => id)).fr hf (fun _ _ => id))
  clear hf
  go_wp2
  go_ret
  exact ⟨rfl, FN.out⟩
end Go.Proofs.YtpnbhoeghncnnaaGreatDoor
namespace Go.Proofs.YtpnbhoeghncnnaaGreatDoor
open Go.RowKit
set_option maxHeartbeats 1000000 in
theorem sameInts_wide (s1 s2 : Option Addr) (n c1 c2 : Nat) (o1 o2 : Option Nat) (xs : List Int) (w : World) (hn : n ≤ 9223372036854775807) (hx : xs.length = n) (h1 : Lst w (.slice s1 n c1) o1 xs) (h2 : Lst w (.slice s2 n c2) o2 xs) :
    Calls Tryz.prog 8 #[.slice s1 n c1, .slice s2 n c2] w fun e w' => e = .returned (.bool true) ∧ ∃ q, w' = w.drewN q := by
  have H1 := Lib.hid h1
  have H2 := Lib.hid h2
  have HX := Lib.hid hx
  clear h1 h2 hx
  go_enter Tryz.func8, Tryz.ntmps8
  go_wp2
  go_loopw [5] (fun a wr => ∃ k q : Nat, a = .int .i64 k ∧ k ≤ n ∧ wr = w.drewN q) (fun a _ => n - (intOf a).toNat)
  case atStart => exact ⟨0, 0, rfl, by omega, rfl⟩
  case round =>
    obtain ⟨k, q, rfl, hk, rfl⟩ := hrel
    by_cases hlt : k < n
    · obtain ⟨z, hz⟩ := get_of_lt xs (show k < xs.length by have := HX.out; omega)
      obtain ⟨g1, p1, rfl, r1, l1⟩ := H1.out.at_ hz
      obtain ⟨g2, p2, rfl, r2, l2⟩ := H2.out.at_ hz
      clear hz
      have hl : (n : Int) ≤ 9223372036854775807 := by omega
      have hk1 : (k : Int) < n := by omega
      go_wp2
      go_quiet (fail)
      go_wp2
      go_roundw
      case rel => exact ⟨k + 1, _, by go_num, by omega, rfl⟩
      case measure => simp [intOf]; omega
    · obtain rfl : n = k := by omega
      go_wp2
      go_ret
      exact ⟨rfl, q, rfl⟩

theorem Lst.bound {w : World} {v : Value} {own : Option Nat} {xs : List Int} (h : Lst w v own xs) : xs.length ≤ 9223372036854775807 := by
  rcases h with ⟨_, _, h⟩ | ⟨g, o, cap, cs, h1, h2, h3, h4, h5, h6, h7⟩
  · rw [h]; decide
  · omega
set_option maxRecDepth 100000 in
set_option maxHeartbeats 8000000 in
theorem law_few (cls : ByteArray) (so : Option Addr) (c : Nat) (l : List ScrT) (R : List Int × Int × Int) (hB : Both cls l R) (w : World) (hs : ScrAt w so l)
    (hf : ∀ w : World, Calls Tryz.prog 5 #[.slice so l.length c] w fun e w' => e = .returned (.bool true) ∧ w = w') :
    Calls Tryz.prog 3 #[.string cls, .slice so l.length c] w fun e w' => e = .returned (.bool true) ∧ Fr (fun _ => False) w w' := by
  have HF := Lib.hid hf
  have HS := Lib.hid hs
  have HB := Lib.hid hB
  clear hf hs hB
  obtain ⟨xs, f, er⟩ := R
  go_enter Tryz.func3, Tryz.ntmps3
  go_wp2_with (first
    | (go_at_call 4
       refine (head_true _).mono ?_
       rintro e w1 ⟨rfl, hf⟩
       have FN := Lib.hid hf
       have HS := Lib.hid (HS.out.fr hf)
       clear hf)
    | (go_at_call 5; refine (HF.out _).mono ?_; rintro e w2 ⟨rfl, rfl⟩)
    | (go_at_call 6
       refine ((HB.out so c _ HS.out).1).mono ?_
       rintro e w1 ⟨v1, o1, rfl, hl, hf⟩
       have FN := Lib.hid (FN.out.trans hf (fun _ _ h => h))
       have HS := Lib.hid (HS.out.fr hf)
       obtain ⟨s1, c1, rfl⟩ := hl.form
       have H1 := Lib.hid hl
       clear hl hf)
    | (go_at_call 7
       refine ((HB.out so c _ HS.out).2).mono ?_
       rintro e w1 ⟨v2, o2, rfl, hl, hf⟩
       have FN := Lib.hid (FN.out.trans hf (fun _ _ h => h))
       have H1 := Lib.hid (H1.out.fr hf (fun _ _ => id))
       obtain ⟨s2, c2, rfl⟩ := hl.form
       have H2 := Lib.hid hl
       have HN := Lib.hid (heap_alloc_new w1 (.cells #[.slice s2 xs.length c2, .int .i64 f, .int .i64 er] 30))
       clear hl hf)
    | (go_at_call 8
       refine (sameInts_wide s1 s2 xs.length c1 c2 o1 o2 xs _ H1.out.bound rfl (H1.out.fr (Fr.alloc (fun _ => False) _ _) (fun _ _ => id)) (H2.out.fr (Fr.alloc (fun _ => False) _ _) (fun _ _ => id))).mono ?_
       rintro e w3 ⟨rfl, q, hw⟩
       have hf := Fr.of_drewN hw
       have FN := Lib.hid (FN.out.trans ((Fr.alloc (fun _ => False) _ _).trans hf (fun _ _ h => h)) (fun _ _ h => h))
       have HN := hf.heap HN.out id
       have q1 : w3.cell? ⟨w1.heap.size, 1, none⟩ = some (.int .i64 f) := by rw [heap_cell HN]; rfl
       have q2 : w3.cell? ⟨w1.heap.size, 2, none⟩ = some (.int .i64 er) := by rw [heap_cell HN]; rfl
       have q3 := heap_lt HN
       clear hf hw HN))
  go_ret
  exact ⟨rfl, FN.out⟩
set_option maxHeartbeats 4000000 in
theorem law_many (cls : ByteArray) (so : Option Addr) (c n : Nat) (w : World)
    (hf : ∀ w : World, Calls Tryz.prog 5 #[.slice so n c] w fun e w' => e = .returned (.bool false) ∧ w = w') :
    Calls Tryz.prog 3 #[.string cls, .slice so n c] w fun e w' => e = .returned (.bool true) ∧ Fr (fun _ => False) w w' := by
  have HF := Lib.hid hf
  clear hf
  go_enter Tryz.func3, Tryz.ntmps3
  go_wp2_with (first
    | (go_at_call 4
       refine (head_true _).mono ?_
       rintro e w1 ⟨rfl, hf⟩
       have FN := Lib.hid hf
       clear hf)
    | (go_at_call 5; refine (HF.out _).mono ?_; rintro e w2 ⟨rfl, rfl⟩))
  go_ret
  exact ⟨rfl, FN.out⟩
theorem law_true (cls : ByteArray) (so : Option Addr) (c : Nat) (l : List ScrT) (w : World) (hs : ScrAt w so l) :
    Calls Tryz.prog 3 #[.string cls, .slice so l.length c] w fun e w' => e = .returned (.bool true) ∧ Fr (fun _ => False) w w' := by
  by_cases h1 : (l.length : Int) ≤ 20
  · obtain ⟨R, hB⟩ := both_ex cls l (.inl h1)
    exact law_few cls so c l R hB w hs (fun w => few_yes so _ c w h1)
  · by_cases h2 : (l.length : Int) ≤ 40
    · exact law_many cls so c _ w (fun w => few_mid so _ c w (by omega) h2)
    · by_cases h3 : (l.length : Int) ≤ 60
      · obtain ⟨R, hB⟩ := both_ex cls l (.inr (by omega))
        exact law_few cls so c l R hB w hs (fun w => few_long so _ c w (by omega) h3)
      · exact law_many cls so c _ w (fun w => few_over so _ c w (by omega))
end Go.Proofs.YtpnbhoeghncnnaaGreatDoor

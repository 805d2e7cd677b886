/-
  A part of the proof of Rows.BaseModelsCardSaid (for every class and script BaseModels answers true, and its arguments read as they did; the listed library variables as the program text lays them): texts PC, PD, QA. By an AI agent.
-/
import Derived.Test.YtpnbhoeghncnnaaGreatDoorM10
import Derived.WideShapes
set_option linter.all false
set_option linter.unusedVariables false
set_option linter.unusedSimpArgs false
namespace Go.Proofs.YtpnbhoeghncnnaaGreatDoor
open Go.RowKit
def BDone (k b kr dr mb : Nat) (own : Option Nat) (w : World) (o : Out) (e : Ending) (w' : World) : Prop := match o with
  | .go n s' => e = .returned (.tuple #[.int .i64 n, .agg #[.int .i64 0, .int .i64 0]]) ∧ ∃ own', BInv k b kr dr mb s' own' w' ∧ New w own own' ∧ Fr (FB b kr own) w w'
  | .halt f er => e = .returned (.tuple #[.int .i64 0, .agg #[.int .i64 f, .int .i64 er]]) ∧ Fr (FB b kr own) w w'
theorem bstep_go {k b kr dr mb : Nat} {s s' : St} {own : Option Nat} {w : World} (hB : BInv k b kr dr mb s own w) {nm : ByteArray} {es : Array MapEntry} {c j n : Nat} {first cap : Array Value} {x y r : Int}
    (hes : w.heap[dr]? = some (.map es c)) (hf : Instr.findNow .string (.string nm) es.toList 0 = some (some (j, .func (.func n) first cap)))
    (hcf : ∀ (args : Array Value) (w : World), (callFunc n args).run Tryz.prog w = .ok (.enter n args) w)
    (hcall : ∀ w1, BInv k b kr dr mb s own w1 → Fr (fun _ => False) w w1 → Calls Tryz.prog n (first ++ (#[.int .i64 x, .int .i64 y] ++ cap)) w1 fun e w2 => e = .returned (.int .i64 r) ∧ Upd b kr dr s' own w1 w2) :
    Calls Tryz.prog 17 #[.pointer (some ⟨b, 0, none⟩), .agg #[.string nm, .int .i64 x, .int .i64 y]] w (BDone k b kr dr mb own w (.go r s')) := bstep_of hB hes hf hcf hcall
theorem bstep_no {k b kr dr mb : Nat} {s : St} {own : Option Nat} {w : World} (hB : BInv k b kr dr mb s own w) {nm : ByteArray} {es : Array MapEntry} {c j n : Nat} {first cap : Array Value} {x y f er : Int}
    (hes : w.heap[dr]? = some (.map es c)) (hf : Instr.findNow .string (.string nm) es.toList 0 = some (some (j, .func (.func n) first cap)))
    (hcf : ∀ (args : Array Value) (w : World), (callFunc n args).run Tryz.prog w = .ok (.enter n args) w)
    (hcall : ∀ w1, BInv k b kr dr mb s own w1 → Fr (fun _ => False) w w1 → Calls Tryz.prog n (first ++ (#[.int .i64 x, .int .i64 y] ++ cap)) w1 fun e w2 => e = (Res.stop f er).ends ∧ ∃ m, w2 = w1.drewN m) :
    Calls Tryz.prog 17 #[.pointer (some ⟨b, 0, none⟩), .agg #[.string nm, .int .i64 x, .int .i64 y]] w (BDone k b kr dr mb own w (.halt f er)) := by
  obtain ⟨lv, hm, hl⟩ := hB.lm
  exact (done_no b dr nm x y f er es c j n first cap w hm.c4 hes hf hcf (fun w1 hf1 => hcall w1 (hB.fr hf1 (fun _ _ => id)) hf1)).mono fun e w' h => ⟨h.1, h.2.weak⟩
theorem bstep_res {k b kr dr mb : Nat} {s : St} {own : Option Nat} {w : World} (hB : BInv k b kr dr mb s own w) {nm : ByteArray} {es : Array MapEntry} {c j n : Nat} {first cap : Array Value} {x y : Int} (r : Res)
    (hes : w.heap[dr]? = some (.map es c)) (hf : Instr.findNow .string (.string nm) es.toList 0 = some (some (j, .func (.func n) first cap)))
    (hcf : ∀ (args : Array Value) (w : World), (callFunc n args).run Tryz.prog w = .ok (.enter n args) w)
    (hcall : ∀ w1, BInv k b kr dr mb s own w1 → Fr (fun _ => False) w w1 → Calls Tryz.prog n (first ++ (#[.int .i64 x, .int .i64 y] ++ cap)) w1 fun e w2 => e = r.ends ∧ ∃ m, w2 = w1.drewN m) :
    Calls Tryz.prog 17 #[.pointer (some ⟨b, 0, none⟩), .agg #[.string nm, .int .i64 x, .int .i64 y]] w (BDone k b kr dr mb own w (ofR r s)) := by
  cases r with
  | val v => exact bstep_go hB hes hf hcf (fun w1 h1 f1 => (hcall w1 h1 f1).mono fun e w2 h => ⟨h.1, Upd.drawn h1 h.2⟩)
  | stop f er => exact bstep_no hB hes hf hcf hcall
theorem drawn0 {w w' : World} (h : w = w') : ∃ m, w' = w.drewN m := ⟨0, by subst h; rfl⟩
theorem LM.c0 {w : World} {b kr dr : Nat} {lo hi : Int} {own : Option Nat} {xs : List Int} (h : LM w b kr dr lo hi own xs) : ∃ s c, w.cell? ⟨b, 0, none⟩ = some (.slice s xs.length c) := by
  obtain ⟨lv, hm, hl, hb⟩ := h
  obtain ⟨s, c, rfl⟩ := hl.form
  exact ⟨s, c, hm.c0⟩
theorem LM.head {w : World} {b kr dr : Nat} {lo hi : Int} {own : Option Nat} {z : Int} {xs : List Int} (h : LM w b kr dr lo hi own (z :: xs)) : ∃ g o c, w.cell? ⟨b, 0, none⟩ = some (.slice (some ⟨g, o, none⟩) (xs.length + 1) c) ∧ w.cell? ⟨g, o, none⟩ = some (.int .i64 z) := by
  obtain ⟨lv, hm, hl, hb⟩ := h
  rcases hl with ⟨_, _, hx⟩ | ⟨g, o, cap, cs, rfl, h2, h3, h4, h5, h6, h7⟩
  · cases hx
  · exact ⟨g, o, cap, hm.c0, by rw [heap_cell h3]; exact h7 0 z rfl⟩
theorem count_lm {b kr dr : Nat} {lo hi : Int} {own : Option Nat} {xs : List Int} (x y : Int) {w : World} (h : LM w b kr dr lo hi own xs) : Calls Tryz.prog 33 #[.pointer (some ⟨b, 0, none⟩), .int .i64 x, .int .i64 y] w fun e w' => e = .returned (.int .i64 xs.length) ∧ w = w' := by
  obtain ⟨s0, c0, h0⟩ := h.c0; exact count_any b xs.length c0 s0 x y w h0
theorem peek_nil_lm {b kr dr : Nat} {lo hi : Int} {own : Option Nat} (x y : Int) {w : World} (h : LM w b kr dr lo hi own []) : Calls Tryz.prog 47 #[.pointer (some ⟨b, 0, none⟩), .int .i64 x, .int .i64 y] w fun e w' => e = .returned (.int .i64 0) ∧ w = w' := by
  obtain ⟨s0, c0, h0⟩ := h.c0; exact peek_nil b c0 s0 x y w h0
theorem front_nil_lm {b kr dr : Nat} {lo hi : Int} {own : Option Nat} (x y : Int) {w : World} (h : LM w b kr dr lo hi own []) : Calls Tryz.prog 48 #[.pointer (some ⟨b, 0, none⟩), .int .i64 x, .int .i64 y] w fun e w' => e = (Res.stop 1 0).ends ∧ w = w' := by
  obtain ⟨s0, c0, h0⟩ := h.c0; exact front_nil b c0 s0 x y w h0
theorem peek_cons_lm {b kr dr : Nat} {lo hi : Int} {own : Option Nat} {z : Int} {xs : List Int} (x y : Int) {w : World} (h : LM w b kr dr lo hi own (z :: xs)) : Calls Tryz.prog 47 #[.pointer (some ⟨b, 0, none⟩), .int .i64 x, .int .i64 y] w fun e w' => e = .returned (.int .i64 z) ∧ w = w' := by
  obtain ⟨g, o, c0, h0, h2⟩ := h.head; exact peek_cons b g o xs.length c0 x y z w h0 h2
theorem front_cons_lm {b kr dr : Nat} {lo hi : Int} {own : Option Nat} {z : Int} {xs : List Int} (x y : Int) {w : World} (h : LM w b kr dr lo hi own (z :: xs)) : Calls Tryz.prog 48 #[.pointer (some ⟨b, 0, none⟩), .int .i64 x, .int .i64 y] w fun e w' => e = .returned (.int .i64 z) ∧ w = w' := by
  obtain ⟨g, o, c0, h0, h2⟩ := h.head; exact front_cons b g o xs.length c0 x y z w h0 h2
theorem LM.c2 {w : World} {b kr dr : Nat} {lo hi : Int} {own : Option Nat} {xs : List Int} (h : LM w b kr dr lo hi own xs) : w.cell? ⟨b, 2, none⟩ = some (.int .i64 lo) := by obtain ⟨lv, hm, hl⟩ := h; exact hm.c2
theorem LM.c3 {w : World} {b kr dr : Nat} {lo hi : Int} {own : Option Nat} {xs : List Int} (h : LM w b kr dr lo hi own xs) : w.cell? ⟨b, 3, none⟩ = some (.int .i64 hi) := by obtain ⟨lv, hm, hl⟩ := h; exact hm.c3
theorem bstep_1_0 {b kr dr mb : Nat} {s : St} {own : Option Nat} {w : World} {x y : Int} (hB : BInv 1 b kr dr mb s own w) (hG : Good 100 s) (hx : inNum x = true) (hy : inNum y = true) : Calls Tryz.prog 17 #[.pointer (some ⟨b, 0, none⟩), .agg #[.string ⟨#[99, 111, 117, 110, 116]⟩, .int .i64 x, .int .i64 y]] w (BDone 1 b kr dr mb own w (stepF 1 0 x y s)) := by
  obtain ⟨es, c, hes, hd⟩ := hB.deeds
  obtain ⟨j, n, first, cap, hf, hq⟩ := hd 0 _ rfl
  obtain ⟨rfl, rfl, rfl⟩ := hq
  exact bstep_go hB hes hf (fun _ _ => by kernel_rfl) (fun w1 h1 f1 => (count_lm x y h1.lm).mono fun e w2 h => ⟨h.1, Upd.same h1 h.2⟩)
theorem bstep_1_1 {b kr dr mb : Nat} {s : St} {own : Option Nat} {w : World} {x y : Int} (hB : BInv 1 b kr dr mb s own w) (hG : Good 100 s) (hx : inNum x = true) (hy : inNum y = true) : Calls Tryz.prog 17 #[.pointer (some ⟨b, 0, none⟩), .agg #[.string ⟨#[112, 117, 115, 104]⟩, .int .i64 x, .int .i64 y]] w (BDone 1 b kr dr mb own w (stepF 1 1 x y s)) := by
  obtain ⟨es, c, hes, hd⟩ := hB.deeds
  obtain ⟨j, n, first, cap, hf, hq⟩ := hd 1 _ rfl
  obtain ⟨rfl, rfl, B, rfl, hbx⟩ := hq
  exact bstep_go hB hes hf (fun _ _ => by kernel_rfl) (fun w1 h1 f1 => (quiet_ok37 B b x y w1 (fun w2 => Upd b kr dr _ own w1 w2) (by rw [heap_cell (f1.heap hbx id)]; rfl) ((push_any b kr dr s.lo s.hi own s.xs x y w1 h1.lm (by have := hG.len; omega)).mono fun e w2 h => ⟨h.1, Upd.did h1 h.2⟩)))
theorem bstep_1_2 {b kr dr mb : Nat} {s : St} {own : Option Nat} {w : World} {x y : Int} (hB : BInv 1 b kr dr mb s own w) (hG : Good 100 s) (hx : inNum x = true) (hy : inNum y = true) : Calls Tryz.prog 17 #[.pointer (some ⟨b, 0, none⟩), .agg #[.string ⟨#[101, 120, 116, 101, 110, 100]⟩, .int .i64 x, .int .i64 y]] w (BDone 1 b kr dr mb own w (stepF 1 2 x y s)) := by
  obtain ⟨es, c, hes, hd⟩ := hB.deeds
  obtain ⟨j, n, first, cap, hf, hq⟩ := hd 2 _ rfl
  obtain ⟨rfl, rfl, B, rfl, hbx⟩ := hq
  exact bstep_go hB hes hf (fun _ _ => by kernel_rfl) (fun w1 h1 f1 => (quiet_ok38 B b x y w1 (fun w2 => Upd b kr dr _ own w1 w2) (by rw [heap_cell (f1.heap hbx id)]; rfl) ((extend_any b kr dr s.lo s.hi own s.xs x y w1 h1.lm (by have := hG.len; omega)).mono fun e w2 h => ⟨h.1, Upd.did h1 h.2⟩)))
theorem bstep_1_3 {b kr dr mb : Nat} {s : St} {own : Option Nat} {w : World} {x y : Int} (hB : BInv 1 b kr dr mb s own w) (hG : Good 100 s) (hx : inNum x = true) (hy : inNum y = true) : Calls Tryz.prog 17 #[.pointer (some ⟨b, 0, none⟩), .agg #[.string ⟨#[104, 97, 115]⟩, .int .i64 x, .int .i64 y]] w (BDone 1 b kr dr mb own w (stepF 1 3 x y s)) := by
  obtain ⟨es, c, hes, hd⟩ := hB.deeds
  obtain ⟨j, n, first, cap, hf, hq⟩ := hd 3 _ rfl
  obtain ⟨rfl, rfl, rfl⟩ := hq
  exact bstep_go hB hes hf (fun _ _ => by kernel_rfl) (fun w1 h1 f1 => (has_any b kr dr s.lo s.hi own s.xs x y w1 h1.lm (by have := hG.len; omega)).mono fun e w2 h => ⟨h.1, Upd.same h1 h.2⟩)
theorem bstep_1_4 {b kr dr mb : Nat} {s : St} {own : Option Nat} {w : World} {x y : Int} (hB : BInv 1 b kr dr mb s own w) (hG : Good 100 s) (hx : inNum x = true) (hy : inNum y = true) : Calls Tryz.prog 17 #[.pointer (some ⟨b, 0, none⟩), .agg #[.string ⟨#[105, 116, 101, 109]⟩, .int .i64 x, .int .i64 y]] w (BDone 1 b kr dr mb own w (stepF 1 4 x y s)) := by
  obtain ⟨es, c, hes, hd⟩ := hB.deeds
  obtain ⟨j, n, first, cap, hf, hq⟩ := hd 4 _ rfl
  obtain ⟨rfl, rfl, rfl⟩ := hq
  exact bstep_res hB (itemF x s.xs) hes hf (fun _ _ => by kernel_rfl) (fun w1 h1 f1 => (item_any b kr dr s.lo s.hi own s.xs x y w1 h1.lm (by have := hG.len; omega)).mono fun e w2 h => ⟨h.1, drawn0 h.2⟩)
theorem bstep_1_5 {b kr dr mb : Nat} {s : St} {own : Option Nat} {w : World} {x y : Int} (hB : BInv 1 b kr dr mb s own w) (hG : Good 100 s) (hx : inNum x = true) (hy : inNum y = true) : Calls Tryz.prog 17 #[.pointer (some ⟨b, 0, none⟩), .agg #[.string ⟨#[115, 117, 109]⟩, .int .i64 x, .int .i64 y]] w (BDone 1 b kr dr mb own w (stepF 1 5 x y s)) := by
  obtain ⟨es, c, hes, hd⟩ := hB.deeds
  obtain ⟨j, n, first, cap, hf, hq⟩ := hd 5 _ rfl
  obtain ⟨rfl, rfl, rfl⟩ := hq
  exact bstep_res hB (sumFrom s.xs 0) hes hf (fun _ _ => by kernel_rfl) (fun w1 h1 f1 => (sum_any b kr dr s.lo s.hi own s.xs x y w1 h1.lm (by have := hG.len; omega) hG.all).mono fun e w2 h => ⟨h.1, drawn0 h.2⟩)
theorem bstep_1_6 {b kr dr mb : Nat} {s : St} {own : Option Nat} {w : World} {x y : Int} (hB : BInv 1 b kr dr mb s own w) (hG : Good 100 s) (hx : inNum x = true) (hy : inNum y = true) : Calls Tryz.prog 17 #[.pointer (some ⟨b, 0, none⟩), .agg #[.string ⟨#[114, 101, 109, 111, 118, 101]⟩, .int .i64 x, .int .i64 y]] w (BDone 1 b kr dr mb own w (stepF 1 6 x y s)) := by
  obtain ⟨es, c, hes, hd⟩ := hB.deeds
  obtain ⟨j, n, first, cap, hf, hq⟩ := hd 6 _ rfl
  obtain ⟨rfl, rfl, B, rfl, hbx⟩ := hq
  exact bstep_go hB hes hf (fun _ _ => by kernel_rfl) (fun w1 h1 f1 => (quiet_ok41 B b x y w1 (fun w2 => Upd b kr dr _ own w1 w2) (by rw [heap_cell (f1.heap hbx id)]; rfl) ((remove_any b kr dr s.lo s.hi own s.xs x y w1 h1.lm (by have := hG.len; omega)).mono fun e w2 h => ⟨h.1, Upd.did h1 h.2⟩)))
theorem bstep_1_7 {b kr dr mb : Nat} {s : St} {own : Option Nat} {w : World} {x y : Int} (hB : BInv 1 b kr dr mb s own w) (hG : Good 100 s) (hx : inNum x = true) (hy : inNum y = true) : Calls Tryz.prog 17 #[.pointer (some ⟨b, 0, none⟩), .agg #[.string ⟨#[114, 101, 118, 101, 114, 115, 101]⟩, .int .i64 x, .int .i64 y]] w (BDone 1 b kr dr mb own w (stepF 1 7 x y s)) := by
  obtain ⟨es, c, hes, hd⟩ := hB.deeds
  obtain ⟨j, n, first, cap, hf, hq⟩ := hd 7 _ rfl
  obtain ⟨rfl, rfl, B, rfl, hbx⟩ := hq
  exact bstep_go hB hes hf (fun _ _ => by kernel_rfl) (fun w1 h1 f1 => (quiet_ok39 B b x y w1 (fun w2 => Upd b kr dr _ own w1 w2) (by rw [heap_cell (f1.heap hbx id)]; rfl) ((reverse_any b kr dr s.lo s.hi own s.xs x y w1 h1.lm).mono fun e w2 h => ⟨h.1, Upd.did h1 h.2⟩)))
theorem bstep_1_8 {b kr dr mb : Nat} {s : St} {own : Option Nat} {w : World} {x y : Int} (hB : BInv 1 b kr dr mb s own w) (hG : Good 100 s) (hx : inNum x = true) (hy : inNum y = true) : Calls Tryz.prog 17 #[.pointer (some ⟨b, 0, none⟩), .agg #[.string ⟨#[119, 105, 112, 101]⟩, .int .i64 x, .int .i64 y]] w (BDone 1 b kr dr mb own w (stepF 1 8 x y s)) := by
  obtain ⟨es, c, hes, hd⟩ := hB.deeds
  obtain ⟨j, n, first, cap, hf, hq⟩ := hd 8 _ rfl
  obtain ⟨rfl, rfl, B, rfl, hbx⟩ := hq
  exact bstep_go hB hes hf (fun _ _ => by kernel_rfl) (fun w1 h1 f1 => (quiet_ok42 B b x y w1 (fun w2 => Upd b kr dr _ own w1 w2) (by rw [heap_cell (f1.heap hbx id)]; rfl) ((wipe_any b kr dr s.lo s.hi own s.xs x y w1 h1.lm).mono fun e w2 h => ⟨h.1, Upd.did h1 h.2⟩)))
theorem bstep_2_0 {b kr dr mb : Nat} {s : St} {own : Option Nat} {w : World} {x y : Int} (hB : BInv 2 b kr dr mb s own w) (hG : Good 100 s) (hx : inNum x = true) (hy : inNum y = true) : Calls Tryz.prog 17 #[.pointer (some ⟨b, 0, none⟩), .agg #[.string ⟨#[99, 111, 117, 110, 116]⟩, .int .i64 x, .int .i64 y]] w (BDone 2 b kr dr mb own w (stepF 2 0 x y s)) := by
  obtain ⟨es, c, hes, hd⟩ := hB.deeds
  obtain ⟨j, n, first, cap, hf, hq⟩ := hd 0 _ rfl
  obtain ⟨rfl, rfl, rfl⟩ := hq
  exact bstep_go hB hes hf (fun _ _ => by kernel_rfl) (fun w1 h1 f1 => (count_lm x y h1.lm).mono fun e w2 h => ⟨h.1, Upd.same h1 h.2⟩)
theorem bstep_2_1 {b kr dr mb : Nat} {s : St} {own : Option Nat} {w : World} {x y : Int} (hB : BInv 2 b kr dr mb s own w) (hG : Good 100 s) (hx : inNum x = true) (hy : inNum y = true) : Calls Tryz.prog 17 #[.pointer (some ⟨b, 0, none⟩), .agg #[.string ⟨#[112, 117, 115, 104]⟩, .int .i64 x, .int .i64 y]] w (BDone 2 b kr dr mb own w (stepF 2 1 x y s)) := by
  obtain ⟨es, c, hes, hd⟩ := hB.deeds
  obtain ⟨j, n, first, cap, hf, hq⟩ := hd 1 _ rfl
  obtain ⟨rfl, rfl, B, rfl, hbx⟩ := hq
  exact bstep_go hB hes hf (fun _ _ => by kernel_rfl) (fun w1 h1 f1 => (quiet_ok43 B b x y w1 (fun w2 => Upd b kr dr _ own w1 w2) (by rw [heap_cell (f1.heap hbx id)]; rfl) ((insert_any b kr dr s.lo s.hi own s.xs x y w1 h1.lm (by have := hG.len; omega)).mono fun e w2 h => ⟨h.1, Upd.did h1 h.2⟩)))
theorem bstep_2_2 {b kr dr mb : Nat} {s : St} {own : Option Nat} {w : World} {x y : Int} (hB : BInv 2 b kr dr mb s own w) (hG : Good 100 s) (hx : inNum x = true) (hy : inNum y = true) : Calls Tryz.prog 17 #[.pointer (some ⟨b, 0, none⟩), .agg #[.string ⟨#[101, 120, 116, 101, 110, 100]⟩, .int .i64 x, .int .i64 y]] w (BDone 2 b kr dr mb own w (stepF 2 2 x y s)) := by
  obtain ⟨es, c, hes, hd⟩ := hB.deeds
  obtain ⟨j, n, first, cap, hf, hq⟩ := hd 2 _ rfl
  obtain ⟨rfl, rfl, B, rfl, hbx⟩ := hq
  exact bstep_go hB hes hf (fun _ _ => by kernel_rfl) (fun w1 h1 f1 => (quiet_ok43 B b x y w1 (fun w2 => Upd b kr dr _ own w1 w2) (by rw [heap_cell (f1.heap hbx id)]; rfl) ((insert_any b kr dr s.lo s.hi own s.xs x y w1 h1.lm (by have := hG.len; omega)).mono fun e w2 h => ⟨h.1, Upd.did h1 h.2⟩)))
theorem bstep_2_3 {b kr dr mb : Nat} {s : St} {own : Option Nat} {w : World} {x y : Int} (hB : BInv 2 b kr dr mb s own w) (hG : Good 100 s) (hx : inNum x = true) (hy : inNum y = true) : Calls Tryz.prog 17 #[.pointer (some ⟨b, 0, none⟩), .agg #[.string ⟨#[104, 97, 115]⟩, .int .i64 x, .int .i64 y]] w (BDone 2 b kr dr mb own w (stepF 2 3 x y s)) := by
  obtain ⟨es, c, hes, hd⟩ := hB.deeds
  obtain ⟨j, n, first, cap, hf, hq⟩ := hd 3 _ rfl
  obtain ⟨rfl, rfl, rfl⟩ := hq
  exact bstep_go hB hes hf (fun _ _ => by kernel_rfl) (fun w1 h1 f1 => (has_any b kr dr s.lo s.hi own s.xs x y w1 h1.lm (by have := hG.len; omega)).mono fun e w2 h => ⟨h.1, Upd.same h1 h.2⟩)
theorem bstep_2_4 {b kr dr mb : Nat} {s : St} {own : Option Nat} {w : World} {x y : Int} (hB : BInv 2 b kr dr mb s own w) (hG : Good 100 s) (hx : inNum x = true) (hy : inNum y = true) : Calls Tryz.prog 17 #[.pointer (some ⟨b, 0, none⟩), .agg #[.string ⟨#[105, 116, 101, 109]⟩, .int .i64 x, .int .i64 y]] w (BDone 2 b kr dr mb own w (stepF 2 4 x y s)) := by
  obtain ⟨es, c, hes, hd⟩ := hB.deeds
  obtain ⟨j, n, first, cap, hf, hq⟩ := hd 4 _ rfl
  obtain ⟨rfl, rfl, rfl⟩ := hq
  exact bstep_res hB (itemF x s.xs) hes hf (fun _ _ => by kernel_rfl) (fun w1 h1 f1 => (item_any b kr dr s.lo s.hi own s.xs x y w1 h1.lm (by have := hG.len; omega)).mono fun e w2 h => ⟨h.1, drawn0 h.2⟩)
theorem bstep_2_5 {b kr dr mb : Nat} {s : St} {own : Option Nat} {w : World} {x y : Int} (hB : BInv 2 b kr dr mb s own w) (hG : Good 100 s) (hx : inNum x = true) (hy : inNum y = true) : Calls Tryz.prog 17 #[.pointer (some ⟨b, 0, none⟩), .agg #[.string ⟨#[115, 117, 109]⟩, .int .i64 x, .int .i64 y]] w (BDone 2 b kr dr mb own w (stepF 2 5 x y s)) := by
  obtain ⟨es, c, hes, hd⟩ := hB.deeds
  obtain ⟨j, n, first, cap, hf, hq⟩ := hd 5 _ rfl
  obtain ⟨rfl, rfl, rfl⟩ := hq
  exact bstep_res hB (sumFrom s.xs 0) hes hf (fun _ _ => by kernel_rfl) (fun w1 h1 f1 => (sum_any b kr dr s.lo s.hi own s.xs x y w1 h1.lm (by have := hG.len; omega) hG.all).mono fun e w2 h => ⟨h.1, drawn0 h.2⟩)
theorem bstep_2_6 {b kr dr mb : Nat} {s : St} {own : Option Nat} {w : World} {x y : Int} (hB : BInv 2 b kr dr mb s own w) (hG : Good 100 s) (hx : inNum x = true) (hy : inNum y = true) : Calls Tryz.prog 17 #[.pointer (some ⟨b, 0, none⟩), .agg #[.string ⟨#[114, 101, 109, 111, 118, 101]⟩, .int .i64 x, .int .i64 y]] w (BDone 2 b kr dr mb own w (stepF 2 6 x y s)) := by
  obtain ⟨es, c, hes, hd⟩ := hB.deeds
  obtain ⟨j, n, first, cap, hf, hq⟩ := hd 6 _ rfl
  obtain ⟨rfl, rfl, B, rfl, hbx⟩ := hq
  exact bstep_go hB hes hf (fun _ _ => by kernel_rfl) (fun w1 h1 f1 => (quiet_ok41 B b x y w1 (fun w2 => Upd b kr dr _ own w1 w2) (by rw [heap_cell (f1.heap hbx id)]; rfl) ((remove_any b kr dr s.lo s.hi own s.xs x y w1 h1.lm (by have := hG.len; omega)).mono fun e w2 h => ⟨h.1, Upd.did h1 h.2⟩)))
theorem bstep_2_7 {b kr dr mb : Nat} {s : St} {own : Option Nat} {w : World} {x y : Int} (hB : BInv 2 b kr dr mb s own w) (hG : Good 100 s) (hx : inNum x = true) (hy : inNum y = true) : Calls Tryz.prog 17 #[.pointer (some ⟨b, 0, none⟩), .agg #[.string ⟨#[114, 101, 118, 101, 114, 115, 101]⟩, .int .i64 x, .int .i64 y]] w (BDone 2 b kr dr mb own w (stepF 2 7 x y s)) := by
  obtain ⟨es, c, hes, hd⟩ := hB.deeds
  obtain ⟨j, n, first, cap, hf, hq⟩ := hd 7 _ rfl
  obtain ⟨rfl, rfl, B, rfl, hbx⟩ := hq
  exact bstep_go hB hes hf (fun _ _ => by kernel_rfl) (fun w1 h1 f1 => (quiet_ok44 B x y w1 (fun w2 => Upd b kr dr _ own w1 w2) (by rw [heap_cell (f1.heap hbx id)]; rfl) ((none_any x y w1).mono fun e w2 h => ⟨h.1, Upd.same h1 h.2⟩)))
theorem bstep_2_8 {b kr dr mb : Nat} {s : St} {own : Option Nat} {w : World} {x y : Int} (hB : BInv 2 b kr dr mb s own w) (hG : Good 100 s) (hx : inNum x = true) (hy : inNum y = true) : Calls Tryz.prog 17 #[.pointer (some ⟨b, 0, none⟩), .agg #[.string ⟨#[119, 105, 112, 101]⟩, .int .i64 x, .int .i64 y]] w (BDone 2 b kr dr mb own w (stepF 2 8 x y s)) := by
  obtain ⟨es, c, hes, hd⟩ := hB.deeds
  obtain ⟨j, n, first, cap, hf, hq⟩ := hd 8 _ rfl
  obtain ⟨rfl, rfl, B, rfl, hbx⟩ := hq
  exact bstep_go hB hes hf (fun _ _ => by kernel_rfl) (fun w1 h1 f1 => (quiet_ok42 B b x y w1 (fun w2 => Upd b kr dr _ own w1 w2) (by rw [heap_cell (f1.heap hbx id)]; rfl) ((wipe_any b kr dr s.lo s.hi own s.xs x y w1 h1.lm).mono fun e w2 h => ⟨h.1, Upd.did h1 h.2⟩)))
theorem bstep_4_0 {b kr dr mb : Nat} {s : St} {own : Option Nat} {w : World} {x y : Int} (hB : BInv 4 b kr dr mb s own w) (hG : Good 100 s) (hx : inNum x = true) (hy : inNum y = true) : Calls Tryz.prog 17 #[.pointer (some ⟨b, 0, none⟩), .agg #[.string ⟨#[99, 111, 117, 110, 116]⟩, .int .i64 x, .int .i64 y]] w (BDone 4 b kr dr mb own w (stepF 4 0 x y s)) := by
  obtain ⟨es, c, hes, hd⟩ := hB.deeds
  obtain ⟨j, n, first, cap, hf, hq⟩ := hd 0 _ rfl
  obtain ⟨rfl, rfl, rfl⟩ := hq
  exact bstep_go hB hes hf (fun _ _ => by kernel_rfl) (fun w1 h1 f1 => (count_lm x y h1.lm).mono fun e w2 h => ⟨h.1, Upd.same h1 h.2⟩)
theorem bstep_4_1 {b kr dr mb : Nat} {s : St} {own : Option Nat} {w : World} {x y : Int} (hB : BInv 4 b kr dr mb s own w) (hG : Good 100 s) (hx : inNum x = true) (hy : inNum y = true) : Calls Tryz.prog 17 #[.pointer (some ⟨b, 0, none⟩), .agg #[.string ⟨#[112, 117, 115, 104]⟩, .int .i64 x, .int .i64 y]] w (BDone 4 b kr dr mb own w (stepF 4 1 x y s)) := by
  obtain ⟨es, c, hes, hd⟩ := hB.deeds
  obtain ⟨j, n, first, cap, hf, hq⟩ := hd 1 _ rfl
  obtain ⟨rfl, rfl, B, rfl, hbx⟩ := hq
  by_cases h0 : x < 0
  · rw [show stepF 4 1 x y s = .halt 1 0 by unfold stepF; exact if_pos h0]
    exact bstep_no hB hes hf (fun _ _ => by kernel_rfl) (fun w1 h1 f1 => (quiet_no45 B b x y 1 w1 (by rw [heap_cell (f1.heap hbx id)]; rfl) (lay_no b x y w1 h0)).mono fun e w2 h => ⟨h.1, drawn0 h.2⟩)
  · rw [show stepF 4 1 x y s = .go 0 { s with xs := x :: s.xs } by unfold stepF; exact if_neg h0]
    exact bstep_go hB hes hf (fun _ _ => by kernel_rfl) (fun w1 h1 f1 => (quiet_ok45 B b x y w1 (fun w2 => Upd b kr dr _ own w1 w2) (by rw [heap_cell (f1.heap hbx id)]; rfl) ((lay_yes b kr dr s.lo s.hi own s.xs x y w1 h1.lm (by have := hG.len; omega) (by omega)).mono fun e w2 h => ⟨h.1, Upd.did h1 h.2⟩)))
theorem bstep_4_2 {b kr dr mb : Nat} {s : St} {own : Option Nat} {w : World} {x y : Int} (hB : BInv 4 b kr dr mb s own w) (hG : Good 100 s) (hx : inNum x = true) (hy : inNum y = true) : Calls Tryz.prog 17 #[.pointer (some ⟨b, 0, none⟩), .agg #[.string ⟨#[112, 111, 112]⟩, .int .i64 x, .int .i64 y]] w (BDone 4 b kr dr mb own w (stepF 4 2 x y s)) := by
  obtain ⟨es, c, hes, hd⟩ := hB.deeds
  obtain ⟨j, n, first, cap, hf, hq⟩ := hd 2 _ rfl
  obtain ⟨rfl, rfl, B, rfl, hbx⟩ := hq
  obtain ⟨xs, al, lo, hi⟩ := s
  cases xs with
  | nil => exact bstep_no hB hes hf (fun _ _ => by kernel_rfl) (fun w1 h1 f1 => (quiet_no46 B b x y 1 w1 (by rw [heap_cell (f1.heap hbx id)]; rfl) (leave_no b kr dr lo hi own x y w1 h1.lm)).mono fun e w2 h => ⟨h.1, drawn0 h.2⟩)
  | cons z r => exact bstep_go hB hes hf (fun _ _ => by kernel_rfl) (fun w1 h1 f1 => (quiet_ok46 B b x y w1 (fun w2 => Upd b kr dr _ own w1 w2) (by rw [heap_cell (f1.heap hbx id)]; rfl) ((leave_yes b kr dr lo hi own z r x y w1 h1.lm).mono fun e w2 h => ⟨h.1, Upd.did h1 h.2⟩)))
theorem bstep_4_3 {b kr dr mb : Nat} {s : St} {own : Option Nat} {w : World} {x y : Int} (hB : BInv 4 b kr dr mb s own w) (hG : Good 100 s) (hx : inNum x = true) (hy : inNum y = true) : Calls Tryz.prog 17 #[.pointer (some ⟨b, 0, none⟩), .agg #[.string ⟨#[112, 101, 101, 107]⟩, .int .i64 x, .int .i64 y]] w (BDone 4 b kr dr mb own w (stepF 4 3 x y s)) := by
  obtain ⟨es, c, hes, hd⟩ := hB.deeds
  obtain ⟨j, n, first, cap, hf, hq⟩ := hd 3 _ rfl
  obtain ⟨rfl, rfl, rfl⟩ := hq
  obtain ⟨xs, al, lo, hi⟩ := s
  cases xs with
  | nil => exact bstep_go hB hes hf (fun _ _ => by kernel_rfl) (fun w1 h1 f1 => (peek_nil_lm x y h1.lm).mono fun e w2 h => ⟨h.1, Upd.same h1 h.2⟩)
  | cons z r => exact bstep_go hB hes hf (fun _ _ => by kernel_rfl) (fun w1 h1 f1 => (peek_cons_lm x y h1.lm).mono fun e w2 h => ⟨h.1, Upd.same h1 h.2⟩)
theorem bstep_5_0 {b kr dr mb : Nat} {s : St} {own : Option Nat} {w : World} {x y : Int} (hB : BInv 5 b kr dr mb s own w) (hG : Good 100 s) (hx : inNum x = true) (hy : inNum y = true) : Calls Tryz.prog 17 #[.pointer (some ⟨b, 0, none⟩), .agg #[.string ⟨#[99, 111, 117, 110, 116]⟩, .int .i64 x, .int .i64 y]] w (BDone 5 b kr dr mb own w (stepF 5 0 x y s)) := by
  obtain ⟨es, c, hes, hd⟩ := hB.deeds
  obtain ⟨j, n, first, cap, hf, hq⟩ := hd 0 _ rfl
  obtain ⟨rfl, rfl, rfl⟩ := hq
  exact bstep_go hB hes hf (fun _ _ => by kernel_rfl) (fun w1 h1 f1 => (count_lm x y h1.lm).mono fun e w2 h => ⟨h.1, Upd.same h1 h.2⟩)
theorem bstep_5_1 {b kr dr mb : Nat} {s : St} {own : Option Nat} {w : World} {x y : Int} (hB : BInv 5 b kr dr mb s own w) (hG : Good 100 s) (hx : inNum x = true) (hy : inNum y = true) : Calls Tryz.prog 17 #[.pointer (some ⟨b, 0, none⟩), .agg #[.string ⟨#[101, 110, 116, 101, 114]⟩, .int .i64 x, .int .i64 y]] w (BDone 5 b kr dr mb own w (stepF 5 1 x y s)) := by
  obtain ⟨es, c, hes, hd⟩ := hB.deeds
  obtain ⟨j, n, first, cap, hf, hq⟩ := hd 1 _ rfl
  obtain ⟨rfl, rfl, B, rfl, hbx⟩ := hq
  exact bstep_go hB hes hf (fun _ _ => by kernel_rfl) (fun w1 h1 f1 => (quiet_ok38 B b x y w1 (fun w2 => Upd b kr dr _ own w1 w2) (by rw [heap_cell (f1.heap hbx id)]; rfl) ((extend_any b kr dr s.lo s.hi own s.xs x y w1 h1.lm (by have := hG.len; omega)).mono fun e w2 h => ⟨h.1, Upd.did h1 h.2⟩)))
theorem bstep_5_2 {b kr dr mb : Nat} {s : St} {own : Option Nat} {w : World} {x y : Int} (hB : BInv 5 b kr dr mb s own w) (hG : Good 100 s) (hx : inNum x = true) (hy : inNum y = true) : Calls Tryz.prog 17 #[.pointer (some ⟨b, 0, none⟩), .agg #[.string ⟨#[108, 101, 97, 118, 101]⟩, .int .i64 x, .int .i64 y]] w (BDone 5 b kr dr mb own w (stepF 5 2 x y s)) := by
  obtain ⟨es, c, hes, hd⟩ := hB.deeds
  obtain ⟨j, n, first, cap, hf, hq⟩ := hd 2 _ rfl
  obtain ⟨rfl, rfl, B, rfl, hbx⟩ := hq
  obtain ⟨xs, al, lo, hi⟩ := s
  cases xs with
  | nil => exact bstep_no hB hes hf (fun _ _ => by kernel_rfl) (fun w1 h1 f1 => (quiet_no46 B b x y 1 w1 (by rw [heap_cell (f1.heap hbx id)]; rfl) (leave_no b kr dr lo hi own x y w1 h1.lm)).mono fun e w2 h => ⟨h.1, drawn0 h.2⟩)
  | cons z r => exact bstep_go hB hes hf (fun _ _ => by kernel_rfl) (fun w1 h1 f1 => (quiet_ok46 B b x y w1 (fun w2 => Upd b kr dr _ own w1 w2) (by rw [heap_cell (f1.heap hbx id)]; rfl) ((leave_yes b kr dr lo hi own z r x y w1 h1.lm).mono fun e w2 h => ⟨h.1, Upd.did h1 h.2⟩)))
theorem bstep_5_3 {b kr dr mb : Nat} {s : St} {own : Option Nat} {w : World} {x y : Int} (hB : BInv 5 b kr dr mb s own w) (hG : Good 100 s) (hx : inNum x = true) (hy : inNum y = true) : Calls Tryz.prog 17 #[.pointer (some ⟨b, 0, none⟩), .agg #[.string ⟨#[102, 114, 111, 110, 116]⟩, .int .i64 x, .int .i64 y]] w (BDone 5 b kr dr mb own w (stepF 5 3 x y s)) := by
  obtain ⟨es, c, hes, hd⟩ := hB.deeds
  obtain ⟨j, n, first, cap, hf, hq⟩ := hd 3 _ rfl
  obtain ⟨rfl, rfl, rfl⟩ := hq
  obtain ⟨xs, al, lo, hi⟩ := s
  cases xs with
  | nil => exact bstep_no hB hes hf (fun _ _ => by kernel_rfl) (fun w1 h1 f1 => (front_nil_lm x y h1.lm).mono fun e w2 h => ⟨h.1, drawn0 h.2⟩)
  | cons z r => exact bstep_go hB hes hf (fun _ _ => by kernel_rfl) (fun w1 h1 f1 => (front_cons_lm x y h1.lm).mono fun e w2 h => ⟨h.1, Upd.same h1 h.2⟩)
theorem bstep_7_0 {b kr dr mb : Nat} {s : St} {own : Option Nat} {w : World} {x y : Int} (hB : BInv 7 b kr dr mb s own w) (hG : Good 100 s) (hx : inNum x = true) (hy : inNum y = true) : Calls Tryz.prog 17 #[.pointer (some ⟨b, 0, none⟩), .agg #[.string ⟨#[99, 111, 117, 110, 116]⟩, .int .i64 x, .int .i64 y]] w (BDone 7 b kr dr mb own w (stepF 7 0 x y s)) := by
  obtain ⟨es, c, hes, hd⟩ := hB.deeds
  obtain ⟨j, n, first, cap, hf, hq⟩ := hd 0 _ rfl
  obtain ⟨rfl, rfl, rfl⟩ := hq
  exact bstep_go hB hes hf (fun _ _ => by kernel_rfl) (fun w1 h1 f1 => (many_any b kr dr s.lo s.hi own s.xs s.al x y w1 h1.lm h1.km).mono fun e w2 h => ⟨h.1, Upd.same h1 h.2⟩)
theorem bstep_7_1 {b kr dr mb : Nat} {s : St} {own : Option Nat} {w : World} {x y : Int} (hB : BInv 7 b kr dr mb s own w) (hG : Good 100 s) (hx : inNum x = true) (hy : inNum y = true) : Calls Tryz.prog 17 #[.pointer (some ⟨b, 0, none⟩), .agg #[.string ⟨#[102, 111, 114, 99, 101]⟩, .int .i64 x, .int .i64 y]] w (BDone 7 b kr dr mb own w (stepF 7 1 x y s)) := by
  obtain ⟨es, c, hes, hd⟩ := hB.deeds
  obtain ⟨j, n, first, cap, hf, hq⟩ := hd 1 _ rfl
  obtain ⟨rfl, rfl, B, rfl, hbx⟩ := hq
  exact bstep_go hB hes hf (fun _ _ => by kernel_rfl) (fun w1 h1 f1 => (quiet_ok49 B b x y w1 (fun w2 => Upd b kr dr _ own w1 w2) (by rw [heap_cell (f1.heap hbx id)]; rfl) ((force_any b kr dr s.lo s.hi own s.xs s.al x y w1 h1.lm h1.km).mono fun e w2 h => ⟨h.1, Upd.didK h1 h.2⟩)))
theorem bstep_7_2 {b kr dr mb : Nat} {s : St} {own : Option Nat} {w : World} {x y : Int} (hB : BInv 7 b kr dr mb s own w) (hG : Good 100 s) (hx : inNum x = true) (hy : inNum y = true) : Calls Tryz.prog 17 #[.pointer (some ⟨b, 0, none⟩), .agg #[.string ⟨#[104, 97, 115]⟩, .int .i64 x, .int .i64 y]] w (BDone 7 b kr dr mb own w (stepF 7 2 x y s)) := by
  obtain ⟨es, c, hes, hd⟩ := hB.deeds
  obtain ⟨j, n, first, cap, hf, hq⟩ := hd 2 _ rfl
  obtain ⟨rfl, rfl, rfl⟩ := hq
  exact bstep_go hB hes hf (fun _ _ => by kernel_rfl) (fun w1 h1 f1 => (known_any b kr dr s.lo s.hi own s.xs s.al x y w1 h1.lm h1.km).mono fun e w2 h => ⟨h.1, Upd.same h1 h.2⟩)
theorem bstep_7_3 {b kr dr mb : Nat} {s : St} {own : Option Nat} {w : World} {x y : Int} (hB : BInv 7 b kr dr mb s own w) (hG : Good 100 s) (hx : inNum x = true) (hy : inNum y = true) : Calls Tryz.prog 17 #[.pointer (some ⟨b, 0, none⟩), .agg #[.string ⟨#[118, 97, 108, 117, 101, 95, 111, 102]⟩, .int .i64 x, .int .i64 y]] w (BDone 7 b kr dr mb own w (stepF 7 3 x y s)) := by
  obtain ⟨es, c, hes, hd⟩ := hB.deeds
  obtain ⟨j, n, first, cap, hf, hq⟩ := hd 3 _ rfl
  obtain ⟨rfl, rfl, rfl⟩ := hq
  exact bstep_go hB hes hf (fun _ _ => by kernel_rfl) (fun w1 h1 f1 => (value_any b kr dr s.lo s.hi own s.xs s.al x y w1 h1.lm h1.km).mono fun e w2 h => ⟨h.1, Upd.same h1 h.2⟩)
theorem bstep_7_4 {b kr dr mb : Nat} {s : St} {own : Option Nat} {w : World} {x y : Int} (hB : BInv 7 b kr dr mb s own w) (hG : Good 100 s) (hx : inNum x = true) (hy : inNum y = true) : Calls Tryz.prog 17 #[.pointer (some ⟨b, 0, none⟩), .agg #[.string ⟨#[114, 101, 109, 111, 118, 101]⟩, .int .i64 x, .int .i64 y]] w (BDone 7 b kr dr mb own w (stepF 7 4 x y s)) := by
  obtain ⟨es, c, hes, hd⟩ := hB.deeds
  obtain ⟨j, n, first, cap, hf, hq⟩ := hd 4 _ rfl
  obtain ⟨rfl, rfl, B, rfl, hbx⟩ := hq
  exact bstep_go hB hes hf (fun _ _ => by kernel_rfl) (fun w1 h1 f1 => (quiet_ok52 B b x y w1 (fun w2 => Upd b kr dr _ own w1 w2) (by rw [heap_cell (f1.heap hbx id)]; rfl) ((lose_any b kr dr s.lo s.hi own s.xs s.al x y w1 h1.lm h1.km).mono fun e w2 h => ⟨h.1, Upd.didK h1 h.2⟩)))
theorem bstep_8_0 {b kr dr mb : Nat} {s : St} {own : Option Nat} {w : World} {x y : Int} (hB : BInv 8 b kr dr mb s own w) (hG : Good 100 s) (hx : inNum x = true) (hy : inNum y = true) : Calls Tryz.prog 17 #[.pointer (some ⟨b, 0, none⟩), .agg #[.string ⟨#[97, 100, 100]⟩, .int .i64 x, .int .i64 y]] w (BDone 8 b kr dr mb own w (stepF 8 0 x y s)) := by
  obtain ⟨es, c, hes, hd⟩ := hB.deeds
  obtain ⟨j, n, first, cap, hf, hq⟩ := hd 0 _ rfl
  obtain ⟨rfl, rfl, B, rfl, hbx⟩ := hq
  exact bstep_go hB hes hf (fun _ _ => by kernel_rfl) (fun w1 h1 f1 => (quiet_ok54 B b x y w1 (fun w2 => Upd b kr dr _ own w1 w2) (by rw [heap_cell (f1.heap hbx id)]; rfl) ((join_any b kr dr s.lo s.hi own s.xs x y w1 h1.lm (by have := hG.len; omega)).mono fun e w2 h => ⟨h.1, Upd.did h1 h.2⟩)))
theorem bstep_8_1 {b kr dr mb : Nat} {s : St} {own : Option Nat} {w : World} {x y : Int} (hB : BInv 8 b kr dr mb s own w) (hG : Good 100 s) (hx : inNum x = true) (hy : inNum y = true) : Calls Tryz.prog 17 #[.pointer (some ⟨b, 0, none⟩), .agg #[.string ⟨#[100, 114, 111, 112]⟩, .int .i64 x, .int .i64 y]] w (BDone 8 b kr dr mb own w (stepF 8 1 x y s)) := by
  obtain ⟨es, c, hes, hd⟩ := hB.deeds
  obtain ⟨j, n, first, cap, hf, hq⟩ := hd 1 _ rfl
  obtain ⟨rfl, rfl, B, rfl, hbx⟩ := hq
  exact bstep_go hB hes hf (fun _ _ => by kernel_rfl) (fun w1 h1 f1 => (quiet_ok41 B b x y w1 (fun w2 => Upd b kr dr _ own w1 w2) (by rw [heap_cell (f1.heap hbx id)]; rfl) ((remove_any b kr dr s.lo s.hi own s.xs x y w1 h1.lm (by have := hG.len; omega)).mono fun e w2 h => ⟨h.1, Upd.did h1 h.2⟩)))
theorem bstep_8_2 {b kr dr mb : Nat} {s : St} {own : Option Nat} {w : World} {x y : Int} (hB : BInv 8 b kr dr mb s own w) (hG : Good 100 s) (hx : inNum x = true) (hy : inNum y = true) : Calls Tryz.prog 17 #[.pointer (some ⟨b, 0, none⟩), .agg #[.string ⟨#[104, 97, 115]⟩, .int .i64 x, .int .i64 y]] w (BDone 8 b kr dr mb own w (stepF 8 2 x y s)) := by
  obtain ⟨es, c, hes, hd⟩ := hB.deeds
  obtain ⟨j, n, first, cap, hf, hq⟩ := hd 2 _ rfl
  obtain ⟨rfl, rfl, rfl⟩ := hq
  exact bstep_go hB hes hf (fun _ _ => by kernel_rfl) (fun w1 h1 f1 => (has_any b kr dr s.lo s.hi own s.xs x y w1 h1.lm (by have := hG.len; omega)).mono fun e w2 h => ⟨h.1, Upd.same h1 h.2⟩)
theorem bstep_8_3 {b kr dr mb : Nat} {s : St} {own : Option Nat} {w : World} {x y : Int} (hB : BInv 8 b kr dr mb s own w) (hG : Good 100 s) (hx : inNum x = true) (hy : inNum y = true) : Calls Tryz.prog 17 #[.pointer (some ⟨b, 0, none⟩), .agg #[.string ⟨#[115, 105, 122, 101]⟩, .int .i64 x, .int .i64 y]] w (BDone 8 b kr dr mb own w (stepF 8 3 x y s)) := by
  obtain ⟨es, c, hes, hd⟩ := hB.deeds
  obtain ⟨j, n, first, cap, hf, hq⟩ := hd 3 _ rfl
  obtain ⟨rfl, rfl, rfl⟩ := hq
  exact bstep_go hB hes hf (fun _ _ => by kernel_rfl) (fun w1 h1 f1 => (count_lm x y h1.lm).mono fun e w2 h => ⟨h.1, Upd.same h1 h.2⟩)
theorem bstep_9_0 {b kr dr mb : Nat} {s : St} {own : Option Nat} {w : World} {x y : Int} (hB : BInv 9 b kr dr mb s own w) (hG : Good 100 s) (hx : inNum x = true) (hy : inNum y = true) : Calls Tryz.prog 17 #[.pointer (some ⟨b, 0, none⟩), .agg #[.string ⟨#[99, 111, 117, 110, 116]⟩, .int .i64 x, .int .i64 y]] w (BDone 9 b kr dr mb own w (stepF 9 0 x y s)) := by
  obtain ⟨es, c, hes, hd⟩ := hB.deeds
  obtain ⟨j, n, first, cap, hf, hq⟩ := hd 0 _ rfl
  obtain ⟨rfl, rfl, rfl⟩ := hq
  exact bstep_go hB hes hf (fun _ _ => by kernel_rfl) (fun w1 h1 f1 => (lows_any b x y s.lo w1 h1.lm.c2).mono fun e w2 h => ⟨h.1, Upd.same h1 h.2⟩)
theorem bstep_9_1 {b kr dr mb : Nat} {s : St} {own : Option Nat} {w : World} {x y : Int} (hB : BInv 9 b kr dr mb s own w) (hG : Good 100 s) (hx : inNum x = true) (hy : inNum y = true) : Calls Tryz.prog 17 #[.pointer (some ⟨b, 0, none⟩), .agg #[.string ⟨#[117, 112]⟩, .int .i64 x, .int .i64 y]] w (BDone 9 b kr dr mb own w (stepF 9 1 x y s)) := by
  obtain ⟨es, c, hes, hd⟩ := hB.deeds
  obtain ⟨j, n, first, cap, hf, hq⟩ := hd 1 _ rfl
  obtain ⟨rfl, rfl, B, rfl, hbx⟩ := hq
  cases hv : inNum (s.lo + 1) with
  | true =>
    rw [show stepF 9 1 x y s = .go 0 { s with lo := s.lo + 1 } by unfold stepF; exact if_pos hv]
    exact bstep_go hB hes hf (fun _ _ => by kernel_rfl) (fun w1 h1 f1 => (quiet_ok56 B mb x y w1 (fun w2 => Upd b kr dr _ own w1 w2) (by rw [heap_cell (f1.heap hbx id)]; rfl) ((up_yes mb b kr dr s.lo s.hi own s.xs x y w1 h1.lm (by rw [heap_cell h1.mbp]; rfl) hG.lo hv).mono fun e w2 h => ⟨h.1, Upd.didN h1 h.2⟩)))
  | false =>
    rw [show stepF 9 1 x y s = .halt 7 0 by unfold stepF; exact if_neg (by rw [hv]; decide)]
    exact bstep_no hB hes hf (fun _ _ => by kernel_rfl) (fun w1 h1 f1 => (quiet_no56 B mb x y 7 w1 (by rw [heap_cell (f1.heap hbx id)]; rfl) (up_no mb b kr dr s.lo s.hi own s.xs x y w1 h1.lm (by rw [heap_cell h1.mbp]; rfl) hG.lo hv)).mono fun e w2 h => ⟨h.1, drawn0 h.2⟩)
theorem bstep_9_2 {b kr dr mb : Nat} {s : St} {own : Option Nat} {w : World} {x y : Int} (hB : BInv 9 b kr dr mb s own w) (hG : Good 100 s) (hx : inNum x = true) (hy : inNum y = true) : Calls Tryz.prog 17 #[.pointer (some ⟨b, 0, none⟩), .agg #[.string ⟨#[97, 100, 100]⟩, .int .i64 x, .int .i64 y]] w (BDone 9 b kr dr mb own w (stepF 9 2 x y s)) := by
  obtain ⟨es, c, hes, hd⟩ := hB.deeds
  obtain ⟨j, n, first, cap, hf, hq⟩ := hd 2 _ rfl
  obtain ⟨rfl, rfl, B, rfl, hbx⟩ := hq
  by_cases h0 : x < 0
  · rw [show stepF 9 2 x y s = .halt 1 0 by unfold stepF; exact if_pos h0]
    exact bstep_no hB hes hf (fun _ _ => by kernel_rfl) (fun w1 h1 f1 => (quiet_no58 B mb x y 1 w1 (by rw [heap_cell (f1.heap hbx id)]; rfl) (addc_no mb x y w1 (by omega))).mono fun e w2 h => ⟨h.1, drawn0 h.2⟩)
  cases hv : inNum (s.lo + x) with
  | true =>
    rw [show stepF 9 2 x y s = .go 0 { s with lo := s.lo + x } by unfold stepF; exact (if_neg h0).trans (if_pos hv)]
    exact bstep_go hB hes hf (fun _ _ => by kernel_rfl) (fun w1 h1 f1 => (quiet_ok58 B mb x y w1 (fun w2 => Upd b kr dr _ own w1 w2) (by rw [heap_cell (f1.heap hbx id)]; rfl) ((addc_yes mb b kr dr s.lo s.hi own s.xs x y w1 h1.lm (by rw [heap_cell h1.mbp]; rfl) hG.lo hx (by omega) hv).mono fun e w2 h => ⟨h.1, Upd.didN h1 h.2⟩)))
  | false =>
    rw [show stepF 9 2 x y s = .halt 7 0 by unfold stepF; exact (if_neg h0).trans (if_neg (by rw [hv]; decide))]
    exact bstep_no hB hes hf (fun _ _ => by kernel_rfl) (fun w1 h1 f1 => (quiet_no58 B mb x y 7 w1 (by rw [heap_cell (f1.heap hbx id)]; rfl) (addc_over mb b kr dr s.lo s.hi own s.xs x y w1 h1.lm (by rw [heap_cell h1.mbp]; rfl) hG.lo hx (by omega) hv)).mono fun e w2 h => ⟨h.1, drawn0 h.2⟩)
theorem bstep_10_0 {b kr dr mb : Nat} {s : St} {own : Option Nat} {w : World} {x y : Int} (hB : BInv 10 b kr dr mb s own w) (hG : Good 100 s) (hx : inNum x = true) (hy : inNum y = true) : Calls Tryz.prog 17 #[.pointer (some ⟨b, 0, none⟩), .agg #[.string ⟨#[108, 111, 119]⟩, .int .i64 x, .int .i64 y]] w (BDone 10 b kr dr mb own w (stepF 10 0 x y s)) := by
  obtain ⟨es, c, hes, hd⟩ := hB.deeds
  obtain ⟨j, n, first, cap, hf, hq⟩ := hd 0 _ rfl
  obtain ⟨rfl, rfl, rfl⟩ := hq
  exact bstep_go hB hes hf (fun _ _ => by kernel_rfl) (fun w1 h1 f1 => (lows_any b x y s.lo w1 h1.lm.c2).mono fun e w2 h => ⟨h.1, Upd.same h1 h.2⟩)
theorem bstep_10_1 {b kr dr mb : Nat} {s : St} {own : Option Nat} {w : World} {x y : Int} (hB : BInv 10 b kr dr mb s own w) (hG : Good 100 s) (hx : inNum x = true) (hy : inNum y = true) : Calls Tryz.prog 17 #[.pointer (some ⟨b, 0, none⟩), .agg #[.string ⟨#[104, 105, 103, 104]⟩, .int .i64 x, .int .i64 y]] w (BDone 10 b kr dr mb own w (stepF 10 1 x y s)) := by
  obtain ⟨es, c, hes, hd⟩ := hB.deeds
  obtain ⟨j, n, first, cap, hf, hq⟩ := hd 1 _ rfl
  obtain ⟨rfl, rfl, rfl⟩ := hq
  exact bstep_go hB hes hf (fun _ _ => by kernel_rfl) (fun w1 h1 f1 => (highs_any b x y s.hi w1 h1.lm.c3).mono fun e w2 h => ⟨h.1, Upd.same h1 h.2⟩)
theorem bstep_10_2 {b kr dr mb : Nat} {s : St} {own : Option Nat} {w : World} {x y : Int} (hB : BInv 10 b kr dr mb s own w) (hG : Good 100 s) (hx : inNum x = true) (hy : inNum y = true) : Calls Tryz.prog 17 #[.pointer (some ⟨b, 0, none⟩), .agg #[.string ⟨#[115, 112, 97, 110]⟩, .int .i64 x, .int .i64 y]] w (BDone 10 b kr dr mb own w (stepF 10 2 x y s)) := by
  obtain ⟨es, c, hes, hd⟩ := hB.deeds
  obtain ⟨j, n, first, cap, hf, hq⟩ := hd 2 _ rfl
  obtain ⟨rfl, rfl, B, rfl, hbx⟩ := hq
  cases hv : inNum (y + 1) with
  | false =>
    rw [show stepF 10 2 x y s = .halt 7 0 by unfold stepF; exact if_neg (by rw [hv]; decide)]
    exact bstep_no hB hes hf (fun _ _ => by kernel_rfl) (fun w1 h1 f1 => (quiet_no61 B b x y 7 w1 (by rw [heap_cell (f1.heap hbx id)]; rfl) (span_over b x y w1 hx hy hv)).mono fun e w2 h => ⟨h.1, drawn0 h.2⟩)
  | true =>
  by_cases h0 : x ≤ y + 1
  · rw [show stepF 10 2 x y s = .go 0 { s with lo := x, hi := y } by unfold stepF; exact (if_pos hv).trans (if_pos h0)]
    exact bstep_go hB hes hf (fun _ _ => by kernel_rfl) (fun w1 h1 f1 => (quiet_ok61 B b x y w1 (fun w2 => Upd b kr dr _ own w1 w2) (by rw [heap_cell (f1.heap hbx id)]; rfl) ((span_yes b kr dr s.lo s.hi own s.xs x y w1 h1.lm hx hy hv h0).mono fun e w2 h => ⟨h.1, Upd.didN h1 h.2⟩)))
  · rw [show stepF 10 2 x y s = .halt 1 0 by unfold stepF; exact (if_pos hv).trans (if_neg h0)]
    exact bstep_no hB hes hf (fun _ _ => by kernel_rfl) (fun w1 h1 f1 => (quiet_no61 B b x y 1 w1 (by rw [heap_cell (f1.heap hbx id)]; rfl) (span_no b x y w1 hx hy hv h0)).mono fun e w2 h => ⟨h.1, drawn0 h.2⟩)
theorem bstep_10_3 {b kr dr mb : Nat} {s : St} {own : Option Nat} {w : World} {x y : Int} (hB : BInv 10 b kr dr mb s own w) (hG : Good 100 s) (hx : inNum x = true) (hy : inNum y = true) : Calls Tryz.prog 17 #[.pointer (some ⟨b, 0, none⟩), .agg #[.string ⟨#[99, 111, 110, 116, 97, 105, 110, 115]⟩, .int .i64 x, .int .i64 y]] w (BDone 10 b kr dr mb own w (stepF 10 3 x y s)) := by
  obtain ⟨es, c, hes, hd⟩ := hB.deeds
  obtain ⟨j, n, first, cap, hf, hq⟩ := hd 3 _ rfl
  obtain ⟨rfl, rfl, rfl⟩ := hq
  exact bstep_go hB hes hf (fun _ _ => by kernel_rfl) (fun w1 h1 f1 => (contains_any b kr dr s.lo s.hi own s.xs x y w1 h1.lm).mono fun e w2 h => ⟨h.1, Upd.same h1 h.2⟩)
theorem bstep_10_4 {b kr dr mb : Nat} {s : St} {own : Option Nat} {w : World} {x y : Int} (hB : BInv 10 b kr dr mb s own w) (hG : Good 100 s) (hx : inNum x = true) (hy : inNum y = true) : Calls Tryz.prog 17 #[.pointer (some ⟨b, 0, none⟩), .agg #[.string ⟨#[115, 105, 122, 101]⟩, .int .i64 x, .int .i64 y]] w (BDone 10 b kr dr mb own w (stepF 10 4 x y s)) := by
  obtain ⟨es, c, hes, hd⟩ := hB.deeds
  obtain ⟨j, n, first, cap, hf, hq⟩ := hd 4 _ rfl
  obtain ⟨rfl, rfl, rfl⟩ := hq
  exact bstep_res hB (widthF s.lo s.hi) hes hf (fun _ _ => by kernel_rfl) (fun w1 h1 f1 => (width_any b kr dr s.lo s.hi own s.xs x y w1 h1.lm hG.lo hG.hi).mono fun e w2 h => ⟨h.1, h.2⟩)
theorem bstep_10_5 {b kr dr mb : Nat} {s : St} {own : Option Nat} {w : World} {x y : Int} (hB : BInv 10 b kr dr mb s own w) (hG : Good 100 s) (hx : inNum x = true) (hy : inNum y = true) : Calls Tryz.prog 17 #[.pointer (some ⟨b, 0, none⟩), .agg #[.string ⟨#[115, 117, 109]⟩, .int .i64 x, .int .i64 y]] w (BDone 10 b kr dr mb own w (stepF 10 5 x y s)) := by
  obtain ⟨es, c, hes, hd⟩ := hB.deeds
  obtain ⟨j, n, first, cap, hf, hq⟩ := hd 5 _ rfl
  obtain ⟨rfl, rfl, rfl⟩ := hq
  exact bstep_res hB (totF s.lo s.hi) hes hf (fun _ _ => by kernel_rfl) (fun w1 h1 f1 => (total_any b kr dr s.lo s.hi own s.xs x y w1 h1.lm hG.lo hG.hi).mono fun e w2 h => ⟨h.1, h.2⟩)
theorem bstep_11_0 {b kr dr mb : Nat} {s : St} {own : Option Nat} {w : World} {x y : Int} (hB : BInv 11 b kr dr mb s own w) (hG : Good 100 s) (hx : inNum x = true) (hy : inNum y = true) : Calls Tryz.prog 17 #[.pointer (some ⟨b, 0, none⟩), .agg #[.string ⟨#[103, 99, 100]⟩, .int .i64 x, .int .i64 y]] w (BDone 11 b kr dr mb own w (stepF 11 0 x y s)) := by
  obtain ⟨es, c, hes, hd⟩ := hB.deeds
  obtain ⟨j, n, first, cap, hf, hq⟩ := hd 0 _ rfl
  obtain ⟨rfl, rfl, rfl⟩ := hq
  have b1 := inNum_true.1 hx
  have b2 := inNum_true.1 hy
  exact bstep_res hB (gcdF x y) hes hf (fun _ _ => by kernel_rfl) (fun w1 h1 f1 => (gcd_any x y w1 b1.1 b1.2 b2.1 b2.2).mono fun e w2 h => ⟨h.1, h.2⟩)
theorem bstep_11_1 {b kr dr mb : Nat} {s : St} {own : Option Nat} {w : World} {x y : Int} (hB : BInv 11 b kr dr mb s own w) (hG : Good 100 s) (hx : inNum x = true) (hy : inNum y = true) : Calls Tryz.prog 17 #[.pointer (some ⟨b, 0, none⟩), .agg #[.string ⟨#[112, 111, 119, 101, 114]⟩, .int .i64 x, .int .i64 y]] w (BDone 11 b kr dr mb own w (stepF 11 1 x y s)) := by
  obtain ⟨es, c, hes, hd⟩ := hB.deeds
  obtain ⟨j, n, first, cap, hf, hq⟩ := hd 1 _ rfl
  obtain ⟨rfl, rfl, rfl⟩ := hq
  have b1 := inNum_true.1 hx
  have b2 := inNum_true.1 hy
  exact bstep_res hB (powF x y) hes hf (fun _ _ => by kernel_rfl) (fun w1 h1 f1 => (power_any x y w1 b1.1 b1.2 b2.2 b2.1).mono fun e w2 h => ⟨h.1, drawn0 h.2⟩)
theorem bstep_11_2 {b kr dr mb : Nat} {s : St} {own : Option Nat} {w : World} {x y : Int} (hB : BInv 11 b kr dr mb s own w) (hG : Good 100 s) (hx : inNum x = true) (hy : inNum y = true) : Calls Tryz.prog 17 #[.pointer (some ⟨b, 0, none⟩), .agg #[.string ⟨#[102, 97, 99, 116]⟩, .int .i64 x, .int .i64 y]] w (BDone 11 b kr dr mb own w (stepF 11 2 x y s)) := by
  obtain ⟨es, c, hes, hd⟩ := hB.deeds
  obtain ⟨j, n, first, cap, hf, hq⟩ := hd 2 _ rfl
  obtain ⟨rfl, rfl, rfl⟩ := hq
  have b1 := inNum_true.1 hx
  have b2 := inNum_true.1 hy
  exact bstep_res hB (factF x) hes hf (fun _ _ => by kernel_rfl) (fun w1 h1 f1 => (fact_any x y w1 b1.1 b1.2).mono fun e w2 h => ⟨h.1, drawn0 h.2⟩)
theorem bstep_11_3 {b kr dr mb : Nat} {s : St} {own : Option Nat} {w : World} {x y : Int} (hB : BInv 11 b kr dr mb s own w) (hG : Good 100 s) (hx : inNum x = true) (hy : inNum y = true) : Calls Tryz.prog 17 #[.pointer (some ⟨b, 0, none⟩), .agg #[.string ⟨#[116, 114, 105, 101, 115]⟩, .int .i64 x, .int .i64 y]] w (BDone 11 b kr dr mb own w (stepF 11 3 x y s)) := by
  obtain ⟨es, c, hes, hd⟩ := hB.deeds
  obtain ⟨j, n, first, cap, hf, hq⟩ := hd 3 _ rfl
  obtain ⟨rfl, rfl, rfl⟩ := hq
  have b1 := inNum_true.1 hx
  have b2 := inNum_true.1 hy
  exact bstep_res hB (triesF x) hes hf (fun _ _ => by kernel_rfl) (fun w1 h1 f1 => (tries_any x y w1 b1.1 b1.2).mono fun e w2 h => ⟨h.1, drawn0 h.2⟩)
end Go.Proofs.YtpnbhoeghncnnaaGreatDoor
namespace Go.Proofs.YtpnbhoeghncnnaaGreatDoor
open Go.RowKit
theorem ba_eq {s t : ByteArray} (h : (s.toList == t.toList) = true) : s = t := by
  have h' : s.toList = t.toList := by simpa using h
  rw [Go.ByteArray.toList_eq, Go.ByteArray.toList_eq] at h'
  exact Go.WideShapes.bytes_inj h'
theorem bstep {k b kr dr mb : Nat} {s : St} {own : Option Nat} {w : World} {x y : Int} (hk : k = 1 ∨ k = 2 ∨ k = 4 ∨ k = 5 ∨ k = 7 ∨ k = 8 ∨ k = 9 ∨ k = 10 ∨ k = 11) (hB : BInv k b kr dr mb s own w) (hG : Good 100 s) (hx : inNum x = true) (hy : inNum y = true) {i : Nat} {t : CallT} (ht : (tabK k)[i]? = some t) :
    Calls Tryz.prog 17 #[.pointer (some ⟨b, 0, none⟩), .agg #[.string t.1, .int .i64 x, .int .i64 y]] w (BDone k b kr dr mb own w (stepF k i x y s)) := by
  rcases hk with rfl | rfl | rfl | rfl | rfl | rfl | rfl | rfl | rfl
  · match i, ht with
    | 0, ht => cases ht; exact bstep_1_0 hB hG hx hy
    | 1, ht => cases ht; exact bstep_1_1 hB hG hx hy
    | 2, ht => cases ht; exact bstep_1_2 hB hG hx hy
    | 3, ht => cases ht; exact bstep_1_3 hB hG hx hy
    | 4, ht => cases ht; exact bstep_1_4 hB hG hx hy
    | 5, ht => cases ht; exact bstep_1_5 hB hG hx hy
    | 6, ht => cases ht; exact bstep_1_6 hB hG hx hy
    | 7, ht => cases ht; exact bstep_1_7 hB hG hx hy
    | 8, ht => cases ht; exact bstep_1_8 hB hG hx hy
    | n + 9, ht => simp [tabK, tabINTS] at ht
  · match i, ht with
    | 0, ht => cases ht; exact bstep_2_0 hB hG hx hy
    | 1, ht => cases ht; exact bstep_2_1 hB hG hx hy
    | 2, ht => cases ht; exact bstep_2_2 hB hG hx hy
    | 3, ht => cases ht; exact bstep_2_3 hB hG hx hy
    | 4, ht => cases ht; exact bstep_2_4 hB hG hx hy
    | 5, ht => cases ht; exact bstep_2_5 hB hG hx hy
    | 6, ht => cases ht; exact bstep_2_6 hB hG hx hy
    | 7, ht => cases ht; exact bstep_2_7 hB hG hx hy
    | 8, ht => cases ht; exact bstep_2_8 hB hG hx hy
    | n + 9, ht => simp [tabK, tabSORTED] at ht
  · match i, ht with
    | 0, ht => cases ht; exact bstep_4_0 hB hG hx hy
    | 1, ht => cases ht; exact bstep_4_1 hB hG hx hy
    | 2, ht => cases ht; exact bstep_4_2 hB hG hx hy
    | 3, ht => cases ht; exact bstep_4_3 hB hG hx hy
    | n + 4, ht => simp [tabK, tabSTACK] at ht
  · match i, ht with
    | 0, ht => cases ht; exact bstep_5_0 hB hG hx hy
    | 1, ht => cases ht; exact bstep_5_1 hB hG hx hy
    | 2, ht => cases ht; exact bstep_5_2 hB hG hx hy
    | 3, ht => cases ht; exact bstep_5_3 hB hG hx hy
    | n + 4, ht => simp [tabK, tabQUEUE] at ht
  · match i, ht with
    | 0, ht => cases ht; exact bstep_7_0 hB hG hx hy
    | 1, ht => cases ht; exact bstep_7_1 hB hG hx hy
    | 2, ht => cases ht; exact bstep_7_2 hB hG hx hy
    | 3, ht => cases ht; exact bstep_7_3 hB hG hx hy
    | 4, ht => cases ht; exact bstep_7_4 hB hG hx hy
    | n + 5, ht => simp [tabK, tabTABLE] at ht
  · match i, ht with
    | 0, ht => cases ht; exact bstep_8_0 hB hG hx hy
    | 1, ht => cases ht; exact bstep_8_1 hB hG hx hy
    | 2, ht => cases ht; exact bstep_8_2 hB hG hx hy
    | 3, ht => cases ht; exact bstep_8_3 hB hG hx hy
    | n + 4, ht => simp [tabK, tabSET] at ht
  · match i, ht with
    | 0, ht => cases ht; exact bstep_9_0 hB hG hx hy
    | 1, ht => cases ht; exact bstep_9_1 hB hG hx hy
    | 2, ht => cases ht; exact bstep_9_2 hB hG hx hy
    | n + 3, ht => simp [tabK, tabCOUNTER] at ht
  · match i, ht with
    | 0, ht => cases ht; exact bstep_10_0 hB hG hx hy
    | 1, ht => cases ht; exact bstep_10_1 hB hG hx hy
    | 2, ht => cases ht; exact bstep_10_2 hB hG hx hy
    | 3, ht => cases ht; exact bstep_10_3 hB hG hx hy
    | 4, ht => cases ht; exact bstep_10_4 hB hG hx hy
    | 5, ht => cases ht; exact bstep_10_5 hB hG hx hy
    | n + 6, ht => simp [tabK, tabRANGE] at ht
  · match i, ht with
    | 0, ht => cases ht; exact bstep_11_0 hB hG hx hy
    | 1, ht => cases ht; exact bstep_11_1 hB hG hx hy
    | 2, ht => cases ht; exact bstep_11_2 hB hG hx hy
    | 3, ht => cases ht; exact bstep_11_3 hB hG hx hy
    | n + 4, ht => simp [tabK, tabARITH] at ht
def runF (k : Nat) : List ScrT → St → List Int → List Int × Int × Int
  | [], _, O => (O, 0, 0)
  | x :: l, s, O => match (tabK k).findIdx? (fun t => t.1.toList == x.1.toList) with
    | none => (O, 0, 0)
    | some i => match (tabK k)[i]? with
      | none => (O, 0, 0)
      | some t => match stepF k i x.2.1 x.2.2 s with
        | .go n s' => runF k l s' (if t.2.2 then O ++ [n] else O)
        | .halt f e => if e ≠ 0 then ([], 0, e) else (O, f, 0)
/-- A stop bears a fault or an error. -/
def Res.fair : Res → Prop
  | .val _ => True
  | .stop f e => e = 0 → f ≠ 0
theorem powFrom_fair (a : Int) : ∀ r k n, (powFrom a r k n).fair
  | 0, _, _ => trivial
  | r + 1, k, n => by
    unfold powFrom; split
    · intro h; cases h
    · split
      · exact powFrom_fair a r _ _
      · intro _; decide
theorem factFrom_fair : ∀ r k n, (factFrom r k n).fair
  | 0, _, _ => trivial
  | r + 1, k, n => by
    unfold factFrom; split
    · exact factFrom_fair r _ _
    · intro _; decide
theorem totFrom_fair (lo : Int) : ∀ r k n, (totFrom lo r k n).fair
  | 0, _, _ => trivial
  | r + 1, k, n => by
    unfold totFrom; split
    · intro h; cases h
    · split
      · exact totFrom_fair lo r _ _
      · intro _; decide
theorem sumFrom_fair : ∀ xs n, (sumFrom xs n).fair
  | [], _ => trivial
  | x :: r, n => by
    unfold sumFrom; split
    · exact sumFrom_fair r _
    · intro _; decide
theorem ofR_halt {r : Res} {s : St} {f e : Int} (hr : r.fair) (h : ofR r s = .halt f e) : e = 0 → f ≠ 0 := by
  cases r with
  | val v => simp [ofR] at h
  | stop f' e' => simp [ofR] at h; obtain ⟨rfl, rfl⟩ := h; exact hr
theorem widthF_fair (lo hi : Int) : (widthF lo hi).fair := by
  unfold widthF; split
  · split
    · trivial
    · intro _; decide
  · intro _; decide
theorem totF_fair (lo hi : Int) : (totF lo hi).fair := by
  unfold totF
  have := widthF_fair lo hi
  split
  · rename_i h; rw [h] at this; exact this
  · exact totFrom_fair _ _ _ _
theorem halt_fair {k i : Nat} {a b : Int} {s : St} {f e : Int} (h : stepF k i a b s = .halt f e) : e = 0 → f ≠ 0 := by
  have I : ∀ so, stepI so i a s = .halt f e → e = 0 → f ≠ 0 := by
    intro so hs
    unfold stepI at hs
    split at hs
    · cases hs
    · cases hs
    · cases hs
    · cases hs
    · refine ofR_halt ?_ hs
      unfold itemF; split
      · trivial
      · intro _; decide
    · exact ofR_halt (sumFrom_fair _ _) hs
    · cases hs
    · cases hs
    · cases hs
  unfold stepF at h
  split at h
  · exact I _ h
  · exact I _ h
  · split at h
    · cases h
    · split at h <;> cases h; intro _; decide
    · split at h <;> cases h; intro _; decide
    · split at h <;> cases h
  · split at h
    · cases h
    · cases h
    · split at h <;> cases h; intro _; decide
    · split at h <;> cases h; intro _; decide
  · split at h <;> cases h
  · split at h <;> cases h
  · split at h
    · cases h
    · split at h <;> cases h; intro _; decide
    · split at h
      · cases h; intro _; decide
      · split at h <;> cases h; intro _; decide
  · split at h
    · cases h
    · cases h
    · split at h
      · split at h <;> cases h; intro _; decide
      · cases h; intro _; decide
    · cases h
    · exact ofR_halt (widthF_fair _ _) h
    · exact ofR_halt (totF_fair _ _) h
  · split at h
    · refine ofR_halt ?_ h
      unfold gcdF; split
      · trivial
      · intro _; decide
    · refine ofR_halt ?_ h
      unfold powF; split
      · exact powFrom_fair _ _ _ _
      · intro _; decide
    · refine ofR_halt ?_ h
      unfold factF; split
      · intro _; decide
      · split
        · intro _; decide
        · exact factFrom_fair _ _ _
    · refine ofR_halt ?_ h
      unfold triesF; split
      · trivial
      · intro _; decide
end Go.Proofs.YtpnbhoeghncnnaaGreatDoor
namespace Go.Proofs.YtpnbhoeghncnnaaGreatDoor
open Go.RowKit
theorem ixI_mem {x : Int} {xs : List Int} : 0 ≤ ixI (fun y => x == y) xs ↔ x ∈ xs := by
  unfold ixI
  cases h : xs.findIdx? (fun y => x == y) with
  | none =>
    rw [List.findIdx?_eq_none_iff] at h
    constructor
    · intro h'; exact absurd h' (by decide)
    · intro h'; have := h x h'; simp at this
  | some i =>
    obtain ⟨hi, hp, _⟩ := List.findIdx?_eq_some_iff_getElem.1 h
    have : x = xs[i] := by simpa using hp
    constructor
    · intro _; rw [this]; exact List.getElem_mem _
    · intro _; exact Int.natCast_nonneg _
theorem ixI_neg {x : Int} {xs : List Int} (h : ixI (fun y => x == y) xs < 0) : ixI (fun y => x == y) xs = -1 := by
  have := ixI_le (p := fun y => x == y) (xs := xs); omega
theorem rmF_erase (x : Int) (xs : List Int) : rmF x xs = xs.erase x := by
  unfold rmF ixI
  cases h : xs.findIdx? (fun y => x == y) with
  | none =>
    rw [if_neg (by decide)]
    rw [List.findIdx?_eq_none_iff] at h
    rw [List.erase_of_not_mem]
    intro hx
    have := h x hx; simp at this
  | some i =>
    rw [if_pos (Int.natCast_nonneg _)]
    obtain ⟨hi, hp, hb⟩ := List.findIdx?_eq_some_iff_getElem.1 h
    rw [Int.toNat_natCast, delAt, ← List.eraseIdx_eq_take_drop_succ]
    have hx : xs[i] = x := by simpa using (eq_comm.1 (by simpa using hp))
    rw [List.erase_eq_eraseIdx]
    have : xs.idxOf? x = some i := by
      unfold List.idxOf?
      rw [List.findIdx?_eq_some_iff_getElem]
      refine ⟨hi, by simp [hx], fun j hj => ?_⟩
      have := hb j hj
      simp at this ⊢
      exact fun e => this e.symm
    rw [this]
theorem erase_rev {x : Int} {xs : List Int} (h : xs.Nodup) : (xs.erase x).reverse = xs.reverse.erase x := by
  have hr : xs.reverse.Nodup := by
    rw [List.nodup_iff_pairwise_ne, List.pairwise_reverse]
    exact (List.nodup_iff_pairwise_ne.1 h).imp (fun e => e.symm)
  rw [h.erase_eq_filter, hr.erase_eq_filter, List.filter_reverse]
theorem fndA_ix (k : Int) : ∀ (al : List (Int × Int)) (j : Nat), match fndA k al j with
    | none => k ∉ al.map (·.1)
    | some p => j ≤ p.1 ∧ (al.map (·.1)).findIdx? (fun y => k == y) = some (p.1 - j) ∧ (al.map (·.2))[p.1 - j]? = some p.2
  | [], j => by simp [fndA]
  | q :: r, j => by
    unfold fndA
    by_cases h : k = q.1
    · rw [if_pos h]
      refine ⟨Nat.le_refl _, ?_, ?_⟩
      · rw [List.map_cons, List.findIdx?_cons, if_pos (by simpa using h), Nat.sub_self]
      · rw [Nat.sub_self]; rfl
    · rw [if_neg h]
      have ih := fndA_ix k r (j + 1)
      cases hf : fndA k r (j + 1) with
      | none => rw [hf] at ih; simp only [List.map_cons, List.mem_cons, not_or]; exact ⟨h, ih⟩
      | some p =>
        rw [hf] at ih
        obtain ⟨h1, h2, h3⟩ := ih
        have e : p.1 - j = (p.1 - (j + 1)) + 1 := by omega
        refine ⟨by omega, ?_, ?_⟩
        · rw [List.map_cons, List.findIdx?_cons, if_neg (by simpa using h), h2, e]; rfl
        · rw [List.map_cons, e, List.getElem?_cons_succ]; exact h3
/-- What the keys say of a lookup. -/
theorem fnd_none {k : Int} {al : List (Int × Int)} (h : fndA k al 0 = none) : ixI (fun y => k == y) (al.map (·.1)) = -1 := by
  have := fndA_ix k al 0
  rw [h] at this
  exact ixI_neg (by
    by_cases h' : 0 ≤ ixI (fun y => k == y) (al.map (·.1))
    · exact absurd (ixI_mem.1 h') this
    · omega)
theorem fnd_some {k : Int} {al : List (Int × Int)} {p : Nat × Int} (h : fndA k al 0 = some p) : ixI (fun y => k == y) (al.map (·.1)) = p.1 ∧ (al.map (·.2))[p.1]? = some p.2 ∧ p.1 < al.length ∧ (al.map (·.1))[p.1]? = some k := by
  have := fndA_ix k al 0
  rw [h] at this
  obtain ⟨_, h2, h3⟩ := this
  simp only [Nat.sub_zero] at h2 h3
  obtain ⟨hi, hp, _⟩ := List.findIdx?_eq_some_iff_getElem.1 h2
  refine ⟨by unfold ixI; rw [h2], h3, by simpa using hi, ?_⟩
  rw [List.getElem?_eq_getElem hi]
  have : k = (al.map (·.1))[p.1] := by simpa using hp
  rw [← this]
theorem set_same {xs : List Int} {i : Nat} {x : Int} (h : xs[i]? = some x) : xs.set i x = xs := by
  have hi := lt_of_get h
  rw [List.getElem?_eq_getElem hi] at h
  cases h
  exact List.set_getElem_self hi
theorem updA_maps (k v : Int) (al : List (Int × Int)) : match fndA k al 0 with
    | none => (updA k v al).map (·.1) = al.map (·.1) ++ [k] ∧ (updA k v al).map (·.2) = al.map (·.2) ++ [v]
    | some p => (updA k v al).map (·.1) = al.map (·.1) ∧ (updA k v al).map (·.2) = (al.map (·.2)).set p.1 v := by
  unfold updA
  cases h : fndA k al 0 with
  | none => simp
  | some p =>
    have := fnd_some h
    refine ⟨?_, by rw [List.map_set]⟩
    rw [List.map_set]
    exact set_same this.2.2.2
theorem map_erIdx {α β : Type} (f : α → β) : ∀ (l : List α) (i : Nat), (l.eraseIdx i).map f = (l.map f).eraseIdx i
  | [], _ => rfl
  | _ :: _, 0 => rfl
  | a :: l, i + 1 => by simp [map_erIdx f l i]
theorem delA_maps (k : Int) (al : List (Int × Int)) : match fndA k al 0 with
    | none => delA k al = al
    | some p => (delA k al).map (·.1) = delAt p.1 (al.map (·.1)) ∧ (delA k al).map (·.2) = delAt p.1 (al.map (·.2)) := by
  unfold delA
  cases h : fndA k al 0 with
  | none => rfl
  | some p =>
    show (al.eraseIdx p.1).map (·.1) = delAt p.1 (al.map (·.1)) ∧ (al.eraseIdx p.1).map (·.2) = delAt p.1 (al.map (·.2))
    unfold delAt
    rw [← List.eraseIdx_eq_take_drop_succ, ← List.eraseIdx_eq_take_drop_succ, map_erIdx, map_erIdx]
    exact ⟨rfl, rfl⟩
theorem al_step {k i : Nat} {a b n : Int} {s s' : St} (h : stepF k i a b s = .go n s') : s'.al.length ≤ s.al.length + 1 := by
  have I : ∀ so, stepI so i a s = .go n s' → s'.al.length ≤ s.al.length + 1 := by
    intro so hs
    unfold stepI at hs
    split at hs
    all_goals first
      | (rw [ofR_go hs]; omega)
      | (cases hs; exact Nat.le_succ _)
  unfold stepF at h
  split at h
  · exact I _ h
  · exact I _ h
  · split at h
    · cases h; omega
    · split at h <;> cases h; exact Nat.le_succ _
    · split at h <;> cases h; exact Nat.le_succ _
    · split at h <;> cases h <;> exact Nat.le_succ _
  · split at h
    · cases h; omega
    · cases h; exact Nat.le_succ _
    · split at h <;> cases h; exact Nat.le_succ _
    · split at h <;> cases h; exact Nat.le_succ _
  · split at h
    · cases h; omega
    · cases h
      show (updA a b s.al).length ≤ _
      unfold updA; split <;> simp
    · cases h; omega
    · cases h; omega
    · cases h
      show (delA a s.al).length ≤ _
      unfold delA; split
      · rw [List.length_eraseIdx]; split <;> omega
      · omega
  · split at h <;> cases h <;> exact Nat.le_succ _
  · split at h
    · cases h; omega
    · split at h <;> cases h; exact Nat.le_succ _
    · split at h
      · cases h
      · split at h <;> cases h; exact Nat.le_succ _
  · split at h
    · cases h; omega
    · cases h; omega
    · split at h
      · split at h <;> cases h; exact Nat.le_succ _
      · cases h
    · cases h; omega
    · rw [ofR_go h]; omega
    · rw [ofR_go h]; omega
  · split at h <;> (rw [ofR_go h]; omega)
end Go.Proofs.YtpnbhoeghncnnaaGreatDoor

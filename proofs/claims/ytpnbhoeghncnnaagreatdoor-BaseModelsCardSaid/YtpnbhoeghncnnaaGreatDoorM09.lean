/-
  A part of the proof of Rows.BaseModelsCardSaid (for every class and script BaseModels answers true, and its arguments read as they did; the listed library variables as the program text lays them): texts W, X0, Y, Z, Z2, Z3, Z4, Z5, Z6, AA. By an AI agent.
-/
import Derived.Test.YtpnbhoeghncnnaaGreatDoorM08
import Derived.Deep.RegionHeld3
namespace Go.Proofs.YtpnbhoeghncnnaaGreatDoor
open Go.RowKit
set_option linter.unusedSimpArgs false
theorem quiet_any (fn : Fn) (a c : Array Value) (w : World) :
    Calls Tryz.prog 36 #[.func fn a c] w fun e w' => e = .returned (.func (.func 97) #[] #[.pointer (some ⟨w.heap.size, 0, none⟩)]) ∧ w' = w.alloc (.cells #[.func fn a c] 78) := by
  have hmf : ∀ (fn : Fn) (first cap : Array Value) (w : World), (Instr.makeFunc fn first cap).run Tryz.prog w = .ok (.func fn first cap) w := fun _ _ _ _ => rfl
  go_enter Tryz.func36, Tryz.ntmps36
  go_wp2
  go_ret
  exact ⟨rfl, rfl⟩
theorem keyS (s : ByteArray) (w : World) (b : Bool) : (Instr.checkKey b 10000 9 (.string s)).run Tryz.prog w = .ok () w := MapKept.run_checkKey (k := .string s) Tryz.underlying9 (by simp [MapKept.IsKey]) b 9999
theorem mu_new (W : World) (r c : Nat) (es : Array MapEntry) (k : ByteArray) (v : Value) (hm : W.heap[r]? = some (.map es c)) (hf : Instr.findNow .string (.string k) es.toList 0 = some none) :
    (Instr.mapUpdate 73 (.map (some r)) (.string k) v).run Tryz.prog W = .ok () (putMap W r (es.push { key := .string k, val := v, born := c }) (c + 1)) := by
  simp [Instr.mapUpdate, run_underlying Tryz.underlying73, MapKept.run_getObj_map hm, keyS, MapKept.run_findKey Tryz.underlying9 hf, MapKept.run_setObj_map _ hm, Result.andThen, putMap]
theorem me_new (W : World) (r c : Nat) (es : Array MapEntry) (k : ByteArray) (hm : W.heap[r]? = some (.map es c)) (hf : Instr.findNow .string (.string k) es.toList 0 = some none) :
    (Instr.mapEntry 73 (.map (some r)) (.string k)).run Tryz.prog W = .ok (.tuple #[.nilFunc, .int .i64 c]) (putMap W r (es.push { key := .string k, val := .nilFunc, born := c }) (c + 1)) := by
  have hz : ∀ w, (zeroValue 76).run Tryz.prog w = .ok .nilFunc w := fun w => by kernel_rfl
  simp [Instr.mapEntry, run_underlying Tryz.underlying73, MapKept.run_getObj_map hm, keyS, MapKept.run_findKey Tryz.underlying9 hf, MapKept.run_setObj_map _ hm, Result.andThen, putMap, hz]
  rfl
theorem me_old (W : World) (r c i : Nat) (es : Array MapEntry) (k : ByteArray) (v : Value) (hm : W.heap[r]? = some (.map es c)) (hf : Instr.findNow .string (.string k) es.toList 0 = some (some (i, v))) (n : Nat) (hn : ((es[i]?).map (fun x => (x.born : Int))).getD 0 = (n : Int)) (hk : ((es[i]?).map (·.key)).getD (.string k) = .string k) :
    (Instr.mapEntry 73 (.map (some r)) (.string k)).run Tryz.prog W = .ok (.tuple #[v, .int .i64 n]) (putMap W r (es.modify i fun e => { e with key := .string k }) c) := by
  have hkk : (k == k) = true := by
    cases k with
    | mk d => show (d == d) = true; simp
  simp [Instr.mapEntry, run_underlying Tryz.underlying73, MapKept.run_getObj_map hm, keyS, MapKept.run_findKey Tryz.underlying9 hf, MapKept.run_setObj_map _ hm, Result.andThen, putMap, hk, hn, Instr.keyThatStays, Instr.sameBits, hkk]
  rfl
theorem st_at (W : World) (r c i : Nat) (es : Array MapEntry) (n : Nat) (v : Value) (hm : W.heap[r]? = some (.map es c)) (hi : es.findIdx? (fun e => (e.born : Int) == (n : Int)) = some i) :
    (Instr.entryStore 73 (.map (some r)) (.int .i64 n) v).run Tryz.prog W = .ok () (putMap W r (es.modify i fun e => { e with val := v }) c) := by
  have ha : (asIntOf (.int .i64 (n : Int))).run Tryz.prog W = .ok (.i64, (n : Int)) W := rfl
  simp [Instr.entryStore, ha, MapKept.run_getObj_map hm, MapKept.run_setObj_map _ hm, Result.andThen, putMap, asInt, hi]
structure MS (w : World) (D : Option Nat) (es : Array MapEntry) (c : Nat) (W : World) : Prop where
  fr : Fr (fun _ => False) w W
  hm0 : W.heap[w.heap.size]? = some (.map #[] 0)
  hm1 : W.heap[w.heap.size + 1]? = some (.cells #[.slice none 0 0, .map (some w.heap.size), .int .i64 0, .int .i64 (-1), .map D] 75 (0, 0))
  hm2 : W.heap[w.heap.size + 1 + 1]? = some (.cells #[.pointer (some ⟨w.heap.size + 1, 0, none⟩)] 45 (0, 0))
  hm3 : W.heap[w.heap.size + 1 + 1 + 1]? = some (.map es c)
theorem MS.fr_of {w : World} {D : Option Nat} {es : Array MapEntry} {c : Nat} {W W' : World} (h : MS w D es c W) (hf : Fr (fun _ => False) W W') : MS w D es c W' :=
  ⟨h.fr.trans hf (fun _ _ h => h), hf.heap h.hm0 id, hf.heap h.hm1 id, hf.heap h.hm2 id, hf.heap h.hm3 id⟩
theorem MS.put {w : World} {D : Option Nat} {es : Array MapEntry} {c : Nat} {W : World} (h : MS w D es c W) (es' : Array MapEntry) (c' : Nat) : MS w D es' c' (putMap W (w.heap.size + 1 + 1 + 1) es' c') := by
  have hf := Fr.putMap (fun k => k = w.heap.size + 1 + 1 + 1) W (w.heap.size + 1 + 1 + 1) es' c' rfl
  exact ⟨h.fr.trans hf (fun i hi e => by omega), hf.heap h.hm0 (by omega), hf.heap h.hm1 (by omega), hf.heap h.hm2 (by omega), heap_putMap h.hm3 _ _⟩
theorem MS.c2 {w : World} {D : Option Nat} {es : Array MapEntry} {c : Nat} {W : World} (h : MS w D es c W) : W.cell? ⟨w.heap.size + 1 + 1, 0, none⟩ = some (.pointer (some ⟨w.heap.size + 1, 0, none⟩)) := by rw [heap_cell h.hm2]; rfl
theorem MS.c4 {w : World} {D : Option Nat} {es : Array MapEntry} {c : Nat} {W : World} (h : MS w D es c W) : W.cell? ⟨w.heap.size + 1, 4, none⟩ = some (.map D) := by rw [heap_cell h.hm1]; rfl
theorem MS.z4 {w : World} {D : Option Nat} {es : Array MapEntry} {c : Nat} {W : World} (h : MS w D es c W) : W.frozen? ⟨w.heap.size + 1, 4, none⟩ = false := heap_frozen h.hm1 4
theorem MS.set4 {w : World} {D : Option Nat} {es : Array MapEntry} {c : Nat} {W : World} (h : MS w D es c W) (D' : Option Nat) : MS w D' es c (W.setCell ⟨w.heap.size + 1, 4, none⟩ (.map D')) := by
  have hf := Fr.setCell (fun k => k = w.heap.size + 1) W ⟨w.heap.size + 1, 4, none⟩ (.map D') rfl
  exact ⟨h.fr.trans hf (fun i hi e => by omega), hf.heap h.hm0 (by omega), by rw [heap_setCell h.hm1]; rfl, hf.heap h.hm2 (by omega), hf.heap h.hm3 (by omega)⟩
abbrev W00 (w : World) : World := ((((w.alloc (Obj.map #[] 0)).alloc (Obj.cells #[Value.slice none 0 0, Value.map (some w.heap.size), Value.int IntKind.i64 0, Value.int IntKind.i64 (-1), Value.map none] 75)).alloc (Obj.cells #[Value.pointer (some { block := w.heap.size + 1, off := 0 })] 45)).alloc (Obj.map #[] 0))
theorem ms00 (w : World) : MS w none #[] 0 (W00 w) := by
  have f1 := Fr.alloc (fun _ => False) w (Obj.map #[] 0)
  have f2 := Fr.alloc (fun _ => False) (w.alloc (Obj.map #[] 0)) (Obj.cells #[Value.slice none 0 0, Value.map (some w.heap.size), Value.int IntKind.i64 0, Value.int IntKind.i64 (-1), Value.map none] 75)
  have f3 := Fr.alloc (fun _ => False) ((w.alloc (Obj.map #[] 0)).alloc (Obj.cells #[Value.slice none 0 0, Value.map (some w.heap.size), Value.int IntKind.i64 0, Value.int IntKind.i64 (-1), Value.map none] 75)) (Obj.cells #[Value.pointer (some { block := w.heap.size + 1, off := 0 })] 45)
  have f4 := Fr.alloc (fun _ => False) (((w.alloc (Obj.map #[] 0)).alloc (Obj.cells #[Value.slice none 0 0, Value.map (some w.heap.size), Value.int IntKind.i64 0, Value.int IntKind.i64 (-1), Value.map none] 75)).alloc (Obj.cells #[Value.pointer (some { block := w.heap.size + 1, off := 0 })] 45)) (Obj.map #[] 0)
  have g : ∀ (u : World) (o : Obj) (n : Nat), u.heap.size = n → (u.alloc o).heap[n]? = some o := fun u o n h => by subst h; exact heap_alloc_new u o
  exact ⟨((f1.trans f2 (fun _ _ h => h)).trans f3 (fun _ _ h => h)).trans f4 (fun _ _ h => h), f4.heap (f3.heap (f2.heap (g _ _ _ rfl) id) id) id, f4.heap (f3.heap (g _ _ _ (by simp)) id) id, f4.heap (g _ _ _ (by simp)) id, g _ _ _ (by simp)⟩
end Go.Proofs.YtpnbhoeghncnnaaGreatDoor
namespace Go.Proofs.YtpnbhoeghncnnaaGreatDoor
open Go.RowKit
set_option linter.unusedSimpArgs false
theorem pre (w : World) : ∃ W1 W2 W3 W4, ((Instr.mapUpdate 73 (.map (some (w.heap.size + 1 + 1 + 1))) (.string ⟨#[99, 111, 117, 110, 116]⟩) (.func (.func 33) #[.pointer (some ⟨w.heap.size + 1, 0, none⟩)] #[])).run Tryz.prog (W00 w) = .ok () W1) ∧ ((Instr.mapUpdate 73 (.map (some (w.heap.size + 1 + 1 + 1))) (.string ⟨#[104, 97, 115]⟩) (.func (.func 34) #[.pointer (some ⟨w.heap.size + 1, 0, none⟩)] #[])).run Tryz.prog W1 = .ok () W2) ∧ ((Instr.mapUpdate 73 (.map (some (w.heap.size + 1 + 1 + 1))) (.string ⟨#[115, 105, 122, 101]⟩) (.func (.func 33) #[.pointer (some ⟨w.heap.size + 1, 0, none⟩)] #[])).run Tryz.prog W2 = .ok () W3) ∧ ((Instr.mapUpdate 73 (.map (some (w.heap.size + 1 + 1 + 1))) (.string ⟨#[115, 117, 109]⟩) (.func (.func 35) #[.pointer (some ⟨w.heap.size + 1, 0, none⟩)] #[])).run Tryz.prog W3 = .ok () W4) ∧ MS w none (#[{ key := .string ⟨#[99, 111, 117, 110, 116]⟩, val := .func (.func 33) #[.pointer (some ⟨w.heap.size + 1, 0, none⟩)] #[], born := 0 }]) 1 W1 ∧ MS w none (#[{ key := .string ⟨#[99, 111, 117, 110, 116]⟩, val := .func (.func 33) #[.pointer (some ⟨w.heap.size + 1, 0, none⟩)] #[], born := 0 }, { key := .string ⟨#[104, 97, 115]⟩, val := .func (.func 34) #[.pointer (some ⟨w.heap.size + 1, 0, none⟩)] #[], born := 1 }]) 2 W2 ∧ MS w none (#[{ key := .string ⟨#[99, 111, 117, 110, 116]⟩, val := .func (.func 33) #[.pointer (some ⟨w.heap.size + 1, 0, none⟩)] #[], born := 0 }, { key := .string ⟨#[104, 97, 115]⟩, val := .func (.func 34) #[.pointer (some ⟨w.heap.size + 1, 0, none⟩)] #[], born := 1 }, { key := .string ⟨#[115, 105, 122, 101]⟩, val := .func (.func 33) #[.pointer (some ⟨w.heap.size + 1, 0, none⟩)] #[], born := 2 }]) 3 W3 ∧ MS w none (#[{ key := .string ⟨#[99, 111, 117, 110, 116]⟩, val := .func (.func 33) #[.pointer (some ⟨w.heap.size + 1, 0, none⟩)] #[], born := 0 }, { key := .string ⟨#[104, 97, 115]⟩, val := .func (.func 34) #[.pointer (some ⟨w.heap.size + 1, 0, none⟩)] #[], born := 1 }, { key := .string ⟨#[115, 105, 122, 101]⟩, val := .func (.func 33) #[.pointer (some ⟨w.heap.size + 1, 0, none⟩)] #[], born := 2 }, { key := .string ⟨#[115, 117, 109]⟩, val := .func (.func 35) #[.pointer (some ⟨w.heap.size + 1, 0, none⟩)] #[], born := 3 }]) 4 W4 := by
  have M0 := ms00 w
  have M1 := M0.put (#[{ key := .string ⟨#[99, 111, 117, 110, 116]⟩, val := .func (.func 33) #[.pointer (some ⟨w.heap.size + 1, 0, none⟩)] #[], born := 0 }]) 1
  have e1 := mu_new _ _ _ _ ⟨#[99, 111, 117, 110, 116]⟩ (.func (.func 33) #[.pointer (some ⟨w.heap.size + 1, 0, none⟩)] #[]) M0.hm3 (by kernel_rfl)
  have M2 := M1.put (#[{ key := .string ⟨#[99, 111, 117, 110, 116]⟩, val := .func (.func 33) #[.pointer (some ⟨w.heap.size + 1, 0, none⟩)] #[], born := 0 }, { key := .string ⟨#[104, 97, 115]⟩, val := .func (.func 34) #[.pointer (some ⟨w.heap.size + 1, 0, none⟩)] #[], born := 1 }]) 2
  have e2 := mu_new _ _ _ _ ⟨#[104, 97, 115]⟩ (.func (.func 34) #[.pointer (some ⟨w.heap.size + 1, 0, none⟩)] #[]) M1.hm3 (by kernel_rfl)
  have M3 := M2.put (#[{ key := .string ⟨#[99, 111, 117, 110, 116]⟩, val := .func (.func 33) #[.pointer (some ⟨w.heap.size + 1, 0, none⟩)] #[], born := 0 }, { key := .string ⟨#[104, 97, 115]⟩, val := .func (.func 34) #[.pointer (some ⟨w.heap.size + 1, 0, none⟩)] #[], born := 1 }, { key := .string ⟨#[115, 105, 122, 101]⟩, val := .func (.func 33) #[.pointer (some ⟨w.heap.size + 1, 0, none⟩)] #[], born := 2 }]) 3
  have e3 := mu_new _ _ _ _ ⟨#[115, 105, 122, 101]⟩ (.func (.func 33) #[.pointer (some ⟨w.heap.size + 1, 0, none⟩)] #[]) M2.hm3 (by kernel_rfl)
  have M4 := M3.put (#[{ key := .string ⟨#[99, 111, 117, 110, 116]⟩, val := .func (.func 33) #[.pointer (some ⟨w.heap.size + 1, 0, none⟩)] #[], born := 0 }, { key := .string ⟨#[104, 97, 115]⟩, val := .func (.func 34) #[.pointer (some ⟨w.heap.size + 1, 0, none⟩)] #[], born := 1 }, { key := .string ⟨#[115, 105, 122, 101]⟩, val := .func (.func 33) #[.pointer (some ⟨w.heap.size + 1, 0, none⟩)] #[], born := 2 }, { key := .string ⟨#[115, 117, 109]⟩, val := .func (.func 35) #[.pointer (some ⟨w.heap.size + 1, 0, none⟩)] #[], born := 3 }]) 4
  have e4 := mu_new _ _ _ _ ⟨#[115, 117, 109]⟩ (.func (.func 35) #[.pointer (some ⟨w.heap.size + 1, 0, none⟩)] #[]) M3.hm3 (by kernel_rfl)
  exact ⟨_, _, _, _, e1, e2, e3, e4, M1, M2, M3, M4⟩
theorem box_put {W : World} {bx r c0 : Nat} {es0 : Array MapEntry} {cs : Array Value} {t : TypeId} {fr : Nat × Nat} (hb : W.heap[bx]? = some (.cells cs t fr)) (hm : W.heap[r]? = some (.map es0 c0)) (es : Array MapEntry) (c : Nat) : (putMap W r es c).heap[bx]? = some (.cells cs t fr) :=
  (Fr.putMap (fun k => k = r) W r es c rfl).heap hb (fun e => by rw [e, hm] at hb; cases hb)
end Go.Proofs.YtpnbhoeghncnnaaGreatDoor
namespace Go.Proofs.YtpnbhoeghncnnaaGreatDoor
open Go.RowKit
/-- A call of a class: its name, how many arguments, whether it returns a number. -/
abbrev CallT := ByteArray × Int × Bool
def tabINTS : List CallT := [(⟨#[99, 111, 117, 110, 116]⟩, 0, true), (⟨#[112, 117, 115, 104]⟩, 1, false), (⟨#[101, 120, 116, 101, 110, 100]⟩, 1, false), (⟨#[104, 97, 115]⟩, 1, true), (⟨#[105, 116, 101, 109]⟩, 1, true), (⟨#[115, 117, 109]⟩, 0, true), (⟨#[114, 101, 109, 111, 118, 101]⟩, 1, false), (⟨#[114, 101, 118, 101, 114, 115, 101]⟩, 0, false), (⟨#[119, 105, 112, 101]⟩, 0, false)]
def tabSORTED : List CallT := [(⟨#[99, 111, 117, 110, 116]⟩, 0, true), (⟨#[112, 117, 115, 104]⟩, 1, false), (⟨#[101, 120, 116, 101, 110, 100]⟩, 1, false), (⟨#[104, 97, 115]⟩, 1, true), (⟨#[105, 116, 101, 109]⟩, 1, true), (⟨#[115, 117, 109]⟩, 0, true), (⟨#[114, 101, 109, 111, 118, 101]⟩, 1, false), (⟨#[114, 101, 118, 101, 114, 115, 101]⟩, 0, false), (⟨#[119, 105, 112, 101]⟩, 0, false)]
def tabSTACK : List CallT := [(⟨#[99, 111, 117, 110, 116]⟩, 0, true), (⟨#[112, 117, 115, 104]⟩, 1, false), (⟨#[112, 111, 112]⟩, 0, false), (⟨#[112, 101, 101, 107]⟩, 0, true)]
def tabQUEUE : List CallT := [(⟨#[99, 111, 117, 110, 116]⟩, 0, true), (⟨#[101, 110, 116, 101, 114]⟩, 1, false), (⟨#[108, 101, 97, 118, 101]⟩, 0, false), (⟨#[102, 114, 111, 110, 116]⟩, 0, true)]
def tabTABLE : List CallT := [(⟨#[99, 111, 117, 110, 116]⟩, 0, true), (⟨#[102, 111, 114, 99, 101]⟩, 2, false), (⟨#[104, 97, 115]⟩, 1, true), (⟨#[118, 97, 108, 117, 101, 95, 111, 102]⟩, 1, true), (⟨#[114, 101, 109, 111, 118, 101]⟩, 1, false)]
def tabSET : List CallT := [(⟨#[97, 100, 100]⟩, 1, false), (⟨#[100, 114, 111, 112]⟩, 1, false), (⟨#[104, 97, 115]⟩, 1, true), (⟨#[115, 105, 122, 101]⟩, 0, true)]
def tabCOUNTER : List CallT := [(⟨#[99, 111, 117, 110, 116]⟩, 0, true), (⟨#[117, 112]⟩, 0, false), (⟨#[97, 100, 100]⟩, 1, false)]
def tabRANGE : List CallT := [(⟨#[108, 111, 119]⟩, 0, true), (⟨#[104, 105, 103, 104]⟩, 0, true), (⟨#[115, 112, 97, 110]⟩, 2, false), (⟨#[99, 111, 110, 116, 97, 105, 110, 115]⟩, 1, true), (⟨#[115, 105, 122, 101]⟩, 0, true), (⟨#[115, 117, 109]⟩, 0, true)]
def tabARITH : List CallT := [(⟨#[103, 99, 100]⟩, 2, true), (⟨#[112, 111, 119, 101, 114]⟩, 2, true), (⟨#[102, 97, 99, 116]⟩, 1, true), (⟨#[116, 114, 105, 101, 115]⟩, 1, true)]
def CallT.cells (t : CallT) : List Value := [.string t.1, .int .i64 t.2.1, .bool t.2.2]
def flatT (tb : List CallT) : Array Value := (tb.flatMap CallT.cells).toArray
set_option maxHeartbeats 1000000 in
theorem calls_INTS (w : World) : Calls Tryz.prog 31 #[.string ⟨#[73, 78, 84, 83]⟩] w fun e w' => e = .returned (.slice (some ⟨w.heap.size, 0, none⟩) 9 9) ∧ w' = w.alloc (.cells (flatT tabINTS) 48) := by
  go_enter Tryz.func31, Tryz.ntmps31
  go_wp2
  go_ret
  exact ⟨rfl, rfl⟩
set_option maxHeartbeats 1000000 in
theorem calls_SORTED (w : World) : Calls Tryz.prog 31 #[.string ⟨#[83, 79, 82, 84, 69, 68]⟩] w fun e w' => e = .returned (.slice (some ⟨w.heap.size, 0, none⟩) 9 9) ∧ w' = w.alloc (.cells (flatT tabSORTED) 48) := by
  go_enter Tryz.func31, Tryz.ntmps31
  go_wp2
  go_ret
  exact ⟨rfl, rfl⟩
set_option maxHeartbeats 1000000 in
theorem calls_STACK (w : World) : Calls Tryz.prog 31 #[.string ⟨#[83, 84, 65, 67, 75]⟩] w fun e w' => e = .returned (.slice (some ⟨w.heap.size, 0, none⟩) 4 4) ∧ w' = w.alloc (.cells (flatT tabSTACK) 48) := by
  go_enter Tryz.func31, Tryz.ntmps31
  go_wp2
  go_ret
  exact ⟨rfl, rfl⟩
set_option maxHeartbeats 1000000 in
theorem calls_QUEUE (w : World) : Calls Tryz.prog 31 #[.string ⟨#[81, 85, 69, 85, 69]⟩] w fun e w' => e = .returned (.slice (some ⟨w.heap.size, 0, none⟩) 4 4) ∧ w' = w.alloc (.cells (flatT tabQUEUE) 48) := by
  go_enter Tryz.func31, Tryz.ntmps31
  go_wp2
  go_ret
  exact ⟨rfl, rfl⟩
set_option maxHeartbeats 1000000 in
theorem calls_TABLE (w : World) : Calls Tryz.prog 31 #[.string ⟨#[84, 65, 66, 76, 69]⟩] w fun e w' => e = .returned (.slice (some ⟨w.heap.size, 0, none⟩) 5 5) ∧ w' = w.alloc (.cells (flatT tabTABLE) 48) := by
  go_enter Tryz.func31, Tryz.ntmps31
  go_wp2
  go_ret
  exact ⟨rfl, rfl⟩
set_option maxHeartbeats 1000000 in
theorem calls_SET (w : World) : Calls Tryz.prog 31 #[.string ⟨#[83, 69, 84]⟩] w fun e w' => e = .returned (.slice (some ⟨w.heap.size, 0, none⟩) 4 4) ∧ w' = w.alloc (.cells (flatT tabSET) 48) := by
  go_enter Tryz.func31, Tryz.ntmps31
  go_wp2
  go_ret
  exact ⟨rfl, rfl⟩
set_option maxHeartbeats 1000000 in
theorem calls_COUNTER (w : World) : Calls Tryz.prog 31 #[.string ⟨#[67, 79, 85, 78, 84, 69, 82]⟩] w fun e w' => e = .returned (.slice (some ⟨w.heap.size, 0, none⟩) 3 3) ∧ w' = w.alloc (.cells (flatT tabCOUNTER) 48) := by
  go_enter Tryz.func31, Tryz.ntmps31
  go_wp2
  go_ret
  exact ⟨rfl, rfl⟩
set_option maxHeartbeats 1000000 in
theorem calls_RANGE (w : World) : Calls Tryz.prog 31 #[.string ⟨#[82, 65, 78, 71, 69]⟩] w fun e w' => e = .returned (.slice (some ⟨w.heap.size, 0, none⟩) 6 6) ∧ w' = w.alloc (.cells (flatT tabRANGE) 48) := by
  go_enter Tryz.func31, Tryz.ntmps31
  go_wp2
  go_ret
  exact ⟨rfl, rfl⟩
set_option maxHeartbeats 1000000 in
theorem calls_ARITH (w : World) : Calls Tryz.prog 31 #[.string ⟨#[65, 82, 73, 84, 72]⟩] w fun e w' => e = .returned (.slice (some ⟨w.heap.size, 0, none⟩) 4 4) ∧ w' = w.alloc (.cells (flatT tabARITH) 48) := by
  go_enter Tryz.func31, Tryz.ntmps31
  go_wp2
  go_ret
  exact ⟨rfl, rfl⟩
end Go.Proofs.YtpnbhoeghncnnaaGreatDoor
namespace Go.Proofs.YtpnbhoeghncnnaaGreatDoor
open Go.RowKit
set_option maxHeartbeats 400000 in
theorem calls_none (s : ByteArray) (w : World) (g0 : (s.toList == [73, 78, 84, 83]) = false) (g1 : (s.toList == [83, 79, 82, 84, 69, 68]) = false) (g2 : (s.toList == [83, 84, 65, 67, 75]) = false) (g3 : (s.toList == [81, 85, 69, 85, 69]) = false) (g4 : (s.toList == [84, 65, 66, 76, 69]) = false) (g5 : (s.toList == [83, 69, 84]) = false) (g6 : (s.toList == [67, 79, 85, 78, 84, 69, 82]) = false) (g7 : (s.toList == [82, 65, 78, 71, 69]) = false) (g8 : (s.toList == [65, 82, 73, 84, 72]) = false) : Calls Tryz.prog 31 #[.string s] w fun e w' => e = .returned (.slice none 0 0) ∧ w' = w := by
  go_enter Tryz.func31, Tryz.ntmps31
  go_wp2
  go_ret
  exact ⟨rfl, rfl⟩
theorem callOf1_any (B : Nat) (s : ByteArray) (t : CallT) (w : World) (hB : w.cell? ⟨B, 0, none⟩ = some (.string s)) :
    Calls Tryz.prog 70 #[.agg #[.string t.1, .int .i64 t.2.1, .bool t.2.2], .pointer (some ⟨B, 0, none⟩)] w fun e w' => e = .returned (.bool (t.1.toList == s.toList)) ∧ Fr (fun _ => False) w w' := by
  obtain ⟨t, a, q⟩ := t
  have hlt := World.block_lt_of_cell? w _ hB
  go_enter Tryz.func70, Tryz.ntmps70
  go_wp2
  go_ret
  exact ⟨rfl, Fr.alloc _ _ _⟩
/-- The call of that name: where it stands. -/
def tbIx (s : ByteArray) (tb : List CallT) : Int := match tb.findIdx? (fun t => t.1.toList == s.toList) with | some i => (i : Int) | none => -1
/-- The row of the calls lies at g. -/
def TbAt (w : World) (g : Nat) (tb : List CallT) : Prop :=
  ∀ j t, tb[j]? = some t → w.cell? ⟨g, j * 3, none⟩ = some (.string t.1) ∧ w.cell? ⟨g, j * 3 + 1, none⟩ = some (.int .i64 t.2.1) ∧ w.cell? ⟨g, j * 3 + 2, none⟩ = some (.bool t.2.2)
theorem TbAt.fr {w w' : World} {g : Nat} {tb : List CallT} (h : TbAt w g tb) (hf : Fr (fun _ => False) w w') : TbAt w' g tb := fun j t hj =>
  ⟨hf.cell (h j t hj).1 id, hf.cell (h j t hj).2.1 id, hf.cell (h j t hj).2.2 id⟩
theorem tbIx_at {s : ByteArray} {tb : List CallT} {k : Nat} {t : CallT} (hy : tb[k]? = some t) (hp : (t.1.toList == s.toList) = true) (hb : ∀ j z, j < k → tb[j]? = some z → (z.1.toList == s.toList) = false) : tbIx s tb = k := by
  have hk : k < tb.length := by
    rcases Nat.lt_or_ge k tb.length with h' | h'
    · exact h'
    · rw [List.getElem?_eq_none h'] at hy; cases hy
  have : tb.findIdx? (fun t => t.1.toList == s.toList) = some k := by
    rw [List.findIdx?_eq_some_iff_getElem]
    refine ⟨hk, by rw [List.getElem?_eq_getElem hk] at hy; cases hy; exact hp, fun j hj => ?_⟩
    rw [hb j _ hj (List.getElem?_eq_getElem (by omega))]; decide
  rw [tbIx, this]
theorem tbIx_no {s : ByteArray} {tb : List CallT} (hb : ∀ j z, j < tb.length → tb[j]? = some z → (z.1.toList == s.toList) = false) : tbIx s tb = -1 := by
  have : tb.findIdx? (fun t => t.1.toList == s.toList) = none := by
    rw [List.findIdx?_eq_none_iff]
    intro x hx
    obtain ⟨j, hj, rfl⟩ := List.mem_iff_getElem.1 hx
    exact hb j _ hj (List.getElem?_eq_getElem hj)
  rw [tbIx, this]
set_option maxHeartbeats 1000000 in
theorem indexc_row (g B : Nat) (tb : List CallT) (s : ByteArray) (w : World) (hn : tb.length ≤ 100) (hB : w.cell? ⟨B, 0, none⟩ = some (.string s)) (hc : TbAt w g tb) :
    Calls Tryz.prog 69 #[.slice (some ⟨g, 0, none⟩) tb.length tb.length, .func (.func 70) #[] #[.pointer (some ⟨B, 0, none⟩)]] w fun e w' => e = .returned (.int .i64 (tbIx s tb)) ∧ Fr (fun _ => False) w w' := by
  have HC := Lib.hid hc
  have HN := Lib.hid hn
  have HB0 := Lib.hid hB
  clear hc hn hB
  go_enter Tryz.func69, Tryz.ntmps69
  go_wp2
  go_loopw [8] (fun a wr => ∃ k : Nat, a = .int .i64 k ∧ k ≤ tb.length ∧ (∀ j z, j < k → tb[j]? = some z → (z.1.toList == s.toList) = false) ∧ Fr (fun _ => False) w wr) (fun a _ => tb.length - (intOf a).toNat)
  case atStart => exact ⟨0, rfl, by omega, fun j z h => by omega, Fr.refl _ _⟩
  case round =>
    obtain ⟨k, rfl, hk, hb, hf⟩ := hrel
    have HB := Lib.hid hb
    have HF := Lib.hid hf
    clear hb hf
    by_cases hlt : k < tb.length
    · obtain ⟨t, ht⟩ : ∃ t, tb[k]? = some t := ⟨_, List.getElem?_eq_getElem hlt⟩
      have hT := HC.out.fr HF.out k t ht
      have c0 := hT.1
      have c1 := hT.2.1
      have c2 := hT.2.2
      have HY := Lib.hid ht
      clear ht hT
      have hl := HN.out
      cases hd : (t.1.toList == s.toList) with
      | true =>
        have HD := Lib.hid hd
        clear hd
        go_wp2_with (go_at_call 70; refine (callOf1_any _ s t _ (HF.out.cell HB0.out id)).mono ?_; rintro e w' ⟨rfl, hf⟩; rw [HD.out]; have HF2 := Lib.hid hf; clear hf)
        go_ret
        exact ⟨by rw [tbIx_at HY.out HD.out HB.out]; rfl, HF.out.trans HF2.out (fun _ _ h => h)⟩
      | false =>
        have HD := Lib.hid hd
        clear hd
        go_wp2_with (go_at_call 70; refine (callOf1_any _ s t _ (HF.out.cell HB0.out id)).mono ?_; rintro e w' ⟨rfl, hf⟩; rw [HD.out]; have HF2 := Lib.hid hf; clear hf)
        go_roundw
        case rel => exact ⟨k + 1, by go_num, by omega, fun j z hj hz => by
          rcases Nat.lt_or_ge j k with h | h
          · exact HB.out j z h hz
          · obtain rfl : j = k := by omega
            rw [HY.out] at hz; cases hz; exact HD.out, HF.out.trans HF2.out (fun _ _ h => h)⟩
        case measure => simp [intOf]; omega
    · obtain rfl : k = tb.length := by omega
      go_wp2
      go_ret
      exact ⟨by rw [tbIx_no HB.out]; rfl, HF.out⟩
end Go.Proofs.YtpnbhoeghncnnaaGreatDoor
namespace Go.Proofs.YtpnbhoeghncnnaaGreatDoor
open Go.RowKit
theorem flat_get : ∀ (tb : List CallT) (j : Nat) (t : CallT), tb[j]? = some t → (tb.flatMap CallT.cells)[j * 3]? = some (.string t.1) ∧ (tb.flatMap CallT.cells)[j * 3 + 1]? = some (.int .i64 t.2.1) ∧ (tb.flatMap CallT.cells)[j * 3 + 2]? = some (.bool t.2.2)
  | [], j, t, h => by simp at h
  | u :: tb, 0, t, h => by simp at h; subst h; simp [CallT.cells]
  | u :: tb, j + 1, t, h => by
    have ih := flat_get tb j t (by simpa using h)
    have e : ∀ i, ((u :: tb).flatMap CallT.cells)[(j + 1) * 3 + i]? = (tb.flatMap CallT.cells)[j * 3 + i]? := fun i => by
      rw [List.flatMap_cons, List.getElem?_append_right (by simp [CallT.cells]; omega)]
      congr 1
      simp [CallT.cells]; omega
    exact ⟨by have := e 0; simp only [Nat.add_zero] at this; rw [this]; exact ih.1, by rw [e 1]; exact ih.2.1, by rw [e 2]; exact ih.2.2⟩
theorem tbAt_new (w : World) (tb : List CallT) : TbAt (w.alloc (.cells (flatT tb) 48)) w.heap.size tb := fun j t hj => by
  have h := flat_get tb j t hj
  have hb := heap_alloc_new w (.cells (flatT tb) 48)
  exact ⟨by rw [heap_cell hb]; simpa [flatT] using h.1, by rw [heap_cell hb]; simpa [flatT] using h.2.1, by rw [heap_cell hb]; simpa [flatT] using h.2.2⟩
def CallsOf (cls : ByteArray) (tb : List CallT) : Prop :=
  ∀ w : World, Calls Tryz.prog 31 #[.string cls] w fun e w' => e = .returned (.slice (some ⟨w.heap.size, 0, none⟩) tb.length tb.length) ∧ w' = w.alloc (.cells (flatT tb) 48)
set_option maxHeartbeats 1000000 in
theorem callOf_no (cls s : ByteArray) (tb : List CallT) (hc : CallsOf cls tb) (hn : tb.length ≤ 100) (hix : tbIx s tb = -1) (w : World) :
    Calls Tryz.prog 16 #[.string cls, .string s] w fun e w' => e = .returned (.tuple #[.agg #[.string ⟨#[]⟩, .int .i64 0, .bool false], .bool false]) ∧ Fr (fun _ => False) w w' := by
  have HC := Lib.hid hc
  have HN := Lib.hid hn
  have HI := Lib.hid hix
  have g : ∀ (u : World) (o : Obj) (n : Nat), u.heap.size = n → (u.alloc o).heap[n]? = some o := fun u o n h => by subst h; exact heap_alloc_new u o
  have f1 := Fr.alloc (fun _ => False) w (Obj.cells #[Value.string s] 9)
  have f2 := Fr.alloc (fun _ => False) (w.alloc (Obj.cells #[Value.string s] 9)) (Obj.cells #[Value.string { data := #[] }, Value.int IntKind.i64 0, Value.bool false] 48)
  have f3 := Fr.alloc (fun _ => False) ((w.alloc (Obj.cells #[Value.string s] 9)).alloc (Obj.cells #[Value.string { data := #[] }, Value.int IntKind.i64 0, Value.bool false] 48)) (Obj.cells (flatT tb) 48)
  have K0 := Lib.hid ((f1.trans f2 (fun _ _ h => h)).trans f3 (fun _ _ h => h))
  have K1 := Lib.hid (f3.heap (f2.heap (g w (Obj.cells #[Value.string s] 9) _ rfl) id) id)
  have K2 := Lib.hid (f3.heap (g _ (Obj.cells #[Value.string { data := #[] }, Value.int IntKind.i64 0, Value.bool false] 48) (w.heap.size + 1) (by simp)) id)
  have K3 := Lib.hid (show TbAt (((w.alloc (Obj.cells #[Value.string s] 9)).alloc (Obj.cells #[Value.string { data := #[] }, Value.int IntKind.i64 0, Value.bool false] 48)).alloc (Obj.cells (flatT tb) 48)) (w.heap.size + 1 + 1) tb by
    have := tbAt_new ((w.alloc (Obj.cells #[Value.string s] 9)).alloc (Obj.cells #[Value.string { data := #[] }, Value.int IntKind.i64 0, Value.bool false] 48)) tb
    simpa using this)
  have hmf : ∀ (fn : Fn) (first cap : Array Value) (w : World), (Instr.makeFunc fn first cap).run Tryz.prog w = .ok (.func fn first cap) w := fun _ _ _ _ => rfl
  clear hc hn hix f1 f2 f3 g
  go_enter Tryz.func16, Tryz.ntmps16
  go_wp2_with (first
    | (go_at_call 31; refine (HC.out _).mono ?_; rintro e w' ⟨rfl, rfl⟩)
    | (go_at_call 69
       refine (indexc_row (w.heap.size + 1 + 1) w.heap.size tb s _ HN.out (by rw [heap_cell K1.out]; rfl) K3.out).mono ?_
       rintro e w3 ⟨rfl, hf⟩
       rw [HI.out]
       have HF := Lib.hid (K0.out.trans hf (fun _ _ h => h))
       have HR := Lib.hid (hf.heap K2.out id)
       have HT3 := Lib.hid (K3.out.fr hf)
       have c0 : w3.cell? ⟨w.heap.size + 1, 0, none⟩ = some (.string ⟨#[]⟩) := by rw [heap_cell HR.out]; rfl
       have c1 : w3.cell? ⟨w.heap.size + 1, 1, none⟩ = some (.int .i64 0) := by rw [heap_cell HR.out]; rfl
       have c2 : w3.cell? ⟨w.heap.size + 1, 2, none⟩ = some (.bool false) := by rw [heap_cell HR.out]; rfl
       have z0 : w3.frozen? ⟨w.heap.size + 1, 0, none⟩ = false := heap_frozen HR.out 0
       have z1 : w3.frozen? ⟨w.heap.size + 1, 1, none⟩ = false := heap_frozen HR.out 1
       have z2 : w3.frozen? ⟨w.heap.size + 1, 2, none⟩ = false := heap_frozen HR.out 2
       clear hf))
  have HW : (((w3.setCell ⟨w.heap.size + 1, 0, none⟩ (.string ⟨#[]⟩)).setCell ⟨w.heap.size + 1, 1, none⟩ (.int .i64 0)).setCell ⟨w.heap.size + 1, 2, none⟩ (.bool false)).heap[w.heap.size + 1]? = some (.cells #[(.string ⟨#[]⟩), (.int .i64 0), (.bool false)] 48 (0, 0)) := by
    have := heap_setCell (heap_setCell (heap_setCell HR.out 0 (.string ⟨#[]⟩)) 1 (.int .i64 0)) 2 (.bool false)
    simpa using this
  have HX := Lib.hid (show Fr (fun _ => False) w (((w3.setCell ⟨w.heap.size + 1, 0, none⟩ (.string ⟨#[]⟩)).setCell ⟨w.heap.size + 1, 1, none⟩ (.int .i64 0)).setCell ⟨w.heap.size + 1, 2, none⟩ (.bool false)) from
    ((HF.out.trans (Fr.setCell (fun k => k = w.heap.size + 1) _ ⟨w.heap.size + 1, 0, none⟩ _ rfl) (fun i hi h => by omega)).trans (Fr.setCell (fun k => k = w.heap.size + 1) _ ⟨w.heap.size + 1, 1, none⟩ _ rfl) (fun i hi h => by omega)).trans (Fr.setCell (fun k => k = w.heap.size + 1) _ ⟨w.heap.size + 1, 2, none⟩ _ rfl) (fun i hi h => by omega))
  generalize ((w3.setCell ⟨w.heap.size + 1, 0, none⟩ (.string ⟨#[]⟩)).setCell ⟨w.heap.size + 1, 1, none⟩ (.int .i64 0)).setCell ⟨w.heap.size + 1, 2, none⟩ (.bool false) = w4 at HW HX ⊢
  have d0 : w4.cell? ⟨w.heap.size + 1, 0, none⟩ = some (.string ⟨#[]⟩) := by rw [heap_cell HW]; rfl
  have d1 : w4.cell? ⟨w.heap.size + 1, 1, none⟩ = some (.int .i64 0) := by rw [heap_cell HW]; rfl
  have d2 : w4.cell? ⟨w.heap.size + 1, 2, none⟩ = some (.bool false) := by rw [heap_cell HW]; rfl
  refine bodyPost_ret (v := .tuple #[.agg #[(.string ⟨#[]⟩), (.int .i64 0), (.bool false)], .bool false]) ?_ rfl ⟨rfl, HX.out⟩
  simp [results, Tryz.results16, go_sem, d0, d1, d2, Result.andThen]
set_option maxHeartbeats 1000000 in
theorem callOf_yes (cls s : ByteArray) (tb : List CallT) (hc : CallsOf cls tb) (hn : tb.length ≤ 100) (k : Nat) (t : CallT) (ht : tb[k]? = some t) (hix : tbIx s tb = k) (w : World) :
    Calls Tryz.prog 16 #[.string cls, .string s] w fun e w' => e = .returned (.tuple #[.agg #[.string t.1, .int .i64 t.2.1, .bool t.2.2], .bool true]) ∧ Fr (fun _ => False) w w' := by
  have HC := Lib.hid hc
  have HN := Lib.hid hn
  have HI := Lib.hid hix
  have hk : k < tb.length := by
    rcases Nat.lt_or_ge k tb.length with h' | h'
    · exact h'
    · rw [List.getElem?_eq_none h'] at ht; cases ht
  have hl : (tb.length : Int) ≤ 100 := by omega
  have HT := Lib.hid ht
  clear ht
  have g : ∀ (u : World) (o : Obj) (n : Nat), u.heap.size = n → (u.alloc o).heap[n]? = some o := fun u o n h => by subst h; exact heap_alloc_new u o
  have f1 := Fr.alloc (fun _ => False) w (Obj.cells #[Value.string s] 9)
  have f2 := Fr.alloc (fun _ => False) (w.alloc (Obj.cells #[Value.string s] 9)) (Obj.cells #[Value.string { data := #[] }, Value.int IntKind.i64 0, Value.bool false] 48)
  have f3 := Fr.alloc (fun _ => False) ((w.alloc (Obj.cells #[Value.string s] 9)).alloc (Obj.cells #[Value.string { data := #[] }, Value.int IntKind.i64 0, Value.bool false] 48)) (Obj.cells (flatT tb) 48)
  have K0 := Lib.hid ((f1.trans f2 (fun _ _ h => h)).trans f3 (fun _ _ h => h))
  have K1 := Lib.hid (f3.heap (f2.heap (g w (Obj.cells #[Value.string s] 9) _ rfl) id) id)
  have K2 := Lib.hid (f3.heap (g _ (Obj.cells #[Value.string { data := #[] }, Value.int IntKind.i64 0, Value.bool false] 48) (w.heap.size + 1) (by simp)) id)
  have K3 := Lib.hid (show TbAt (((w.alloc (Obj.cells #[Value.string s] 9)).alloc (Obj.cells #[Value.string { data := #[] }, Value.int IntKind.i64 0, Value.bool false] 48)).alloc (Obj.cells (flatT tb) 48)) (w.heap.size + 1 + 1) tb by
    have := tbAt_new ((w.alloc (Obj.cells #[Value.string s] 9)).alloc (Obj.cells #[Value.string { data := #[] }, Value.int IntKind.i64 0, Value.bool false] 48)) tb
    simpa using this)
  have hmf : ∀ (fn : Fn) (first cap : Array Value) (w : World), (Instr.makeFunc fn first cap).run Tryz.prog w = .ok (.func fn first cap) w := fun _ _ _ _ => rfl
  clear hc hn hix f1 f2 f3 g
  go_enter Tryz.func16, Tryz.ntmps16
  go_wp2_with (first
    | (go_at_call 31; refine (HC.out _).mono ?_; rintro e w' ⟨rfl, rfl⟩)
    | (go_at_call 69
       refine (indexc_row (w.heap.size + 1 + 1) w.heap.size tb s _ HN.out (by rw [heap_cell K1.out]; rfl) K3.out).mono ?_
       rintro e w3 ⟨rfl, hf⟩
       rw [HI.out]
       have HF := Lib.hid (K0.out.trans hf (fun _ _ h => h))
       have HR := Lib.hid (hf.heap K2.out id)
       have HT3 := Lib.hid (K3.out.fr hf)
       have c0 : w3.cell? ⟨w.heap.size + 1, 0, none⟩ = some (.string ⟨#[]⟩) := by rw [heap_cell HR.out]; rfl
       have c1 : w3.cell? ⟨w.heap.size + 1, 1, none⟩ = some (.int .i64 0) := by rw [heap_cell HR.out]; rfl
       have c2 : w3.cell? ⟨w.heap.size + 1, 2, none⟩ = some (.bool false) := by rw [heap_cell HR.out]; rfl
       have z0 : w3.frozen? ⟨w.heap.size + 1, 0, none⟩ = false := heap_frozen HR.out 0
       have z1 : w3.frozen? ⟨w.heap.size + 1, 1, none⟩ = false := heap_frozen HR.out 1
       have z2 : w3.frozen? ⟨w.heap.size + 1, 2, none⟩ = false := heap_frozen HR.out 2
       have t0 := (HT3.out k t HT.out).1
       have t1 := (HT3.out k t HT.out).2.1
       have t2 := (HT3.out k t HT.out).2.2
       clear hf))
  have HW : (((w3.setCell ⟨w.heap.size + 1, 0, none⟩ (.string t.1)).setCell ⟨w.heap.size + 1, 1, none⟩ (.int .i64 t.2.1)).setCell ⟨w.heap.size + 1, 2, none⟩ (.bool t.2.2)).heap[w.heap.size + 1]? = some (.cells #[(.string t.1), (.int .i64 t.2.1), (.bool t.2.2)] 48 (0, 0)) := by
    have := heap_setCell (heap_setCell (heap_setCell HR.out 0 (.string t.1)) 1 (.int .i64 t.2.1)) 2 (.bool t.2.2)
    simpa using this
  have HX := Lib.hid (show Fr (fun _ => False) w (((w3.setCell ⟨w.heap.size + 1, 0, none⟩ (.string t.1)).setCell ⟨w.heap.size + 1, 1, none⟩ (.int .i64 t.2.1)).setCell ⟨w.heap.size + 1, 2, none⟩ (.bool t.2.2)) from
    ((HF.out.trans (Fr.setCell (fun k => k = w.heap.size + 1) _ ⟨w.heap.size + 1, 0, none⟩ _ rfl) (fun i hi h => by omega)).trans (Fr.setCell (fun k => k = w.heap.size + 1) _ ⟨w.heap.size + 1, 1, none⟩ _ rfl) (fun i hi h => by omega)).trans (Fr.setCell (fun k => k = w.heap.size + 1) _ ⟨w.heap.size + 1, 2, none⟩ _ rfl) (fun i hi h => by omega))
  generalize ((w3.setCell ⟨w.heap.size + 1, 0, none⟩ (.string t.1)).setCell ⟨w.heap.size + 1, 1, none⟩ (.int .i64 t.2.1)).setCell ⟨w.heap.size + 1, 2, none⟩ (.bool t.2.2) = w4 at HW HX ⊢
  have d0 : w4.cell? ⟨w.heap.size + 1, 0, none⟩ = some (.string t.1) := by rw [heap_cell HW]; rfl
  have d1 : w4.cell? ⟨w.heap.size + 1, 1, none⟩ = some (.int .i64 t.2.1) := by rw [heap_cell HW]; rfl
  have d2 : w4.cell? ⟨w.heap.size + 1, 2, none⟩ = some (.bool t.2.2) := by rw [heap_cell HW]; rfl
  refine bodyPost_ret (v := .tuple #[.agg #[(.string t.1), (.int .i64 t.2.1), (.bool t.2.2)], .bool true]) ?_ rfl ⟨rfl, HX.out⟩
  simp [results, Tryz.results16, go_sem, d0, d1, d2, Result.andThen]
end Go.Proofs.YtpnbhoeghncnnaaGreatDoor
namespace Go.Proofs.YtpnbhoeghncnnaaGreatDoor
open Go.RowKit
def LibRow (ROW : Array Value) : Prop := (∃ s n c t, ROW[0]? = some (.string ⟨#[76, 73, 78, 75]⟩) ∧ ROW[1]? = some (.slice s n c) ∧ ROW[2]? = some (.string t)) ∧ (∃ s n c t, ROW[3]? = some (.string ⟨#[73, 78, 84, 83]⟩) ∧ ROW[4]? = some (.slice s n c) ∧ ROW[5]? = some (.string t)) ∧ (∃ s n c t, ROW[6]? = some (.string ⟨#[83, 79, 82, 84, 69, 68]⟩) ∧ ROW[7]? = some (.slice s n c) ∧ ROW[8]? = some (.string t)) ∧ (∃ s n c t, ROW[9]? = some (.string ⟨#[78, 79, 68, 69]⟩) ∧ ROW[10]? = some (.slice s n c) ∧ ROW[11]? = some (.string t)) ∧ (∃ s n c t, ROW[12]? = some (.string ⟨#[83, 84, 65, 67, 75]⟩) ∧ ROW[13]? = some (.slice s n c) ∧ ROW[14]? = some (.string t)) ∧ (∃ s n c t, ROW[15]? = some (.string ⟨#[81, 85, 69, 85, 69]⟩) ∧ ROW[16]? = some (.slice s n c) ∧ ROW[17]? = some (.string t)) ∧ (∃ s n c t, ROW[18]? = some (.string ⟨#[69, 78, 84, 82, 89]⟩) ∧ ROW[19]? = some (.slice s n c) ∧ ROW[20]? = some (.string t)) ∧ (∃ s n c t, ROW[21]? = some (.string ⟨#[84, 65, 66, 76, 69]⟩) ∧ ROW[22]? = some (.slice s n c) ∧ ROW[23]? = some (.string t)) ∧ (∃ s n c t, ROW[24]? = some (.string ⟨#[83, 69, 84]⟩) ∧ ROW[25]? = some (.slice s n c) ∧ ROW[26]? = some (.string t)) ∧ (∃ s n c t, ROW[27]? = some (.string ⟨#[67, 79, 85, 78, 84, 69, 82]⟩) ∧ ROW[28]? = some (.slice s n c) ∧ ROW[29]? = some (.string t)) ∧ (∃ s n c t, ROW[30]? = some (.string ⟨#[82, 65, 78, 71, 69]⟩) ∧ ROW[31]? = some (.slice s n c) ∧ ROW[32]? = some (.string t)) ∧ (∃ s n c t, ROW[33]? = some (.string ⟨#[65, 82, 73, 84, 72]⟩) ∧ ROW[34]? = some (.slice s n c) ∧ ROW[35]? = some (.string t))
set_option maxRecDepth 100000 in
set_option maxHeartbeats 4000000 in
theorem library_any (w : World) : Calls Tryz.prog 85 #[] w fun e w' => ∃ g ROW, e = .returned (.slice (some ⟨g, 0, none⟩) 12 12) ∧ w'.heap[g]? = some (.cells ROW 61 (0, 0)) ∧ LibRow ROW ∧ (∃ gs, ROW[25]? = some (.slice (some ⟨gs, 0, none⟩) 2 2) ∧ w'.heap[gs]? = some (.cells #[.string ⟨#[76, 73, 78, 75]⟩, .string ⟨#[73, 78, 84, 83]⟩] 9 (0, 0))) ∧ Fr (fun _ => False) w w' := by
  have g : ∀ (u : World) (o : Obj) (n : Nat), u.heap.size = n → (u.alloc o).heap[n]? = some o := fun u o n h => by subst h; exact heap_alloc_new u o
  have HG := Lib.hid g
  clear g
  go_enter Tryz.func85, Tryz.ntmps85
  go_wp2
  go_ret
  refine ⟨_, _, rfl, HG.out _ _ _ (by simp), ?_, ⟨_, rfl, (Fr.alloc (fun _ => False) _ _).heap (HG.out _ _ _ (by simp)) id⟩, ?_⟩
  · exact ⟨⟨_, _, _, _, rfl, rfl, rfl⟩, ⟨_, _, _, _, rfl, rfl, rfl⟩, ⟨_, _, _, _, rfl, rfl, rfl⟩, ⟨_, _, _, _, rfl, rfl, rfl⟩, ⟨_, _, _, _, rfl, rfl, rfl⟩, ⟨_, _, _, _, rfl, rfl, rfl⟩, ⟨_, _, _, _, rfl, rfl, rfl⟩, ⟨_, _, _, _, rfl, rfl, rfl⟩, ⟨_, _, _, _, rfl, rfl, rfl⟩, ⟨_, _, _, _, rfl, rfl, rfl⟩, ⟨_, _, _, _, rfl, rfl, rfl⟩, ⟨_, _, _, _, rfl, rfl, rfl⟩⟩
  · exact ((((((Fr.alloc _ _ _).trans (Fr.alloc _ _ _) (fun _ _ h => h)).trans (Fr.alloc _ _ _) (fun _ _ h => h)).trans (Fr.alloc _ _ _) (fun _ _ h => h)).trans (Fr.alloc _ _ _) (fun _ _ h => h)).trans (Fr.alloc _ _ _) (fun _ _ h => h)).trans (Fr.alloc _ _ _) (fun _ _ h => h)
end Go.Proofs.YtpnbhoeghncnnaaGreatDoor
namespace Go.Proofs.YtpnbhoeghncnnaaGreatDoor
open Go.RowKit
theorem found1_any (B : Nat) (s nm t : ByteArray) (so : Option Addr) (n c : Nat) (w : World) (hB : w.cell? ⟨B, 0, none⟩ = some (.string s)) :
    Calls Tryz.prog 87 #[.agg #[.string nm, .slice so n c, .string t], .pointer (some ⟨B, 0, none⟩)] w fun e w' => e = .returned (.bool (nm.toList == s.toList)) ∧ Fr (fun _ => False) w w' := by
  have hlt := World.block_lt_of_cell? w _ hB
  go_enter Tryz.func87, Tryz.ntmps87
  go_wp2
  go_ret
  exact ⟨rfl, Fr.alloc _ _ _⟩
def nmIx (s : ByteArray) (tb : List ByteArray) : Int := match tb.findIdx? (fun t => t.toList == s.toList) with | some i => (i : Int) | none => -1
/-- The row of the items lies at g. -/
def ItAt (w : World) (g : Nat) (tb : List ByteArray) : Prop :=
  ∀ j x, tb[j]? = some x → ∃ so n c t, w.cell? ⟨g, j * 3, none⟩ = some (.string x) ∧ w.cell? ⟨g, j * 3 + 1, none⟩ = some (.slice so n c) ∧ w.cell? ⟨g, j * 3 + 2, none⟩ = some (.string t)
theorem ItAt.fr {w w' : World} {g : Nat} {tb : List ByteArray} (h : ItAt w g tb) (hf : Fr (fun _ => False) w w') : ItAt w' g tb := fun j x hj => by
  obtain ⟨so, n, c, t, h1, h2, h3⟩ := h j x hj
  exact ⟨so, n, c, t, hf.cell h1 id, hf.cell h2 id, hf.cell h3 id⟩
theorem nmIx_at {s : ByteArray} {tb : List ByteArray} {k : Nat} {t : ByteArray} (hy : tb[k]? = some t) (hp : (t.toList == s.toList) = true) (hb : ∀ j z, j < k → tb[j]? = some z → (z.toList == s.toList) = false) : nmIx s tb = k := by
  have hk : k < tb.length := by
    rcases Nat.lt_or_ge k tb.length with h' | h'
    · exact h'
    · rw [List.getElem?_eq_none h'] at hy; cases hy
  have : tb.findIdx? (fun t => t.toList == s.toList) = some k := by
    rw [List.findIdx?_eq_some_iff_getElem]
    refine ⟨hk, by rw [List.getElem?_eq_getElem hk] at hy; cases hy; exact hp, fun j hj => ?_⟩
    rw [hb j _ hj (List.getElem?_eq_getElem (by omega))]; decide
  rw [nmIx, this]
theorem nmIx_no {s : ByteArray} {tb : List ByteArray} (hb : ∀ j z, j < tb.length → tb[j]? = some z → (z.toList == s.toList) = false) : nmIx s tb = -1 := by
  have : tb.findIdx? (fun t => t.toList == s.toList) = none := by
    rw [List.findIdx?_eq_none_iff]
    intro x hx
    obtain ⟨j, hj, rfl⟩ := List.mem_iff_getElem.1 hx
    exact hb j _ hj (List.getElem?_eq_getElem hj)
  rw [nmIx, this]
set_option maxHeartbeats 1000000 in
theorem indexi_row (g B : Nat) (tb : List ByteArray) (s : ByteArray) (w : World) (hn : tb.length = 12) (hB : w.cell? ⟨B, 0, none⟩ = some (.string s)) (hc : ItAt w g tb) :
    Calls Tryz.prog 86 #[.slice (some ⟨g, 0, none⟩) 12 12, .func (.func 87) #[] #[.pointer (some ⟨B, 0, none⟩)]] w fun e w' => e = .returned (.int .i64 (nmIx s tb)) ∧ Fr (fun _ => False) w w' := by
  have HC := Lib.hid hc
  have HN := Lib.hid hn
  have HB0 := Lib.hid hB
  clear hc hn hB
  go_enter Tryz.func86, Tryz.ntmps86
  go_wp2
  go_loopw [8] (fun a wr => ∃ k : Nat, a = .int .i64 k ∧ k ≤ 12 ∧ (∀ j z, j < k → tb[j]? = some z → (z.toList == s.toList) = false) ∧ Fr (fun _ => False) w wr) (fun a _ => 12 - (intOf a).toNat)
  case atStart => exact ⟨0, rfl, by omega, fun j z h => by omega, Fr.refl _ _⟩
  case round =>
    obtain ⟨k, rfl, hk, hb, hf⟩ := hrel
    have HB := Lib.hid hb
    have HF := Lib.hid hf
    clear hb hf
    by_cases hlt : k < 12
    · obtain ⟨t, ht⟩ : ∃ t, tb[k]? = some t := ⟨_, List.getElem?_eq_getElem (by rw [HN.out]; exact hlt)⟩
      obtain ⟨so, n, c, tx, c0, c1, c2⟩ := HC.out.fr HF.out k t ht
      have HY := Lib.hid ht
      clear ht
      cases hd : (t.toList == s.toList) with
      | true =>
        have HD := Lib.hid hd
        clear hd
        go_wp2_with (go_at_call 87; refine (found1_any _ s t tx so n c _ (HF.out.cell HB0.out id)).mono ?_; rintro e w' ⟨rfl, hf⟩; rw [HD.out]; have HF2 := Lib.hid hf; clear hf)
        go_ret
        exact ⟨by rw [nmIx_at HY.out HD.out HB.out]; rfl, HF.out.trans HF2.out (fun _ _ h => h)⟩
      | false =>
        have HD := Lib.hid hd
        clear hd
        go_wp2_with (go_at_call 87; refine (found1_any _ s t tx so n c _ (HF.out.cell HB0.out id)).mono ?_; rintro e w' ⟨rfl, hf⟩; rw [HD.out]; have HF2 := Lib.hid hf; clear hf)
        go_roundw
        case rel => exact ⟨k + 1, by go_num, by omega, fun j z hj hz => by
          rcases Nat.lt_or_ge j k with h | h
          · exact HB.out j z h hz
          · obtain rfl : j = k := by omega
            rw [HY.out] at hz; cases hz; exact HD.out, HF.out.trans HF2.out (fun _ _ h => h)⟩
        case measure => simp [intOf]; omega
    · obtain rfl : k = 12 := by omega
      go_wp2
      go_ret
      exact ⟨by rw [nmIx_no (by rw [HN.out]; exact HB.out)]; rfl, HF.out⟩
end Go.Proofs.YtpnbhoeghncnnaaGreatDoor
namespace Go.Proofs.YtpnbhoeghncnnaaGreatDoor
open Go.RowKit
def names12 : List ByteArray := [⟨#[76, 73, 78, 75]⟩, ⟨#[73, 78, 84, 83]⟩, ⟨#[83, 79, 82, 84, 69, 68]⟩, ⟨#[78, 79, 68, 69]⟩, ⟨#[83, 84, 65, 67, 75]⟩, ⟨#[81, 85, 69, 85, 69]⟩, ⟨#[69, 78, 84, 82, 89]⟩, ⟨#[84, 65, 66, 76, 69]⟩, ⟨#[83, 69, 84]⟩, ⟨#[67, 79, 85, 78, 84, 69, 82]⟩, ⟨#[82, 65, 78, 71, 69]⟩, ⟨#[65, 82, 73, 84, 72]⟩]
theorem libRow_at {w : World} {g : Nat} {ROW : Array Value} (h : w.heap[g]? = some (.cells ROW 61 (0, 0))) (hr : LibRow ROW) : ItAt w g names12 := by
  obtain ⟨h0, h1, h2, h3, h4, h5, h6, h7, h8, h9, h10, h11⟩ := hr
  intro j x hj
  have key : ∀ (k : Nat) (y : ByteArray), (∃ s n c t, ROW[k * 3]? = some (.string y) ∧ ROW[k * 3 + 1]? = some (.slice s n c) ∧ ROW[k * 3 + 2]? = some (.string t)) →
      ∃ so n c t, w.cell? ⟨g, k * 3, none⟩ = some (.string y) ∧ w.cell? ⟨g, k * 3 + 1, none⟩ = some (.slice so n c) ∧ w.cell? ⟨g, k * 3 + 2, none⟩ = some (.string t) := by
    rintro k y ⟨s, n, c, t, a1, a2, a3⟩
    exact ⟨s, n, c, t, by rw [heap_cell h]; exact a1, by rw [heap_cell h]; exact a2, by rw [heap_cell h]; exact a3⟩
  match j, hj with
  | 0, hj => cases hj; exact key 0 _ h0
  | 1, hj => cases hj; exact key 1 _ h1
  | 2, hj => cases hj; exact key 2 _ h2
  | 3, hj => cases hj; exact key 3 _ h3
  | 4, hj => cases hj; exact key 4 _ h4
  | 5, hj => cases hj; exact key 5 _ h5
  | 6, hj => cases hj; exact key 6 _ h6
  | 7, hj => cases hj; exact key 7 _ h7
  | 8, hj => cases hj; exact key 8 _ h8
  | 9, hj => cases hj; exact key 9 _ h9
  | 10, hj => cases hj; exact key 10 _ h10
  | 11, hj => cases hj; exact key 11 _ h11
  | n + 12, hj => simp [names12] at hj
end Go.Proofs.YtpnbhoeghncnnaaGreatDoor
namespace Go.Proofs.YtpnbhoeghncnnaaGreatDoor
open Go.RowKit
set_option maxHeartbeats 1000000 in
theorem found_no (s : ByteArray) (hix : nmIx s names12 = -1) (w : World) :
    Calls Tryz.prog 27 #[.string s] w fun e w' => e = .returned (.tuple #[.agg #[.string ⟨#[]⟩, .slice none 0 0, .string ⟨#[]⟩], .bool false]) ∧ Fr (fun _ => False) w w' := by
  have HI := Lib.hid hix
  have g : ∀ (u : World) (o : Obj) (n : Nat), u.heap.size = n → (u.alloc o).heap[n]? = some o := fun u o n h => by subst h; exact heap_alloc_new u o
  have f1 := Fr.alloc (fun _ => False) w (Obj.cells #[Value.string s] 9)
  have f2 := Fr.alloc (fun _ => False) (w.alloc (Obj.cells #[Value.string s] 9)) (Obj.cells #[Value.string { data := #[] }, Value.slice none 0 0, Value.string { data := #[] }] 61)
  have K0 := Lib.hid (f1.trans f2 (fun _ _ h => h))
  have K1 := Lib.hid (f2.heap (g w (Obj.cells #[Value.string s] 9) _ rfl) id)
  have K2 := Lib.hid (g (w.alloc (Obj.cells #[Value.string s] 9)) (Obj.cells #[Value.string { data := #[] }, Value.slice none 0 0, Value.string { data := #[] }] 61) (w.heap.size + 1) (by simp))
  have hmf : ∀ (fn : Fn) (first cap : Array Value) (w : World), (Instr.makeFunc fn first cap).run Tryz.prog w = .ok (.func fn first cap) w := fun _ _ _ _ => rfl
  clear hix f1 f2 g
  go_enter Tryz.func27, Tryz.ntmps27
  go_wp2_with (first
    | (go_at_call 85
       refine (library_any _).mono ?_
       rintro e w2 ⟨gr, ROW, rfl, hrow, hlib, hgs, hf⟩
       have L0 := Lib.hid (K0.out.trans hf (fun _ _ h => h))
       have L1 := Lib.hid (hf.heap K1.out id)
       have L2 := Lib.hid (hf.heap K2.out id)
       have L3 := Lib.hid (libRow_at hrow hlib)
       have L4 := Lib.hid (And.intro hrow hgs)
       clear hrow hlib hgs hf)
    | (go_at_call 86
       refine (indexi_row _ w.heap.size names12 s _ rfl (by rw [heap_cell L1.out]; rfl) L3.out).mono ?_
       rintro e w3 ⟨rfl, hf⟩
       rw [HI.out]
       have HF := Lib.hid (L0.out.trans hf (fun _ _ h => h))
       have HR := Lib.hid (hf.heap L2.out id)
       have HT3 := Lib.hid (L3.out.fr hf)
       have HQ := Lib.hid hf
       have c0 : w3.cell? ⟨w.heap.size + 1, 0, none⟩ = some (.string ⟨#[]⟩) := by rw [heap_cell HR.out]; rfl
       have c1 : w3.cell? ⟨w.heap.size + 1, 1, none⟩ = some (.slice none 0 0) := by rw [heap_cell HR.out]; rfl
       have c2 : w3.cell? ⟨w.heap.size + 1, 2, none⟩ = some (.string ⟨#[]⟩) := by rw [heap_cell HR.out]; rfl
       have z0 : w3.frozen? ⟨w.heap.size + 1, 0, none⟩ = false := heap_frozen HR.out 0
       have z1 : w3.frozen? ⟨w.heap.size + 1, 1, none⟩ = false := heap_frozen HR.out 1
       have z2 : w3.frozen? ⟨w.heap.size + 1, 2, none⟩ = false := heap_frozen HR.out 2
       clear hf))
  have HW : (((w3.setCell ⟨w.heap.size + 1, 0, none⟩ (.string ⟨#[]⟩)).setCell ⟨w.heap.size + 1, 1, none⟩ (.slice none 0 0)).setCell ⟨w.heap.size + 1, 2, none⟩ (.string ⟨#[]⟩)).heap[w.heap.size + 1]? = some (.cells #[(.string ⟨#[]⟩), (.slice none 0 0), (.string ⟨#[]⟩)] 61 (0, 0)) := by
    have := heap_setCell (heap_setCell (heap_setCell HR.out 0 (.string ⟨#[]⟩)) 1 (.slice none 0 0)) 2 (.string ⟨#[]⟩)
    simpa using this
  have HS := Lib.hid (((Fr.setCell (fun k => k = w.heap.size + 1) w3 ⟨w.heap.size + 1, 0, none⟩ (.string ⟨#[]⟩) rfl).trans (Fr.setCell (fun k => k = w.heap.size + 1) _ ⟨w.heap.size + 1, 1, none⟩ (.slice none 0 0) rfl) (fun _ _ h => h)).trans (Fr.setCell (fun k => k = w.heap.size + 1) _ ⟨w.heap.size + 1, 2, none⟩ (.string ⟨#[]⟩) rfl) (fun _ _ h => h))
  generalize ((w3.setCell ⟨w.heap.size + 1, 0, none⟩ (.string ⟨#[]⟩)).setCell ⟨w.heap.size + 1, 1, none⟩ (.slice none 0 0)).setCell ⟨w.heap.size + 1, 2, none⟩ (.string ⟨#[]⟩) = w4 at HW HS ⊢
  have HX := Lib.hid (HF.out.trans HS.out (fun i hi h => by omega))
  have d0 : w4.cell? ⟨w.heap.size + 1, 0, none⟩ = some (.string ⟨#[]⟩) := by rw [heap_cell HW]; rfl
  have d1 : w4.cell? ⟨w.heap.size + 1, 1, none⟩ = some (.slice none 0 0) := by rw [heap_cell HW]; rfl
  have d2 : w4.cell? ⟨w.heap.size + 1, 2, none⟩ = some (.string ⟨#[]⟩) := by rw [heap_cell HW]; rfl
  refine bodyPost_ret (v := .tuple #[.agg #[(.string ⟨#[]⟩), (.slice none 0 0), (.string ⟨#[]⟩)], .bool false]) ?_ rfl ⟨rfl, HX.out⟩
  simp [results, Tryz.results27, go_sem, d0, d1, d2, Result.andThen]
set_option maxHeartbeats 1000000 in
theorem found_yes (s : ByteArray) (k : Nat) (x : ByteArray) (ht : names12[k]? = some x) (hix : nmIx s names12 = k) (w : World) :
    Calls Tryz.prog 27 #[.string s] w fun e w' => ∃ so n c t, e = .returned (.tuple #[.agg #[.string x, .slice so n c, .string t], .bool true]) ∧ (k = 8 → ∃ gs, so = some ⟨gs, 0, none⟩ ∧ n = 2 ∧ c = 2 ∧ w'.heap[gs]? = some (.cells #[.string ⟨#[76, 73, 78, 75]⟩, .string ⟨#[73, 78, 84, 83]⟩] 9 (0, 0))) ∧ Fr (fun _ => False) w w' := by
  have HI := Lib.hid hix
  have hk : k < 12 := by
    rcases Nat.lt_or_ge k 12 with h' | h'
    · exact h'
    · rw [List.getElem?_eq_none (by simpa [names12] using h')] at ht; cases ht
  have HT := Lib.hid ht
  clear ht
  have g : ∀ (u : World) (o : Obj) (n : Nat), u.heap.size = n → (u.alloc o).heap[n]? = some o := fun u o n h => by subst h; exact heap_alloc_new u o
  have f1 := Fr.alloc (fun _ => False) w (Obj.cells #[Value.string s] 9)
  have f2 := Fr.alloc (fun _ => False) (w.alloc (Obj.cells #[Value.string s] 9)) (Obj.cells #[Value.string { data := #[] }, Value.slice none 0 0, Value.string { data := #[] }] 61)
  have K0 := Lib.hid (f1.trans f2 (fun _ _ h => h))
  have K1 := Lib.hid (f2.heap (g w (Obj.cells #[Value.string s] 9) _ rfl) id)
  have K2 := Lib.hid (g (w.alloc (Obj.cells #[Value.string s] 9)) (Obj.cells #[Value.string { data := #[] }, Value.slice none 0 0, Value.string { data := #[] }] 61) (w.heap.size + 1) (by simp))
  have hmf : ∀ (fn : Fn) (first cap : Array Value) (w : World), (Instr.makeFunc fn first cap).run Tryz.prog w = .ok (.func fn first cap) w := fun _ _ _ _ => rfl
  clear hix f1 f2 g
  go_enter Tryz.func27, Tryz.ntmps27
  go_wp2_with (first
    | (go_at_call 85
       refine (library_any _).mono ?_
       rintro e w2 ⟨gr, ROW, rfl, hrow, hlib, hgs, hf⟩
       have L0 := Lib.hid (K0.out.trans hf (fun _ _ h => h))
       have L1 := Lib.hid (hf.heap K1.out id)
       have L2 := Lib.hid (hf.heap K2.out id)
       have L3 := Lib.hid (libRow_at hrow hlib)
       have L4 := Lib.hid (And.intro hrow hgs)
       clear hrow hlib hgs hf)
    | (go_at_call 86
       refine (indexi_row _ w.heap.size names12 s _ rfl (by rw [heap_cell L1.out]; rfl) L3.out).mono ?_
       rintro e w3 ⟨rfl, hf⟩
       rw [HI.out]
       have HF := Lib.hid (L0.out.trans hf (fun _ _ h => h))
       have HR := Lib.hid (hf.heap L2.out id)
       have HT3 := Lib.hid (L3.out.fr hf)
       have HQ := Lib.hid hf
       have c0 : w3.cell? ⟨w.heap.size + 1, 0, none⟩ = some (.string ⟨#[]⟩) := by rw [heap_cell HR.out]; rfl
       have c1 : w3.cell? ⟨w.heap.size + 1, 1, none⟩ = some (.slice none 0 0) := by rw [heap_cell HR.out]; rfl
       have c2 : w3.cell? ⟨w.heap.size + 1, 2, none⟩ = some (.string ⟨#[]⟩) := by rw [heap_cell HR.out]; rfl
       have z0 : w3.frozen? ⟨w.heap.size + 1, 0, none⟩ = false := heap_frozen HR.out 0
       have z1 : w3.frozen? ⟨w.heap.size + 1, 1, none⟩ = false := heap_frozen HR.out 1
       have z2 : w3.frozen? ⟨w.heap.size + 1, 2, none⟩ = false := heap_frozen HR.out 2
       obtain ⟨so, n, c, t, t0, t1, t2⟩ := HT3.out k x HT.out
       have T1 := Lib.hid t1
       clear hf))
  have HW : (((w3.setCell ⟨w.heap.size + 1, 0, none⟩ (.string x)).setCell ⟨w.heap.size + 1, 1, none⟩ (.slice so n c)).setCell ⟨w.heap.size + 1, 2, none⟩ (.string t)).heap[w.heap.size + 1]? = some (.cells #[(.string x), (.slice so n c), (.string t)] 61 (0, 0)) := by
    have := heap_setCell (heap_setCell (heap_setCell HR.out 0 (.string x)) 1 (.slice so n c)) 2 (.string t)
    simpa using this
  have HS := Lib.hid (((Fr.setCell (fun k => k = w.heap.size + 1) w3 ⟨w.heap.size + 1, 0, none⟩ (.string x) rfl).trans (Fr.setCell (fun k => k = w.heap.size + 1) _ ⟨w.heap.size + 1, 1, none⟩ (.slice so n c) rfl) (fun _ _ h => h)).trans (Fr.setCell (fun k => k = w.heap.size + 1) _ ⟨w.heap.size + 1, 2, none⟩ (.string t) rfl) (fun _ _ h => h))
  generalize ((w3.setCell ⟨w.heap.size + 1, 0, none⟩ (.string x)).setCell ⟨w.heap.size + 1, 1, none⟩ (.slice so n c)).setCell ⟨w.heap.size + 1, 2, none⟩ (.string t) = w4 at HW HS ⊢
  have HX := Lib.hid (HF.out.trans HS.out (fun i hi h => by omega))
  have d0 : w4.cell? ⟨w.heap.size + 1, 0, none⟩ = some (.string x) := by rw [heap_cell HW]; rfl
  have d1 : w4.cell? ⟨w.heap.size + 1, 1, none⟩ = some (.slice so n c) := by rw [heap_cell HW]; rfl
  have d2 : w4.cell? ⟨w.heap.size + 1, 2, none⟩ = some (.string t) := by rw [heap_cell HW]; rfl
  have HY := Lib.hid (show k = 8 → ∃ gs, so = some ⟨gs, 0, none⟩ ∧ n = 2 ∧ c = 2 ∧ w4.heap[gs]? = some (.cells #[.string ⟨#[76, 73, 78, 75]⟩, .string ⟨#[73, 78, 84, 83]⟩] 9 (0, 0)) from by
    rintro rfl
    obtain ⟨hrow, gs, h25, hgs⟩ := L4.out
    have h1 := T1.out
    rw [heap_cell (HQ.out.heap hrow id), h25] at h1
    cases h1
    exact ⟨gs, rfl, rfl, rfl, HS.out.heap (HQ.out.heap hgs id) (fun e => by rw [e] at hgs; have h' := L2.out; rw [hgs] at h'; cases h')⟩)
  refine bodyPost_ret (v := .tuple #[.agg #[(.string x), (.slice so n c), (.string t)], .bool true]) ?_ rfl ⟨so, n, c, t, rfl, HY.out, HX.out⟩
  simp [results, Tryz.results27, go_sem, d0, d1, d2, Result.andThen]
end Go.Proofs.YtpnbhoeghncnnaaGreatDoor
namespace Go.Proofs.YtpnbhoeghncnnaaGreatDoor
open Go.RowKit
/-- A call of a script: its name and its two numbers. -/
abbrev ScrT := ByteArray × Int × Int
def ScrAt (w : World) (so : Option Addr) (l : List ScrT) : Prop :=
  ∀ j x, l[j]? = some x → ∃ g o, so = some ⟨g, o, none⟩ ∧ w.cell? ⟨g, o + j * 3, none⟩ = some (.string x.1) ∧ w.cell? ⟨g, o + j * 3 + 1, none⟩ = some (.int .i64 x.2.1) ∧ w.cell? ⟨g, o + j * 3 + 2, none⟩ = some (.int .i64 x.2.2)
theorem ScrAt.fr {w w' : World} {so : Option Addr} {l : List ScrT} (h : ScrAt w so l) (hf : Fr (fun _ => False) w w') : ScrAt w' so l := fun j x hj => by
  obtain ⟨g, o, h0, h1, h2, h3⟩ := h j x hj
  exact ⟨g, o, h0, hf.cell h1 id, hf.cell h2 id, hf.cell h3 id⟩
/-- Whether a call does not fit a class. -/
def badF (tb : List CallT) (x : ScrT) : Bool :=
  match tb.findIdx? (fun t => t.1.toList == x.1.toList) with
  | none => true
  | some i => match tb[i]? with
    | none => true
    | some t => !inNum x.2.1 || !inNum x.2.2 || (decide (t.2.1 < 1) && x.2.1 != 0) || (decide (t.2.1 < 2) && x.2.2 != 0)
theorem check_name (cls : ByteArray) (so : Option Addr) (n c : Nat) (w : World) (hix : nmIx cls names12 = -1) :
    Calls Tryz.prog 14 #[.string cls, .slice so n c] w fun e w' => e = .returned (.int .i64 4) ∧ Fr (fun _ => False) w w' := by
  have HI := Lib.hid hix
  clear hix
  go_enter Tryz.func14, Tryz.ntmps14
  go_wp2_with (go_at_call 27; refine (found_no cls HI.out _).mono ?_; rintro e w' ⟨rfl, hf⟩; have HF := Lib.hid hf; clear hf)
  go_ret
  exact ⟨rfl, HF.out.trans (Fr.alloc _ _ _) (fun _ _ h => h)⟩
theorem check_none (cls : ByteArray) (so : Option Addr) (n c k : Nat) (x : ByteArray) (w : World) (ht : names12[k]? = some x) (hix : nmIx cls names12 = k)
    (hc : ∀ w, Calls Tryz.prog 31 #[.string cls] w fun e w' => e = .returned (.slice none 0 0) ∧ w' = w) :
    Calls Tryz.prog 14 #[.string cls, .slice so n c] w fun e w' => e = .returned (.int .i64 1) ∧ Fr (fun _ => False) w w' := by
  have HI := Lib.hid hix
  have HT := Lib.hid ht
  have HC := Lib.hid hc
  clear hix ht hc
  go_enter Tryz.func14, Tryz.ntmps14
  go_wp2_with (first
    | (go_at_call 27; refine (found_yes cls k x HT.out HI.out _).mono ?_; rintro e w' ⟨s0, n0, c0, t0, rfl, h8, hf⟩; have HF := Lib.hid hf; clear hf h8)
    | (go_at_call 31; refine (HC.out _).mono ?_; rintro e w' ⟨rfl, rfl⟩))
  go_ret
  exact ⟨rfl, HF.out.trans (Fr.alloc _ _ _) (fun _ _ h => h)⟩
theorem check_long (cls : ByteArray) (so : Option Addr) (n c k : Nat) (x : ByteArray) (tb : List CallT) (w : World) (ht : names12[k]? = some x) (hix : nmIx cls names12 = k)
    (hc : CallsOf cls tb) (h0 : (0 : Int) < (tb.length : Int)) (hn : (40 : Int) < (n : Int)) :
    Calls Tryz.prog 14 #[.string cls, .slice so n c] w fun e w' => e = .returned (.int .i64 3) ∧ Fr (fun _ => False) w w' := by
  have HI := Lib.hid hix
  have HT := Lib.hid ht
  have HC := Lib.hid hc
  clear hix ht hc
  go_enter Tryz.func14, Tryz.ntmps14
  go_wp2_with (first
    | (go_at_call 27; refine (found_yes cls k x HT.out HI.out _).mono ?_; rintro e w' ⟨s0, n0, c0, t0, rfl, h8, hf⟩; have HF := Lib.hid hf; clear hf h8)
    | (go_at_call 31; refine (HC.out _).mono ?_; rintro e w' ⟨rfl, rfl⟩))
  go_ret
  exact ⟨rfl, (HF.out.trans (Fr.alloc _ _ _) (fun _ _ h => h)).trans (Fr.alloc _ _ _) (fun _ _ h => h)⟩
end Go.Proofs.YtpnbhoeghncnnaaGreatDoor

/-
  A part of the proof of Rows.BaseModelsCardSaid (for every class and script BaseModels answers true, and its arguments read as they did; the listed library variables as the program text lays them): texts RA, RB, RC, RD, RE, RF, RG. By an AI agent.
-/
import Derived.Test.YtpnbhoeghncnnaaGreatDoorM07
import Derived.Deep.RegionLaw
import Derived.Outline
namespace Go.Proofs.YtpnbhoeghncnnaaGreatDoor
open Go.RowKit
def RMod (w : World) (b : Nat) (vL vK : Value) (lo hi : Int) (vO : Value) (f : Int) (lg : Bool) : Prop :=
  w.heap[b]? = some (.cells #[vL, vK, .int .i64 lo, .int .i64 hi, vO, .int .i64 f, .bool lg] 57 (0, 0))
theorem RMod.c0 {w : World} {b : Nat} {vL vK : Value} {lo hi : Int} {vO : Value} {f : Int} {lg : Bool} (h : RMod w b vL vK lo hi vO f lg) : w.cell? ⟨b, 0, none⟩ = some vL := by rw [heap_cell h]; rfl
theorem RMod.c1 {w : World} {b : Nat} {vL vK : Value} {lo hi : Int} {vO : Value} {f : Int} {lg : Bool} (h : RMod w b vL vK lo hi vO f lg) : w.cell? ⟨b, 1, none⟩ = some vK := by rw [heap_cell h]; rfl
theorem RMod.c2 {w : World} {b : Nat} {vL vK : Value} {lo hi : Int} {vO : Value} {f : Int} {lg : Bool} (h : RMod w b vL vK lo hi vO f lg) : w.cell? ⟨b, 2, none⟩ = some (.int .i64 lo) := by rw [heap_cell h]; rfl
theorem RMod.c3 {w : World} {b : Nat} {vL vK : Value} {lo hi : Int} {vO : Value} {f : Int} {lg : Bool} (h : RMod w b vL vK lo hi vO f lg) : w.cell? ⟨b, 3, none⟩ = some (.int .i64 hi) := by rw [heap_cell h]; rfl
theorem RMod.c4 {w : World} {b : Nat} {vL vK : Value} {lo hi : Int} {vO : Value} {f : Int} {lg : Bool} (h : RMod w b vL vK lo hi vO f lg) : w.cell? ⟨b, 4, none⟩ = some vO := by rw [heap_cell h]; rfl
theorem RMod.c5 {w : World} {b : Nat} {vL vK : Value} {lo hi : Int} {vO : Value} {f : Int} {lg : Bool} (h : RMod w b vL vK lo hi vO f lg) : w.cell? ⟨b, 5, none⟩ = some (.int .i64 f) := by rw [heap_cell h]; rfl
theorem RMod.c6 {w : World} {b : Nat} {vL vK : Value} {lo hi : Int} {vO : Value} {f : Int} {lg : Bool} (h : RMod w b vL vK lo hi vO f lg) : w.cell? ⟨b, 6, none⟩ = some (.bool lg) := by rw [heap_cell h]; rfl
theorem RMod.fz {w : World} {b : Nat} {vL vK : Value} {lo hi : Int} {vO : Value} {f : Int} {lg : Bool} (h : RMod w b vL vK lo hi vO f lg) (i : Nat) : w.frozen? ⟨b, i, none⟩ = false := heap_frozen h i
/-- The owners of the three lists lie behind B, apart. -/
structure Sep (B b : Nat) (oL oK oO : Option Nat) : Prop where
  b0 : B ≤ b
  l : ∀ g, oL = some g → B ≤ g ∧ g ≠ b ∧ oK ≠ some g ∧ oO ≠ some g
  k : ∀ g, oK = some g → B ≤ g ∧ g ≠ b ∧ oO ≠ some g
  o : ∀ g, oO = some g → B ≤ g ∧ g ≠ b
def RS (B : Nat) (w : World) (b : Nat) (L K : List Int) (lo hi : Int) (O : List Int) (f : Int) (lg : Bool) : Prop :=
  ∃ vL vK vO oL oK oO, RMod w b vL vK lo hi vO f lg ∧ Lst w vL oL L ∧ Lst w vK oK K ∧ Lst w vO oO O ∧ Sep B b oL oK oO
theorem RS.fr {F : Nat → Prop} {B : Nat} {w w' : World} {b : Nat} {L K : List Int} {lo hi : Int} {O : List Int} {f : Int} {lg : Bool} (h : RS B w b L K lo hi O f lg) (hf : Fr F w w') (hF : ∀ g, g < w.heap.size → B ≤ g → ¬ F g) : RS B w' b L K lo hi O f lg := by
  obtain ⟨vL, vK, vO, oL, oK, oO, hm, hl, hk, ho, hs⟩ := h
  exact ⟨vL, vK, vO, oL, oK, oO, hf.heap hm (hF b (heap_lt hm) hs.b0), hl.fr hf (fun g hg => hF g (hl.own_lt hg) (hs.l g hg).1), hk.fr hf (fun g hg => hF g (hk.own_lt hg) (hs.k g hg).1), ho.fr hf (fun g hg => hF g (ho.own_lt hg) (hs.o g hg).1), hs⟩
theorem RMod.set {w : World} {b : Nat} {vL vK : Value} {lo hi : Int} {vO : Value} {f : Int} {lg : Bool} (h : RMod w b vL vK lo hi vO f lg) (i : Nat) (v : Value) : (w.setCell ⟨b, i, none⟩ v).heap[b]? = some (.cells ((#[vL, vK, .int .i64 lo, .int .i64 hi, vO, .int .i64 f, .bool lg] : Array Value).setIfInBounds i v) 57 (0, 0)) := heap_setCell h i v
/-- A list comes to lie in the first cell. -/
theorem RS.setL {B : Nat} {w w1 : World} {b : Nat} {vL vK : Value} {lo hi : Int} {vO : Value} {f : Int} {lg : Bool} {oL oK oO : Option Nat} {L K O : List Int} (hm : RMod w b vL vK lo hi vO f lg) (_hl : Lst w vL oL L) (hk : Lst w vK oK K) (ho : Lst w vO oO O) (hs : Sep B b oL oK oO)
    {v' : Value} {own' : Option Nat} {L' : List Int} (hf : Fr (fun k => oL = some k) w w1) (hnew : New w oL own') (hl' : Lst w1 v' own' L') :
    RMod w1 b vL vK lo hi vO f lg ∧ RS B (w1.setCell ⟨b, 0, none⟩ v') b L' K lo hi O f lg ∧ Fr (fun k => B ≤ k) w (w1.setCell ⟨b, 0, none⟩ v') := by
  have hb0 := hs.b0
  have hm1 : RMod w1 b vL vK lo hi vO f lg := hf.heap hm (fun h => (hs.l b h).2.1 rfl)
  have hfs := Fr.setCell (fun k => k = b) w1 ⟨b, 0, none⟩ v' rfl
  have own'ne : ∀ g, own' = some g → B ≤ g ∧ g ≠ b ∧ oK ≠ some g ∧ oO ≠ some g := by
    intro g hg
    rcases hnew with h | h | ⟨g', h, hge⟩
    · exact hs.l g (by rw [← h]; exact hg)
    · rw [h] at hg; cases hg
    · rw [h] at hg; cases hg
      have hbl := heap_lt hm
      refine ⟨by omega, by omega, fun e => ?_, fun e => ?_⟩
      · have := hk.own_lt e; omega
      · have := ho.own_lt e; omega
  refine ⟨hm1, ⟨v', vK, vO, own', oK, oO, hm1.set 0 v', hl'.fr hfs (fun g hg e => (own'ne g hg).2.1 e), (hk.fr hf (fun g hg e => (hs.l g e).2.2.1 hg)).fr hfs (fun g hg e => (hs.k g hg).2.1 e), (ho.fr hf (fun g hg e => (hs.l g e).2.2.2 hg)).fr hfs (fun g hg e => (hs.o g hg).2 e), ⟨hb0, own'ne, hs.k, hs.o⟩⟩, ?_⟩
  exact (hf.mono (fun k e => (hs.l k e).1)).trans hfs (fun i _ e => by rw [e]; exact hb0)
theorem RS.setK {B : Nat} {w w1 : World} {b : Nat} {vL vK : Value} {lo hi : Int} {vO : Value} {f : Int} {lg : Bool} {oL oK oO : Option Nat} {L K O : List Int} (hm : RMod w b vL vK lo hi vO f lg) (hl : Lst w vL oL L) (_hk : Lst w vK oK K) (ho : Lst w vO oO O) (hs : Sep B b oL oK oO)
    {v' : Value} {own' : Option Nat} {K' : List Int} (hf : Fr (fun k => oK = some k) w w1) (hnew : New w oK own') (hl' : Lst w1 v' own' K') :
    RMod w1 b vL vK lo hi vO f lg ∧ RS B (w1.setCell ⟨b, 1, none⟩ v') b L K' lo hi O f lg ∧ Fr (fun k => B ≤ k) w (w1.setCell ⟨b, 1, none⟩ v') := by
  have hb0 := hs.b0
  have hm1 : RMod w1 b vL vK lo hi vO f lg := hf.heap hm (fun h => (hs.k b h).2.1 rfl)
  have hfs := Fr.setCell (fun k => k = b) w1 ⟨b, 1, none⟩ v' rfl
  have own'ne : ∀ g, own' = some g → B ≤ g ∧ g ≠ b ∧ oL ≠ some g ∧ oO ≠ some g := by
    intro g hg
    rcases hnew with h | h | ⟨g', h, hge⟩
    · have hk' := hs.k g (by rw [← h]; exact hg)
      exact ⟨hk'.1, hk'.2.1, fun e => (hs.l g e).2.2.1 (by rw [← h]; exact hg), hk'.2.2⟩
    · rw [h] at hg; cases hg
    · rw [h] at hg; cases hg
      have hbl := heap_lt hm
      refine ⟨by omega, by omega, fun e => ?_, fun e => ?_⟩
      · have := hl.own_lt e; omega
      · have := ho.own_lt e; omega
  refine ⟨hm1, ⟨vL, v', vO, oL, own', oO, hm1.set 1 v', (hl.fr hf (fun g hg e => (hs.l g hg).2.2.1 e)).fr hfs (fun g hg e => (hs.l g hg).2.1 e), hl'.fr hfs (fun g hg e => (own'ne g hg).2.1 e), (ho.fr hf (fun g hg e => (hs.k g e).2.2 hg)).fr hfs (fun g hg e => (hs.o g hg).2 e), ⟨hb0, fun g hg => ⟨(hs.l g hg).1, (hs.l g hg).2.1, fun e => (own'ne g e).2.2.1 hg, (hs.l g hg).2.2.2⟩, fun g hg => ⟨(own'ne g hg).1, (own'ne g hg).2.1, (own'ne g hg).2.2.2⟩, hs.o⟩⟩, ?_⟩
  exact (hf.mono (fun k e => (hs.k k e).1)).trans hfs (fun i _ e => by rw [e]; exact hb0)
theorem RS.setO {B : Nat} {w w1 : World} {b : Nat} {vL vK : Value} {lo hi : Int} {vO : Value} {f : Int} {lg : Bool} {oL oK oO : Option Nat} {L K O : List Int} (hm : RMod w b vL vK lo hi vO f lg) (hl : Lst w vL oL L) (hk : Lst w vK oK K) (_ho : Lst w vO oO O) (hs : Sep B b oL oK oO)
    {v' : Value} {own' : Option Nat} {O' : List Int} (hf : Fr (fun k => oO = some k) w w1) (hnew : New w oO own') (hl' : Lst w1 v' own' O') :
    RMod w1 b vL vK lo hi vO f lg ∧ RS B (w1.setCell ⟨b, 4, none⟩ v') b L K lo hi O' f lg ∧ Fr (fun k => B ≤ k) w (w1.setCell ⟨b, 4, none⟩ v') := by
  have hb0 := hs.b0
  have hm1 : RMod w1 b vL vK lo hi vO f lg := hf.heap hm (fun h => (hs.o b h).2 rfl)
  have hfs := Fr.setCell (fun k => k = b) w1 ⟨b, 4, none⟩ v' rfl
  have own'ne : ∀ g, own' = some g → B ≤ g ∧ g ≠ b ∧ oL ≠ some g ∧ oK ≠ some g := by
    intro g hg
    rcases hnew with h | h | ⟨g', h, hge⟩
    · have ho' := hs.o g (by rw [← h]; exact hg)
      exact ⟨ho'.1, ho'.2, fun e => (hs.l g e).2.2.2 (by rw [← h]; exact hg), fun e => (hs.k g e).2.2 (by rw [← h]; exact hg)⟩
    · rw [h] at hg; cases hg
    · rw [h] at hg; cases hg
      have hbl := heap_lt hm
      refine ⟨by omega, by omega, fun e => ?_, fun e => ?_⟩
      · have := hl.own_lt e; omega
      · have := hk.own_lt e; omega
  refine ⟨hm1, ⟨vL, vK, v', oL, oK, own', hm1.set 4 v', (hl.fr hf (fun g hg e => (hs.l g hg).2.2.2 e)).fr hfs (fun g hg e => (hs.l g hg).2.1 e), (hk.fr hf (fun g hg e => (hs.k g hg).2.2 e)).fr hfs (fun g hg e => (hs.k g hg).2.1 e), hl'.fr hfs (fun g hg e => (own'ne g hg).2.1 e), ⟨hb0, fun g hg => ⟨(hs.l g hg).1, (hs.l g hg).2.1, (hs.l g hg).2.2.1, fun e => (own'ne g e).2.2.1 hg⟩, fun g hg => ⟨(hs.k g hg).1, (hs.k g hg).2.1, fun e => (own'ne g e).2.2.2 hg⟩, fun g hg => ⟨(own'ne g hg).1, (own'ne g hg).2.1⟩⟩⟩, ?_⟩
  exact (hf.mono (fun k e => (hs.o k e).1)).trans hfs (fun i _ e => by rw [e]; exact hb0)
theorem RS.set2 {B : Nat} {w : World} {b : Nat} {L K : List Int} {lo hi : Int} {O : List Int} {f : Int} {lg : Bool} (h : RS B w b L K lo hi O f lg) (n : Int) : RS B (w.setCell ⟨b, 2, none⟩ (.int .i64 n)) b L K n hi O f lg ∧ Fr (fun k => B ≤ k) w (w.setCell ⟨b, 2, none⟩ (.int .i64 n)) := by
  obtain ⟨vL, vK, vO, oL, oK, oO, hm, hl, hk, ho, hs⟩ := h
  have hfs := Fr.setCell (fun k => k = b) w ⟨b, 2, none⟩ (.int .i64 n) rfl
  exact ⟨⟨vL, vK, vO, oL, oK, oO, hm.set 2 _, hl.fr hfs (fun g hg e => (hs.l g hg).2.1 e), hk.fr hfs (fun g hg e => (hs.k g hg).2.1 e), ho.fr hfs (fun g hg e => (hs.o g hg).2 e), hs⟩, hfs.mono (fun i e => by rw [e]; exact hs.b0)⟩
theorem RS.set3 {B : Nat} {w : World} {b : Nat} {L K : List Int} {lo hi : Int} {O : List Int} {f : Int} {lg : Bool} (h : RS B w b L K lo hi O f lg) (n : Int) : RS B (w.setCell ⟨b, 3, none⟩ (.int .i64 n)) b L K lo n O f lg ∧ Fr (fun k => B ≤ k) w (w.setCell ⟨b, 3, none⟩ (.int .i64 n)) := by
  obtain ⟨vL, vK, vO, oL, oK, oO, hm, hl, hk, ho, hs⟩ := h
  have hfs := Fr.setCell (fun k => k = b) w ⟨b, 3, none⟩ (.int .i64 n) rfl
  exact ⟨⟨vL, vK, vO, oL, oK, oO, hm.set 3 _, hl.fr hfs (fun g hg e => (hs.l g hg).2.1 e), hk.fr hfs (fun g hg e => (hs.k g hg).2.1 e), ho.fr hfs (fun g hg e => (hs.o g hg).2 e), hs⟩, hfs.mono (fun i e => by rw [e]; exact hs.b0)⟩
theorem RS.set5 {B : Nat} {w : World} {b : Nat} {L K : List Int} {lo hi : Int} {O : List Int} {f : Int} {lg : Bool} (h : RS B w b L K lo hi O f lg) (n : Int) : RS B (w.setCell ⟨b, 5, none⟩ (.int .i64 n)) b L K lo hi O n lg ∧ Fr (fun k => B ≤ k) w (w.setCell ⟨b, 5, none⟩ (.int .i64 n)) := by
  obtain ⟨vL, vK, vO, oL, oK, oO, hm, hl, hk, ho, hs⟩ := h
  have hfs := Fr.setCell (fun k => k = b) w ⟨b, 5, none⟩ (.int .i64 n) rfl
  exact ⟨⟨vL, vK, vO, oL, oK, oO, hm.set 5 _, hl.fr hfs (fun g hg e => (hs.l g hg).2.1 e), hk.fr hfs (fun g hg e => (hs.k g hg).2.1 e), ho.fr hfs (fun g hg e => (hs.o g hg).2 e), hs⟩, hfs.mono (fun i e => by rw [e]; exact hs.b0)⟩
theorem RS.set6 {B : Nat} {w : World} {b : Nat} {L K : List Int} {lo hi : Int} {O : List Int} {f : Int} {lg : Bool} (h : RS B w b L K lo hi O f lg) (n : Bool) : RS B (w.setCell ⟨b, 6, none⟩ (.bool n)) b L K lo hi O f n ∧ Fr (fun k => B ≤ k) w (w.setCell ⟨b, 6, none⟩ (.bool n)) := by
  obtain ⟨vL, vK, vO, oL, oK, oO, hm, hl, hk, ho, hs⟩ := h
  have hfs := Fr.setCell (fun k => k = b) w ⟨b, 6, none⟩ (.bool n) rfl
  exact ⟨⟨vL, vK, vO, oL, oK, oO, hm.set 6 _, hl.fr hfs (fun g hg e => (hs.l g hg).2.1 e), hk.fr hfs (fun g hg e => (hs.k g hg).2.1 e), ho.fr hfs (fun g hg e => (hs.o g hg).2 e), hs⟩, hfs.mono (fun i e => by rw [e]; exact hs.b0)⟩
def RDid (B : Nat) (w : World) (b : Nat) (L K : List Int) (lo hi : Int) (O : List Int) (f : Int) (lg : Bool) (w' : World) : Prop := RS B w' b L K lo hi O f lg ∧ Fr (fun k => B ≤ k) w w'
theorem in_any (n lo hi : Int) (w : World) :
    Calls Tryz.prog 76 #[.int .i64 n, .int .i64 lo, .int .i64 hi] w fun e w' => e = .returned (.bool (decide (lo ≤ n) && decide (n ≤ hi))) ∧ w = w' := by
  by_cases h0 : lo ≤ n
  · go_enter Tryz.func76, Tryz.ntmps76
    go_wp2
    go_ret
    refine ⟨?_, rfl⟩
    simp [h0]
  · have h0' : n < lo := by omega
    go_enter Tryz.func76, Tryz.ntmps76
    go_wp2
    go_ret
    refine ⟨?_, rfl⟩
    simp; omega
theorem beyond_any (n : Int) (w : World) :
    Calls Tryz.prog 81 #[.int .i64 n] w fun e w' => e = .returned (.bool (!inNum n)) ∧ w = w' := by
  have h : (decide (-1099511627776 ≤ n) && decide (n ≤ 1099511627776)) = inNum n := rfl
  have H := Lib.hid h
  clear h
  go_enter Tryz.func81, Tryz.ntmps81
  go_wp2_with (go_at_call 76; refine (in_any _ _ _ _).mono ?_; rintro e w' ⟨rfl, rfl⟩; rw [H.out])
  go_ret
  exact ⟨rfl, rfl⟩
theorem put_any (B b : Nat) (L K : List Int) (lo hi : Int) (O : List Int) (f : Int) (lg : Bool) (n : Int) (w : World) (h : RS B w b L K lo hi O f lg) (hn : O.length ≤ 1000) :
    Calls Tryz.prog 77 #[.pointer (some ⟨b, 0, none⟩), .int .i64 n] w fun e w' => e = .returned (.tuple #[]) ∧ RDid B w b L K lo hi (O ++ [n]) f lg w' := by
  obtain ⟨vL, vK, vO, oL, oK, oO, hm, hl, hk, ho, hs⟩ := h
  have h4 := hm.c4
  have hlt := heap_lt hm
  have HM := Lib.hid hm
  have HL := Lib.hid hl
  have HK := Lib.hid hk
  have HO := Lib.hid ho
  have HS := Lib.hid hs
  have HN := Lib.hid hn
  clear hm hl hk ho hs hn
  go_enter Tryz.func77, Tryz.ntmps77
  go_wp2_with (first
    | (at_builtin; refine wpList_app rfl (.tmp 8) (.tmp 10) rfl _ oO O (HO.out.fr (Fr.alloc (fun _ => False) _ _) (fun _ _ h => h)) rfl _ 1 _ [n] rfl rfl (by decide) (by have := HN.out; omega) (one_cell w _ rfl n _) ?_; intro g i cap w1 hl1 hf1 ho1
       have HD := Lib.hid (RS.setO HM.out HL.out HK.out HO.out HS.out ((Fr.alloc _ w _).trans hf1 (fun _ _ h => h)) (New.of_app (Fr.alloc _ w _) ho1) hl1)
       have c1 := HD.out.1.c4
       have z1 := HD.out.1.fz 4
       clear hl1 hf1 ho1))
  go_end0
  exact ⟨rfl, HD.out.2⟩
theorem rtruth_any (B b : Nat) (L K : List Int) (lo hi : Int) (O : List Int) (f : Int) (lg : Bool) (q : Bool) (w : World) (h : RS B w b L K lo hi O f lg) (hn : O.length ≤ 1000) :
    Calls Tryz.prog 79 #[.pointer (some ⟨b, 0, none⟩), .bool q] w fun e w' => e = .returned (.tuple #[]) ∧ RDid B w b L K lo hi (O ++ [boolI q]) f lg w' := by
  have H := Lib.hid h
  have HN := Lib.hid hn
  clear h hn
  cases q
  all_goals
    go_enter Tryz.func79, Tryz.ntmps79
    go_wp2_with (go_at_call 77; refine (put_any B b L K lo hi O f lg _ _ H.out HN.out).mono ?_; rintro e w' ⟨rfl, hd⟩; have HD := Lib.hid hd; clear hd)
    first | (refine bodyPost_ret (results_none rfl _ _ _) rfl ?_) | go_end0
    exact ⟨rfl, HD.out⟩
end Go.Proofs.YtpnbhoeghncnnaaGreatDoor
namespace Go.Proofs.YtpnbhoeghncnnaaGreatDoor
open Go.RowKit
/-- The slice of m numbers at sx reads ys. -/
def Src (w : World) (sx : Option Addr) (m : Nat) (ys : List Int) : Prop :=
  ys.length = m ∧ (0 < m → ∃ ad, sx = some ad ∧ ∀ j u, (ys.map (fun x => Value.int .i64 x))[j]? = some u → w.cell? (ad.add j) = some u)
theorem Src.one {w : World} {g o : Nat} {xs : List Int} (hc : ∀ i x, xs[i]? = some x → w.cell? ⟨g, o + i, none⟩ = some (.int .i64 x)) : Src w (some ⟨g, o, none⟩) xs.length xs :=
  ⟨rfl, fun _ => ⟨_, rfl, fun j u hu => by
    rw [List.getElem?_map] at hu
    cases hx : xs[j]? with
    | none => rw [hx] at hu; cases hu
    | some x =>
      rw [hx] at hu; cases hu
      rw [show (⟨g, o, none⟩ : Addr).add j = ⟨g, o + j, none⟩ by unfold Addr.add; split <;> simp_all]
      exact hc j x hx⟩⟩
theorem app_all (w : World) (ty : TypeId) (v : Value) (own : Option Nat) (xs : List Int) (h : Lst w v own xs) (sx : Option Addr) (m c : Nat) (ys : List Int) (hs : Src w sx m ys) (hn : xs.length + m ≤ 100000) :
    ∃ s cap own' w', (Builtin.append_ #[25, 25] ty #[v, .slice sx m c]).run Tryz.prog w = .ok (.slice s (xs.length + m) cap) w' ∧
      Lst w' (.slice s (xs.length + m) cap) own' (xs ++ ys) ∧ Fr (fun k => own = some k) w w' ∧ (own' = own ∨ own' = some w.heap.size) := by
  obtain ⟨hm, hcells⟩ := hs
  by_cases h0 : 0 < m
  · obtain ⟨ad, rfl, hys⟩ := hcells h0
    obtain ⟨g, o, cap, w', h1, h2, h3, h4⟩ := app_run w ty v own xs h ad m c ys hm h0 hn hys
    exact ⟨_, cap, some g, w', h1, h2, h3, by rcases h4 with h4 | h4 <;> simp [h4]⟩
  · obtain rfl : m = 0 := by omega
    obtain rfl : ys = [] := List.eq_nil_of_length_eq_zero hm
    obtain ⟨i, hi, hz, hsz, hby⟩ : ∃ i, Tryz.prog.info? 3 = some i ∧ i.zero = some (.int .i64 0) ∧ i.size = 1 ∧ i.bytes = 8 := by
      have := infoInt
      cases hq : Tryz.prog.info? 3 with
      | none => rw [hq] at this; cases this
      | some i =>
        rw [hq] at this
        simp only [Option.map_some, Option.some.injEq, Prod.mk.injEq] at this
        exact ⟨i, rfl, this.1, this.2.1, this.2.2⟩
    obtain ⟨s, cap, rfl⟩ := h.form
    have hcap : xs.length ≤ cap := by
      rcases h with ⟨he, _, hx⟩ | ⟨g', o, cap', cs, h1, h2, h3, h4, h5, _⟩
      · rw [hx]; exact Nat.zero_le _
      · cases h1; exact h5
    have hfc : (Builtin.firstCells 1 0 (.slice sx 0 c)).run Tryz.prog w = .ok #[] w := by
      cases sx with
      | none => exact run_firstCells_none _ _ _ _ _
      | some ad => exact run_firstCells_some _ _ _ ad 0 c [] (by simp) (fun j u hu => by simp at hu)
    refine ⟨s, cap, own, w, ?_, by simpa using h, Fr.refl _ w, .inl rfl⟩
    cases s with
    | none => simp [Builtin.append_, run_underlying Tryz.underlying25, sizeOf, typeInfo, hi, hsz, Builtin.lenOf, hcap, hfc]
    | some a => simp [Builtin.append_, run_underlying Tryz.underlying25, sizeOf, typeInfo, hi, hsz, Builtin.lenOf, hcap, hfc, storeCells]
theorem wp_appG {w : World} {o : Oper} {a : Act} {K : Act → World → Prop} {Q : Exit → Act → World → Prop} (s x : Operand)
    (ho : o.op = .call { callee := .builtin .append, args := #[s, x], argTypes := #[25, 25] })
    (v : Value) (own : Option Nat) (xs : List Int) (h : Lst w v own xs) (n : Nat) (hnn : xs.length = n) (hs : a.eval s = v) (sx : Option Addr) (m c : Nat) (ys : List Int) (hx : a.eval x = .slice sx m c) (hsrc : Src w sx m ys) (hlen : n + m ≤ 100000)
    (hK : ∀ s' cap own' w', Lst w' (.slice s' (n + m) cap) own' (xs ++ ys) → Fr (fun k => own = some k) w w' → (own' = own ∨ own' = some w.heap.size) → K (a.put o.dst (.slice s' (n + m) cap)) w') : o.wp Tryz.prog a w K Q := by
  subst hnn
  obtain ⟨s', cap, own', w', hr, h2, h3, h4⟩ := app_all w o.type v own xs h sx m c ys hsrc hlen
  unfold Oper.wp execOp
  simp only [ho, resolve, invoke, builtin, Sem.run_bind, Sem.run_pure, Result.andThen_ok, List.map_toArray, List.map_cons, List.map_nil, hs, hx, hr]
  exact hK s' cap own' w' h2 h3 h4
theorem wpList_appG {w : World} {ops : Array Oper} {rest : List Oper} {o : Oper} {a : Act} {Q : Exit → Act → World → Prop} (hgd : o.guard = none) (s x : Operand)
    (ho : o.op = .call { callee := .builtin .append, args := #[s, x], argTypes := #[25, 25] })
    (v : Value) (own : Option Nat) (xs : List Int) (h : Lst w v own xs) (n : Nat) (hnn : xs.length = n) (hs : a.eval s = v) (sx : Option Addr) (m c : Nat) (ys : List Int) (hx : a.eval x = .slice sx m c) (hsrc : Src w sx m ys) (hlen : n + m ≤ 100000)
    (hK : ∀ s' cap own' w', Lst w' (.slice s' (n + m) cap) own' (xs ++ ys) → Fr (fun k => own = some k) w w' → (own' = own ∨ own' = some w.heap.size) → wpList Tryz.prog ops Q rest (a.put o.dst (.slice s' (n + m) cap)) w') : wpList Tryz.prog ops Q (o :: rest) a w :=
  wpList_plain hgd fun _ hK' => wp_appG s x ho v own xs h n hnn hs sx m c ys hx hsrc hlen fun s' cap own' w' h2 h3 h4 => hK' _ _ (hK s' cap own' w' h2 h3 h4)
theorem step_appG {w : World} {ops : Array Oper} {o : Oper} {a : Act} {K : Act → World → Prop} {Q : Exit → Act → World → Prop} {E : Prop} (hgd : o.guard = none) (s x : Operand)
    (ho : o.op = .call { callee := .builtin .append, args := #[s, x], argTypes := #[25, 25] })
    (v : Value) (own : Option Nat) (xs : List Int) (h : Lst w v own xs) (n : Nat) (hnn : xs.length = n) (hs : a.eval s = v) (sx : Option Addr) (m c : Nat) (ys : List Int) (hx : a.eval x = .slice sx m c) (hsrc : Src w sx m ys) (hlen : n + m ≤ 100000)
    (hK : ∀ s' cap own' w', Lst w' (.slice s' (n + m) cap) own' (xs ++ ys) → Fr (fun k => own = some k) w w' → (own' = own ∨ own' = some w.heap.size) → K (a.put o.dst (.slice s' (n + m) cap)) w') :
    if Region.wanted o (yielded ops a.tmps) = true then Oper.wp Tryz.prog o a w K Q else E := by
  have hw : Region.wanted o (yielded ops a.tmps) = true := by simp [Region.wanted, hgd]
  rw [if_pos hw]
  exact wp_appG s x ho v own xs h n hnn hs sx m c ys hx hsrc hlen hK
theorem elem25 : Tryz.prog.elem 25 = 3 := by kernel_rfl
theorem und25 : Tryz.prog.underlying 25 = some (.slice (Tryz.prog.elem 25)) := by rw [elem25]; exact Tryz.underlying25
theorem size25 (w : World) : (sizeOf (Tryz.prog.elem 25)).run Tryz.prog w = .ok 1 w := by
  obtain ⟨i, hi, hz, hsz, hby⟩ : ∃ i, Tryz.prog.info? 3 = some i ∧ i.zero = some (.int .i64 0) ∧ i.size = 1 ∧ i.bytes = 8 := by
    have := infoInt
    cases hq : Tryz.prog.info? 3 with
    | none => rw [hq] at this; cases this
    | some i =>
      rw [hq] at this
      simp only [Option.map_some, Option.some.injEq, Prod.mk.injEq] at this
      exact ⟨i, rfl, this.1, this.2.1, this.2.2⟩
  rw [elem25]
  simp [sizeOf, typeInfo, hi, hsz]
/-- l[:k] and l[k:] -/
theorem run_to (s : Option Addr) (n c k : Nat) (hk : k ≤ c) (w : World) :
    (Instr.sliceAt 25 (.slice s n c) none (some (.int .i64 k)) none).run Tryz.prog w = .ok (.slice s k c) w := by
  rw [run_sliceAt_slice w 25 _ _ _ _ und25]
  rw [run_slice_h w 25 s n c und25 .i64 (k : Int) (by omega) (by omega)]
  rw [size25]
  simp only [Result.andThen, sliced, Int.toNat_natCast, Nat.sub_zero, Nat.zero_mul]
  cases s with
  | none => simp
  | some a => simp [Addr.add]
theorem run_from (s : Option Addr) (n c k : Nat) (hk : k ≤ n) (w : World) :
    (Instr.sliceAt 25 (.slice s n c) (some (.int .i64 k)) none none).run Tryz.prog w = .ok (.slice (if c = k then s else s.map (·.add (k * 1))) (n - k) (c - k)) w := by
  rw [run_sliceAt_slice w 25 _ _ _ _ und25]
  rw [run_slice_l w 25 s n c und25 .i64 (k : Int) (by omega) (by omega)]
  rw [size25]
  simp only [Result.andThen, sliced, Int.toNat_natCast]
theorem Lst.cap {w : World} {s : Option Addr} {n c : Nat} {own : Option Nat} {xs : List Int} (h : Lst w (.slice s n c) own xs) : n = xs.length ∧ xs.length ≤ c := by
  rcases h with ⟨he, _, hx⟩ | ⟨g', o, cap', cs, h1, h2, h3, h4, h5, _⟩
  · cases he; rw [hx]; exact ⟨rfl, Nat.le_refl _⟩
  · cases h1; exact ⟨rfl, h5⟩
theorem Lst.src_to {w : World} {s : Option Addr} {n c : Nat} {own : Option Nat} {xs : List Int} (h : Lst w (.slice s n c) own xs) (k : Nat) (hk : k ≤ xs.length) : Src w s k (xs.take k) := by
  rcases h with ⟨he, _, hx⟩ | ⟨g', o, cap', cs, h1, h2, h3, h4, h5, h6, h7⟩
  · cases he; subst hx
    obtain rfl : k = 0 := by simpa using hk
    exact ⟨rfl, fun h => absurd h (by omega)⟩
  · cases h1
    have hl : (xs.take k).length = k := by rw [List.length_take]; omega
    have := Src.one (w := w) (g := g') (o := o) (xs := xs.take k) (fun i x hx => by
      rw [heap_cell h3]
      exact h7 i x (by rw [List.getElem?_take] at hx; split at hx; exact hx; cases hx))
    rwa [hl] at this
theorem Lst.src_from {w : World} {s : Option Addr} {n c : Nat} {own : Option Nat} {xs : List Int} (h : Lst w (.slice s n c) own xs) (k : Nat) (hk : k ≤ xs.length) : Src w (if c = k then s else s.map (·.add (k * 1))) (n - k) (xs.drop k) := by
  have hc := h.cap
  refine ⟨by rw [List.length_drop, hc.1], fun h0 => ?_⟩
  rcases h with ⟨he, _, hx⟩ | ⟨g', o, cap', cs, h1, h2, h3, h4, h5, h6, h7⟩
  · cases he; subst hx; simp at h0
  · cases h1
    rw [if_neg (by omega)]
    refine ⟨_, rfl, fun j u hu => ?_⟩
    rw [List.getElem?_map, List.getElem?_drop] at hu
    cases hx : xs[k + j]? with
    | none => rw [hx] at hu; cases hu
    | some x =>
      rw [hx] at hu; cases hu
      rw [show ((⟨g', o, none⟩ : Addr).add (k * 1)).add j = ⟨g', o + (k + j), none⟩ by unfold Addr.add; split <;> split <;> simp_all <;> omega]
      rw [heap_cell h3]
      exact h7 _ x hx
theorem Lst.to {w : World} {s : Option Addr} {n c : Nat} {own : Option Nat} {xs : List Int} (h : Lst w (.slice s n c) own xs) (k : Nat) (hk : k ≤ xs.length) : Lst w (.slice s k c) own (xs.take k) := by
  rcases h with ⟨he, ho, hx⟩ | ⟨g', o, cap', cs, h1, h2, h3, h4, h5, h6, h7⟩
  · cases he; subst hx
    obtain rfl : k = 0 := by simpa using hk
    exact .inl ⟨rfl, ho, rfl⟩
  · cases h1
    have hl : (xs.take k).length = k := by rw [List.length_take]; omega
    exact .inr ⟨g', o, c, cs, by rw [hl], h2, h3, h4, by omega, h6, fun i x hx => h7 i x (by rw [List.getElem?_take] at hx; split at hx; exact hx; cases hx)⟩
theorem Lst.empty (w : World) : Lst (w.alloc (.cells #[] 3)) (.slice (some ⟨w.heap.size, 0, none⟩) 0 0) (some w.heap.size) [] :=
  .inr ⟨_, 0, 0, #[], rfl, rfl, heap_alloc_new w _, by simp, by simp, by simp, fun i x hx => by simp at hx⟩
theorem Src.fr {F : Nat → Prop} {w w' : World} {s : Option Addr} {m : Nat} {ys : List Int} (h : Src w s m ys) (hf : Fr F w w') (hF : ∀ a, s = some a → ¬ F a.block) : Src w' s m ys :=
  ⟨h.1, fun h0 => by
    obtain ⟨ad, rfl, hc⟩ := h.2 h0
    refine ⟨ad, rfl, fun j u hu => hf.cell (hc j u hu) ?_⟩
    have : (ad.add j).block = ad.block := by unfold Addr.add; split <;> rfl
    rw [this]; exact hF ad rfl⟩
theorem Src.fr0 {w w' : World} {s : Option Addr} {m : Nat} {ys : List Int} (h : Src w s m ys) (hf : Fr (fun _ => False) w w') : Src w' s m ys := h.fr hf (fun _ _ h => h)
theorem Lst.fr0 {w w' : World} {v : Value} {own : Option Nat} {xs : List Int} (h : Lst w v own xs) (hf : Fr (fun _ => False) w w') : Lst w' v own xs := h.fr hf (fun _ _ h => h)
end Go.Proofs.YtpnbhoeghncnnaaGreatDoor
namespace Go.Proofs.YtpnbhoeghncnnaaGreatDoor
open Go.RowKit
theorem rindex_nil (x : Int) (w : World) :
    Calls Tryz.prog 80 #[.slice none 0 0, .int .i64 x] w fun e w' => e = .returned (.int .i64 (-1)) ∧ w = w' := by
  go_enter Tryz.func80, Tryz.ntmps80
  go_wp2
  go_loop [5] (fun a => a = .int .i64 0) (fun _ => 0)
  case atStart => rfl
  case round =>
    obtain rfl := hrel
    go_wp2
    go_ret
    exact ⟨rfl, rfl⟩
set_option maxHeartbeats 400000 in
theorem rindex_row (g o cap : Nat) (xs : List Int) (x : Int) (w : World) (hn : xs.length ≤ 1000) (hc : ∀ j y, xs[j]? = some y → w.cell? ⟨g, o + j, none⟩ = some (.int .i64 y)) :
    Calls Tryz.prog 80 #[.slice (some ⟨g, o, none⟩) xs.length cap, .int .i64 x] w fun e w' => e = .returned (.int .i64 (ixI (fun y => x == y) xs)) ∧ w = w' := by
  have HC := Lib.hid hc
  have HN := Lib.hid hn
  clear hc hn
  go_enter Tryz.func80, Tryz.ntmps80
  go_wp2
  go_loop [5] (fun a => ∃ k : Nat, a = .int .i64 k ∧ k ≤ xs.length ∧ ∀ j z, j < k → xs[j]? = some z → (x == z) = false) (fun a => xs.length - (intOf a).toNat)
  case atStart => exact ⟨0, rfl, by omega, fun j z h => by omega⟩
  case round =>
    obtain ⟨k, rfl, hk, hb⟩ := hrel
    have HB := Lib.hid hb
    clear hb
    by_cases hlt : k < xs.length
    · obtain ⟨y, hy⟩ := get_of_lt xs hlt
      have hcell := HC.out k y hy
      have HY := Lib.hid hy
      clear hy
      by_cases hxy : x = y
      · subst hxy
        go_wp2
        go_ret
        exact ⟨by rw [ixI_at HY.out (by simp) HB.out]; rfl, rfl⟩
      · have h1 : (y == x) = false := by simpa using fun e => hxy e.symm
        have h2 := Lib.hid (show (x == y) = false by simpa using hxy)
        have hl := HN.out
        go_wp2
        go_round
        case rel => exact ⟨k + 1, by go_num, by omega, fun j z hj hz => by
          rcases Nat.lt_or_ge j k with h | h
          · exact HB.out j z h hz
          · obtain rfl : j = k := by omega
            rw [HY.out] at hz; cases hz; exact h2.out⟩
        case measure => simp [intOf]; omega
    · obtain rfl : k = xs.length := by omega
      go_wp2
      go_ret
      exact ⟨by rw [ixI_no HB.out]; rfl, rfl⟩
theorem rindex_call (w : World) (lv : Value) (own : Option Nat) (xs : List Int) (h : Lst w lv own xs) (x : Int) (hn : xs.length ≤ 1000) :
    Calls Tryz.prog 80 #[lv, .int .i64 x] w fun e w' => e = .returned (.int .i64 (ixI (fun y => x == y) xs)) ∧ w = w' := by
  rcases h with ⟨rfl, rfl, rfl⟩ | ⟨g, o, cap, cs, rfl, rfl, hg, hcap, hlen, hmax, hcs⟩
  · exact rindex_nil x w
  · exact rindex_row g o cap xs x w hn (fun j y hy => by rw [heap_cell hg]; exact hcs j y hy)
theorem grown_own {w w0 w1 : World} {own own' : Option Nat} (hf0 : Fr (fun _ => False) w w0) (ho : own = none ∨ ∃ g, own = some g ∧ w.heap.size ≤ g) (h1 : own' = own ∨ own' = some w1.heap.size) (hs : w0.heap.size ≤ w1.heap.size) : own' = none ∨ ∃ g, own' = some g ∧ w.heap.size ≤ g := by
  rcases h1 with h1 | h1
  · rw [h1]; exact ho
  · exact .inr ⟨_, h1, by have := hf0.size; omega⟩
set_option maxHeartbeats 1000000 in
theorem rinsert_any (w : World) (s : Option Addr) (c : Nat) (own : Option Nat) (xs : List Int) (h : Lst w (.slice s xs.length c) own xs) (k : Nat) (hk : k ≤ xs.length) (x : Int) (hn : xs.length ≤ 1000) :
    Calls Tryz.prog 78 #[.slice s xs.length c, .int .i64 k, .int .i64 x] w fun e w' => ∃ v' own', e = .returned v' ∧ Lst w' v' own' (insAt k x xs) ∧ (own' = none ∨ ∃ g, own' = some g ∧ w.heap.size ≤ g) ∧ Fr (fun _ => False) w w' := by
  have hc := h.cap.2
  have ht := fun u => run_to s xs.length c k (by omega) u
  have hfr := fun u => run_from s xs.length c k hk u
  have HS1 := Lib.hid (h.src_to k hk)
  have HS2 := Lib.hid (h.src_from k hk)
  have HL := Lib.hid h
  have HN := Lib.hid hn
  have HK := Lib.hid hk
  have hlt : (xs.take k).length = k := by rw [List.length_take]; omega
  have HLT := Lib.hid hlt
  generalize (if c = k then s else s.map (·.add (k * 1))) = s2 at hfr HS2
  generalize hc2 : c - k = c2 at hfr
  generalize hn2 : xs.length - k = n2 at hfr HS2
  have HN2 := Lib.hid hn2
  clear h hn hlt hc2 hk hc hn2
  have HE := Lib.hid (Lst.empty w)
  have F0 := Lib.hid (Fr.alloc (fun _ => False) w (.cells #[] 3))
  go_enter Tryz.func78, Tryz.ntmps78
  go_wp2_with (first
    | (at_builtin; refine wpList_appG rfl (.tmp 8) (.tmp 11) rfl _ _ [] HE.out 0 rfl rfl s k _ (xs.take k) rfl (HS1.out.fr F0.out (fun _ _ h => h)) (by have := HN.out; have := HK.out; omega) ?_; intro s1 cap1 own1 w1 hl1 hf1 ho1
       simp only [Nat.zero_add, List.nil_append] at hl1
       have A1 := Lib.hid hl1
       have A2 := Lib.hid (F0.out.trans hf1 (fun i hi h => by cases h; omega))
       have A3 := Lib.hid (show own1 = none ∨ ∃ g, own1 = some g ∧ w.heap.size ≤ g from grown_own (F0.out) (.inr ⟨_, rfl, Nat.le_refl _⟩) ho1 (Nat.le_refl _))
       clear hl1 hf1 ho1
       simp only [Nat.zero_add])
    | (at_builtin; refine wpList_appG rfl (.tmp 13) (.tmp 15) rfl _ own1 (xs.take k) (A1.out.fr (Fr.alloc (fun _ => False) _ _) (fun _ _ h => h)) k HLT.out rfl _ 1 _ [x] rfl ⟨rfl, fun _ => ⟨_, rfl, one_cell _ _ rfl x _⟩⟩ (by have := HN.out; have := HK.out; omega) ?_; intro s2' cap2 own2 w2 hl2 hf2 ho2
       have B1 := Lib.hid hl2
       have B2 := Lib.hid (((A2.out).trans (Fr.alloc (fun _ => False) w1 _) (fun _ _ h => h)).trans hf2 (fun i hi h => by rcases A3.out with h' | ⟨g, h', hg⟩ <;> rw [h'] at h <;> cases h; omega))
       have B3 := Lib.hid (grown_own (A2.out.trans (Fr.alloc (fun _ => False) w1 _) (fun _ _ h => h)) A3.out ho2 (Nat.le_refl _))
       clear hl2 hf2 ho2)
    | (at_builtin; refine wpList_appG rfl (.tmp 17) (.tmp 20) rfl _ own2 _ B1.out (k + 1) (by simp [HLT.out]) rfl s2 n2 _ (xs.drop k) rfl (HS2.out.fr B2.out (fun _ _ h => h)) (by have := HN.out; have := HK.out; have := HN2.out; omega) ?_; intro s3 cap3 own3 w3 hl3 hf3 ho3
       have C1 := Lib.hid hl3
       have C2 := Lib.hid (B2.out.trans hf3 (fun i hi h => by rcases B3.out with h' | ⟨g, h', hg⟩ <;> rw [h'] at h <;> cases h; omega))
       have C3 := Lib.hid (grown_own B2.out B3.out ho3 (Nat.le_refl _))
       clear hl3 hf3 ho3))
  go_ret
  exact ⟨_, own3, rfl, by have := C1.out; rw [List.append_assoc] at this; exact this, C3.out, C2.out⟩
end Go.Proofs.YtpnbhoeghncnnaaGreatDoor
namespace Go.Proofs.YtpnbhoeghncnnaaGreatDoor
open Go.RowKit
theorem rwithout_no (w : World) (s : Option Addr) (n c : Nat) (k : Int) (hk : k < 0) :
    Calls Tryz.prog 82 #[.slice s n c, .int .i64 k] w fun e w' => e = .returned (.slice s n c) ∧ w = w' := by
  go_enter Tryz.func82, Tryz.ntmps82
  go_wp2
  go_ret
  exact ⟨rfl, rfl⟩
set_option maxHeartbeats 1000000 in
theorem rwithout_any (w : World) (s : Option Addr) (c : Nat) (own : Option Nat) (xs : List Int) (h : Lst w (.slice s xs.length c) own xs) (k : Nat) (hk : k < xs.length) (hn : xs.length ≤ 1000) :
    Calls Tryz.prog 82 #[.slice s xs.length c, .int .i64 k] w fun e w' => ∃ v' own', e = .returned v' ∧ Lst w' v' own' (delAt k xs) ∧ (own' = none ∨ ∃ g, own' = some g ∧ w.heap.size ≤ g) ∧ Fr (fun _ => False) w w' := by
  have hc := h.cap.2
  have hkk : (k : Int) ≤ 1000 := by omega
  have ht := fun u => run_to s xs.length c k (by omega) u
  have hfr := fun u => (show (Instr.sliceAt 25 (.slice s xs.length c) (some (.int .i64 ((k : Int) + 1))) none none).run Tryz.prog u = _ from run_from s xs.length c (k + 1) (by omega) u)
  have HS1 := Lib.hid (h.src_to k (by omega))
  have HS2 := Lib.hid (h.src_from (k + 1) (by omega))
  have HL := Lib.hid h
  have HN := Lib.hid hn
  have HK := Lib.hid hk
  have hlt : (xs.take k).length = k := by rw [List.length_take]; omega
  have HLT := Lib.hid hlt
  have hw : IntKind.i64.wrap ((k : Int) + 1) = (k : Int) + 1 := IntWalk.i64_in _ (by omega)
  generalize (if c = k + 1 then s else s.map (·.add ((k + 1) * 1))) = s2 at hfr HS2
  generalize hc2 : c - (k + 1) = c2 at hfr
  generalize hn2 : xs.length - (k + 1) = n2 at hfr HS2
  have HN2 := Lib.hid hn2
  clear h hn hlt hc2 hk hc hn2
  have HE := Lib.hid (Lst.empty w)
  go_enter Tryz.func82, Tryz.ntmps82
  go_wp2
  go_region_law (first
    | (refine step_appG rfl (.tmp 8) (.tmp 11) rfl _ _ [] ((Lst.empty w).fr0 (Fr.drew _ _)) 0 rfl rfl s k _ (xs.take k) rfl ((HS1.out.fr0 (Fr.alloc _ _ _)).fr0 (Fr.drew _ _)) (by have := HN.out; have := HK.out; omega) ?_; intro s1 cap1 own1 w1 hl1 hf1 ho1
       have F0 : Fr (fun _ => False) w ((w.alloc (.cells #[] 3)).drew) := (Fr.alloc (fun _ => False) w (.cells #[] 3)).trans (Fr.drew _ _) (fun _ _ h => h)
       simp only [Nat.zero_add, List.nil_append] at hl1
       have A1 := Lib.hid hl1
       have A2 := Lib.hid (F0.trans hf1 (fun i hi h => by cases h; omega))
       have A3 := Lib.hid (show own1 = none ∨ ∃ g, own1 = some g ∧ w.heap.size ≤ g from grown_own F0 (.inr ⟨_, rfl, Nat.le_refl _⟩) ho1 (Nat.le_refl _))
       clear hl1 hf1 ho1 F0
       simp only [Nat.zero_add])
    | (refine step_appG rfl (.tmp 12) (.tmp 16) rfl _ own1 _ A1.out k HLT.out rfl s2 n2 _ (xs.drop (k + 1)) rfl (HS2.out.fr0 A2.out) (by have := HN.out; have := HK.out; have := HN2.out; omega) ?_; intro s3 cap3 own3 w3 hl3 hf3 ho3
       have C1 := Lib.hid hl3
       have C2 := Lib.hid (A2.out.trans hf3 (fun i hi h => by rcases A3.out with h' | ⟨g, h', hg⟩ <;> rw [h'] at h <;> cases h; omega))
       have C3 := Lib.hid (grown_own A2.out A3.out ho3 (Nat.le_refl _))
       clear hl3 hf3 ho3))
  all_goals go_wp2
  all_goals go_ret
  all_goals exact ⟨_, own3, rfl, C1.out, C3.out, C2.out⟩
end Go.Proofs.YtpnbhoeghncnnaaGreatDoor
namespace Go.Proofs.YtpnbhoeghncnnaaGreatDoor
open Go.RowKit
theorem rquo_in (a c : Int) (hc : 0 < c) (hv : inNum (a * c) = true) : decide (1099511627776 / c < a) = false ∧ decide (1099511627776 / c < -a) = false := by
  have h := inNum_true.1 hv
  rw [decide_eq_false_iff_not, decide_eq_false_iff_not, Int.not_lt, Int.not_lt, Int.le_ediv_iff_mul_le hc, Int.le_ediv_iff_mul_le hc, Int.neg_mul]
  omega
theorem rquo_up (a c : Int) (hc : 0 < c) (ha : 0 < a) (hv : inNum (a * c) = false) : decide (1099511627776 / c < a) = true := by
  have h := inNum_false.1 hv
  have := Int.mul_pos ha hc
  rw [decide_eq_true_eq, ← Int.not_le, Int.le_ediv_iff_mul_le hc]
  omega
theorem rquo_dn (a c : Int) (hc : 0 < c) (ha : a < 0) (hv : inNum (a * c) = false) : decide (1099511627776 / c < a) = false ∧ decide (1099511627776 / c < -a) = true := by
  have h := inNum_false.1 hv
  have := Int.mul_neg_of_neg_of_pos ha hc
  rw [decide_eq_true_eq, decide_eq_false_iff_not, Int.not_lt, ← Int.not_le, Int.le_ediv_iff_mul_le hc, Int.le_ediv_iff_mul_le hc, Int.neg_mul]
  omega
theorem inNum_neg (x : Int) : inNum (-x) = inNum x := by rw [Bool.eq_iff_iff, inNum_true, inNum_true]; omega
set_option maxHeartbeats 400000 in
theorem rproduct_in (a b : Int) (w : World) (h0 : -1099511627776 ≤ a) (h1 : a ≤ 1099511627776) (h2 : -1099511627776 ≤ b) (h3 : b ≤ 1099511627776) (hv : inNum (a * b) = true) :
    Calls Tryz.prog 84 #[.int .i64 a, .int .i64 b] w fun e w' => e = .returned (.tuple #[.int .i64 (a * b), .bool true]) ∧ w = w' := by
  by_cases hb : b = 0
  · subst hb
    clear hv
    go_enter Tryz.func84, Tryz.ntmps84
    go_wp2
    go_ret2
    simp
  have hb' : (b != 0) = true := by simpa using hb
  have hx := inNum_true.1 hv
  by_cases pb : 0 < b
  · have K := rquo_in a b pb hv
    have k1 := K.1
    have k2 := K.2
    clear K hv hb
    have hmx : max b (-b) = b := by omega
    have hb0 : (b == 0) = false := by rw [beq_eq_false_iff_ne]; omega
    go_enter Tryz.func84, Tryz.ntmps84
    go_wp2
    go_ret2
    first | exact ⟨rfl, rfl⟩ | simp
  · obtain ⟨c, rfl⟩ : ∃ c, b = -c := ⟨-b, by omega⟩
    have pc : 0 < c := by omega
    have K := rquo_in a c pc (by rw [Int.mul_neg, inNum_neg] at hv; exact hv)
    have k1 := K.1
    have k2 := K.2
    clear K hv hb
    have hmx : max (-c) c = c := by omega
    have hb0 : (c == 0) = false := by rw [beq_eq_false_iff_ne]; omega
    go_enter Tryz.func84, Tryz.ntmps84
    go_wp2
    go_ret2
    first | exact ⟨rfl, rfl⟩ | simp
set_option maxHeartbeats 400000 in
theorem rproduct_out (a b : Int) (w : World) (h0 : -1099511627776 ≤ a) (h1 : a ≤ 1099511627776) (h2 : -1099511627776 ≤ b) (h3 : b ≤ 1099511627776) (hv : inNum (a * b) = false) :
    Calls Tryz.prog 84 #[.int .i64 a, .int .i64 b] w fun e w' => e = .returned (.tuple #[.int .i64 0, .bool false]) ∧ w = w' := by
  have ha : a ≠ 0 := by rintro rfl; rw [Int.zero_mul] at hv; exact absurd hv (by decide)
  have hb : b ≠ 0 := by rintro rfl; rw [Int.mul_zero] at hv; exact absurd hv (by decide)
  have hb' : (b != 0) = true := by simpa using hb
  by_cases pb : 0 < b
  · rcases Int.lt_or_gt_of_ne ha with pa | pa
    · have K := rquo_dn a b pb pa hv
      have k1 := K.1
      have k2 := K.2
      clear K hv hb ha
      have hmx : max b (-b) = b := by omega
      have hb0 : (b == 0) = false := by rw [beq_eq_false_iff_ne]; omega
      go_enter Tryz.func84, Tryz.ntmps84
      go_wp2
      go_ret2
      exact ⟨rfl, rfl⟩
    · have k1 := rquo_up a b pb pa hv
      clear hv hb ha
      have hmx : max b (-b) = b := by omega
      have hb0 : (b == 0) = false := by rw [beq_eq_false_iff_ne]; omega
      go_enter Tryz.func84, Tryz.ntmps84
      go_wp2
      go_ret2
      exact ⟨rfl, rfl⟩
  · obtain ⟨c, rfl⟩ : ∃ c, b = -c := ⟨-b, by omega⟩
    have pc : 0 < c := by omega
    have hv' : inNum (a * c) = false := by rw [Int.mul_neg, inNum_neg] at hv; exact hv
    rcases Int.lt_or_gt_of_ne ha with pa | pa
    · have K := rquo_dn a c pc pa hv'
      have k1 := K.1
      have k2 := K.2
      clear K hv hv' hb ha
      have hmx : max (-c) c = c := by omega
      have hb0 : (c == 0) = false := by rw [beq_eq_false_iff_ne]; omega
      go_enter Tryz.func84, Tryz.ntmps84
      go_wp2
      go_ret2
      exact ⟨rfl, rfl⟩
    · have k1 := rquo_up a c pc pa hv'
      clear hv hv' hb ha
      have hmx : max (-c) c = c := by omega
      have hb0 : (c == 0) = false := by rw [beq_eq_false_iff_ne]; omega
      go_enter Tryz.func84, Tryz.ntmps84
      go_wp2
      go_ret2
      exact ⟨rfl, rfl⟩
end Go.Proofs.YtpnbhoeghncnnaaGreatDoor
namespace Go.Proofs.YtpnbhoeghncnnaaGreatDoor
open Go.RowKit
/-- What a call that puts out a number, or stops, makes of the state. -/
def RRes (B : Nat) (w : World) (b : Nat) (L K : List Int) (lo hi : Int) (O : List Int) : Res → World → Prop
  | .val n, w' => RDid B w b L K lo hi (O ++ [n]) 0 false w'
  | .stop f e, w' => RDid B w b L K lo hi O f (decide (e ≠ 0)) w'
theorem RRes.of {B : Nat} {w : World} {b : Nat} {L K : List Int} {lo hi : Int} {O : List Int} {r r' : Res} {w' : World} (h : r = r') (hr : RRes B w b L K lo hi O r w') : RRes B w b L K lo hi O r' w' := h ▸ hr
theorem RRes.tr {B : Nat} {w w1 : World} {b : Nat} {L K : List Int} {lo hi : Int} {O : List Int} {r : Res} {w' : World} (hf : Fr (fun k => B ≤ k) w w1) (hr : RRes B w1 b L K lo hi O r w') : RRes B w b L K lo hi O r w' := by
  cases r <;> exact ⟨hr.1, hf.trans hr.2 (fun _ _ h => h)⟩
theorem RDid.tr {B : Nat} {w w1 : World} {b : Nat} {L K : List Int} {lo hi : Int} {O : List Int} {f : Int} {lg : Bool} {w' : World} (hf : Fr (fun k => B ≤ k) w w1) (hr : RDid B w1 b L K lo hi O f lg w') : RDid B w b L K lo hi O f lg w' := ⟨hr.1, hf.trans hr.2 (fun _ _ h => h)⟩
theorem fcast {k : IntKind} {a b : Int} (h : a = b) : (Value.int k a) = .int k b := by rw [h]
set_option maxHeartbeats 1000000 in
theorem rsum_any (B b : Nat) (L K : List Int) (lo hi : Int) (O : List Int) (w : World) (h : RS B w b L K lo hi O 0 false) (hn : O.length ≤ 1000) (hlo : inNum lo = true) (hhi : inNum hi = true) :
    Calls Tryz.prog 83 #[.pointer (some ⟨b, 0, none⟩)] w fun e w' => e = .returned (.tuple #[]) ∧ RRes B w b L K lo hi O (totFrom lo (hi + 1 - lo).toNat lo 0) w' := by
  have H := Lib.hid h
  obtain ⟨vL, vK, vO, oL, oK, oO, hm, _⟩ := h
  have c2 := hm.c2
  have c3 := hm.c3
  have c5 := hm.c5
  have c6 := hm.c6
  have z5 := hm.fz 5
  have z6 := hm.fz 6
  have b1 := inNum_true.1 hlo
  have b2 := inNum_true.1 hhi
  have HN := Lib.hid hn
  clear hm hn hlo hhi
  generalize hT : totFrom lo (hi + 1 - lo).toNat lo 0 = T
  have HT := Lib.hid hT
  clear hT
  go_enter Tryz.func83, Tryz.ntmps83
  go_wp2
  go_loop [2, 3, 4] (fun p q r => ∃ (n k : Int) (m : Nat), p = .int .i64 n ∧ q = .int .i64 m ∧ r = .int .i64 k ∧ (k = lo + m) ∧ m ≤ 100000 ∧ (k = lo ∨ k ≤ hi + 1) ∧ -1099511627776 ≤ n ∧ n ≤ 1099511627776 ∧ totFrom lo (hi + 1 - k).toNat k n = T) (fun _ _ r => (hi + 1 - intOf r).toNat)
  case atStart => exact ⟨0, lo, 0, rfl, rfl, rfl, by simp, by omega, .inl rfl, by omega, by omega, HT.out⟩
  case round =>
    obtain ⟨n, k, m, rfl, rfl, rfl, hkm, hm1, hk1, hn0, hn1, hp⟩ := hrel
    have HP := Lib.hid hp
    have HK1 := Lib.hid hk1
    have hk0 : lo ≤ k := by omega
    have HKM := Lib.hid hkm
    clear hp hk1 hkm
    by_cases hlt : k ≤ hi
    · obtain ⟨r, hr⟩ : ∃ r, (hi + 1 - k).toNat = r + 1 := ⟨(hi - k).toNat, by omega⟩
      have hr' : (hi + 1 - (k + 1)).toNat = r := by omega
      by_cases hl : 100000 ≤ m
      · have hs : totFrom lo (hi + 1 - k).toNat k n = .stop 0 3 := by rw [hr]; simp only [totFrom]; rw [if_pos (by have := HKM.out; omega)]
        have HS := Lib.hid hs
        have hme : ((m : Int) == 100000) = true := by rw [beq_iff_eq]; omega
        clear hs hr hr'
        go_wp2
        refine bodyPost_ret (results_none rfl _ _ _) rfl ⟨rfl, RRes.of (HS.out.symm.trans HP.out) ?_⟩
        exact H.out.set6 true
      · have hme : ((m : Int) == 100000) = false := by rw [beq_eq_false_iff_ne]; omega
        cases hv : inNum (n + k) with
        | true =>
          have hs : totFrom lo (hi + 1 - k).toNat k n = totFrom lo (hi + 1 - (k + 1)).toNat (k + 1) (n + k) := by rw [hr, hr']; simp only [totFrom]; rw [if_neg (by have := HKM.out; omega), if_pos hv]
          have HS := Lib.hid hs
          have HVV := Lib.hid hv
          have hx := inNum_true.1 hv
          clear hs hr hr' hv
          go_wp2_with (go_at_call 81; refine (beyond_any _ _).mono ?_; rintro e w' ⟨rfl, rfl⟩; rw [HVV.out])
          go_round
          case rel => exact ⟨n + k, k + 1, m + 1, rfl, by go_num, by go_num, by have := HKM.out; omega, by omega, by omega, hx.1, hx.2, by rw [← HS.out]; exact HP.out⟩
          case measure => simp [intOf]; omega
        | false =>
          have hs : totFrom lo (hi + 1 - k).toNat k n = .stop 7 0 := by rw [hr]; simp only [totFrom]; rw [if_neg (by have := HKM.out; omega), if_neg (by rw [hv]; decide)]
          have HS := Lib.hid hs
          have HVV := Lib.hid hv
          clear hs hr hr' hv
          go_wp2_with (go_at_call 81; refine (beyond_any _ _).mono ?_; rintro e w' ⟨rfl, rfl⟩; rw [HVV.out])
          refine bodyPost_ret (results_none rfl _ _ _) rfl ⟨rfl, RRes.of (HS.out.symm.trans HP.out) ?_⟩
          exact H.out.set5 7
    · have hz : (hi + 1 - k).toNat = 0 := by omega
      have HZ := Lib.hid hz
      clear hz
      go_wp2_with (go_at_call 77; refine (put_any B b L K lo hi O 0 false _ _ H.out HN.out).mono ?_; rintro e w' ⟨rfl, hd⟩; have HD := Lib.hid hd; clear hd)
      go_end0
      exact ⟨rfl, RRes.of (by rw [← HP.out, HZ.out]; rfl) (show RRes B w b L K lo hi O (.val n) w' from HD.out)⟩
end Go.Proofs.YtpnbhoeghncnnaaGreatDoor
namespace Go.Proofs.YtpnbhoeghncnnaaGreatDoor
open Go.RowKit
theorem RS.fr0 {B : Nat} {w w' : World} {b : Nat} {L K : List Int} {lo hi : Int} {O : List Int} {f : Int} {lg : Bool} (h : RS B w b L K lo hi O f lg) (hf : Fr (fun _ => False) w w') : RS B w' b L K lo hi O f lg := h.fr hf (fun _ _ _ h => h)
theorem RS.fault {B : Nat} {w w' : World} {b : Nat} {L K : List Int} {lo hi : Int} {O : List Int} {f : Int} {lg : Bool} (h : RS B w b L K lo hi O f lg) (f' : Int) (hf : Fr (fun _ => False) (w.setCell ⟨b, 5, none⟩ (.int .i64 f')) w') : RDid B w b L K lo hi O f' lg w' :=
  ⟨(h.set5 f').1.fr0 hf, (h.set5 f').2.trans hf (fun _ _ h => h.elim)⟩
theorem RS.low {B : Nat} {w w' : World} {b : Nat} {L K : List Int} {lo hi : Int} {O : List Int} {f : Int} {lg : Bool} (h : RS B w b L K lo hi O f lg) (n : Int) (hf : Fr (fun _ => False) (w.setCell ⟨b, 2, none⟩ (.int .i64 n)) w') : RDid B w b L K n hi O f lg w' :=
  ⟨(h.set2 n).1.fr0 hf, (h.set2 n).2.trans hf (fun _ _ h => h.elim)⟩
set_option maxHeartbeats 1000000 in
theorem rcounter_count (B b : Nat) (L K : List Int) (lo hi : Int) (O : List Int) (x y : Int) (w : World) (h : RS B w b L K lo hi O 0 false) (hn : O.length ≤ 1000) :
    Calls Tryz.prog 24 #[.pointer (some ⟨b, 0, none⟩), .agg #[.string ⟨#[99, 111, 117, 110, 116]⟩, .int .i64 x, .int .i64 y]] w fun e w' => e = .returned (.tuple #[]) ∧ RDid B w b L K lo hi (O ++ [lo]) 0 false w' := by
  have H := Lib.hid h
  obtain ⟨vL, vK, vO, oL, oK, oO, hm, hl, hk, ho, hs⟩ := h
  obtain ⟨sL, cL, rfl⟩ := hl.form
  obtain ⟨sK, cK, rfl⟩ := hk.form
  have hlt := heap_lt hm
  have c2 := hm.c2
  have HM := Lib.hid hm
  have HL := Lib.hid hl
  have HK := Lib.hid hk
  have HO := Lib.hid ho
  have HS := Lib.hid hs
  have HN := Lib.hid hn
  clear hm hl hk ho hs hn
  go_enter Tryz.func24, Tryz.ntmps24
  go_wp2_with (first
    | (go_at_call 77; refine (put_any B b L K lo hi O 0 false _ _ (H.out.fr0 (Fr.alloc _ w _)) HN.out).mono ?_; rintro e w' ⟨rfl, hd⟩; have HD := Lib.hid (hd.tr ((Fr.alloc _ w _).weak)); clear hd))
  first | (refine bodyPost_ret (results_none rfl _ _ _) rfl ?_) | go_end0
  exact ⟨rfl, HD.out⟩
set_option maxHeartbeats 1000000 in
theorem rcounter_up_true (B b : Nat) (L K : List Int) (lo hi : Int) (O : List Int) (x y : Int) (w : World) (h : RS B w b L K lo hi O 0 false) (hn : O.length ≤ 1000) (hlo : inNum lo = true) (hv : inNum (lo + 1) = true) :
    Calls Tryz.prog 24 #[.pointer (some ⟨b, 0, none⟩), .agg #[.string ⟨#[117, 112]⟩, .int .i64 x, .int .i64 y]] w fun e w' => e = .returned (.tuple #[]) ∧ RDid B w b L K (lo + 1) hi O 0 false w' := by
  have HV := Lib.hid hv
  have b1 := inNum_true.1 hlo
  clear hv hlo
  have H := Lib.hid h
  obtain ⟨vL, vK, vO, oL, oK, oO, hm, hl, hk, ho, hs⟩ := h
  obtain ⟨sL, cL, rfl⟩ := hl.form
  obtain ⟨sK, cK, rfl⟩ := hk.form
  have hlt := heap_lt hm
  have c2 := hm.c2
  have z2 := hm.fz 2
  have c5 := hm.c5
  have z5 := hm.fz 5
  have HM := Lib.hid hm
  have HL := Lib.hid hl
  have HK := Lib.hid hk
  have HO := Lib.hid ho
  have HS := Lib.hid hs
  have HN := Lib.hid hn
  clear hm hl hk ho hs hn
  go_enter Tryz.func24, Tryz.ntmps24
  go_wp2_with (first
    | (go_at_call 81; refine (beyond_any _ _).mono ?_; rintro e w' ⟨rfl, rfl⟩; rw [HV.out]))
  first | (refine bodyPost_ret (results_none rfl _ _ _) rfl ?_) | go_end0
  exact ⟨rfl, H.out.low _ (Fr.alloc _ _ _)⟩
set_option maxHeartbeats 1000000 in
theorem rcounter_up_false (B b : Nat) (L K : List Int) (lo hi : Int) (O : List Int) (x y : Int) (w : World) (h : RS B w b L K lo hi O 0 false) (hn : O.length ≤ 1000) (hlo : inNum lo = true) (hv : inNum (lo + 1) = false) :
    Calls Tryz.prog 24 #[.pointer (some ⟨b, 0, none⟩), .agg #[.string ⟨#[117, 112]⟩, .int .i64 x, .int .i64 y]] w fun e w' => e = .returned (.tuple #[]) ∧ RDid B w b L K lo hi O 7 false w' := by
  have HV := Lib.hid hv
  have b1 := inNum_true.1 hlo
  clear hv hlo
  have H := Lib.hid h
  obtain ⟨vL, vK, vO, oL, oK, oO, hm, hl, hk, ho, hs⟩ := h
  obtain ⟨sL, cL, rfl⟩ := hl.form
  obtain ⟨sK, cK, rfl⟩ := hk.form
  have hlt := heap_lt hm
  have c2 := hm.c2
  have z2 := hm.fz 2
  have c5 := hm.c5
  have z5 := hm.fz 5
  have HM := Lib.hid hm
  have HL := Lib.hid hl
  have HK := Lib.hid hk
  have HO := Lib.hid ho
  have HS := Lib.hid hs
  have HN := Lib.hid hn
  clear hm hl hk ho hs hn
  go_enter Tryz.func24, Tryz.ntmps24
  go_wp2_with (first
    | (go_at_call 81; refine (beyond_any _ _).mono ?_; rintro e w' ⟨rfl, rfl⟩; rw [HV.out]))
  first | (refine bodyPost_ret (results_none rfl _ _ _) rfl ?_) | go_end0
  exact ⟨rfl, H.out.fault 7 (Fr.alloc _ _ _)⟩
set_option maxHeartbeats 1000000 in
theorem rcounter_add_true (B b : Nat) (L K : List Int) (lo hi : Int) (O : List Int) (x y : Int) (w : World) (h : RS B w b L K lo hi O 0 false) (hn : O.length ≤ 1000) (hx : inNum x = true) (hx0 : 0 ≤ x) (hlo : inNum lo = true) (hv : inNum (lo + x) = true) :
    Calls Tryz.prog 24 #[.pointer (some ⟨b, 0, none⟩), .agg #[.string ⟨#[97, 100, 100]⟩, .int .i64 x, .int .i64 y]] w fun e w' => e = .returned (.tuple #[]) ∧ RDid B w b L K (lo + x) hi O 0 false w' := by
  have HV := Lib.hid hv
  have b1 := inNum_true.1 hlo
  have b2 := inNum_true.1 hx
  clear hx
  clear hv hlo
  have H := Lib.hid h
  obtain ⟨vL, vK, vO, oL, oK, oO, hm, hl, hk, ho, hs⟩ := h
  obtain ⟨sL, cL, rfl⟩ := hl.form
  obtain ⟨sK, cK, rfl⟩ := hk.form
  have hlt := heap_lt hm
  have c2 := hm.c2
  have z2 := hm.fz 2
  have c5 := hm.c5
  have z5 := hm.fz 5
  have HM := Lib.hid hm
  have HL := Lib.hid hl
  have HK := Lib.hid hk
  have HO := Lib.hid ho
  have HS := Lib.hid hs
  have HN := Lib.hid hn
  clear hm hl hk ho hs hn
  go_enter Tryz.func24, Tryz.ntmps24
  go_wp2_with (first
    | (go_at_call 81; refine (beyond_any _ _).mono ?_; rintro e w' ⟨rfl, rfl⟩; rw [HV.out]))
  first | (refine bodyPost_ret (results_none rfl _ _ _) rfl ?_) | go_end0
  exact ⟨rfl, H.out.low _ (Fr.alloc _ _ _)⟩
set_option maxHeartbeats 1000000 in
theorem rcounter_add_false (B b : Nat) (L K : List Int) (lo hi : Int) (O : List Int) (x y : Int) (w : World) (h : RS B w b L K lo hi O 0 false) (hn : O.length ≤ 1000) (hx : inNum x = true) (hx0 : 0 ≤ x) (hlo : inNum lo = true) (hv : inNum (lo + x) = false) :
    Calls Tryz.prog 24 #[.pointer (some ⟨b, 0, none⟩), .agg #[.string ⟨#[97, 100, 100]⟩, .int .i64 x, .int .i64 y]] w fun e w' => e = .returned (.tuple #[]) ∧ RDid B w b L K lo hi O 7 false w' := by
  have HV := Lib.hid hv
  have b1 := inNum_true.1 hlo
  have b2 := inNum_true.1 hx
  clear hx
  clear hv hlo
  have H := Lib.hid h
  obtain ⟨vL, vK, vO, oL, oK, oO, hm, hl, hk, ho, hs⟩ := h
  obtain ⟨sL, cL, rfl⟩ := hl.form
  obtain ⟨sK, cK, rfl⟩ := hk.form
  have hlt := heap_lt hm
  have c2 := hm.c2
  have z2 := hm.fz 2
  have c5 := hm.c5
  have z5 := hm.fz 5
  have HM := Lib.hid hm
  have HL := Lib.hid hl
  have HK := Lib.hid hk
  have HO := Lib.hid ho
  have HS := Lib.hid hs
  have HN := Lib.hid hn
  clear hm hl hk ho hs hn
  go_enter Tryz.func24, Tryz.ntmps24
  go_wp2_with (first
    | (go_at_call 81; refine (beyond_any _ _).mono ?_; rintro e w' ⟨rfl, rfl⟩; rw [HV.out]))
  first | (refine bodyPost_ret (results_none rfl _ _ _) rfl ?_) | go_end0
  exact ⟨rfl, H.out.fault 7 (Fr.alloc _ _ _)⟩
set_option maxHeartbeats 1000000 in
theorem rcounter_add_no (B b : Nat) (L K : List Int) (lo hi : Int) (O : List Int) (x y : Int) (w : World) (h : RS B w b L K lo hi O 0 false) (hn : O.length ≤ 1000) (hx0 : x < 0) :
    Calls Tryz.prog 24 #[.pointer (some ⟨b, 0, none⟩), .agg #[.string ⟨#[97, 100, 100]⟩, .int .i64 x, .int .i64 y]] w fun e w' => e = .returned (.tuple #[]) ∧ RDid B w b L K lo hi O 1 false w' := by
  have H := Lib.hid h
  obtain ⟨vL, vK, vO, oL, oK, oO, hm, hl, hk, ho, hs⟩ := h
  obtain ⟨sL, cL, rfl⟩ := hl.form
  obtain ⟨sK, cK, rfl⟩ := hk.form
  have hlt := heap_lt hm
  have c2 := hm.c2
  have z2 := hm.fz 2
  have c5 := hm.c5
  have z5 := hm.fz 5
  have HM := Lib.hid hm
  have HL := Lib.hid hl
  have HK := Lib.hid hk
  have HO := Lib.hid ho
  have HS := Lib.hid hs
  have HN := Lib.hid hn
  clear hm hl hk ho hs hn
  go_enter Tryz.func24, Tryz.ntmps24
  go_wp2
  first | (refine bodyPost_ret (results_none rfl _ _ _) rfl ?_) | go_end0
  exact ⟨rfl, H.out.fault 1 (Fr.alloc _ _ _)⟩
end Go.Proofs.YtpnbhoeghncnnaaGreatDoor

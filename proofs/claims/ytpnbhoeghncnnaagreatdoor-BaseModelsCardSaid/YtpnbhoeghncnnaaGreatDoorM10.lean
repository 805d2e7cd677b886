/-
  A part of the proof of Rows.BaseModelsCardSaid (for every class and script BaseModels answers true, and its arguments read as they did; the listed library variables as the program text lays them): texts AB, PA, PB. By an AI agent.
-/
import Derived.Test.YtpnbhoeghncnnaaGreatDoorM09
namespace Go.Proofs.YtpnbhoeghncnnaaGreatDoor
open Go.RowKit
theorem bad_none {tb : List CallT} {x : ScrT} (h : tb.findIdx? (fun t => t.1.toList == x.1.toList) = none) : tbIx x.1 tb = -1 ∧ badF tb x = true := by
  rw [tbIx, badF, h]; exact ⟨rfl, rfl⟩
theorem bad_some {tb : List CallT} {x : ScrT} {i : Nat} (h : tb.findIdx? (fun t => t.1.toList == x.1.toList) = some i) : ∃ t, tb[i]? = some t ∧ tbIx x.1 tb = i ∧ badF tb x = (!inNum x.2.1 || !inNum x.2.2 || (decide (t.2.1 < 1) && x.2.1 != 0) || (decide (t.2.1 < 2) && x.2.2 != 0)) := by
  have hi := (List.findIdx?_eq_some_iff_getElem.1 h).1
  refine ⟨tb[i], List.getElem?_eq_getElem hi, by rw [tbIx, h], ?_⟩
  rw [badF, h]
  simp only [List.getElem?_eq_getElem hi]
theorem any_bad {tb : List CallT} {l : List ScrT} {m : Nat} {x : ScrT} (h : l[m]? = some x) (hb : badF tb x = true) : l.any (badF tb) = true := by
  rw [List.any_eq_true]; exact ⟨x, List.mem_of_getElem? h, hb⟩
theorem any_good {tb : List CallT} {l : List ScrT} (h : ∀ j z, j < l.length → l[j]? = some z → badF tb z = false) : l.any (badF tb) = false := by
  rw [List.any_eq_false]
  intro x hx
  obtain ⟨j, hj, rfl⟩ := List.mem_iff_getElem.1 hx
  rw [h j _ hj (List.getElem?_eq_getElem hj)]; decide
set_option maxHeartbeats 4000000 in
theorem check_run (cls : ByteArray) (so : Option Addr) (c k : Nat) (x : ByteArray) (tb : List CallT) (l : List ScrT) (w : World) (ht : names12[k]? = some x) (hix : nmIx cls names12 = k)
    (hc : CallsOf cls tb) (h0 : (0 : Int) < (tb.length : Int)) (htb : tb.length ≤ 100) (hn : (l.length : Int) ≤ 40) (hs : ScrAt w so l) :
    Calls Tryz.prog 14 #[.string cls, .slice so l.length c] w fun e w' => e = .returned (.int .i64 (if l.any (badF tb) then 1 else 0)) ∧ Fr (fun _ => False) w w' := by
  have HI := Lib.hid hix
  have HT := Lib.hid ht
  have HC := Lib.hid hc
  have HS := Lib.hid hs
  have HTB := Lib.hid htb
  generalize hres : (if l.any (badF tb) then (1 : Int) else 0) = res
  have HRES := Lib.hid hres
  clear hix ht hc hs htb hres
  have g1 : ((tb.length : Int) == 0) = false := by rw [beq_eq_false_iff_ne]; omega
  have g2 : decide ((40 : Int) < (l.length : Int)) = false := by rw [decide_eq_false_iff_not]; omega
  go_enter Tryz.func14, Tryz.ntmps14
  go_wp2_with (first
    | (go_at_call 27; refine (found_yes cls k x HT.out HI.out _).mono ?_; rintro e w' ⟨s0, n0, c0, t0, rfl, h8, hf⟩; have HF := Lib.hid hf; clear hf h8)
    | (go_at_call 31; refine (HC.out _).mono ?_; rintro e w' ⟨rfl, rfl⟩))
  go_loopw [27] (fun a wr => ∃ m : Nat, a = .int .i64 m ∧ m ≤ l.length ∧ (∀ j z, j < m → l[j]? = some z → badF tb z = false) ∧ Fr (fun _ => False) w wr) (fun a _ => l.length - (intOf a).toNat)
  case atStart => exact ⟨0, rfl, by omega, fun j z h => by omega, (HF.out.trans (Fr.alloc _ _ _) (fun _ _ h => h)).trans (Fr.alloc _ _ _) (fun _ _ h => h)⟩
  case round =>
    obtain ⟨m, rfl, hm, hb, hf⟩ := hrel
    have HB := Lib.hid hb
    have HW := Lib.hid hf
    clear hb hf
    by_cases hlt : m < l.length
    · obtain ⟨⟨nm, va, vb⟩, hy⟩ : ∃ y, l[m]? = some y := ⟨_, List.getElem?_eq_getElem hlt⟩
      obtain ⟨gg, oo, rfl, y0, y1, y2⟩ := HS.out.fr HW.out m _ hy
      have HY := Lib.hid hy
      clear hy
      dsimp only at y0 y1 y2
      cases hfi : tb.findIdx? (fun t => t.1.toList == nm.toList) with
      | none =>
        have hb2 := bad_none (x := (nm, va, vb)) hfi
        have HIX := Lib.hid hb2.1
        have HR1 := Lib.hid (show res = 1 by rw [← HRES.out, any_bad HY.out hb2.2]; rfl)
        clear hb2 hfi
        go_wp2_with (first | (go_at_call 16; refine (callOf_no cls nm tb HC.out HTB.out HIX.out _).mono ?_; rintro e w' ⟨rfl, hf⟩; have HF2 := Lib.hid hf; clear hf))
        go_ret
        exact ⟨by rw [HR1.out]; rfl, ((HW.out.trans (Fr.alloc _ _ _) (fun _ _ h => h)).trans HF2.out (fun _ _ h => h)).trans (Fr.alloc _ _ _) (fun _ _ h => h)⟩
      | some i =>
        obtain ⟨t, ht, hix, hbd⟩ := bad_some (x := (nm, va, vb)) hfi
        dsimp only at hix hbd
        have HT2 := Lib.hid ht
        have HIX := Lib.hid hix
        clear ht hix hfi
        obtain ⟨tn, na, tr⟩ := t
        dsimp only at hbd
        have HBD := Lib.hid hbd
        clear hbd
        have Z1 := Lib.hid (show (wr.alloc (.cells #[.string nm, .int .i64 va, .int .i64 vb] 40)).cell? ⟨wr.heap.size, 1, none⟩ = some (.int .i64 va) by rw [heap_cell (heap_alloc_new wr _)]; rfl)
        have Z2 := Lib.hid (show (wr.alloc (.cells #[.string nm, .int .i64 va, .int .i64 vb] 40)).cell? ⟨wr.heap.size, 2, none⟩ = some (.int .i64 vb) by rw [heap_cell (heap_alloc_new wr _)]; rfl)
        have Z3 := Lib.hid (show wr.heap.size < (wr.alloc (.cells #[.string nm, .int .i64 va, .int .i64 vb] 40)).heap.size by simp)
        cases p1 : inNum va with
        | false =>
          have P1 := Lib.hid p1
          have P2 := P1
          have HR1 := Lib.hid (show res = 1 by rw [← HRES.out, any_bad HY.out (by rw [HBD.out]; simp [p1])]; rfl)
          clear p1
          go_wp2_with (first
            | (go_at_call 16; refine (callOf_yes cls nm tb HC.out HTB.out i (tn, na, tr) HT2.out HIX.out _).mono ?_; rintro e w2 ⟨rfl, hf⟩; have HF2 := Lib.hid hf; have q1 := hf.cell Z1.out id; have q2 := hf.cell Z2.out id; have hz := Nat.lt_of_lt_of_le Z3.out hf.size; clear hf; dsimp only)
            | (go_at_call 32; refine (within_any _ _).mono ?_; rintro e w3 ⟨rfl, rfl⟩; first | rw [P1.out] | rw [P2.out]))
          go_ret
          exact ⟨by rw [HR1.out]; rfl, (HW.out.trans (Fr.alloc _ _ _) (fun _ _ h => h)).trans (HF2.out.trans (Fr.alloc _ _ _) (fun _ _ h => h)) (fun _ _ h => h)⟩
        | true =>
        have P1 := Lib.hid p1
        cases p2 : inNum vb with
        | false =>
          have P2 := Lib.hid p2
          have HR1 := Lib.hid (show res = 1 by rw [← HRES.out, any_bad HY.out (by rw [HBD.out]; simp [p1, p2])]; rfl)
          clear p1 p2
          go_wp2_with (first
            | (go_at_call 16; refine (callOf_yes cls nm tb HC.out HTB.out i (tn, na, tr) HT2.out HIX.out _).mono ?_; rintro e w2 ⟨rfl, hf⟩; have HF2 := Lib.hid hf; have q1 := hf.cell Z1.out id; have q2 := hf.cell Z2.out id; have hz := Nat.lt_of_lt_of_le Z3.out hf.size; clear hf; dsimp only)
            | (go_at_call 32; refine (within_any _ _).mono ?_; rintro e w3 ⟨rfl, rfl⟩; first | rw [P1.out] | rw [P2.out]))
          go_ret
          exact ⟨by rw [HR1.out]; rfl, (HW.out.trans (Fr.alloc _ _ _) (fun _ _ h => h)).trans (HF2.out.trans (Fr.alloc _ _ _) (fun _ _ h => h)) (fun _ _ h => h)⟩
        | true =>
        have P2 := Lib.hid p2
        by_cases d1 : na < 1
        · have d1' : decide (na < 1) = true := by simpa using d1
          cases z1 : va != 0 with
          | true =>
            have HR1 := Lib.hid (show res = 1 by rw [← HRES.out, any_bad HY.out (by rw [HBD.out]; simp [p1, p2, d1, z1])]; rfl)
            clear p1 p2 d1
            go_wp2_with (first
              | (go_at_call 16; refine (callOf_yes cls nm tb HC.out HTB.out i (tn, na, tr) HT2.out HIX.out _).mono ?_; rintro e w2 ⟨rfl, hf⟩; have HF2 := Lib.hid hf; have q1 := hf.cell Z1.out id; have q2 := hf.cell Z2.out id; have hz := Nat.lt_of_lt_of_le Z3.out hf.size; clear hf; dsimp only)
              | (go_at_call 32; refine (within_any _ _).mono ?_; rintro e w3 ⟨rfl, rfl⟩; first | rw [P1.out] | rw [P2.out]))
            go_ret
            exact ⟨by rw [HR1.out]; rfl, (HW.out.trans (Fr.alloc _ _ _) (fun _ _ h => h)).trans (HF2.out.trans (Fr.alloc _ _ _) (fun _ _ h => h)) (fun _ _ h => h)⟩
          | false =>
          have d2' : decide (na < 2) = true := by simp; omega
          cases z2 : vb != 0 with
          | true =>
            have HR1 := Lib.hid (show res = 1 by rw [← HRES.out, any_bad HY.out (by rw [HBD.out]; simp [p1, p2, d1, z1, z2, d2'])]; rfl)
            clear p1 p2 d1
            go_wp2_with (first
              | (go_at_call 16; refine (callOf_yes cls nm tb HC.out HTB.out i (tn, na, tr) HT2.out HIX.out _).mono ?_; rintro e w2 ⟨rfl, hf⟩; have HF2 := Lib.hid hf; have q1 := hf.cell Z1.out id; have q2 := hf.cell Z2.out id; have hz := Nat.lt_of_lt_of_le Z3.out hf.size; clear hf; dsimp only)
              | (go_at_call 32; refine (within_any _ _).mono ?_; rintro e w3 ⟨rfl, rfl⟩; first | rw [P1.out] | rw [P2.out]))
            go_ret
            exact ⟨by rw [HR1.out]; rfl, (HW.out.trans (Fr.alloc _ _ _) (fun _ _ h => h)).trans (HF2.out.trans (Fr.alloc _ _ _) (fun _ _ h => h)) (fun _ _ h => h)⟩
          | false =>
            have HG := Lib.hid (show badF tb (nm, va, vb) = false by rw [HBD.out]; simp [p1, p2, d1, z1, z2])
            clear p1 p2 d1
            go_wp2_with (first
              | (go_at_call 16; refine (callOf_yes cls nm tb HC.out HTB.out i (tn, na, tr) HT2.out HIX.out _).mono ?_; rintro e w2 ⟨rfl, hf⟩; have HF2 := Lib.hid hf; have q1 := hf.cell Z1.out id; have q2 := hf.cell Z2.out id; have hz := Nat.lt_of_lt_of_le Z3.out hf.size; clear hf; dsimp only)
              | (go_at_call 32; refine (within_any _ _).mono ?_; rintro e w3 ⟨rfl, rfl⟩; first | rw [P1.out] | rw [P2.out]))
            go_roundw
            case rel => exact ⟨m + 1, by go_num, by omega, fun j z hj hz' => by
              rcases Nat.lt_or_ge j m with h | h
              · exact HB.out j z h hz'
              · obtain rfl : j = m := by omega
                rw [HY.out] at hz'; cases hz'; exact HG.out, (HW.out.trans (Fr.alloc _ _ _) (fun _ _ h => h)).trans (HF2.out.trans (Fr.alloc _ _ _) (fun _ _ h => h)) (fun _ _ h => h)⟩
            case measure => simp [intOf]; omega
        · have d1' : decide (na < 1) = false := by simpa using d1
          by_cases d2 : na < 2
          · have d2' : decide (na < 2) = true := by simpa using d2
            cases z2 : vb != 0 with
            | true =>
              have HR1 := Lib.hid (show res = 1 by rw [← HRES.out, any_bad HY.out (by rw [HBD.out]; simp [p1, p2, d1', z2, d2'])]; rfl)
              clear p1 p2 d1 d2
              go_wp2_with (first
                | (go_at_call 16; refine (callOf_yes cls nm tb HC.out HTB.out i (tn, na, tr) HT2.out HIX.out _).mono ?_; rintro e w2 ⟨rfl, hf⟩; have HF2 := Lib.hid hf; have q1 := hf.cell Z1.out id; have q2 := hf.cell Z2.out id; have hz := Nat.lt_of_lt_of_le Z3.out hf.size; clear hf; dsimp only)
                | (go_at_call 32; refine (within_any _ _).mono ?_; rintro e w3 ⟨rfl, rfl⟩; first | rw [P1.out] | rw [P2.out]))
              go_ret
              exact ⟨by rw [HR1.out]; rfl, (HW.out.trans (Fr.alloc _ _ _) (fun _ _ h => h)).trans (HF2.out.trans (Fr.alloc _ _ _) (fun _ _ h => h)) (fun _ _ h => h)⟩
            | false =>
              have HG := Lib.hid (show badF tb (nm, va, vb) = false by rw [HBD.out]; simp [p1, p2, d1', z2, d2'])
              clear p1 p2 d1 d2
              go_wp2_with (first
                | (go_at_call 16; refine (callOf_yes cls nm tb HC.out HTB.out i (tn, na, tr) HT2.out HIX.out _).mono ?_; rintro e w2 ⟨rfl, hf⟩; have HF2 := Lib.hid hf; have q1 := hf.cell Z1.out id; have q2 := hf.cell Z2.out id; have hz := Nat.lt_of_lt_of_le Z3.out hf.size; clear hf; dsimp only)
                | (go_at_call 32; refine (within_any _ _).mono ?_; rintro e w3 ⟨rfl, rfl⟩; first | rw [P1.out] | rw [P2.out]))
              go_roundw
              case rel => exact ⟨m + 1, by go_num, by omega, fun j z hj hz' => by
                rcases Nat.lt_or_ge j m with h | h
                · exact HB.out j z h hz'
                · obtain rfl : j = m := by omega
                  rw [HY.out] at hz'; cases hz'; exact HG.out, (HW.out.trans (Fr.alloc _ _ _) (fun _ _ h => h)).trans (HF2.out.trans (Fr.alloc _ _ _) (fun _ _ h => h)) (fun _ _ h => h)⟩
              case measure => simp [intOf]; omega
          · have d2' : decide (na < 2) = false := by simpa using d2
            have HG := Lib.hid (show badF tb (nm, va, vb) = false by rw [HBD.out]; simp [p1, p2, d1', d2'])
            clear p1 p2 d1 d2
            go_wp2_with (first
              | (go_at_call 16; refine (callOf_yes cls nm tb HC.out HTB.out i (tn, na, tr) HT2.out HIX.out _).mono ?_; rintro e w2 ⟨rfl, hf⟩; have HF2 := Lib.hid hf; have q1 := hf.cell Z1.out id; have q2 := hf.cell Z2.out id; have hz := Nat.lt_of_lt_of_le Z3.out hf.size; clear hf; dsimp only)
              | (go_at_call 32; refine (within_any _ _).mono ?_; rintro e w3 ⟨rfl, rfl⟩; first | rw [P1.out] | rw [P2.out]))
            go_roundw
            case rel => exact ⟨m + 1, by go_num, by omega, fun j z hj hz' => by
              rcases Nat.lt_or_ge j m with h | h
              · exact HB.out j z h hz'
              · obtain rfl : j = m := by omega
                rw [HY.out] at hz'; cases hz'; exact HG.out, (HW.out.trans (Fr.alloc _ _ _) (fun _ _ h => h)).trans (HF2.out.trans (Fr.alloc _ _ _) (fun _ _ h => h)) (fun _ _ h => h)⟩
            case measure => simp [intOf]; omega
    · obtain rfl : m = l.length := by omega
      have HZ := Lib.hid (show res = 0 by rw [← HRES.out, any_good HB.out]; rfl)
      go_wp2
      go_ret
      exact ⟨by rw [HZ.out]; rfl, HW.out⟩
end Go.Proofs.YtpnbhoeghncnnaaGreatDoor
namespace Go.Proofs.YtpnbhoeghncnnaaGreatDoor
open Go.RowKit
/-- What a model holds: a list, keys with values, two bounds. -/
structure St where
  xs : List Int
  al : List (Int × Int)
  lo : Int
  hi : Int
inductive Out where
  | go (n : Int) (s : St)
  | halt (f e : Int)
def ofR (r : Res) (s : St) : Out := match r with
  | .val n => .go n s
  | .stop f e => .halt f e
def stepI (so : Bool) (i : Nat) (a : Int) (s : St) : Out := match i with
  | 0 => .go s.xs.length s
  | 1 => .go 0 { s with xs := if so then insF a s.xs else a :: s.xs }
  | 2 => .go 0 { s with xs := if so then insF a s.xs else s.xs ++ [a] }
  | 3 => .go (boolI (decide (0 ≤ ixI (fun y => a == y) s.xs))) s
  | 4 => ofR (itemF a s.xs) s
  | 5 => ofR (sumFrom s.xs 0) s
  | 6 => .go 0 { s with xs := rmF a s.xs }
  | 7 => .go 0 { s with xs := if so then s.xs else s.xs.reverse }
  | _ => .go 0 { s with xs := [] }
def stepF (k i : Nat) (a b : Int) (s : St) : Out := match k with
  | 1 => stepI false i a s
  | 2 => stepI true i a s
  | 4 => match i with
    | 0 => .go s.xs.length s
    | 1 => if a < 0 then .halt 1 0 else .go 0 { s with xs := a :: s.xs }
    | 2 => match s.xs with
      | [] => .halt 1 0
      | _ :: r => .go 0 { s with xs := r }
    | _ => match s.xs with
      | [] => .go 0 s
      | z :: _ => .go z s
  | 5 => match i with
    | 0 => .go s.xs.length s
    | 1 => .go 0 { s with xs := s.xs ++ [a] }
    | 2 => match s.xs with
      | [] => .halt 1 0
      | _ :: r => .go 0 { s with xs := r }
    | _ => match s.xs with
      | [] => .halt 1 0
      | z :: _ => .go z s
  | 7 => match i with
    | 0 => .go s.al.length s
    | 1 => .go 0 { s with al := updA a b s.al }
    | 2 => .go (boolI (hasA a s.al)) s
    | 3 => .go (getA a s.al) s
    | _ => .go 0 { s with al := delA a s.al }
  | 8 => match i with
    | 0 => .go 0 { s with xs := joinF a s.xs }
    | 1 => .go 0 { s with xs := rmF a s.xs }
    | 2 => .go (boolI (decide (0 ≤ ixI (fun y => a == y) s.xs))) s
    | _ => .go s.xs.length s
  | 9 => match i with
    | 0 => .go s.lo s
    | 1 => if inNum (s.lo + 1) then .go 0 { s with lo := s.lo + 1 } else .halt 7 0
    | _ => if a < 0 then .halt 1 0 else if inNum (s.lo + a) then .go 0 { s with lo := s.lo + a } else .halt 7 0
  | 10 => match i with
    | 0 => .go s.lo s
    | 1 => .go s.hi s
    | 2 => if inNum (b + 1) then (if a ≤ b + 1 then .go 0 { s with lo := a, hi := b } else .halt 1 0) else .halt 7 0
    | 3 => .go (boolI (decide (s.lo ≤ a ∧ a ≤ s.hi))) s
    | 4 => ofR (widthF s.lo s.hi) s
    | _ => ofR (totF s.lo s.hi) s
  | _ => match i with
    | 0 => ofR (gcdF a b) s
    | 1 => ofR (powF a b) s
    | 2 => ofR (factF a) s
    | _ => ofR (triesF a) s
def tabK (k : Nat) : List CallT := match k with
  | 1 => tabINTS
  | 2 => tabSORTED
  | 4 => tabSTACK
  | 5 => tabQUEUE
  | 7 => tabTABLE
  | 8 => tabSET
  | 9 => tabCOUNTER
  | 10 => tabRANGE
  | 11 => tabARITH
  | _ => []
/-- The bounds that the contracts ask. -/
structure Good (n : Nat) (s : St) : Prop where
  len : s.xs.length ≤ n
  all : AllIn s.xs
  lo : inNum s.lo = true
  hi : inNum s.hi = true
theorem AllIn.cons {x : Int} {xs : List Int} (hx : inNum x = true) (h : AllIn xs) : AllIn (x :: xs) := fun y hy => by
  rcases List.mem_cons.1 hy with rfl | hy
  · exact hx
  · exact h y hy
theorem AllIn.app {xs ys : List Int} (h : AllIn xs) (h2 : AllIn ys) : AllIn (xs ++ ys) := fun y hy => by
  rcases List.mem_append.1 hy with hy | hy
  · exact h y hy
  · exact h2 y hy
theorem AllIn.sub {xs ys : List Int} (h : AllIn xs) (hs : ∀ y ∈ ys, y ∈ xs) : AllIn ys := fun y hy => h y (hs y hy)
theorem AllIn.one {x : Int} (hx : inNum x = true) : AllIn [x] := AllIn.cons hx (fun _ h => by cases h)
theorem insF_good {x : Int} {xs : List Int} (hx : inNum x = true) (h : AllIn xs) : (insF x xs).length = xs.length + 1 ∧ AllIn (insF x xs) := by
  have hi : (if ixI (fun y => decide (x ≤ y)) xs < 0 then xs.length else (ixI (fun y => decide (x ≤ y)) xs).toNat) ≤ xs.length := by
    have := ixI_le (p := fun y => decide (x ≤ y)) (xs := xs)
    split <;> omega
  refine ⟨insAt_len _ x xs hi, ?_⟩
  unfold insF insAt
  exact (h.sub fun y hy => List.mem_of_mem_take hy).app (AllIn.cons hx (h.sub fun y hy => List.mem_of_mem_drop hy))
theorem rmF_good {x : Int} {xs : List Int} (h : AllIn xs) : (rmF x xs).length ≤ xs.length ∧ AllIn (rmF x xs) := by
  unfold rmF
  split
  · unfold delAt
    refine ⟨by simp; omega, (h.sub fun y hy => List.mem_of_mem_take hy).app (h.sub fun y hy => List.mem_of_mem_drop hy)⟩
  · exact ⟨Nat.le_refl _, h⟩
theorem ofR_go {r : Res} {s s' : St} {m : Int} (h : ofR r s = .go m s') : s' = s := by
  cases r <;> simp [ofR] at h
  exact h.2.symm
theorem Good.same {n : Nat} {s : St} (h : Good n s) : Good (n + 1) s := ⟨by have := h.len; omega, h.all, h.lo, h.hi⟩
theorem good_step {k i : Nat} {a b : Int} {n : Nat} {s s' : St} {m : Int} (ha : inNum a = true) (hb : inNum b = true) (h : Good n s) (hs : stepF k i a b s = .go m s') : Good (n + 1) s' := by
  have hl := h.len
  have I : ∀ so, stepI so i a s = .go m s' → Good (n + 1) s' := by
    intro so hs
    unfold stepI at hs
    split at hs
    · cases hs; exact h.same
    · cases hs
      cases so
      · exact ⟨by simp; omega, AllIn.cons ha h.all, h.lo, h.hi⟩
      · exact ⟨by have := (insF_good ha h.all).1; simp; omega, (insF_good ha h.all).2, h.lo, h.hi⟩
    · cases hs
      cases so
      · exact ⟨by simp; omega, h.all.app (AllIn.one ha), h.lo, h.hi⟩
      · exact ⟨by have := (insF_good ha h.all).1; simp; omega, (insF_good ha h.all).2, h.lo, h.hi⟩
    · cases hs; exact h.same
    · rw [ofR_go hs]; exact h.same
    · rw [ofR_go hs]; exact h.same
    · cases hs; exact ⟨by have := (rmF_good (x := a) h.all).1; simp; omega, (rmF_good h.all).2, h.lo, h.hi⟩
    · cases hs
      cases so
      · exact ⟨by simp; omega, h.all.sub fun y hy => by simpa using hy, h.lo, h.hi⟩
      · exact h.same
    · cases hs; exact ⟨by simp, (fun _ h => by cases h), h.lo, h.hi⟩
  unfold stepF at hs
  split at hs
  · exact I _ hs
  · exact I _ hs
  · split at hs
    · cases hs; exact h.same
    · split at hs
      · cases hs
      · cases hs; exact ⟨by simp; omega, AllIn.cons ha h.all, h.lo, h.hi⟩
    · split at hs
      · cases hs
      · rename_i z r hx
        cases hs; exact ⟨by rw [hx] at hl; simp at hl ⊢; omega, h.all.sub fun y hy => by rw [hx]; exact List.mem_cons_of_mem _ hy, h.lo, h.hi⟩
    · split at hs <;> cases hs <;> exact h.same
  · split at hs
    · cases hs; exact h.same
    · cases hs; exact ⟨by simp; omega, h.all.app (AllIn.one ha), h.lo, h.hi⟩
    · split at hs
      · cases hs
      · rename_i z r hx
        cases hs; exact ⟨by rw [hx] at hl; simp at hl ⊢; omega, h.all.sub fun y hy => by rw [hx]; exact List.mem_cons_of_mem _ hy, h.lo, h.hi⟩
    · split at hs <;> cases hs; exact h.same
  · split at hs <;> cases hs <;> exact ⟨Nat.le_succ_of_le h.len, h.all, h.lo, h.hi⟩
  · split at hs
    · cases hs
      unfold joinF
      refine ⟨?_, ?_, h.lo, h.hi⟩
      · show (if 0 ≤ ixI (fun y => a == y) s.xs then s.xs else a :: s.xs).length ≤ n + 1
        split
        · omega
        · rw [List.length_cons]; omega
      · show AllIn (if 0 ≤ ixI (fun y => a == y) s.xs then s.xs else a :: s.xs)
        split
        · exact h.all
        · exact AllIn.cons ha h.all
    · cases hs; exact ⟨by have := (rmF_good (x := a) h.all).1; simp; omega, (rmF_good h.all).2, h.lo, h.hi⟩
    · cases hs; exact h.same
    · cases hs; exact h.same
  · split at hs
    · cases hs; exact h.same
    · split at hs
      · rename_i hv; cases hs; exact ⟨by simp; omega, h.all, hv, h.hi⟩
      · cases hs
    · split at hs
      · cases hs
      · split at hs
        · rename_i hv; cases hs; exact ⟨by simp; omega, h.all, hv, h.hi⟩
        · cases hs
  · split at hs
    · cases hs; exact h.same
    · cases hs; exact h.same
    · split at hs
      · split at hs
        · cases hs; exact ⟨by simp; omega, h.all, ha, hb⟩
        · cases hs
      · cases hs
    · cases hs; exact h.same
    · rw [ofR_go hs]; exact h.same
    · rw [ofR_go hs]; exact h.same
  · split at hs <;> (rw [ofR_go hs]; exact h.same)
end Go.Proofs.YtpnbhoeghncnnaaGreatDoor
namespace Go.Proofs.YtpnbhoeghncnnaaGreatDoor
open Go.RowKit
/-- How a deed lies in the map of deeds. -/
inductive DK where
  | plain (n : Nat)
  | free (n : Nat)
  | quiet (n : Nat)
  | quietF (n : Nat)
  | quietC (n : Nat)
def deedK (k i : Nat) : DK := match k with
  | 1 => match i with
    | 0 => .plain 33 | 1 => .quiet 37 | 2 => .quiet 38 | 3 => .plain 34 | 4 => .plain 40 | 5 => .plain 35 | 6 => .quiet 41 | 7 => .quiet 39 | _ => .quiet 42
  | 2 => match i with
    | 0 => .plain 33 | 1 => .quiet 43 | 2 => .quiet 43 | 3 => .plain 34 | 4 => .plain 40 | 5 => .plain 35 | 6 => .quiet 41 | 7 => .quietF 44 | _ => .quiet 42
  | 4 => match i with
    | 0 => .plain 33 | 1 => .quiet 45 | 2 => .quiet 46 | _ => .plain 47
  | 5 => match i with
    | 0 => .plain 33 | 1 => .quiet 38 | 2 => .quiet 46 | _ => .plain 48
  | 7 => match i with
    | 0 => .plain 53 | 1 => .quiet 49 | 2 => .plain 50 | 3 => .plain 51 | _ => .quiet 52
  | 8 => match i with
    | 0 => .quiet 54 | 1 => .quiet 41 | 2 => .plain 34 | _ => .plain 33
  | 9 => match i with
    | 0 => .plain 55 | 1 => .quietC 56 | _ => .quietC 58
  | 10 => match i with
    | 0 => .plain 55 | 1 => .plain 60 | 2 => .quiet 61 | 3 => .plain 62 | 4 => .plain 63 | _ => .plain 64
  | _ => match i with
    | 0 => .free 65 | 1 => .free 66 | 2 => .free 67 | _ => .free 68
def DeedIs (w : World) (b mb : Nat) (d : DK) (n : Nat) (first cap : Array Value) : Prop := match d with
  | .plain N => n = N ∧ first = #[.pointer (some ⟨b, 0, none⟩)] ∧ cap = #[]
  | .free N => n = N ∧ first = #[] ∧ cap = #[]
  | .quiet N => n = 97 ∧ first = #[] ∧ ∃ B, cap = #[.pointer (some ⟨B, 0, none⟩)] ∧ w.heap[B]? = some (.cells #[.func (.func N) #[.pointer (some ⟨b, 0, none⟩)] #[]] 78 (0, 0))
  | .quietF N => n = 97 ∧ first = #[] ∧ ∃ B, cap = #[.pointer (some ⟨B, 0, none⟩)] ∧ w.heap[B]? = some (.cells #[.func (.func N) #[] #[]] 78 (0, 0))
  | .quietC N => n = 97 ∧ first = #[] ∧ ∃ B, cap = #[.pointer (some ⟨B, 0, none⟩)] ∧ w.heap[B]? = some (.cells #[.func (.func N) #[] #[.pointer (some ⟨mb, 0, none⟩)]] 78 (0, 0))
structure BInv (k b kr dr mb : Nat) (s : St) (own : Option Nat) (w : World) : Prop where
  lm : LM w b kr dr s.lo s.hi own s.xs
  km : KM w kr s.al
  dk : dr ≠ kr
  mbp : w.heap[mb]? = some (.cells #[.pointer (some ⟨b, 0, none⟩)] 45 (0, 0))
  deeds : ∃ es c, w.heap[dr]? = some (.map es c) ∧ ∀ i t, (tabK k)[i]? = some t → ∃ j n first cap, Instr.findNow .string (.string t.1) es.toList 0 = some (some (j, .func (.func n) first cap)) ∧ DeedIs w b mb (deedK k i) n first cap
/-- The blocks that a deed may write. -/
def FB (b kr : Nat) (own : Option Nat) (j : Nat) : Prop := j = b ∨ j = kr ∨ own = some j
def Upd (b kr dr : Nat) (s' : St) (own : Option Nat) (w w' : World) : Prop :=
  ∃ own', LM w' b kr dr s'.lo s'.hi own' s'.xs ∧ KM w' kr s'.al ∧ New w own own' ∧ Fr (FB b kr own) w w'
theorem LM.fr {F : Nat → Prop} {w w' : World} {b kr dr : Nat} {lo hi : Int} {own : Option Nat} {xs : List Int} (h : LM w b kr dr lo hi own xs) (hf : Fr F w w') (h1 : ¬ F b) (h2 : ∀ g, own = some g → ¬ F g) : LM w' b kr dr lo hi own xs := by
  obtain ⟨lv, hm, hl, hb⟩ := h
  exact ⟨lv, hf.heap hm h1, hl.fr hf h2, hb⟩
theorem KM.fr {F : Nat → Prop} {w w' : World} {r : Nat} {al : List (Int × Int)} (h : KM w r al) (hf : Fr F w w') (h1 : ¬ F r) : KM w' r al := by
  obtain ⟨es, c, hm, he⟩ := h
  exact ⟨es, c, hf.heap hm h1, he⟩
theorem LM.at_own {w : World} {b kr dr : Nat} {lo hi : Int} {own : Option Nat} {xs : List Int} (h : LM w b kr dr lo hi own xs) {g : Nat} (hg : own = some g) : ∃ cs, w.heap[g]? = some (.cells cs 3 (0, 0)) := by
  obtain ⟨lv, hm, hl, hb⟩ := h
  rcases hl with ⟨_, ho, _⟩ | ⟨g', o, cap, cs, h1, h2, h3, h4⟩
  · rw [ho] at hg; cases hg
  · rw [h2] at hg; cases hg; exact ⟨cs, h3⟩
theorem BInv.b_lt {k b kr dr mb : Nat} {s : St} {own : Option Nat} {w : World} (h : BInv k b kr dr mb s own w) : b < w.heap.size := by
  obtain ⟨lv, hm, _⟩ := h.lm; exact heap_lt hm
theorem BInv.kr_lt {k b kr dr mb : Nat} {s : St} {own : Option Nat} {w : World} (h : BInv k b kr dr mb s own w) : kr < w.heap.size := by
  obtain ⟨es, c, hm, _⟩ := h.km; exact heap_lt hm
theorem BInv.own_lt {k b kr dr mb : Nat} {s : St} {own : Option Nat} {w : World} (h : BInv k b kr dr mb s own w) {g : Nat} (hg : own = some g) : g < w.heap.size := by
  obtain ⟨cs, hc⟩ := h.lm.at_own hg; exact heap_lt hc
/-- What FB does not hold: the map of deeds, the cells of functions, the cell of the model's pointer. -/
theorem BInv.not_fb {k b kr dr mb : Nat} {s : St} {own : Option Nat} {w : World} (h : BInv k b kr dr mb s own w) :
    ¬ FB b kr own dr ∧ ¬ FB b kr own mb ∧ ∀ B cs, w.heap[B]? = some (.cells cs 78 (0, 0)) → ¬ FB b kr own B := by
  obtain ⟨lv, hm, hl⟩ := h.lm
  obtain ⟨es, c, hd, _⟩ := h.deeds
  obtain ⟨es', c', hk, _⟩ := h.km
  have hmb := h.mbp
  have ho := fun g hg => h.lm.at_own (g := g) hg
  refine ⟨?_, ?_, ?_⟩
  · rintro (e | e | e)
    · rw [e, hm] at hd; cases hd
    · exact h.dk e
    · obtain ⟨cs, hc⟩ := ho _ e; rw [hc] at hd; cases hd
  · rintro (e | e | e)
    · rw [e, hm] at hmb; cases hmb
    · rw [e, hk] at hmb; cases hmb
    · obtain ⟨cs, hc⟩ := ho _ e; rw [hc] at hmb; cases hmb
  · intro B cs hB
    rintro (e | e | e)
    · rw [e, hm] at hB; cases hB
    · rw [e, hk] at hB; cases hB
    · obtain ⟨cs, hc⟩ := ho _ e; rw [hc] at hB; cases hB
theorem DeedIs.fr {F : Nat → Prop} {w w' : World} {b mb : Nat} {d : DK} {n : Nat} {first cap : Array Value} (h : DeedIs w b mb d n first cap) (hf : Fr F w w') (hF : ∀ B cs, w.heap[B]? = some (.cells cs 78 (0, 0)) → ¬ F B) : DeedIs w' b mb d n first cap := by
  cases d with
  | plain N => exact h
  | free N => exact h
  | quiet N => obtain ⟨h1, h2, B, h3, h4⟩ := h; exact ⟨h1, h2, B, h3, hf.heap h4 (hF B _ h4)⟩
  | quietF N => obtain ⟨h1, h2, B, h3, h4⟩ := h; exact ⟨h1, h2, B, h3, hf.heap h4 (hF B _ h4)⟩
  | quietC N => obtain ⟨h1, h2, B, h3, h4⟩ := h; exact ⟨h1, h2, B, h3, hf.heap h4 (hF B _ h4)⟩
theorem BInv.upd {k b kr dr mb : Nat} {s s' : St} {own own' : Option Nat} {w w' : World} (h : BInv k b kr dr mb s own w) (h1 : LM w' b kr dr s'.lo s'.hi own' s'.xs) (h2 : KM w' kr s'.al) (hf : Fr (FB b kr own) w w') : BInv k b kr dr mb s' own' w' := by
  obtain ⟨n1, n2, n3⟩ := h.not_fb
  refine ⟨h1, h2, h.dk, hf.heap h.mbp n2, ?_⟩
  obtain ⟨es, c, hd, hx⟩ := h.deeds
  refine ⟨es, c, hf.heap hd n1, fun i t ht => ?_⟩
  obtain ⟨j, n, first, cap, h3, h4⟩ := hx i t ht
  exact ⟨j, n, first, cap, h3, h4.fr hf n3⟩
theorem BInv.fr {F : Nat → Prop} {k b kr dr mb : Nat} {s : St} {own : Option Nat} {w w' : World} (h : BInv k b kr dr mb s own w) (hf : Fr F w w') (hF : ∀ j, j < w.heap.size → ¬ F j) : BInv k b kr dr mb s own w' := by
  refine ⟨h.lm.fr hf (hF b h.b_lt) (fun g hg => hF g (h.own_lt hg)), h.km.fr hf (hF kr h.kr_lt), h.dk, hf.heap h.mbp (hF mb (heap_lt h.mbp)), ?_⟩
  obtain ⟨es, c, hd, hx⟩ := h.deeds
  refine ⟨es, c, hf.heap hd (hF dr (heap_lt hd)), fun i t ht => ?_⟩
  obtain ⟨j, n, first, cap, h3, h4⟩ := hx i t ht
  exact ⟨j, n, first, cap, h3, h4.fr hf (fun B cs hB => hF B (heap_lt hB))⟩
theorem bstep_of {k b kr dr mb : Nat} {s s' : St} {own : Option Nat} {w : World} (hB : BInv k b kr dr mb s own w) {nm : ByteArray} {es : Array MapEntry} {c j n : Nat} {first cap : Array Value} {x y r : Int}
    (hes : w.heap[dr]? = some (.map es c)) (hf : Instr.findNow .string (.string nm) es.toList 0 = some (some (j, .func (.func n) first cap)))
    (hcf : ∀ (args : Array Value) (w : World), (callFunc n args).run Tryz.prog w = .ok (.enter n args) w)
    (hcall : ∀ w1, BInv k b kr dr mb s own w1 → Fr (fun _ => False) w w1 → Calls Tryz.prog n (first ++ (#[.int .i64 x, .int .i64 y] ++ cap)) w1 fun e w2 => e = .returned (.int .i64 r) ∧ Upd b kr dr s' own w1 w2) :
    Calls Tryz.prog 17 #[.pointer (some ⟨b, 0, none⟩), .agg #[.string nm, .int .i64 x, .int .i64 y]] w fun e w' => e = .returned (.tuple #[.int .i64 r, .agg #[.int .i64 0, .int .i64 0]]) ∧
      ∃ own', BInv k b kr dr mb s' own' w' ∧ New w own own' ∧ Fr (FB b kr own) w w' := by
  obtain ⟨n1, n2, n3⟩ := hB.not_fb
  obtain ⟨lv, hm, hl⟩ := hB.lm
  refine (done_ok b dr nm x y r es c j n first cap w (FB b kr own) (fun w1 w2 => ∃ own', LM w2 b kr dr s'.lo s'.hi own' s'.xs ∧ KM w2 kr s'.al ∧ New w1 own own' ∧ Fr (FB b kr own) w1 w2) hm.c4 hes hf hcf ?_ ?_).mono ?_
  · rintro i (rfl | rfl | e)
    · exact ⟨heap_lt hm, fun e => n1 (.inl e.symm)⟩
    · exact ⟨hB.kr_lt, fun e => n1 (.inr (.inl e.symm))⟩
    · exact ⟨hB.own_lt e, fun e' => n1 (.inr (.inr (by rw [← e']; exact e)))⟩
  · intro w1 hf1 _
    refine (hcall w1 (hB.fr hf1 (fun _ _ => id)) hf1).mono ?_
    rintro e w2 ⟨he, own', h1, h2, h3, h4⟩
    obtain ⟨lv', hm', _⟩ := id h1
    exact ⟨he, h4, hm'.c4, own', h1, h2, h3, h4⟩
  · rintro e w' ⟨he, w1, w2, f1, z1, f2, ⟨own', h1, h2, h3, h4⟩, f3⟩
    refine ⟨he, own', ?_, ?_, ?_⟩
    · have B1 := hB.fr f1 (fun _ _ => id)
      have B2 := B1.upd h1 h2 h4
      have hlt2 := f2.size
      have hb := hB.b_lt
      have hkr := hB.kr_lt
      have own3 : ∀ g, own' = some g → ¬ (w.heap.size ≤ g ∧ g < w.heap.size + 3) := by
        intro g hg
        rcases h3 with e' | e' | ⟨g', e', hge⟩
        · have := hB.own_lt (by rw [← e']; exact hg); omega
        · rw [e'] at hg; cases hg
        · rw [e'] at hg; cases hg; omega
      refine ⟨B2.lm.fr f3 (by omega) own3, B2.km.fr f3 (by omega), B2.dk, f3.heap B2.mbp (by have := heap_lt hB.mbp; omega), ?_⟩
      obtain ⟨es', c', hd, hx⟩ := hB.deeds
      have hd1 := f1.heap hd id
      refine ⟨es', c', f3.heap (f2.heap hd1 n1) (by have := heap_lt hd; omega), fun i t ht => ?_⟩
      obtain ⟨j', n', first', cap', h5, h6⟩ := hx i t ht
      refine ⟨j', n', first', cap', h5, ?_⟩
      cases hdk : deedK k i with
      | plain N => rw [hdk] at h6; exact h6
      | free N => rw [hdk] at h6; exact h6
      | quiet N => rw [hdk] at h6; obtain ⟨a1, a2, B, a3, a4⟩ := h6; exact ⟨a1, a2, B, a3, f3.heap (f2.heap (f1.heap a4 id) (n3 B _ a4)) (by have := heap_lt a4; omega)⟩
      | quietF N => rw [hdk] at h6; obtain ⟨a1, a2, B, a3, a4⟩ := h6; exact ⟨a1, a2, B, a3, f3.heap (f2.heap (f1.heap a4 id) (n3 B _ a4)) (by have := heap_lt a4; omega)⟩
      | quietC N => rw [hdk] at h6; obtain ⟨a1, a2, B, a3, a4⟩ := h6; exact ⟨a1, a2, B, a3, f3.heap (f2.heap (f1.heap a4 id) (n3 B _ a4)) (by have := heap_lt a4; omega)⟩
    · rcases h3 with e' | e' | ⟨g', e', hge⟩
      · exact .inl e'
      · exact .inr (.inl e')
      · exact .inr (.inr ⟨g', e', by have := f1.size; omega⟩)
    · exact ((f1.weak (F := FB b kr own)).trans f2 (fun _ _ h => h)).trans f3 (fun i hi h => by omega)
theorem Upd.same {b kr dr k mb : Nat} {s : St} {own : Option Nat} {w w' : World} (h : BInv k b kr dr mb s own w) (hw : w = w') : Upd b kr dr s own w w' := by
  subst hw; exact ⟨own, h.lm, h.km, .inl rfl, Fr.refl _ _⟩
theorem Upd.drawn {b kr dr k mb : Nat} {s : St} {own : Option Nat} {w w' : World} (h : BInv k b kr dr mb s own w) (hw : ∃ n, w' = w.drewN n) : Upd b kr dr s own w w' := by
  obtain ⟨n, rfl⟩ := hw; exact ⟨own, h.lm, h.km, .inl rfl, Fr.drewN _ _ _⟩
theorem Upd.did {b kr dr k mb : Nat} {s : St} {own : Option Nat} {w w' : World} (h : BInv k b kr dr mb s own w) {xs' : List Int} (hd : Did w b kr dr s.lo s.hi own xs' w') : Upd b kr dr { s with xs := xs' } own w w' := by
  obtain ⟨own', h1, h2, h3⟩ := hd
  obtain ⟨es, c, hk, _⟩ := id h.km
  obtain ⟨lv, hm, _⟩ := id h.lm
  refine ⟨own', h1, h.km.fr h3 ?_, h2, h3.mono (fun i e => by rcases e with e | e; exact .inl e; exact .inr (.inr e))⟩
  rintro (e | e)
  · rw [e, hm] at hk; cases hk
  · obtain ⟨cs, hc⟩ := h.lm.at_own e; rw [hc] at hk; cases hk
theorem Upd.didN {b kr dr k mb : Nat} {s : St} {own : Option Nat} {w w' : World} (h : BInv k b kr dr mb s own w) {lo' hi' : Int} (hd : DidN w b kr dr lo' hi' own s.xs w') : Upd b kr dr { s with lo := lo', hi := hi' } own w w' := by
  obtain ⟨h1, h3⟩ := hd
  obtain ⟨es, c, hk, _⟩ := id h.km
  obtain ⟨lv, hm, _⟩ := id h.lm
  refine ⟨own, h1, h.km.fr h3 ?_, .inl rfl, h3.mono (fun i e => .inl e)⟩
  intro e; rw [e, hm] at hk; cases hk
theorem Upd.didK {b kr dr k mb : Nat} {s : St} {own : Option Nat} {w w' : World} (_h : BInv k b kr dr mb s own w) {al' : List (Int × Int)} (hd : DidK w b kr dr s.lo s.hi own s.xs al' w') : Upd b kr dr { s with al := al' } own w w' :=
  ⟨own, hd.1, hd.2.1, .inl rfl, hd.2.2.mono (fun _ e => .inr (.inl e))⟩
end Go.Proofs.YtpnbhoeghncnnaaGreatDoor

/-
  A part of the proof of Rows.BaseModelsCardSaid (for every class and script BaseModels answers true, and its arguments read as they did; the listed library variables as the program text lays them): texts S, U, V. By an AI agent.
-/
import Derived.Test.YtpnbhoeghncnnaaGreatDoorM07
import Derived.Defers
import Derived.Recover
import Derived.Laws.Pointers
import Derived.BigRegion
import Derived.Deep.RegionHeld3
namespace Go.Proofs.YtpnbhoeghncnnaaGreatDoor
open Go.RowKit
theorem quiet_ok37 (B : Nat) (m : Nat) (x y : Int) (w : World) (R : World → Prop) (hB : w.cell? ⟨B, 0, none⟩ = some (.func (.func 37) #[.pointer (some ⟨m, 0, none⟩)] #[]))
    (h : Calls Tryz.prog 37 #[.pointer (some ⟨m, 0, none⟩), .int .i64 x, .int .i64 y] w fun e w' => e = .returned (.tuple #[]) ∧ R w') :
    Calls Tryz.prog 97 #[.int .i64 x, .int .i64 y, .pointer (some ⟨B, 0, none⟩)] w fun e w' => e = .returned (.int .i64 0) ∧ R w' := by
  have H := Lib.hid h
  clear h
  go_enter Tryz.func97, Tryz.ntmps97
  go_wp2_with (first | (go_at_call 37; refine Calls.mono H.out ?_; rintro e w' ⟨rfl, hr⟩; have HR := Lib.hid hr; clear hr))
  go_ret
  exact ⟨rfl, HR.out⟩
theorem quiet_ok38 (B : Nat) (m : Nat) (x y : Int) (w : World) (R : World → Prop) (hB : w.cell? ⟨B, 0, none⟩ = some (.func (.func 38) #[.pointer (some ⟨m, 0, none⟩)] #[]))
    (h : Calls Tryz.prog 38 #[.pointer (some ⟨m, 0, none⟩), .int .i64 x, .int .i64 y] w fun e w' => e = .returned (.tuple #[]) ∧ R w') :
    Calls Tryz.prog 97 #[.int .i64 x, .int .i64 y, .pointer (some ⟨B, 0, none⟩)] w fun e w' => e = .returned (.int .i64 0) ∧ R w' := by
  have H := Lib.hid h
  clear h
  go_enter Tryz.func97, Tryz.ntmps97
  go_wp2_with (first | (go_at_call 38; refine Calls.mono H.out ?_; rintro e w' ⟨rfl, hr⟩; have HR := Lib.hid hr; clear hr))
  go_ret
  exact ⟨rfl, HR.out⟩
theorem quiet_ok39 (B : Nat) (m : Nat) (x y : Int) (w : World) (R : World → Prop) (hB : w.cell? ⟨B, 0, none⟩ = some (.func (.func 39) #[.pointer (some ⟨m, 0, none⟩)] #[]))
    (h : Calls Tryz.prog 39 #[.pointer (some ⟨m, 0, none⟩), .int .i64 x, .int .i64 y] w fun e w' => e = .returned (.tuple #[]) ∧ R w') :
    Calls Tryz.prog 97 #[.int .i64 x, .int .i64 y, .pointer (some ⟨B, 0, none⟩)] w fun e w' => e = .returned (.int .i64 0) ∧ R w' := by
  have H := Lib.hid h
  clear h
  go_enter Tryz.func97, Tryz.ntmps97
  go_wp2_with (first | (go_at_call 39; refine Calls.mono H.out ?_; rintro e w' ⟨rfl, hr⟩; have HR := Lib.hid hr; clear hr))
  go_ret
  exact ⟨rfl, HR.out⟩
theorem quiet_ok41 (B : Nat) (m : Nat) (x y : Int) (w : World) (R : World → Prop) (hB : w.cell? ⟨B, 0, none⟩ = some (.func (.func 41) #[.pointer (some ⟨m, 0, none⟩)] #[]))
    (h : Calls Tryz.prog 41 #[.pointer (some ⟨m, 0, none⟩), .int .i64 x, .int .i64 y] w fun e w' => e = .returned (.tuple #[]) ∧ R w') :
    Calls Tryz.prog 97 #[.int .i64 x, .int .i64 y, .pointer (some ⟨B, 0, none⟩)] w fun e w' => e = .returned (.int .i64 0) ∧ R w' := by
  have H := Lib.hid h
  clear h
  go_enter Tryz.func97, Tryz.ntmps97
  go_wp2_with (first | (go_at_call 41; refine Calls.mono H.out ?_; rintro e w' ⟨rfl, hr⟩; have HR := Lib.hid hr; clear hr))
  go_ret
  exact ⟨rfl, HR.out⟩
theorem quiet_ok42 (B : Nat) (m : Nat) (x y : Int) (w : World) (R : World → Prop) (hB : w.cell? ⟨B, 0, none⟩ = some (.func (.func 42) #[.pointer (some ⟨m, 0, none⟩)] #[]))
    (h : Calls Tryz.prog 42 #[.pointer (some ⟨m, 0, none⟩), .int .i64 x, .int .i64 y] w fun e w' => e = .returned (.tuple #[]) ∧ R w') :
    Calls Tryz.prog 97 #[.int .i64 x, .int .i64 y, .pointer (some ⟨B, 0, none⟩)] w fun e w' => e = .returned (.int .i64 0) ∧ R w' := by
  have H := Lib.hid h
  clear h
  go_enter Tryz.func97, Tryz.ntmps97
  go_wp2_with (first | (go_at_call 42; refine Calls.mono H.out ?_; rintro e w' ⟨rfl, hr⟩; have HR := Lib.hid hr; clear hr))
  go_ret
  exact ⟨rfl, HR.out⟩
theorem quiet_ok43 (B : Nat) (m : Nat) (x y : Int) (w : World) (R : World → Prop) (hB : w.cell? ⟨B, 0, none⟩ = some (.func (.func 43) #[.pointer (some ⟨m, 0, none⟩)] #[]))
    (h : Calls Tryz.prog 43 #[.pointer (some ⟨m, 0, none⟩), .int .i64 x, .int .i64 y] w fun e w' => e = .returned (.tuple #[]) ∧ R w') :
    Calls Tryz.prog 97 #[.int .i64 x, .int .i64 y, .pointer (some ⟨B, 0, none⟩)] w fun e w' => e = .returned (.int .i64 0) ∧ R w' := by
  have H := Lib.hid h
  clear h
  go_enter Tryz.func97, Tryz.ntmps97
  go_wp2_with (first | (go_at_call 43; refine Calls.mono H.out ?_; rintro e w' ⟨rfl, hr⟩; have HR := Lib.hid hr; clear hr))
  go_ret
  exact ⟨rfl, HR.out⟩
theorem quiet_ok45 (B : Nat) (m : Nat) (x y : Int) (w : World) (R : World → Prop) (hB : w.cell? ⟨B, 0, none⟩ = some (.func (.func 45) #[.pointer (some ⟨m, 0, none⟩)] #[]))
    (h : Calls Tryz.prog 45 #[.pointer (some ⟨m, 0, none⟩), .int .i64 x, .int .i64 y] w fun e w' => e = .returned (.tuple #[]) ∧ R w') :
    Calls Tryz.prog 97 #[.int .i64 x, .int .i64 y, .pointer (some ⟨B, 0, none⟩)] w fun e w' => e = .returned (.int .i64 0) ∧ R w' := by
  have H := Lib.hid h
  clear h
  go_enter Tryz.func97, Tryz.ntmps97
  go_wp2_with (first | (go_at_call 45; refine Calls.mono H.out ?_; rintro e w' ⟨rfl, hr⟩; have HR := Lib.hid hr; clear hr))
  go_ret
  exact ⟨rfl, HR.out⟩
theorem quiet_no45 (B : Nat) (m : Nat) (x y f : Int) (w : World) (hB : w.cell? ⟨B, 0, none⟩ = some (.func (.func 45) #[.pointer (some ⟨m, 0, none⟩)] #[]))
    (h : Calls Tryz.prog 45 #[.pointer (some ⟨m, 0, none⟩), .int .i64 x, .int .i64 y] w fun e w' => e = (Res.stop f 0).ends ∧ w = w') :
    Calls Tryz.prog 97 #[.int .i64 x, .int .i64 y, .pointer (some ⟨B, 0, none⟩)] w fun e w' => e = (Res.stop f 0).ends ∧ w = w' := by
  have H := Lib.hid h
  clear h
  go_enter Tryz.func97, Tryz.ntmps97
  go_wp2_with (first | (go_at_call 45; refine Calls.mono H.out ?_; rintro e w' ⟨rfl, rfl⟩; simp only [Res.ends]))
  exact ⟨rfl, rfl, rfl⟩
theorem quiet_ok46 (B : Nat) (m : Nat) (x y : Int) (w : World) (R : World → Prop) (hB : w.cell? ⟨B, 0, none⟩ = some (.func (.func 46) #[.pointer (some ⟨m, 0, none⟩)] #[]))
    (h : Calls Tryz.prog 46 #[.pointer (some ⟨m, 0, none⟩), .int .i64 x, .int .i64 y] w fun e w' => e = .returned (.tuple #[]) ∧ R w') :
    Calls Tryz.prog 97 #[.int .i64 x, .int .i64 y, .pointer (some ⟨B, 0, none⟩)] w fun e w' => e = .returned (.int .i64 0) ∧ R w' := by
  have H := Lib.hid h
  clear h
  go_enter Tryz.func97, Tryz.ntmps97
  go_wp2_with (first | (go_at_call 46; refine Calls.mono H.out ?_; rintro e w' ⟨rfl, hr⟩; have HR := Lib.hid hr; clear hr))
  go_ret
  exact ⟨rfl, HR.out⟩
theorem quiet_no46 (B : Nat) (m : Nat) (x y f : Int) (w : World) (hB : w.cell? ⟨B, 0, none⟩ = some (.func (.func 46) #[.pointer (some ⟨m, 0, none⟩)] #[]))
    (h : Calls Tryz.prog 46 #[.pointer (some ⟨m, 0, none⟩), .int .i64 x, .int .i64 y] w fun e w' => e = (Res.stop f 0).ends ∧ w = w') :
    Calls Tryz.prog 97 #[.int .i64 x, .int .i64 y, .pointer (some ⟨B, 0, none⟩)] w fun e w' => e = (Res.stop f 0).ends ∧ w = w' := by
  have H := Lib.hid h
  clear h
  go_enter Tryz.func97, Tryz.ntmps97
  go_wp2_with (first | (go_at_call 46; refine Calls.mono H.out ?_; rintro e w' ⟨rfl, rfl⟩; simp only [Res.ends]))
  exact ⟨rfl, rfl, rfl⟩
theorem quiet_ok49 (B : Nat) (m : Nat) (x y : Int) (w : World) (R : World → Prop) (hB : w.cell? ⟨B, 0, none⟩ = some (.func (.func 49) #[.pointer (some ⟨m, 0, none⟩)] #[]))
    (h : Calls Tryz.prog 49 #[.pointer (some ⟨m, 0, none⟩), .int .i64 x, .int .i64 y] w fun e w' => e = .returned (.tuple #[]) ∧ R w') :
    Calls Tryz.prog 97 #[.int .i64 x, .int .i64 y, .pointer (some ⟨B, 0, none⟩)] w fun e w' => e = .returned (.int .i64 0) ∧ R w' := by
  have H := Lib.hid h
  clear h
  go_enter Tryz.func97, Tryz.ntmps97
  go_wp2_with (first | (go_at_call 49; refine Calls.mono H.out ?_; rintro e w' ⟨rfl, hr⟩; have HR := Lib.hid hr; clear hr))
  go_ret
  exact ⟨rfl, HR.out⟩
theorem quiet_ok52 (B : Nat) (m : Nat) (x y : Int) (w : World) (R : World → Prop) (hB : w.cell? ⟨B, 0, none⟩ = some (.func (.func 52) #[.pointer (some ⟨m, 0, none⟩)] #[]))
    (h : Calls Tryz.prog 52 #[.pointer (some ⟨m, 0, none⟩), .int .i64 x, .int .i64 y] w fun e w' => e = .returned (.tuple #[]) ∧ R w') :
    Calls Tryz.prog 97 #[.int .i64 x, .int .i64 y, .pointer (some ⟨B, 0, none⟩)] w fun e w' => e = .returned (.int .i64 0) ∧ R w' := by
  have H := Lib.hid h
  clear h
  go_enter Tryz.func97, Tryz.ntmps97
  go_wp2_with (first | (go_at_call 52; refine Calls.mono H.out ?_; rintro e w' ⟨rfl, hr⟩; have HR := Lib.hid hr; clear hr))
  go_ret
  exact ⟨rfl, HR.out⟩
theorem quiet_ok54 (B : Nat) (m : Nat) (x y : Int) (w : World) (R : World → Prop) (hB : w.cell? ⟨B, 0, none⟩ = some (.func (.func 54) #[.pointer (some ⟨m, 0, none⟩)] #[]))
    (h : Calls Tryz.prog 54 #[.pointer (some ⟨m, 0, none⟩), .int .i64 x, .int .i64 y] w fun e w' => e = .returned (.tuple #[]) ∧ R w') :
    Calls Tryz.prog 97 #[.int .i64 x, .int .i64 y, .pointer (some ⟨B, 0, none⟩)] w fun e w' => e = .returned (.int .i64 0) ∧ R w' := by
  have H := Lib.hid h
  clear h
  go_enter Tryz.func97, Tryz.ntmps97
  go_wp2_with (first | (go_at_call 54; refine Calls.mono H.out ?_; rintro e w' ⟨rfl, hr⟩; have HR := Lib.hid hr; clear hr))
  go_ret
  exact ⟨rfl, HR.out⟩
theorem quiet_ok61 (B : Nat) (m : Nat) (x y : Int) (w : World) (R : World → Prop) (hB : w.cell? ⟨B, 0, none⟩ = some (.func (.func 61) #[.pointer (some ⟨m, 0, none⟩)] #[]))
    (h : Calls Tryz.prog 61 #[.pointer (some ⟨m, 0, none⟩), .int .i64 x, .int .i64 y] w fun e w' => e = .returned (.tuple #[]) ∧ R w') :
    Calls Tryz.prog 97 #[.int .i64 x, .int .i64 y, .pointer (some ⟨B, 0, none⟩)] w fun e w' => e = .returned (.int .i64 0) ∧ R w' := by
  have H := Lib.hid h
  clear h
  go_enter Tryz.func97, Tryz.ntmps97
  go_wp2_with (first | (go_at_call 61; refine Calls.mono H.out ?_; rintro e w' ⟨rfl, hr⟩; have HR := Lib.hid hr; clear hr))
  go_ret
  exact ⟨rfl, HR.out⟩
theorem quiet_no61 (B : Nat) (m : Nat) (x y f : Int) (w : World) (hB : w.cell? ⟨B, 0, none⟩ = some (.func (.func 61) #[.pointer (some ⟨m, 0, none⟩)] #[]))
    (h : Calls Tryz.prog 61 #[.pointer (some ⟨m, 0, none⟩), .int .i64 x, .int .i64 y] w fun e w' => e = (Res.stop f 0).ends ∧ w = w') :
    Calls Tryz.prog 97 #[.int .i64 x, .int .i64 y, .pointer (some ⟨B, 0, none⟩)] w fun e w' => e = (Res.stop f 0).ends ∧ w = w' := by
  have H := Lib.hid h
  clear h
  go_enter Tryz.func97, Tryz.ntmps97
  go_wp2_with (first | (go_at_call 61; refine Calls.mono H.out ?_; rintro e w' ⟨rfl, rfl⟩; simp only [Res.ends]))
  exact ⟨rfl, rfl, rfl⟩
theorem quiet_ok44 (B : Nat) (x y : Int) (w : World) (R : World → Prop) (hB : w.cell? ⟨B, 0, none⟩ = some (.func (.func 44) #[] #[]))
    (h : Calls Tryz.prog 44 #[.int .i64 x, .int .i64 y] w fun e w' => e = .returned (.tuple #[]) ∧ R w') :
    Calls Tryz.prog 97 #[.int .i64 x, .int .i64 y, .pointer (some ⟨B, 0, none⟩)] w fun e w' => e = .returned (.int .i64 0) ∧ R w' := by
  have H := Lib.hid h
  clear h
  go_enter Tryz.func97, Tryz.ntmps97
  go_wp2_with (first | (go_at_call 44; refine Calls.mono H.out ?_; rintro e w' ⟨rfl, hr⟩; have HR := Lib.hid hr; clear hr))
  go_ret
  exact ⟨rfl, HR.out⟩
theorem quiet_ok56 (B : Nat) (m : Nat) (x y : Int) (w : World) (R : World → Prop) (hB : w.cell? ⟨B, 0, none⟩ = some (.func (.func 56) #[] #[.pointer (some ⟨m, 0, none⟩)]))
    (h : Calls Tryz.prog 56 #[.int .i64 x, .int .i64 y, .pointer (some ⟨m, 0, none⟩)] w fun e w' => e = .returned (.tuple #[]) ∧ R w') :
    Calls Tryz.prog 97 #[.int .i64 x, .int .i64 y, .pointer (some ⟨B, 0, none⟩)] w fun e w' => e = .returned (.int .i64 0) ∧ R w' := by
  have H := Lib.hid h
  clear h
  go_enter Tryz.func97, Tryz.ntmps97
  go_wp2_with (first | (go_at_call 56; refine Calls.mono H.out ?_; rintro e w' ⟨rfl, hr⟩; have HR := Lib.hid hr; clear hr))
  go_ret
  exact ⟨rfl, HR.out⟩
theorem quiet_no56 (B : Nat) (m : Nat) (x y f : Int) (w : World) (hB : w.cell? ⟨B, 0, none⟩ = some (.func (.func 56) #[] #[.pointer (some ⟨m, 0, none⟩)]))
    (h : Calls Tryz.prog 56 #[.int .i64 x, .int .i64 y, .pointer (some ⟨m, 0, none⟩)] w fun e w' => e = (Res.stop f 0).ends ∧ w = w') :
    Calls Tryz.prog 97 #[.int .i64 x, .int .i64 y, .pointer (some ⟨B, 0, none⟩)] w fun e w' => e = (Res.stop f 0).ends ∧ w = w' := by
  have H := Lib.hid h
  clear h
  go_enter Tryz.func97, Tryz.ntmps97
  go_wp2_with (first | (go_at_call 56; refine Calls.mono H.out ?_; rintro e w' ⟨rfl, rfl⟩; simp only [Res.ends]))
  exact ⟨rfl, rfl, rfl⟩
theorem quiet_ok58 (B : Nat) (m : Nat) (x y : Int) (w : World) (R : World → Prop) (hB : w.cell? ⟨B, 0, none⟩ = some (.func (.func 58) #[] #[.pointer (some ⟨m, 0, none⟩)]))
    (h : Calls Tryz.prog 58 #[.int .i64 x, .int .i64 y, .pointer (some ⟨m, 0, none⟩)] w fun e w' => e = .returned (.tuple #[]) ∧ R w') :
    Calls Tryz.prog 97 #[.int .i64 x, .int .i64 y, .pointer (some ⟨B, 0, none⟩)] w fun e w' => e = .returned (.int .i64 0) ∧ R w' := by
  have H := Lib.hid h
  clear h
  go_enter Tryz.func97, Tryz.ntmps97
  go_wp2_with (first | (go_at_call 58; refine Calls.mono H.out ?_; rintro e w' ⟨rfl, hr⟩; have HR := Lib.hid hr; clear hr))
  go_ret
  exact ⟨rfl, HR.out⟩
theorem quiet_no58 (B : Nat) (m : Nat) (x y f : Int) (w : World) (hB : w.cell? ⟨B, 0, none⟩ = some (.func (.func 58) #[] #[.pointer (some ⟨m, 0, none⟩)]))
    (h : Calls Tryz.prog 58 #[.int .i64 x, .int .i64 y, .pointer (some ⟨m, 0, none⟩)] w fun e w' => e = (Res.stop f 0).ends ∧ w = w') :
    Calls Tryz.prog 97 #[.int .i64 x, .int .i64 y, .pointer (some ⟨B, 0, none⟩)] w fun e w' => e = (Res.stop f 0).ends ∧ w = w' := by
  have H := Lib.hid h
  clear h
  go_enter Tryz.func97, Tryz.ntmps97
  go_wp2_with (first | (go_at_call 58; refine Calls.mono H.out ?_; rintro e w' ⟨rfl, rfl⟩; simp only [Res.ends]))
  exact ⟨rfl, rfl, rfl⟩
theorem none_any (x y : Int) (w : World) : Calls Tryz.prog 44 #[.int .i64 x, .int .i64 y] w fun e w' => e = .returned (.tuple #[]) ∧ w = w' := by
  go_enter Tryz.func44, Tryz.ntmps44
  go_wp2
  go_end0
  exact ⟨rfl, rfl⟩
theorem up_yes (mb b kr dr : Nat) (lo hi : Int) (own : Option Nat) (xs : List Int) (x y : Int) (w : World) (h : LM w b kr dr lo hi own xs) (hmb : w.cell? ⟨mb, 0, none⟩ = some (.pointer (some ⟨b, 0, none⟩))) (hlo : inNum lo = true) (hv : inNum (lo + 1) = true) :
    Calls Tryz.prog 56 #[.int .i64 x, .int .i64 y, .pointer (some ⟨mb, 0, none⟩)] w fun e w' => e = .returned (.tuple #[]) ∧ DidN w b kr dr (lo + 1) hi own xs w' := by
  have H := Lib.hid (more_yes b kr dr lo hi own xs 1 w h hlo (by decide) hv)
  clear h hlo hv
  go_enter Tryz.func56, Tryz.ntmps56
  go_wp2_with (go_at_call 57; refine Calls.mono H.out ?_; rintro e w' ⟨rfl, hd⟩; have HD := Lib.hid hd; clear hd)
  go_end0
  exact ⟨rfl, HD.out⟩
theorem up_no (mb b kr dr : Nat) (lo hi : Int) (own : Option Nat) (xs : List Int) (x y : Int) (w : World) (h : LM w b kr dr lo hi own xs) (hmb : w.cell? ⟨mb, 0, none⟩ = some (.pointer (some ⟨b, 0, none⟩))) (hlo : inNum lo = true) (hv : inNum (lo + 1) = false) :
    Calls Tryz.prog 56 #[.int .i64 x, .int .i64 y, .pointer (some ⟨mb, 0, none⟩)] w fun e w' => e = (Res.stop 7 0).ends ∧ w = w' := by
  have H := Lib.hid (more_no b kr dr lo hi own xs 1 w h hlo (by decide) hv)
  clear h hlo hv
  go_enter Tryz.func56, Tryz.ntmps56
  go_wp2_with (go_at_call 57; refine Calls.mono H.out ?_; rintro e w' ⟨rfl, rfl⟩; simp only [Res.ends])
  exact ⟨rfl, rfl, rfl⟩
theorem addc_yes (mb b kr dr : Nat) (lo hi : Int) (own : Option Nat) (xs : List Int) (x y : Int) (w : World) (h : LM w b kr dr lo hi own xs) (hmb : w.cell? ⟨mb, 0, none⟩ = some (.pointer (some ⟨b, 0, none⟩))) (hlo : inNum lo = true) (hx : inNum x = true) (hx0 : 0 ≤ x) (hv : inNum (lo + x) = true) :
    Calls Tryz.prog 58 #[.int .i64 x, .int .i64 y, .pointer (some ⟨mb, 0, none⟩)] w fun e w' => e = .returned (.tuple #[]) ∧ DidN w b kr dr (lo + x) hi own xs w' := by
  have H := Lib.hid (more_yes b kr dr lo hi own xs x w h hlo hx hv)
  clear h hlo hv hx
  go_enter Tryz.func58, Tryz.ntmps58
  go_wp2_with (first
    | (go_at_call 59; refine (must_true _ _).mono ?_; rintro e w' ⟨rfl, rfl⟩)
    | (go_at_call 57; refine Calls.mono H.out ?_; rintro e w' ⟨rfl, hd⟩; have HD := Lib.hid hd; clear hd))
  go_end0
  exact ⟨rfl, HD.out⟩
theorem addc_over (mb b kr dr : Nat) (lo hi : Int) (own : Option Nat) (xs : List Int) (x y : Int) (w : World) (h : LM w b kr dr lo hi own xs) (hmb : w.cell? ⟨mb, 0, none⟩ = some (.pointer (some ⟨b, 0, none⟩))) (hlo : inNum lo = true) (hx : inNum x = true) (hx0 : 0 ≤ x) (hv : inNum (lo + x) = false) :
    Calls Tryz.prog 58 #[.int .i64 x, .int .i64 y, .pointer (some ⟨mb, 0, none⟩)] w fun e w' => e = (Res.stop 7 0).ends ∧ w = w' := by
  have H := Lib.hid (more_no b kr dr lo hi own xs x w h hlo hx hv)
  clear h hlo hv hx
  go_enter Tryz.func58, Tryz.ntmps58
  go_wp2_with (first
    | (go_at_call 59; refine (must_true _ _).mono ?_; rintro e w' ⟨rfl, rfl⟩)
    | (go_at_call 57; refine Calls.mono H.out ?_; rintro e w' ⟨rfl, rfl⟩; simp only [Res.ends]))
  exact ⟨rfl, rfl, rfl⟩
theorem addc_no (mb : Nat) (x y : Int) (w : World) (hx : ¬ 0 ≤ x) :
    Calls Tryz.prog 58 #[.int .i64 x, .int .i64 y, .pointer (some ⟨mb, 0, none⟩)] w fun e w' => e = (Res.stop 1 0).ends ∧ w = w' := by
  have hd : decide (0 ≤ x) = false := by simpa using hx
  clear hx
  go_enter Tryz.func58, Tryz.ntmps58
  go_wp2_with (go_at_call 59; refine (must_false _ _).mono ?_; rintro e w' ⟨rfl, rfl⟩)
  exact ⟨rfl, rfl, rfl⟩
end Go.Proofs.YtpnbhoeghncnnaaGreatDoor
namespace Go.Proofs.YtpnbhoeghncnnaaGreatDoor
open Go.RowKit
theorem as52 (v : Value) (w : World) : (Instr.typeAssert (.iface 52 v) 20 52 true).run Tryz.prog w = .ok (.tuple #[v, .bool true]) w := by kernel_rfl
/-- The two results hold these; the blocks but theirs are as they were. -/
def Set3 (pn ps : Nat) (n f er : Int) (w w' : World) : Prop :=
  w'.cell? ⟨pn, 0, none⟩ = some (.int .i64 n) ∧ w'.cell? ⟨ps, 0, none⟩ = some (.int .i64 f) ∧ w'.cell? ⟨ps, 1, none⟩ = some (.int .i64 er) ∧ Fr (fun k => k = pn ∨ k = ps) w w'
theorem set3_of {W0 w : World} {pn ps : Nat} {n0 f0 e0 : Int} (n f er : Int) (E1 : W0.cell? ⟨pn, 0, none⟩ = some (.int .i64 n0)) (E2 : W0.cell? ⟨ps, 0, none⟩ = some (.int .i64 f0)) (E3 : W0.cell? ⟨ps, 1, none⟩ = some (.int .i64 e0)) (hne : pn ≠ ps) (hF : Fr (fun k => k = pn ∨ k = ps) w W0) :
    Set3 pn ps n f er w (((W0.setCell ⟨pn, 0, none⟩ (.int .i64 n)).setCell ⟨ps, 0, none⟩ (.int .i64 f)).setCell ⟨ps, 1, none⟩ (.int .i64 er)) := by
  have d1 : (⟨pn, 0, none⟩ : Addr) ≠ ⟨ps, 0, none⟩ := fun e => hne (congrArg Addr.block e)
  have d2 : (⟨pn, 0, none⟩ : Addr) ≠ ⟨ps, 1, none⟩ := fun e => hne (congrArg Addr.block e)
  have d3 : (⟨ps, 0, none⟩ : Addr) ≠ ⟨ps, 1, none⟩ := fun e => by have := congrArg Addr.off e; cases this
  have a1 := World.cell?_setCell_same W0 ⟨pn, 0, none⟩ (.int .i64 n) E1
  have a2 : (W0.setCell ⟨pn, 0, none⟩ (.int .i64 n)).cell? ⟨ps, 0, none⟩ = some (.int .i64 f0) := by rw [World.cell?_setCell_other _ _ _ _ d1]; exact E2
  have a3 : (W0.setCell ⟨pn, 0, none⟩ (.int .i64 n)).cell? ⟨ps, 1, none⟩ = some (.int .i64 e0) := by rw [World.cell?_setCell_other _ _ _ _ d2]; exact E3
  have b1 := World.cell?_setCell_same _ ⟨ps, 0, none⟩ (.int .i64 f) a2
  have b3 : ((W0.setCell ⟨pn, 0, none⟩ (.int .i64 n)).setCell ⟨ps, 0, none⟩ (.int .i64 f)).cell? ⟨ps, 1, none⟩ = some (.int .i64 e0) := by rw [World.cell?_setCell_other _ _ _ _ d3]; exact a3
  refine ⟨?_, ?_, World.cell?_setCell_same _ ⟨ps, 1, none⟩ (.int .i64 er) b3, ?_⟩
  · rw [World.cell?_setCell_other _ _ _ _ (Ne.symm d2), World.cell?_setCell_other _ _ _ _ (Ne.symm d1)]; exact a1
  · rw [World.cell?_setCell_other _ _ _ _ (Ne.symm d3)]; exact b1
  · exact ((hF.trans (Fr.setCell (fun k => k = pn ∨ k = ps) _ _ _ (.inl rfl)) (fun _ _ h => h)).trans (Fr.setCell (fun k => k = pn ∨ k = ps) _ _ _ (.inr rfl)) (fun _ _ h => h)).trans (Fr.setCell (fun k => k = pn ∨ k = ps) _ _ _ (.inr rfl)) (fun _ _ h => h)
set_option maxRecDepth 10000 in
theorem catch_panicking (pn ps : Nat) (f er n0 f0 e0 : Int) (older : List PanicEntry) (w : World) (hn : w.heap[pn]? = some (.cells #[.int .i64 n0] 3 (0, 0))) (hs : w.heap[ps]? = some (.cells #[.int .i64 f0, .int .i64 e0] 52 (0, 0))) (hne : pn ≠ ps) :
    CallsD Tryz.prog 71 #[.pointer (some ⟨pn, 0, none⟩), .pointer (some ⟨ps, 0, none⟩)] (.panicking ({ v := stopV f er, recovered := false } :: older)) w fun e u' w' =>
      e = .returned (.tuple #[]) ∧ u' = .panicking ({ v := stopV f er, recovered := true } :: older) ∧ Set3 pn ps 0 f er w w' := by
  have cn : w.cell? ⟨pn, 0, none⟩ = some (.int .i64 n0) := by rw [heap_cell hn]; rfl
  have zn : w.frozen? ⟨pn, 0, none⟩ = false := heap_frozen hn 0
  have cs0 : w.cell? ⟨ps, 0, none⟩ = some (.int .i64 f0) := by rw [heap_cell hs]; rfl
  have cs1 : w.cell? ⟨ps, 1, none⟩ = some (.int .i64 e0) := by rw [heap_cell hs]; rfl
  have zs0 : w.frozen? ⟨ps, 0, none⟩ = false := heap_frozen hs 0
  have zs1 : w.frozen? ⟨ps, 1, none⟩ = false := heap_frozen hs 1
  have ln := heap_lt hn
  have ls := heap_lt hs
  have hns : w.heap.size ≠ pn := by omega
  have hss : w.heap.size ≠ ps := by omega
  have hne' : ps ≠ pn := fun e => hne e.symm
  have HTA := @as52
  clear hn hs
  refine callsD_of_wpS Tryz.func71 rfl fun c₀ cs hu => ?_
  apply wpS_seq
  apply wpS_region
  simp [wpOpsS, go_sem, recoverD, hu, Tryz.ntmps71, Exit.thenS, stopV]
  have ha : (#[Value.pointer (some { block := pn, off := 0 }), Value.pointer (some { block := ps, off := 0 })] ++ ((Array.replicate 15 undef).setIfInBounds 3 (Value.iface 52 (Value.agg #[Value.int IntKind.i64 f, Value.int IntKind.i64 er]))).setIfInBounds 0 (Value.iface 52 (Value.agg #[Value.int IntKind.i64 f, Value.int IntKind.i64 er]))) = #[Value.pointer (some { block := pn, off := 0 }), Value.pointer (some { block := ps, off := 0 }), Value.iface 52 (Value.agg #[Value.int IntKind.i64 f, Value.int IntKind.i64 er]), undef, undef, Value.iface 52 (Value.agg #[Value.int IntKind.i64 f, Value.int IntKind.i64 er]), undef, undef, undef, undef, undef, undef, undef, undef, undef, undef, undef] := by rfl
  rw [ha]
  clear ha
  refine wpS_of_wp ?_
  go_wp2
  have hF := Fr.alloc (fun k => k = pn ∨ k = ps) w (Obj.cells #[Value.int IntKind.i64 f, Value.int IntKind.i64 er] 52)
  have D1 : (w.alloc (Obj.cells #[Value.int IntKind.i64 f, Value.int IntKind.i64 er] 52)).cell? ⟨w.heap.size, 0, none⟩ = some (.int .i64 f) := by rw [heap_cell (heap_alloc_new w _)]; rfl
  have D2 : (w.alloc (Obj.cells #[Value.int IntKind.i64 f, Value.int IntKind.i64 er] 52)).cell? ⟨w.heap.size, 1, none⟩ = some (.int .i64 er) := by rw [heap_cell (heap_alloc_new w _)]; rfl
  have E1 : (w.alloc (Obj.cells #[Value.int IntKind.i64 f, Value.int IntKind.i64 er] 52)).cell? ⟨pn, 0, none⟩ = some (.int .i64 n0) := by rw [World.cell?_alloc_past _ _ _ ln]; exact cn
  have E2 : (w.alloc (Obj.cells #[Value.int IntKind.i64 f, Value.int IntKind.i64 er] 52)).cell? ⟨ps, 0, none⟩ = some (.int .i64 f0) := by rw [World.cell?_alloc_past _ _ _ ls]; exact cs0
  have E3 : (w.alloc (Obj.cells #[Value.int IntKind.i64 f, Value.int IntKind.i64 er] 52)).cell? ⟨ps, 1, none⟩ = some (.int .i64 e0) := by rw [World.cell?_alloc_past _ _ _ ls]; exact cs1
  have Z1 : (w.alloc (Obj.cells #[Value.int IntKind.i64 f, Value.int IntKind.i64 er] 52)).frozen? ⟨pn, 0, none⟩ = false := by rw [World.frozen?_of_block (Below.heap_alloc w _ _ ln)]; exact zn
  have Z2 : (w.alloc (Obj.cells #[Value.int IntKind.i64 f, Value.int IntKind.i64 er] 52)).frozen? ⟨ps, 0, none⟩ = false := by rw [World.frozen?_of_block (Below.heap_alloc w _ _ ls)]; exact zs0
  have Z3 : (w.alloc (Obj.cells #[Value.int IntKind.i64 f, Value.int IntKind.i64 er] 52)).frozen? ⟨ps, 1, none⟩ = false := by rw [World.frozen?_of_block (Below.heap_alloc w _ _ ls)]; exact zs1
  have HF := Lib.hid hF
  clear hF
  generalize w.alloc (Obj.cells #[Value.int IntKind.i64 f, Value.int IntKind.i64 er] 52) = W0 at D1 D2 E1 E2 E3 Z1 Z2 Z3 HF ⊢
  generalize w.heap.size = H at D1 D2 hns hss ⊢
  clear cn zn cs0 cs1 zs0 zs1 ln ls
  go_region
  have HS := set3_of 0 f er E1 E2 E3 hne HF.out
  exact ⟨rfl, _, rfl, _, results_none rfl _ _ _, rfl, rfl, HS.1, HS.2.1, HS.2.2.1, HS.2.2.2.trans (Fr.drew _ _) (fun _ _ h => h)⟩
theorem catch_idle (pn ps : Nat) (w : World) :
    CallsD Tryz.prog 71 #[.pointer (some ⟨pn, 0, none⟩), .pointer (some ⟨ps, 0, none⟩)] .returning w fun e u' w' =>
      e = .returned (.tuple #[]) ∧ u' = .returning ∧ w' = w := by
  refine callsD_of_wpS Tryz.func71 rfl fun c₀ cs hu => ?_
  apply wpS_seq
  apply wpS_region
  simp [wpOpsS, go_sem, recoverD, hu, Tryz.ntmps71, Exit.thenS]
  have ha : (#[Value.pointer (some { block := pn, off := 0 }), Value.pointer (some { block := ps, off := 0 })] ++ ((Array.replicate 15 undef).setIfInBounds 3 Value.nilIface).setIfInBounds 0 Value.nilIface) = #[Value.pointer (some { block := pn, off := 0 }), Value.pointer (some { block := ps, off := 0 }), Value.nilIface, undef, undef, Value.nilIface, undef, undef, undef, undef, undef, undef, undef, undef, undef, undef, undef] := by rfl
  rw [ha]
  clear ha
  refine wpS_of_wp ?_
  go_wp2
  cases c₀
  simp only at hu
  subst hu
  exact ⟨rfl, _, rfl, _, results_none rfl _ _ _, rfl, rfl, rfl⟩
end Go.Proofs.YtpnbhoeghncnnaaGreatDoor
namespace Go.Proofs.YtpnbhoeghncnnaaGreatDoor
open Go.RowKit
set_option linter.unusedSimpArgs false
theorem run_lookS (w : World) (dr : Nat) (es : Array MapEntry) (c : Nat) (s : ByteArray) (i : Nat) (v : Value) (hmap : w.heap[dr]? = some (.map es c)) (hf : Instr.findNow .string (.string s) es.toList 0 = some (some (i, v))) :
    (Instr.lookup 73 (.map (some dr)) (.string s) false).run Tryz.prog w = .ok v w := by
  have hc : ∀ b, (Instr.checkKey b 10000 9 (.string s)).run Tryz.prog w = .ok () w := fun b => MapKept.run_checkKey (k := .string s) Tryz.underlying9 (by simp [MapKept.IsKey]) b 9999
  simp [Instr.lookup, run_underlying Tryz.underlying73, MapKept.run_getObj_map hmap, hc, MapKept.run_findKey Tryz.underlying9 hf, Result.andThen]
set_option maxHeartbeats 2000000 in
set_option maxHeartbeats 2000000 in
set_option maxHeartbeats 2000000 in
set_option maxHeartbeats 2000000 in
set_option maxHeartbeats 2000000 in
set_option maxHeartbeats 2000000 in
set_option maxHeartbeats 2000000 in
set_option maxHeartbeats 2000000 in
set_option maxHeartbeats 2000000 in
set_option maxHeartbeats 2000000 in
set_option maxHeartbeats 2000000 in
theorem done_ok (b dr : Nat) (s : ByteArray) (x y r : Int) (es : Array MapEntry) (c i n : Nat) (first cap : Array Value) (w : World) (F : Nat → Prop) (R : World → World → Prop)
    (h4 : w.cell? ⟨b, 4, none⟩ = some (.map (some dr))) (hmap : w.heap[dr]? = some (.map es c)) (hf : Instr.findNow .string (.string s) es.toList 0 = some (some (i, .func (.func n) first cap)))
    (hcf : ∀ (args : Array Value) (w : World), (callFunc n args).run Tryz.prog w = .ok (.enter n args) w) (hF : ∀ k, F k → k < w.heap.size ∧ k ≠ dr)
    (hcall : ∀ w1, Fr (fun _ => False) w w1 → w.heap.size + 3 ≤ w1.heap.size → Calls Tryz.prog n (first ++ (#[.int .i64 x, .int .i64 y] ++ cap)) w1 fun e w2 => e = .returned (.int .i64 r) ∧ Fr F w1 w2 ∧ w2.cell? ⟨b, 4, none⟩ = some (.map (some dr)) ∧ R w1 w2) :
    Calls Tryz.prog 17 #[.pointer (some ⟨b, 0, none⟩), .agg #[.string s, .int .i64 x, .int .i64 y]] w fun e w' => e = .returned (.tuple #[.int .i64 r, .agg #[.int .i64 0, .int .i64 0]]) ∧
      ∃ w1 w2, Fr (fun _ => False) w w1 ∧ w.heap.size + 3 ≤ w1.heap.size ∧ Fr F w1 w2 ∧ R w1 w2 ∧ Fr (fun k => w.heap.size ≤ k ∧ k < w.heap.size + 3) w2 w' := by
  have KF' := Lib.hid hF
  clear hF
  have hlk : ∀ w' : World, w'.heap[dr]? = some (.map es c) → (Instr.lookup 73 (.map (some dr)) (.string s) false).run Tryz.prog w' = .ok (.func (.func n) first cap) w' := fun w' h => run_lookS w' dr es c s i _ h hf
  have HK := Lib.hid hlk
  have HM := Lib.hid hmap
  have HC := Lib.hid hcall
  have hlt := World.block_lt_of_cell? w _ h4
  have hdl := heap_lt hmap
  have HLT := Lib.hid hlt
  have HDL := Lib.hid hdl
  have hmf : ∀ (fn : Fn) (first cap : Array Value) (w : World), (Instr.makeFunc fn first cap).run Tryz.prog w = .ok (.func fn first cap) w := fun _ _ _ _ => rfl
  clear hcall hmap hf hlk
  go_enter_defers Tryz.func17, Tryz.ntmps17
  go_wp2
  have HF0 : Fr (fun _ => False) w (((w.alloc (Obj.cells #[Value.string s, Value.int IntKind.i64 x, Value.int IntKind.i64 y] 40)).alloc (Obj.cells #[Value.int IntKind.i64 0] 3)).alloc (Obj.cells #[Value.int IntKind.i64 0, Value.int IntKind.i64 0] 52)) := ((Fr.alloc _ _ _).trans (Fr.alloc _ _ _) (fun _ _ h => h)).trans (Fr.alloc _ _ _) (fun _ _ h => h)
  have HSZ : (((w.alloc (Obj.cells #[Value.string s, Value.int IntKind.i64 x, Value.int IntKind.i64 y] 40)).alloc (Obj.cells #[Value.int IntKind.i64 0] 3)).alloc (Obj.cells #[Value.int IntKind.i64 0, Value.int IntKind.i64 0] 52)).heap.size = w.heap.size + 3 := by simp
  have HX : (((w.alloc (Obj.cells #[Value.string s, Value.int IntKind.i64 x, Value.int IntKind.i64 y] 40)).alloc (Obj.cells #[Value.int IntKind.i64 0] 3)).alloc (Obj.cells #[Value.int IntKind.i64 0, Value.int IntKind.i64 0] 52)).heap[w.heap.size]? = some (.cells #[Value.string s, Value.int IntKind.i64 x, Value.int IntKind.i64 y] 40 (0, 0)) := ((Fr.alloc (fun _ => False) _ _).trans (Fr.alloc _ _ _) (fun _ _ h => h)).heap (heap_alloc_new w _) id
  have HN : (((w.alloc (Obj.cells #[Value.string s, Value.int IntKind.i64 x, Value.int IntKind.i64 y] 40)).alloc (Obj.cells #[Value.int IntKind.i64 0] 3)).alloc (Obj.cells #[Value.int IntKind.i64 0, Value.int IntKind.i64 0] 52)).heap[w.heap.size + 1]? = some (.cells #[Value.int IntKind.i64 0] 3 (0, 0)) := (Fr.alloc (fun _ => False) _ _).heap (by rw [show w.heap.size + 1 = (w.alloc (Obj.cells #[Value.string s, Value.int IntKind.i64 x, Value.int IntKind.i64 y] 40)).heap.size by simp]; exact heap_alloc_new _ _) id
  have HS : (((w.alloc (Obj.cells #[Value.string s, Value.int IntKind.i64 x, Value.int IntKind.i64 y] 40)).alloc (Obj.cells #[Value.int IntKind.i64 0] 3)).alloc (Obj.cells #[Value.int IntKind.i64 0, Value.int IntKind.i64 0] 52)).heap[w.heap.size + 1 + 1]? = some (.cells #[Value.int IntKind.i64 0, Value.int IntKind.i64 0] 52 (0, 0)) := by
    rw [show w.heap.size + 1 + 1 = ((w.alloc (Obj.cells #[Value.string s, Value.int IntKind.i64 x, Value.int IntKind.i64 y] 40)).alloc (Obj.cells #[Value.int IntKind.i64 0] 3)).heap.size by simp]; exact heap_alloc_new _ _
  generalize (((w.alloc (Obj.cells #[Value.string s, Value.int IntKind.i64 x, Value.int IntKind.i64 y] 40)).alloc (Obj.cells #[Value.int IntKind.i64 0] 3)).alloc (Obj.cells #[Value.int IntKind.i64 0, Value.int IntKind.i64 0] 52)) = W0 at HF0 HSZ HX HN HS ⊢
  have G4 : W0.cell? ⟨b, 4, none⟩ = some (.map (some dr)) := HF0.cell h4 id
  have GM : W0.heap[dr]? = some (.map es c) := HF0.heap HM.out id
  have G0 : W0.cell? ⟨w.heap.size, 0, none⟩ = some (.string s) := by rw [heap_cell HX]; rfl
  have G1 : W0.cell? ⟨w.heap.size, 1, none⟩ = some (.int .i64 x) := by rw [heap_cell HX]; rfl
  have G2 : W0.cell? ⟨w.heap.size, 2, none⟩ = some (.int .i64 y) := by rw [heap_cell HX]; rfl
  have KF := Lib.hid HF0
  have KZ := Lib.hid HSZ
  have KN := Lib.hid HN
  have KS := Lib.hid HS
  have KG := Lib.hid (show W0.drew.cell? ⟨b, 4, none⟩ = some (.map (some dr)) ∧ W0.drew.heap[dr]? = some (.map es c) ∧ W0.drew.cell? ⟨w.heap.size, 0, none⟩ = some (.string s) ∧ W0.drew.cell? ⟨w.heap.size, 1, none⟩ = some (.int .i64 x) ∧ W0.drew.cell? ⟨w.heap.size, 2, none⟩ = some (.int .i64 y) from ⟨G4, GM, G0, G1, G2⟩)
  clear HF0 HSZ HX HN HS G4 GM G0 G1 G2 hlt hdl h4
  refine wp_region_noPanic ?_
  refine wp_region_held_drew (S := fun w' => w'.cell? ⟨b, 4, none⟩ = some (.map (some dr)) ∧ w'.heap[dr]? = some (.map es c) ∧ w'.cell? ⟨w.heap.size, 0, none⟩ = some (.string s) ∧ w'.cell? ⟨w.heap.size, 1, none⟩ = some (.int .i64 x) ∧ w'.cell? ⟨w.heap.size, 2, none⟩ = some (.int .i64 y)) (by kernel_rfl) KG.out (fun hHeld => ?_)
  refine' wpAnyH_take (i := 0) (oi := _) (v := _) ?hi1 (by kernel_rfl) (by kernel_rfl) (by kernel_rfl) ?hq1 (Or.inl ⟨?hw1, ?hy1⟩) (by assumption) ?rest1
  case hi1 => simp only [List.getElem?_toArray, List.getElem?_cons_succ, List.getElem?_cons_zero]; rfl
  case hq1 => exact fun _ _ _ h => h
  case hw1 => rfl
  case hy1 => intro w hSw; (try dsimp only at hSw); go_simp; (try with_reducible rfl)
  try simp only [Act.put, List.setIfInBounds_toArray, List.set_cons_zero, List.set_cons_succ]
  refine' wpAnyH_take (i := 1) (oi := _) (v := _) ?hi2 (by kernel_rfl) (by kernel_rfl) (by kernel_rfl) ?hq2 (Or.inl ⟨?hw2, ?hy2⟩) (by assumption) ?rest2
  case hi2 => simp only [List.getElem?_toArray, List.getElem?_cons_succ, List.getElem?_cons_zero]; rfl
  case hq2 => exact fun _ _ _ h => h
  case hw2 => rfl
  case hy2 => intro w hSw; (try dsimp only at hSw); go_simp; (try with_reducible rfl)
  try simp only [Act.put, List.setIfInBounds_toArray, List.set_cons_zero, List.set_cons_succ]
  refine' wpAnyH_take (i := 2) (oi := _) (v := _) ?hi3 (by kernel_rfl) (by kernel_rfl) (by kernel_rfl) ?hq3 (Or.inl ⟨?hw3, ?hy3⟩) (by assumption) ?rest3
  case hi3 => simp only [List.getElem?_toArray, List.getElem?_cons_succ, List.getElem?_cons_zero]; rfl
  case hq3 => exact fun _ _ _ h => h
  case hw3 => rfl
  case hy3 => intro w hSw; (try dsimp only at hSw); go_simp; (try with_reducible rfl)
  try simp only [Act.put, List.setIfInBounds_toArray, List.set_cons_zero, List.set_cons_succ]
  refine' wpAnyH_take (i := 3) (oi := _) (v := _) ?hi4 (by kernel_rfl) (by kernel_rfl) (by kernel_rfl) ?hq4 (Or.inl ⟨?hw4, ?hy4⟩) (by assumption) ?rest4
  case hi4 => simp only [List.getElem?_toArray, List.getElem?_cons_succ, List.getElem?_cons_zero]; rfl
  case hq4 => exact fun _ _ _ h => h
  case hw4 => rfl
  case hy4 => intro w hSw; (try dsimp only at hSw); go_simp; (try with_reducible rfl)
  try simp only [Act.put, List.setIfInBounds_toArray, List.set_cons_zero, List.set_cons_succ]
  refine' wpAnyH_take (i := 4) (oi := _) (v := _) ?hi5 (by kernel_rfl) (by kernel_rfl) (by kernel_rfl) ?hq5 (Or.inl ⟨?hw5, ?hy5⟩) (by assumption) ?rest5
  case hi5 => simp only [List.getElem?_toArray, List.getElem?_cons_succ, List.getElem?_cons_zero]; rfl
  case hq5 => exact fun _ _ _ h => h
  case hw5 => rfl
  case hy5 => intro w hSw; (try dsimp only at hSw); go_simp; (try with_reducible rfl)
  try simp only [Act.put, List.setIfInBounds_toArray, List.set_cons_zero, List.set_cons_succ]
  refine' wpAnyH_take (i := 5) (oi := _) (v := _) ?hi6 (by kernel_rfl) (by kernel_rfl) (by kernel_rfl) ?hq6 (Or.inl ⟨?hw6, ?hy6⟩) (by assumption) ?rest6
  case hi6 => simp only [List.getElem?_toArray, List.getElem?_cons_succ, List.getElem?_cons_zero]; rfl
  case hq6 => exact fun _ _ _ h => h
  case hw6 => rfl
  case hy6 => intro w hSw; (try dsimp only at hSw); go_simp; (try with_reducible rfl)
  try simp only [Act.put, List.setIfInBounds_toArray, List.set_cons_zero, List.set_cons_succ]
  refine' wpAnyH_take (i := 6) (oi := _) (v := _) ?hi7 (by kernel_rfl) (by kernel_rfl) (by kernel_rfl) ?hq7 (Or.inl ⟨?hw7, ?hy7⟩) (by assumption) ?rest7
  case hi7 => simp only [List.getElem?_toArray, List.getElem?_cons_succ, List.getElem?_cons_zero]; rfl
  case hq7 => exact fun _ _ _ h => h
  case hw7 => rfl
  case hy7 => intro w hSw; (try dsimp only at hSw); (have hlk := HK.out _ hSw.2.1); go_simp; (try with_reducible rfl)
  try simp only [Act.put, List.setIfInBounds_toArray, List.set_cons_zero, List.set_cons_succ]
  refine' wpAnyH_take (i := 7) (oi := _) (v := _) ?hi8 (by kernel_rfl) (by kernel_rfl) (by kernel_rfl) ?hq8 (Or.inl ⟨?hw8, ?hy8⟩) (by assumption) ?rest8
  case hi8 => simp only [List.getElem?_toArray, List.getElem?_cons_succ, List.getElem?_cons_zero]; rfl
  case hq8 => exact fun _ _ _ h => h
  case hw8 => rfl
  case hy8 => intro w hSw; (try dsimp only at hSw); go_simp; (try with_reducible rfl)
  try simp only [Act.put, List.setIfInBounds_toArray, List.set_cons_zero, List.set_cons_succ]
  refine' wpAnyH_take (i := 8) (oi := _) (v := _) ?hi9 (by kernel_rfl) (by kernel_rfl) (by kernel_rfl) ?hq9 (Or.inl ⟨?hw9, ?hy9⟩) (by assumption) ?rest9
  case hi9 => simp only [List.getElem?_toArray, List.getElem?_cons_succ, List.getElem?_cons_zero]; rfl
  case hq9 => exact fun _ _ _ h => h
  case hw9 => rfl
  case hy9 => intro w hSw; (try dsimp only at hSw); go_simp; (try with_reducible rfl)
  try simp only [Act.put, List.setIfInBounds_toArray, List.set_cons_zero, List.set_cons_succ]
  refine' wpAnyH_take (i := 9) (oi := _) (v := _) ?hi10 (by kernel_rfl) (by kernel_rfl) (by kernel_rfl) ?hq10 (Or.inl ⟨?hw10, ?hy10⟩) (by assumption) ?rest10
  case hi10 => simp only [List.getElem?_toArray, List.getElem?_cons_succ, List.getElem?_cons_zero]; rfl
  case hq10 => exact fun _ _ _ h => h
  case hw10 => rfl
  case hy10 => intro w hSw; (try dsimp only at hSw); go_simp; (try with_reducible rfl)
  try simp only [Act.put, List.setIfInBounds_toArray, List.set_cons_zero, List.set_cons_succ]
  refine' wpAnyH_take (i := 10) (oi := _) (v := _) ?hi11 (by kernel_rfl) (by kernel_rfl) (by kernel_rfl) ?hq11 (Or.inl ⟨?hw11, ?hy11⟩) (by assumption) ?rest11
  case hi11 => simp only [List.getElem?_toArray, List.getElem?_cons_succ, List.getElem?_cons_zero]; rfl
  case hq11 => exact fun _ _ _ h => h
  case hw11 => rfl
  case hy11 => intro w hSw; (try dsimp only at hSw); go_simp; (try with_reducible rfl)
  try simp only [Act.put, List.setIfInBounds_toArray, List.set_cons_zero, List.set_cons_succ]
  refine' wpAnyH_take (i := 12) (oi := _) (v := _) ?hi12 (by kernel_rfl) (by kernel_rfl) (by kernel_rfl) ?hq12 (Or.inl ⟨?hw12, ?hy12⟩) (by assumption) ?rest12
  case hi12 => simp only [List.getElem?_toArray, List.getElem?_cons_succ, List.getElem?_cons_zero]; rfl
  case hq12 => exact fun _ _ _ h => h
  case hw12 => rfl
  case hy12 => intro w hSw; (try dsimp only at hSw); go_simp; (try with_reducible rfl)
  try simp only [Act.put, List.setIfInBounds_toArray, List.set_cons_zero, List.set_cons_succ]
  refine wpAnyH_ready (rs := [11]) (by kernel_rfl) (by simp) ?_
  refine AllReadyH.cons rfl (fun K hK => ?_) AllReadyH.nil
  go_simp
  refine Calls.mono (HC.out W0.drew (KF.out.trans (Fr.drew _ _) (fun _ _ h => h)) (by have := KZ.out; show _ ≤ W0.heap.size; omega)) ?_
  rintro e w2 ⟨rfl, hf2, h24, hr2⟩
  have hb4 := World.block_lt_of_cell? W0.drew _ KG.out.1
  have HD := Lib.hid (show w2.cell? ⟨b, 4, none⟩ = some (.map (some dr)) ∧ w2.heap[dr]? = some (.map es c) ∧ w2.cell? ⟨w.heap.size, 0, none⟩ = some (.string s) ∧ w2.cell? ⟨w.heap.size, 1, none⟩ = some (.int .i64 x) ∧ w2.cell? ⟨w.heap.size, 2, none⟩ = some (.int .i64 y) from
    ⟨h24, hf2.heap KG.out.2.1 (fun h => (KF'.out _ h).2 rfl), hf2.cell KG.out.2.2.1 (fun h => Nat.lt_irrefl _ (KF'.out _ h).1), hf2.cell KG.out.2.2.2.1 (fun h => Nat.lt_irrefl _ (KF'.out _ h).1), hf2.cell KG.out.2.2.2.2 (fun h => Nat.lt_irrefl _ (KF'.out _ h).1)⟩)
  have KN2 := Lib.hid (hf2.heap (show W0.drew.heap[w.heap.size + 1]? = _ from KN.out) (fun h => by have := (KF'.out _ h).1; omega))
  have KS2 := Lib.hid (hf2.heap (show W0.drew.heap[w.heap.size + 1 + 1]? = _ from KS.out) (fun h => by have := (KF'.out _ h).1; omega))
  have KR := Lib.hid (And.intro hf2 hr2)
  clear hf2 h24 hr2 hHeld
  refine hK.out _ _ HD.out (fun hHeld => ?_)
  clear hK K
  try simp only [Act.put, List.setIfInBounds_toArray, List.set_cons_zero, List.set_cons_succ]
  have n1 : w2.cell? ⟨w.heap.size + 1, 0, none⟩ = some (.int .i64 0) := by rw [heap_cell KN2.out]; rfl
  have z1 : w2.frozen? ⟨w.heap.size + 1, 0, none⟩ = false := heap_frozen KN2.out 0
  have hS1 := Fr.setCell (fun k => k = w.heap.size + 1) w2 ⟨w.heap.size + 1, 0, none⟩ (.int .i64 r) rfl
  have KS1 := Lib.hid hS1
  clear hS1 hHeld
  refine wpAnyH_ready (rs := [13]) (by kernel_rfl) (by simp) ?_
  refine AllReadyH.cons rfl (fun K hK => ?_) AllReadyH.nil
  go_simp
  refine hK.out _ _ ⟨KS1.out.cell HD.out.1 (fun h => by have := HLT.out; have h' : b = w.heap.size + 1 := h; omega), KS1.out.heap HD.out.2.1 (fun h => by have := HDL.out; omega), KS1.out.cell HD.out.2.2.1 (fun h => by have h' : w.heap.size = w.heap.size + 1 := h; omega), KS1.out.cell HD.out.2.2.2.1 (fun h => by have h' : w.heap.size = w.heap.size + 1 := h; omega), KS1.out.cell HD.out.2.2.2.2 (fun h => by have h' : w.heap.size = w.heap.size + 1 := h; omega)⟩ (fun hHeld => ?_)
  clear hK K
  try simp only [Act.put, List.setIfInBounds_toArray, List.set_cons_zero, List.set_cons_succ]
  have KP := Lib.hid (World.cell?_setCell_same w2 ⟨w.heap.size + 1, 0, none⟩ (.int .i64 r) n1)
  have KQ := Lib.hid (KS1.out.heap KS2.out (by omega))
  have KH := Lib.hid hHeld
  clear hHeld n1 z1
  generalize w2.setCell ⟨w.heap.size + 1, 0, none⟩ (.int .i64 r) = w3 at KS1 KP KQ KH ⊢
  have s0 : w3.cell? ⟨w.heap.size + 1 + 1, 0, none⟩ = some (.int .i64 0) := by rw [heap_cell KQ.out]; rfl
  have s1 : w3.cell? ⟨w.heap.size + 1 + 1, 1, none⟩ = some (.int .i64 0) := by rw [heap_cell KQ.out]; rfl
  have zs0 : w3.frozen? ⟨w.heap.size + 1 + 1, 0, none⟩ = false := heap_frozen KQ.out 0
  have zs1 : w3.frozen? ⟨w.heap.size + 1 + 1, 1, none⟩ = false := heap_frozen KQ.out 1
  have hHeld := KH.out
  refine wpAnyH_ready (rs := [14]) (by kernel_rfl) (by simp) ?_
  refine AllReadyH.cons rfl (fun K hK => ?_) AllReadyH.nil
  go_simp
  have KT := Lib.hid ((Fr.setCell (fun k => k = w.heap.size + 1 + 1) w3 ⟨w.heap.size + 1 + 1, 0, none⟩ (.int .i64 0) rfl).trans (Fr.setCell (fun k => k = w.heap.size + 1 + 1) _ ⟨w.heap.size + 1 + 1, 1, none⟩ (.int .i64 0) rfl) (fun _ _ h => h))
  have t1 : (w3.setCell ⟨w.heap.size + 1 + 1, 0, none⟩ (.int .i64 0)).cell? ⟨w.heap.size + 1 + 1, 1, none⟩ = some (.int .i64 0) := by rw [World.cell?_setCell_other _ _ _ _ (fun e => by have := congrArg Addr.off e; cases this)]; exact s1
  have KU := Lib.hid (show ((w3.setCell ⟨w.heap.size + 1 + 1, 0, none⟩ (.int .i64 0)).setCell ⟨w.heap.size + 1 + 1, 1, none⟩ (.int .i64 0)).cell? ⟨w.heap.size + 1 + 1, 0, none⟩ = some (.int .i64 0) ∧ ((w3.setCell ⟨w.heap.size + 1 + 1, 0, none⟩ (.int .i64 0)).setCell ⟨w.heap.size + 1 + 1, 1, none⟩ (.int .i64 0)).cell? ⟨w.heap.size + 1 + 1, 1, none⟩ = some (.int .i64 0) from
    ⟨by rw [World.cell?_setCell_other _ _ _ _ (fun e => by have := congrArg Addr.off e; cases this)]; exact World.cell?_setCell_same w3 _ _ s0, World.cell?_setCell_same _ _ _ t1⟩)
  clear t1 s0 s1 zs0 zs1
  generalize (w3.setCell ⟨w.heap.size + 1 + 1, 0, none⟩ (.int .i64 0)).setCell ⟨w.heap.size + 1 + 1, 1, none⟩ (.int .i64 0) = w4 at KT KU ⊢
  refine hK.out _ _ ⟨KT.out.cell KH.out.1 (fun h => by have := HLT.out; have h' : b = w.heap.size + 1 + 1 := h; omega), KT.out.heap KH.out.2.1 (fun h => by have := HDL.out; omega), KT.out.cell KH.out.2.2.1 (fun h => by have h' : w.heap.size = w.heap.size + 1 + 1 := h; omega), KT.out.cell KH.out.2.2.2.1 (fun h => by have h' : w.heap.size = w.heap.size + 1 + 1 := h; omega), KT.out.cell KH.out.2.2.2.2 (fun h => by have h' : w.heap.size = w.heap.size + 1 + 1 := h; omega)⟩ (fun hHeld => ?_)
  clear hK K hHeld
  try simp only [Act.put, List.setIfInBounds_toArray, List.set_cons_zero, List.set_cons_succ]
  have n4 : w4.cell? ⟨w.heap.size + 1, 0, none⟩ = some (.int .i64 r) := KT.out.cell KP.out (fun h => by have h' : w.heap.size + 1 = w.heap.size + 1 + 1 := h; omega)
  have s4 := KU.out.1
  have s5 := KU.out.2
  refine wpAnyH_done (by kernel_rfl) ?_ _
  refine NoPanic.normal ?_
  go_wp2
  refine leaves_cons (f := 71) (args := #[.pointer (some ⟨w.heap.size + 1, 0, none⟩), .pointer (some ⟨w.heap.size + 1 + 1, 0, none⟩)]) (by simp) (by simp [go_sem]) ?_
  refine (catch_idle _ _ _).mono ?_
  rintro e u' w'' ⟨rfl, rfl, rfl⟩
  have KE := Lib.hid (show ∃ w1 w2, Fr (fun _ => False) w w1 ∧ w.heap.size + 3 ≤ w1.heap.size ∧ Fr F w1 w2 ∧ R w1 w2 ∧ Fr (fun k => w.heap.size ≤ k ∧ k < w.heap.size + 3) w2 w'' from
    ⟨W0.drew, w2, KF.out.trans (Fr.drew _ _) (fun _ _ h => h), by have := KZ.out; show _ ≤ W0.heap.size; omega, KR.out.1, KR.out.2, (KS1.out.mono (G := fun k => w.heap.size ≤ k ∧ k < w.heap.size + 3) (fun k h => by have h' : k = w.heap.size + 1 := h; omega)).trans (KT.out.mono (G := fun k => w.heap.size ≤ k ∧ k < w.heap.size + 3) (fun k h => by have h' : k = w.heap.size + 1 + 1 := h; omega)) (fun _ _ h => h)⟩)
  simp [Leaves, settle, results, Tryz.results17, go_sem, n4, s4, s5, Result.andThen]
  obtain ⟨w1, w2', k1, k2, k3, k4, k5⟩ := KE.out
  exact ⟨w1, k1, k2, w2', k3, k4, k5⟩
def DoneP (pn ps : Nat) (f er : Int) (W0 : World) : Exit → Act → World → Prop
  | .panic c, a, w' => a.defers = [{ target := Target.fn (Fn.func 71) #[Value.pointer (some { block := pn, off := 0 }), Value.pointer (some { block := ps, off := 0 })], args := #[] }] ∧ a.tmps.getD 4 undef = .pointer (some ⟨pn, 0, none⟩) ∧ a.tmps.getD 5 undef = .pointer (some ⟨ps, 0, none⟩) ∧ c = [{ v := stopV f er, recovered := false }] ∧ ∃ m, w' = W0.drewN m
  | _, _, _ => False
theorem DoneP.put {pn ps : Nat} {f er : Int} {W0 : World} {t : Nat} (ht : 5 < t) (c : List PanicEntry) (a : Act) (v : Value) (w : World) (h : DoneP pn ps f er W0 (.panic c) (a.put (some t) v) w) : DoneP pn ps f er W0 (.panic c) a w := by
  obtain ⟨h1, h2, h3, h4, h5⟩ := h
  refine ⟨h1, ?_, ?_, h4, h5⟩
  · rw [← h2]; simp only [Act.put, Array.getD_eq_getD_getElem?]; rw [Array.getElem?_setIfInBounds_ne (by omega)]
  · rw [← h3]; simp only [Act.put, Array.getD_eq_getD_getElem?]; rw [Array.getElem?_setIfInBounds_ne (by omega)]
set_option maxHeartbeats 2000000 in
theorem done_no (b dr : Nat) (s : ByteArray) (x y f er : Int) (es : Array MapEntry) (c i n : Nat) (first cap : Array Value) (w : World)
    (h4 : w.cell? ⟨b, 4, none⟩ = some (.map (some dr))) (hmap : w.heap[dr]? = some (.map es c)) (hf : Instr.findNow .string (.string s) es.toList 0 = some (some (i, .func (.func n) first cap)))
    (hcf : ∀ (args : Array Value) (w : World), (callFunc n args).run Tryz.prog w = .ok (.enter n args) w)
    (hcall : ∀ w1, Fr (fun _ => False) w w1 → Calls Tryz.prog n (first ++ (#[.int .i64 x, .int .i64 y] ++ cap)) w1 fun e w2 => e = (Res.stop f er).ends ∧ ∃ m, w2 = w1.drewN m) :
    Calls Tryz.prog 17 #[.pointer (some ⟨b, 0, none⟩), .agg #[.string s, .int .i64 x, .int .i64 y]] w fun e w' => e = .returned (.tuple #[.int .i64 0, .agg #[.int .i64 f, .int .i64 er]]) ∧ Fr (fun _ => False) w w' := by
  have hlk : ∀ w' : World, w'.heap[dr]? = some (.map es c) → (Instr.lookup 73 (.map (some dr)) (.string s) false).run Tryz.prog w' = .ok (.func (.func n) first cap) w' := fun w' h => run_lookS w' dr es c s i _ h hf
  have HK := Lib.hid hlk
  have HM := Lib.hid hmap
  have HC := Lib.hid hcall
  have hlt := World.block_lt_of_cell? w _ h4
  have hdl := heap_lt hmap
  have HLT := Lib.hid hlt
  have HDL := Lib.hid hdl
  have hmf : ∀ (fn : Fn) (first cap : Array Value) (w : World), (Instr.makeFunc fn first cap).run Tryz.prog w = .ok (.func fn first cap) w := fun _ _ _ _ => rfl
  clear hcall hmap hf hlk
  go_enter_defers Tryz.func17, Tryz.ntmps17
  go_wp2
  have HF0 : Fr (fun _ => False) w (((w.alloc (Obj.cells #[Value.string s, Value.int IntKind.i64 x, Value.int IntKind.i64 y] 40)).alloc (Obj.cells #[Value.int IntKind.i64 0] 3)).alloc (Obj.cells #[Value.int IntKind.i64 0, Value.int IntKind.i64 0] 52)) := ((Fr.alloc _ _ _).trans (Fr.alloc _ _ _) (fun _ _ h => h)).trans (Fr.alloc _ _ _) (fun _ _ h => h)
  have HSZ : (((w.alloc (Obj.cells #[Value.string s, Value.int IntKind.i64 x, Value.int IntKind.i64 y] 40)).alloc (Obj.cells #[Value.int IntKind.i64 0] 3)).alloc (Obj.cells #[Value.int IntKind.i64 0, Value.int IntKind.i64 0] 52)).heap.size = w.heap.size + 3 := by simp
  have HX : (((w.alloc (Obj.cells #[Value.string s, Value.int IntKind.i64 x, Value.int IntKind.i64 y] 40)).alloc (Obj.cells #[Value.int IntKind.i64 0] 3)).alloc (Obj.cells #[Value.int IntKind.i64 0, Value.int IntKind.i64 0] 52)).heap[w.heap.size]? = some (.cells #[Value.string s, Value.int IntKind.i64 x, Value.int IntKind.i64 y] 40 (0, 0)) := ((Fr.alloc (fun _ => False) _ _).trans (Fr.alloc _ _ _) (fun _ _ h => h)).heap (heap_alloc_new w _) id
  have HN : (((w.alloc (Obj.cells #[Value.string s, Value.int IntKind.i64 x, Value.int IntKind.i64 y] 40)).alloc (Obj.cells #[Value.int IntKind.i64 0] 3)).alloc (Obj.cells #[Value.int IntKind.i64 0, Value.int IntKind.i64 0] 52)).heap[w.heap.size + 1]? = some (.cells #[Value.int IntKind.i64 0] 3 (0, 0)) := (Fr.alloc (fun _ => False) _ _).heap (by rw [show w.heap.size + 1 = (w.alloc (Obj.cells #[Value.string s, Value.int IntKind.i64 x, Value.int IntKind.i64 y] 40)).heap.size by simp]; exact heap_alloc_new _ _) id
  have HS : (((w.alloc (Obj.cells #[Value.string s, Value.int IntKind.i64 x, Value.int IntKind.i64 y] 40)).alloc (Obj.cells #[Value.int IntKind.i64 0] 3)).alloc (Obj.cells #[Value.int IntKind.i64 0, Value.int IntKind.i64 0] 52)).heap[w.heap.size + 1 + 1]? = some (.cells #[Value.int IntKind.i64 0, Value.int IntKind.i64 0] 52 (0, 0)) := by
    rw [show w.heap.size + 1 + 1 = ((w.alloc (Obj.cells #[Value.string s, Value.int IntKind.i64 x, Value.int IntKind.i64 y] 40)).alloc (Obj.cells #[Value.int IntKind.i64 0] 3)).heap.size by simp]; exact heap_alloc_new _ _
  generalize (((w.alloc (Obj.cells #[Value.string s, Value.int IntKind.i64 x, Value.int IntKind.i64 y] 40)).alloc (Obj.cells #[Value.int IntKind.i64 0] 3)).alloc (Obj.cells #[Value.int IntKind.i64 0, Value.int IntKind.i64 0] 52)) = W0 at HF0 HSZ HX HN HS ⊢
  have G4 : W0.cell? ⟨b, 4, none⟩ = some (.map (some dr)) := HF0.cell h4 id
  have GM : W0.heap[dr]? = some (.map es c) := HF0.heap HM.out id
  have G0 : W0.cell? ⟨w.heap.size, 0, none⟩ = some (.string s) := by rw [heap_cell HX]; rfl
  have G1 : W0.cell? ⟨w.heap.size, 1, none⟩ = some (.int .i64 x) := by rw [heap_cell HX]; rfl
  have G2 : W0.cell? ⟨w.heap.size, 2, none⟩ = some (.int .i64 y) := by rw [heap_cell HX]; rfl
  have KF := Lib.hid HF0
  have KZ := Lib.hid HSZ
  have KN := Lib.hid HN
  have KS := Lib.hid HS
  have KG := Lib.hid (show W0.drew.cell? ⟨b, 4, none⟩ = some (.map (some dr)) ∧ W0.drew.heap[dr]? = some (.map es c) ∧ W0.drew.cell? ⟨w.heap.size, 0, none⟩ = some (.string s) ∧ W0.drew.cell? ⟨w.heap.size, 1, none⟩ = some (.int .i64 x) ∧ W0.drew.cell? ⟨w.heap.size, 2, none⟩ = some (.int .i64 y) from ⟨G4, GM, G0, G1, G2⟩)
  clear HF0 HSZ HX HN HS G4 GM G0 G1 G2 hlt hdl h4
  refine Code.wp_mono (Q := DoneP (w.heap.size + 1) (w.heap.size + 1 + 1) f er W0) ?mono ?_
  rotate_left
  refine wp_region_held_drew (S := fun w' => w'.cell? ⟨b, 4, none⟩ = some (.map (some dr)) ∧ w'.heap[dr]? = some (.map es c) ∧ w'.cell? ⟨w.heap.size, 0, none⟩ = some (.string s) ∧ w'.cell? ⟨w.heap.size, 1, none⟩ = some (.int .i64 x) ∧ w'.cell? ⟨w.heap.size, 2, none⟩ = some (.int .i64 y)) (by kernel_rfl) KG.out (fun hHeld => ?_)
  refine' wpAnyH_take (i := 0) (oi := _) (v := _) ?hi13 (by kernel_rfl) (by kernel_rfl) (by kernel_rfl) ?hq13 (Or.inl ⟨?hw13, ?hy13⟩) (by assumption) ?rest13
  case hi13 => simp only [List.getElem?_toArray, List.getElem?_cons_succ, List.getElem?_cons_zero]; rfl
  case hq13 => exact fun c a w h => DoneP.put (by omega) c a _ w h
  case hw13 => rfl
  case hy13 => intro w hSw; (try dsimp only at hSw); go_simp; (try with_reducible rfl)
  try simp only [Act.put, List.setIfInBounds_toArray, List.set_cons_zero, List.set_cons_succ]
  refine' wpAnyH_take (i := 1) (oi := _) (v := _) ?hi14 (by kernel_rfl) (by kernel_rfl) (by kernel_rfl) ?hq14 (Or.inl ⟨?hw14, ?hy14⟩) (by assumption) ?rest14
  case hi14 => simp only [List.getElem?_toArray, List.getElem?_cons_succ, List.getElem?_cons_zero]; rfl
  case hq14 => exact fun c a w h => DoneP.put (by omega) c a _ w h
  case hw14 => rfl
  case hy14 => intro w hSw; (try dsimp only at hSw); go_simp; (try with_reducible rfl)
  try simp only [Act.put, List.setIfInBounds_toArray, List.set_cons_zero, List.set_cons_succ]
  refine' wpAnyH_take (i := 2) (oi := _) (v := _) ?hi15 (by kernel_rfl) (by kernel_rfl) (by kernel_rfl) ?hq15 (Or.inl ⟨?hw15, ?hy15⟩) (by assumption) ?rest15
  case hi15 => simp only [List.getElem?_toArray, List.getElem?_cons_succ, List.getElem?_cons_zero]; rfl
  case hq15 => exact fun c a w h => DoneP.put (by omega) c a _ w h
  case hw15 => rfl
  case hy15 => intro w hSw; (try dsimp only at hSw); go_simp; (try with_reducible rfl)
  try simp only [Act.put, List.setIfInBounds_toArray, List.set_cons_zero, List.set_cons_succ]
  refine' wpAnyH_take (i := 3) (oi := _) (v := _) ?hi16 (by kernel_rfl) (by kernel_rfl) (by kernel_rfl) ?hq16 (Or.inl ⟨?hw16, ?hy16⟩) (by assumption) ?rest16
  case hi16 => simp only [List.getElem?_toArray, List.getElem?_cons_succ, List.getElem?_cons_zero]; rfl
  case hq16 => exact fun c a w h => DoneP.put (by omega) c a _ w h
  case hw16 => rfl
  case hy16 => intro w hSw; (try dsimp only at hSw); go_simp; (try with_reducible rfl)
  try simp only [Act.put, List.setIfInBounds_toArray, List.set_cons_zero, List.set_cons_succ]
  refine' wpAnyH_take (i := 4) (oi := _) (v := _) ?hi17 (by kernel_rfl) (by kernel_rfl) (by kernel_rfl) ?hq17 (Or.inl ⟨?hw17, ?hy17⟩) (by assumption) ?rest17
  case hi17 => simp only [List.getElem?_toArray, List.getElem?_cons_succ, List.getElem?_cons_zero]; rfl
  case hq17 => exact fun c a w h => DoneP.put (by omega) c a _ w h
  case hw17 => rfl
  case hy17 => intro w hSw; (try dsimp only at hSw); go_simp; (try with_reducible rfl)
  try simp only [Act.put, List.setIfInBounds_toArray, List.set_cons_zero, List.set_cons_succ]
  refine' wpAnyH_take (i := 5) (oi := _) (v := _) ?hi18 (by kernel_rfl) (by kernel_rfl) (by kernel_rfl) ?hq18 (Or.inl ⟨?hw18, ?hy18⟩) (by assumption) ?rest18
  case hi18 => simp only [List.getElem?_toArray, List.getElem?_cons_succ, List.getElem?_cons_zero]; rfl
  case hq18 => exact fun c a w h => DoneP.put (by omega) c a _ w h
  case hw18 => rfl
  case hy18 => intro w hSw; (try dsimp only at hSw); go_simp; (try with_reducible rfl)
  try simp only [Act.put, List.setIfInBounds_toArray, List.set_cons_zero, List.set_cons_succ]
  refine' wpAnyH_take (i := 6) (oi := _) (v := _) ?hi19 (by kernel_rfl) (by kernel_rfl) (by kernel_rfl) ?hq19 (Or.inl ⟨?hw19, ?hy19⟩) (by assumption) ?rest19
  case hi19 => simp only [List.getElem?_toArray, List.getElem?_cons_succ, List.getElem?_cons_zero]; rfl
  case hq19 => exact fun c a w h => DoneP.put (by omega) c a _ w h
  case hw19 => rfl
  case hy19 => intro w hSw; (try dsimp only at hSw); (have hlk := HK.out _ hSw.2.1); go_simp; (try with_reducible rfl)
  try simp only [Act.put, List.setIfInBounds_toArray, List.set_cons_zero, List.set_cons_succ]
  refine' wpAnyH_take (i := 7) (oi := _) (v := _) ?hi20 (by kernel_rfl) (by kernel_rfl) (by kernel_rfl) ?hq20 (Or.inl ⟨?hw20, ?hy20⟩) (by assumption) ?rest20
  case hi20 => simp only [List.getElem?_toArray, List.getElem?_cons_succ, List.getElem?_cons_zero]; rfl
  case hq20 => exact fun c a w h => DoneP.put (by omega) c a _ w h
  case hw20 => rfl
  case hy20 => intro w hSw; (try dsimp only at hSw); go_simp; (try with_reducible rfl)
  try simp only [Act.put, List.setIfInBounds_toArray, List.set_cons_zero, List.set_cons_succ]
  refine' wpAnyH_take (i := 8) (oi := _) (v := _) ?hi21 (by kernel_rfl) (by kernel_rfl) (by kernel_rfl) ?hq21 (Or.inl ⟨?hw21, ?hy21⟩) (by assumption) ?rest21
  case hi21 => simp only [List.getElem?_toArray, List.getElem?_cons_succ, List.getElem?_cons_zero]; rfl
  case hq21 => exact fun c a w h => DoneP.put (by omega) c a _ w h
  case hw21 => rfl
  case hy21 => intro w hSw; (try dsimp only at hSw); go_simp; (try with_reducible rfl)
  try simp only [Act.put, List.setIfInBounds_toArray, List.set_cons_zero, List.set_cons_succ]
  refine' wpAnyH_take (i := 9) (oi := _) (v := _) ?hi22 (by kernel_rfl) (by kernel_rfl) (by kernel_rfl) ?hq22 (Or.inl ⟨?hw22, ?hy22⟩) (by assumption) ?rest22
  case hi22 => simp only [List.getElem?_toArray, List.getElem?_cons_succ, List.getElem?_cons_zero]; rfl
  case hq22 => exact fun c a w h => DoneP.put (by omega) c a _ w h
  case hw22 => rfl
  case hy22 => intro w hSw; (try dsimp only at hSw); go_simp; (try with_reducible rfl)
  try simp only [Act.put, List.setIfInBounds_toArray, List.set_cons_zero, List.set_cons_succ]
  refine' wpAnyH_take (i := 10) (oi := _) (v := _) ?hi23 (by kernel_rfl) (by kernel_rfl) (by kernel_rfl) ?hq23 (Or.inl ⟨?hw23, ?hy23⟩) (by assumption) ?rest23
  case hi23 => simp only [List.getElem?_toArray, List.getElem?_cons_succ, List.getElem?_cons_zero]; rfl
  case hq23 => exact fun c a w h => DoneP.put (by omega) c a _ w h
  case hw23 => rfl
  case hy23 => intro w hSw; (try dsimp only at hSw); go_simp; (try with_reducible rfl)
  try simp only [Act.put, List.setIfInBounds_toArray, List.set_cons_zero, List.set_cons_succ]
  refine' wpAnyH_take (i := 12) (oi := _) (v := _) ?hi24 (by kernel_rfl) (by kernel_rfl) (by kernel_rfl) ?hq24 (Or.inl ⟨?hw24, ?hy24⟩) (by assumption) ?rest24
  case hi24 => simp only [List.getElem?_toArray, List.getElem?_cons_succ, List.getElem?_cons_zero]; rfl
  case hq24 => exact fun c a w h => DoneP.put (by omega) c a _ w h
  case hw24 => rfl
  case hy24 => intro w hSw; (try dsimp only at hSw); go_simp; (try with_reducible rfl)
  try simp only [Act.put, List.setIfInBounds_toArray, List.set_cons_zero, List.set_cons_succ]
  refine wpAnyH_ready (rs := [11]) (by kernel_rfl) (by simp) ?_
  refine AllReadyH.cons rfl (fun K hK => ?_) AllReadyH.nil
  go_simp
  refine Calls.mono (HC.out W0.drew (KF.out.trans (Fr.drew _ _) (fun _ _ h => h))) ?_
  rintro e w2 ⟨rfl, m, rfl⟩
  exact ⟨rfl, rfl, rfl, rfl, 1 + m, World.drewN_drewN W0 1 m⟩
  case mono =>
    clear KG
    intro e a w' h
    cases e <;> try exact (h : False).elim
    obtain ⟨h1, h2, h3, rfl, m, rfl⟩ := h
    show Leaves Tryz.prog Tryz.f17 a.tmps _ a.defers (.panicking _) _
    rw [h1]
    refine leaves_cons (f := 71) (args := #[.pointer (some ⟨w.heap.size + 1, 0, none⟩), .pointer (some ⟨w.heap.size + 1 + 1, 0, none⟩)]) (by simp) (by simp [go_sem]) ?_
    refine (catch_panicking _ _ f er 0 0 0 [] (W0.drewN m) KN.out KS.out (by omega)).mono ?_
    rintro e u' w'' ⟨rfl, rfl, c1, c2, c3, c4⟩
    have KE := Lib.hid (show Fr (fun _ => False) w w'' from ⟨c4.os.trans KF.out.os, c4.tape.trans KF.out.tape, c4.output.trans KF.out.output, Nat.le_trans KF.out.size c4.size, fun k hk _ => (c4.block k (Nat.lt_of_lt_of_le hk KF.out.size) (by omega)).trans (KF.out.block k hk id)⟩)
    rw [Array.getD_eq_getD_getElem?] at h2 h3
    simp [Leaves, settle, results, Tryz.results17, go_sem, h2, h3, c1, c2, c3, Result.andThen]
    exact KE.out
end Go.Proofs.YtpnbhoeghncnnaaGreatDoor

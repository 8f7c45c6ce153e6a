/- What the small functions of the instance layer answer: arithmetic, places, vehicles, requests, roads. -/
import Derived.Test.YteefopaoodfapaaDoorB0
namespace Go.Proofs.YteefopaoodfapaaDoor.L1
open Go.RowKit Go.Proofs.YteefopaoodfapaaDoorW.PrintWords Go.Proofs.YteefopaoodfapaaDoor.B
set_option linter.unusedVariables false
set_option linter.unusedSimpArgs false

structure Place where (x y o c h : Int)
structure Veh where (room skills : Int) (home : Place)
structure Req where (size tags : Int) (from_ to_ : Place)
structure Road where (a b t : Int)
def Place.enc (p : Place) : List Value := [.int .i64 p.x, .int .i64 p.y, .int .i64 p.o, .int .i64 p.c, .int .i64 p.h]
def Veh.enc (v : Veh) : List Value := [.int .i64 v.room, .int .i64 v.skills, .int .i64 v.home.x, .int .i64 v.home.y, .int .i64 v.home.o, .int .i64 v.home.c, .int .i64 v.home.h]
def Req.enc (r : Req) : List Value := [.int .i64 r.size, .int .i64 r.tags, .int .i64 r.from_.x, .int .i64 r.from_.y, .int .i64 r.from_.o, .int .i64 r.from_.c, .int .i64 r.from_.h, .int .i64 r.to_.x, .int .i64 r.to_.y, .int .i64 r.to_.o, .int .i64 r.to_.c, .int .i64 r.to_.h]
def Road.enc (r : Road) : List Value := [.int .i64 r.a, .int .i64 r.b, .int .i64 r.t]
def kVeh : Kd Veh := Kd.flat 7 Veh.enc (fun _ => rfl) (by intro x u hu; simp [Veh.enc] at hu; rcases hu with rfl | rfl | rfl | rfl | rfl | rfl | rfl <;> rfl)
def kReq : Kd Req := Kd.flat 12 Req.enc (fun _ => rfl) (by intro x u hu; simp [Req.enc] at hu; rcases hu with rfl | rfl | rfl | rfl | rfl | rfl | rfl | rfl | rfl | rfl | rfl | rfl <;> rfl)
def kRoad : Kd Road := Kd.flat 3 Road.enc (fun _ => rfl) (by intro x u hu; simp [Road.enc] at hu; rcases hu with rfl | rfl | rfl <;> rfl)
def Place.val (p : Place) : Value := .agg #[.int .i64 p.x, .int .i64 p.y, .int .i64 p.o, .int .i64 p.c, .int .i64 p.h]
def zP : Place := ⟨0, 0, 0, 0, 0⟩
def zV : Veh := ⟨0, 0, zP⟩
def zQ : Req := ⟨0, 0, zP, zP⟩
def zR : Road := ⟨0, 0, 0⟩

def Place.good (p : Place) : Bool := inB p.x (-10000) 10000 && inB p.y (-10000) 10000 && inB p.o 0 p.c && decide (p.c ≤ 1000000) && inB p.h 0 1000000
def Veh.good (v : Veh) : Bool := inB v.room 0 1000000 && inB v.skills 0 65535 && v.home.good
def Req.good (r : Req) : Bool := inB r.size 0 10000 && inB r.tags 0 65535 && r.from_.good && r.to_.good
def Road.good (r : Road) (n : Int) : Bool := inB r.a 0 (n - 1) && inB r.b 0 (n - 1) && r.a != r.b && inB r.t 0 100000
def Road.lt (r s : Road) : Bool := decide (r.a < s.a ∨ (r.a = s.a ∧ r.b < s.b))

section
variable (w : World)
theorem spec_l1In (x lo hi : Int) : Calls Tryd.prog 55 #[.int .i64 x, .int .i64 lo, .int .i64 hi] w fun e w' => e = .returned (.bool (inB x lo hi)) ∧ w = w' := by
  go_enter Tryd.func55, Tryd.ntmps55
  go_wp2
  all_goals (go_ret; exact ⟨by simp [inB, *] <;> omega, rfl⟩)
theorem impl_within (x lo hi : Int) : Calls Tryd.prog 59 #[.int .i64 x, .int .i64 lo, .int .i64 hi] w fun e w' => e = .returned (.bool (inB x lo hi)) ∧ w = w' := by
  go_enter Tryd.func59, Tryd.ntmps59
  go_wp2
  all_goals (go_ret; exact ⟨by simp [inB, *] <;> omega, rfl⟩)

theorem spec_goodPlace (p : Place) : Calls Tryd.prog 56 #[.agg #[.int .i64 p.x, .int .i64 p.y, .int .i64 p.o, .int .i64 p.c, .int .i64 p.h]] w fun e w' => e = .returned (.bool p.good) ∧ Below w.heap.size w w' := by
  go_enter Tryd.func56, Tryd.ntmps56
  go_wp2_with (go_at_call 55; refine (spec_l1In _ _ _ _).mono ?_; rintro e w' ⟨rfl, rfl⟩)
  all_goals (go_ret; exact ⟨by simp [Place.good, *] <;> omega, (Below.refl _ _).alloc (Nat.le_refl _) _⟩)
theorem impl_goodPlace (p : Place) : Calls Tryd.prog 60 #[.agg #[.int .i64 p.x, .int .i64 p.y, .int .i64 p.o, .int .i64 p.c, .int .i64 p.h]] w fun e w' => e = .returned (.bool p.good) ∧ Below w.heap.size w w' := by
  go_enter Tryd.func60, Tryd.ntmps60
  go_wp2_with (go_at_call 59; refine (impl_within _ _ _ _).mono ?_; rintro e w' ⟨rfl, rfl⟩)
  all_goals (go_ret; refine ⟨?_, (Below.refl _ _).alloc (Nat.le_refl _) _⟩; simp_all [Place.good, inB] <;> omega)

theorem spec_goodVeh (v : Veh) : Calls Tryd.prog 33 #[.agg #[.int .i64 v.room, .int .i64 v.skills, .int .i64 v.home.x, .int .i64 v.home.y, .int .i64 v.home.o, .int .i64 v.home.c, .int .i64 v.home.h]] w fun e w' => e = .returned (.bool v.good) ∧ Below w.heap.size w w' := by
  go_enter Tryd.func33, Tryd.ntmps33
  go_wp2_with (first | (go_at_call 55; refine (spec_l1In _ _ _ _).mono ?_; rintro e w' ⟨rfl, rfl⟩) | (go_at_call 56; refine (spec_goodPlace _ v.home).mono ?_; rintro e w' ⟨rfl, hb⟩))
  all_goals go_ret
  · exact ⟨by simp [Veh.good, *], ((Below.refl _ _).alloc (Nat.le_refl _) _).trans (‹Below _ _ _›.mono (by simp))⟩
  all_goals exact ⟨by simp [Veh.good, *], (Below.refl _ _).alloc (Nat.le_refl _) _⟩
end
end Go.Proofs.YteefopaoodfapaaDoor.L1

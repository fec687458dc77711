/-
  Contracts of package deferral's inner functions: time, Check, until. Nothing that lay in memory is changed.
-/
import Derived.Test.YtdmaekiejdahoaaDoorRows
import Derived.Test.YtdmaekiejdahoaaDoorFrame
import Derived.Lib.Hide
import Derived.Outline
import Derived.Handy
import Derived.WalkLawsBesides
namespace Go.Proofs.YtdmaekiejdahoaaDoor
open Go.ChangeShapes Go.WideShapes Go.ChangeAt Go.RowKit

/-- Is a number a time of an allocation? -/
def timeB (t : Int) : Bool := decide (0 ≤ t ∧ t ≤ 2199023255552)
theorem timeB_yes {t : Int} (h : 0 ≤ t ∧ t ≤ 2199023255552) : timeB t = true := by simp [timeB, h]
theorem timeB_no {t : Int} (h : ¬ (0 ≤ t ∧ t ≤ 2199023255552)) : timeB t = false := by simp only [timeB, h, decide_false]
theorem time_any (t : Int) (w : World) : Calls Tryd.prog 24 #[.int .i64 t] w fun e w' => e = .returned (.bool (timeB t)) ∧ w = w' := by
  by_cases h1 : 0 ≤ t <;> by_cases h2 : t ≤ 2199023255552
  all_goals
    go_enter Tryd.func24, Tryd.ntmps24
    go_wp2
    go_ret
    refine ⟨fr_retb ?_, rfl⟩
    first | (rw [timeB_yes ⟨by omega, by omega⟩]; done) | (rw [timeB_no (by omega)]; done) | (rw [timeB_yes ⟨by omega, by omega⟩]; simp; omega) | (rw [timeB_no (by omega)]; simp; omega)

/-- The error of an allocation. -/
def navE (u l : Int) : Int := if timeB u && timeB l then 0 else 8
theorem check_any (u l : Int) (w : World) : Calls Tryd.prog 18 #[.agg #[.int .i64 u, .int .i64 l]] w fun e w' => e = .returned (.int .i64 (navE u l)) ∧ Below w.heap.size w w' := by
  have c1 : timeB u = true ∨ timeB u = false := by cases timeB u <;> simp
  have c2 : timeB l = true ∨ timeB l = false := by cases timeB l <;> simp
  rcases c1 with c1 | c1 <;> rcases c2 with c2 | c2
  all_goals
    have he := Lib.hid (show navE u l = _ by simp only [navE, c1, c2]; rfl)
    go_enter Tryd.func18, Tryd.ntmps18
    go_wp2_with (go_at_call 24; refine (time_any _ _).mono ?_; rintro e w' ⟨rfl, rfl⟩)
    go_ret
    exact ⟨fr_ret he.out.symm, by go_grown⟩

/-- The end of an allocation. -/
def navEnd (u l : Int) : Int := if 0 < l ∧ l < u then l else u
theorem until_any (u l : Int) (w : World) : Calls Tryd.prog 22 #[.agg #[.int .i64 u, .int .i64 l]] w fun e w' => e = .returned (.int .i64 (navEnd u l)) ∧ Below w.heap.size w w' := by
  by_cases h1 : 0 < l
  · by_cases h2 : l < u
    all_goals
      go_enter Tryd.func22, Tryd.ntmps22
      go_wp2
      all_goals go_ret
      all_goals exact ⟨fr_ret (by simp only [navEnd]; split <;> omega), by go_grown⟩
  · go_enter Tryd.func22, Tryd.ntmps22
    go_wp2
    go_ret
    exact ⟨fr_ret (by simp only [navEnd]; split <;> omega), by go_grown⟩

/-- Is a frame a request? -/
def reqB (k s : Int) : Bool := k == 1 && s == 11
theorem request_any (hd : Array Value) (k s : Int) (w : World) (h0 : hd[0]? = some (.int .u8 k)) (h1 : hd[1]? = some (.int .u8 s)) : Calls Tryd.prog 26 #[.agg hd] w fun e w' => e = .returned (.bool (reqB k s)) ∧ Below w.heap.size w w' := by
  go_enter Tryd.func26, Tryd.ntmps26
  go_wp2
  all_goals go_ret
  all_goals exact ⟨fr_retb (by simp only [reqB]; simp [*]), by go_grown⟩
end Go.Proofs.YtdmaekiejdahoaaDoor

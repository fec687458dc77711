/-
  The chapter's examples of layer 9 hold: the law's own 'alive' returns true.
-/
import Derived.Test.YtpcndmpdiaceeaaRateC
namespace Go.Proofs.Ytpcndmpdiaceeaa
open Go.ChangeShapes Go.WideShapes Go.ChangeAt Go.RowKit

theorem alive_any (w : World) : Calls Try.prog 18 #[] w fun e w' => e = .returned (.bool true) ∧ Below w.heap.size w w' := by
  have e1 : rAir 0 14 = 44 := by decide
  have e2 : rAir 11 1500 = 124 := by decide
  have e3 : rAir (rResp 3) 14 = 32 := by decide
  have e4 : (rBest (-700) 12).1 = 5 := by decide
  have e5 : (rBest (-700) 12).2 = true := by decide
  go_enter Try.func18, Try.ntmps18
  go_wp2_with fail
  refine (airF_yes _ _ (by omega) (by omega) (by omega) (by omega) _).mono ?_
  rintro e w1 ⟨rfl, hb1⟩
  have hz1 := hb1.size
  go_wp2_with fail
  refine (airF_yes _ _ (by omega) (by omega) (by omega) (by omega) _).mono ?_
  rintro e w2 ⟨rfl, hb2⟩
  have hB2 := hb1.trans (hb2.mono hz1)
  have hz2 := hB2.size
  go_wp2_with fail
  refine (ack_yes _ (by omega) (by omega) _).mono ?_
  rintro e w3 ⟨rfl, hb3⟩
  have hB3 := hB2.trans (hb3.mono hz2)
  have hz3 := hB3.size
  go_wp2_with fail
  refine (best_any _ _).mono ?_
  rintro e w4 ⟨rfl, hb4⟩
  have hB4 := hB3.trans (hb4.mono hz3)
  go_wp2
  go_ret
  exact ⟨rfl, hB4⟩
end Go.Proofs.Ytpcndmpdiaceeaa

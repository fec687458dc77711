/-
  The contract of deferral.Heard for all arguments (door seat).
-/
import Derived.Test.YtdmaekiejdahoaaDoorDefHeard
namespace Go.Proofs.YtdmaekiejdahoaaDoor
open Go.ChangeShapes Go.WideShapes Go.ChangeAt Go.RowKit

/-! ### Both functions for all arguments -/
def hOk (u l e d a : Int) : Bool := (navE u l == 0) && heardOk e d a
def hU (u l e d a : Int) (mine : Bool) : Int := if hOk u l e d a then heardU u l e d mine else 0
def hL (u l e d a : Int) (mine req : Bool) : Int := if hOk u l e d a then heardL u l e d a mine req else 0
def hE (u l e d a : Int) : Int := if navE u l = 0 then (if heardOk e d a then 0 else 2) else 8
theorem heard_any (u l s0 s1 s2 s3 s4 s5 : Int) (hd : Array Value) (kind sub d a0 a1 a2 a3 a4 a5 e a : Int) (H : Head hd kind sub d a0 a1 a2 a3 a4 a5) (h0 : 0 ≤ a0 ∧ a0 ≤ 255) (h1 : 0 ≤ a1 ∧ a1 ≤ 255) (h2 : 0 ≤ a2 ∧ a2 ≤ 255) (h3 : 0 ≤ a3 ∧ a3 ≤ 255) (h4 : 0 ≤ a4 ∧ a4 ≤ 255) (h5 : 0 ≤ a5 ∧ a5 ≤ 255) (g0 : 0 ≤ s0 ∧ s0 ≤ 255) (g1 : 0 ≤ s1 ∧ s1 ≤ 255) (g2 : 0 ≤ s2 ∧ s2 ≤ 255) (g3 : 0 ≤ s3 ∧ s3 ≤ 255) (g4 : 0 ≤ s4 ∧ s4 ≤ 255) (g5 : 0 ≤ s5 ∧ s5 ≤ 255) (w : World) :
    Calls Tryd.prog 21 #[.agg #[.int .i64 u, .int .i64 l], .agg #[.int .u8 s0, .int .u8 s1, .int .u8 s2, .int .u8 s3, .int .u8 s4, .int .u8 s5], .agg hd, .int .i64 e, .int .i64 a] w fun en w' => en = .returned (.tuple #[.agg #[.int .i64 (hU u l e d a (addrB a0 a1 a2 a3 a4 a5 s0 s1 s2 s3 s4 s5)), .int .i64 (hL u l e d a (addrB a0 a1 a2 a3 a4 a5 s0 s1 s2 s3 s4 s5) (reqB kind sub))], .int .i64 (hE u l e d a)]) ∧ Below w.heap.size w w' := by
  by_cases hn : navE u l = 0
  · have hv : timeB u = true ∧ timeB l = true := by
      unfold navE at hn
      cases h1 : timeB u <;> cases h2 : timeB l <;> simp_all
    by_cases hok : (0 ≤ e ∧ e ≤ 1099511627776) ∧ (0 ≤ d ∧ d ≤ 32767) ∧ 0 ≤ a ∧ a ≤ 32767
    · have ho : heardOk e d a = true := by simp [heardOk, hok]
      have := heard_in u l s0 s1 s2 s3 s4 s5 hd kind sub d a0 a1 a2 a3 a4 a5 e a H h0 h1 h2 h3 h4 h5 g0 g1 g2 g3 g4 g5 hv.1 hv.2 hok.1.1 hok.1.2 hok.2.1.1 hok.2.1.2 hok.2.2.1 hok.2.2.2 w
      simpa only [hU, hL, hE, hOk, hn, ho, if_true, beq_self_eq_true, Bool.and_self] using this
    · have ho : heardOk e d a = false := by simp only [heardOk, hok, decide_false]
      have := heard_out u l s0 s1 s2 s3 s4 s5 hd kind sub d a0 a1 a2 a3 a4 a5 e a H hn hok w
      simpa [hU, hL, hE, hOk, hn, ho] using this
  · have h8 : navE u l = 8 := by
      unfold navE at hn ⊢
      split <;> simp_all
    have := heard_bad u l s0 s1 s2 s3 s4 s5 hd kind sub d a0 a1 a2 a3 a4 a5 e a H h8 w
    simpa [hU, hL, hE, hOk, h8] using this
end Go.Proofs.YtdmaekiejdahoaaDoor

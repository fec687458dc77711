/-
  The walk of DeferralHears: Heard returns what the reference returns.
-/
import Derived.Test.YtdmaekiejdahoaaDefRef
namespace Go.Proofs.Ytdmaekiejdahoaa
open Go.ChangeShapes Go.WideShapes Go.ChangeAt Go.RowKit

/-! ### Both functions for all arguments -/
def hOk (u l e d a : Int) : Bool := (navE u l == 0) && heardOk e d a
def hU (u l e d a : Int) (mine : Bool) : Int := if hOk u l e d a then heardU u l e d mine else 0
def hL (u l e d a : Int) (mine req : Bool) : Int := if hOk u l e d a then heardL u l e d a mine req else 0
def hE (u l e d a : Int) : Int := if navE u l = 0 then (if heardOk e d a then 0 else 2) else 8
theorem heard_any (u l s0 s1 s2 s3 s4 s5 : Int) (hd : Array Value) (kind sub d a0 a1 a2 a3 a4 a5 e a : Int) (H : Head hd kind sub d a0 a1 a2 a3 a4 a5) (h0 : 0 ≤ a0 ∧ a0 ≤ 255) (h1 : 0 ≤ a1 ∧ a1 ≤ 255) (h2 : 0 ≤ a2 ∧ a2 ≤ 255) (h3 : 0 ≤ a3 ∧ a3 ≤ 255) (h4 : 0 ≤ a4 ∧ a4 ≤ 255) (h5 : 0 ≤ a5 ∧ a5 ≤ 255) (g0 : 0 ≤ s0 ∧ s0 ≤ 255) (g1 : 0 ≤ s1 ∧ s1 ≤ 255) (g2 : 0 ≤ s2 ∧ s2 ≤ 255) (g3 : 0 ≤ s3 ∧ s3 ≤ 255) (g4 : 0 ≤ s4 ∧ s4 ≤ 255) (g5 : 0 ≤ s5 ∧ s5 ≤ 255) (w : World) :
    Calls Try.prog 4 #[.agg #[.int .i64 u, .int .i64 l], .agg #[.int .u8 s0, .int .u8 s1, .int .u8 s2, .int .u8 s3, .int .u8 s4, .int .u8 s5], .agg hd, .int .i64 e, .int .i64 a] w fun en w' => en = .returned (.tuple #[.agg #[.int .i64 (hU u l e d a (addrB a0 a1 a2 a3 a4 a5 s0 s1 s2 s3 s4 s5)), .int .i64 (hL u l e d a (addrB a0 a1 a2 a3 a4 a5 s0 s1 s2 s3 s4 s5) (reqB kind sub))], .int .i64 (hE u l e d a)]) ∧ Below w.heap.size w w' := by
  by_cases hn : navE u l = 0
  · have hv : timeB u = true ∧ timeB l = true := by
      unfold navE at hn
      cases h1 : timeB u <;> cases h2 : timeB l <;> simp_all
    by_cases hok : (0 ≤ e ∧ e ≤ 1099511627776) ∧ (0 ≤ d ∧ d ≤ 32767) ∧ 0 ≤ a ∧ a ≤ 32767
    · have ho : heardOk e d a = true := by simp [heardOk, hok]
      have := heard_in u l s0 s1 s2 s3 s4 s5 hd kind sub d a0 a1 a2 a3 a4 a5 e a H h0 h1 h2 h3 h4 h5 g0 g1 g2 g3 g4 g5 hv.1 hv.2 hok.1.1 hok.1.2 hok.2.1.1 hok.2.1.2 hok.2.2.1 hok.2.2.2 w
      simpa only [hU, hL, hE, hOk, hn, ho, if_true, beq_self_eq_true, Bool.and_self] using this
    · have ho : heardOk e d a = false := by simp only [heardOk, hok, decide_false]
      have := heard_out u l s0 s1 s2 s3 s4 s5 hd kind sub d a0 a1 a2 a3 a4 a5 e a H hn hok w
      simpa [hU, hL, hE, hOk, hn, ho] using this
  · have h8 : navE u l = 8 := by
      unfold navE at hn ⊢
      split <;> simp_all
    have := heard_bad u l s0 s1 s2 s3 s4 s5 hd kind sub d a0 a1 a2 a3 a4 a5 e a H h8 w
    simpa [hU, hL, hE, hOk, h8] using this
theorem refheard_any (u l s0 s1 s2 s3 s4 s5 : Int) (hd : Array Value) (kind sub d a0 a1 a2 a3 a4 a5 e a : Int) (H : Head hd kind sub d a0 a1 a2 a3 a4 a5) (h0 : 0 ≤ a0 ∧ a0 ≤ 255) (h1 : 0 ≤ a1 ∧ a1 ≤ 255) (h2 : 0 ≤ a2 ∧ a2 ≤ 255) (h3 : 0 ≤ a3 ∧ a3 ≤ 255) (h4 : 0 ≤ a4 ∧ a4 ≤ 255) (h5 : 0 ≤ a5 ∧ a5 ≤ 255) (g0 : 0 ≤ s0 ∧ s0 ≤ 255) (g1 : 0 ≤ s1 ∧ s1 ≤ 255) (g2 : 0 ≤ s2 ∧ s2 ≤ 255) (g3 : 0 ≤ s3 ∧ s3 ≤ 255) (g4 : 0 ≤ s4 ∧ s4 ≤ 255) (g5 : 0 ≤ s5 ∧ s5 ≤ 255) (w : World) :
    Calls Try.prog 5 #[.agg #[.int .i64 u, .int .i64 l], .agg #[.int .u8 s0, .int .u8 s1, .int .u8 s2, .int .u8 s3, .int .u8 s4, .int .u8 s5], .agg hd, .int .i64 e, .int .i64 a] w fun en w' => en = .returned (.tuple #[.agg #[.int .i64 (hU u l e d a (addrB a0 a1 a2 a3 a4 a5 s0 s1 s2 s3 s4 s5)), .int .i64 (hL u l e d a (addrB a0 a1 a2 a3 a4 a5 s0 s1 s2 s3 s4 s5) (reqB kind sub))], .int .i64 (hE u l e d a)]) ∧ Below w.heap.size w w' := by
  by_cases hn : navE u l = 0
  · have hv : timeB u = true ∧ timeB l = true := by
      unfold navE at hn
      cases h1 : timeB u <;> cases h2 : timeB l <;> simp_all
    by_cases hok : (0 ≤ e ∧ e ≤ 1099511627776) ∧ (0 ≤ d ∧ d ≤ 32767) ∧ 0 ≤ a ∧ a ≤ 32767
    · have ho : heardOk e d a = true := by simp [heardOk, hok]
      have := refheard_in u l s0 s1 s2 s3 s4 s5 hd kind sub d a0 a1 a2 a3 a4 a5 e a H h0 h1 h2 h3 h4 h5 g0 g1 g2 g3 g4 g5 hv.1 hv.2 hok.1.1 hok.1.2 hok.2.1.1 hok.2.1.2 hok.2.2.1 hok.2.2.2 w
      simpa only [hU, hL, hE, hOk, hn, ho, if_true, beq_self_eq_true, Bool.and_self] using this
    · have ho : heardOk e d a = false := by simp only [heardOk, hok, decide_false]
      have := refheard_out u l s0 s1 s2 s3 s4 s5 hd kind sub d a0 a1 a2 a3 a4 a5 e a H hn hok w
      simpa [hU, hL, hE, hOk, hn, ho] using this
  · have h8 : navE u l = 8 := by
      unfold navE at hn ⊢
      split <;> simp_all
    have := refheard_bad u l s0 s1 s2 s3 s4 s5 hd kind sub d a0 a1 a2 a3 a4 a5 e a H h8 w
    simpa [hU, hL, hE, hOk, h8] using this

namespace deferralHears
theorem walk (u l s0 s1 s2 s3 s4 s5 : Int) (hd : Array Value) (kind sub d a0 a1 a2 a3 a4 a5 e a : Int) (H : Head hd kind sub d a0 a1 a2 a3 a4 a5) (h0 : 0 ≤ a0 ∧ a0 ≤ 255) (h1 : 0 ≤ a1 ∧ a1 ≤ 255) (h2 : 0 ≤ a2 ∧ a2 ≤ 255) (h3 : 0 ≤ a3 ∧ a3 ≤ 255) (h4 : 0 ≤ a4 ∧ a4 ≤ 255) (h5 : 0 ≤ a5 ∧ a5 ≤ 255) (g0 : 0 ≤ s0 ∧ s0 ≤ 255) (g1 : 0 ≤ s1 ∧ s1 ≤ 255) (g2 : 0 ≤ s2 ∧ s2 ≤ 255) (g3 : 0 ≤ s3 ∧ s3 ≤ 255) (g4 : 0 ≤ s4 ∧ s4 ≤ 255) (g5 : 0 ≤ s5 ∧ s5 ≤ 255) (hsz : hd.size = 40) (w : World) :
    Calls Try.prog 3 #[.agg #[.int .i64 u, .int .i64 l], .agg #[.int .u8 s0, .int .u8 s1, .int .u8 s2, .int .u8 s3, .int .u8 s4, .int .u8 s5], .agg hd, .int .i64 e, .int .i64 a] w fun en w' => en = .returned (.bool true) ∧ Below w.heap.size w w' := by
  have hinfo : (Try.prog.info? 27).map (·.size) = some hd.size := by rw [hsz]; kernel_rfl
  clear hsz
  obtain ⟨rn, rs, rh⟩ := fr_rows3 w (.cells #[.int .i64 u, .int .i64 l] 23) (.cells #[.int .u8 s0, .int .u8 s1, .int .u8 s2, .int .u8 s3, .int .u8 s4, .int .u8 s5] 25) (.cells hd 27)
  have RN := Lib.hid rn
  have RS := Lib.hid rs
  have RH := Lib.hid rh
  clear rn rs rh
  go_enter Try.func3, Try.ntmps3
  go_wp2_with (with_reducible refine wpList_load_row rfl 27 (.tmp 7) rfl (w.heap.size + 1 + 1) rfl 27 hd (0, 0) _ RH.out Try.underlying27 rfl hinfo ?_)
  refine (heard_any u l s0 s1 s2 s3 s4 s5 hd kind sub d a0 a1 a2 a3 a4 a5 e a H h0 h1 h2 h3 h4 h5 g0 g1 g2 g3 g4 g5 _).mono ?_
  rintro en w1 ⟨rfl, hb1⟩
  have hB1 : Below w.heap.size w w1 := ((((Below.refl _ _).alloc (Nat.le_refl _) _).alloc (by simp) _).alloc (by simp only [World.size_alloc]; omega) _).trans (hb1.mono (by simp only [World.size_alloc]; omega))
  have hz1 := hb1.size
  simp only [World.size_alloc] at hz1
  have rn1 := (hb1.block _ (by simp only [World.size_alloc]; omega)).trans RN.out
  have rs1 := (hb1.block _ (by simp only [World.size_alloc]; omega)).trans RS.out
  have rh1 := (hb1.block _ (by simp only [World.size_alloc]; omega)).trans RH.out
  clear hb1 RN RS RH
  have n0 : w1.cell? ⟨w.heap.size, 0, none⟩ = some (.int .i64 u) := (cell_of_row _ _ _ _ _ _ rn1).trans rfl
  have n1 : w1.cell? ⟨w.heap.size, 1, none⟩ = some (.int .i64 l) := (cell_of_row _ _ _ _ _ _ rn1).trans rfl
  have s0w : w1.cell? ⟨w.heap.size + 1, 0, none⟩ = some (.int .u8 s0) := (cell_of_row _ _ _ _ _ _ rs1).trans rfl
  have s1w : w1.cell? ⟨w.heap.size + 1, 1, none⟩ = some (.int .u8 s1) := (cell_of_row _ _ _ _ _ _ rs1).trans rfl
  have s2w : w1.cell? ⟨w.heap.size + 1, 2, none⟩ = some (.int .u8 s2) := (cell_of_row _ _ _ _ _ _ rs1).trans rfl
  have s3w : w1.cell? ⟨w.heap.size + 1, 3, none⟩ = some (.int .u8 s3) := (cell_of_row _ _ _ _ _ _ rs1).trans rfl
  have s4w : w1.cell? ⟨w.heap.size + 1, 4, none⟩ = some (.int .u8 s4) := (cell_of_row _ _ _ _ _ _ rs1).trans rfl
  have s5w : w1.cell? ⟨w.heap.size + 1, 5, none⟩ = some (.int .u8 s5) := (cell_of_row _ _ _ _ _ _ rs1).trans rfl
  have y0 : w.heap.size < w1.heap.size := by omega
  have y1 : w.heap.size + 1 < w1.heap.size := by omega
  have y2 : w.heap.size + 1 + 1 < w1.heap.size := by omega
  have R1 := Lib.hid (show (w1.alloc (.cells #[.int .i64 (hU u l e d a (addrB a0 a1 a2 a3 a4 a5 s0 s1 s2 s3 s4 s5)), .int .i64 (hL u l e d a (addrB a0 a1 a2 a3 a4 a5 s0 s1 s2 s3 s4 s5) (reqB kind sub))] 23)).heap[w.heap.size + 1 + 1]? = some (.cells hd 27 (0, 0)) from (Below.heap_alloc _ _ _ y2).trans rh1)
  clear rn1 rs1 rh1
  go_wp2_with (with_reducible refine wpList_load_row rfl 27 (.tmp 7) rfl (w.heap.size + 1 + 1) rfl 27 hd (0, 0) _ R1.out Try.underlying27 rfl hinfo ?_)
  refine (refheard_any u l s0 s1 s2 s3 s4 s5 hd kind sub d a0 a1 a2 a3 a4 a5 e a H h0 h1 h2 h3 h4 h5 g0 g1 g2 g3 g4 g5 _).mono ?_
  rintro en w2 ⟨rfl, hb2⟩
  have hB2 : Below w.heap.size w w2 := (hB1.alloc (by omega) _).trans (hb2.mono (by simp only [World.size_alloc]; omega))
  have hz2 := hb2.size
  simp only [World.size_alloc] at hz2
  have q := (hb2.block _ (by simp only [World.size_alloc]; omega)).trans (heap_alloc_new w1 (.cells #[.int .i64 (hU u l e d a (addrB a0 a1 a2 a3 a4 a5 s0 s1 s2 s3 s4 s5)), .int .i64 (hL u l e d a (addrB a0 a1 a2 a3 a4 a5 s0 s1 s2 s3 s4 s5) (reqB kind sub))] 23))
  have q0 : w2.cell? ⟨w1.heap.size, 0, none⟩ = some (.int .i64 (hU u l e d a (addrB a0 a1 a2 a3 a4 a5 s0 s1 s2 s3 s4 s5))) := (cell_of_row _ _ _ _ _ _ q).trans rfl
  have q1 : w2.cell? ⟨w1.heap.size, 1, none⟩ = some (.int .i64 (hL u l e d a (addrB a0 a1 a2 a3 a4 a5 s0 s1 s2 s3 s4 s5) (reqB kind sub))) := (cell_of_row _ _ _ _ _ _ q).trans rfl
  have x1 : w1.heap.size < w2.heap.size := by omega
  clear q hb2
  go_wp2
  go_ret
  exact ⟨rfl, hB2.alloc (by omega) _⟩

end deferralHears
end Go.Proofs.Ytdmaekiejdahoaa

/-
  The contract of deferral.Heard.
-/
import Derived.Test.YtdmaekiejdahoaaDoorDef
import Derived.DeepKeys
namespace Go.Proofs.YtdmaekiejdahoaaDoor
open Go.ChangeShapes Go.WideShapes Go.ChangeAt Go.RowKit

/-- The header's fields that hearing looks at. -/
structure Head (hd : Array Value) (kind sub dur a0 a1 a2 a3 a4 a5 : Int) : Prop where
  size : hd.size = 40
  kind : hd[0]? = some (.int .u8 kind)
  sub : hd[1]? = some (.int .u8 sub)
  dur : hd[9]? = some (.int .i64 dur)
  a0 : hd[10]? = some (.int .u8 a0)
  a1 : hd[11]? = some (.int .u8 a1)
  a2 : hd[12]? = some (.int .u8 a2)
  a3 : hd[13]? = some (.int .u8 a3)
  a4 : hd[14]? = some (.int .u8 a4)
  a5 : hd[15]? = some (.int .u8 a5)


/-- Two addresses compared: one Bool for the whole. -/
def addrB (a0 a1 a2 a3 a4 a5 s0 s1 s2 s3 s4 s5 : Int) : Bool := decide (a0 = s0 ∧ a1 = s1 ∧ a2 = s2 ∧ a3 = s3 ∧ a4 = s4 ∧ a5 = s5)
theorem u8_wf {n : Int} (h : 0 ≤ n ∧ n ≤ 255) : (Lit.int .u8 n).wf = true := by simp [Lit.wf, IntKind.min, IntKind.max, IntKind.signed, IntKind.bits]; omega
theorem addr_lits (a0 a1 a2 a3 a4 a5 : Int) (h0 : 0 ≤ a0 ∧ a0 ≤ 255) (h1 : 0 ≤ a1 ∧ a1 ≤ 255) (h2 : 0 ≤ a2 ∧ a2 ≤ 255) (h3 : 0 ≤ a3 ∧ a3 ≤ 255) (h4 : 0 ≤ a4 ∧ a4 ≤ 255) (h5 : 0 ≤ a5 ∧ a5 ≤ 255) :
    Tryd.prog.keyLits 3 46 [.int .u8 a0, .int .u8 a1, .int .u8 a2, .int .u8 a3, .int .u8 a4, .int .u8 a5] = some [.int .u8 a0, .int .u8 a1, .int .u8 a2, .int .u8 a3, .int .u8 a4, .int .u8 a5] := by
  have c1 : Tryd.prog.cellsOf 46 = 6 := by kernel_rfl
  have c2 : Tryd.prog.cellsOf 5 = 1 := by kernel_rfl
  have r6 : List.range 6 = [0, 1, 2, 3, 4, 5] := rfl
  simp [Program.keyLits, Tryd.underlying46, Tryd.underlying5, c1, c2, r6, u8_wf, h0, h1, h2, h3, h4, h5]
theorem eql_addr (a0 a1 a2 a3 a4 a5 s0 s1 s2 s3 s4 s5 : Int) (h0 : 0 ≤ a0 ∧ a0 ≤ 255) (h1 : 0 ≤ a1 ∧ a1 ≤ 255) (h2 : 0 ≤ a2 ∧ a2 ≤ 255) (h3 : 0 ≤ a3 ∧ a3 ≤ 255) (h4 : 0 ≤ a4 ∧ a4 ≤ 255) (h5 : 0 ≤ a5 ∧ a5 ≤ 255)
    (g0 : 0 ≤ s0 ∧ s0 ≤ 255) (g1 : 0 ≤ s1 ∧ s1 ≤ 255) (g2 : 0 ≤ s2 ∧ s2 ≤ 255) (g3 : 0 ≤ s3 ∧ s3 ≤ 255) (g4 : 0 ≤ s4 ∧ s4 ≤ 255) (g5 : 0 ≤ s5 ∧ s5 ≤ 255) (w : World) :
    (Op.equalIn 10000 46 (.agg #[.int .u8 a0, .int .u8 a1, .int .u8 a2, .int .u8 a3, .int .u8 a4, .int .u8 a5]) (.agg #[.int .u8 s0, .int .u8 s1, .int .u8 s2, .int .u8 s3, .int .u8 s4, .int .u8 s5])).run Tryd.prog w = .ok (addrB a0 a1 a2 a3 a4 a5 s0 s1 s2 s3 s4 s5) w := by
  have c1 : Tryd.prog.cellsOf 46 = 6 := by kernel_rfl
  have hk : Tryd.prog.keyTypeAt 3 46 = true := by kernel_rfl
  obtain ⟨r, hr, hiff⟩ := run_equalIn_deep 9997 3 46 hk w 3 3 (.agg #[.int .u8 a0, .int .u8 a1, .int .u8 a2, .int .u8 a3, .int .u8 a4, .int .u8 a5]) (.agg #[.int .u8 s0, .int .u8 s1, .int .u8 s2, .int .u8 s3, .int .u8 s4, .int .u8 s5]) _ _ (by simp [Value.formed, Tryd.underlying46, c1]) (by simp [Value.formed, Tryd.underlying46, c1]) (addr_lits a0 a1 a2 a3 a4 a5 h0 h1 h2 h3 h4 h5) (addr_lits s0 s1 s2 s3 s4 s5 g0 g1 g2 g3 g4 g5)
  rw [hr]
  congr 1
  rw [Bool.eq_iff_iff, hiff]
  simp [addrB]

/-- What hearing a frame comes to: the allocation, and the error. -/
def heardU (u l e d : Int) (mine : Bool) : Int := if !mine && decide ((if navEnd u l < e then 0 else u) < e + d) then e + d else if navEnd u l < e then 0 else u
def heardL (u l e d a : Int) (mine req : Bool) : Int := if !mine && decide ((if navEnd u l < e then 0 else u) < e + d) && req then max (if navEnd u l < e then 0 else u) (e + 32 + a + 18) else 0
/-- The arguments of Heard are in range. -/
def heardOk (e d a : Int) : Bool := decide ((0 ≤ e ∧ e ≤ 1099511627776) ∧ (0 ≤ d ∧ d ≤ 32767) ∧ 0 ≤ a ∧ a ≤ 32767)

theorem heard_ret {a b c d : Int} {v : Value} (h1 : a = b) (h2 : c = d) : Ending.returned (.tuple #[.agg #[.int .i64 b, .int .i64 d], v]) = .returned (.tuple #[.agg #[.int .i64 a, .int .i64 c], v]) := by rw [h1, h2]

set_option maxHeartbeats 4000000 in
theorem heard_in (u l s0 s1 s2 s3 s4 s5 : Int) (hd : Array Value) (kind sub d a0 a1 a2 a3 a4 a5 e a : Int) (H : Head hd kind sub d a0 a1 a2 a3 a4 a5) (h0 : 0 ≤ a0 ∧ a0 ≤ 255) (h1 : 0 ≤ a1 ∧ a1 ≤ 255) (h2 : 0 ≤ a2 ∧ a2 ≤ 255) (h3 : 0 ≤ a3 ∧ a3 ≤ 255) (h4 : 0 ≤ a4 ∧ a4 ≤ 255) (h5 : 0 ≤ a5 ∧ a5 ≤ 255)
    (g0 : 0 ≤ s0 ∧ s0 ≤ 255) (g1 : 0 ≤ s1 ∧ s1 ≤ 255) (g2 : 0 ≤ s2 ∧ s2 ≤ 255) (g3 : 0 ≤ s3 ∧ s3 ≤ 255) (g4 : 0 ≤ s4 ∧ s4 ≤ 255) (g5 : 0 ≤ s5 ∧ s5 ≤ 255)
    (hu : timeB u = true) (hl : timeB l = true) (he0 : 0 ≤ e) (he1 : e ≤ 1099511627776) (hd0 : 0 ≤ d) (hd1 : d ≤ 32767) (ha0 : 0 ≤ a) (ha1 : a ≤ 32767) (w : World) :
    Calls Tryd.prog 21 #[.agg #[.int .i64 u, .int .i64 l], .agg #[.int .u8 s0, .int .u8 s1, .int .u8 s2, .int .u8 s3, .int .u8 s4, .int .u8 s5], .agg hd, .int .i64 e, .int .i64 a] w fun en w' => en = .returned (.tuple #[.agg #[.int .i64 (heardU u l e d (addrB a0 a1 a2 a3 a4 a5 s0 s1 s2 s3 s4 s5)), .int .i64 (heardL u l e d a (addrB a0 a1 a2 a3 a4 a5 s0 s1 s2 s3 s4 s5) (reqB kind sub))], .int .i64 0]) ∧ Below w.heap.size w w' := by
  obtain ⟨hsz, k0, k1, k9, k10, k11, k12, k13, k14, k15⟩ := H
  have E := eql_addr a0 a1 a2 a3 a4 a5 s0 s1 s2 s3 s4 s5 h0 h1 h2 h3 h4 h5 g0 g1 g2 g3 g4 g5
  clear h0 h1 h2 h3 h4 h5 g0 g1 g2 g3 g4 g5
  have nE : navE u l = 0 := by simp [navE, hu, hl]
  have hu2 : 0 ≤ u ∧ u ≤ 2199023255552 := by simpa [timeB] using hu
  clear hu hl
  generalize hmine : addrB a0 a1 a2 a3 a4 a5 s0 s1 s2 s3 s4 s5 = mine at E ⊢
  clear hmine
  obtain ⟨req, hreq⟩ : ∃ req, reqB kind sub = req := ⟨_, rfl⟩
  have hinfo : (Tryd.prog.info? 48).map (·.size) = some hd.size := by rw [hsz]; kernel_rfl
  clear hsz
  go_enter Tryd.func21, Tryd.ntmps21
  go_wp2_with fail
  refine (check_any u l _).mono ?_
  rintro en w1 ⟨rfl, hb1⟩
  have hz1 := hb1.size
  simp only [World.size_alloc] at hz1
  have hB1 : Below w.heap.size w w1 := (((((Below.refl _ _).alloc (Nat.le_refl _) _).alloc (by simp) _).alloc (by simp; omega) _).alloc (by simp; omega) _).trans (hb1.mono (by simp; omega))
  obtain ⟨rn, rs, rh, rr⟩ := fr_rows4 w (.cells #[.int .i64 u, .int .i64 l] 23) (.cells #[.int .u8 s0, .int .u8 s1, .int .u8 s2, .int .u8 s3, .int .u8 s4, .int .u8 s5] 46) (.cells hd 48) (.cells #[.int .i64 0, .int .i64 0] 23)
  have rnw1 := (hb1.block _ (by simp only [World.size_alloc]; omega)).trans rn
  have rsw1 := (hb1.block _ (by simp only [World.size_alloc]; omega)).trans rs
  have rhw1 := (hb1.block _ (by simp only [World.size_alloc]; omega)).trans rh
  have rrw1 := (hb1.block _ (by simp only [World.size_alloc]; omega)).trans rr
  have n0w1 : w1.cell? ⟨w.heap.size, 0, none⟩ = some (.int .i64 u) := (cell_of_row _ _ _ _ _ _ rnw1).trans rfl
  have n1w1 : w1.cell? ⟨w.heap.size, 1, none⟩ = some (.int .i64 l) := (cell_of_row _ _ _ _ _ _ rnw1).trans rfl
  have s0w1 : w1.cell? ⟨w.heap.size + 1, 0, none⟩ = some (.int .u8 s0) := (cell_of_row _ _ _ _ _ _ rsw1).trans rfl
  have s1w1 : w1.cell? ⟨w.heap.size + 1, 1, none⟩ = some (.int .u8 s1) := (cell_of_row _ _ _ _ _ _ rsw1).trans rfl
  have s2w1 : w1.cell? ⟨w.heap.size + 1, 2, none⟩ = some (.int .u8 s2) := (cell_of_row _ _ _ _ _ _ rsw1).trans rfl
  have s3w1 : w1.cell? ⟨w.heap.size + 1, 3, none⟩ = some (.int .u8 s3) := (cell_of_row _ _ _ _ _ _ rsw1).trans rfl
  have s4w1 : w1.cell? ⟨w.heap.size + 1, 4, none⟩ = some (.int .u8 s4) := (cell_of_row _ _ _ _ _ _ rsw1).trans rfl
  have s5w1 : w1.cell? ⟨w.heap.size + 1, 5, none⟩ = some (.int .u8 s5) := (cell_of_row _ _ _ _ _ _ rsw1).trans rfl
  have h0w1 : w1.cell? ⟨w.heap.size + 1 + 1, 0, none⟩ = some (.int .u8 kind) := (cell_of_row _ _ _ _ _ _ rhw1).trans k0
  have h1w1 : w1.cell? ⟨w.heap.size + 1 + 1, 1, none⟩ = some (.int .u8 sub) := (cell_of_row _ _ _ _ _ _ rhw1).trans k1
  have h9w1 : w1.cell? ⟨w.heap.size + 1 + 1, 9, none⟩ = some (.int .i64 d) := (cell_of_row _ _ _ _ _ _ rhw1).trans k9
  have h10w1 : w1.cell? ⟨w.heap.size + 1 + 1, 10, none⟩ = some (.int .u8 a0) := (cell_of_row _ _ _ _ _ _ rhw1).trans k10
  have h11w1 : w1.cell? ⟨w.heap.size + 1 + 1, 11, none⟩ = some (.int .u8 a1) := (cell_of_row _ _ _ _ _ _ rhw1).trans k11
  have h12w1 : w1.cell? ⟨w.heap.size + 1 + 1, 12, none⟩ = some (.int .u8 a2) := (cell_of_row _ _ _ _ _ _ rhw1).trans k12
  have h13w1 : w1.cell? ⟨w.heap.size + 1 + 1, 13, none⟩ = some (.int .u8 a3) := (cell_of_row _ _ _ _ _ _ rhw1).trans k13
  have h14w1 : w1.cell? ⟨w.heap.size + 1 + 1, 14, none⟩ = some (.int .u8 a4) := (cell_of_row _ _ _ _ _ _ rhw1).trans k14
  have h15w1 : w1.cell? ⟨w.heap.size + 1 + 1, 15, none⟩ = some (.int .u8 a5) := (cell_of_row _ _ _ _ _ _ rhw1).trans k15
  have q0w1 : w1.cell? ⟨w.heap.size + 1 + 1 + 1, 0, none⟩ = some (.int .i64 0) := (cell_of_row _ _ _ _ _ _ rrw1).trans rfl
  have q1w1 : w1.cell? ⟨w.heap.size + 1 + 1 + 1, 1, none⟩ = some (.int .i64 0) := (cell_of_row _ _ _ _ _ _ rrw1).trans rfl
  have fnw1 : ∀ o, w1.frozen? ⟨w.heap.size, o, none⟩ = false := fun o => frozen_of_row _ _ _ _ _ rnw1
  have frw1 : ∀ o, w1.frozen? ⟨w.heap.size + 1 + 1 + 1, o, none⟩ = false := fun o => frozen_of_row _ _ _ _ _ rrw1
  clear hb1 rn rs rh rr
  have y0 : w.heap.size < w1.heap.size := by omega
  have y1 : w.heap.size + 1 < w1.heap.size := by omega
  have y2 : w.heap.size + 1 + 1 < w1.heap.size := by omega
  have y3 : w.heap.size + 1 + 1 + 1 < w1.heap.size := by omega
  have t0 : decide (e < 0) = false := by simp; omega
  have t1 : decide (1099511627776 < e) = false := by simp; omega
  have t2 : decide (d < 0) = false := by simp; omega
  have t3 : decide (32767 < d) = false := by simp; omega
  have t4 : decide (a < 0) = false := by simp; omega
  have t5 : decide (32767 < a) = false := by simp; omega
  go_wp2_with fail
  refine (until_any u l _).mono ?_
  rintro en w2 ⟨rfl, hb2⟩
  have hz2 := hb2.size
  have hB2 := hB1.trans (hb2.mono (by omega))
  have rnw2 := (hb2.block _ y0).trans rnw1
  have rsw2 := (hb2.block _ y1).trans rsw1
  have rhw2 := (hb2.block _ y2).trans rhw1
  have rrw2 := (hb2.block _ y3).trans rrw1
  clear n0w1 n1w1 s0w1 s1w1 s2w1 s3w1 s4w1 s5w1 h0w1 h1w1 h9w1 h10w1 h11w1 h12w1 h13w1 h14w1 h15w1 q0w1 q1w1 fnw1 frw1 rnw1 rsw1 rhw1 rrw1 hb2
  have n0w2 : w2.cell? ⟨w.heap.size, 0, none⟩ = some (.int .i64 u) := (cell_of_row _ _ _ _ _ _ rnw2).trans rfl
  have n1w2 : w2.cell? ⟨w.heap.size, 1, none⟩ = some (.int .i64 l) := (cell_of_row _ _ _ _ _ _ rnw2).trans rfl
  have s0w2 : w2.cell? ⟨w.heap.size + 1, 0, none⟩ = some (.int .u8 s0) := (cell_of_row _ _ _ _ _ _ rsw2).trans rfl
  have s1w2 : w2.cell? ⟨w.heap.size + 1, 1, none⟩ = some (.int .u8 s1) := (cell_of_row _ _ _ _ _ _ rsw2).trans rfl
  have s2w2 : w2.cell? ⟨w.heap.size + 1, 2, none⟩ = some (.int .u8 s2) := (cell_of_row _ _ _ _ _ _ rsw2).trans rfl
  have s3w2 : w2.cell? ⟨w.heap.size + 1, 3, none⟩ = some (.int .u8 s3) := (cell_of_row _ _ _ _ _ _ rsw2).trans rfl
  have s4w2 : w2.cell? ⟨w.heap.size + 1, 4, none⟩ = some (.int .u8 s4) := (cell_of_row _ _ _ _ _ _ rsw2).trans rfl
  have s5w2 : w2.cell? ⟨w.heap.size + 1, 5, none⟩ = some (.int .u8 s5) := (cell_of_row _ _ _ _ _ _ rsw2).trans rfl
  have h0w2 : w2.cell? ⟨w.heap.size + 1 + 1, 0, none⟩ = some (.int .u8 kind) := (cell_of_row _ _ _ _ _ _ rhw2).trans k0
  have h1w2 : w2.cell? ⟨w.heap.size + 1 + 1, 1, none⟩ = some (.int .u8 sub) := (cell_of_row _ _ _ _ _ _ rhw2).trans k1
  have h9w2 : w2.cell? ⟨w.heap.size + 1 + 1, 9, none⟩ = some (.int .i64 d) := (cell_of_row _ _ _ _ _ _ rhw2).trans k9
  have h10w2 : w2.cell? ⟨w.heap.size + 1 + 1, 10, none⟩ = some (.int .u8 a0) := (cell_of_row _ _ _ _ _ _ rhw2).trans k10
  have h11w2 : w2.cell? ⟨w.heap.size + 1 + 1, 11, none⟩ = some (.int .u8 a1) := (cell_of_row _ _ _ _ _ _ rhw2).trans k11
  have h12w2 : w2.cell? ⟨w.heap.size + 1 + 1, 12, none⟩ = some (.int .u8 a2) := (cell_of_row _ _ _ _ _ _ rhw2).trans k12
  have h13w2 : w2.cell? ⟨w.heap.size + 1 + 1, 13, none⟩ = some (.int .u8 a3) := (cell_of_row _ _ _ _ _ _ rhw2).trans k13
  have h14w2 : w2.cell? ⟨w.heap.size + 1 + 1, 14, none⟩ = some (.int .u8 a4) := (cell_of_row _ _ _ _ _ _ rhw2).trans k14
  have h15w2 : w2.cell? ⟨w.heap.size + 1 + 1, 15, none⟩ = some (.int .u8 a5) := (cell_of_row _ _ _ _ _ _ rhw2).trans k15
  have q0w2 : w2.cell? ⟨w.heap.size + 1 + 1 + 1, 0, none⟩ = some (.int .i64 0) := (cell_of_row _ _ _ _ _ _ rrw2).trans rfl
  have q1w2 : w2.cell? ⟨w.heap.size + 1 + 1 + 1, 1, none⟩ = some (.int .i64 0) := (cell_of_row _ _ _ _ _ _ rrw2).trans rfl
  have fnw2 : ∀ o, w2.frozen? ⟨w.heap.size, o, none⟩ = false := fun o => frozen_of_row _ _ _ _ _ rnw2
  have frw2 : ∀ o, w2.frozen? ⟨w.heap.size + 1 + 1 + 1, o, none⟩ = false := fun o => frozen_of_row _ _ _ _ _ rrw2
  have K0 := Lib.hid k0
  have K1 := Lib.hid k1
  clear rnw2 rsw2 rrw2 k0 k1 k9 k10 k11 k12 k13 k14 k15
  have RH := Lib.hid rhw2
  clear rhw2
  by_cases hend : navEnd u l < e
  · cases mine with
    | true =>
      have HU := Lib.hid (show heardU u l e d true = 0 by simp [heardU, hend])
      have HL := Lib.hid (show heardL u l e d a true (reqB kind sub) = 0 by simp [heardL])
      go_wp2
      refine bodyPost_ret (v := .tuple #[.agg #[.int .i64 0, .int .i64 0], .int .i64 0]) (by simp [results, Tryd.results21, go_sem, n1w2, q0w2, q1w2]) rfl ?_
      exact ⟨heard_ret HU.out HL.out, by go_grown⟩
    | false =>
      by_cases hlt : 0 < e + d
      · have HU := Lib.hid (show heardU u l e d false = e + d by simp [heardU, hend]; omega)
        have SZ : w2.heap.size ≤ ((w2.setCell ⟨w.heap.size, 0, none⟩ (.int .i64 0)).setCell ⟨w.heap.size, 1, none⟩ (.int .i64 0)).heap.size := by simp
        have row3 : ((w2.setCell ⟨w.heap.size, 0, none⟩ (.int .i64 0)).setCell ⟨w.heap.size, 1, none⟩ (.int .i64 0)).heap[w.heap.size + 1 + 1]? = some (.cells hd 48 (0, 0)) := by
          rw [Below.heap_setCell _ _ _ _ (by show w.heap.size + 1 + 1 ≠ w.heap.size; omega), Below.heap_setCell _ _ _ _ (by show w.heap.size + 1 + 1 ≠ w.heap.size; omega)]
          exact RH.out
        have hB3 : Below w.heap.size w ((w2.setCell ⟨w.heap.size, 0, none⟩ (.int .i64 0)).setCell ⟨w.heap.size, 1, none⟩ (.int .i64 0)) := by go_grown
        have m0 : ((w2.setCell ⟨w.heap.size, 0, none⟩ (.int .i64 0)).setCell ⟨w.heap.size, 1, none⟩ (.int .i64 0)).cell? ⟨w.heap.size, 0, none⟩ = some (.int .i64 0) := by simp [n0w2, n1w2, q0w2, q1w2, h0w2, h1w2, go_sem]
        have m1 : ((w2.setCell ⟨w.heap.size, 0, none⟩ (.int .i64 0)).setCell ⟨w.heap.size, 1, none⟩ (.int .i64 0)).cell? ⟨w.heap.size, 1, none⟩ = some (.int .i64 0) := by simp [n0w2, n1w2, q0w2, q1w2, h0w2, h1w2, go_sem]
        have p0 : ((w2.setCell ⟨w.heap.size, 0, none⟩ (.int .i64 0)).setCell ⟨w.heap.size, 1, none⟩ (.int .i64 0)).cell? ⟨w.heap.size + 1 + 1 + 1, 0, none⟩ = some (.int .i64 0) := by simp [n0w2, n1w2, q0w2, q1w2, h0w2, h1w2, go_sem]
        have p1 : ((w2.setCell ⟨w.heap.size, 0, none⟩ (.int .i64 0)).setCell ⟨w.heap.size, 1, none⟩ (.int .i64 0)).cell? ⟨w.heap.size + 1 + 1 + 1, 1, none⟩ = some (.int .i64 0) := by simp [n0w2, n1w2, q0w2, q1w2, h0w2, h1w2, go_sem]
        have g1 : ∀ o, ((w2.setCell ⟨w.heap.size, 0, none⟩ (.int .i64 0)).setCell ⟨w.heap.size, 1, none⟩ (.int .i64 0)).frozen? ⟨w.heap.size, o, none⟩ = false := fun o => by simp [fnw2, go_sem]
        have g2 : ∀ o, ((w2.setCell ⟨w.heap.size, 0, none⟩ (.int .i64 0)).setCell ⟨w.heap.size, 1, none⟩ (.int .i64 0)).frozen? ⟨w.heap.size + 1 + 1 + 1, o, none⟩ = false := fun o => by simp [frw2, go_sem]
        have R3 := Lib.hid row3
        clear row3
        go_wp2_with ((with_reducible refine wpList_load_row rfl 48 (.tmp 7) rfl (w.heap.size + 1 + 1) rfl 48 hd (0, 0) _ R3.out Tryd.underlying48 rfl hinfo ?_))
        refine (request_any hd kind sub _ K0.out K1.out).mono ?_
        rintro en w3 ⟨rfl, hb3⟩
        have hz3 := hb3.size
        have hB4 := hB3.trans (hb3.mono (by simp; omega))
        have z0 : w.heap.size < w3.heap.size := by simp at hz3; omega
        have z3 : w.heap.size + 1 + 1 + 1 < w3.heap.size := by simp at hz3; omega
        have m0' : w3.cell? ⟨w.heap.size, 0, none⟩ = some (.int .i64 0) := (hb3.cell (p := ⟨w.heap.size, 0, none⟩) (by simp; omega)).trans m0
        have m1' : w3.cell? ⟨w.heap.size, 1, none⟩ = some (.int .i64 0) := (hb3.cell (p := ⟨w.heap.size, 1, none⟩) (by simp; omega)).trans m1
        have p0' : w3.cell? ⟨w.heap.size + 1 + 1 + 1, 0, none⟩ = some (.int .i64 0) := (hb3.cell (p := ⟨w.heap.size + 1 + 1 + 1, 0, none⟩) (by simp; omega)).trans p0
        have p1' : w3.cell? ⟨w.heap.size + 1 + 1 + 1, 1, none⟩ = some (.int .i64 0) := (hb3.cell (p := ⟨w.heap.size + 1 + 1 + 1, 1, none⟩) (by simp; omega)).trans p1
        have g1' : ∀ o, w3.frozen? ⟨w.heap.size, o, none⟩ = false := fun o => (hb3.frozen (p := ⟨w.heap.size, o, none⟩) (by simp; omega)).trans (g1 o)
        have g2' : ∀ o, w3.frozen? ⟨w.heap.size + 1 + 1 + 1, o, none⟩ = false := fun o => (hb3.frozen (p := ⟨w.heap.size + 1 + 1 + 1, o, none⟩) (by simp; omega)).trans (g2 o)
        clear hb3 m0 m1 p0 p1 g1 g2 n0w2 n1w2 s0w2 s1w2 s2w2 s3w2 s4w2 s5w2 h0w2 h1w2 h9w2 h10w2 h11w2 h12w2 h13w2 h14w2 h15w2 q0w2 q1w2 fnw2 frw2
        cases req with
        | true =>
          have HL := Lib.hid (show heardL u l e d a false (reqB kind sub) = max 0 (e + 32 + a + 18) by simp [heardL, hreq, hend]; omega)
          rcases Int.lt_or_le 0 (e + 32 + a + 18) with hx | hx
          · go_wp2
            refine bodyPost_ret (v := .tuple #[.agg #[.int .i64 (e + d), .int .i64 (e + 32 + a + 18)], .int .i64 0]) (by simp [results, Tryd.results21, go_sem, m0', m1', p0', p1']) rfl ?_
            exact ⟨heard_ret HU.out (HL.out.trans (by omega)), by go_grown⟩
          · omega
        | false =>
          have HL := Lib.hid (show heardL u l e d a false (reqB kind sub) = 0 by simp [heardL, hreq])
          go_wp2
          refine bodyPost_ret (v := .tuple #[.agg #[.int .i64 (e + d), .int .i64 0], .int .i64 0]) (by simp [results, Tryd.results21, go_sem, m0', m1', p0', p1']) rfl ?_
          exact ⟨heard_ret HU.out HL.out, by go_grown⟩
      · have HU := Lib.hid (show heardU u l e d false = 0 by simp [heardU, hend]; omega)
        have HL := Lib.hid (show heardL u l e d a false (reqB kind sub) = 0 by simp [heardL, hend]; omega)
        go_wp2
        refine bodyPost_ret (v := .tuple #[.agg #[.int .i64 0, .int .i64 0], .int .i64 0]) (by simp [results, Tryd.results21, go_sem, n0w2, n1w2, q0w2, q1w2]) rfl ?_
        exact ⟨heard_ret HU.out HL.out, by go_grown⟩
  · cases mine with
    | true =>
      have HU := Lib.hid (show heardU u l e d true = u by simp [heardU, hend])
      have HL := Lib.hid (show heardL u l e d a true (reqB kind sub) = 0 by simp [heardL])
      go_wp2
      refine bodyPost_ret (v := .tuple #[.agg #[.int .i64 u, .int .i64 0], .int .i64 0]) (by simp [results, Tryd.results21, go_sem, n0w2, n1w2, q0w2, q1w2]) rfl ?_
      exact ⟨heard_ret HU.out HL.out, by go_grown⟩
    | false =>
      by_cases hlt : u < e + d
      · have HU := Lib.hid (show heardU u l e d false = e + d by simp [heardU, hend]; omega)
        have SZ : w2.heap.size ≤ (w2.setCell ⟨w.heap.size, 1, none⟩ (.int .i64 0)).heap.size := by simp
        have row3 : (w2.setCell ⟨w.heap.size, 1, none⟩ (.int .i64 0)).heap[w.heap.size + 1 + 1]? = some (.cells hd 48 (0, 0)) := by
          rw [Below.heap_setCell _ _ _ _ (by show w.heap.size + 1 + 1 ≠ w.heap.size; omega)]
          exact RH.out
        have hB3 : Below w.heap.size w (w2.setCell ⟨w.heap.size, 1, none⟩ (.int .i64 0)) := by go_grown
        have m0 : (w2.setCell ⟨w.heap.size, 1, none⟩ (.int .i64 0)).cell? ⟨w.heap.size, 0, none⟩ = some (.int .i64 u) := by simp [n0w2, n1w2, q0w2, q1w2, h0w2, h1w2, go_sem]
        have m1 : (w2.setCell ⟨w.heap.size, 1, none⟩ (.int .i64 0)).cell? ⟨w.heap.size, 1, none⟩ = some (.int .i64 0) := by simp [n0w2, n1w2, q0w2, q1w2, h0w2, h1w2, go_sem]
        have p0 : (w2.setCell ⟨w.heap.size, 1, none⟩ (.int .i64 0)).cell? ⟨w.heap.size + 1 + 1 + 1, 0, none⟩ = some (.int .i64 0) := by simp [n0w2, n1w2, q0w2, q1w2, h0w2, h1w2, go_sem]
        have p1 : (w2.setCell ⟨w.heap.size, 1, none⟩ (.int .i64 0)).cell? ⟨w.heap.size + 1 + 1 + 1, 1, none⟩ = some (.int .i64 0) := by simp [n0w2, n1w2, q0w2, q1w2, h0w2, h1w2, go_sem]
        have g1 : ∀ o, (w2.setCell ⟨w.heap.size, 1, none⟩ (.int .i64 0)).frozen? ⟨w.heap.size, o, none⟩ = false := fun o => by simp [fnw2, go_sem]
        have g2 : ∀ o, (w2.setCell ⟨w.heap.size, 1, none⟩ (.int .i64 0)).frozen? ⟨w.heap.size + 1 + 1 + 1, o, none⟩ = false := fun o => by simp [frw2, go_sem]
        have R3 := Lib.hid row3
        clear row3
        go_wp2_with ((with_reducible refine wpList_load_row rfl 48 (.tmp 7) rfl (w.heap.size + 1 + 1) rfl 48 hd (0, 0) _ R3.out Tryd.underlying48 rfl hinfo ?_))
        refine (request_any hd kind sub _ K0.out K1.out).mono ?_
        rintro en w3 ⟨rfl, hb3⟩
        have hz3 := hb3.size
        have hB4 := hB3.trans (hb3.mono (by simp; omega))
        have z0 : w.heap.size < w3.heap.size := by simp at hz3; omega
        have z3 : w.heap.size + 1 + 1 + 1 < w3.heap.size := by simp at hz3; omega
        have m0' : w3.cell? ⟨w.heap.size, 0, none⟩ = some (.int .i64 u) := (hb3.cell (p := ⟨w.heap.size, 0, none⟩) (by simp; omega)).trans m0
        have m1' : w3.cell? ⟨w.heap.size, 1, none⟩ = some (.int .i64 0) := (hb3.cell (p := ⟨w.heap.size, 1, none⟩) (by simp; omega)).trans m1
        have p0' : w3.cell? ⟨w.heap.size + 1 + 1 + 1, 0, none⟩ = some (.int .i64 0) := (hb3.cell (p := ⟨w.heap.size + 1 + 1 + 1, 0, none⟩) (by simp; omega)).trans p0
        have p1' : w3.cell? ⟨w.heap.size + 1 + 1 + 1, 1, none⟩ = some (.int .i64 0) := (hb3.cell (p := ⟨w.heap.size + 1 + 1 + 1, 1, none⟩) (by simp; omega)).trans p1
        have g1' : ∀ o, w3.frozen? ⟨w.heap.size, o, none⟩ = false := fun o => (hb3.frozen (p := ⟨w.heap.size, o, none⟩) (by simp; omega)).trans (g1 o)
        have g2' : ∀ o, w3.frozen? ⟨w.heap.size + 1 + 1 + 1, o, none⟩ = false := fun o => (hb3.frozen (p := ⟨w.heap.size + 1 + 1 + 1, o, none⟩) (by simp; omega)).trans (g2 o)
        clear hb3 m0 m1 p0 p1 g1 g2 n0w2 n1w2 s0w2 s1w2 s2w2 s3w2 s4w2 s5w2 h0w2 h1w2 h9w2 h10w2 h11w2 h12w2 h13w2 h14w2 h15w2 q0w2 q1w2 fnw2 frw2
        cases req with
        | true =>
          have HL := Lib.hid (show heardL u l e d a false (reqB kind sub) = max u (e + 32 + a + 18) by simp [heardL, hreq, hend]; omega)
          rcases Int.lt_or_le u (e + 32 + a + 18) with hx | hx
          · go_wp2
            refine bodyPost_ret (v := .tuple #[.agg #[.int .i64 (e + d), .int .i64 (e + 32 + a + 18)], .int .i64 0]) (by simp [results, Tryd.results21, go_sem, m0', m1', p0', p1']) rfl ?_
            exact ⟨heard_ret HU.out (HL.out.trans (by omega)), by go_grown⟩
          · go_wp2
            all_goals
              first
                | (refine bodyPost_ret (v := .tuple #[.agg #[.int .i64 (e + d), .int .i64 (u)], .int .i64 0]) (by simp [results, Tryd.results21, go_sem, m0', m1', p0', p1']) rfl ?_
                   exact ⟨heard_ret HU.out (HL.out.trans (by omega)), by go_grown⟩)
                | (refine bodyPost_ret (v := .tuple #[.agg #[.int .i64 (e + d), .int .i64 (e + 32 + a + 18)], .int .i64 0]) (by simp [results, Tryd.results21, go_sem, m0', m1', p0', p1']) rfl ?_
                   exact ⟨heard_ret HU.out (HL.out.trans (by omega)), by go_grown⟩)
        | false =>
          have HL := Lib.hid (show heardL u l e d a false (reqB kind sub) = 0 by simp [heardL, hreq])
          go_wp2
          refine bodyPost_ret (v := .tuple #[.agg #[.int .i64 (e + d), .int .i64 0], .int .i64 0]) (by simp [results, Tryd.results21, go_sem, m0', m1', p0', p1']) rfl ?_
          exact ⟨heard_ret HU.out HL.out, by go_grown⟩
      · have HU := Lib.hid (show heardU u l e d false = u by simp [heardU, hend]; omega)
        have HL := Lib.hid (show heardL u l e d a false (reqB kind sub) = 0 by simp [heardL, hend]; omega)
        go_wp2
        refine bodyPost_ret (v := .tuple #[.agg #[.int .i64 u, .int .i64 0], .int .i64 0]) (by simp [results, Tryd.results21, go_sem, n0w2, n1w2, q0w2, q1w2]) rfl ?_
        exact ⟨heard_ret HU.out HL.out, by go_grown⟩

/-- The allocation is not valid. -/
theorem heard_bad (u l s0 s1 s2 s3 s4 s5 : Int) (hd : Array Value) (kind sub d a0 a1 a2 a3 a4 a5 e a : Int) (H : Head hd kind sub d a0 a1 a2 a3 a4 a5) (hn : navE u l = 8) (w : World) :
    Calls Tryd.prog 21 #[.agg #[.int .i64 u, .int .i64 l], .agg #[.int .u8 s0, .int .u8 s1, .int .u8 s2, .int .u8 s3, .int .u8 s4, .int .u8 s5], .agg hd, .int .i64 e, .int .i64 a] w fun en w' => en = .returned (.tuple #[.agg #[.int .i64 0, .int .i64 0], .int .i64 8]) ∧ Below w.heap.size w w' := by
  obtain ⟨hsz, k0, k1, k9, k10, k11, k12, k13, k14, k15⟩ := H
  clear hsz
  go_enter Tryd.func21, Tryd.ntmps21
  go_wp2_with fail
  refine (check_any u l _).mono ?_
  rintro en w1 ⟨rfl, hb1⟩
  have hz1 := hb1.size
  simp only [World.size_alloc] at hz1
  have hB1 : Below w.heap.size w w1 := (((((Below.refl _ _).alloc (Nat.le_refl _) _).alloc (by simp) _).alloc (by simp; omega) _).alloc (by simp; omega) _).trans (hb1.mono (by simp; omega))
  obtain ⟨rn, rs, rh, rr⟩ := fr_rows4 w (.cells #[.int .i64 u, .int .i64 l] 23) (.cells #[.int .u8 s0, .int .u8 s1, .int .u8 s2, .int .u8 s3, .int .u8 s4, .int .u8 s5] 46) (.cells hd 48) (.cells #[.int .i64 0, .int .i64 0] 23)
  have rnw1 := (hb1.block _ (by simp only [World.size_alloc]; omega)).trans rn
  have rsw1 := (hb1.block _ (by simp only [World.size_alloc]; omega)).trans rs
  have rhw1 := (hb1.block _ (by simp only [World.size_alloc]; omega)).trans rh
  have rrw1 := (hb1.block _ (by simp only [World.size_alloc]; omega)).trans rr
  have n0w1 : w1.cell? ⟨w.heap.size, 0, none⟩ = some (.int .i64 u) := (cell_of_row _ _ _ _ _ _ rnw1).trans rfl
  have n1w1 : w1.cell? ⟨w.heap.size, 1, none⟩ = some (.int .i64 l) := (cell_of_row _ _ _ _ _ _ rnw1).trans rfl
  have s0w1 : w1.cell? ⟨w.heap.size + 1, 0, none⟩ = some (.int .u8 s0) := (cell_of_row _ _ _ _ _ _ rsw1).trans rfl
  have s1w1 : w1.cell? ⟨w.heap.size + 1, 1, none⟩ = some (.int .u8 s1) := (cell_of_row _ _ _ _ _ _ rsw1).trans rfl
  have s2w1 : w1.cell? ⟨w.heap.size + 1, 2, none⟩ = some (.int .u8 s2) := (cell_of_row _ _ _ _ _ _ rsw1).trans rfl
  have s3w1 : w1.cell? ⟨w.heap.size + 1, 3, none⟩ = some (.int .u8 s3) := (cell_of_row _ _ _ _ _ _ rsw1).trans rfl
  have s4w1 : w1.cell? ⟨w.heap.size + 1, 4, none⟩ = some (.int .u8 s4) := (cell_of_row _ _ _ _ _ _ rsw1).trans rfl
  have s5w1 : w1.cell? ⟨w.heap.size + 1, 5, none⟩ = some (.int .u8 s5) := (cell_of_row _ _ _ _ _ _ rsw1).trans rfl
  have h0w1 : w1.cell? ⟨w.heap.size + 1 + 1, 0, none⟩ = some (.int .u8 kind) := (cell_of_row _ _ _ _ _ _ rhw1).trans k0
  have h1w1 : w1.cell? ⟨w.heap.size + 1 + 1, 1, none⟩ = some (.int .u8 sub) := (cell_of_row _ _ _ _ _ _ rhw1).trans k1
  have h9w1 : w1.cell? ⟨w.heap.size + 1 + 1, 9, none⟩ = some (.int .i64 d) := (cell_of_row _ _ _ _ _ _ rhw1).trans k9
  have h10w1 : w1.cell? ⟨w.heap.size + 1 + 1, 10, none⟩ = some (.int .u8 a0) := (cell_of_row _ _ _ _ _ _ rhw1).trans k10
  have h11w1 : w1.cell? ⟨w.heap.size + 1 + 1, 11, none⟩ = some (.int .u8 a1) := (cell_of_row _ _ _ _ _ _ rhw1).trans k11
  have h12w1 : w1.cell? ⟨w.heap.size + 1 + 1, 12, none⟩ = some (.int .u8 a2) := (cell_of_row _ _ _ _ _ _ rhw1).trans k12
  have h13w1 : w1.cell? ⟨w.heap.size + 1 + 1, 13, none⟩ = some (.int .u8 a3) := (cell_of_row _ _ _ _ _ _ rhw1).trans k13
  have h14w1 : w1.cell? ⟨w.heap.size + 1 + 1, 14, none⟩ = some (.int .u8 a4) := (cell_of_row _ _ _ _ _ _ rhw1).trans k14
  have h15w1 : w1.cell? ⟨w.heap.size + 1 + 1, 15, none⟩ = some (.int .u8 a5) := (cell_of_row _ _ _ _ _ _ rhw1).trans k15
  have q0w1 : w1.cell? ⟨w.heap.size + 1 + 1 + 1, 0, none⟩ = some (.int .i64 0) := (cell_of_row _ _ _ _ _ _ rrw1).trans rfl
  have q1w1 : w1.cell? ⟨w.heap.size + 1 + 1 + 1, 1, none⟩ = some (.int .i64 0) := (cell_of_row _ _ _ _ _ _ rrw1).trans rfl
  have fnw1 : ∀ o, w1.frozen? ⟨w.heap.size, o, none⟩ = false := fun o => frozen_of_row _ _ _ _ _ rnw1
  have frw1 : ∀ o, w1.frozen? ⟨w.heap.size + 1 + 1 + 1, o, none⟩ = false := fun o => frozen_of_row _ _ _ _ _ rrw1
  clear hb1 rn rs rh rr
  have y0 : w.heap.size < w1.heap.size := by omega
  have y1 : w.heap.size + 1 < w1.heap.size := by omega
  have y2 : w.heap.size + 1 + 1 < w1.heap.size := by omega
  have y3 : w.heap.size + 1 + 1 + 1 < w1.heap.size := by omega
  go_wp2
  refine bodyPost_ret (v := .tuple #[.agg #[.int .i64 0, .int .i64 0], .int .i64 8]) (by simp [results, Tryd.results21, go_sem, q0w1, q1w1]) rfl ?_
  exact ⟨rfl, by go_grown⟩

/-- A number out of range: which test says so. -/
theorem heard_out (u l s0 s1 s2 s3 s4 s5 : Int) (hd : Array Value) (kind sub d a0 a1 a2 a3 a4 a5 e a : Int) (H : Head hd kind sub d a0 a1 a2 a3 a4 a5) (hn : navE u l = 0) (hbad : ¬ ((0 ≤ e ∧ e ≤ 1099511627776) ∧ (0 ≤ d ∧ d ≤ 32767) ∧ 0 ≤ a ∧ a ≤ 32767)) (w : World) :
    Calls Tryd.prog 21 #[.agg #[.int .i64 u, .int .i64 l], .agg #[.int .u8 s0, .int .u8 s1, .int .u8 s2, .int .u8 s3, .int .u8 s4, .int .u8 s5], .agg hd, .int .i64 e, .int .i64 a] w fun en w' => en = .returned (.tuple #[.agg #[.int .i64 0, .int .i64 0], .int .i64 2]) ∧ Below w.heap.size w w' := by
  obtain ⟨hsz, k0, k1, k9, k10, k11, k12, k13, k14, k15⟩ := H
  clear hsz
  go_enter Tryd.func21, Tryd.ntmps21
  go_wp2_with fail
  refine (check_any u l _).mono ?_
  rintro en w1 ⟨rfl, hb1⟩
  have hz1 := hb1.size
  simp only [World.size_alloc] at hz1
  have hB1 : Below w.heap.size w w1 := (((((Below.refl _ _).alloc (Nat.le_refl _) _).alloc (by simp) _).alloc (by simp; omega) _).alloc (by simp; omega) _).trans (hb1.mono (by simp; omega))
  obtain ⟨rn, rs, rh, rr⟩ := fr_rows4 w (.cells #[.int .i64 u, .int .i64 l] 23) (.cells #[.int .u8 s0, .int .u8 s1, .int .u8 s2, .int .u8 s3, .int .u8 s4, .int .u8 s5] 46) (.cells hd 48) (.cells #[.int .i64 0, .int .i64 0] 23)
  have rnw1 := (hb1.block _ (by simp only [World.size_alloc]; omega)).trans rn
  have rsw1 := (hb1.block _ (by simp only [World.size_alloc]; omega)).trans rs
  have rhw1 := (hb1.block _ (by simp only [World.size_alloc]; omega)).trans rh
  have rrw1 := (hb1.block _ (by simp only [World.size_alloc]; omega)).trans rr
  have n0w1 : w1.cell? ⟨w.heap.size, 0, none⟩ = some (.int .i64 u) := (cell_of_row _ _ _ _ _ _ rnw1).trans rfl
  have n1w1 : w1.cell? ⟨w.heap.size, 1, none⟩ = some (.int .i64 l) := (cell_of_row _ _ _ _ _ _ rnw1).trans rfl
  have s0w1 : w1.cell? ⟨w.heap.size + 1, 0, none⟩ = some (.int .u8 s0) := (cell_of_row _ _ _ _ _ _ rsw1).trans rfl
  have s1w1 : w1.cell? ⟨w.heap.size + 1, 1, none⟩ = some (.int .u8 s1) := (cell_of_row _ _ _ _ _ _ rsw1).trans rfl
  have s2w1 : w1.cell? ⟨w.heap.size + 1, 2, none⟩ = some (.int .u8 s2) := (cell_of_row _ _ _ _ _ _ rsw1).trans rfl
  have s3w1 : w1.cell? ⟨w.heap.size + 1, 3, none⟩ = some (.int .u8 s3) := (cell_of_row _ _ _ _ _ _ rsw1).trans rfl
  have s4w1 : w1.cell? ⟨w.heap.size + 1, 4, none⟩ = some (.int .u8 s4) := (cell_of_row _ _ _ _ _ _ rsw1).trans rfl
  have s5w1 : w1.cell? ⟨w.heap.size + 1, 5, none⟩ = some (.int .u8 s5) := (cell_of_row _ _ _ _ _ _ rsw1).trans rfl
  have h0w1 : w1.cell? ⟨w.heap.size + 1 + 1, 0, none⟩ = some (.int .u8 kind) := (cell_of_row _ _ _ _ _ _ rhw1).trans k0
  have h1w1 : w1.cell? ⟨w.heap.size + 1 + 1, 1, none⟩ = some (.int .u8 sub) := (cell_of_row _ _ _ _ _ _ rhw1).trans k1
  have h9w1 : w1.cell? ⟨w.heap.size + 1 + 1, 9, none⟩ = some (.int .i64 d) := (cell_of_row _ _ _ _ _ _ rhw1).trans k9
  have h10w1 : w1.cell? ⟨w.heap.size + 1 + 1, 10, none⟩ = some (.int .u8 a0) := (cell_of_row _ _ _ _ _ _ rhw1).trans k10
  have h11w1 : w1.cell? ⟨w.heap.size + 1 + 1, 11, none⟩ = some (.int .u8 a1) := (cell_of_row _ _ _ _ _ _ rhw1).trans k11
  have h12w1 : w1.cell? ⟨w.heap.size + 1 + 1, 12, none⟩ = some (.int .u8 a2) := (cell_of_row _ _ _ _ _ _ rhw1).trans k12
  have h13w1 : w1.cell? ⟨w.heap.size + 1 + 1, 13, none⟩ = some (.int .u8 a3) := (cell_of_row _ _ _ _ _ _ rhw1).trans k13
  have h14w1 : w1.cell? ⟨w.heap.size + 1 + 1, 14, none⟩ = some (.int .u8 a4) := (cell_of_row _ _ _ _ _ _ rhw1).trans k14
  have h15w1 : w1.cell? ⟨w.heap.size + 1 + 1, 15, none⟩ = some (.int .u8 a5) := (cell_of_row _ _ _ _ _ _ rhw1).trans k15
  have q0w1 : w1.cell? ⟨w.heap.size + 1 + 1 + 1, 0, none⟩ = some (.int .i64 0) := (cell_of_row _ _ _ _ _ _ rrw1).trans rfl
  have q1w1 : w1.cell? ⟨w.heap.size + 1 + 1 + 1, 1, none⟩ = some (.int .i64 0) := (cell_of_row _ _ _ _ _ _ rrw1).trans rfl
  have fnw1 : ∀ o, w1.frozen? ⟨w.heap.size, o, none⟩ = false := fun o => frozen_of_row _ _ _ _ _ rnw1
  have frw1 : ∀ o, w1.frozen? ⟨w.heap.size + 1 + 1 + 1, o, none⟩ = false := fun o => frozen_of_row _ _ _ _ _ rrw1
  clear hb1 rn rs rh rr
  have y0 : w.heap.size < w1.heap.size := by omega
  have y1 : w.heap.size + 1 < w1.heap.size := by omega
  have y2 : w.heap.size + 1 + 1 < w1.heap.size := by omega
  have y3 : w.heap.size + 1 + 1 + 1 < w1.heap.size := by omega
  have c : decide (e < 0) = true ∨ (decide (e < 0) = false ∧ decide (1099511627776 < e) = true) ∨ (decide (e < 0) = false ∧ decide (1099511627776 < e) = false ∧ decide (d < 0) = true) ∨ (decide (e < 0) = false ∧ decide (1099511627776 < e) = false ∧ decide (d < 0) = false ∧ decide (32767 < d) = true) ∨ (decide (e < 0) = false ∧ decide (1099511627776 < e) = false ∧ decide (d < 0) = false ∧ decide (32767 < d) = false ∧ decide (a < 0) = true) ∨ (decide (e < 0) = false ∧ decide (1099511627776 < e) = false ∧ decide (d < 0) = false ∧ decide (32767 < d) = false ∧ decide (a < 0) = false ∧ decide (32767 < a) = true) := by
    simp only [decide_eq_true_eq, decide_eq_false_iff_not]
    omega
  clear hbad
  rcases c with t0 | ⟨t0, t1⟩ | ⟨t0, t1, t2⟩ | ⟨t0, t1, t2, t3⟩ | ⟨t0, t1, t2, t3, t4⟩ | ⟨t0, t1, t2, t3, t4, t5⟩
  all_goals
    go_wp2
    refine bodyPost_ret (v := .tuple #[.agg #[.int .i64 0, .int .i64 0], .int .i64 2]) (by simp [results, Tryd.results21, go_sem, q0w1, q1w1]) rfl ?_
    exact ⟨rfl, by go_grown⟩
end Go.Proofs.YtdmaekiejdahoaaDoor

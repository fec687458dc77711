/-
  Plain: what the ends do along the laws' fixed courses (settling, losses, retries).
-/
import Derived.Test.YtmighkgjbohieaaPeerInv
import Derived.Test.YtmighkgjbohieaaPeerAlive
set_option linter.unusedVariables false
set_option linter.unusedSimpArgs false
namespace Go.Proofs.Ytmighkgjbohieaa
open Go.ChangeShapes Go.WideShapes Go.ChangeAt Go.RowKit Go.Great

def LA (st id ot tr du : Int) : Lk := ⟨2, 0, 0, 0, 0, 3, 2, 0, 0, 0, 0, 4, st, id, ot, tr, du⟩
def LB (st id ot tr du : Int) : Lk := ⟨2, 0, 0, 0, 0, 4, 2, 0, 0, 0, 0, 3, st, id, ot, tr, du⟩
theorem LA_chk {st id ot tr du : Int} (h : (LA st id ot tr du).Shape) (hi : 1 ≤ id ∧ id ≤ 65535) : (LA st id ot tr du).chk = 0 := (chk_shape _).2 ⟨rfl, hi, h⟩
theorem LB_chk {st id ot tr du : Int} (h : (LB st id ot tr du).Shape) (hi : 1 ≤ id ∧ id ≤ 65535) : (LB st id ot tr du).chk = 0 := (chk_shape _).2 ⟨rfl, hi, h⟩
theorem k0_is {id : Int} (hi : 1 ≤ id ∧ id ≤ 65535) : k0 id = LA 0 id 0 0 0 := by simp only [k0, inB, btw_iff.2 hi, if_true]; rfl
theorem k1_is {id : Int} (hi : 1 ≤ id ∧ id ≤ 65535) : k1 id = LB 0 id 0 0 0 := by simp only [k1, inB, btw_iff.2 hi, if_true]; rfl
theorem LA_by {st id ot tr du : Int} : (LA st id ot tr du).By := ⟨b2, b0, b0, b0, b0, b3, b2, b0, b0, b0, b0, b4⟩
theorem LB_by {st id ot tr du : Int} : (LB st id ot tr du).By := ⟨b2, b0, b0, b0, b0, b4, b2, b0, b0, b0, b0, b3⟩
theorem h_open {k : Lk} {a now : Int} (hc : k.chk = 0) (ht : tinB now = true) (ha : 1 ≤ a ∧ a ≤ 65535) : pHandle k (msgOf 1 a 0) now = pOpened k a now := by
  have hA := msgA_of 1 a 0 ha.1 ha.2
  have hC : msgC (msgOf 1 a 0) = 0 := rfl
  have h0 : (msgOf 1 a 0).getD 0 0 = 1 := rfl
  have hl : (msgOf 1 a 0).length = 5 := rfl
  have hb : badM (msgOf 1 a 0) = false := by
    rw [badM, hA, hC, h0, hl, decide_eq_false_iff_not]
    omega
  rw [pHandle, guard_ok hc ht, hl, if_neg (by decide), hb, if_neg (by decide), h0, if_pos rfl, hA]
theorem h_conf {k : Lk} {a b now : Int} (hc : k.chk = 0) (ht : tinB now = true) (ha : 1 ≤ a ∧ a ≤ 65535) (hb : 1 ≤ b ∧ b ≤ 65535) : pHandle k (msgOf 2 a b) now = fitR (pConf k a b now) := by
  have hA := msgA_of 2 a b ha.1 ha.2
  have hC := msgC_of 2 a b hb.1 hb.2
  have h0 : (msgOf 2 a b).getD 0 0 = 2 := rfl
  have hl : (msgOf 2 a b).length = 5 := rfl
  have hb : badM (msgOf 2 a b) = false := by
    rw [badM, hA, hC, h0, hl, decide_eq_false_iff_not]
    omega
  rw [pHandle, guard_ok hc ht, hl, if_neg (by decide), hb, if_neg (by decide), h0, if_neg (by decide), if_pos rfl, hA, hC]
theorem h_shut {k : Lk} {a b now : Int} (hc : k.chk = 0) (ht : tinB now = true) (ha : 1 ≤ a ∧ a ≤ 65535) (hb : 1 ≤ b ∧ b ≤ 65535) : pHandle k (msgOf 3 a b) now = fitR (pClosed k a b now) := by
  have hA := msgA_of 3 a b ha.1 ha.2
  have hC := msgC_of 3 a b hb.1 hb.2
  have h0 : (msgOf 3 a b).getD 0 0 = 3 := rfl
  have hl : (msgOf 3 a b).length = 5 := rfl
  have hb : badM (msgOf 3 a b) = false := by
    rw [badM, hA, hC, h0, hl, decide_eq_false_iff_not]
    omega
  rw [pHandle, guard_ok hc ht, hl, if_neg (by decide), hb, if_neg (by decide), h0, if_neg (by decide), if_neg (by decide), hA, hC]
theorem fit_of {k : Lk} {ms : List (List Int)} : fitR (k, ms, 0) = (k, ms, 0) := rfl

section
variable {id other now : Int}
/-- A start. -/
theorem a_start (hi : 1 ≤ id ∧ id ≤ 65535) (n0 : 0 ≤ now) (n1 : now ≤ 1000000000) : pStart (LA 0 id 0 0 0) now = (LA 1 id 0 1 (now + 40000), [msgOf 1 id 0], 0) := by
  rw [pStart, guard_ok (LA_chk (shape0 rfl rfl rfl rfl) hi) (tin_of n0 n1)]
  rfl
theorem b_start (hi : 1 ≤ id ∧ id ≤ 65535) (n0 : 0 ≤ now) (n1 : now ≤ 1000000000) : pStart (LB 0 id 0 0 0) now = (LB 1 id 0 1 (now + 40000), [msgOf 1 id 0], 0) := by
  rw [pStart, guard_ok (LB_chk (shape0 rfl rfl rfl rfl) hi) (tin_of n0 n1)]
  rfl
theorem ne_of (hi : 1 ≤ id ∧ id ≤ 65535) : ¬ id = 0 := by omega
/-- An open to an idle end, to one that has sent its own. -/
theorem b_open0 (hi : 1 ≤ id ∧ id ≤ 65535) (ho : 1 ≤ other ∧ other ≤ 65535) (n0 : 0 ≤ now) (n1 : now ≤ 1000000000) : pHandle (LB 0 other 0 0 0) (msgOf 1 id 0) now = (LB 2 other id 1 (now + 40000), [msgOf 1 other 0, msgOf 2 other id], 0) := by
  rw [h_open (LB_chk (shape0 rfl rfl rfl rfl) ho) (tin_of n0 n1) hi]
  rfl
theorem b_open1 {tr du : Int} (hi : 1 ≤ id ∧ id ≤ 65535) (ho : 1 ≤ other ∧ other ≤ 65535) (n0 : 0 ≤ now) (n1 : now ≤ 1000000000) (ht : 1 ≤ tr ∧ tr ≤ 3) (hd : 1 ≤ du ∧ du ≤ 1099511667776) : pHandle (LB 1 other 0 tr du) (msgOf 1 id 0) now = (LB 2 other id 1 (now + 40000), [msgOf 2 other id], 0) := by
  rw [h_open (LB_chk (shape1 rfl rfl ht hd) ho) (tin_of n0 n1) hi]
  rfl
theorem a_open1 {tr du : Int} (hi : 1 ≤ id ∧ id ≤ 65535) (ho : 1 ≤ other ∧ other ≤ 65535) (n0 : 0 ≤ now) (n1 : now ≤ 1000000000) (ht : 1 ≤ tr ∧ tr ≤ 3) (hd : 1 ≤ du ∧ du ≤ 1099511667776) : pHandle (LA 1 id 0 tr du) (msgOf 1 other 0) now = (LA 2 id other 1 (now + 40000), [msgOf 2 id other], 0) := by
  rw [h_open (LA_chk (shape1 rfl rfl ht hd) hi) (tin_of n0 n1) ho]
  rfl
/-- A confirm to an end that has got an open. -/
theorem a_conf2 {tr du : Int} (hi : 1 ≤ id ∧ id ≤ 65535) (ho : 1 ≤ other ∧ other ≤ 65535) (n0 : 0 ≤ now) (n1 : now ≤ 1000000000) (ht : 1 ≤ tr ∧ tr ≤ 3) (hd : 1 ≤ du ∧ du ≤ 1099511667776) : pHandle (LA 2 id other tr du) (msgOf 2 other id) now = (LA 4 id other 0 0, [], 0) := by
  rw [h_conf (LA_chk (shape2 rfl ho ht hd) hi) (tin_of n0 n1) ho hi]
  simp [pConf, LA, upK, fitR]
theorem b_conf2 {tr du : Int} (hi : 1 ≤ id ∧ id ≤ 65535) (ho : 1 ≤ other ∧ other ≤ 65535) (n0 : 0 ≤ now) (n1 : now ≤ 1000000000) (ht : 1 ≤ tr ∧ tr ≤ 3) (hd : 1 ≤ du ∧ du ≤ 1099511667776) : pHandle (LB 2 other id tr du) (msgOf 2 id other) now = (LB 4 other id 0 0, [], 0) := by
  rw [h_conf (LB_chk (shape2 rfl hi ht hd) ho) (tin_of n0 n1) hi ho]
  simp [pConf, LB, upK, fitR]
/-- A confirm to an end that has sent its open. -/
theorem a_conf1 {tr du : Int} (hi : 1 ≤ id ∧ id ≤ 65535) (ho : 1 ≤ other ∧ other ≤ 65535) (n0 : 0 ≤ now) (n1 : now ≤ 1000000000) (ht : 1 ≤ tr ∧ tr ≤ 3) (hd : 1 ≤ du ∧ du ≤ 1099511667776) : pHandle (LA 1 id 0 tr du) (msgOf 2 other id) now = (LA 3 id other 1 (now + 40000), [], 0) := by
  rw [h_conf (LA_chk (shape1 rfl rfl ht hd) hi) (tin_of n0 n1) ho hi]
  simp [pConf, LA, waitK, otK, fitR]
theorem b_conf1 {tr du : Int} (hi : 1 ≤ id ∧ id ≤ 65535) (ho : 1 ≤ other ∧ other ≤ 65535) (n0 : 0 ≤ now) (n1 : now ≤ 1000000000) (ht : 1 ≤ tr ∧ tr ≤ 3) (hd : 1 ≤ du ∧ du ≤ 1099511667776) : pHandle (LB 1 other 0 tr du) (msgOf 2 id other) now = (LB 3 other id 1 (now + 40000), [], 0) := by
  rw [h_conf (LB_chk (shape1 rfl rfl ht hd) ho) (tin_of n0 n1) hi ho]
  simp [pConf, LB, waitK, otK, fitR]
/-- An open to an end that has got a confirm. -/
theorem a_open3 {tr du : Int} (hi : 1 ≤ id ∧ id ≤ 65535) (ho : 1 ≤ other ∧ other ≤ 65535) (n0 : 0 ≤ now) (n1 : now ≤ 1000000000) (ht : 1 ≤ tr ∧ tr ≤ 3) (hd : 1 ≤ du ∧ du ≤ 1099511667776) : pHandle (LA 3 id other tr du) (msgOf 1 other 0) now = (LA 4 id other 0 0, [msgOf 2 id other], 0) := by
  rw [h_open (LA_chk (shape3 rfl ho ht hd) hi) (tin_of n0 n1) ho]
  simp [pOpened, LA, upK, otK]
theorem b_open3 {tr du : Int} (hi : 1 ≤ id ∧ id ≤ 65535) (ho : 1 ≤ other ∧ other ≤ 65535) (n0 : 0 ≤ now) (n1 : now ≤ 1000000000) (ht : 1 ≤ tr ∧ tr ≤ 3) (hd : 1 ≤ du ∧ du ≤ 1099511667776) : pHandle (LB 3 other id tr du) (msgOf 1 id 0) now = (LB 4 other id 0 0, [msgOf 2 other id], 0) := by
  rw [h_open (LB_chk (shape3 rfl hi ht hd) ho) (tin_of n0 n1) hi]
  simp [pOpened, LB, upK, otK]
/-- Messages pass until both are Up. -/
theorem pass_mid (hi : 1 ≤ id ∧ id ≤ 65535) (ho : 1 ≤ other ∧ other ≤ 65535) (n : Nat) {tr du tr' du' : Int} (ht : 1 ≤ tr ∧ tr ≤ 3) (hd : 1 ≤ du ∧ du ≤ 1099511667776) (ht' : 1 ≤ tr' ∧ tr' ≤ 3) (hd' : 1 ≤ du' ∧ du' ≤ 1099511667776) :
    passF (n + 4) (LA 1 id 0 tr du) (LB 2 other id tr' du') [] [msgOf 1 other 0, msgOf 2 other id] 0 = (LA 4 id other 0 0, LB 4 other id 0 0, true) := by
  have z0 : (0 : Int) ≤ 0 := by decide
  have z1 : (0 : Int) ≤ 1000000000 := by decide
  have e1 := a_open1 (now := 0) hi ho z0 z1 ht hd
  have e2 := b_conf2 (now := 0) hi ho z0 z1 ht' hd'
  have e3 := a_conf2 (now := 0) (tr := 1) (du := 0 + 40000) hi ho z0 z1 (by decide) (by decide)
  simp only [passF, e1, if_true, List.nil_append, e2, List.append_nil, e3]
theorem pass_one (hi : 1 ≤ id ∧ id ≤ 65535) (ho : 1 ≤ other ∧ other ≤ 65535) : passF 100 (LA 1 id 0 1 (0 + 40000)) (LB 0 other 0 0 0) [msgOf 1 id 0] [] 0 = (LA 4 id other 0 0, LB 4 other id 0 0, true) := by
  have e := b_open0 (now := 0) hi ho (by decide) (by decide)
  show passF (99 + 1) _ _ _ _ _ = _
  simp only [passF, e, if_true, List.nil_append]
  exact pass_mid hi ho 95 (by decide) (by decide) (by decide) (by decide)
theorem pass_two (hi : 1 ≤ id ∧ id ≤ 65535) (ho : 1 ≤ other ∧ other ≤ 65535) : passF 100 (LA 1 id 0 1 (0 + 40000)) (LB 1 other 0 1 (0 + 40000)) [msgOf 1 id 0] [msgOf 1 other 0] 0 = (LA 4 id other 0 0, LB 4 other id 0 0, true) := by
  have e := b_open1 (now := 0) (tr := 1) (du := 0 + 40000) hi ho (by decide) (by decide) (by decide) (by decide)
  show passF (99 + 1) _ _ _ _ _ = _
  simp only [passF, e, if_true, List.cons_append, List.nil_append]
  exact pass_mid hi ho 95 (by decide) (by decide) (by decide) (by decide)
theorem pair_up : pairedB (LA 4 id other 0 0) (LB 4 other id 0 0) = true := by simp [pairedB, LA, LB]
/-- A close, its answer, the end of both. -/
theorem a_close (hi : 1 ≤ id ∧ id ≤ 65535) (ho : 1 ≤ other ∧ other ≤ 65535) (n0 : 0 ≤ now) (n1 : now ≤ 1000000000) : pClose (LA 4 id other 0 0) now = (LA 5 id other 0 (now + 40000), [msgOf 3 id other], 0) := by
  rw [pClose, guard_ok (LA_chk (shape4 rfl ho rfl rfl) hi) (tin_of n0 n1)]
  simp [clK, LA]
theorem b_close (hi : 1 ≤ id ∧ id ≤ 65535) (ho : 1 ≤ other ∧ other ≤ 65535) (n0 : 0 ≤ now) (n1 : now ≤ 1000000000) : pClose (LB 4 other id 0 0) now = (LB 5 other id 0 (now + 40000), [msgOf 3 other id], 0) := by
  rw [pClose, guard_ok (LB_chk (shape4 rfl hi rfl rfl) ho) (tin_of n0 n1)]
  simp [clK, LB]
theorem a_shut4 (hi : 1 ≤ id ∧ id ≤ 65535) (ho : 1 ≤ other ∧ other ≤ 65535) (n0 : 0 ≤ now) (n1 : now ≤ 1000000000) : pHandle (LA 4 id other 0 0) (msgOf 3 other id) now = (LA 5 id other 0 (now + 40000), [msgOf 3 id other], 0) := by
  rw [h_shut (LA_chk (shape4 rfl ho rfl rfl) hi) (tin_of n0 n1) ho hi]
  simp [pClosed, clK, LA, fitR]
theorem b_shut4 (hi : 1 ≤ id ∧ id ≤ 65535) (ho : 1 ≤ other ∧ other ≤ 65535) (n0 : 0 ≤ now) (n1 : now ≤ 1000000000) : pHandle (LB 4 other id 0 0) (msgOf 3 id other) now = (LB 5 other id 0 (now + 40000), [msgOf 3 other id], 0) := by
  rw [h_shut (LB_chk (shape4 rfl hi rfl rfl) ho) (tin_of n0 n1) hi ho]
  simp [pClosed, clK, LB, fitR]
theorem a_shut5 {du : Int} (hi : 1 ≤ id ∧ id ≤ 65535) (ho : 1 ≤ other ∧ other ≤ 65535) (n0 : 0 ≤ now) (n1 : now ≤ 1000000000) (hd : 1 ≤ du ∧ du ≤ 1099511667776) : pHandle (LA 5 id other 0 du) (msgOf 3 other id) now = (LA 0 (id % 65535 + 1) 0 0 0, [], 0) := by
  rw [h_shut (LA_chk (shape5 rfl (by show 0 ≤ other ∧ other ≤ 65535; omega) rfl hd) hi) (tin_of n0 n1) ho hi]
  simp [pClosed, finK, LA, fitR]
theorem b_shut5 {du : Int} (hi : 1 ≤ id ∧ id ≤ 65535) (ho : 1 ≤ other ∧ other ≤ 65535) (n0 : 0 ≤ now) (n1 : now ≤ 1000000000) (hd : 1 ≤ du ∧ du ≤ 1099511667776) : pHandle (LB 5 other id 0 du) (msgOf 3 id other) now = (LB 0 (other % 65535 + 1) 0 0 0, [], 0) := by
  rw [h_shut (LB_chk (shape5 rfl (by show 0 ≤ id ∧ id ≤ 65535; omega) rfl hd) ho) (tin_of n0 n1) hi ho]
  simp [pClosed, finK, LB, fitR]
theorem a_tick5 {du : Int} (hi : 1 ≤ id ∧ id ≤ 65535) (ho : 0 ≤ other ∧ other ≤ 65535) (n0 : 0 ≤ now) (n1 : now ≤ 1000000000) (hd : 1 ≤ du ∧ du ≤ 1099511667776) (hn : du ≤ now) : pTick (LA 5 id other 0 du) now = (LA 0 (id % 65535 + 1) 0 0 0, [], 0) := by
  rw [pTick, guard_ok (LA_chk (shape5 rfl ho rfl hd) hi) (tin_of n0 n1), if_neg (by show ¬ (du = 0 ∨ now < du); omega)]
  rfl
theorem b_tick5 {du : Int} (hi : 1 ≤ id ∧ id ≤ 65535) (ho : 1 ≤ other ∧ other ≤ 65535) (n0 : 0 ≤ now) (n1 : now ≤ 1000000000) (hd : 1 ≤ du ∧ du ≤ 1099511667776) (hn : du ≤ now) : pTick (LB 5 other id 0 du) now = (LB 0 (other % 65535 + 1) 0 0 0, [], 0) := by
  rw [pTick, guard_ok (LB_chk (shape5 rfl (by show 0 ≤ id ∧ id ≤ 65535; omega) rfl hd) ho) (tin_of n0 n1), if_neg (by show ¬ (du = 0 ∨ now < du); omega)]
  rfl
end
end Go.Proofs.Ytmighkgjbohieaa

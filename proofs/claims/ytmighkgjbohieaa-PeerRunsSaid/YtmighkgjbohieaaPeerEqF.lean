/-
  What Start, Close, Tick and Handle come to has fields in range.
-/
import Derived.Test.YtmighkgjbohieaaPeerEq
import Derived.Test.YtmighkgjbohieaaPeerFacts
set_option linter.unusedVariables false
set_option linter.unusedSimpArgs false
namespace Go.Proofs.Ytmighkgjbohieaa
open Go.ChangeShapes Go.WideShapes Go.ChangeAt Go.RowKit Go.Great

theorem wf_zero : zeroLk.Wf := ⟨zero_by, by decide, by decide, by decide, by decide, by decide⟩
theorem wf_mk {k k' : Lk} (h : k.By) (e : k'.o0 = k.o0 ∧ k'.o1 = k.o1 ∧ k'.o2 = k.o2 ∧ k'.o3 = k.o3 ∧ k'.o4 = k.o4 ∧ k'.o5 = k.o5 ∧ k'.p0 = k.p0 ∧ k'.p1 = k.p1 ∧ k'.p2 = k.p2 ∧ k'.p3 = k.p3 ∧ k'.p4 = k.p4 ∧ k'.p5 = k.p5)
    (s : 0 ≤ k'.st ∧ k'.st ≤ 255) (i : 0 ≤ k'.id ∧ k'.id ≤ 65536) (o : 0 ≤ k'.ot ∧ k'.ot ≤ 65536) (t : 0 ≤ k'.tr ∧ k'.tr ≤ 255) (d : 0 ≤ k'.du ∧ k'.du ≤ 2000000000000) : k'.Wf :=
  ⟨by_of h e, s, by omega, by omega, by omega, by omega⟩
theorem wf_guard {k : Lk} {now : Int} {r : Res} (h : k.chk = 0 → tinB now = true → r.1.Wf) : (guardR k now r).1.Wf := by
  rcases chk_two k with hc | hc
  · by_cases ht : tinB now = true
    · rw [guard_ok hc ht]; exact h hc ht
    · rw [guard_arg hc ht]; exact wf_zero
  · rw [guard_bad hc]; exact wf_zero
theorem wf_start {k : Lk} (hB : k.By) (now : Int) : (pStart k now).1.Wf := by
  refine wf_guard fun hc ht => ?_
  have hv := chk_val hc
  obtain ⟨n0, n1⟩ := tin_in ht
  have v1 := hv.id0
  have v2 := hv.id1
  have v3 := hv.ot0
  have v4 := hv.ot1
  have v5 := hv.st0
  have v6 := hv.st5
  have v7 := hv.tr0
  have v8 := hv.tr3
  have v9 := hv.du0
  have v10 := hv.du1
  repeat' split
  all_goals first
    | exact wf_zero
    | exact wf_mk hB ⟨rfl, rfl, rfl, rfl, rfl, rfl, rfl, rfl, rfl, rfl, rfl, rfl⟩ (by (try dsimp only [waitK, clK, upK, finK, againK, otK]); omega) (by (try dsimp only [waitK, clK, upK, finK, againK, otK]); omega) (by (try dsimp only [waitK, clK, upK, finK, againK, otK]); omega) (by (try dsimp only [waitK, clK, upK, finK, againK, otK]); omega) (by (try dsimp only [waitK, clK, upK, finK, againK, otK]); omega)
theorem wf_close {k : Lk} (hB : k.By) (now : Int) : (pClose k now).1.Wf := by
  refine wf_guard fun hc ht => ?_
  have hv := chk_val hc
  obtain ⟨n0, n1⟩ := tin_in ht
  have v1 := hv.id0
  have v2 := hv.id1
  have v3 := hv.ot0
  have v4 := hv.ot1
  have v5 := hv.st0
  have v6 := hv.st5
  have v7 := hv.tr0
  have v8 := hv.tr3
  have v9 := hv.du0
  have v10 := hv.du1
  repeat' split
  all_goals first
    | exact wf_zero
    | exact wf_mk hB ⟨rfl, rfl, rfl, rfl, rfl, rfl, rfl, rfl, rfl, rfl, rfl, rfl⟩ (by (try dsimp only [waitK, clK, upK, finK, againK, otK]); omega) (by (try dsimp only [waitK, clK, upK, finK, againK, otK]); omega) (by (try dsimp only [waitK, clK, upK, finK, againK, otK]); omega) (by (try dsimp only [waitK, clK, upK, finK, againK, otK]); omega) (by (try dsimp only [waitK, clK, upK, finK, againK, otK]); omega)
theorem wf_tick {k : Lk} (hB : k.By) (now : Int) : (pTick k now).1.Wf := by
  refine wf_guard fun hc ht => ?_
  have hv := chk_val hc
  obtain ⟨n0, n1⟩ := tin_in ht
  have v1 := hv.id0
  have v2 := hv.id1
  have v3 := hv.ot0
  have v4 := hv.ot1
  have v5 := hv.st0
  have v6 := hv.st5
  have v7 := hv.tr0
  have v8 := hv.tr3
  have v9 := hv.du0
  have v10 := hv.du1
  repeat' split
  all_goals first
    | exact wf_zero
    | exact wf_mk hB ⟨rfl, rfl, rfl, rfl, rfl, rfl, rfl, rfl, rfl, rfl, rfl, rfl⟩ (by (try dsimp only [waitK, clK, upK, finK, againK, otK]); omega) (by (try dsimp only [waitK, clK, upK, finK, againK, otK]); omega) (by (try dsimp only [waitK, clK, upK, finK, againK, otK]); omega) (by (try dsimp only [waitK, clK, upK, finK, againK, otK]); omega) (by (try dsimp only [waitK, clK, upK, finK, againK, otK]); omega)
theorem wf_opened {k : Lk} (hB : k.By) (hv : k.Val) (a now : Int) (ha : 0 ≤ a ∧ a ≤ 65535) (n0 : 0 ≤ now) (n1 : now ≤ 1099511627776) : (pOpened k a now).1.Wf := by
  have v1 := hv.id0
  have v2 := hv.id1
  have v3 := hv.ot0
  have v4 := hv.ot1
  have v5 := hv.st0
  have v6 := hv.st5
  have v7 := hv.tr0
  have v8 := hv.tr3
  have v9 := hv.du0
  have v10 := hv.du1
  unfold pOpened
  repeat' split
  all_goals first
    | exact wf_zero
    | exact wf_mk hB ⟨rfl, rfl, rfl, rfl, rfl, rfl, rfl, rfl, rfl, rfl, rfl, rfl⟩ (by (try dsimp only [waitK, clK, upK, finK, againK, otK]); omega) (by (try dsimp only [waitK, clK, upK, finK, againK, otK]); omega) (by (try dsimp only [waitK, clK, upK, finK, againK, otK]); omega) (by (try dsimp only [waitK, clK, upK, finK, againK, otK]); omega) (by (try dsimp only [waitK, clK, upK, finK, againK, otK]); omega)
theorem wf_conf {k : Lk} (hB : k.By) (hv : k.Val) (a c now : Int) (ha : 0 ≤ a ∧ a ≤ 65535) (n0 : 0 ≤ now) (n1 : now ≤ 1099511627776) : (pConf k a c now).1.Wf := by
  have v1 := hv.id0
  have v2 := hv.id1
  have v3 := hv.ot0
  have v4 := hv.ot1
  have v5 := hv.st0
  have v6 := hv.st5
  have v7 := hv.tr0
  have v8 := hv.tr3
  have v9 := hv.du0
  have v10 := hv.du1
  unfold pConf
  repeat' split
  all_goals first
    | exact wf_zero
    | exact wf_mk hB ⟨rfl, rfl, rfl, rfl, rfl, rfl, rfl, rfl, rfl, rfl, rfl, rfl⟩ (by (try dsimp only [waitK, clK, upK, finK, againK, otK]); omega) (by (try dsimp only [waitK, clK, upK, finK, againK, otK]); omega) (by (try dsimp only [waitK, clK, upK, finK, againK, otK]); omega) (by (try dsimp only [waitK, clK, upK, finK, againK, otK]); omega) (by (try dsimp only [waitK, clK, upK, finK, againK, otK]); omega)
theorem wf_closed {k : Lk} (hB : k.By) (hv : k.Val) (a c now : Int) (ha : 0 ≤ a ∧ a ≤ 65535) (n0 : 0 ≤ now) (n1 : now ≤ 1099511627776) : (pClosed k a c now).1.Wf := by
  have v1 := hv.id0
  have v2 := hv.id1
  have v3 := hv.ot0
  have v4 := hv.ot1
  have v5 := hv.st0
  have v6 := hv.st5
  have v7 := hv.tr0
  have v8 := hv.tr3
  have v9 := hv.du0
  have v10 := hv.du1
  unfold pClosed
  repeat' split
  all_goals first
    | exact wf_zero
    | exact wf_mk hB ⟨rfl, rfl, rfl, rfl, rfl, rfl, rfl, rfl, rfl, rfl, rfl, rfl⟩ (by (try dsimp only [waitK, clK, upK, finK, againK, otK]); omega) (by (try dsimp only [waitK, clK, upK, finK, againK, otK]); omega) (by (try dsimp only [waitK, clK, upK, finK, againK, otK]); omega) (by (try dsimp only [waitK, clK, upK, finK, againK, otK]); omega) (by (try dsimp only [waitK, clK, upK, finK, againK, otK]); omega)
theorem wf_fit {r : Res} (h : r.1.Wf) : (fitR r).1.Wf := by
  unfold fitR
  split
  · exact h
  · exact wf_zero
theorem getD_by {m : List Int} (hm : ∀ x ∈ m, 0 ≤ x ∧ x ≤ 255) (i : Nat) : 0 ≤ m.getD i 0 ∧ m.getD i 0 ≤ 255 := by
  rw [List.getD_eq_getElem?_getD]
  cases e : m[i]? with
  | none => exact ⟨by decide, by decide⟩
  | some x => exact hm x (List.mem_of_getElem? e)
theorem wf_handle {k : Lk} (hB : k.By) (m : List Int) (hm : ∀ x ∈ m, 0 ≤ x ∧ x ≤ 255) (now : Int) : (pHandle k m now).1.Wf := by
  refine wf_guard fun hc ht => ?_
  have hv := chk_val hc
  obtain ⟨n0, n1⟩ := tin_in ht
  have ha : 0 ≤ msgA m ∧ msgA m ≤ 65535 := by
    have h1 := getD_by hm 1
    have h2 := getD_by hm 2
    unfold msgA
    omega
  repeat' split
  · exact wf_zero
  · exact wf_zero
  · exact wf_opened hB hv _ _ ha n0 n1
  · exact wf_fit (wf_conf hB hv _ _ _ ha n0 n1)
  · exact wf_fit (wf_closed hB hv _ _ _ ha n0 n1)
theorem wf_new {k : Lk} (hB : k.By) : (pNew k).1.Wf := by
  unfold pNew
  split
  · exact wf_zero
  · rename_i h
    refine ⟨⟨hB.o0, hB.o1, hB.o2, hB.o3, hB.o4, hB.o5, hB.p0, hB.p1, hB.p2, hB.p3, hB.p4, hB.p5⟩, by show 0 ≤ (0 : Int) ∧ (0 : Int) ≤ 255; decide, ?_, by show _ ≤ (0 : Int) ∧ (0 : Int) ≤ _; decide, by show _ ≤ (0 : Int) ∧ (0 : Int) ≤ _; decide, by show _ ≤ (0 : Int) ∧ (0 : Int) ≤ _; decide⟩
    show _ ≤ k.id ∧ k.id ≤ _
    omega
end Go.Proofs.Ytmighkgjbohieaa

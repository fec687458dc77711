/-
  DeferralKeeps is proved: a station that starts at its earliest time, or later, does not start inside a reservation that it heard.
-/
import Derived.Test.YtdmaekiejdahoaaDoorDefKeeps
import Derived.Test.YtdmaekiejdahoaaDoorCards
import Derived.Test.YtdmaekiejdahoaaDoorTie
import Derived.Deep.DeepHandedRow
import Derived.Lib.LaidTab
namespace Go.Proofs.YtdmaekiejdahoaaDoor.deferralKeeps
open Go.ChangeShapes Go.WideShapes Go.ChangeAt Go.RowKit

theorem own : ownKnob Tryd.prog.godebug = none := by kernel_rfl
theorem laidOut : laidOutB Tryd.prog = true := by kernel_rfl
theorem bools : Tryd.f5.resultTypes = #[4] := by kernel_rfl
theorem readable : (Tryd.f5.params.toList.all fun t => Tryd.prog.readableRec t && decide (t < Tryd.prog.types.size)) = true := by kernel_rfl

theorem gTab : Tryd.prog.globalNamed "hotspot/deferral.slots" = some 1 := by kernel_rfl
theorem gtTab : (Tryd.prog.globals[1]?).map (·.type) = some 54 := by kernel_rfl
theorem cnTab : Tryd.prog.cellsOf 54 = 4 := by kernel_rfl
theorem ceTab : Tryd.prog.cellsOf 3 = 1 := by kernel_rfl
theorem flTab : (Rows.deferralKeepsRow.laid.filter fun x => x.1 == "hotspot/deferral.slots") = [("hotspot/deferral.slots", Lib.tabData .i64 [7, 3, 2, 2])] := rfl
theorem tabTab {W : World} (h : laidMetH Tryd.prog Rows.deferralKeepsRow.laid W) : Tab W := by
  have h2 : laidMet Tryd.prog Rows.deferralKeepsRow.laid W := h
  have h3 := h2.filter fun x => x.1 == "hotspot/deferral.slots"
  rw [flTab] at h3
  have t : Lib.TabIs Tryd.prog W "hotspot/deferral.slots" .i64 [7, 3, 2, 2] := Lib.tabIs_of_head (rest := []) gTab gtTab Tryd.underlying54 Tryd.underlying3 ceTab cnTab h3
  exact ⟨t.cell gTab 0 (by decide), t.cell gTab 1 (by decide), t.cell gTab 2 (by decide), t.cell gTab 3 (by decide)⟩
theorem gOth : Tryd.prog.globalNamed "hotspot/hotspotlaw13.other" = some 0 := by kernel_rfl
theorem gtOth : (Tryd.prog.globals[0]?).map (·.type) = some 46 := by kernel_rfl
theorem cnOth : Tryd.prog.cellsOf 46 = 6 := by kernel_rfl
theorem ceOth : Tryd.prog.cellsOf 5 = 1 := by kernel_rfl
theorem flOth : (Rows.deferralKeepsRow.laid.filter fun x => x.1 == "hotspot/hotspotlaw13.other") = [("hotspot/hotspotlaw13.other", Lib.tabData .u8 [2, 0, 0, 0, 0, 9])] := rfl
theorem tabOth {W : World} (h : laidMetH Tryd.prog Rows.deferralKeepsRow.laid W) : Oth W := by
  have h2 : laidMet Tryd.prog Rows.deferralKeepsRow.laid W := h
  have h3 := h2.filter fun x => x.1 == "hotspot/hotspotlaw13.other"
  rw [flOth] at h3
  have t : Lib.TabIs Tryd.prog W "hotspot/hotspotlaw13.other" .u8 [2, 0, 0, 0, 0, 9] := Lib.tabIs_of_head (rest := []) gOth gtOth Tryd.underlying46 Tryd.underlying5 ceOth cnOth h3
  exact ⟨t.cell gOth 0 (by decide), t.cell gOth 1 (by decide), t.cell gOth 2 (by decide), t.cell gOth 3 (by decide), t.cell gOth 4 (by decide), t.cell gOth 5 (by decide)⟩

def zargs : Array Value := #[.agg #[.int .i64 0, .int .i64 0], .agg #[.int .u8 0, .int .u8 0, .int .u8 0, .int .u8 0, .int .u8 0, .int .u8 0], .agg #[.int .u8 0, .int .u8 0, .bool false, .bool false, .bool false, .bool false, .bool false, .bool false, .bool false, .int .i64 0, .int .u8 0, .int .u8 0, .int .u8 0, .int .u8 0, .int .u8 0, .int .u8 0, .int .u8 0, .int .u8 0, .int .u8 0, .int .u8 0, .int .u8 0, .int .u8 0, .int .u8 0, .int .u8 0, .int .u8 0, .int .u8 0, .int .u8 0, .int .u8 0, .int .u8 0, .int .u8 0, .int .u8 0, .int .u8 0, .int .u8 0, .int .u8 0, .int .i64 0, .int .i64 0, .int .i64 0, .int .u8 0, .bool false, .bool false], .int .i64 0, .int .i64 0, .int .i64 0, .int .u8 0]
/-- A WORLD FOR THE WITNESS: the settled one, the tables holding what their initialisers lay. -/
noncomputable def laidWorld (os : Os) : World :=
  { World.holding Tryd.prog os ⟨#[], #[], []⟩ with heap := (((World.holding Tryd.prog os ⟨#[], #[], []⟩).heap.modify 1 fun
      | .cells _ t frozen => .cells #[.int .i64 7, .int .i64 3, .int .i64 2, .int .i64 2] t frozen
      | o => o).modify 0 fun
      | .cells _ t frozen => .cells #[.int .u8 2, .int .u8 0, .int .u8 0, .int .u8 0, .int .u8 0, .int .u8 9] t frozen
      | o => o) }
theorem laid_met (os : Os) : laidMet Tryd.prog Rows.deferralKeepsRow.laid ((laidWorld os).forCall (fun _ _ => 0) ⟨#[], zargs, []⟩).memory :=
  laidMet_of_run' 8 (by kernel_rfl) (by kernel_rfl)
theorem reads (os : Os) {H : Type} (enc : TypeId × Value → H) : ∃ ds places, DataW.whole enc Tryd.prog ((laidWorld os).forCall (fun _ _ => 0) ⟨#[], zargs, []⟩).memory Tryd.f5.params.toList Rows.deferralKeepsSpec.vars false (zargs : Array Value).toList 8 = some (ds, [], places) :=
  ⟨[.agg [.lit (.int .i64 0), .lit (.int .i64 0)], .agg [.lit (.int .u8 0), .lit (.int .u8 0), .lit (.int .u8 0), .lit (.int .u8 0), .lit (.int .u8 0), .lit (.int .u8 0)], .agg [(.lit (.int .u8 0)), (.lit (.int .u8 0)), (.lit (.bool false)), (.lit (.bool false)), (.lit (.bool false)), (.lit (.bool false)), (.lit (.bool false)), (.lit (.bool false)), (.lit (.bool false)), (.lit (.int .i64 0)), .agg [(.lit (.int .u8 0)), (.lit (.int .u8 0)), (.lit (.int .u8 0)), (.lit (.int .u8 0)), (.lit (.int .u8 0)), (.lit (.int .u8 0))], .agg [(.lit (.int .u8 0)), (.lit (.int .u8 0)), (.lit (.int .u8 0)), (.lit (.int .u8 0)), (.lit (.int .u8 0)), (.lit (.int .u8 0))], .agg [(.lit (.int .u8 0)), (.lit (.int .u8 0)), (.lit (.int .u8 0)), (.lit (.int .u8 0)), (.lit (.int .u8 0)), (.lit (.int .u8 0))], .agg [(.lit (.int .u8 0)), (.lit (.int .u8 0)), (.lit (.int .u8 0)), (.lit (.int .u8 0)), (.lit (.int .u8 0)), (.lit (.int .u8 0))], (.lit (.int .i64 0)), (.lit (.int .i64 0)), (.lit (.int .i64 0)), (.lit (.int .u8 0)), (.lit (.bool false)), (.lit (.bool false))], .lit (.int .i64 0), .lit (.int .i64 0), .lit (.int .i64 0), .lit (.int .u8 0)], [], by kernel_rfl⟩

set_option maxRecDepth 100000 in
theorem lifted (os : Os) (started : os.Started) (H : Type) (enc : TypeId × Value → H) (F : Stop.Interp) :
    ReturnsInHanded {} Tryd.checked os 5 .any ((OpenSpec.ofChange Rows.deferralKeepsSpec).preRow enc Tryd.prog Tryd.f5 Rows.deferralKeepsRow.domain false Rows.deferralKeepsRow.laid) (((OpenSpec.ofChange Rows.deferralKeepsSpec).at F).post enc Tryd.prog Tryd.f5 false true false false) := by
  obtain ⟨dd, places, hx⟩ := reads os enc
  refine returnsInHanded_of_row (C := Tryd.checked) (s := OpenSpec.ofChange Rows.deferralKeepsSpec) own started (by kernel_rfl) Tryd.func5
    (witness_row_at (enc := enc) (C := Tryd.checked) false (laidWorld os) zargs rfl (by kernel_rfl) (by kernel_rfl) (by kernel_rfl)
      (OpenSpec.preRow_of_cond 8 hx (by kernel_rfl) (fun k hk => by cases hk) (by kernel_rfl) (laid_met os))) ?_
  intro W base args ds gs before hval0 hW _ _ _ hL _ _
  have hval : ∀ (j : Nat) t v, Tryd.f5.params[j]? = some t → args[j]? = some v → Value.okWide Tryd.prog W .any base t v := hval0
  have hW' := hW
  obtain ⟨p, q, hA0, hV, rfl, hfz, hnd⟩ := hW
  have hA : DataW.TrodAll enc Tryd.prog W 0 (fun _ => true) true Tryd.f5.params.toList args.toList ds p := hA0
  rw [Tryd.params5] at hA hval
  obtain ⟨v0, vs0, d0, ds0, p0, q0, hargs, rfl, rfl, h0, r0⟩ := trodAll_cons hA
  obtain ⟨v1, vs1, d1, ds1, p1, q1, rfl, rfl, rfl, h1, r1⟩ := trodAll_cons r0
  obtain ⟨v2, vs2, d2, ds2, p2, q2, rfl, rfl, rfl, h2, r2⟩ := trodAll_cons r1
  obtain ⟨v3, vs3, d3, ds3, p3, q3, rfl, rfl, rfl, h3, r3⟩ := trodAll_cons r2
  obtain ⟨v4, vs4, d4, ds4, p4, q4, rfl, rfl, rfl, h4, r4⟩ := trodAll_cons r3
  obtain ⟨v5, vs5, d5, ds5, p5, q5, rfl, rfl, rfl, h5, r5⟩ := trodAll_cons r4
  obtain ⟨v6, vs6, d6, ds6, p6, q6, rfl, rfl, rfl, h6, r6⟩ := trodAll_cons r5
  obtain ⟨rfl, rfl, rfl⟩ := trodAll_nil r6
  obtain rfl : args = #[v0, v1, v2, v3, v4, v5, v6] := by cases args; simp_all
  obtain ⟨rfl, rfl⟩ := trodVars_none hV
  obtain ⟨cs0, rfl, sz0, at0⟩ := fr_cells (ts := [3, 3]) (.inl ⟨_, Tryd.underlying23⟩) (by kernel_rfl) (by kernel_rfl) (hval 0 23 v0 rfl rfl)
  obtain ⟨c0_0, c0_1, rfl⟩ := fr_agg2 cs0 (by simpa using sz0)
  obtain ⟨u, hu, hk⟩ := at0 0 _ rfl
  obtain rfl := Option.some.inj hu
  obtain ⟨a0_0, rfl, b0_0⟩ := fr_cell_int Tryd.underlying3 hk
  obtain ⟨u, hu, hk⟩ := at0 1 _ rfl
  obtain rfl := Option.some.inj hu
  obtain ⟨a0_1, rfl, b0_1⟩ := fr_cell_int Tryd.underlying3 hk
  clear at0
  obtain ⟨cs1, rfl, sz1, at1⟩ := fr_cells (ts := [5, 5, 5, 5, 5, 5]) (.inr ⟨_, _, Tryd.underlying46⟩) (by kernel_rfl) (by kernel_rfl) (hval 1 46 v1 rfl rfl)
  obtain ⟨c1_0, c1_1, c1_2, c1_3, c1_4, c1_5, rfl⟩ := fr_agg6 cs1 (by simpa using sz1)
  obtain ⟨u, hu, hk⟩ := at1 0 _ rfl
  obtain rfl := Option.some.inj hu
  obtain ⟨a1_0, rfl, b1_0⟩ := fr_cell_int Tryd.underlying5 hk
  obtain ⟨u, hu, hk⟩ := at1 1 _ rfl
  obtain rfl := Option.some.inj hu
  obtain ⟨a1_1, rfl, b1_1⟩ := fr_cell_int Tryd.underlying5 hk
  obtain ⟨u, hu, hk⟩ := at1 2 _ rfl
  obtain rfl := Option.some.inj hu
  obtain ⟨a1_2, rfl, b1_2⟩ := fr_cell_int Tryd.underlying5 hk
  obtain ⟨u, hu, hk⟩ := at1 3 _ rfl
  obtain rfl := Option.some.inj hu
  obtain ⟨a1_3, rfl, b1_3⟩ := fr_cell_int Tryd.underlying5 hk
  obtain ⟨u, hu, hk⟩ := at1 4 _ rfl
  obtain rfl := Option.some.inj hu
  obtain ⟨a1_4, rfl, b1_4⟩ := fr_cell_int Tryd.underlying5 hk
  obtain ⟨u, hu, hk⟩ := at1 5 _ rfl
  obtain rfl := Option.some.inj hu
  obtain ⟨a1_5, rfl, b1_5⟩ := fr_cell_int Tryd.underlying5 hk
  clear at1
  obtain ⟨cs2, rfl, sz2, at2⟩ := fr_cells (ts := [5, 5, 4, 4, 4, 4, 4, 4, 4, 3, 5, 5, 5, 5, 5, 5, 5, 5, 5, 5, 5, 5, 5, 5, 5, 5, 5, 5, 5, 5, 5, 5, 5, 5, 3, 3, 3, 5, 4, 4]) (.inl ⟨_, Tryd.underlying48⟩) (by kernel_rfl) (by kernel_rfl) (hval 2 48 v2 rfl rfl)
  obtain ⟨a2_0, k2_0, b2_0⟩ := fr_at_int sz2 at2 0 5 rfl Tryd.underlying5
  obtain ⟨a2_1, k2_1, b2_1⟩ := fr_at_int sz2 at2 1 5 rfl Tryd.underlying5
  obtain ⟨a2_9, k2_9, b2_9⟩ := fr_at_int sz2 at2 9 3 rfl Tryd.underlying3
  obtain ⟨a2_10, k2_10, b2_10⟩ := fr_at_int sz2 at2 10 5 rfl Tryd.underlying5
  obtain ⟨a2_11, k2_11, b2_11⟩ := fr_at_int sz2 at2 11 5 rfl Tryd.underlying5
  obtain ⟨a2_12, k2_12, b2_12⟩ := fr_at_int sz2 at2 12 5 rfl Tryd.underlying5
  obtain ⟨a2_13, k2_13, b2_13⟩ := fr_at_int sz2 at2 13 5 rfl Tryd.underlying5
  obtain ⟨a2_14, k2_14, b2_14⟩ := fr_at_int sz2 at2 14 5 rfl Tryd.underlying5
  obtain ⟨a2_15, k2_15, b2_15⟩ := fr_at_int sz2 at2 15 5 rfl Tryd.underlying5
  clear at2
  obtain ⟨a3, rfl, b3⟩ := fr_int Tryd.underlying3 (hval 3 3 v3 rfl rfl)
  obtain ⟨a4, rfl, b4⟩ := fr_int Tryd.underlying3 (hval 4 3 v4 rfl rfl)
  obtain ⟨a5, rfl, b5⟩ := fr_int Tryd.underlying3 (hval 5 3 v5 rfl rfl)
  obtain ⟨a6, rfl, b6⟩ := fr_int Tryd.underlying5 (hval 6 5 v6 rfl rfl)
  refine (walk a0_0 a0_1 a1_0 a1_1 a1_2 a1_3 a1_4 a1_5 cs2 a2_0 a2_1 a2_9 a2_10 a2_11 a2_12 a2_13 a2_14 a2_15 a3 a4 a5 a6 ⟨sz2, k2_0, k2_1, k2_9, k2_10, k2_11, k2_12, k2_13, k2_14, k2_15⟩ (fr_u8 b2_10) (fr_u8 b2_11) (fr_u8 b2_12) (fr_u8 b2_13) (fr_u8 b2_14) (fr_u8 b2_15) (fr_u8 b1_0) (fr_u8 b1_1) (fr_u8 b1_2) (fr_u8 b1_3) (fr_u8 b1_4) (fr_u8 b1_5) sz2 (fr_u8 b6) W (tabTab hL) (tabOth hL)).mono fun e W' ⟨he, hB⟩ => ?_
  subst he
  exact ⟨_, rfl, fr_post laidOut readable rfl bools Tryd.underlying4 hW' rfl hB⟩

theorem said : Rows.DeferralKeepsSaid :=
  OpenClaim.holds_of_cond 5 Tryd.f5 rfl rfl rfl rfl rfl rfl rfl ⟨rfl, rfl, rfl, rfl, rfl⟩ rfl rfl rfl rfl rfl (by kernel_rfl) Tryd.func5 (by kernel_rfl)
    (of_decide_eq_true (by kernel_rfl)) (by unfold Func.isWrapper; first | (rw [if_pos (by decide +kernel)]; kernel_rfl) | (rw [if_neg (by decide +kernel)]; exact ⟨rfl, rfl⟩))
    (fun os started H enc _ F => by rw [OpenClaim.pre_eq_preRow]; exact lifted os started H enc F)

/-- No parameter wants a stand-in; the program's own looks are off. -/
theorem noWants : (Tryd.f5.params.toList.all fun t => !Tryd.prog.wantsStandIn t) = true := by kernel_rfl
theorem plain (f : FuncId) (fn : Func) (hf : Tryd.pinned.checked.prog.funcNamed "hotspot/hotspotlaw13.DeferralKeeps" = some f) (hfn : Tryd.pinned.checked.prog.funcs[f]? = some fn) :
    false = Tryd.pinned.checked.prog.looks [] ∧ ∀ (j : Nat) t, fn.params[j]? = some t → Tryd.pinned.checked.prog.wantsStandIn t = false := by
  obtain rfl : f = 5 := Option.some.inj ((show Tryd.prog.funcNamed "hotspot/hotspotlaw13.DeferralKeeps" = some 5 by kernel_rfl).symm.trans hf) |>.symm
  obtain rfl : fn = Tryd.f5 := (Option.some.inj (Tryd.func5.symm.trans hfn)).symm
  refine ⟨by kernel_rfl, fun j t ht => ?_⟩
  have h := List.all_eq_true.1 noWants t (by simpa using Array.mem_of_getElem? ht)
  have h2 : Tryd.prog.wantsStandIn t = false := by simpa using h
  exact h2

/-- THE STATEMENT: the tied card. -/
theorem proved : Rows.DeferralKeepsCardSaid :=
  Claim7.holds_tied_plain_at .later [] _ _ _ _ said (fun _ h => by cases h) (by kernel_rfl) (fun _ h => by cases h) deferralKeeps_row_tie rfl ⟨rfl, rfl⟩ (by kernel_rfl) rfl plain (by kernel_rfl)
#print axioms proved
end Go.Proofs.YtdmaekiejdahoaaDoor.deferralKeeps

/-
  DeferralFolds is proved: hearing any frames one after the other never ends a reservation early; for all headers and gaps; no condition.
-/
import Derived.Test.YtdmaekiejdahoaaDoorDefFolds
import Derived.Test.YtdmaekiejdahoaaDoorCards
import Derived.Test.YtdmaekiejdahoaaDoorTie
import Derived.Deep.DeepHandedRow
import Derived.Lib.LaidTab
namespace Go.Proofs.YtdmaekiejdahoaaDoor.deferralFolds
open Go.ChangeShapes Go.WideShapes Go.ChangeAt Go.RowKit

theorem own : ownKnob Tryd.prog.godebug = none := by kernel_rfl
theorem laidOut : laidOutB Tryd.prog = true := by kernel_rfl
theorem bools : Tryd.f4.resultTypes = #[4] := by kernel_rfl
theorem readable : (Tryd.f4.params.toList.all fun t => Tryd.prog.readableRec t && decide (t < Tryd.prog.types.size)) = true := by kernel_rfl

theorem gTab : Tryd.prog.globalNamed "hotspot/deferral.slots" = some 1 := by kernel_rfl
theorem gtTab : (Tryd.prog.globals[1]?).map (·.type) = some 54 := by kernel_rfl
theorem cnTab : Tryd.prog.cellsOf 54 = 4 := by kernel_rfl
theorem ceTab : Tryd.prog.cellsOf 3 = 1 := by kernel_rfl
theorem flTab : (Rows.deferralFoldsRow.laid.filter fun x => x.1 == "hotspot/deferral.slots") = [("hotspot/deferral.slots", Lib.tabData .i64 [7, 3, 2, 2])] := rfl
theorem tabTab {W : World} (h : laidMetH Tryd.prog Rows.deferralFoldsRow.laid W) : Tab W := by
  have h2 : laidMet Tryd.prog Rows.deferralFoldsRow.laid W := h
  have h3 := h2.filter fun x => x.1 == "hotspot/deferral.slots"
  rw [flTab] at h3
  have t : Lib.TabIs Tryd.prog W "hotspot/deferral.slots" .i64 [7, 3, 2, 2] := Lib.tabIs_of_head (rest := []) gTab gtTab Tryd.underlying54 Tryd.underlying3 ceTab cnTab h3
  exact ⟨t.cell gTab 0 (by decide), t.cell gTab 1 (by decide), t.cell gTab 2 (by decide), t.cell gTab 3 (by decide)⟩
theorem gOth : Tryd.prog.globalNamed "hotspot/hotspotlaw13.other" = some 0 := by kernel_rfl
theorem gtOth : (Tryd.prog.globals[0]?).map (·.type) = some 46 := by kernel_rfl
theorem cnOth : Tryd.prog.cellsOf 46 = 6 := by kernel_rfl
theorem ceOth : Tryd.prog.cellsOf 5 = 1 := by kernel_rfl
theorem flOth : (Rows.deferralFoldsRow.laid.filter fun x => x.1 == "hotspot/hotspotlaw13.other") = [("hotspot/hotspotlaw13.other", Lib.tabData .u8 [2, 0, 0, 0, 0, 9])] := rfl
theorem tabOth {W : World} (h : laidMetH Tryd.prog Rows.deferralFoldsRow.laid W) : Oth W := by
  have h2 : laidMet Tryd.prog Rows.deferralFoldsRow.laid W := h
  have h3 := h2.filter fun x => x.1 == "hotspot/hotspotlaw13.other"
  rw [flOth] at h3
  have t : Lib.TabIs Tryd.prog W "hotspot/hotspotlaw13.other" .u8 [2, 0, 0, 0, 0, 9] := Lib.tabIs_of_head (rest := []) gOth gtOth Tryd.underlying46 Tryd.underlying5 ceOth cnOth h3
  exact ⟨t.cell gOth 0 (by decide), t.cell gOth 1 (by decide), t.cell gOth 2 (by decide), t.cell gOth 3 (by decide), t.cell gOth 4 (by decide), t.cell gOth 5 (by decide)⟩

/-- A WORLD FOR THE WITNESS: the settled one, the tables holding what their initialisers lay. -/
noncomputable def laidWorld (os : Os) : World :=
  { World.holding Tryd.prog os ⟨#[], #[], []⟩ with heap := (((World.holding Tryd.prog os ⟨#[], #[], []⟩).heap.modify 1 fun
      | .cells _ t frozen => .cells #[.int .i64 7, .int .i64 3, .int .i64 2, .int .i64 2] t frozen
      | o => o).modify 0 fun
      | .cells _ t frozen => .cells #[.int .u8 2, .int .u8 0, .int .u8 0, .int .u8 0, .int .u8 0, .int .u8 9] t frozen
      | o => o) }
theorem laid_met (os : Os) : laidMet Tryd.prog Rows.deferralFoldsRow.laid ((laidWorld os).forCall (fun _ _ => 0) ⟨#[], #[.slice none 0 0, .slice none 0 0], []⟩).memory :=
  laidMet_of_run' 8 (by kernel_rfl) (by kernel_rfl)
theorem reads (os : Os) {H : Type} (enc : TypeId × Value → H) : ∃ ds places, DataW.whole enc Tryd.prog ((laidWorld os).forCall (fun _ _ => 0) ⟨#[], #[.slice none 0 0, .slice none 0 0], []⟩).memory Tryd.f4.params.toList Rows.deferralFoldsSpec.vars false (#[.slice none 0 0, .slice none 0 0] : Array Value).toList 8 = some (ds, [], places) :=
  ⟨[.nil, .nil], [], by kernel_rfl⟩

set_option maxRecDepth 100000 in
theorem lifted (os : Os) (started : os.Started) (H : Type) (enc : TypeId × Value → H) (F : Stop.Interp) :
    ReturnsInHanded {} Tryd.checked os 4 .any ((OpenSpec.ofChange Rows.deferralFoldsSpec).preRow enc Tryd.prog Tryd.f4 Rows.deferralFoldsRow.domain false Rows.deferralFoldsRow.laid) (((OpenSpec.ofChange Rows.deferralFoldsSpec).at F).post enc Tryd.prog Tryd.f4 false true false false) := by
  obtain ⟨dd, places, hx⟩ := reads os enc
  refine returnsInHanded_of_row (C := Tryd.checked) (s := OpenSpec.ofChange Rows.deferralFoldsSpec) own started (by kernel_rfl) Tryd.func4
    (witness_row_at (enc := enc) (C := Tryd.checked) false (laidWorld os) #[.slice none 0 0, .slice none 0 0] rfl (by kernel_rfl) (by kernel_rfl) (by kernel_rfl)
      (OpenSpec.preRow_of_cond 8 hx (by kernel_rfl) (fun k hk => by cases hk) (by kernel_rfl) (laid_met os))) ?_
  intro W base args ds gs before hval0 hW _ _ _ hL _ _
  have hval : ∀ (j : Nat) t v, Tryd.f4.params[j]? = some t → args[j]? = some v → Value.okWide Tryd.prog W .any base t v := hval0
  have hW' := hW
  obtain ⟨p, q, hA0, hV, rfl, hfz, hnd⟩ := hW
  have hA : DataW.TrodAll enc Tryd.prog W 0 (fun _ => true) true Tryd.f4.params.toList args.toList ds p := hA0
  rw [Tryd.params4] at hA hval
  obtain ⟨v0, vs0, d0, ds0, p0, q0, hargs, rfl, rfl, h0, r0⟩ := trodAll_cons hA
  obtain ⟨v1, vs1, d1, ds1, p1, q1, rfl, rfl, rfl, h1, r1⟩ := trodAll_cons r0
  obtain ⟨rfl, rfl, rfl⟩ := trodAll_nil r1
  obtain rfl : args = #[v0, v1] := by cases args; simp_all
  obtain ⟨rfl, rfl⟩ := trodVars_none hV
  obtain ⟨n0, he0⟩ := heads_open (okWide_slice Tryd.underlying42 (hval 0 42 v0 rfl rfl)) h0
  obtain ⟨m1, Z1, he1⟩ := gaps_open (okWide_slice Tryd.underlying43 (hval 1 43 v1 rfl rfl)) h1
  refine (walk v0 v1 n0 m1 Z1 W (tabTab hL) (tabOth hL) he0 he1).mono fun e W' ⟨he, hB⟩ => ?_
  subst he
  exact ⟨_, rfl, fr_post laidOut readable rfl bools Tryd.underlying4 hW' rfl hB⟩

theorem said : Rows.DeferralFoldsSaid :=
  OpenClaim.holds_of_cond 4 Tryd.f4 rfl rfl rfl rfl rfl rfl rfl ⟨rfl, rfl, rfl, rfl, rfl⟩ rfl rfl rfl rfl rfl (by kernel_rfl) Tryd.func4 (by kernel_rfl)
    (of_decide_eq_true (by kernel_rfl)) (by unfold Func.isWrapper; first | (rw [if_pos (by decide +kernel)]; kernel_rfl) | (rw [if_neg (by decide +kernel)]; exact ⟨rfl, rfl⟩))
    (fun os started H enc _ F => by rw [OpenClaim.pre_eq_preRow]; exact lifted os started H enc F)

/-- No parameter wants a stand-in; the program's own looks are off. -/
theorem noWants : (Tryd.f4.params.toList.all fun t => !Tryd.prog.wantsStandIn t) = true := by kernel_rfl
theorem plain (f : FuncId) (fn : Func) (hf : Tryd.pinned.checked.prog.funcNamed "hotspot/hotspotlaw13.DeferralFolds" = some f) (hfn : Tryd.pinned.checked.prog.funcs[f]? = some fn) :
    false = Tryd.pinned.checked.prog.looks [] ∧ ∀ (j : Nat) t, fn.params[j]? = some t → Tryd.pinned.checked.prog.wantsStandIn t = false := by
  obtain rfl : f = 4 := Option.some.inj ((show Tryd.prog.funcNamed "hotspot/hotspotlaw13.DeferralFolds" = some 4 by kernel_rfl).symm.trans hf) |>.symm
  obtain rfl : fn = Tryd.f4 := (Option.some.inj (Tryd.func4.symm.trans hfn)).symm
  refine ⟨by kernel_rfl, fun j t ht => ?_⟩
  have h := List.all_eq_true.1 noWants t (by simpa using Array.mem_of_getElem? ht)
  have h2 : Tryd.prog.wantsStandIn t = false := by simpa using h
  exact h2

/-- THE STATEMENT: the tied card. -/
theorem proved : Rows.DeferralFoldsCardSaid :=
  Claim7.holds_tied_plain_at .later [] _ _ _ _ said (fun _ h => by cases h) (by kernel_rfl) (fun _ h => by cases h) deferralFolds_row_tie rfl ⟨rfl, rfl⟩ (by kernel_rfl) rfl plain (by kernel_rfl)
#print axioms proved
end Go.Proofs.YtdmaekiejdahoaaDoor.deferralFolds

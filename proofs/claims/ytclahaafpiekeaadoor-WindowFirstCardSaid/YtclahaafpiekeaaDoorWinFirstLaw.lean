/-
  WindowFirst is proved: the number that First returns is not marked, all before it are, and there is one exactly if not all are marked; for any window and size.
-/
import Derived.Test.YtclahaafpiekeaaDoorWinFirst
import Derived.Test.YtclahaafpiekeaaDoorCards
import Derived.Test.YtclahaafpiekeaaDoorTie
import Derived.Deep.DeepHandedRow
import Derived.Lib.LaidTab
namespace Go.Proofs.YtclahaafpiekeaaDoor.windowFirst
open Go.ChangeShapes Go.WideShapes Go.ChangeAt Go.RowKit

theorem own : ownKnob Tryd.prog.godebug = none := by kernel_rfl
theorem laidOut : laidOutB Tryd.prog = true := by kernel_rfl
theorem bools : Tryd.f7.resultTypes = #[4] := by kernel_rfl
theorem readable : (Tryd.f7.params.toList.all fun t => Tryd.prog.readableRec t && decide (t < Tryd.prog.types.size)) = true := by kernel_rfl

theorem gBru : Tryd.prog.globalNamed "math/bits.deBruijn64tab" = some 0 := by kernel_rfl
theorem gtBru : (Tryd.prog.globals[0]?).map (·.type) = some 42 := by kernel_rfl
theorem cnBru : Tryd.prog.cellsOf 42 = 64 := by kernel_rfl
theorem ceBru : Tryd.prog.cellsOf 5 = 1 := by kernel_rfl
def bruZ : List Int := Lib.deBruijn64tab.map Int.ofNat
theorem bruAt : ∀ j, j < 64 → bruZ.getD j 0 = ((Lib.deBruijn64tab.getD j 0 : Nat) : Int) := by decide +kernel
theorem tabBru {W : World} (h : laidMetH Tryd.prog Rows.windowFirstRow.laid W) : Bru W :=
  have t : Lib.TabIs Tryd.prog W "math/bits.deBruijn64tab" .u8 bruZ := Lib.tabIs_of_head (rest := []) gBru gtBru Tryd.underlying42 Tryd.underlying5 ceBru cnBru h
  fun j hj => (t.cell gBru j hj).trans (by rw [bruAt j hj])

/-- A WORLD FOR THE WITNESS: the settled one, the tables holding what their initialisers lay. -/
noncomputable def laidWorld (os : Os) : World :=
  { World.holding Tryd.prog os ⟨#[], #[], []⟩ with heap := ((World.holding Tryd.prog os ⟨#[], #[], []⟩).heap.modify 0 fun
      | .cells _ t frozen => .cells (bruZ.map fun k => Value.int .u8 k).toArray t frozen
      | o => o) }
theorem laid_met (os : Os) : laidMet Tryd.prog Rows.windowFirstRow.laid ((laidWorld os).forCall (fun _ _ => 0) ⟨#[], #[.agg #[.int .i64 0, .int .u64 0], .int .i64 0], []⟩).memory :=
  laidMet_of_run' 8 (by kernel_rfl) (by kernel_rfl)
theorem reads (os : Os) {H : Type} (enc : TypeId × Value → H) : ∃ ds places, DataW.whole enc Tryd.prog ((laidWorld os).forCall (fun _ _ => 0) ⟨#[], #[.agg #[.int .i64 0, .int .u64 0], .int .i64 0], []⟩).memory Tryd.f7.params.toList Rows.windowFirstSpec.vars false (#[.agg #[.int .i64 0, .int .u64 0], .int .i64 0] : Array Value).toList 8 = some (ds, [], places) :=
  ⟨[.agg [.lit (.int .i64 0), .lit (.int .u64 0)], .lit (.int .i64 0)], [], by kernel_rfl⟩

set_option maxRecDepth 100000 in
theorem lifted (os : Os) (started : os.Started) (H : Type) (enc : TypeId × Value → H) (F : Stop.Interp) :
    ReturnsInHanded {} Tryd.checked os 7 .any ((OpenSpec.ofChange Rows.windowFirstSpec).preRow enc Tryd.prog Tryd.f7 Rows.windowFirstRow.domain false Rows.windowFirstRow.laid) (((OpenSpec.ofChange Rows.windowFirstSpec).at F).post enc Tryd.prog Tryd.f7 false true false false) := by
  obtain ⟨dd, places, hx⟩ := reads os enc
  refine returnsInHanded_of_row (C := Tryd.checked) (s := OpenSpec.ofChange Rows.windowFirstSpec) own started (by kernel_rfl) Tryd.func7
    (witness_row_at (enc := enc) (C := Tryd.checked) false (laidWorld os) #[.agg #[.int .i64 0, .int .u64 0], .int .i64 0] rfl (by kernel_rfl) (by kernel_rfl) (by kernel_rfl)
      (OpenSpec.preRow_of_cond 8 hx (by kernel_rfl) (fun k hk => by cases hk) (by kernel_rfl) (laid_met os))) ?_
  intro W base args ds gs before hval0 hW _ _ _ hL _ _
  have hval : ∀ (j : Nat) t v, Tryd.f7.params[j]? = some t → args[j]? = some v → Value.okWide Tryd.prog W .any base t v := hval0
  have hW' := hW
  obtain ⟨p, q, hA0, hV, rfl, hfz, hnd⟩ := hW
  have hA : DataW.TrodAll enc Tryd.prog W 0 (fun _ => true) true Tryd.f7.params.toList args.toList ds p := hA0
  rw [Tryd.params7] at hA hval
  obtain ⟨v0, vs0, d0, ds0, p0, q0, hargs, rfl, rfl, h0, r0⟩ := trodAll_cons hA
  obtain ⟨v1, vs1, d1, ds1, p1, q1, rfl, rfl, rfl, h1, r1⟩ := trodAll_cons r0
  obtain ⟨rfl, rfl, rfl⟩ := trodAll_nil r1
  obtain rfl : args = #[v0, v1] := by cases args; simp_all
  obtain ⟨rfl, rfl⟩ := trodVars_none hV
  obtain ⟨cs0, rfl, sz0, at0⟩ := fr_cells (ts := [3, 25]) (.inl ⟨_, Tryd.underlying27⟩) (by kernel_rfl) (by kernel_rfl) (hval 0 27 v0 rfl rfl)
  obtain ⟨c0_0, c0_1, rfl⟩ := fr_agg2 cs0 (by simpa using sz0)
  obtain ⟨u, hu, hk⟩ := at0 0 _ rfl
  obtain rfl := Option.some.inj hu
  obtain ⟨a0_0, rfl, b0_0⟩ := fr_cell_int Tryd.underlying3 hk
  obtain ⟨u, hu, hk⟩ := at0 1 _ rfl
  obtain rfl := Option.some.inj hu
  obtain ⟨a0_1, rfl, b0_1⟩ := fr_cell_int Tryd.underlying25 hk
  have l0_1 := fr_u64 b0_1
  obtain ⟨n0_1, rfl⟩ := Int.eq_ofNat_of_zero_le l0_1.1
  clear at0
  obtain ⟨a1, rfl, b1⟩ := fr_int Tryd.underlying3 (hval 1 3 v1 rfl rfl)
  refine (walk a0_0 n0_1 a1 (by have := l0_1.2; omega) W (tabBru hL)).mono fun e W' ⟨he, hB⟩ => ?_
  subst he
  exact ⟨_, rfl, fr_post laidOut readable rfl bools Tryd.underlying4 hW' rfl hB⟩

theorem said : Rows.WindowFirstSaid :=
  OpenClaim.holds_of_cond 7 Tryd.f7 rfl rfl rfl rfl rfl rfl rfl ⟨rfl, rfl, rfl, rfl, rfl⟩ rfl rfl rfl rfl rfl (by kernel_rfl) Tryd.func7 (by kernel_rfl)
    (of_decide_eq_true (by kernel_rfl)) (by unfold Func.isWrapper; first | (rw [if_pos (by decide +kernel)]; kernel_rfl) | (rw [if_neg (by decide +kernel)]; exact ⟨rfl, rfl⟩))
    (fun os started H enc _ F => by rw [OpenClaim.pre_eq_preRow]; exact lifted os started H enc F)

/-- No parameter wants a stand-in; the program's own looks are off. -/
theorem noWants : (Tryd.f7.params.toList.all fun t => !Tryd.prog.wantsStandIn t) = true := by kernel_rfl
theorem plain (f : FuncId) (fn : Func) (hf : Tryd.pinned.checked.prog.funcNamed "hotspot/hotspotlaw17.WindowFirst" = some f) (hfn : Tryd.pinned.checked.prog.funcs[f]? = some fn) :
    false = Tryd.pinned.checked.prog.looks [] ∧ ∀ (j : Nat) t, fn.params[j]? = some t → Tryd.pinned.checked.prog.wantsStandIn t = false := by
  obtain rfl : f = 7 := Option.some.inj ((show Tryd.prog.funcNamed "hotspot/hotspotlaw17.WindowFirst" = some 7 by kernel_rfl).symm.trans hf) |>.symm
  obtain rfl : fn = Tryd.f7 := (Option.some.inj (Tryd.func7.symm.trans hfn)).symm
  refine ⟨by kernel_rfl, fun j t ht => ?_⟩
  have h := List.all_eq_true.1 noWants t (by simpa using Array.mem_of_getElem? ht)
  have h2 : Tryd.prog.wantsStandIn t = false := by simpa using h
  exact h2

/-- THE STATEMENT: the tied card. -/
theorem proved : Rows.WindowFirstCardSaid :=
  Claim7.holds_tied_plain_at .later [] _ _ _ _ said (fun _ h => by cases h) (by kernel_rfl) (fun _ h => by cases h) windowFirst_row_tie rfl ⟨rfl, rfl⟩ (by kernel_rfl) rfl plain (by kernel_rfl)
#print axioms proved
end Go.Proofs.YtclahaafpiekeaaDoor.windowFirst

/-
  DeferralHears is proved: Heard returns what the reference returns; for every allocation, address, header and times. No condition.
-/
import Derived.Test.YtdmaekiejdahoaaDefHears
namespace Go.Proofs.Ytdmaekiejdahoaa.deferralHears
open Go.ChangeShapes Go.WideShapes Go.ChangeAt Go.RowKit

theorem own : ownKnob Try.prog.godebug = none := by kernel_rfl
theorem laidOut : laidOutB Try.prog = true := by kernel_rfl
theorem bools : Try.f3.resultTypes = #[4] := by kernel_rfl
theorem readable : (Try.f3.params.toList.all fun t => Try.prog.readableRec t && decide (t < Try.prog.types.size)) = true := by kernel_rfl

set_option maxRecDepth 100000 in
theorem lifted (os : Os) (started : os.Started) (H : Type) (enc : TypeId × Value → H) :
    ReturnsInHanded {} Try.checked os 3 .any (Rows.deferralHearsSpec.pre6 enc Try.prog Try.f3 Rows.deferralHearsRow.domain false) (Rows.deferralHearsSpec.post enc Try.prog Try.f3 false true false false) := by
  refine returnsInHanded_of_change (C := Try.checked) own started (by kernel_rfl) Try.func3
    (ChangeSpec.witness6 (enc := enc) (C := Try.checked) false ⟨#[], #[.agg #[.int .i64 0, .int .i64 0], .agg #[.int .u8 0, .int .u8 0, .int .u8 0, .int .u8 0, .int .u8 0, .int .u8 0], .agg #[.int .u8 0, .int .u8 0, .bool false, .bool false, .bool false, .bool false, .bool false, .bool false, .bool false, .int .i64 0, .int .u8 0, .int .u8 0, .int .u8 0, .int .u8 0, .int .u8 0, .int .u8 0, .int .u8 0, .int .u8 0, .int .u8 0, .int .u8 0, .int .u8 0, .int .u8 0, .int .u8 0, .int .u8 0, .int .u8 0, .int .u8 0, .int .u8 0, .int .u8 0, .int .u8 0, .int .u8 0, .int .u8 0, .int .u8 0, .int .u8 0, .int .u8 0, .int .i64 0, .int .i64 0, .int .i64 0, .int .u8 0, .bool false, .bool false], .int .i64 0, .int .i64 0], []⟩ 8 (by kernel_rfl) (by kernel_rfl) (by kernel_rfl) (by kernel_rfl)) ?_
  intro W base args ds gs before hval0 hW _ _
  have hval : ∀ (j : Nat) t v, Try.f3.params[j]? = some t → args[j]? = some v → Value.okWide Try.prog W .any base t v := hval0
  have hW' := hW
  obtain ⟨p, q, hA0, hV, rfl, hfz, hnd⟩ := hW
  have hA : DataW.TrodAll enc Try.prog W 0 (fun _ => true) true Try.f3.params.toList args.toList ds p := hA0
  rw [Try.params3] at hA hval
  obtain ⟨v0, vs0, d0, ds0, p0, q0, hargs, rfl, rfl, h0, r0⟩ := trodAll_cons hA
  obtain ⟨v1, vs1, d1, ds1, p1, q1, rfl, rfl, rfl, h1, r1⟩ := trodAll_cons r0
  obtain ⟨v2, vs2, d2, ds2, p2, q2, rfl, rfl, rfl, h2, r2⟩ := trodAll_cons r1
  obtain ⟨v3, vs3, d3, ds3, p3, q3, rfl, rfl, rfl, h3, r3⟩ := trodAll_cons r2
  obtain ⟨v4, vs4, d4, ds4, p4, q4, rfl, rfl, rfl, h4, r4⟩ := trodAll_cons r3
  obtain ⟨rfl, rfl, rfl⟩ := trodAll_nil r4
  obtain rfl : args = #[v0, v1, v2, v3, v4] := by cases args; simp_all
  obtain ⟨rfl, rfl⟩ := trodVars_none hV
  obtain ⟨cs0, rfl, sz0, at0⟩ := fr_cells (ts := [3, 3]) (.inl ⟨_, Try.underlying23⟩) (by kernel_rfl) (by kernel_rfl) (hval 0 23 v0 rfl rfl)
  obtain ⟨c0_0, c0_1, rfl⟩ := fr_agg2 cs0 (by simpa using sz0)
  obtain ⟨u, hu, hk⟩ := at0 0 _ rfl
  obtain rfl := Option.some.inj hu
  obtain ⟨a0_0, rfl, b0_0⟩ := fr_cell_int Try.underlying3 hk
  obtain ⟨u, hu, hk⟩ := at0 1 _ rfl
  obtain rfl := Option.some.inj hu
  obtain ⟨a0_1, rfl, b0_1⟩ := fr_cell_int Try.underlying3 hk
  clear at0
  obtain ⟨cs1, rfl, sz1, at1⟩ := fr_cells (ts := [5, 5, 5, 5, 5, 5]) (.inr ⟨_, _, Try.underlying25⟩) (by kernel_rfl) (by kernel_rfl) (hval 1 25 v1 rfl rfl)
  obtain ⟨c1_0, c1_1, c1_2, c1_3, c1_4, c1_5, rfl⟩ := fr_agg6 cs1 (by simpa using sz1)
  obtain ⟨u, hu, hk⟩ := at1 0 _ rfl
  obtain rfl := Option.some.inj hu
  obtain ⟨a1_0, rfl, b1_0⟩ := fr_cell_int Try.underlying5 hk
  obtain ⟨u, hu, hk⟩ := at1 1 _ rfl
  obtain rfl := Option.some.inj hu
  obtain ⟨a1_1, rfl, b1_1⟩ := fr_cell_int Try.underlying5 hk
  obtain ⟨u, hu, hk⟩ := at1 2 _ rfl
  obtain rfl := Option.some.inj hu
  obtain ⟨a1_2, rfl, b1_2⟩ := fr_cell_int Try.underlying5 hk
  obtain ⟨u, hu, hk⟩ := at1 3 _ rfl
  obtain rfl := Option.some.inj hu
  obtain ⟨a1_3, rfl, b1_3⟩ := fr_cell_int Try.underlying5 hk
  obtain ⟨u, hu, hk⟩ := at1 4 _ rfl
  obtain rfl := Option.some.inj hu
  obtain ⟨a1_4, rfl, b1_4⟩ := fr_cell_int Try.underlying5 hk
  obtain ⟨u, hu, hk⟩ := at1 5 _ rfl
  obtain rfl := Option.some.inj hu
  obtain ⟨a1_5, rfl, b1_5⟩ := fr_cell_int Try.underlying5 hk
  clear at1
  obtain ⟨cs2, rfl, sz2, at2⟩ := fr_cells (ts := [5, 5, 4, 4, 4, 4, 4, 4, 4, 3, 5, 5, 5, 5, 5, 5, 5, 5, 5, 5, 5, 5, 5, 5, 5, 5, 5, 5, 5, 5, 5, 5, 5, 5, 3, 3, 3, 5, 4, 4]) (.inl ⟨_, Try.underlying27⟩) (by kernel_rfl) (by kernel_rfl) (hval 2 27 v2 rfl rfl)
  obtain ⟨a2_0, k2_0, b2_0⟩ := fr_at_int sz2 at2 0 5 rfl Try.underlying5
  obtain ⟨a2_1, k2_1, b2_1⟩ := fr_at_int sz2 at2 1 5 rfl Try.underlying5
  obtain ⟨a2_9, k2_9, b2_9⟩ := fr_at_int sz2 at2 9 3 rfl Try.underlying3
  obtain ⟨a2_10, k2_10, b2_10⟩ := fr_at_int sz2 at2 10 5 rfl Try.underlying5
  obtain ⟨a2_11, k2_11, b2_11⟩ := fr_at_int sz2 at2 11 5 rfl Try.underlying5
  obtain ⟨a2_12, k2_12, b2_12⟩ := fr_at_int sz2 at2 12 5 rfl Try.underlying5
  obtain ⟨a2_13, k2_13, b2_13⟩ := fr_at_int sz2 at2 13 5 rfl Try.underlying5
  obtain ⟨a2_14, k2_14, b2_14⟩ := fr_at_int sz2 at2 14 5 rfl Try.underlying5
  obtain ⟨a2_15, k2_15, b2_15⟩ := fr_at_int sz2 at2 15 5 rfl Try.underlying5
  clear at2
  obtain ⟨a3, rfl, b3⟩ := fr_int Try.underlying3 (hval 3 3 v3 rfl rfl)
  obtain ⟨a4, rfl, b4⟩ := fr_int Try.underlying3 (hval 4 3 v4 rfl rfl)
  refine (walk a0_0 a0_1 a1_0 a1_1 a1_2 a1_3 a1_4 a1_5 cs2 a2_0 a2_1 a2_9 a2_10 a2_11 a2_12 a2_13 a2_14 a2_15 a3 a4 ⟨sz2, k2_0, k2_1, k2_9, k2_10, k2_11, k2_12, k2_13, k2_14, k2_15⟩ (fr_u8 b2_10) (fr_u8 b2_11) (fr_u8 b2_12) (fr_u8 b2_13) (fr_u8 b2_14) (fr_u8 b2_15) (fr_u8 b1_0) (fr_u8 b1_1) (fr_u8 b1_2) (fr_u8 b1_3) (fr_u8 b1_4) (fr_u8 b1_5) sz2 W).mono fun e W' ⟨he, hB⟩ => ?_
  subst he
  exact ⟨_, rfl, fr_post laidOut readable rfl bools Try.underlying4 hW' rfl hB⟩

theorem over : Rows.deferralHearsRow.holds Try.pinned (OpenSpec.ofChange Rows.deferralHearsSpec) :=
  OpenClaim.holds_of_wide 3 Try.f3 rfl rfl rfl rfl rfl rfl rfl ⟨rfl, rfl, rfl, rfl, rfl⟩ rfl rfl rfl rfl rfl (by kernel_rfl) Try.func3 (by kernel_rfl)
    (of_decide_eq_true (by kernel_rfl)) (by unfold Func.isWrapper; first | (rw [if_pos (by decide +kernel)]; kernel_rfl) | (rw [if_neg (by decide +kernel)]; exact ⟨rfl, rfl⟩))
    (fun os started H enc _ => lifted os started H enc)

/-- THE STATEMENT. -/
theorem proved : Rows.DeferralHearsSaid := over
#print axioms proved
end Go.Proofs.Ytdmaekiejdahoaa.deferralHears

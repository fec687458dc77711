/-
  The plain course of PeerLosses: whatever opens and confirms are lost, both ends become Up.
-/
import Derived.Test.YtmighkgjbohieaaPeerAux
set_option linter.unusedVariables false
set_option linter.unusedSimpArgs false
namespace Go.Proofs.Ytmighkgjbohieaa
open Go.ChangeShapes Go.WideShapes Go.ChangeAt Go.RowKit Go.Great

/-- The first message of X is delivered to L, and what L answers to K. -/
def DelA (now : Int) (K L : Lk) (X : List (List Int)) (K1 L1 : Lk) : Prop :=
  ∃ m0 m1, X = [m0] ∧ MsgOk m0 ∧ MsgOk m1 ∧ pHandle L m0 now = (L1, [m1], 0) ∧ pHandle K m1 now = (K1, [], 0)
/-- The rounds that are left end well. -/
def GoW (mine his : Int) : Nat → Nat → Int → Lk → Lk → List (List Int) → List (List Int) → Prop
  | 0, _, _, _, _, _, _ => False
  | f + 1, i, now, K, L, X, Y => ∃ K1 L1 K2 L2 : Lk, ((i : Int) = mine → DelA now K L X K1 L1) ∧ ((i : Int) ≠ mine → K1 = K ∧ L1 = L) ∧ ((i : Int) = his → DelA now L1 K1 Y L2 K2) ∧ ((i : Int) ≠ his → K2 = K1 ∧ L2 = L1) ∧
      ((mine ≤ i ∧ his ≤ i ∧ pairedB K2 L2 = true) ∨ (¬ (mine ≤ i ∧ his ≤ i) ∧ ∃ (K3 L3 : Lk) (X3 Y3 : List (List Int)), pTick K2 (now + 40000) = (K3, X3, 0) ∧ pTick L2 (now + 40000) = (L3, Y3, 0) ∧
        ((i : Int) < mine → X3 ≠ []) ∧ ((i : Int) < his → Y3 ≠ []) ∧ GoW mine his f (i + 1) (now + 40000) K3 L3 X3 Y3))
section
variable {id other now : Int}
theorem a_again1 {tr du : Int} (hi : 1 ≤ id ∧ id ≤ 65535) (ho : 1 ≤ other ∧ other ≤ 65535) (n0 : 0 ≤ now) (n1 : now ≤ 1000000000) (ht : 1 ≤ tr ∧ tr ≤ 2) (hd : 1 ≤ du ∧ du ≤ now) : pTick (LA 1 id 0 tr du) now = (LA 1 id 0 (tr + 1) (now + 40000), [msgOf 1 id 0], 0) := by
  rw [pTick, guard_ok (LA_chk (shape1 rfl rfl (show 1 ≤ tr ∧ tr ≤ 3 by omega) (show 1 ≤ du ∧ du ≤ 1099511667776 by omega)) hi) (tin_of n0 n1), if_neg (by show ¬ (du = 0 ∨ now < du); omega), if_neg (by show ¬ (1 : Int) = 5; decide), if_neg (by show ¬ (tr = 3); omega), if_neg (by show ¬ (1 : Int) = 3; decide)]
  rfl
theorem a_again2 {tr du : Int} (hi : 1 ≤ id ∧ id ≤ 65535) (ho : 1 ≤ other ∧ other ≤ 65535) (n0 : 0 ≤ now) (n1 : now ≤ 1000000000) (ht : 1 ≤ tr ∧ tr ≤ 2) (hd : 1 ≤ du ∧ du ≤ now) : pTick (LA 2 id other tr du) now = (LA 2 id other (tr + 1) (now + 40000), [msgOf 1 id 0], 0) := by
  rw [pTick, guard_ok (LA_chk (shape2 rfl ho (show 1 ≤ tr ∧ tr ≤ 3 by omega) (show 1 ≤ du ∧ du ≤ 1099511667776 by omega)) hi) (tin_of n0 n1), if_neg (by show ¬ (du = 0 ∨ now < du); omega), if_neg (by show ¬ (2 : Int) = 5; decide), if_neg (by show ¬ (tr = 3); omega), if_neg (by show ¬ (2 : Int) = 3; decide)]
  rfl
theorem a_again3 {tr du : Int} (hi : 1 ≤ id ∧ id ≤ 65535) (ho : 1 ≤ other ∧ other ≤ 65535) (n0 : 0 ≤ now) (n1 : now ≤ 1000000000) (ht : 1 ≤ tr ∧ tr ≤ 2) (hd : 1 ≤ du ∧ du ≤ now) : pTick (LA 3 id other tr du) now = (LA 3 id other (tr + 1) (now + 40000), [], 0) := by
  rw [pTick, guard_ok (LA_chk (shape3 rfl ho (show 1 ≤ tr ∧ tr ≤ 3 by omega) (show 1 ≤ du ∧ du ≤ 1099511667776 by omega)) hi) (tin_of n0 n1), if_neg (by show ¬ (du = 0 ∨ now < du); omega), if_neg (by show ¬ (3 : Int) = 5; decide), if_neg (by show ¬ (tr = 3); omega), if_pos (by rfl)]
  rfl
theorem b_again1 {tr du : Int} (hi : 1 ≤ id ∧ id ≤ 65535) (ho : 1 ≤ other ∧ other ≤ 65535) (n0 : 0 ≤ now) (n1 : now ≤ 1000000000) (ht : 1 ≤ tr ∧ tr ≤ 2) (hd : 1 ≤ du ∧ du ≤ now) : pTick (LB 1 other 0 tr du) now = (LB 1 other 0 (tr + 1) (now + 40000), [msgOf 1 other 0], 0) := by
  rw [pTick, guard_ok (LB_chk (shape1 rfl rfl (show 1 ≤ tr ∧ tr ≤ 3 by omega) (show 1 ≤ du ∧ du ≤ 1099511667776 by omega)) ho) (tin_of n0 n1), if_neg (by show ¬ (du = 0 ∨ now < du); omega), if_neg (by show ¬ (1 : Int) = 5; decide), if_neg (by show ¬ (tr = 3); omega), if_neg (by show ¬ (1 : Int) = 3; decide)]
  rfl
theorem b_again2 {tr du : Int} (hi : 1 ≤ id ∧ id ≤ 65535) (ho : 1 ≤ other ∧ other ≤ 65535) (n0 : 0 ≤ now) (n1 : now ≤ 1000000000) (ht : 1 ≤ tr ∧ tr ≤ 2) (hd : 1 ≤ du ∧ du ≤ now) : pTick (LB 2 other id tr du) now = (LB 2 other id (tr + 1) (now + 40000), [msgOf 1 other 0], 0) := by
  rw [pTick, guard_ok (LB_chk (shape2 rfl hi (show 1 ≤ tr ∧ tr ≤ 3 by omega) (show 1 ≤ du ∧ du ≤ 1099511667776 by omega)) ho) (tin_of n0 n1), if_neg (by show ¬ (du = 0 ∨ now < du); omega), if_neg (by show ¬ (2 : Int) = 5; decide), if_neg (by show ¬ (tr = 3); omega), if_neg (by show ¬ (2 : Int) = 3; decide)]
  rfl
theorem b_again3 {tr du : Int} (hi : 1 ≤ id ∧ id ≤ 65535) (ho : 1 ≤ other ∧ other ≤ 65535) (n0 : 0 ≤ now) (n1 : now ≤ 1000000000) (ht : 1 ≤ tr ∧ tr ≤ 2) (hd : 1 ≤ du ∧ du ≤ now) : pTick (LB 3 other id tr du) now = (LB 3 other id (tr + 1) (now + 40000), [], 0) := by
  rw [pTick, guard_ok (LB_chk (shape3 rfl hi (show 1 ≤ tr ∧ tr ≤ 3 by omega) (show 1 ≤ du ∧ du ≤ 1099511667776 by omega)) ho) (tin_of n0 n1), if_neg (by show ¬ (du = 0 ∨ now < du); omega), if_neg (by show ¬ (3 : Int) = 5; decide), if_neg (by show ¬ (tr = 3); omega), if_pos (by rfl)]
  rfl
end
theorem del_m1 {id other now tr du : Int} (hi : 1 ≤ id ∧ id ≤ 65535) (ho : 1 ≤ other ∧ other ≤ 65535) (n0 : 0 ≤ now) (n1 : now ≤ 1000000000) (ht : 1 ≤ tr ∧ tr ≤ 3) (hd : 1 ≤ du ∧ du ≤ 1099511667776) : DelA now (LA 1 id 0 tr du) (LB 1 other 0 tr du) [msgOf 1 id 0] (LA 3 id other 1 (now + 40000)) (LB 2 other id 1 (now + 40000)) :=
  ⟨_, msgOf 2 other id, rfl, msgOf_ok _ _ _ (by decide), msgOf_ok _ _ _ (by decide), b_open1 hi ho n0 n1 ht hd, a_conf1 hi ho n0 n1 ht hd⟩
theorem del_h1 {id other now tr du : Int} (hi : 1 ≤ id ∧ id ≤ 65535) (ho : 1 ≤ other ∧ other ≤ 65535) (n0 : 0 ≤ now) (n1 : now ≤ 1000000000) (ht : 1 ≤ tr ∧ tr ≤ 3) (hd : 1 ≤ du ∧ du ≤ 1099511667776) : DelA now (LB 1 other 0 tr du) (LA 1 id 0 tr du) [msgOf 1 other 0] (LB 3 other id 1 (now + 40000)) (LA 2 id other 1 (now + 40000)) :=
  ⟨_, msgOf 2 id other, rfl, msgOf_ok _ _ _ (by decide), msgOf_ok _ _ _ (by decide), a_open1 hi ho n0 n1 ht hd, b_conf1 hi ho n0 n1 ht hd⟩
theorem del_h2 {id other now tr du : Int} (hi : 1 ≤ id ∧ id ≤ 65535) (ho : 1 ≤ other ∧ other ≤ 65535) (n0 : 0 ≤ now) (n1 : now ≤ 1000000000) (ht : 1 ≤ tr ∧ tr ≤ 3) (hd : 1 ≤ du ∧ du ≤ 1099511667776) : DelA now (LB 2 other id tr du) (LA 3 id other tr du) [msgOf 1 other 0] (LB 4 other id 0 0) (LA 4 id other 0 0) :=
  ⟨_, msgOf 2 id other, rfl, msgOf_ok _ _ _ (by decide), msgOf_ok _ _ _ (by decide), a_open3 hi ho n0 n1 ht hd, b_conf2 hi ho n0 n1 ht hd⟩
theorem del_m2 {id other now tr du : Int} (hi : 1 ≤ id ∧ id ≤ 65535) (ho : 1 ≤ other ∧ other ≤ 65535) (n0 : 0 ≤ now) (n1 : now ≤ 1000000000) (ht : 1 ≤ tr ∧ tr ≤ 3) (hd : 1 ≤ du ∧ du ≤ 1099511667776) : DelA now (LA 2 id other tr du) (LB 3 other id tr du) [msgOf 1 id 0] (LA 4 id other 0 0) (LB 4 other id 0 0) :=
  ⟨_, msgOf 2 other id, rfl, msgOf_ok _ _ _ (by decide), msgOf_ok _ _ _ (by decide), b_open3 hi ho n0 n1 ht hd, a_conf2 hi ho n0 n1 ht hd⟩
/-- The confirm of the first end's open has come through; the second end's open is still on its way. -/
theorem ph1 {id other mine his : Int} (hi : 1 ≤ id ∧ id ≤ 65535) (ho : 1 ≤ other ∧ other ≤ 65535) (hm : 0 ≤ mine ∧ mine ≤ 2) (hh : 0 ≤ his ∧ his ≤ 2) : ∀ (f i : Nat) (now t : Int), i + f = 3 → mine < i → (i : Int) ≤ his → (1 ≤ t ∧ t ≤ (i : Int) + 1) → (0 ≤ now ∧ now ≤ 40000 * (i : Int)) → GoW mine his f i now (LA 3 id other t (now + 40000)) (LB 2 other id t (now + 40000)) [] [msgOf 1 other 0]
  | 0, i, now, t, hf, h1, h2, ht, hn => by omega
  | f + 1, i, now, t, hf, h1, h2, ht, hn => by
    have n1 : now ≤ 1000000000 := by omega
    by_cases hq : (i : Int) = his
    · exact ⟨_, _, _, _, fun h => by omega, fun _ => ⟨rfl, rfl⟩, fun _ => del_h2 hi ho hn.1 n1 (by omega) (by omega), fun h => absurd hq h, .inl ⟨by omega, by omega, pair_up⟩⟩
    · exact ⟨_, _, _, _, fun h => by omega, fun _ => ⟨rfl, rfl⟩, fun h => absurd h hq, fun _ => ⟨rfl, rfl⟩, .inr ⟨by omega, _, _, _, _, a_again3 hi ho (by omega) (by omega) (by omega) (by omega), b_again2 hi ho (by omega) (by omega) (by omega) (by omega), fun h => by omega, fun _ => List.cons_ne_nil _ _, ph1 hi ho hm hh f (i + 1) (now + 40000) (t + 1) (by omega) (by omega) (by omega) (by omega) (by omega)⟩⟩
/-- The other way round. -/
theorem ph2 {id other mine his : Int} (hi : 1 ≤ id ∧ id ≤ 65535) (ho : 1 ≤ other ∧ other ≤ 65535) (hm : 0 ≤ mine ∧ mine ≤ 2) (hh : 0 ≤ his ∧ his ≤ 2) : ∀ (f i : Nat) (now t : Int), i + f = 3 → his < i → (i : Int) ≤ mine → (1 ≤ t ∧ t ≤ (i : Int) + 1) → (0 ≤ now ∧ now ≤ 40000 * (i : Int)) → GoW mine his f i now (LA 2 id other t (now + 40000)) (LB 3 other id t (now + 40000)) [msgOf 1 id 0] []
  | 0, i, now, t, hf, h1, h2, ht, hn => by omega
  | f + 1, i, now, t, hf, h1, h2, ht, hn => by
    have n1 : now ≤ 1000000000 := by omega
    by_cases hq : (i : Int) = mine
    · exact ⟨_, _, _, _, fun _ => del_m2 hi ho hn.1 n1 (by omega) (by omega), fun h => absurd hq h, fun h => by omega, fun _ => ⟨rfl, rfl⟩, .inl ⟨by omega, by omega, pair_up⟩⟩
    · exact ⟨_, _, _, _, fun h => absurd h hq, fun _ => ⟨rfl, rfl⟩, fun h => by omega, fun _ => ⟨rfl, rfl⟩, .inr ⟨by omega, _, _, _, _, a_again2 hi ho (by omega) (by omega) (by omega) (by omega), b_again3 hi ho (by omega) (by omega) (by omega) (by omega), fun _ => List.cons_ne_nil _ _, fun h => by omega, ph2 hi ho hm hh f (i + 1) (now + 40000) (t + 1) (by omega) (by omega) (by omega) (by omega) (by omega)⟩⟩
/-- No open has come through yet. -/
theorem ph0 {id other mine his : Int} (hi : 1 ≤ id ∧ id ≤ 65535) (ho : 1 ≤ other ∧ other ≤ 65535) (hm : 0 ≤ mine ∧ mine ≤ 2) (hh : 0 ≤ his ∧ his ≤ 2) : ∀ (f i : Nat) (now : Int), i + f = 3 → (i : Int) ≤ mine → (i : Int) ≤ his → (0 ≤ now ∧ now ≤ 40000 * (i : Int)) → GoW mine his f i now (LA 1 id 0 ((i : Int) + 1) (now + 40000)) (LB 1 other 0 ((i : Int) + 1) (now + 40000)) [msgOf 1 id 0] [msgOf 1 other 0]
  | 0, i, now, hf, h1, h2, hn => by omega
  | f + 1, i, now, hf, h1, h2, hn => by
    have n1 : now ≤ 1000000000 := by omega
    by_cases hq : (i : Int) = mine
    · have hd := del_m1 (id := id) (other := other) (now := now) (tr := (i : Int) + 1) (du := now + 40000) hi ho hn.1 n1 (by omega) (by omega)
      by_cases hr : (i : Int) = his
      · exact ⟨_, _, _, _, fun _ => hd, fun h => absurd hq h, fun _ => del_h2 hi ho hn.1 n1 (by omega) (by omega), fun h => absurd hr h, .inl ⟨by omega, by omega, pair_up⟩⟩
      · exact ⟨_, _, _, _, fun _ => hd, fun h => absurd hq h, fun h => absurd h hr, fun _ => ⟨rfl, rfl⟩, .inr ⟨by omega, _, _, _, _, a_again3 hi ho (by omega) (by omega) (by omega) (by omega), b_again2 hi ho (by omega) (by omega) (by omega) (by omega), fun h => by omega, fun _ => List.cons_ne_nil _ _, ph1 hi ho hm hh f (i + 1) (now + 40000) (1 + 1) (by omega) (by omega) (by omega) (by omega) (by omega)⟩⟩
    · by_cases hr : (i : Int) = his
      · exact ⟨_, _, _, _, fun h => absurd h hq, fun _ => ⟨rfl, rfl⟩, fun _ => del_h1 hi ho hn.1 n1 (by omega) (by omega), fun h => absurd hr h, .inr ⟨by omega, _, _, _, _, a_again2 hi ho (by omega) (by omega) (by omega) (by omega), b_again3 hi ho (by omega) (by omega) (by omega) (by omega), fun _ => List.cons_ne_nil _ _, fun h => by omega, ph2 hi ho hm hh f (i + 1) (now + 40000) (1 + 1) (by omega) (by omega) (by omega) (by omega) (by omega)⟩⟩
      · exact ⟨_, _, _, _, fun h => absurd h hq, fun _ => ⟨rfl, rfl⟩, fun h => absurd h hr, fun _ => ⟨rfl, rfl⟩, .inr ⟨by omega, _, _, _, _, a_again1 hi ho (by omega) (by omega) (by omega) (by omega), b_again1 hi ho (by omega) (by omega) (by omega) (by omega), fun _ => List.cons_ne_nil _ _, fun _ => List.cons_ne_nil _ _, by have h := ph0 hi ho hm hh f (i + 1) (now + 40000) (by omega) (by omega) (by omega) (by omega); rw [show ((i + 1 : Nat) : Int) = (i : Int) + 1 from rfl] at h; exact h⟩⟩
theorem go_all {id other mine his : Int} (hi : 1 ≤ id ∧ id ≤ 65535) (ho : 1 ≤ other ∧ other ≤ 65535) (hm : 0 ≤ mine ∧ mine ≤ 2) (hh : 0 ≤ his ∧ his ≤ 2) : GoW mine his 3 0 0 (LA 1 id 0 1 (0 + 40000)) (LB 1 other 0 1 (0 + 40000)) [msgOf 1 id 0] [msgOf 1 other 0] := ph0 hi ho hm hh 3 0 0 rfl hm.1 hh.1 (by decide)
end Go.Proofs.Ytmighkgjbohieaa

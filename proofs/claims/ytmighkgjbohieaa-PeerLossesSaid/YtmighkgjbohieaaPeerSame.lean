/-
  The contract of the reference's Same: are two lists of messages the same?
-/
import Derived.Test.YtmighkgjbohieaaPeerNew
import Derived.Deep.LoopGhost
set_option linter.unusedVariables false
set_option linter.unusedSimpArgs false
namespace Go.Proofs.Ytmighkgjbohieaa
open Go.ChangeShapes Go.WideShapes Go.ChangeAt Go.RowKit Go.Great

/-- v is a list of byte slices that read as ms. -/
def ListIn (w : World) (v : Value) (ms : List (List Int)) : Prop :=
  ∃ ao cap, v = .slice ao ms.length cap ∧ ms.length ≤ cap ∧ ms.length ≤ maxLen ∧ (ms ≠ [] → ∃ b o, ao = some ⟨b, o, none⟩ ∧ ∀ (i : Nat) (m : List Int), ms[i]? = some m → m.length ≤ maxLen ∧ ∃ x, w.cell? ⟨b, o + i, none⟩ = some x ∧ MsgIn w x m)
theorem MsgIn.below {w w' : World} {v : Value} {m : List Int} (h : MsgIn w v m) (hb : Below w.heap.size w w') : MsgIn w' v m := by
  obtain ⟨ao, cap, rfl, h1, h2, h3⟩ := h
  refine ⟨ao, cap, rfl, h1, h2, fun hm => ?_⟩
  obtain ⟨mb, mo, e, hc⟩ := h3 hm
  exact ⟨mb, mo, e, fun i x hi => below_kept hb (hc i x hi)⟩
theorem ListIn.below {w w' : World} {v : Value} {ms : List (List Int)} (h : ListIn w v ms) (hb : Below w.heap.size w w') : ListIn w' v ms := by
  obtain ⟨ao, cap, rfl, h1, h1', h3⟩ := h
  refine ⟨ao, cap, rfl, h1, h1', fun hm => ?_⟩
  obtain ⟨b, o, e, hc⟩ := h3 hm
  refine ⟨b, o, e, fun i m hi => ?_⟩
  obtain ⟨hl, x, hx, hmm⟩ := hc i m hi
  exact ⟨hl, x, below_kept hb hx, hmm.below hb⟩
theorem ext_all {α : Type} {a b : List α} (hl : a.length = b.length) (h : ∀ j, j < a.length → a[j]? = b[j]?) : a = b := by
  apply List.ext_getElem? 
  intro i
  by_cases hi : i < a.length
  · exact h i hi
  · rw [List.getElem?_eq_none (by omega), List.getElem?_eq_none (by omega)]
theorem same_len (ms1 ms2 : List (List Int)) (ao1 ao2 : Option Addr) (c1 c2 : Nat) (hne : ((ms1.length : Int) != (ms2.length : Int)) = true) (w : World) : Calls Try.prog 22 #[.slice ao1 ms1.length c1, .slice ao2 ms2.length c2] w fun e w' => e = .returned (.bool false) ∧ Below w.heap.size w w' := by
  generalize ms1.length = n1 at *
  generalize ms2.length = n2 at *
  go_enter Try.func22, Try.ntmps22
  go_wp2
  go_ret
  exact ⟨rfl, Below.refl _ _⟩
/-- What a round reads: the two messages number i. -/
def Two (w : World) (b1 o1 b2 o2 i : Nat) (m1 m2 : List Int) : Prop :=
  ∃ a1 a2 c1 c2, w.cell? ⟨b1, o1 + i, none⟩ = some (.slice a1 m1.length c1) ∧ w.cell? ⟨b2, o2 + i, none⟩ = some (.slice a2 m2.length c2) ∧ m1.length ≤ c1 ∧ m2.length ≤ c2 ∧ m1.length ≤ maxLen ∧ m2.length ≤ maxLen ∧
    (m1 ≠ [] → ∃ mb mo, a1 = some ⟨mb, mo, none⟩ ∧ ∀ (j : Nat) (x : Int), m1[j]? = some x → w.cell? ⟨mb, mo + j, none⟩ = some (.int .u8 x)) ∧
    (m2 ≠ [] → ∃ mb mo, a2 = some ⟨mb, mo, none⟩ ∧ ∀ (j : Nat) (x : Int), m2[j]? = some x → w.cell? ⟨mb, mo + j, none⟩ = some (.int .u8 x))
set_option maxHeartbeats 4000000 in
theorem same_core (ms1 ms2 : List (List Int)) (n b1 o1 b2 o2 c1 c2 : Nat) (ao1 ao2 : Option Addr) (hn1 : ms1.length = n) (hn2 : ms2.length = n) (hnm : n ≤ 9223372036854775807) (hc1 : n ≤ c1) (hc2 : n ≤ c2)
    (ha1 : n ≠ 0 → ao1 = some ⟨b1, o1, none⟩) (ha2 : n ≠ 0 → ao2 = some ⟨b2, o2, none⟩) (w : World)
    (hT : ∀ (i : Nat) (m1 m2 : List Int), ms1[i]? = some m1 → ms2[i]? = some m2 → Two w b1 o1 b2 o2 i m1 m2) :
    Calls Try.prog 22 #[.slice ao1 n c1, .slice ao2 n c2] w fun e w' => e = .returned (.bool (decide (ms1 = ms2))) ∧ Below w.heap.size w w' := by
  have HT := Lib.hid hT
  have H1 := Lib.hid hn1
  have H2 := Lib.hid hn2
  have HA1 := Lib.hid ha1
  have HA2 := Lib.hid ha2
  clear hT hn1 hn2 ha1 ha2
  obtain ⟨res, hres⟩ : ∃ res, decide (ms1 = ms2) = res := ⟨_, rfl⟩
  have HRES := Lib.hid hres
  rw [hres]
  clear hres
  go_enter Try.func22, Try.ntmps22
  go_wp2_with fail
  go_loopg [5] n (fun g i wr => ∃ r : Nat, r ≤ n ∧ g = n - r ∧ i = .int .i64 r ∧ Below w.heap.size w wr ∧ ∀ j, j < r → ms1[j]? = ms2[j]?)
  case atStart => exact ⟨0, Nat.zero_le _, rfl, rfl, Below.refl _ _, fun j hj => absurd hj (Nat.not_lt_zero j)⟩
  case round =>
    obtain ⟨r, hr, rfl, rfl, hB, hP⟩ := hrel
    have HP := Lib.hid hP
    clear hP
    by_cases hlt : r < n
    · have hlz : (r : Int) < (n : Int) := by omega
      obtain rfl := HA1.out (by omega)
      obtain rfl := HA2.out (by omega)
      obtain ⟨m1, hm1⟩ : ∃ m, ms1[r]? = some m := ⟨ms1[r]'(by rw [H1.out]; exact hlt), List.getElem?_eq_getElem _⟩
      obtain ⟨m2, hm2⟩ : ∃ m, ms2[r]? = some m := ⟨ms2[r]'(by rw [H2.out]; exact hlt), List.getElem?_eq_getElem _⟩
      obtain ⟨a1, a2, d1, d2, g1, g2, e1, e2, x1, x2, q1, q2⟩ := HT.out r m1 m2 hm1 hm2
      have G1 := below_kept hB g1
      have G2 := below_kept hB g2
      have HG1 := Lib.hid g1
      have HG2 := Lib.hid g2
      have HM1 := Lib.hid hm1
      have HM2 := Lib.hid hm2
      have Q1 := Lib.hid q1
      have Q2 := Lib.hid q2
      unfold maxLen at x1 x2
      clear g1 g2 q1 q2 hm1 hm2
      obtain ⟨l1, hl1⟩ : ∃ l, m1.length = l := ⟨_, rfl⟩
      obtain ⟨l2, hl2⟩ : ∃ l, m2.length = l := ⟨_, rfl⟩
      rw [hl1] at G1 e1 x1 HG1
      rw [hl2] at G2 e2 x2 HG2
      have HL1 := Lib.hid hl1
      have HL2 := Lib.hid hl2
      clear hl1 hl2
      by_cases hll : l1 = l2
      · subst hll
        go_wp2_with fail
        go_region
        go_wp2_with fail
        clear G1 G2
        have HB := Lib.hid hB
        clear hB
        go_loopg [6] l1 (fun g i wi => ∃ c : Nat, c ≤ l1 ∧ g = l1 - c ∧ i = .int .i64 c ∧ Below w.heap.size w wi ∧ ∀ j, j < c → m1[j]? = m2[j]?)
        case atStart => exact ⟨0, Nat.zero_le _, rfl, rfl, HB.out.drew, fun j hj => absurd hj (Nat.not_lt_zero j)⟩
        case round =>
          clear HB
          obtain ⟨c, hc, rfl, rfl, hB, hP2⟩ := hrel
          have HP2 := Lib.hid hP2
          clear hP2
          have G1 := below_kept hB HG1.out
          have G2 := below_kept hB HG2.out
          by_cases hcl : c < l1
          · have hcz : (c : Int) < (l1 : Int) := by omega
            have hcw : ((c : Int) + 1) ≤ 9223372036854775807 := by omega
            obtain ⟨y1, hy1⟩ : ∃ y, m1[c]? = some y := ⟨m1[c]'(by rw [HL1.out]; exact hcl), List.getElem?_eq_getElem _⟩
            obtain ⟨y2, hy2⟩ : ∃ y, m2[c]? = some y := ⟨m2[c]'(by rw [HL2.out]; exact hcl), List.getElem?_eq_getElem _⟩
            obtain ⟨u1, v1, rfl, f1⟩ := Q1.out (fun e => by subst e; simp at hy1)
            obtain ⟨u2, v2, rfl, f2⟩ := Q2.out (fun e => by subst e; simp at hy2)
            have F1 := below_kept hB (f1 c y1 hy1)
            have F2 := below_kept hB (f2 c y2 hy2)
            have HY1 := Lib.hid hy1
            have HY2 := Lib.hid hy2
            clear f1 f2 hy1 hy2
            by_cases hyy : y1 = y2
            · subst hyy
              go_wp2_with fail
              go_region
              go_wp2
              go_roundg (l1 - (c + 1))
              case measure => omega
              case rel =>
                refine ⟨c + 1, hcl, rfl, by go_num, hB.drew, fun j hj => ?_⟩
                by_cases e : j = c
                · subst e; exact HY1.out.trans HY2.out.symm
                · exact HP2.out j (by omega)
            · have hyd : (y1 != y2) = true := by simpa using hyy
              go_wp2_with fail
              go_region
              go_wp2
              go_ret
              refine ⟨fr_retb ?_, hB.drew⟩
              rw [← HRES.out]
              symm
              rw [decide_eq_false_iff_not]
              intro e
              subst e
              have := HM1.out.symm.trans HM2.out
              cases this
              have := HY1.out.symm.trans HY2.out
              cases this
              exact hyy rfl
          · obtain rfl : c = l1 := by omega
            go_wp2
            go_roundg (n - (r + 1))
            case measure => omega
            case rel =>
              refine ⟨r + 1, hlt, rfl, by go_num, hB, fun j hj => ?_⟩
              by_cases e : j = r
              · subst e
                rw [HM1.out, HM2.out, ext_all (HL1.out.trans HL2.out.symm) (fun j hj => HP2.out j (by rw [HL1.out] at hj; exact hj))]
              · exact HP.out j (by omega)
      · have hd : ((l1 : Int) != (l2 : Int)) = true := by simp; omega
        go_wp2_with fail
        go_region
        go_wp2
        go_ret
        refine ⟨fr_retb ?_, hB.drew⟩
        rw [← HRES.out]
        symm
        rw [decide_eq_false_iff_not]
        intro e
        subst e
        have := HM1.out.symm.trans HM2.out
        cases this
        exact hll (HL1.out.symm.trans HL2.out)
    · obtain rfl : r = n := by omega
      go_wp2
      go_ret
      refine ⟨fr_retb ?_, hB⟩
      rw [← HRES.out]
      symm
      rw [decide_eq_true_eq]
      exact ext_all (H1.out.trans H2.out.symm) (fun j hj => HP.out j (by rw [H1.out] at hj; exact hj))
end Go.Proofs.Ytmighkgjbohieaa

/-
  Plain laws on deferral.Earliest's numbers.
-/
import Derived.Test.YtdmaekiejdahoaaDoorDoor
namespace Go.Proofs.YtdmaekiejdahoaaDoor

theorem earE_cases (u l i c : Int) : earE u l i c = 0 ∨ earE u l i c = 2 ∨ earE u l i c = 8 := by
  simp only [earE]; split <;> (try split) <;> simp
theorem earN_zero (u l i c : Int) (h : earE u l i c ≠ 0) : earN u l i c = 0 := by
  simp only [earE] at h; simp only [earN]; split <;> (try split) <;> simp_all
theorem space_mono (c d : Int) (hc : 0 ≤ c) (h : c ≤ d) (h4 : d < 4) : spaceN d ≤ spaceN c := by
  simp only [spaceN]; split <;> split <;> (try split) <;> (try split) <;> (try split) <;> omega
theorem ear_ok (u l i c : Int) (h : earE u l i c = 0) : navE u l = 0 ∧ spaceE c = 0 ∧ timeB i = true ∧ c < 4 ∧ earN u l i c = max i (navEnd u l) + spaceN c := by
  simp only [earE] at h
  split at h
  · rename_i h1
    split at h
    · rename_i h2
      refine ⟨h1, h2.1, h2.2, ?_, ?_⟩
      · have := h2.1; simp only [spaceE] at this; split at this <;> omega
      · simp only [earN, h1, h2, and_self, if_true]
    · omega
  · omega
theorem ear_mono (u l i c d : Int) (hc : 0 ≤ c) (h1 : earE u l i c = 0) (h2 : earE u l i d = 0) (h : c ≤ d) : earN u l i d ≤ earN u l i c := by
  obtain ⟨_, _, _, _, e1⟩ := ear_ok u l i c h1
  obtain ⟨_, _, _, g2, e2⟩ := ear_ok u l i d h2
  have := space_mono c d hc h g2
  omega

end Go.Proofs.YtdmaekiejdahoaaDoor

/-
  Plain: two ends, whatever is lost, delayed or repeated: each Up end's Other is the other's Id. Generations, what each has learned of the other's.
-/
import Derived.Test.YtmighkgjbohieaaPeerFacts
set_option linter.unusedVariables false
set_option linter.unusedSimpArgs false
namespace Go.Proofs.Ytmighkgjbohieaa
open Go.ChangeShapes Go.WideShapes Go.ChangeAt Go.RowKit Go.Great

/-- The identifier of generation g. -/
def idOf (i0 : Int) (g : Nat) : Int := (i0 - 1 + g) % 65535 + 1
theorem idOf_range (i0 : Int) (g : Nat) : 1 ≤ idOf i0 g ∧ idOf i0 g ≤ 65535 := by simp only [idOf]; omega
theorem idOf_next (i0 : Int) (g : Nat) : idOf i0 g % 65535 + 1 = idOf i0 (g + 1) := by simp only [idOf]; omega
theorem idOf_inj {i0 : Int} {g h : Nat} (hg : g ≤ 1000) (hh : h ≤ 1000) (e : idOf i0 g = idOf i0 h) : g = h := by simp only [idOf] at e; omega
theorem idOf_zero {i0 : Int} (h0 : 1 ≤ i0) (h1 : i0 ≤ 65535) : idOf i0 0 = i0 := by simp only [idOf]; omega

def Lk.Shape (k : Lk) : Prop :=
  (k.st = 0 ∧ k.ot = 0 ∧ k.tr = 0 ∧ k.du = 0) ∨ (k.st = 1 ∧ k.ot = 0 ∧ (1 ≤ k.tr ∧ k.tr ≤ 3) ∧ (1 ≤ k.du ∧ k.du ≤ 1099511667776)) ∨
  (k.st = 2 ∧ (1 ≤ k.ot ∧ k.ot ≤ 65535) ∧ (1 ≤ k.tr ∧ k.tr ≤ 3) ∧ (1 ≤ k.du ∧ k.du ≤ 1099511667776)) ∨ (k.st = 3 ∧ (1 ≤ k.ot ∧ k.ot ≤ 65535) ∧ (1 ≤ k.tr ∧ k.tr ≤ 3) ∧ (1 ≤ k.du ∧ k.du ≤ 1099511667776)) ∨
  (k.st = 4 ∧ (1 ≤ k.ot ∧ k.ot ≤ 65535) ∧ k.tr = 0 ∧ k.du = 0) ∨ (k.st = 5 ∧ (0 ≤ k.ot ∧ k.ot ≤ 65535) ∧ k.tr = 0 ∧ (1 ≤ k.du ∧ k.du ≤ 1099511667776))
theorem rest_shape (k : Lk) : k.rest = true ↔ k.Shape := by
  simp only [Lk.rest, Lk.Shape]
  by_cases h0 : k.st = 0
  · simp [h0, btw]; omega
  by_cases h1 : k.st = 1
  · simp [h1, btw]; omega
  by_cases h2 : k.st = 2
  · simp [h2, btw]
  by_cases h3 : k.st = 3
  · simp [h3, btw]
  by_cases h4 : k.st = 4
  · simp [h4, btw]
  by_cases h5 : k.st = 5
  · simp [h5, btw]
  · simp [h0, h1, h2, h3, h4, h5]
theorem chk_shape (k : Lk) : k.chk = 0 ↔ k.same = false ∧ (1 ≤ k.id ∧ k.id ≤ 65535) ∧ k.Shape := by
  rw [chk_iff, ← rest_shape]
  simp only [Lk.ok, Bool.and_eq_true, Bool.not_eq_true', btw_iff]

/-- One end: link k in generation g, the other in generation h; what each has learned. -/
structure EndInv (i0 j0 : Int) (k : Lk) (g h : Nat) (ka kb : Nat → Option Nat) : Prop where
  same : k.same = false
  shape : k.Shape
  byt : k.By
  id : k.id = idOf i0 g
  kle : ∀ a q, ka a = some q → a ≤ g ∧ q ≤ h
  ot0 : ka g = none → k.ot = 0
  ot1 : ∀ q, ka g = some q → k.ot = idOf j0 q
  conf : k.st = 3 ∨ k.st = 4 → ∃ q, ka g = some q ∧ kb q = some g
theorem EndInv.chk {i0 j0 : Int} {k : Lk} {g h : Nat} {ka kb : Nat → Option Nat} (H : EndInv i0 j0 k g h ka kb) : k.chk = 0 :=
  (chk_shape k).2 ⟨H.same, by rw [H.id]; exact idOf_range _ _, H.shape⟩
/-- A message that an end has sent. -/
def MsgFrom (i0 j0 : Int) (g : Nat) (ka : Nat → Option Nat) (m : List Int) : Prop :=
  ∃ a, a ≤ g ∧ (m = msgOf 1 (idOf i0 a) 0 ∨ (∃ q, ka a = some q ∧ m = msgOf 2 (idOf i0 a) (idOf j0 q)) ∨ ∃ c, m = msgOf 3 (idOf i0 a) c)
def Cross (ka kb : Nat → Option Nat) : Prop := ∀ a a' h h', a < a' → h < h' → ka a = some h' → kb h = some a' → False
structure Sys (i0 j0 : Int) (x y : Lk) (g h : Nat) (ka kb : Nat → Option Nat) (s0 s1 : List (List Int)) : Prop where
  A : EndInv i0 j0 x g h ka kb
  B : EndInv j0 i0 y h g kb ka
  ma : ∀ m ∈ s0, MsgFrom i0 j0 g ka m
  mb : ∀ m ∈ s1, MsgFrom j0 i0 h kb m
  cr : Cross ka kb
theorem Sys.swap {i0 j0 : Int} {x y : Lk} {g h : Nat} {ka kb : Nat → Option Nat} {s0 s1 : List (List Int)} (H : Sys i0 j0 x y g h ka kb s0 s1) : Sys j0 i0 y x h g kb ka s1 s0 :=
  ⟨H.B, H.A, H.mb, H.ma, fun a a' q q' h1 h2 h3 h4 => H.cr q q' a a' h2 h1 h4 h3⟩
/-- Both Up: paired. -/
theorem Sys.paired {i0 j0 : Int} {x y : Lk} {g h : Nat} {ka kb : Nat → Option Nat} {s0 s1 : List (List Int)} (H : Sys i0 j0 x y g h ka kb s0 s1) (hx : x.st = 4) (hy : y.st = 4) : x.ot = y.id ∧ y.ot = x.id := by
  obtain ⟨q, q1, q2⟩ := H.A.conf (.inr hx)
  obtain ⟨p, p1, p2⟩ := H.B.conf (.inr hy)
  have lq := H.A.kle _ _ q1
  have lp := H.B.kle _ _ p1
  by_cases hq : q = h
  · subst hq
    exact ⟨by rw [H.A.ot1 q q1, H.B.id], by rw [H.B.ot1 g q2, H.A.id]⟩
  · by_cases hp : p = g
    · subst hp
      rw [q1] at p2
      exact absurd (Option.some.inj p2) hq
    · exact (H.cr p g q h (by omega) (by omega) p2 q2).elim

/-- What a step of the end x must show. -/
def StepOk (i0 j0 : Int) (g h : Nat) (ka kb : Nat → Option Nat) (r : Res) : Prop :=
  ∃ g' ka', (g ≤ g' ∧ g' ≤ g + 1) ∧ (∀ a q, ka a = some q → ka' a = some q) ∧ (∀ a q, ka' a = some q → ka a = some q ∨ (a = g ∧ q ≤ h)) ∧ EndInv i0 j0 r.1 g' h ka' kb ∧ ∀ m ∈ r.2.1, MsgFrom i0 j0 g' ka' m
theorem Sys.step {i0 j0 : Int} {x y : Lk} {g h : Nat} {ka kb : Nat → Option Nat} {s0 s1 : List (List Int)} (H : Sys i0 j0 x y g h ka kb s0 s1) {r : Res} (hr : StepOk i0 j0 g h ka kb r) :
    ∃ g' ka', g' ≤ g + 1 ∧ Sys i0 j0 r.1 y g' h ka' kb (s0 ++ r.2.1) s1 := by
  obtain ⟨g', ka', hg, hx, hn, hE, hm⟩ := hr
  refine ⟨g', ka', hg.2, hE, ⟨H.B.same, H.B.shape, H.B.byt, H.B.id, fun a q e => ?_, H.B.ot0, H.B.ot1, fun e => ?_⟩, fun m hmm => ?_, H.mb, fun a a' q q' h1 h2 h3 h4 => ?_⟩
  · have := H.B.kle a q e
    omega
  · obtain ⟨q, h1, h2⟩ := H.B.conf e
    exact ⟨q, h1, hx _ _ h2⟩
  · rcases List.mem_append.1 hmm with h1 | h1
    · obtain ⟨a, ha, h2⟩ := H.ma m h1
      refine ⟨a, by omega, ?_⟩
      rcases h2 with h2 | ⟨q, h2, h3⟩ | h2
      · exact .inl h2
      · exact .inr (.inl ⟨q, hx _ _ h2, h3⟩)
      · exact .inr (.inr h2)
    · exact hm m h1
  · rcases hn a q' h3 with h5 | ⟨rfl, _⟩
    · exact H.cr a a' q q' h1 h2 h5 h4
    · have := H.B.kle q a' h4
      omega

theorem by_same {k k' : Lk} (e : k'.o0 = k.o0 ∧ k'.o1 = k.o1 ∧ k'.o2 = k.o2 ∧ k'.o3 = k.o3 ∧ k'.o4 = k.o4 ∧ k'.o5 = k.o5 ∧ k'.p0 = k.p0 ∧ k'.p1 = k.p1 ∧ k'.p2 = k.p2 ∧ k'.p3 = k.p3 ∧ k'.p4 = k.p4 ∧ k'.p5 = k.p5) (h : k.same = false) : k'.same = false := by
  obtain ⟨e0, e1, e2, e3, e4, e5, f0, f1, f2, f3, f4, f5⟩ := e
  simp only [Lk.same, e0, e1, e2, e3, e4, e5, f0, f1, f2, f3, f4, f5] at h ⊢
  exact h
/-- The addresses stay. -/
def Lk.Like (k' k : Lk) : Prop := k'.o0 = k.o0 ∧ k'.o1 = k.o1 ∧ k'.o2 = k.o2 ∧ k'.o3 = k.o3 ∧ k'.o4 = k.o4 ∧ k'.o5 = k.o5 ∧ k'.p0 = k.p0 ∧ k'.p1 = k.p1 ∧ k'.p2 = k.p2 ∧ k'.p3 = k.p3 ∧ k'.p4 = k.p4 ∧ k'.p5 = k.p5
section
variable {i0 j0 : Int} {k : Lk} {g h : Nat} {ka kb : Nat → Option Nat}
theorem step_keep (H : EndInv i0 j0 k g h ka kb) (k' : Lk) (ms : List (List Int)) (e : Int) (hl : k'.Like k) (hs : k'.Shape) (hi : k'.id = k.id) (ho : k'.ot = k.ot) (hc : k'.st = 3 ∨ k'.st = 4 → (k.st = 3 ∨ k.st = 4) ∨ ∃ q, ka g = some q ∧ kb q = some g)
    (hm : ∀ m ∈ ms, MsgFrom i0 j0 g ka m) : StepOk i0 j0 g h ka kb (k', ms, e) :=
  ⟨g, ka, by omega, fun _ _ q => q, fun _ _ q => .inl q, ⟨by_same hl H.same, hs, by_of H.byt hl, hi.trans H.id, H.kle, fun q => ho.trans (H.ot0 q), fun q hq => ho.trans (H.ot1 q hq), fun q => (hc q).elim H.conf id⟩, hm⟩
theorem step_learn (H : EndInv i0 j0 k g h ka kb) (k' : Lk) (ms : List (List Int)) (e : Int) (q : Nat) (hq : q ≤ h) (hz : k.ot = 0) (hl : k'.Like k) (hs : k'.Shape) (hi : k'.id = k.id) (ho : k'.ot = idOf j0 q) (hc : k'.st = 3 ∨ k'.st = 4 → kb q = some g)
    (hm : ∀ ka' : Nat → Option Nat, ka' g = some q → ∀ m ∈ ms, MsgFrom i0 j0 g ka' m) : StepOk i0 j0 g h ka kb (k', ms, e) := by
  have hn : ka g = none := by
    cases hk : ka g with
    | none => rfl
    | some p =>
      have h1 := H.ot1 p hk
      have h2 := idOf_range j0 p
      omega
  refine ⟨g, fun a => if a = g then some q else ka a, by omega, fun a p hp => ?_, fun a p hp => ?_, ⟨by_same hl H.same, hs, by_of H.byt hl, hi.trans H.id, fun a p hp => ?_, fun hp => ?_, fun p hp => ?_, fun hp => ⟨q, by simp, hc hp⟩⟩, hm _ (by simp)⟩
  · by_cases ha : a = g
    · subst ha; rw [hn] at hp; cases hp
    · simp only [if_neg ha]; exact hp
  · by_cases ha : a = g
    · simp only [if_pos ha, Option.some.injEq] at hp; exact .inr ⟨ha, by omega⟩
    · simp only [if_neg ha] at hp; exact .inl hp
  · by_cases ha : a = g
    · simp only [if_pos ha, Option.some.injEq] at hp; omega
    · simp only [if_neg ha] at hp; exact H.kle a p hp
  · simp at hp
  · simp only [if_true, Option.some.injEq] at hp
    rw [ho, hp]
theorem step_fin (H : EndInv i0 j0 k g h ka kb) (e : Int) (h5 : k.st = 5) : StepOk i0 j0 g h ka kb (finK k, [], e) := by
  have hn : ka (g + 1) = none := by
    cases hk : ka (g + 1) with
    | none => rfl
    | some p => have := H.kle _ _ hk; omega
  have hs := H.shape
  simp only [Lk.Shape] at hs
  refine ⟨g + 1, ka, by omega, fun _ _ q => q, fun _ _ q => .inl q, ⟨by_same ⟨rfl, rfl, rfl, rfl, rfl, rfl, rfl, rfl, rfl, rfl, rfl, rfl⟩ H.same, ?_, by_of H.byt ⟨rfl, rfl, rfl, rfl, rfl, rfl, rfl, rfl, rfl, rfl, rfl, rfl⟩, ?_, fun a q hq => ?_, fun _ => rfl, fun q hq => ?_, fun hq => ?_⟩, fun m hm => by cases hm⟩
  · exact .inl ⟨rfl, rfl, by show k.tr = 0; omega, rfl⟩
  · show k.id % 65535 + 1 = _
    rw [H.id, idOf_next]
  · have := H.kle a q hq; omega
  · rw [hn] at hq; cases hq
  · have hq' : (0 : Int) = 3 ∨ (0 : Int) = 4 := hq
    omega
theorem from_open (ka : Nat → Option Nat) (hi : k.id = idOf i0 g) : MsgFrom i0 j0 g ka (msgOf 1 k.id 0) := ⟨g, Nat.le_refl _, .inl (by rw [hi])⟩
theorem from_close (ka : Nat → Option Nat) (hi : k.id = idOf i0 g) (c : Int) : MsgFrom i0 j0 g ka (msgOf 3 k.id c) := ⟨g, Nat.le_refl _, .inr (.inr ⟨c, by rw [hi]⟩)⟩
theorem from_conf {q : Nat} (ka : Nat → Option Nat) (hi : k.id = idOf i0 g) (hq : ka g = some q) : MsgFrom i0 j0 g ka (msgOf 2 k.id (idOf j0 q)) := ⟨g, Nat.le_refl _, .inr (.inl ⟨q, hq, by rw [hi]⟩)⟩
theorem one_msg {p : List Int → Prop} {m : List Int} (h : p m) : ∀ x ∈ [m], p x := fun x hx => by rw [List.mem_singleton.1 hx]; exact h
theorem no_msg {p : List Int → Prop} : ∀ x ∈ ([] : List (List Int)), p x := fun x hx => by cases hx
theorem shape0 {k : Lk} (h : k.st = 0) (ho : k.ot = 0) (ht : k.tr = 0) (hd : k.du = 0) : k.Shape := .inl ⟨h, ho, ht, hd⟩
theorem shape1 {k : Lk} (h : k.st = 1) (ho : k.ot = 0) (ht : 1 ≤ k.tr ∧ k.tr ≤ 3) (hd : 1 ≤ k.du ∧ k.du ≤ 1099511667776) : k.Shape := .inr (.inl ⟨h, ho, ht, hd⟩)
theorem shape2 {k : Lk} (h : k.st = 2) (ho : 1 ≤ k.ot ∧ k.ot ≤ 65535) (ht : 1 ≤ k.tr ∧ k.tr ≤ 3) (hd : 1 ≤ k.du ∧ k.du ≤ 1099511667776) : k.Shape := .inr (.inr (.inl ⟨h, ho, ht, hd⟩))
theorem shape3 {k : Lk} (h : k.st = 3) (ho : 1 ≤ k.ot ∧ k.ot ≤ 65535) (ht : 1 ≤ k.tr ∧ k.tr ≤ 3) (hd : 1 ≤ k.du ∧ k.du ≤ 1099511667776) : k.Shape := .inr (.inr (.inr (.inl ⟨h, ho, ht, hd⟩)))
theorem shape4 {k : Lk} (h : k.st = 4) (ho : 1 ≤ k.ot ∧ k.ot ≤ 65535) (ht : k.tr = 0) (hd : k.du = 0) : k.Shape := .inr (.inr (.inr (.inr (.inl ⟨h, ho, ht, hd⟩))))
theorem shape5 {k : Lk} (h : k.st = 5) (ho : 0 ≤ k.ot ∧ k.ot ≤ 65535) (ht : k.tr = 0) (hd : 1 ≤ k.du ∧ k.du ≤ 1099511667776) : k.Shape := .inr (.inr (.inr (.inr (.inr ⟨h, ho, ht, hd⟩))))
theorem like_wait (k : Lk) (s n : Int) : (waitK k s n).Like k := ⟨rfl, rfl, rfl, rfl, rfl, rfl, rfl, rfl, rfl, rfl, rfl, rfl⟩
theorem like_waito (k : Lk) (a s n : Int) : (waitK (otK k a) s n).Like k := ⟨rfl, rfl, rfl, rfl, rfl, rfl, rfl, rfl, rfl, rfl, rfl, rfl⟩
theorem like_up (k : Lk) : (upK k).Like k := ⟨rfl, rfl, rfl, rfl, rfl, rfl, rfl, rfl, rfl, rfl, rfl, rfl⟩
theorem like_upo (k : Lk) (a : Int) : (upK (otK k a)).Like k := ⟨rfl, rfl, rfl, rfl, rfl, rfl, rfl, rfl, rfl, rfl, rfl, rfl⟩
theorem like_ot (k : Lk) (a : Int) : (otK k a).Like k := ⟨rfl, rfl, rfl, rfl, rfl, rfl, rfl, rfl, rfl, rfl, rfl, rfl⟩
theorem like_cl (k : Lk) (n : Int) : (clK k n).Like k := ⟨rfl, rfl, rfl, rfl, rfl, rfl, rfl, rfl, rfl, rfl, rfl, rfl⟩
theorem like_again (k : Lk) (n : Int) : (againK k n).Like k := ⟨rfl, rfl, rfl, rfl, rfl, rfl, rfl, rfl, rfl, rfl, rfl, rfl⟩
theorem like_self (k : Lk) : k.Like k := ⟨rfl, rfl, rfl, rfl, rfl, rfl, rfl, rfl, rfl, rfl, rfl, rfl⟩
theorem tr_one : (1 : Int) ≤ 1 ∧ (1 : Int) ≤ 3 := by decide
theorem due_ok {now : Int} (n0 : 0 ≤ now) (n1 : now ≤ 1000000000) : 1 ≤ now + 40000 ∧ now + 40000 ≤ 1099511667776 := by omega
theorem step_close_to (H : EndInv i0 j0 k g h ka kb) (e now : Int) (n0 : 0 ≤ now) (n1 : now ≤ 1000000000) : StepOk i0 j0 g h ka kb (clK k now, [msgOf 3 k.id k.ot], e) := by
  have hs := H.shape
  simp only [Lk.Shape] at hs
  refine step_keep H _ _ _ (like_cl _ _) (shape5 rfl (by show 0 ≤ k.ot ∧ k.ot ≤ 65535; omega) rfl (due_ok n0 n1)) rfl rfl (fun q => ?_) (one_msg (from_close _ H.id _))
  have q' : (5 : Int) = 3 ∨ (5 : Int) = 4 := q
  omega
theorem tin_of {now : Int} (n0 : 0 ≤ now) (n1 : now ≤ 1000000000) : tinB now = true := btw_iff.2 ⟨n0, by omega⟩
theorem step_start (H : EndInv i0 j0 k g h ka kb) (now : Int) (n0 : 0 ≤ now) (n1 : now ≤ 1000000000) (he : (pStart k now).2.2 = 0) : StepOk i0 j0 g h ka kb (pStart k now) := by
  have hs := H.shape
  simp only [Lk.Shape] at hs
  rw [pStart, guard_ok H.chk (tin_of n0 n1)] at he ⊢
  by_cases h0 : k.st = 0
  · rw [if_pos h0]
    refine step_keep H _ _ _ (like_wait _ _ _) (shape1 rfl (by show k.ot = 0; omega) tr_one (due_ok n0 n1)) rfl rfl (fun q => ?_) (one_msg (from_open _ H.id))
    have q' : (1 : Int) = 3 ∨ (1 : Int) = 4 := q
    omega
  · rw [if_neg h0] at he
    simp [errR] at he
theorem step_close (H : EndInv i0 j0 k g h ka kb) (now : Int) (n0 : 0 ≤ now) (n1 : now ≤ 1000000000) (he : (pClose k now).2.2 = 0) : StepOk i0 j0 g h ka kb (pClose k now) := by
  rw [pClose, guard_ok H.chk (tin_of n0 n1)] at he ⊢
  by_cases h0 : k.st = 0 ∨ k.st = 5
  · rw [if_pos h0] at he
    simp [errR] at he
  · rw [if_neg h0]
    exact step_close_to H _ now n0 n1
theorem step_tick (H : EndInv i0 j0 k g h ka kb) (now : Int) (n0 : 0 ≤ now) (n1 : now ≤ 1000000000) : StepOk i0 j0 g h ka kb (pTick k now) := by
  have hs := H.shape
  simp only [Lk.Shape] at hs
  rw [pTick, guard_ok H.chk (tin_of n0 n1)]
  by_cases hd : k.du = 0 ∨ now < k.du
  · rw [if_pos hd]
    exact step_keep H _ _ _ (like_self _) H.shape rfl rfl (fun q => .inl q) no_msg
  rw [if_neg hd]
  by_cases h5 : k.st = 5
  · rw [if_pos h5]
    exact step_fin H _ h5
  rw [if_neg h5]
  by_cases h3 : k.tr = 3
  · rw [if_pos h3]
    exact step_close_to H _ now n0 n1
  rw [if_neg h3]
  have hd2 := due_ok n0 n1
  have hs2 : (againK k now).Shape := by
    have h3' : ∀ x : Int, x = k.tr → 1 ≤ x ∧ x ≤ 3 → 1 ≤ x + 1 ∧ x + 1 ≤ 3 := fun x e q => by omega
    rcases hs with ⟨a, b, c, d⟩ | ⟨a, b, c, d⟩ | ⟨a, b, c, d⟩ | ⟨a, b, c, d⟩ | ⟨a, b, c, d⟩ | ⟨a, b, c, d⟩
    · exact absurd (.inl d) hd
    · exact shape1 a b (h3' _ rfl c) hd2
    · exact shape2 a b (h3' _ rfl c) hd2
    · exact shape3 a b (h3' _ rfl c) hd2
    · exact absurd (.inl d) hd
    · exact absurd a h5
  by_cases hc : k.st = 3
  · rw [if_pos hc]
    exact step_keep H _ _ _ (like_again _ _) hs2 rfl rfl (fun q => .inl q) no_msg
  · rw [if_neg hc]
    exact step_keep H _ _ _ (like_again _ _) hs2 rfl rfl (fun q => .inl q) (one_msg (from_open _ H.id))
theorem ot_know (H : EndInv i0 j0 k g h ka kb) (hz : k.ot ≠ 0) : ∃ q, ka g = some q ∧ k.ot = idOf j0 q ∧ q ≤ h := by
  cases hk : ka g with
  | none => exact absurd (H.ot0 hk) hz
  | some q => exact ⟨q, rfl, H.ot1 q hk, (H.kle _ _ hk).2⟩
theorem step_opened (H : EndInv i0 j0 k g h ka kb) (now : Int) (n0 : 0 ≤ now) (n1 : now ≤ 1000000000) (q : Nat) (hq : q ≤ h) : StepOk i0 j0 g h ka kb (pOpened k (idOf j0 q) now) := by
  have hs := H.shape
  simp only [Lk.Shape] at hs
  have hr := idOf_range j0 q
  rw [pOpened]
  by_cases h5 : k.st = 5
  · rw [if_pos h5]
    exact step_keep H _ _ _ (like_self _) H.shape rfl rfl (fun q => .inl q) (one_msg (from_close _ H.id _))
  rw [if_neg h5]
  by_cases hd : k.ot ≠ 0 ∧ idOf j0 q ≠ k.ot
  · rw [if_pos hd]
    exact step_close_to H _ now n0 n1
  rw [if_neg hd]
  by_cases h0 : k.st = 0
  · rw [if_pos h0]
    refine step_learn H _ _ _ q hq (by omega) (like_waito _ _ _ _) (shape2 rfl hr tr_one (due_ok n0 n1)) rfl rfl (fun p => ?_) (fun ka' hk m hm => ?_)
    · have p' : (2 : Int) = 3 ∨ (2 : Int) = 4 := p
      omega
    · rcases List.mem_cons.1 hm with rfl | hm
      · exact from_open _ H.id
      · rw [List.mem_singleton.1 hm]; exact from_conf _ H.id hk
  rw [if_neg h0]
  by_cases h1 : k.st = 1
  · rw [if_pos h1]
    refine step_learn H _ _ _ q hq (by omega) (like_waito _ _ _ _) (shape2 rfl hr tr_one (due_ok n0 n1)) rfl rfl (fun p => ?_) (fun ka' hk => one_msg (from_conf _ H.id hk))
    · have p' : (2 : Int) = 3 ∨ (2 : Int) = 4 := p
      omega
  rw [if_neg h1]
  obtain ⟨p, p1, p2, p3⟩ := ot_know H (by omega)
  have e : idOf j0 q = k.ot := by
    by_cases e : idOf j0 q = k.ot
    · exact e
    · exact absurd ⟨by omega, e⟩ hd
  by_cases h3 : k.st = 3
  · rw [if_pos h3]
    exact step_keep H _ _ _ (like_upo _ _) (shape4 rfl hr rfl rfl) rfl e (fun _ => .inl (.inl h3)) (one_msg (by rw [e, p2]; exact from_conf _ H.id p1))
  · rw [if_neg h3]
    have hs2 : (otK k (idOf j0 q)).Shape := by rw [e]; exact H.shape
    exact step_keep H _ _ _ (like_ot _ _) hs2 rfl e (fun q => .inl q) (one_msg (by rw [e, p2]; exact from_conf _ H.id p1))
theorem step_conf (H : EndInv i0 j0 k g h ka kb) (hkb : ∀ a q, kb a = some q → a ≤ h ∧ q ≤ g) (hg : g ≤ 1000) (hh : h ≤ 1000) (now : Int) (n0 : 0 ≤ now) (n1 : now ≤ 1000000000) (q p : Nat) (hq : kb q = some p) (he : (pConf k (idOf j0 q) (idOf i0 p) now).2.2 = 0) :
    StepOk i0 j0 g h ka kb (pConf k (idOf j0 q) (idOf i0 p) now) := by
  have hs := H.shape
  simp only [Lk.Shape] at hs
  have hr := idOf_range j0 q
  have hl := hkb q p hq
  rw [pConf] at he ⊢
  by_cases h0 : k.st = 0
  · rw [if_pos h0] at he
    simp at he
  rw [if_neg h0] at he ⊢
  by_cases h5 : k.st = 5
  · rw [if_pos h5]
    exact step_keep H _ _ _ (like_self _) H.shape rfl rfl (fun q => .inl q) (one_msg (from_close _ H.id _))
  rw [if_neg h5] at he ⊢
  by_cases hd : idOf i0 p ≠ k.id ∨ (k.ot ≠ 0 ∧ idOf j0 q ≠ k.ot)
  · rw [if_pos hd] at he
    simp at he
  rw [if_neg hd]
  have e1 : idOf i0 p = idOf i0 g := by
    rw [← H.id]
    by_cases e : idOf i0 p = k.id
    · exact e
    · exact absurd (.inl e) hd
  have e2 : p = g := idOf_inj (by omega) (by omega) e1
  subst e2
  by_cases h1 : k.st = 1
  · rw [if_pos h1]
    exact step_learn H _ _ _ q hl.1 (by omega) (like_waito _ _ _ _) (shape3 rfl hr tr_one (due_ok n0 n1)) rfl rfl (fun _ => hq) (fun _ _ => no_msg)
  rw [if_neg h1]
  by_cases h2 : k.st = 2
  · rw [if_pos h2]
    obtain ⟨r, r1, r2, r3⟩ := ot_know H (by omega)
    have e : idOf j0 q = idOf j0 r := by
      rw [← r2]
      by_cases e : idOf j0 q = k.ot
      · exact e
      · exact absurd (.inr ⟨by omega, e⟩) hd
    have e3 : q = r := idOf_inj (by omega) (by omega) e
    subst e3
    exact step_keep H _ _ _ (like_up _) (shape4 rfl (by show 1 ≤ k.ot ∧ k.ot ≤ 65535; omega) rfl rfl) rfl rfl (fun _ => .inr ⟨q, r1, hq⟩) no_msg
  · rw [if_neg h2]
    exact step_keep H _ _ _ (like_self _) H.shape rfl rfl (fun q => .inl q) no_msg
theorem step_closed (H : EndInv i0 j0 k g h ka kb) (now : Int) (n0 : 0 ≤ now) (n1 : now ≤ 1000000000) (a c : Int) (he : (pClosed k a c now).2.2 = 0) : StepOk i0 j0 g h ka kb (pClosed k a c now) := by
  rw [pClosed] at he ⊢
  by_cases h0 : k.st = 0
  · rw [if_pos h0] at he
    simp at he
  rw [if_neg h0] at he ⊢
  by_cases hd : (c ≠ 0 ∧ c ≠ k.id) ∨ (k.ot ≠ 0 ∧ a ≠ k.ot)
  · rw [if_pos hd] at he
    simp at he
  rw [if_neg hd]
  by_cases h5 : k.st = 5
  · rw [if_pos h5]
    exact step_fin H _ h5
  · rw [if_neg h5]
    exact step_close_to H _ now n0 n1
theorem msgA_of (x a b : Int) (h0 : 1 ≤ a) (h1 : a ≤ 65535) : msgA (msgOf x a b) = a := by
  show a % 256 + 256 * (a / 256 % 256) = a
  omega
theorem msgC_of (x a b : Int) (h0 : 1 ≤ b) (h1 : b ≤ 65535) : msgC (msgOf x a b) = b := by
  show b % 256 + 256 * (b / 256 % 256) = b
  omega
theorem fit_ok {r : Res} (h : (fitR r).2.2 = 0) : fitR r = r ∧ r.2.2 = 0 := by
  simp only [fitR] at h ⊢
  by_cases e : r.2.2 = 0
  · exact ⟨if_pos e, e⟩
  · rw [if_neg e] at h
    exact absurd h e
theorem handle_ok {m : List Int} {now : Int} (hc : k.chk = 0) (ht : tinB now = true) (he : (pHandle k m now).2.2 = 0) :
    pHandle k m now = if m.getD 0 0 = 1 then pOpened k (msgA m) now else if m.getD 0 0 = 2 then fitR (pConf k (msgA m) (msgC m) now) else fitR (pClosed k (msgA m) (msgC m) now) := by
  rw [pHandle, guard_ok hc ht] at he ⊢
  by_cases h1 : m.length < 5
  · rw [if_pos h1] at he
    simp [errR] at he
  rw [if_neg h1] at he ⊢
  by_cases h2 : badM m = true
  · rw [if_pos h2] at he
    simp [errR] at he
  rw [if_neg h2]
theorem step_handle (H : EndInv i0 j0 k g h ka kb) (hkb : ∀ a q, kb a = some q → a ≤ h ∧ q ≤ g) (hg : g ≤ 1000) (hh : h ≤ 1000) (now : Int) (n0 : 0 ≤ now) (n1 : now ≤ 1000000000) (m : List Int) (hm : MsgFrom j0 i0 h kb m) (he : (pHandle k m now).2.2 = 0) :
    StepOk i0 j0 g h ka kb (pHandle k m now) := by
  have e := handle_ok H.chk (tin_of n0 n1) he
  rw [e] at he ⊢
  clear e
  obtain ⟨a, ha, rfl | ⟨q, hq, rfl⟩ | ⟨c, rfl⟩⟩ := hm
  · have hr := idOf_range j0 a
    have e1 : (msgOf 1 (idOf j0 a) 0).getD 0 0 = 1 := rfl
    rw [e1, if_pos rfl, msgA_of _ _ _ hr.1 hr.2]
    exact step_opened H now n0 n1 a ha
  · have hr := idOf_range j0 a
    have hr2 := idOf_range i0 q
    have e1 : (msgOf 2 (idOf j0 a) (idOf i0 q)).getD 0 0 = 2 := rfl
    rw [e1, if_neg (by decide), if_pos rfl, msgA_of _ _ _ hr.1 hr.2, msgC_of _ _ _ hr2.1 hr2.2] at he ⊢
    obtain ⟨f1, f2⟩ := fit_ok he
    rw [f1]
    exact step_conf H hkb hg hh now n0 n1 a q hq f2
  · have e1 : (msgOf 3 (idOf j0 a) c).getD 0 0 = 3 := rfl
    rw [e1, if_neg (by decide), if_neg (by decide)] at he ⊢
    obtain ⟨f1, f2⟩ := fit_ok he
    rw [f1]
    exact step_closed H now n0 n1 _ _ f2
end
end Go.Proofs.Ytmighkgjbohieaa

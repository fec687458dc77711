/-
  What peer's Start, Close, Tick and Handle come to, as functions on links and messages; their contracts for all arguments.
-/
import Derived.Test.YtmighkgjbohieaaPeerHandle
set_option linter.unusedVariables false
set_option linter.unusedSimpArgs false
namespace Go.Proofs.Ytmighkgjbohieaa
open Go.ChangeShapes Go.WideShapes Go.ChangeAt Go.RowKit Go.Great

def tinB (now : Int) : Bool := btw now 0 1099511627776
/-- A link, the messages sent, an error. -/
abbrev Res := Lk × List (List Int) × Int
def errR (e : Int) : Res := (zeroLk, [], e)
def guardR (k : Lk) (now : Int) (r : Res) : Res := if k.chk = 0 then (if tinB now = true then r else errR 2) else errR 8
def pStart (k : Lk) (now : Int) : Res := guardR k now (if k.st = 0 then (waitK k 1 now, [msgOf 1 k.id 0], 0) else errR 20)
def pClose (k : Lk) (now : Int) : Res := guardR k now (if k.st = 0 ∨ k.st = 5 then errR 20 else (clK k now, [msgOf 3 k.id k.ot], 0))
def againK (k : Lk) (now : Int) : Lk := { k with tr := k.tr + 1, du := now + 40000 }
def pTick (k : Lk) (now : Int) : Res := guardR k now (if k.du = 0 ∨ now < k.du then (k, [], 0) else if k.st = 5 then (finK k, [], 0) else if k.tr = 3 then (clK k now, [msgOf 3 k.id k.ot], 0) else if k.st = 3 then (againK k now, [], 0) else (againK k now, [msgOf 1 k.id 0], 0))
def otK (k : Lk) (a : Int) : Lk := { k with ot := a }
def pOpened (k : Lk) (a now : Int) : Res :=
  if k.st = 5 then (k, [msgOf 3 k.id k.ot], 0) else if k.ot ≠ 0 ∧ a ≠ k.ot then (clK k now, [msgOf 3 k.id k.ot], 0)
  else if k.st = 0 then (waitK (otK k a) 2 now, [msgOf 1 k.id 0, msgOf 2 k.id a], 0) else if k.st = 1 then (waitK (otK k a) 2 now, [msgOf 2 k.id a], 0)
  else if k.st = 3 then (upK (otK k a), [msgOf 2 k.id a], 0) else (otK k a, [msgOf 2 k.id a], 0)
def pConf (k : Lk) (a c now : Int) : Res :=
  if k.st = 0 then (k, [], 20) else if k.st = 5 then (k, [msgOf 3 k.id k.ot], 0) else if c ≠ k.id ∨ (k.ot ≠ 0 ∧ a ≠ k.ot) then (k, [], 21)
  else if k.st = 1 then (waitK (otK k a) 3 now, [], 0) else if k.st = 2 then (upK k, [], 0) else (k, [], 0)
def pClosed (k : Lk) (a c now : Int) : Res :=
  if k.st = 0 then (k, [], 20) else if (c ≠ 0 ∧ c ≠ k.id) ∨ (k.ot ≠ 0 ∧ a ≠ k.ot) then (k, [], 21) else if k.st = 5 then (finK k, [], 0) else (clK k now, [msgOf 3 k.id k.ot], 0)
def fitR (r : Res) : Res := if r.2.2 = 0 then r else errR r.2.2
def msgA (m : List Int) : Int := m.getD 1 0 + 256 * m.getD 2 0
def msgC (m : List Int) : Int := m.getD 3 0 + 256 * m.getD 4 0
def badM (m : List Int) : Bool := decide (5 < m.length ∨ m.getD 0 0 < 1 ∨ 3 < m.getD 0 0 ∨ msgA m = 0 ∨ (m.getD 0 0 = 1 ∧ msgC m ≠ 0))
def pHandle (k : Lk) (m : List Int) (now : Int) : Res :=
  guardR k now (if m.length < 5 then errR 10 else if badM m = true then errR 12 else if m.getD 0 0 = 1 then pOpened k (msgA m) now
    else if m.getD 0 0 = 2 then fitR (pConf k (msgA m) (msgC m) now) else fitR (pClosed k (msgA m) (msgC m) now))

/-- What a valid link's fields are. -/
structure Lk.Val (k : Lk) : Prop extends Lk.In k where
  st0 : 0 ≤ k.st
  st5 : k.st ≤ 5
  tr0 : 0 ≤ k.tr
  tr3 : k.tr ≤ 3
  du0 : 0 ≤ k.du
  du1 : k.du ≤ 1099511667776
  none : k.st ≤ 1 → k.ot = 0
  some : 2 ≤ k.st → k.st ≤ 4 → 1 ≤ k.ot
  wait : 1 ≤ k.st → k.st ≤ 3 → 1 ≤ k.tr
  idle : k.st = 0 ∨ k.st = 4 ∨ k.st = 5 → k.tr = 0
  late : k.st = 0 ∨ k.st = 4 → k.du = 0
  due : 1 ≤ k.st → k.st ≤ 3 ∨ k.st = 5 → 1 ≤ k.du
theorem btw_iff {n lo hi : Int} : btw n lo hi = true ↔ lo ≤ n ∧ n ≤ hi := by simp [btw]
theorem chk_iff (k : Lk) : k.chk = 0 ↔ k.ok = true := by simp only [Lk.chk]; split <;> simp_all
theorem chk_val {k : Lk} (h : k.chk = 0) : k.Val := by
  rw [chk_iff] at h
  simp only [Lk.ok, Bool.and_eq_true, Bool.not_eq_true', btw_iff] at h
  obtain ⟨_, ⟨i0, i1⟩, hr⟩ := h
  simp only [Lk.rest] at hr
  have hs : k.st = 0 ∨ k.st = 1 ∨ k.st = 2 ∨ k.st = 3 ∨ k.st = 4 ∨ k.st = 5 := by
    by_cases h0 : k.st = 0
    · exact .inl h0
    by_cases h1 : k.st = 1
    · exact .inr (.inl h1)
    by_cases h2 : k.st = 2
    · exact .inr (.inr (.inl h2))
    by_cases h3 : k.st = 3
    · exact .inr (.inr (.inr (.inl h3)))
    by_cases h4 : k.st = 4
    · exact .inr (.inr (.inr (.inr (.inl h4))))
    by_cases h5 : k.st = 5
    · exact .inr (.inr (.inr (.inr (.inr h5))))
    · simp [h0, h1, h2, h3, h4, h5] at hr
  rcases hs with hs | hs | hs | hs | hs | hs
  all_goals
    simp [hs, btw] at hr
    exact ⟨⟨i0, i1, by omega, by omega⟩, by omega, by omega, by omega, by omega, by omega, by omega, by omega, by omega, by omega, by omega, by omega, by omega⟩
theorem tin_in {now : Int} (h : tinB now = true) : 0 ≤ now ∧ now ≤ 1099511627776 := btw_iff.1 h

/-- The results of the four, all in one. -/
def RetR (w : World) (r : Res) (e : Ending) (w' : World) : Prop := Ret3 w r.1 r.2.1 r.2.2 e w'
theorem retR {w : World} {k : Lk} {ms : List (List Int)} {er : Int} {r : Res} (h : r = (k, ms, er)) : RetR w r = Ret3 w k ms er := by subst h; rfl
theorem guard_ok {k : Lk} {now : Int} {r : Res} (h : k.chk = 0) (ht : tinB now = true) : guardR k now r = r := by simp only [guardR, h, ht, if_true]
theorem guard_arg {k : Lk} {now : Int} {r : Res} (h : k.chk = 0) (ht : ¬ tinB now = true) : guardR k now r = errR 2 := by simp only [guardR, h, if_true, if_neg ht]
theorem guard_bad {k : Lk} {now : Int} {r : Res} (h : k.chk = 8) : guardR k now r = errR 8 := by simp only [guardR, h]; rfl

theorem start_any (k : Lk) (hB : k.By) (now : Int) (w : World) : Calls Try.prog 17 #[.agg k.cells, .int .i64 now] w (RetR w (pStart k now)) := by
  rcases chk_two k with h | h
  · by_cases ht : tinB now = true
    · obtain ⟨n0, n1⟩ := tin_in ht
      have hv := chk_val h
      by_cases hs : k.st = 0
      · rw [retR (show pStart k now = _ by rw [pStart, guard_ok h ht, if_pos hs])]
        exact start_ok k hB now h ht n0 n1 hv.toIn hs w
      · rw [retR (show pStart k now = _ by rw [pStart, guard_ok h ht, if_neg hs, errR])]
        exact start_state k hB now h ht n0 n1 hv.toIn (by simpa using hs) w
    · rw [retR (show pStart k now = _ by rw [pStart, guard_arg h ht, errR])]
      exact start_arg k hB now h (by simpa [tinB] using ht) w
  · rw [retR (show pStart k now = _ by rw [pStart, guard_bad h, errR])]
    exact start_bad k hB now h w
theorem close_any (k : Lk) (hB : k.By) (now : Int) (w : World) : Calls Try.prog 19 #[.agg k.cells, .int .i64 now] w (RetR w (pClose k now)) := by
  rcases chk_two k with h | h
  · by_cases ht : tinB now = true
    · obtain ⟨n0, n1⟩ := tin_in ht
      have hv := chk_val h
      by_cases hs : k.st = 0 ∨ k.st = 5
      · rw [retR (show pClose k now = _ by rw [pClose, guard_ok h ht, if_pos hs, errR])]
        exact close_state k hB now h ht n0 n1 hv.toIn hs w
      · rw [retR (show pClose k now = _ by rw [pClose, guard_ok h ht, if_neg hs])]
        exact close_ok k hB now h ht n0 n1 hv.toIn (by simp; omega) (by simp; omega) w
    · rw [retR (show pClose k now = _ by rw [pClose, guard_arg h ht, errR])]
      exact close_arg k hB now h (by simpa [tinB] using ht) w
  · rw [retR (show pClose k now = _ by rw [pClose, guard_bad h, errR])]
    exact close_bad k hB now h w
theorem tick_any (k : Lk) (hB : k.By) (now : Int) (w : World) : Calls Try.prog 21 #[.agg k.cells, .int .i64 now] w (RetR w (pTick k now)) := by
  rcases chk_two k with h | h
  · by_cases ht : tinB now = true
    · obtain ⟨n0, n1⟩ := tin_in ht
      have hv := chk_val h
      have hI := hv.toIn
      by_cases hd : k.du = 0 ∨ now < k.du
      · rw [retR (show pTick k now = _ by rw [pTick, guard_ok h ht, if_pos hd])]
        by_cases hd0 : k.du = 0
        · exact tick_idle k hB now h ht n0 n1 hI hd0 w
        · exact tick_early k hB now h ht n0 n1 hI (by simpa using hd0) (by omega) w
      · have d0 : (k.du == 0) = false := by simp; omega
        have d1 : k.du ≤ now := by omega
        have hst : (1 ≤ k.st ∧ k.st ≤ 3) ∨ k.st = 5 := by
          have h0 := hv.st0; have h5 := hv.st5; have hl := hv.late
          omega
        by_cases h5 : k.st = 5
        · rw [retR (show pTick k now = _ by rw [pTick, guard_ok h ht, if_neg hd, if_pos h5])]
          exact tick_hold k hB now h ht n0 n1 hI d0 d1 h5 w
        · have h5' : (k.st == 5) = false := by simpa using h5
          have hw := hv.wait (by omega) (by omega)
          have h3 := hv.tr3
          by_cases ht3 : k.tr = 3
          · rw [retR (show pTick k now = _ by rw [pTick, guard_ok h ht, if_neg hd, if_neg h5, if_pos ht3])]
            exact tick_close k hB now h ht n0 n1 hI d0 d1 h5' ht3 w
          · by_cases hs3 : k.st = 3
            · rw [retR (show pTick k now = _ by rw [pTick, guard_ok h ht, if_neg hd, if_neg h5, if_neg ht3, if_pos hs3])]
              exact tick_conf k hB now h ht n0 n1 hI d0 d1 hs3 (by omega) (by omega) w
            · rw [retR (show pTick k now = _ by rw [pTick, guard_ok h ht, if_neg hd, if_neg h5, if_neg ht3, if_neg hs3])]
              exact tick_again k hB now h ht n0 n1 hI d0 d1 h5' (by simpa using hs3) (by omega) (by omega) w
    · rw [retR (show pTick k now = _ by rw [pTick, guard_arg h ht, errR])]
      exact tick_arg k hB now h (by simpa [tinB] using ht) w
  · rw [retR (show pTick k now = _ by rw [pTick, guard_bad h, errR])]
    exact tick_bad k hB now h w

/-- The methods, for all arguments. -/
def EndR (b : Nat) (now : Int) (w : World) (u : Value) (r : Res) (e : Ending) (w' : World) : Prop := e = .returned u ∧ EndAt w' b r.1 now r.2.1 ∧ Below b w w'
theorem endR {b : Nat} {now : Int} {w : World} {u : Value} {k : Lk} {ms : List (List Int)} {er : Int} {r : Res} (h : r = (k, ms, er)) : EndR b now w u r = fun e w' => e = .returned u ∧ EndAt w' b k now ms ∧ Below b w w' := by subst h; rfl
theorem opened_any (b : Nat) (k : Lk) (now : Int) (hv : k.Val) (hn0 : 0 ≤ now) (hn1 : now ≤ 1099511627776) (a : Int) (ha0 : 1 ≤ a) (ha1 : a ≤ 65535) (w : World) (h : EndAt w b k now []) :
    Calls Try.prog 40 #[.pointer (some ⟨b, 0, none⟩), .int .i64 a] w (EndR b now w (.tuple #[]) (pOpened k a now)) := by
  have hI := hv.toIn
  by_cases h5 : k.st = 5
  · rw [endR (show pOpened k a now = _ by rw [pOpened, if_pos h5])]
    exact opened_hold b k now hI hn0 hn1 a (by omega) ha1 h5 w h
  have h5' : (k.st == 5) = false := by simpa using h5
  have s0 := hv.st0
  have s5 := hv.st5
  by_cases hd : k.ot ≠ 0 ∧ a ≠ k.ot
  · rw [endR (show pOpened k a now = _ by rw [pOpened, if_neg h5, if_pos hd])]
    exact opened_diff b k now hI hn0 hn1 a (by omega) ha1 h5' (by have := hI.ot0; omega) (by simp; omega) w h
  by_cases hs0 : k.st = 0
  · rw [endR (show pOpened k a now = _ by rw [pOpened, if_neg h5, if_neg hd, if_pos hs0])]
    exact opened_idle b k now hI hn0 hn1 a (by omega) ha1 hs0 (by have := hv.none (by omega); omega) w h
  by_cases hs1 : k.st = 1
  · rw [endR (show pOpened k a now = _ by rw [pOpened, if_neg h5, if_neg hd, if_neg hs0, if_pos hs1])]
    exact opened_sent b k now hI hn0 hn1 a (by omega) ha1 hs1 (by have := hv.none (by omega); omega) w h
  have ho := hv.some (by omega) (by omega)
  have hq : (a == k.ot) = true := by simp; omega
  by_cases hs3 : k.st = 3
  · rw [endR (show pOpened k a now = _ by rw [pOpened, if_neg h5, if_neg hd, if_neg hs0, if_neg hs1, if_pos hs3])]
    exact opened_conf b k now hI hn0 hn1 a (by omega) ha1 hs3 ho hq w h
  · rw [endR (show pOpened k a now = _ by rw [pOpened, if_neg h5, if_neg hd, if_neg hs0, if_neg hs1, if_neg hs3])]
    exact opened_got b k now hI hn0 hn1 a (by omega) ha1 (by omega) ho hq w h
theorem conf_any (b : Nat) (k : Lk) (now : Int) (hv : k.Val) (hn0 : 0 ≤ now) (hn1 : now ≤ 1099511627776) (a c : Int) (ha0 : 1 ≤ a) (ha1 : a ≤ 65535) (w : World) (h : EndAt w b k now []) :
    Calls Try.prog 41 #[.pointer (some ⟨b, 0, none⟩), .int .i64 a, .int .i64 c] w (EndR b now w (.int .i64 (pConf k a c now).2.2) (pConf k a c now)) := by
  have hI := hv.toIn
  have s0 := hv.st0
  have s5 := hv.st5
  by_cases hs0 : k.st = 0
  · have e : pConf k a c now = (k, [], 20) := by rw [pConf, if_pos hs0]
    rw [endR e, e]
    exact conf_idle b k now hI hn0 hn1 a c (by omega) ha1 hs0 w h
  by_cases h5 : k.st = 5
  · have e : pConf k a c now = (k, [msgOf 3 k.id k.ot], 0) := by rw [pConf, if_neg hs0, if_pos h5]
    rw [endR e, e]
    exact conf_hold b k now hI hn0 hn1 a c (by omega) ha1 h5 w h
  by_cases hd : c ≠ k.id ∨ (k.ot ≠ 0 ∧ a ≠ k.ot)
  · have e : pConf k a c now = (k, [], 21) := by rw [pConf, if_neg hs0, if_neg h5, if_pos hd]
    rw [endR e, e]
    by_cases hc : c = k.id
    · exact conf_stale2 b k now hI hn0 hn1 a c (by omega) ha1 (by simpa using hs0) (by simpa using h5) (by simpa using hc) (by have := hI.ot0; omega) (by simp; omega) w h
    · exact conf_stale1 b k now hI hn0 hn1 a c (by omega) ha1 (by simpa using hs0) (by simpa using h5) (by simpa using hc) w h
  have hc : (c == k.id) = true := by simp; omega
  by_cases hs1 : k.st = 1
  · have e : pConf k a c now = (waitK (otK k a) 3 now, [], 0) := by rw [pConf, if_neg hs0, if_neg h5, if_neg hd, if_pos hs1]
    rw [endR e, e]
    exact conf_sent b k now hI hn0 hn1 a c (by omega) ha1 hs1 hc (by have := hv.none (by omega); omega) w h
  have ho := hv.some (by omega) (by omega)
  have hq : (a == k.ot) = true := by simp; omega
  by_cases hs2 : k.st = 2
  · have e : pConf k a c now = (upK k, [], 0) := by rw [pConf, if_neg hs0, if_neg h5, if_neg hd, if_neg hs1, if_pos hs2]
    rw [endR e, e]
    exact conf_got b k now hI hn0 hn1 a c (by omega) ha1 hs2 hc ho hq w h
  · have e : pConf k a c now = (k, [], 0) := by rw [pConf, if_neg hs0, if_neg h5, if_neg hd, if_neg hs1, if_neg hs2]
    rw [endR e, e]
    exact conf_rest b k now hI hn0 hn1 a c (by omega) ha1 (by omega) hc ho hq w h
theorem closed_any (b : Nat) (k : Lk) (now : Int) (hv : k.Val) (hn0 : 0 ≤ now) (hn1 : now ≤ 1099511627776) (a c : Int) (ha0 : 1 ≤ a) (ha1 : a ≤ 65535) (w : World) (h : EndAt w b k now []) :
    Calls Try.prog 42 #[.pointer (some ⟨b, 0, none⟩), .int .i64 a, .int .i64 c] w (EndR b now w (.int .i64 (pClosed k a c now).2.2) (pClosed k a c now)) := by
  have hI := hv.toIn
  have s0 := hv.st0
  have s5 := hv.st5
  have o0 := hI.ot0
  by_cases hs0 : k.st = 0
  · have e : pClosed k a c now = (k, [], 20) := by rw [pClosed, if_pos hs0]
    rw [endR e, e]
    exact closed_idle b k now hI hn0 hn1 a c (by omega) ha1 hs0 w h
  have hs0' : (k.st == 0) = false := by simpa using hs0
  by_cases hd : (c ≠ 0 ∧ c ≠ k.id) ∨ (k.ot ≠ 0 ∧ a ≠ k.ot)
  · have e : pClosed k a c now = (k, [], 21) := by rw [pClosed, if_neg hs0, if_pos hd]
    rw [endR e, e]
    by_cases hc : c ≠ 0 ∧ c ≠ k.id
    · exact closed_stale1 b k now hI hn0 hn1 a c (by omega) ha1 hs0' (by simpa using hc.1) (by simpa using hc.2) w h
    · exact closed_stale2 b k now hI hn0 hn1 a c (by omega) ha1 hs0' (by by_cases c0 : c = 0 <;> simp <;> omega) (by omega) (by simp; omega) w h
  have hf : (c == 0) = true ∨ ((c == 0) = false ∧ (c == k.id) = true) := by simp; omega
  have ho : k.ot < 1 ∨ (1 ≤ k.ot ∧ (a == k.ot) = true) := by simp; omega
  by_cases h5 : k.st = 5
  · have e : pClosed k a c now = (finK k, [], 0) := by rw [pClosed, if_neg hs0, if_neg hd, if_pos h5]
    rw [endR e, e]
    exact closed_hold b k now hI hn0 hn1 a c (by omega) ha1 h5 hf ho w h
  · have e : pClosed k a c now = (clK k now, [msgOf 3 k.id k.ot], 0) := by rw [pClosed, if_neg hs0, if_neg hd, if_neg h5]
    rw [endR e, e]
    exact closed_rest b k now hI hn0 hn1 a c (by omega) ha1 hs0' (by simpa using h5) hf ho w h
end Go.Proofs.Ytmighkgjbohieaa

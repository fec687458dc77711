/-
  The reference's Start and Close for all arguments: what peer's come to.
-/
import Derived.Test.YtmighkgjbohieaaPeerRefG
set_option linter.unusedVariables false
set_option linter.unusedSimpArgs false
namespace Go.Proofs.Ytmighkgjbohieaa
open Go.ChangeShapes Go.WideShapes Go.ChangeAt Go.RowKit Go.Great

theorem rstart_any (k : Lk) (hB : k.By) (hz : 0 ≤ k.st) (now : Int) (w : World) : Calls Try.prog 27 #[.agg k.cells, .int .i64 now] w (RetR w (pStart k now)) := by
  rcases chk_two k with h | h
  · by_cases ht : tinB now = true
    · by_cases hs : k.st = 0
      · rw [retR (show pStart k now = _ by rw [pStart, guard_ok h ht, if_pos hs])]
        exact rstart_ok k hB hz now h ht hs w
      · rw [retR (show pStart k now = _ by rw [pStart, guard_ok h ht, if_neg hs, errR])]
        exact rstart_state k hB hz now h ht (by simpa using hs) w
    · rw [retR (show pStart k now = _ by rw [pStart, guard_arg h ht, errR])]
      exact rstart_arg k hB hz now h (by simpa using ht) w
  · rw [retR (show pStart k now = _ by rw [pStart, guard_bad h, errR])]
    exact rstart_bad k hB hz now h w
theorem rclose_any (k : Lk) (hB : k.By) (hz : 0 ≤ k.st) (now : Int) (w : World) : Calls Try.prog 28 #[.agg k.cells, .int .i64 now] w (RetR w (pClose k now)) := by
  rcases chk_two k with h | h
  · by_cases ht : tinB now = true
    · have hv := chk_val h
      have s5 := hv.st5
      by_cases hs : k.st = 0 ∨ k.st = 5
      · rw [retR (show pClose k now = _ by rw [pClose, guard_ok h ht, if_pos hs, errR])]
        rcases hs with hs | hs
        · exact rclose_state0 k hB hz now h ht hs w
        · exact rclose_state5 k hB hz now h ht hs w
      · rw [retR (show pClose k now = _ by rw [pClose, guard_ok h ht, if_neg hs])]
        have h4 : k.st = 1 ∨ k.st = 2 ∨ k.st = 3 ∨ k.st = 4 := by omega
        rcases h4 with hs | hs | hs | hs
        · exact rclose_ok1 k hB hz now h ht hs w
        · exact rclose_ok2 k hB hz now h ht hs w
        · exact rclose_ok3 k hB hz now h ht hs w
        · exact rclose_ok4 k hB hz now h ht hs w
    · rw [retR (show pClose k now = _ by rw [pClose, guard_arg h ht, errR])]
      exact rclose_arg k hB hz now h (by simpa using ht) w
  · rw [retR (show pClose k now = _ by rw [pClose, guard_bad h, errR])]
    exact rclose_bad k hB hz now h w
end Go.Proofs.Ytmighkgjbohieaa

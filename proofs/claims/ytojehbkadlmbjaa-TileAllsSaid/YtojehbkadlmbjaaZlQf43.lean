/- terrref5.Clamped: a point's coordinates limited to the grid. No condition. (The walk of the region follows the print's walk of point.Clamp.) -/
import Derived.Test.YtojehbkadlmbjaaZlQ0
namespace Go.Proofs.Ytojehbkadlmbjaa.Q
open Go.RowKit Go.Proofs.YtojehbkadlmbjaaW.PrintWords Go.Proofs.YtojehbkadlmbjaaW.PrintLast Go.Proofs.YtojehbkadlmbjaaW.PrintMore
attribute [local go_sem] max2_int min2_int max_two min_two max_three min_three max_four min_four
set_option linter.unusedVariables false
set_option linter.unusedSimpArgs false
attribute [local go_sem high] eqA31
/-! ### terrref5_Clamped: function 43 -/
section
variable {P : Program} {ops : Array Oper} {Q : Exit → Act → World → Prop}
end
def lim (n : Int) : Int := if n < -1048576 then -1048576 else (if n > 1048576 then 1048576 else n)
set_option maxHeartbeats 400000 in
theorem clamped_1.calls (n r : Int) (w : World) (h : lim n = r) :
    Calls Try.prog 53 #[.int .i64 n] w fun e w' => e = .returned (.int .i64 r) ∧ Below w.heap.size w w' := by
  subst h
  unfold lim
  by_cases c : n < -1048576
  · rw [if_pos c]
    have c0 : decide (n < -1048576) = true := decide_eq_true c
    clear c
    go_enter Try.func53, Try.ntmps53
    go_wp2
    go_ret
    exact ⟨rfl, Below.refl _ _⟩
  · rw [if_neg c]
    have c0 : decide (n < -1048576) = false := decide_eq_false c
    clear c
    by_cases d : n > 1048576
    · rw [if_pos d]
      have d0 : decide (1048576 < n) = true := decide_eq_true d
      clear d
      go_enter Try.func53, Try.ntmps53
      go_wp2
      go_ret
      exact ⟨rfl, Below.refl _ _⟩
    · rw [if_neg d]
      have d0 : decide (1048576 < n) = false := decide_eq_false d
      clear d
      go_enter Try.func53, Try.ntmps53
      go_wp2
      go_ret
      exact ⟨rfl, Below.refl _ _⟩
end Go.Proofs.Ytojehbkadlmbjaa.Q


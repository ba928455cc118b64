/- font.Wrap's loop and the law's own end alike, from every state. Conditions: stated. -/
import Derived.Test.YtojehbkadlmbjaaDoorUWf
namespace Go.Proofs.YtojehbkadlmbjaaDoor.U
open Go.RowKit Go.Proofs.YtojehbkadlmbjaaDoor.Q Go.Proofs.YtojehbkadlmbjaaDoorW.PrintWords Go.Proofs.YtojehbkadlmbjaaDoorW.PrintLast Go.Proofs.YtojehbkadlmbjaaDoorW.PrintMore
set_option linter.unusedSimpArgs false
set_option linter.unusedVariables false

/-- One word in the law's loop, where it fits by itself and no line is open. -/
theorem law_first (x1 x2 : Int) (z1 : 1 ≤ x1) (z8 : x1 ≤ 8) (W x9 : List ByteArray) (x10 : Int) (hl : W.length ≤ 1000) (j : Nat) (hj : j < W.length)
    (hp : Plain (rdOf ByteArray.empty W (j : Int))) (hw : ¬ x1 * widthOf (rdOf ByteArray.empty W (j : Int)) > x2) (k : Nat) (hk : 130 ≤ k)
    (h0 : terrlaw5_FontWraps.l2 k x1 x2 x9 x10 0 [rdOf ByteArray.empty W (j : Int)] W (W.length : Int) ((j + 1 : Nat) : Int) = some true) :
    terrlaw5_FontWraps.l2 (k + 3) x1 x2 x9 x10 0 [] W (W.length : Int) (j : Int) = some true := by
  have hs := (both_good _ hp x1 z1 z8 (k + 2) (by omega)).2
  have e2 : wrap64 ((j : Int) + 1) = ((j + 1 : Nat) : Int) := by rw [wrapF (by omega) (by omega)]; omega
  rw [terrlaw5_FontWraps.l2, if_pos (by omega), if_pos (by omega), if_pos (by omega), hs, Option.bind_some, if_pos rfl, terrlaw5_FontWraps.j6, decide_eq_false hw, if_neg (by decide), terrlaw5_FontWraps.j7, if_neg (by rw [wrapF (by simp) (by simp)]; simp), if_pos (by simp), e2]
  exact h0

end Go.Proofs.YtojehbkadlmbjaaDoor.U

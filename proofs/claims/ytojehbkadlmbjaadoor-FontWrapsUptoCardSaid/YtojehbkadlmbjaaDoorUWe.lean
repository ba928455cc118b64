/- font.Wrap's loop and the law's own end alike, from every state. Conditions: stated. -/
import Derived.Test.YtojehbkadlmbjaaDoorUWd
namespace Go.Proofs.YtojehbkadlmbjaaDoor.U
open Go.RowKit Go.Proofs.YtojehbkadlmbjaaDoor.Q Go.Proofs.YtojehbkadlmbjaaDoorW.PrintWords Go.Proofs.YtojehbkadlmbjaaDoorW.PrintLast Go.Proofs.YtojehbkadlmbjaaDoorW.PrintMore
set_option linter.unusedSimpArgs false
set_option linter.unusedVariables false

theorem empty_iff (s : ByteArray) : s.toList = ([] : List UInt8) ↔ s.size = 0 := by
  rw [Lib.toList_data, size_list]
  exact List.length_eq_zero_iff.symm

theorem wrap_end (x1 x2 : Int) (W lines : List ByteArray) (line : ByteArray) (hl : lines.length ≤ 1000) (hW : W.length ≤ 1000) :
    (∀ k, 1300 ≤ k → font_Wrap.l0 k x1 x2 lines line W (W.length : Int) (W.length : Int) = some (X lines line, 0)) ∧
    (∀ k, 1300 ≤ k → terrlaw5_FontWraps.l2 k x1 x2 (X lines line) 0 0 (X lines line) W (W.length : Int) (W.length : Int) = some true) := by
  constructor
  · intro k hk
    obtain ⟨k, rfl⟩ : ∃ m, k = m + 1 := ⟨k - 1, by omega⟩
    rw [font_Wrap.l0, if_neg (Int.lt_irrefl _)]
    unfold X
    by_cases c : line.toList = ([] : List UInt8)
    · rw [if_pos c, if_pos c]
    · rw [if_neg c, if_neg c, if_pos (by omega)]
  · intro k hk
    obtain ⟨k, rfl⟩ : ∃ m, k = m + 1 := ⟨k - 1, by omega⟩
    have hx : (X lines line).length ≤ 1001 := by
      unfold X
      split
      · omega
      · simp; omega
    rw [terrlaw5_FontWraps.l2, if_neg (Int.lt_irrefl _), if_pos rfl, if_pos rfl, eq_self _ (by omega) k (by omega), Option.bind_some]

end Go.Proofs.YtojehbkadlmbjaaDoor.U

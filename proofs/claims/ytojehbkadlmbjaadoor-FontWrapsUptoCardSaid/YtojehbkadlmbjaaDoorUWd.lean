/- font.Wrap's loop and the law's own end alike, from every state. Conditions: stated. -/
import Derived.Test.YtojehbkadlmbjaaDoorUWc
namespace Go.Proofs.YtojehbkadlmbjaaDoor.U
open Go.RowKit Go.Proofs.YtojehbkadlmbjaaDoor.Q Go.Proofs.YtojehbkadlmbjaaDoorW.PrintWords Go.Proofs.YtojehbkadlmbjaaDoorW.PrintLast Go.Proofs.YtojehbkadlmbjaaDoorW.PrintMore
set_option linter.unusedSimpArgs false
set_option linter.unusedVariables false

/-- What the law holds where font.Wrap holds lines and one open line. -/
def X (lines : List ByteArray) (line : ByteArray) : List ByteArray := if line.toList = ([] : List UInt8) then lines else lines ++ [line]

theorem eq_loop (l : List ByteArray) (hl : l.length ≤ 4000000000001) : ∀ (d i k : Nat), i + d = l.length → d < k → slices_Equal_string_string.l0 k l l (l.length : Int) (i : Int) = some true := by
  intro d
  induction d with
  | zero =>
    intro i k hi hk
    obtain ⟨k, rfl⟩ : ∃ m, k = m + 1 := ⟨k - 1, by omega⟩
    rw [slices_Equal_string_string.l0, if_neg (by omega)]
  | succ d ih =>
    intro i k hi hk
    obtain ⟨k, rfl⟩ : ∃ m, k = m + 1 := ⟨k - 1, by omega⟩
    have e2 : wrap64 ((i : Int) + 1) = ((i + 1 : Nat) : Int) := by rw [wrapF (by omega) (by omega)]; omega
    have := ih (i + 1) k (by omega) (by omega)
    rw [slices_Equal_string_string.l0]
    simp only [e2, this]
    simp

theorem eq_self (l : List ByteArray) (hl : l.length ≤ 4000000000001) (k : Nat) (hk : l.length < k) : slices_Equal_string_string.f k l l = some true := by
  unfold slices_Equal_string_string.f
  rw [if_pos rfl]
  exact eq_loop l hl l.length 0 k (by omega) hk

end Go.Proofs.YtojehbkadlmbjaaDoor.U

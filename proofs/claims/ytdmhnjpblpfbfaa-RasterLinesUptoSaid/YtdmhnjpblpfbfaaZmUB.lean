/- Plain facts on numbers and on tables. Conditions: stated at each. -/
import Derived.Test.YtdmhnjpblpfbfaaZmQ0
import Derived.OpenShut
namespace Go.Proofs.Ytdmhnjpblpfbfaa.U
open Go.RowKit Go.Proofs.Ytdmhnjpblpfbfaa.Q Go.Proofs.YtdmhnjpblpfbfaaW.PrintWords Go.Proofs.YtdmhnjpblpfbfaaW.PrintLast Go.Proofs.YtdmhnjpblpfbfaaW.PrintMore
set_option linter.unusedSimpArgs false

theorem wrap_id {x : Int} (h0 : -9223372036854775808 ≤ x) (h1 : x ≤ 9223372036854775807) : wrap64 x = x := by
  unfold wrap64
  omega
theorem tdiv_pos {x d : Int} (h : 0 ≤ x) : Int.tdiv x d = x / d := Int.tdiv_eq_ediv_of_nonneg h
/-! ### a table of pixels -/
def tab (n : Nat) (f : Nat → Int) : List Int := (List.range n).map f
theorem tab_length (n : Nat) (f : Nat → Int) : (tab n f).length = n := by simp [tab]
theorem tab_rd (n : Nat) (f : Nat → Int) (j : Nat) (h : j < n) : rd (tab n f) (j : Int) = f j := by
  simp [rd, tab, List.getD, h]
theorem tab_set (n : Nat) (f : Nat → Int) (j : Nat) (v : Int) : (tab n f).set j v = tab n (fun i => if i = j then v else f i) := by
  apply List.ext_getElem
  · simp [tab]
  · intro i h1 h2
    simp only [tab, List.getElem_set, List.getElem_map, List.getElem_range]
    by_cases e : j = i
    · rw [if_pos e, if_pos e.symm]
    · rw [if_neg e, if_neg (fun h => e h.symm)]
theorem tab_zero (n : Nat) : List.replicate n (0 : Int) = tab n (fun _ => 0) := by
  apply List.ext_getElem
  · simp [tab]
  · intro i h1 h2
    simp [tab]
end Go.Proofs.Ytdmhnjpblpfbfaa.U


/- font.Wrap's loop and the law's own loop alike, from every state. Conditions: stated. -/
import Derived.Test.YtojehbkadlmbjaaDoorUWg
namespace Go.Proofs.YtojehbkadlmbjaaDoor.U
open Go.RowKit Go.Proofs.YtojehbkadlmbjaaDoor.Q Go.Proofs.YtojehbkadlmbjaaDoorW.PrintWords Go.Proofs.YtojehbkadlmbjaaDoorW.PrintLast Go.Proofs.YtojehbkadlmbjaaDoorW.PrintMore
set_option linter.unusedSimpArgs false
set_option linter.unusedVariables false

theorem Good.plain {s : ByteArray} (h : Good s) (h40 : s.size ≤ 40) : Plain s := ⟨h40, h⟩
theorem good_space : Good (⟨#[32]⟩ : ByteArray) := by
  intro i hi
  have : i = 0 := by
    have z : (⟨#[32]⟩ : ByteArray).size = 1 := rfl
    omega
  subst this
  exact ⟨by decide, by decide⟩
theorem size_space : (⟨#[32]⟩ : ByteArray).size = 1 := rfl
theorem rd_last (l : List ByteArray) (x : ByteArray) : rdOf ByteArray.empty (l ++ [x]) (l.length : Int) = x := by
  unfold rdOf
  simp
theorem set_last (l : List ByteArray) (x y : ByteArray) : (l ++ [x]).set l.length y = l ++ [y] := by
  simp

/-- A word that is joined to the open line. -/
theorem law_join (x1 x2 : Int) (z1 : 1 ≤ x1) (z8 : x1 ≤ 8) (W x9 : List ByteArray) (x10 : Int) (hl : W.length ≤ 1000) (j : Nat) (hj : j < W.length) (w line : ByteArray) (lines : List ByteArray)
    (hr : rdOf ByteArray.empty W (j : Int) = w) (hlen : lines.length ≤ 1000) (h40 : line.size + 1 + w.size ≤ 40) (gl : Good line) (gw : Good w)
    (hw : x1 * widthOf ((line ++ (⟨#[32]⟩ : ByteArray)) ++ w) ≤ x2) (k : Nat) (hk : 130 ≤ k)
    (h0 : terrlaw5_FontWraps.l2 k x1 x2 x9 x10 0 (lines ++ [(line ++ (⟨#[32]⟩ : ByteArray)) ++ w]) W (W.length : Int) ((j + 1 : Nat) : Int) = some true) :
    terrlaw5_FontWraps.l2 (k + 3) x1 x2 x9 x10 0 (lines ++ [line]) W (W.length : Int) (j : Int) = some true := by
  have e2 : wrap64 ((j : Int) + 1) = ((j + 1 : Nat) : Int) := by rw [wrapF (by omega) (by omega)]; omega
  have hs := (both_good w (gw.plain (by omega)) x1 z1 z8 (k + 2) (by omega)).2
  have hp : Plain ((line ++ (⟨#[32]⟩ : ByteArray)) ++ w) := ((gl.app good_space).app gw).plain (by rw [size_app, size_app, size_space]; omega)
  have hs2 := (both_good _ hp x1 z1 z8 k (by omega)).2
  have hw1 : ¬ x1 * widthOf w > x2 := by
    rw [widthOf_app] at hw
    have a1 := widthOf_pos (line ++ (⟨#[32]⟩ : ByteArray))
    have a2 := Int.mul_nonneg (show 0 ≤ x1 by omega) a1
    rw [Int.mul_add] at hw
    omega
  have e3 : wrap64 (((lines ++ [line]).length : Int) - 1) = (lines.length : Int) := by
    rw [List.length_append, List.length_singleton, wrapF (by omega) (by omega)]
    omega
  have hlen2 : ((lines ++ [line]).length : Int) = (lines.length : Int) + 1 := by rw [List.length_append, List.length_singleton]; omega
  rw [terrlaw5_FontWraps.l2, if_pos (by omega), if_pos (by omega), if_pos (by omega), hr, hs, Option.bind_some, if_pos rfl, terrlaw5_FontWraps.j6, decide_eq_false hw1, if_neg (by decide), terrlaw5_FontWraps.j7, e3, rd_last, hlen2]
  rw [if_pos (by omega), if_pos (by omega), if_pos (by omega), if_pos (by omega), if_pos (by rw [size_app, size_space]; omega), hs2, Option.bind_some, if_pos rfl, if_pos hw, if_pos (by omega), if_pos (by rw [size_app, size_space]; omega), e2, Int.toNat_natCast, set_last, ← ByteArray.append_assoc]
  exact h0

/-- A word that opens a line of its own, behind an open one. -/
theorem law_open (x1 x2 : Int) (z1 : 1 ≤ x1) (z8 : x1 ≤ 8) (W x9 : List ByteArray) (x10 : Int) (hl : W.length ≤ 1000) (j : Nat) (hj : j < W.length) (w line : ByteArray) (lines : List ByteArray)
    (hr : rdOf ByteArray.empty W (j : Int) = w) (hlen : lines.length ≤ 1000) (h40 : line.size + 1 + w.size ≤ 40) (gl : Good line) (gw : Good w)
    (hw : ¬ x1 * widthOf ((line ++ (⟨#[32]⟩ : ByteArray)) ++ w) ≤ x2) (hw1 : ¬ x1 * widthOf w > x2) (k : Nat) (hk : 130 ≤ k)
    (h0 : terrlaw5_FontWraps.l2 k x1 x2 x9 x10 0 (lines ++ [line] ++ [w]) W (W.length : Int) ((j + 1 : Nat) : Int) = some true) :
    terrlaw5_FontWraps.l2 (k + 3) x1 x2 x9 x10 0 (lines ++ [line]) W (W.length : Int) (j : Int) = some true := by
  have e2 : wrap64 ((j : Int) + 1) = ((j + 1 : Nat) : Int) := by rw [wrapF (by omega) (by omega)]; omega
  have hs := (both_good w (gw.plain (by omega)) x1 z1 z8 (k + 2) (by omega)).2
  have hp : Plain ((line ++ (⟨#[32]⟩ : ByteArray)) ++ w) := ((gl.app good_space).app gw).plain (by rw [size_app, size_app, size_space]; omega)
  have hs2 := (both_good _ hp x1 z1 z8 k (by omega)).2
  have e3 : wrap64 (((lines ++ [line]).length : Int) - 1) = (lines.length : Int) := by
    rw [List.length_append, List.length_singleton, wrapF (by omega) (by omega)]
    omega
  have hlen2 : ((lines ++ [line]).length : Int) = (lines.length : Int) + 1 := by rw [List.length_append, List.length_singleton]; omega
  rw [terrlaw5_FontWraps.l2, if_pos (by omega), if_pos (by omega), if_pos (by omega), hr, hs, Option.bind_some, if_pos rfl, terrlaw5_FontWraps.j6, decide_eq_false hw1, if_neg (by decide), terrlaw5_FontWraps.j7, e3, rd_last, hlen2]
  rw [if_pos (by omega), if_pos (by omega), if_pos (by omega), if_pos (by omega), if_pos (by rw [size_app, size_space]; omega), hs2, Option.bind_some, if_pos rfl, if_neg hw, if_pos (by omega), e2]
  exact h0

end Go.Proofs.YtojehbkadlmbjaaDoor.U

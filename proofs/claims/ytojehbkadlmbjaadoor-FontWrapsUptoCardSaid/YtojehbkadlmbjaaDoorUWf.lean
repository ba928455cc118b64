/- font.Wrap's loop and the law's own end alike, from every state. Conditions: stated. -/
import Derived.Test.YtojehbkadlmbjaaDoorUWe
namespace Go.Proofs.YtojehbkadlmbjaaDoor.U
open Go.RowKit Go.Proofs.YtojehbkadlmbjaaDoor.Q Go.Proofs.YtojehbkadlmbjaaDoorW.PrintWords Go.Proofs.YtojehbkadlmbjaaDoorW.PrintLast Go.Proofs.YtojehbkadlmbjaaDoorW.PrintMore
set_option linter.unusedSimpArgs false
set_option linter.unusedVariables false

theorem rd_drop (W : List ByteArray) (j : Nat) (w : ByteArray) (ws : List ByteArray) (h : W.drop j = w :: ws) : j < W.length ∧ W.drop (j + 1) = ws ∧ rdOf ByteArray.empty W (j : Int) = w := by
  have hj : j < W.length := by
    refine Classical.byContradiction fun c => ?_
    rw [List.drop_eq_nil_of_le (by omega)] at h
    cases h
  have e := List.drop_eq_getElem_cons hj
  rw [e] at h
  obtain ⟨h1, h2⟩ := List.cons.inj h
  refine ⟨hj, h2, ?_⟩
  unfold rdOf
  simp [hj, h1]

/-- A word that is too wide: the law's fault from here on. -/
theorem wide_word (x1 x2 : Int) (z1 : 1 ≤ x1) (z8 : x1 ≤ 8) (W : List ByteArray) (hl : W.length ≤ 1000) (hW : ∀ w ∈ W, w.size ≤ 4000000000000) (j : Nat) (hj : j < W.length) (x15 : List ByteArray) (hx : x15.length ≤ j) (hb : ∀ w ∈ x15, w.size ≤ 4000000000000)
    (hp : Plain (rdOf ByteArray.empty W (j : Int))) (hw : x1 * widthOf (rdOf ByteArray.empty W (j : Int)) > x2) (k : Nat) (hk : 3 * W.length + 140 ≤ k)
    (h0 : terrlaw5_FontWraps.l2 k x1 x2 [] 17 17 x15 W (W.length : Int) (j : Int) = some true) :
    terrlaw5_FontWraps.l2 k x1 x2 [] 17 0 x15 W (W.length : Int) (j : Int) = some true := by
  obtain ⟨k, rfl⟩ : ∃ m, k = m + 2 := ⟨k - 2, by omega⟩
  have hs := (both_good _ hp x1 z1 z8 (k + 1) (by omega)).2
  rw [terrlaw5_FontWraps.l2, if_pos (by omega), if_pos (by omega), if_pos (by omega), hs, Option.bind_some] at h0 ⊢
  rw [if_neg (by decide), terrlaw5_FontWraps.j6, if_neg (by decide)] at h0
  rw [if_pos rfl, terrlaw5_FontWraps.j6, decide_eq_true hw, if_pos rfl]
  exact h0

end Go.Proofs.YtojehbkadlmbjaaDoor.U

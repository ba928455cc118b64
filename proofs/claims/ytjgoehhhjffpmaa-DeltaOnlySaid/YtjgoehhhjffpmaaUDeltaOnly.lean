/- The pure statement of DeltaOnly: bytes that are read are just those that are written. No condition but the statement's own. -/
import Derived.Test.YtjgoehhhjffpmaaUW
import Derived.Test.YtjgoehhhjffpmaaQDeltaOnly
namespace Go.Proofs.Ytjgoehhhjffpmaa.U
open Go.RowKit Go.Proofs.Ytjgoehhhjffpmaa.Q Go.Proofs.YtjgoehhhjffpmaaW.PrintWords Go.Proofs.YtjgoehhhjffpmaaW.PrintLast Go.Proofs.YtjgoehhhjffpmaaW.PrintMore
set_option linter.unusedSimpArgs false
set_option linter.unusedVariables false

theorem rt_form : rt [128, 0] = (0, [], 3) := by
  unfold rt
  simp [tk]
theorem only (lim : Nat) (hlim : lim = 140737488355328) (b : List Int) (hb : Bytes b) (hl : b.length + 100 < lim) : ∃ k, terrkeep5_DeltaOnly.f k b = some true := by
  have join : ∃ K, ∀ k, K ≤ k → terrkeep5_DeltaOnly.j0 k b false = some true := by
    obtain ⟨⟨ls, rest, e⟩, hR⟩ : ∃ r, r = R b := ⟨_, rfl⟩
    obtain ⟨p1, p2⟩ := R_inv hb hR.symm
    by_cases c : e = 0
    · obtain ⟨q1, q2, q3, q4⟩ := p1 c
      obtain ⟨K, hK⟩ := write_enc lim hlim ls q2 q3
      have hlen := congrArg List.length q1
      rw [List.length_append] at hlen
      refine ⟨K + 50 + b.length, fun k hk => ?_⟩
      obtain ⟨m, rfl⟩ : ∃ m, k = (m + 6) + 1 := ⟨k - 7, by omega⟩
      rw [terrkeep5_DeltaOnly.j0, if_neg (by decide), read_R lim hlim b hb (by omega) _ (by omega), Option.bind_some, ← hR]
      dsimp only
      rw [if_pos c, hK _ (by omega), Option.bind_some, if_pos rfl]
      dsimp only
      rw [concat2 lim hlim _ _ (by omega), Option.bind_some, ← q1, eq_self b (by omega) _ (by omega), Option.bind_some]
    · obtain ⟨rfl, rfl⟩ := p2 c
      refine ⟨50, fun k hk => ?_⟩
      obtain ⟨m, rfl⟩ : ∃ m, k = m + 1 := ⟨k - 1, by omega⟩
      rw [terrkeep5_DeltaOnly.j0, if_neg (by decide), read_R lim hlim b hb (by omega) _ (by omega), Option.bind_some, ← hR]
      dsimp only
      rw [if_neg c]
      rfl
  obtain ⟨K, hK⟩ := join
  refine ⟨K + 50 + b.length + 6, ?_⟩
  have hb2 : Bytes [128, 0] := by intro x hx; simp at hx; omega
  rw [terrkeep5_DeltaOnly.f, take_rt lim hlim [128, 0] hb2 (by simp; omega) _ (by omega), Option.bind_some, rt_form, if_pos rfl, take_rt lim hlim b hb (by omega) _ (by omega), Option.bind_some]
  obtain ⟨⟨V, rest, e⟩, hV⟩ : ∃ r, r = tk 0 b := ⟨_, rfl⟩
  rw [rt, ← hV]
  by_cases c : e = 0
  · rw [c] at hV
    obtain ⟨q1, q2⟩ := tk_enc hb hV.symm
    have hlen := congrArg List.length q1
    rw [List.length_append] at hlen
    rw [if_pos c, if_pos rfl, num_enc lim hlim q2 _ _ (by omega) (by simp; omega), Option.bind_some, List.nil_append]
    dsimp only
    rw [concat2 lim hlim _ _ (by omega), Option.bind_some, ← q1, eq_self b (by omega) _ (by omega), Option.bind_some]
    exact hK _ (by omega)
  · rw [if_neg c, if_neg c]
    exact hK _ (by omega)
end Go.Proofs.Ytjgoehhhjffpmaa.U
namespace Go.Proofs.Ytjgoehhhjffpmaa.Pure
open Go.RowKit Go.Proofs.Ytjgoehhhjffpmaa.Q
theorem DeltaOnly : terrkeep5_DeltaOnly.Pure := by
  intro l0 _ hl hw
  refine U.only 140737488355328 rfl l0 (fun x hx => ?_) (by omega)
  have := hw x hx
  simp only [Lit.wf, Bool.and_eq_true, decide_eq_true_eq] at this
  exact this
end Go.Proofs.Ytjgoehhhjffpmaa.Pure

/- Widths of texts add up, and grow with the size: for all texts of at most 40 plain characters that the law makes. No condition. -/
import Derived.Test.YtojehbkadlmbjaaUF
import Derived.Test.YtojehbkadlmbjaaQFontSums
namespace Go.Proofs.Ytojehbkadlmbjaa.Pure
open Go.RowKit Go.Proofs.Ytojehbkadlmbjaa.Q Go.Proofs.Ytojehbkadlmbjaa.U Go.Proofs.YtojehbkadlmbjaaW.PrintWords Go.Proofs.YtojehbkadlmbjaaW.PrintLast Go.Proofs.YtojehbkadlmbjaaW.PrintMore
set_option linter.unusedSimpArgs false
set_option linter.unusedVariables false

theorem FontSums : terrkeep5_FontSums.Pure := by
  intro l a1 a2 _ _ _ _ _
  obtain ⟨K, hK⟩ : ∃ K : Nat, 50 ≤ K := ⟨50, Nat.le_refl _⟩
  obtain ⟨s, es, hs⟩ := text_in l K hK
  have h40 := hs.1
  have e0 : wrap64 ((s.size : Int) + 1) = (s.size : Int) + 1 := wrapF (by omega) (by omega)
  obtain ⟨n, en, n0, n1⟩ := belowF a1 ((s.size : Int) + 1) (by omega) (by omega)
  obtain ⟨z, ez, z0, z1⟩ := belowF a2 7 (by decide) (by decide)
  obtain ⟨k, hk⟩ : ∃ k : Nat, n = (k : Int) := ⟨n.toNat, by omega⟩
  subst hk
  have hks : k ≤ s.size := by omega
  have w1 : wrap64 (1 + z) = 1 + z := wrapF (by omega) (by omega)
  have w2 : wrap64 (1 + z + 1) = 1 + z + 1 := wrapF (by omega) (by omega)
  have p1 := plain_extract s hs 0 k hks
  have p2 := plain_extract s hs k s.size (Nat.le_refl _)
  have S0 := size_in s hs (1 + z) (by omega) (by omega) K hK
  have S1 := size_in _ p1 (1 + z) (by omega) (by omega) K hK
  have S2 := size_in _ p2 (1 + z) (by omega) (by omega) K hK
  have S3 := size_in s hs (1 + z + 1) (by omega) (by omega) K hK
  have parts := widthOf_parts s k hks
  have b0 := widthOf_bd s hs
  have b1 := widthOf_bd _ p1
  have b2 := widthOf_bd _ p2
  generalize widthOf (s.extract 0 k) = B at *
  generalize widthOf (s.extract k s.size) = C at *
  generalize widthOf s = A at *
  have m0 := Int.mul_nonneg b0.1 (show 0 ≤ 1 + z by omega)
  have m1 := Int.mul_le_mul b0.2 (show 1 + z ≤ 7 by omega) (show 0 ≤ 1 + z by omega) (show (0 : Int) ≤ 240 by decide)
  have e3 : A * (1 + z + 1) = A * (1 + z) + A := by rw [Int.mul_add A (1 + z) 1, Int.mul_one]
  have e4 : B * (1 + z) + C * (1 + z) = A * (1 + z) := by rw [← Int.add_mul, parts]
  have q0 : wrap64 (B * (1 + z) + C * (1 + z)) = A * (1 + z) := by rw [e4, wrapF (by omega) (by omega)]
  have q1 : wrap64 (A * (1 + z + 1) * (1 + z)) = wrap64 (A * (1 + z) * (1 + z + 1)) := by rw [Int.mul_assoc, Int.mul_comm (1 + z + 1) (1 + z), ← Int.mul_assoc]
  have q2 : wrap64 (6 * (1 + z) + 6) = 6 * (1 + z + 1) := by rw [wrapF (by omega) (by omega)]; omega
  have q3 : wrap64 (6 * (1 + z)) = 6 * (1 + z) := wrapF (by omega) (by omega)
  refine ⟨K, ?_⟩
  unfold terrkeep5_FontSums.f
  rw [es, Option.bind_some, e0, en, Option.bind_some, ez, Option.bind_some, w1, S0, Option.bind_some, if_pos n0, if_pos (by omega), Int.toNat_natCast, S1, Option.bind_some, S2, Option.bind_some, w2, S3, Option.bind_some]
  dsimp only
  rw [if_pos rfl, if_pos rfl, if_pos rfl, if_pos rfl, q0, if_pos rfl, q1, if_pos rfl, q2, if_pos rfl, q3]
  simp

end Go.Proofs.Ytojehbkadlmbjaa.Pure

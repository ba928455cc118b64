/- The loop that lays the words in lines: the law's own and font.Wrap's. Conditions: stated at each. -/
import Derived.Test.YtojehbkadlmbjaaDoorUWa
namespace Go.Proofs.YtojehbkadlmbjaaDoor.U
open Go.RowKit Go.Proofs.YtojehbkadlmbjaaDoor.Q Go.Proofs.YtojehbkadlmbjaaDoorW.PrintWords Go.Proofs.YtojehbkadlmbjaaDoorW.PrintLast Go.Proofs.YtojehbkadlmbjaaDoorW.PrintMore
set_option linter.unusedSimpArgs false
set_option linter.unusedVariables false

theorem size_app (a b : ByteArray) : (a ++ b).size = a.size + b.size := ByteArray.size_append

/-- Some answer of TextSize, at some round on. -/
theorem size_any (s : ByteArray) (size : Int) : ∃ t : Int × Int × Int, ∀ k, 120 ≤ k → terrref5_TextSize.f k s size = some t := by
  by_cases c : 1 ≤ size ∧ size ≤ 8 ∧ Plain s
  · exact ⟨_, fun k hk => (both_good s c.2.2 size c.1 c.2.1 k hk).2⟩
  · obtain ⟨e, -, -, h⟩ := both_bad s size c 120 (Nat.le_refl _)
    exact ⟨_, fun k hk => at_rounds (terrref5_TextSize.mono _ _) hk h⟩

theorem rd_mem (l : List ByteArray) (j : Nat) (h : j < l.length) : rdOf ByteArray.empty l (j : Int) ∈ l := by
  have e : rdOf ByteArray.empty l (j : Int) = l[j] := by
    unfold rdOf
    simp [h]
  rw [e]
  exact List.getElem_mem h

/-- A fault that stays: the law's loop ends true. -/
theorem fault_loop (x1 x2 : Int) (e : Int) (he : e ≠ 0) (W : List ByteArray) (hW : ∀ w ∈ W, w.size ≤ 4000000000000) (hl : W.length ≤ 4000000000001) :
    ∀ (d j : Nat) (x15 : List ByteArray) (k : Nat), j + d = W.length → 3 * d + 130 ≤ k → x15.length ≤ j → (∀ w ∈ x15, w.size ≤ 4000000000000) →
    terrlaw5_FontWraps.l2 k x1 x2 [] e e x15 W (W.length : Int) (j : Int) = some true := by
  intro d
  induction d with
  | zero =>
    intro j x15 k hj hk _ _
    obtain ⟨k, rfl⟩ : ∃ m, k = m + 1 := ⟨k - 1, by omega⟩
    rw [terrlaw5_FontWraps.l2, if_neg (by omega), if_neg he, if_pos rfl]
    rfl
  | succ d ih =>
    intro j x15 k hj hk hx hb
    obtain ⟨k, rfl⟩ : ∃ m, k = m + 3 := ⟨k - 3, by omega⟩
    have e2 : wrap64 ((j : Int) + 1) = ((j + 1 : Nat) : Int) := by rw [wrapF (by omega) (by omega)]; omega
    have hw := hW _ (rd_mem W j (by omega))
    obtain ⟨t, ht⟩ := size_any (rdOf ByteArray.empty W (j : Int)) x1
    have happ : ∀ w ∈ x15 ++ [rdOf ByteArray.empty W (j : Int)], w.size ≤ 4000000000000 := by
      intro w h
      rcases List.mem_append.1 h with h | h
      · exact hb w h
      · rw [List.mem_singleton.1 h]; exact hw
    have hnew := ih (j + 1) (x15 ++ [rdOf ByteArray.empty W (j : Int)]) k (by omega) (by omega) (by simp; omega) happ
    rw [terrlaw5_FontWraps.l2, if_pos (by omega), if_pos (by omega), if_pos (by omega), ht _ (by omega), Option.bind_some, if_neg he, terrlaw5_FontWraps.j6, if_neg (by decide), terrlaw5_FontWraps.j7]
    have e3 : wrap64 ((x15.length : Int) - 1) = (x15.length : Int) - 1 := wrapF (by omega) (by omega)
    rw [e3]
    by_cases c : (x15.length : Int) - 1 ≥ 0
    · obtain ⟨n, hn⟩ : ∃ n, x15.length = n + 1 := ⟨x15.length - 1, by omega⟩
      have e4 : (x15.length : Int) - 1 = (n : Int) := by omega
      have hlast := hb _ (rd_mem x15 n (by omega))
      rw [e4]
      have z1 : (⟨#[32]⟩ : ByteArray).size = 1 := rfl
      obtain ⟨t2, ht2⟩ := size_any (((rdOf ByteArray.empty x15 (n : Int)) ++ (⟨#[32]⟩ : ByteArray)) ++ (rdOf ByteArray.empty W (j : Int))) x1
      rw [if_pos (by omega), if_pos (by omega), if_pos (by omega), if_pos (by omega), if_pos (by rw [size_app, z1]; omega), ht2 _ (by omega), Option.bind_some]
      by_cases c1 : t2.2.2 = 0
      · rw [if_pos c1]
        by_cases c2 : t2.1 ≤ x2
        · have h40 : ((rdOf ByteArray.empty x15 (n : Int)) ++ ((⟨#[32]⟩ : ByteArray) ++ (rdOf ByteArray.empty W (j : Int)))).size ≤ 4000000000000 := by
            by_cases g : 1 ≤ x1 ∧ x1 ≤ 8 ∧ Plain (((rdOf ByteArray.empty x15 (n : Int)) ++ (⟨#[32]⟩ : ByteArray)) ++ (rdOf ByteArray.empty W (j : Int)))
            · have := g.2.2.1
              rw [size_app, size_app] at this ⊢
              omega
            · obtain ⟨e', he', -, h'⟩ := both_bad _ _ g 120 (Nat.le_refl _)
              have := (ht2 120 (Nat.le_refl _)).symm.trans h'
              rw [Option.some.inj this] at c1
              exact absurd c1 he'
          rw [if_pos c2, if_pos (by omega), if_pos (by rw [size_app, z1]; omega), e2, Int.toNat_natCast]
          refine ih (j + 1) _ k (by omega) (by omega) (by rw [List.length_set]; omega) ?_
          intro w h
          rcases List.mem_or_eq_of_mem_set h with h | h
          · exact hb w h
          · rw [h]; exact h40
        · rw [if_neg c2, if_pos (by omega), e2]
          exact hnew
      · rw [if_neg c1, if_pos (by omega), e2]
        exact hnew
    · rw [if_neg c, if_pos (by omega), e2]
      exact hnew

end Go.Proofs.YtojehbkadlmbjaaDoor.U

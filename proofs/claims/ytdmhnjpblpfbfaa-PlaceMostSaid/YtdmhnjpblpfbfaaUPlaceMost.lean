/- PlaceMost's pure statement: the law's function answers true for all lists. No condition. -/
import Derived.Test.YtdmhnjpblpfbfaaUPd
import Derived.Test.YtdmhnjpblpfbfaaUPw
import Derived.Test.YtdmhnjpblpfbfaaQPlaceMost
namespace Go.Proofs.Ytdmhnjpblpfbfaa.U
open Go.RowKit Go.Proofs.Ytdmhnjpblpfbfaa.Q Go.Proofs.YtdmhnjpblpfbfaaW.PrintWords Go.Proofs.YtdmhnjpblpfbfaaW.PrintLast Go.Proofs.YtdmhnjpblpfbfaaW.PrintMore
set_option linter.unusedSimpArgs false
set_option linter.unusedVariables false
theorem placed_ev : Ev (fun k => terrkeep5_placed.f k) true := ⟨30, by kernel_rfl⟩
theorem most_loop {L : List S36} (h : Chk L) {p : List Int} (hp : p.length = L.length) (n : Int) : ∀ d i (a : Int), i + d = p.length → 0 ≤ a → a ≤ 1000 * (i : Int) → ∀ k, d + 1 ≤ k → terrkeep5_PlaceMost.l0 k L n a p (p.length : Int) (i : Int) = some (a + P.val (wgL L) i (p.drop i) == n)
  | 0, i, a, hi, h0, h1, k, hk => by
    obtain ⟨k, rfl⟩ : ∃ k', k = k' + 1 := ⟨k - 1, by omega⟩
    rw [terrkeep5_PlaceMost.l0, if_neg (by omega), List.drop_of_length_le (by omega), P.val, Int.add_zero]
  | d + 1, i, a, hi, h0, h1, k, hk => by
    obtain ⟨k, rfl⟩ : ∃ k', k = k' + 1 := ⟨k - 1, by omega⟩
    have hm := h.many
    have hlt : i < p.length := by omega
    have w : wrap64 ((i : Int) + 1) = ((i + 1 : Nat) : Int) := by rw [wrap64_eq _ (by omega) (by omega)]; omega
    have hg : p[i] = rd p (i : Int) := by unfold rd; simp [List.getD, hlt]
    rw [terrkeep5_PlaceMost.l0, if_pos (by omega), if_pos (by omega), if_pos (by omega), w, List.drop_eq_getElem_cons hlt, P.val, hg, P.wgt]
    have b0 := h.w0 i (by omega)
    have b1 := h.w1 i (by omega)
    by_cases c : rd p (i : Int) ≥ 0
    · have w2 : wrap64 (a + (rd_T36 L (i : Int)).f2) = a + (rd_T36 L (i : Int)).f2 := wrap64_eq _ (by omega) (by omega)
      rw [if_pos c, if_pos (by omega), w2, most_loop h hp n d (i + 1) _ (by omega) (by omega) (by omega) k (by omega), if_pos c, wgL]
      congr 2; omega
    · rw [if_neg c, most_loop h hp n d (i + 1) a (by omega) h0 (by omega) k (by omega), if_neg c]
      congr 2; omega
end Go.Proofs.Ytdmhnjpblpfbfaa.U
namespace Go.Proofs.Ytdmhnjpblpfbfaa.Pure
open Go.RowKit Go.Proofs.Ytdmhnjpblpfbfaa.Q Go.Proofs.Ytdmhnjpblpfbfaa.U Go.Proofs.YtdmhnjpblpfbfaaW.PrintWords Go.Proofs.YtdmhnjpblpfbfaaW.PrintLast Go.Proofs.YtdmhnjpblpfbfaaW.PrintMore
theorem PlaceMost : terrkeep5_PlaceMost.Pure := by
  intro l _ _ _
  obtain ⟨k0, h0⟩ := placed_ev
  obtain ⟨k1, hc⟩ := wantsL_check l
  obtain ⟨L, hL⟩ : ∃ L, L = wantsL l := ⟨_, rfl⟩
  simp only at h0 hc
  rw [← hL] at hc
  have hC := check_ok hc
  have hm := hC.many
  obtain ⟨s1, s2, s3⟩ := best_spec hC
  obtain ⟨g1, g2⟩ := grd_sel (L := L) L.length [] 0 (Nat.zero_add _) (fun i h => absurd h (Nat.not_lt_zero _)) rfl rfl
  obtain ⟨b2, ⟨k2, h2⟩, i2⟩ := clear_ev (L := L) (by omega) (bestL L).1
  obtain ⟨b3, ⟨k3, h3⟩, i3⟩ := clear_ev (L := L) (by omega) (grd L L.length [] 0).1
  obtain rfl := i2.2 s1
  obtain rfl := i3.2 g1
  simp only at h2 h3
  have hle : (grd L L.length [] 0).2 ≤ (bestL L).2 := by
    rw [g2]
    rcases s3 _ g1 with q | ⟨q, _⟩ <;> omega
  have hl := most_loop hC s1.1 (bestL L).2 (bestL L).1.length 0 0 (Nat.zero_add _) (Int.le_refl _) (by simp)
  have hv : (0 + P.val (wgL L) 0 ((bestL L).1.drop 0) == (bestL L).2) = true := by
    rw [Int.zero_add, List.drop_zero, beq_iff_eq]; exact s2
  rw [hv] at hl
  have hl := hl (k0 + k1 + k2 + k3 + (bestL L).1.length + 1) (by omega)
  obtain ⟨K, hK⟩ : ∃ K, K = k0 + k1 + k2 + k3 + (bestL L).1.length + 1 := ⟨_, rfl⟩
  rw [← hK] at hl
  have hj : terrkeep5_PlaceMost.j0 (K + 1) L (bestL L).1 (bestL L).2 false = some true := by rw [terrkeep5_PlaceMost.j0, if_neg (by simp)]; exact hl
  refine ⟨K + 1, ?_⟩
  have gc := up (place_Check.mono L) (by omega : k1 ≤ K + 1) hc
  have e1 : (srch L (restG L 0) L.length [] 0 ([], -1)) = bestL L := rfl
  have el : ((bestL L).1.length : Int) = (L.length : Int) := by rw [s1.1]
  unfold terrkeep5_PlaceMost.f
  rw [up terrkeep5_placed.mono (by omega : k0 ≤ K + 1) h0, Option.bind_some, if_pos rfl, wantsL_eq, Option.bind_some, ← hL, place_Best.f, gc, Option.bind_some, if_pos rfl, Option.bind_some, place_Greedy.f, gc, Option.bind_some, if_pos rfl, Option.bind_some, if_pos rfl, if_pos rfl]
  simp only [e1]
  rw [if_pos el, up (place_Clear.mono L (bestL L).1) (by omega : k2 ≤ K + 1) h2, Option.bind_some, if_pos rfl, up (place_Clear.mono L (grd L L.length [] 0).1) (by omega : k3 ≤ K + 1) h3, Option.bind_some, if_pos rfl, decide_eq_false (by omega : ¬ (bestL L).2 < (grd L L.length [] 0).2)]
  exact hj
end Go.Proofs.Ytdmhnjpblpfbfaa.Pure

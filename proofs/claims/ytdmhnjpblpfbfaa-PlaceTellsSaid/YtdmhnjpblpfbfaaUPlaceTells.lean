/- PlaceTells' pure statement: the law's function answers true for all labels and choices. No condition. -/
import Derived.Test.YtdmhnjpblpfbfaaUPc
import Derived.Test.YtdmhnjpblpfbfaaQPlaceTells
namespace Go.Proofs.Ytdmhnjpblpfbfaa.U
open Go.RowKit Go.Proofs.Ytdmhnjpblpfbfaa.Q Go.Proofs.YtdmhnjpblpfbfaaW.PrintWords Go.Proofs.YtdmhnjpblpfbfaaW.PrintLast Go.Proofs.YtdmhnjpblpfbfaaW.PrintMore
set_option linter.unusedSimpArgs false
set_option linter.unusedVariables false
theorem alone_ev : Ev (fun k => terrlaw5_alone.f k) true := ⟨30, by kernel_rfl⟩
/-! ### Equal, Compare -/
theorem equal_loop (a : List Int) (ha : a.length ≤ 1000000) : ∀ d i, i + d = a.length → slices_Equal_int_int.l0 (d + 1) a a (a.length : Int) (i : Int) = some true
  | 0, i, hi => by rw [slices_Equal_int_int.l0, if_neg (by omega)]
  | d + 1, i, hi => by
    have w : wrap64 ((i : Int) + 1) = ((i + 1 : Nat) : Int) := by rw [wrap64_eq _ (by omega) (by omega)]; omega
    rw [slices_Equal_int_int.l0, if_pos (by omega), if_pos (by omega), if_pos (by omega), if_pos (by omega), if_pos rfl, w]
    exact equal_loop a ha d (i + 1) (by omega)
theorem equal_ev (a : List Int) (ha : a.length ≤ 1000000) : Ev (fun k => slices_Equal_int_int.f k a a) true :=
  ⟨a.length + 1, by simp only; unfold slices_Equal_int_int.f; rw [if_pos rfl]; exact equal_loop a ha a.length 0 (Nat.zero_add _)⟩
theorem cmp_eq (x y : Int) : cmp_Compare_int.f x y = some (if x < y then -1 else if x > y then 1 else 0) := by
  unfold cmp_Compare_int.f cmp_isNaN_int.f
  simp only [bne_self_eq_false, Option.bind_some]
  rw [if_neg (by simp), if_neg (by simp)]
  split <;> (try split) <;> rfl
theorem compare_loop (a b : List Int) (hl : a.length = b.length) (ha : a.length ≤ 1000000) : ∀ d i, i + d = a.length → ∃ c, Ev (fun k => slices_Compare_int_int.l0 k a b a (a.length : Int) (i : Int)) c ∧ (c < 0 ↔ P.lexlt (a.drop i) (b.drop i))
  | 0, i, hi => by
    refine ⟨0, ⟨1, ?_⟩, ?_⟩
    · simp only
      rw [slices_Compare_int_int.l0, if_neg (by omega), if_neg (by omega)]
    · rw [List.drop_of_length_le (by omega), List.drop_of_length_le (by omega)]
      simp [P.lexlt]
  | d + 1, i, hi => by
    obtain ⟨c, ⟨k, hk⟩, hc⟩ := compare_loop a b hl ha d (i + 1) (by omega)
    simp only at hk
    have w : wrap64 ((i : Int) + 1) = ((i + 1 : Nat) : Int) := by rw [wrap64_eq _ (by omega) (by omega)]; omega
    have h1 : i < a.length := by omega
    have h2 : i < b.length := by omega
    have g1 : a[i] = rd a (i : Int) := by unfold rd; simp [List.getD, h1]
    have g2 : b[i] = rd b (i : Int) := by unfold rd; simp [List.getD, h2]
    rw [List.drop_eq_getElem_cons h1, List.drop_eq_getElem_cons h2, g1, g2]
    by_cases e : rd a (i : Int) = rd b (i : Int)
    · refine ⟨c, ⟨k + 1, ?_⟩, ?_⟩
      · simp only
        rw [slices_Compare_int_int.l0, if_pos (by omega), if_pos (by omega), if_pos (by omega), if_neg (by omega), if_pos (by omega), cmp_eq, Option.bind_some, if_neg (by omega : ¬ rd a (i : Int) < rd b (i : Int)), if_neg (by omega : ¬ rd a (i : Int) > rd b (i : Int)), if_pos rfl, w, hk]
      · rw [hc, P.lexlt]
        exact ⟨fun h => .inr ⟨e, h⟩, fun h => h.elim (fun h => by omega) (fun h => h.2)⟩
    · refine ⟨if rd a (i : Int) < rd b (i : Int) then -1 else 1, ⟨1, ?_⟩, ?_⟩
      · simp only
        rw [slices_Compare_int_int.l0, if_pos (by omega), if_pos (by omega), if_pos (by omega), if_neg (by omega), if_pos (by omega), cmp_eq, Option.bind_some]
        by_cases q : rd a (i : Int) < rd b (i : Int)
        · rw [if_pos q, if_neg (by decide), if_pos q]
        · rw [if_neg q, if_pos (show rd a (i : Int) > rd b (i : Int) by omega), if_neg (by decide), if_neg q]
      · rw [P.lexlt]
        by_cases q : rd a (i : Int) < rd b (i : Int)
        · rw [if_pos q]
          exact ⟨fun _ => .inl q, fun _ => by decide⟩
        · rw [if_neg q]
          exact ⟨fun h => absurd h (by decide), fun h => h.elim (fun h => absurd h q) (fun h => absurd h.1 e)⟩
theorem compare_ev (a b : List Int) (hl : a.length = b.length) (ha : a.length ≤ 1000000) : ∃ c, Ev (fun k => slices_Compare_int_int.f k a b) c ∧ (c < 0 ↔ P.lexlt a b) := by
  obtain ⟨c, ⟨k, hk⟩, hc⟩ := compare_loop a b hl ha a.length 0 (Nat.zero_add _)
  exact ⟨c, ⟨k, by simp only at hk ⊢; unfold slices_Compare_int_int.f; exact hk⟩, hc⟩
/-! ### bestOf -/
/-- A choice's worth, -1 where it is not possible. -/
def v1 (L : List S36) (p : List Int) : Int := if allB L p p.length 0 = true then valL L p else -1
theorem lexlt_asymm : ∀ a b : List Int, P.lexlt a b → ¬ P.lexlt b a
  | [], [], h, _ => h
  | [], _ :: _, _, h => h
  | _ :: _, [], h, _ => h
  | x :: a, y :: b, h, h' => by
    rcases h with h | ⟨h, h2⟩ <;> rcases h' with h' | ⟨h', h2'⟩
    · omega
    · omega
    · omega
    · exact lexlt_asymm a b h2 h2'
theorem set_at (a : List Int) (x y : Int) (b : List Int) : (a ++ x :: b).set a.length y = a ++ y :: b := by
  rw [List.set_append_right _ _ (Nat.le_refl _), Nat.sub_self]; rfl
theorem full_cons {nb : Nat → Nat} {i : Nat} {x : Int} {b : List Int} (hx : x = (nb i : Int) - 1) (h : P.Full nb (i + 1) b) : P.Full nb i (x :: b) := ⟨hx, h⟩
theorem rng_at {nb : Nat → Nat} : ∀ (a : List Int) (x : Int) (b : List Int) (i : Nat), P.Rng nb i (a ++ x :: b) → -1 ≤ x ∧ x < (nb (i + a.length) : Int)
  | [], x, b, i, h => h.1
  | y :: a, x, b, i, h => by
    have := rng_at a x b (i + 1) h.2
    rw [List.length_cons, show i + (a.length + 1) = i + 1 + a.length by omega]
    exact this
theorem l2_ev {L : List S36} (hC : Chk L) (best : List Int) (top : Int) (r : List Int) : ∀ (n : Nat) (a b : List Int), a.length = n → (a ++ b).length = L.length → P.Rng (nbL L) 0 (a ++ b) → P.Full (nbL L) a.length b →
    (P.nxt (nbL L) 0 (a ++ b) = none → r = best) → (∀ ys, P.nxt (nbL L) 0 (a ++ b) = some ys → Ev (fun k => terrlaw5_bestOf.l1 k L best top ys) r) →
    Ev (fun k => terrlaw5_bestOf.l2 k L best top (a ++ List.replicate b.length (-1)) ((a.length : Int) - 1)) r
  | 0, a, b, hn, hl, hr, hf, h0, h1 => by
    obtain rfl := List.length_eq_zero_iff.1 hn
    have e := P.full_none (nbL L) b 0 hf
    refine ⟨1, ?_⟩
    simp only
    rw [terrlaw5_bestOf.l2, if_neg (by simp), if_pos (by simp), h0 e]
  | n + 1, a, b, hn, hl, hr, hf, h0, h1 => by
    obtain ⟨a', x, rfl⟩ : ∃ a' x, a = a' ++ [x] := ⟨a.dropLast, a.getLast (by intro h; rw [h] at hn; cases hn), (List.dropLast_concat_getLast _).symm⟩
    have hm := hC.many
    have ea : (a' ++ [x]).length = a'.length + 1 := by rw [List.length_append]; rfl
    have en : a'.length = n := by omega
    have e0 : a' ++ [x] ++ b = a' ++ x :: b := by rw [List.append_assoc]; rfl
    have e1 : a' ++ [x] ++ List.replicate b.length (-1) = a' ++ x :: List.replicate b.length (-1) := by rw [List.append_assoc]; rfl
    rw [ea] at hf
    rw [e0] at hl hr h0 h1
    have hx := rng_at a' x b 0 hr
    rw [Nat.zero_add] at hx
    have hlen : (a' ++ x :: List.replicate b.length (-1)).length = L.length := by rw [← hl]; simp
    have hlt : a'.length < L.length := by rw [← hl]; simp
    have hnb := nbL_lt hC a'.length
    have ei : ((a' ++ [x]).length : Int) - 1 = (a'.length : Int) := by rw [ea]; omega
    have w1 : wrap64 (((rd_T36 L (a'.length : Int)).f1.length : Int) - 1) = (nbL L a'.length : Int) - 1 := by unfold nbL at hnb ⊢; rw [wrap64_eq _ (by omega) (by omega)]
    have w2 : wrap64 ((a'.length : Int) - 1) = (a'.length : Int) - 1 := wrap64_eq _ (by omega) (by omega)
    have w3 : wrap64 (x + 1) = x + 1 := wrap64_eq _ (by omega) (by omega)
    rw [e1, ei]
    by_cases c : x = (nbL L a'.length : Int) - 1
    · obtain ⟨k, hk⟩ := l2_ev hC best top r n a' (x :: b) en hl hr (full_cons c hf) h0 h1
      refine ⟨k + 1, ?_⟩
      simp only at hk ⊢
      rw [terrlaw5_bestOf.l2, if_pos (by omega), if_pos (by omega), if_pos (by omega), if_pos (by omega), rd_append, w1, if_pos c, Int.toNat_natCast, set_at, w2]
      exact hk
    · obtain ⟨k, hk⟩ := h1 _ (P.nxt_at (nbL L) a' x b 0 (by rw [Nat.zero_add]; exact hf) (by rw [Nat.zero_add]; omega))
      refine ⟨k + 1, ?_⟩
      simp only at hk ⊢
      rw [terrlaw5_bestOf.l2, if_pos (by omega), if_pos (by omega), if_pos (by omega), if_pos (by omega), rd_append, w1, if_neg c, if_neg (by omega), Int.toNat_natCast, set_at, w3]
      exact hk
theorem l1_ev {L : List S36} (hC : Chk L) : ∀ (N : Nat) (now best : List Int) (top : Int), P.rk (nbL L) 7 0 now ≤ N → now.length = L.length → P.Rng (nbL L) 0 now →
    P.Bst (fun p => (P.Rng (nbL L) 0 p ∧ p.length = L.length) ∧ P.lexlt p now) (v1 L) ([], -1) (best, top) →
    ∃ r top', Ev (fun k => terrlaw5_bestOf.l1 k L best top now) r ∧ P.Bst (fun p => P.Rng (nbL L) 0 p ∧ p.length = L.length) (v1 L) ([], -1) (r, top')
  | N, now, best, top, hN, hl, hr, hb => by
    have hm := hC.many
    have hw := worth_ev hC hl ((inB_rng now).2 hr)
    obtain ⟨bt, hbt⟩ : ∃ bt, bt = (if v1 L now > ((best, top) : List Int × Int).2 then (now, v1 L now) else (best, top)) := ⟨_, rfl⟩
    have hone := P.Bst_one (S := fun q => q = now) (v := v1 L) (bt := (best, top)) (p := now) (fun q => Iff.rfl)
    rw [← hbt] at hone
    have hc := P.Bst_comp hb hone (fun a b ha hb => by rw [hb]; exact lexlt_asymm a now ha.2)
    have go : ∀ r, Ev (fun k => terrlaw5_bestOf.l2 k L bt.1 bt.2 now ((now.length : Int) - 1)) r → Ev (fun k => terrlaw5_bestOf.l1 k L best top now) r := by
      intro r hr2
      obtain ⟨k1, h1⟩ := hw
      obtain ⟨k2, h2⟩ := hr2
      simp only at h1 h2
      refine ⟨max k1 (k2 + 1) + 1, ?_⟩
      have w2 : wrap64 ((now.length : Int) - 1) = (now.length : Int) - 1 := wrap64_eq _ (by omega) (by omega)
      have hj : terrlaw5_bestOf.j2 (k2 + 1) L bt.1 bt.2 now = some r := by rw [terrlaw5_bestOf.j2, w2]; exact h2
      have hj := up (g := fun k => terrlaw5_bestOf.j2 k L bt.1 bt.2 now) (fun k => (terrlaw5_bestOf.mono_l k).2.2.1 _ _ _ _) (Nat.le_max_right k1 (k2 + 1)) hj
      have h1 := up (g := fun k => terrlaw5_worth.f k L now) (terrlaw5_worth.mono L now) (Nat.le_max_left k1 (k2 + 1)) h1
      simp only at hj h1 ⊢
      rw [terrlaw5_bestOf.l1, h1, Option.bind_some]
      have ev : (if allB L now now.length 0 = true then valL L now else -1) = v1 L now := rfl
      rw [ev]
      by_cases c : v1 L now > top
      · rw [if_pos (show v1 L now > ((best, top) : List Int × Int).2 from c)] at hbt
        rw [hbt] at hj
        rw [if_pos c, slices_Clone_int_int.f, Option.bind_some, if_pos (by simp; omega), Option.bind_some]
        exact hj
      · rw [if_neg (show ¬ v1 L now > ((best, top) : List Int × Int).2 from c)] at hbt
        rw [hbt] at hj
        rw [if_neg c]
        exact hj
    cases e : P.nxt (nbL L) 0 now with
    | none =>
      refine ⟨bt.1, bt.2, go _ ?_, P.Bst_congr hc fun p => ?_⟩
      · have := l2_ev hC bt.1 bt.2 bt.1 now.length now [] rfl (by rw [List.append_nil]; exact hl) (by rw [List.append_nil]; exact hr) trivial (fun _ => rfl) (fun ys hy => by rw [List.append_nil, e] at hy; cases hy)
        rw [List.length_nil, List.replicate_zero, List.append_nil] at this
        exact this
      · constructor
        · rintro (h | h)
          · exact h.1
          · rw [h]; exact ⟨hr, hl⟩
        · intro h
          rcases P.lexlt_tri p now with t | t | t
          · exact .inl ⟨h, t⟩
          · exact .inr t
          · exact absurd t (P.nxt_none (nbL L) now 0 hr e p h.1 (by rw [h.2, hl]))
    | some ys =>
      obtain ⟨y1, y2, y3⟩ := P.nxt_some (nbL L) now ys 0 hr e
      have yr := P.nxt_rk (nbL L) 7 (nbL_lt hC) now ys 0 hr e
      match N, hN with
      | 0, hN => omega
      | N + 1, hN =>
        obtain ⟨r, top', h1, h2⟩ := l1_ev hC N ys bt.1 bt.2 (by omega) (by omega) y1 (P.Bst_congr hc fun p => by
          constructor
          · rintro (h | h)
            · exact ⟨h.1, (y3 p h.1.1 (by rw [h.1.2, hl])).2 (.inl h.2)⟩
            · exact ⟨by rw [h]; exact ⟨hr, hl⟩, (y3 p (by rw [h]; exact hr) (by rw [h])).2 (.inr h)⟩
          · intro h
            rcases (y3 p h.1.1 (by rw [h.1.2, hl])).1 h.2 with q | q
            · exact .inl ⟨h.1, q⟩
            · exact .inr q)
        refine ⟨r, top', go r ?_, h2⟩
        have := l2_ev hC bt.1 bt.2 r now.length now [] rfl (by rw [List.append_nil]; exact hl) (by rw [List.append_nil]; exact hr) trivial (fun hy => by rw [List.append_nil, e] at hy; cases hy) (fun zs hz => by
          rw [List.append_nil, e, Option.some.injEq] at hz
          rw [← hz]; exact h1)
        rw [List.length_nil, List.replicate_zero, List.append_nil] at this
        exact this
theorem start_loop {L : List S36} (hm : L.length ≤ 1000000) {r : List Int} (h : Ev (fun k => terrlaw5_bestOf.l1 k L [] (-1) (List.replicate L.length (-1))) r) : ∀ d i, i + d = L.length → Ev (fun k => terrlaw5_bestOf.l0 k L (-1) (List.replicate i (-1) ++ List.replicate d 0) (L.length : Int) (i : Int)) r
  | 0, i, hi => by
    obtain ⟨k, hk⟩ := h
    refine ⟨k + 1, ?_⟩
    simp only at hk ⊢
    rw [terrlaw5_bestOf.l0, if_neg (by omega), List.replicate_zero, List.append_nil, show i = L.length by omega]
    exact hk
  | d + 1, i, hi => by
    obtain ⟨k, hk⟩ := start_loop hm h d (i + 1) (by omega)
    refine ⟨k + 1, ?_⟩
    simp only at hk ⊢
    have w : wrap64 ((i : Int) + 1) = ((i + 1 : Nat) : Int) := by rw [wrap64_eq _ (by omega) (by omega)]; omega
    have e : (List.replicate i (-1 : Int) ++ List.replicate (d + 1) 0).set i (-1) = List.replicate (i + 1) (-1) ++ List.replicate d 0 := by
      have := set_at (List.replicate i (-1)) 0 (-1) (List.replicate d 0)
      rw [List.length_replicate] at this
      rw [List.replicate_succ, this, List.replicate_succ', List.append_assoc]; rfl
    rw [terrlaw5_bestOf.l0, if_pos (by omega), if_pos (by omega), if_pos (by simp; omega), Int.toNat_natCast, e, w]
    exact hk
theorem bestOf_ev {L : List S36} (hC : Chk L) : Ev (fun k => terrlaw5_bestOf.f k L) (bestL L).1 := by
  have hm := hC.many
  obtain ⟨r, top', h1, h2⟩ := l1_ev hC _ (List.replicate L.length (-1)) [] (-1) (Nat.le_refl _) (by simp) (P.rng_reps _ _ _) (P.Bst_none fun p hp => by
    have := P.not_lt_reps (nbL L) p 0 hp.1.1
    rw [hp.1.2] at this
    exact this hp.2)
  have h3 := P.Bst_less h2 (S := Sel L) (v := valL L) (fun p hp => ⟨⟨(inB_rng p).1 hp.2.1, hp.1⟩, by rw [v1, if_pos hp.2.2]⟩) (fun p hp hn => by
    rw [v1, if_neg (fun ha => hn ⟨hp.2, (inB_rng p).2 hp.1, ha⟩)])
  have e := P.Bst_uniq h3 (best_bst hC)
  have e1 : r = (bestL L).1 := by rw [← e]
  rw [← e1]
  obtain ⟨k, hk⟩ := start_loop (by omega) h1 L.length 0 (Nat.zero_add _)
  refine ⟨k, ?_⟩
  simp only at hk ⊢
  unfold terrlaw5_bestOf.f
  rw [if_pos (by omega), if_pos (by omega), Option.bind_some, Int.toNat_natCast, List.length_replicate]
  exact hk
/-! ### the law -/
theorem choices_ev {L : List S36} (hC : Chk L) : ∀ d i (x : Int), i + d = L.length → ∃ k0, ∀ k, k0 ≤ k → terrlaw5_PlaceTells.l0 k L (bestL L).1 x L (L.length : Int) (i : Int) = some true
  | 0, i, x, hi => by
    have hm := hC.many
    obtain ⟨k, h1, h2⟩ := ev2 (terrlaw5_bestOf.mono L) (slices_Equal_int_int.mono (bestL L).1 (bestL L).1) (bestOf_ev hC) (equal_ev (bestL L).1 (by rw [(best_spec hC).1.1]; omega))
    refine ⟨k + 1, fun j hj => ?_⟩
    obtain ⟨j, rfl⟩ : ∃ j', j = j' + 1 := ⟨j - 1, by omega⟩
    rw [terrlaw5_PlaceTells.l0, if_neg (by omega)]
    by_cases c : x > 60000
    · rw [if_pos c]
    · rw [if_neg c, up (terrlaw5_bestOf.mono L) (by omega : k ≤ j) h1, Option.bind_some, up (slices_Equal_int_int.mono (bestL L).1 (bestL L).1) (by omega : k ≤ j) h2, Option.bind_some]
  | d + 1, i, x, hi => by
    have hm := hC.many
    obtain ⟨k, hk⟩ := choices_ev hC d (i + 1) (wrap64 (x * (wrap64 ((((rd_T36 L (i : Int)).f1).length : Int) + 1)))) (by omega)
    refine ⟨k + 1, fun j hj => ?_⟩
    obtain ⟨j, rfl⟩ : ∃ j', j = j' + 1 := ⟨j - 1, by omega⟩
    have w : wrap64 ((i : Int) + 1) = ((i + 1 : Nat) : Int) := by rw [wrap64_eq _ (by omega) (by omega)]; omega
    rw [terrlaw5_PlaceTells.l0, if_pos (by omega), if_pos (by omega), if_pos (by omega), w]
    exact hk j (by omega)
end Go.Proofs.Ytdmhnjpblpfbfaa.U
namespace Go.Proofs.Ytdmhnjpblpfbfaa.Pure
open Go.RowKit Go.Proofs.Ytdmhnjpblpfbfaa.Q Go.Proofs.Ytdmhnjpblpfbfaa.U Go.Proofs.YtdmhnjpblpfbfaaW.PrintWords Go.Proofs.YtdmhnjpblpfbfaaW.PrintLast Go.Proofs.YtdmhnjpblpfbfaaW.PrintMore
theorem PlaceTells (L : List S36) (other : List Int) : ∃ k, terrlaw5_PlaceTells.f k L other = some true := by
  obtain ⟨t, k1, hc, hf⟩ := check_fault L
  obtain ⟨k0, h0⟩ := alone_ev
  simp only at h0
  by_cases ct : t = 0
  · subst ct
    have hC := check_ok hc
    have hm := hC.many
    obtain ⟨s1, s2, s3⟩ := best_spec hC
    obtain ⟨b, ⟨k2, hb⟩, hbi⟩ := chosen_ev (L := L) (by omega) (bestL L).1
    obtain rfl := hbi.2 s1
    obtain ⟨k3, hw⟩ := worth_ev hC s1.1 s1.2.1
    rw [if_pos s1.2.2, s2] at hw
    obtain ⟨k4, h4⟩ := choices_ev hC L.length 0 1 (Nat.zero_add _)
    simp only at hb hw
    have h5 : ∀ k, k4 + 1 ≤ k → terrlaw5_PlaceTells.j1 k L (bestL L).1 = some true := fun k hk => by
      obtain ⟨k, rfl⟩ : ∃ k', k = k' + 1 := ⟨k - 1, by omega⟩
      rw [terrlaw5_PlaceTells.j1]; exact h4 k (by omega)
    have h6 : ∃ k0, ∀ k, k0 ≤ k → terrlaw5_PlaceTells.j0 k L other (bestL L).1 (bestL L).2 false = some true := by
      obtain ⟨b2, ⟨k6, hb2⟩, hbi2⟩ := chosen_ev (L := L) (by omega) other
      simp only at hb2
      cases b2 with
      | false =>
        refine ⟨k6 + k4 + 2, fun k hk => ?_⟩
        obtain ⟨k, rfl⟩ : ∃ k', k = k' + 1 := ⟨k - 1, by omega⟩
        rw [terrlaw5_PlaceTells.j0, if_neg (by simp), up (terrlaw5_chosen.mono L other) (by omega : k6 ≤ k) hb2, Option.bind_some, if_neg (by simp)]
        exact h5 k (by omega)
      | true =>
        have so := hbi2.1 rfl
        obtain ⟨k7, hw7⟩ := worth_ev hC so.1 so.2.1
        rw [if_pos so.2.2] at hw7
        simp only at hw7
        obtain ⟨c, ⟨k8, h8⟩, hci⟩ := compare_ev other (bestL L).1 (by rw [so.1, s1.1]) (by rw [so.1]; omega)
        simp only at h8
        refine ⟨k6 + k7 + k8 + k4 + 2, fun k hk => ?_⟩
        obtain ⟨k, rfl⟩ : ∃ k', k = k' + 1 := ⟨k - 1, by omega⟩
        have g5 := h5 k (by omega)
        rw [terrlaw5_PlaceTells.j0, if_neg (by simp), up (terrlaw5_chosen.mono L other) (by omega : k6 ≤ k) hb2, Option.bind_some, if_pos rfl, up (terrlaw5_worth.mono L other) (by omega : k7 ≤ k) hw7, Option.bind_some]
        rcases s3 other so with h | ⟨h, hn⟩
        · rw [if_neg (by omega), if_neg (by omega)]
          exact g5
        · rw [if_neg (by omega), if_pos h, up (slices_Compare_int_int.mono other (bestL L).1) (by omega : k8 ≤ k) h8, Option.bind_some, if_neg (fun q => hn (hci.1 q))]
          exact g5
    obtain ⟨k9, h9⟩ := h6
    obtain ⟨K, q0, q1, q2, q3, q4⟩ : ∃ K, k0 ≤ K ∧ k1 ≤ K ∧ k2 ≤ K ∧ k3 ≤ K ∧ k9 ≤ K := ⟨k0 + k1 + k2 + k3 + k9, by omega, by omega, by omega, by omega, by omega⟩
    have g1 := up (place_Check.mono L) q1 hc
    refine ⟨K, ?_⟩
    unfold terrlaw5_PlaceTells.f
    rw [up terrlaw5_alone.mono q0 h0, Option.bind_some, if_pos rfl, up (terrlaw5_wantsFault.mono L) q1 hf, Option.bind_some, place_Best.f, g1, Option.bind_some, if_pos rfl, Option.bind_some, Option.bind_some, if_pos rfl, if_pos rfl, if_pos rfl]
    have e1 : (srch L (restG L 0) L.length [] 0 ([], -1)) = bestL L := rfl
    simp only [e1]
    rw [up (terrlaw5_chosen.mono L (bestL L).1) q2 hb, Option.bind_some, if_pos rfl, up (terrlaw5_worth.mono L (bestL L).1) q3 hw, Option.bind_some, bne_self_eq_false]
    exact h9 K q4
  · obtain ⟨K, q0, q1⟩ : ∃ K, k0 ≤ K ∧ k1 ≤ K := ⟨k0 + k1, by omega, by omega⟩
    have g1 := up (place_Check.mono L) q1 hc
    refine ⟨K, ?_⟩
    unfold terrlaw5_PlaceTells.f
    rw [up terrlaw5_alone.mono q0 h0, Option.bind_some, if_pos rfl, up (terrlaw5_wantsFault.mono L) q1 hf, Option.bind_some, place_Best.f, g1, Option.bind_some, if_neg ct, Option.bind_some, Option.bind_some, if_pos rfl, if_neg ct, if_pos rfl, if_pos rfl]
    rfl
end Go.Proofs.Ytdmhnjpblpfbfaa.Pure

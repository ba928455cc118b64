/- Plain facts on lists of points: ListsOf answers as Read. Conditions: stated at each. -/
import Derived.Test.YtjgoehhhjffpmaaZrUG
import Derived.Test.YtjgoehhhjffpmaaZrUN
import Derived.Test.YtjgoehhhjffpmaaZrQf12
namespace Go.Proofs.Ytjgoehhhjffpmaa.U
open Go.RowKit Go.Proofs.Ytjgoehhhjffpmaa.Q Go.Proofs.YtjgoehhhjffpmaaW.PrintWords Go.Proofs.YtjgoehhhjffpmaaW.PrintLast Go.Proofs.YtjgoehhhjffpmaaW.PrintMore
set_option linter.unusedSimpArgs false
set_option linter.unusedVariables false
theorem rt_rn (b : List Int) : rt b = if (rn b).2.2 = 0 then rn b else (0, [], (rn b).2.2) := by
  rw [rt, rn]
  by_cases c : (tk 0 b).2.2 = 0
  · rw [if_pos c, if_pos c, if_pos rfl]
  · rw [if_neg c, if_neg c, if_neg c]
/-- What ListsOf says of the points read. -/
theorem lo1 (lim : Nat) (hlim : lim = 140737488355328) (n : Int) (out : List (List S44)) (all : Int) (ho : out.length ≤ 2000) : ∀ (m : Nat) (b : List Int) (x y : Int) (l : List S44), Bytes b → b.length < lim → m ≤ 20000 → l.length + m ≤ 8000000000 → ∀ k, 40 ≤ k →
    terrref5_ListsOf.l1 (k + m + 1) b n out x y all (m : Int) l = if (P1 m b x y l).1 = 0 then terrref5_ListsOf.l0 k (P1 m b x y l).2.1 (wrap64 (n - 1)) (out ++ [(P1 m b x y l).2.2.2.2]) (P1 m b x y l).2.2.1 (P1 m b x y l).2.2.2.1 all else some ([], [], (P1 m b x y l).1) := by
  intro m
  induction m with
  | zero =>
    intro b x y l hb hl hm hlm k hk
    rw [terrref5_ListsOf.l1, if_neg (by omega), if_pos (by omega), P1, if_pos rfl]
  | succ m ih =>
    intro b x y l hb hl hm hlm k hk
    have w1 : wrap64 (((m + 1 : Nat) : Int) - 1) = (m : Int) := by rw [wrap_id (by omega) (by omega)]; omega
    rw [show k + (m + 1) + 1 = (k + m + 1) + 1 by omega, terrref5_ListsOf.l1, if_pos (by omega), number_rt lim hlim b hb hl _ (by omega), Option.bind_some, P1, rn2, rt_rn]
    obtain ⟨⟨m1, b1, e1⟩, h1⟩ : ∃ r, r = rn b := ⟨_, rfl⟩
    obtain ⟨p1, p2, p3, p4⟩ := rn_inv hb h1.symm
    rw [← h1]
    by_cases c : e1 = 0
    · subst c
      rw [if_pos rfl, if_pos rfl, if_pos rfl]
      dsimp only
      rw [number_rt lim hlim b1 p2 (Nat.lt_of_le_of_lt p3 hl) _ (by omega), Option.bind_some, rt_rn]
      obtain ⟨⟨m2, b2, e2⟩, h2⟩ : ∃ r, r = rn b1 := ⟨_, rfl⟩
      obtain ⟨q1, q2, q3, q4⟩ := rn_inv p2 h2.symm
      rw [← h2]
      by_cases c2 : e2 = 0
      · rw [if_pos c2, if_pos c2, if_pos (by omega), if_pos c2, w1]
        exact ih _ _ _ _ q2 (by omega) (by omega) (by simp; omega) k hk
      · rw [if_neg c2, if_neg c2, if_neg c2, if_neg c2]
    · rw [if_neg c, if_neg c, if_neg c, if_neg c, if_neg c]
/-- What ListsOf says of the lists read. -/
theorem lo0 (lim : Nat) (hlim : lim = 140737488355328) : ∀ (m : Nat) (b : List Int) (x y all : Int) (out : List (List S44)), Bytes b → b.length < lim → 0 ≤ all → all ≤ 20000 → out.length + m ≤ 2000 → ∃ K, ∀ k, K ≤ k →
    terrref5_ListsOf.l0 k b (m : Int) out x y all = if (P0 m b x y all out).1 = 0 then some ((P0 m b x y all out).2.2, (P0 m b x y all out).2.1, 0) else some ([], [], (P0 m b x y all out).1) := by
  intro m
  induction m with
  | zero =>
    intro b x y all out hb hl h0 h1 hm
    refine ⟨1, fun k hk => ?_⟩
    obtain ⟨k, rfl⟩ : ∃ j, k = j + 1 := ⟨k - 1, by omega⟩
    rw [terrref5_ListsOf.l0, if_neg (by omega), P0, if_pos rfl]
  | succ m ih =>
    intro b x y all out hb hl ha0 ha1 hm
    have w1 : wrap64 (((m + 1 : Nat) : Int) - 1) = (m : Int) := by rw [wrap_id (by omega) (by omega)]; omega
    obtain ⟨⟨n1, b1, e1⟩, h1⟩ : ∃ r, r = rn b := ⟨_, rfl⟩
    obtain ⟨p1, p2, p3, p4⟩ := rn_inv hb h1.symm
    rw [P0, rm, ← h1]
    by_cases c : e1 = 0
    · have hin := (p1 c).2
      unfold In at hin
      subst c
      rw [if_pos rfl]
      dsimp only
      by_cases c2 : n1 < 0 ∨ n1 > 20000 - all
      · rw [if_pos c2]
        dsimp only
        rw [if_neg (show ¬ ((2 : Int) = 0) by decide)]
        refine ⟨50, fun k hk => ?_⟩
        obtain ⟨k, rfl⟩ : ∃ j, k = (j + 1) + 1 := ⟨k - 2, by omega⟩
        have fin : ∀ f : Bool, f = true → terrref5_ListsOf.j2 (k + 1) b1 ((m + 1 : Nat) : Int) out x y (wrap64 (all + mx n1 0)) n1 f = some ([], [], 2) := by
          rintro f rfl
          rw [terrref5_ListsOf.j2, if_pos rfl]
        rw [terrref5_ListsOf.l0, if_pos (by omega), number_rt lim hlim b hb hl _ (by omega), Option.bind_some, rt_rn, ← h1, if_pos rfl, if_pos rfl]
        dsimp only
        rw [if_neg (show ¬ ((2 : Int) = 0) by decide)]
        by_cases d1 : n1 < 0
        · rw [if_pos d1]; exact fin _ rfl
        · rw [if_neg d1]
          by_cases d2 : wrap64 (all + mx n1 0) > 20000
          · rw [if_pos d2]; exact fin _ rfl
          · rw [if_neg d2]
            refine fin _ (decide_eq_true ?_)
            have e : mx n1 0 = n1 := by unfold mx; omega
            rw [e] at d2
            by_cases d3 : n1 > 20000
            · exact d3
            · rw [wrap_id (by omega) (by omega)] at d2; omega
      · rw [if_neg c2, if_pos rfl]
        dsimp only
        obtain ⟨⟨e2, b2, x2, y2, l2⟩, h2⟩ : ∃ r, r = P1 n1.toNat b1 x y [] := ⟨_, rfl⟩
        obtain ⟨r1, r2, r3⟩ := P1_inv _ _ _ _ _ _ _ _ _ _ p2 h2.symm
        have e : mx n1 0 = n1 := by unfold mx; omega
        have wa : wrap64 (all + n1) = all + n1 := wrap_id (by omega) (by omega)
        have start : ∀ k, 40 ≤ k → terrref5_ListsOf.l0 (k + n1.toNat + 1 + 1 + 1) b ((m + 1 : Nat) : Int) out x y all = terrref5_ListsOf.l1 (k + n1.toNat + 1) b1 ((m + 1 : Nat) : Int) out x y (all + n1) ((n1.toNat : Nat) : Int) [] := by
          intro k hk
          rw [terrref5_ListsOf.l0, if_pos (by omega), number_rt lim hlim b hb hl _ (by omega), Option.bind_some, rt_rn, ← h1, if_pos rfl, if_pos rfl]
          dsimp only
          rw [if_neg (by omega), e, wa, if_neg (by omega), decide_eq_false (by omega), terrref5_ListsOf.j2, if_neg (by decide), show ((n1.toNat : Nat) : Int) = n1 by omega]
        have inner := lo1 lim hlim ((m + 1 : Nat) : Int) out (all + n1) (by omega) n1.toNat b1 x y [] p2 (Nat.lt_of_le_of_lt p3 hl) (by omega) (by simp; omega)
        rw [← h2] at inner ⊢
        dsimp only at inner ⊢
        by_cases c3 : e2 = 0
        · have inner := fun k hk => (inner k hk).trans (if_pos c3)
          rw [if_pos c3]
          rw [w1] at inner
          obtain ⟨K, hK⟩ := ih b2 x2 y2 (all + n1) (out ++ [l2]) r1 (by omega) (by omega) (by omega) (by simp; omega)
          refine ⟨K + n1.toNat + 50, fun k hk => ?_⟩
          obtain ⟨j, rfl⟩ : ∃ j, k = j + n1.toNat + 1 + 1 + 1 := ⟨k - n1.toNat - 3, by omega⟩
          rw [start j (by omega), inner j (by omega), hK j (by omega)]
        · have inner := fun k hk => (inner k hk).trans (if_neg c3)
          rw [if_neg c3]
          refine ⟨n1.toNat + 50, fun k hk => ?_⟩
          obtain ⟨j, rfl⟩ : ∃ j, k = j + n1.toNat + 1 + 1 + 1 := ⟨k - n1.toNat - 3, by omega⟩
          rw [start j (by omega), inner j (by omega), if_neg c3]
    · rw [if_neg c]
      dsimp only
      rw [if_neg c, if_neg c]
      refine ⟨50, fun k hk => ?_⟩
      obtain ⟨k, rfl⟩ : ∃ j, k = j + 1 := ⟨k - 1, by omega⟩
      rw [terrref5_ListsOf.l0, if_pos (by omega), number_rt lim hlim b hb hl _ (by omega), Option.bind_some, rt_rn, ← h1, if_neg c, if_neg c]
theorem lists_R (lim : Nat) (hlim : lim = 140737488355328) (b : List Int) (hb : Bytes b) (hl : b.length < lim) : ∃ K, ∀ k, K ≤ k → terrref5_ListsOf.f k b = some (R b) := by
  obtain ⟨⟨n1, b1, e1⟩, h1⟩ : ∃ r, r = rn b := ⟨_, rfl⟩
  obtain ⟨p1, p2, p3, p4⟩ := rn_inv hb h1.symm
  rw [R, rm, ← h1]
  by_cases c : e1 = 0
  · subst c
    rw [if_pos rfl]
    dsimp only
    by_cases c2 : n1 < 0 ∨ n1 > 1000
    · rw [if_pos c2]
      dsimp only
      rw [if_neg (show ¬ ((2 : Int) = 0) by decide)]
      refine ⟨50, fun k hk => ?_⟩
      obtain ⟨k, rfl⟩ : ∃ j, k = j + 1 := ⟨k - 1, by omega⟩
      have fin : ∀ f : Bool, f = true → terrref5_ListsOf.j0 (k + 1) b1 n1 f = some ([], [], 2) := by
        rintro f rfl
        rw [terrref5_ListsOf.j0, if_pos rfl]
      rw [terrref5_ListsOf.f, number_rt lim hlim b hb hl _ (by omega), Option.bind_some, rt_rn, ← h1, if_pos rfl, if_pos rfl]
      dsimp only
      by_cases d1 : n1 < 0
      · rw [if_pos d1]; exact fin _ rfl
      · rw [if_neg d1]; exact fin _ (decide_eq_true (by omega))
    · rw [if_neg c2, if_pos rfl]
      dsimp only
      obtain ⟨K, hK⟩ := lo0 lim hlim n1.toNat b1 0 0 0 [] p2 (Nat.lt_of_le_of_lt p3 hl) (by omega) (by omega) (by simp; omega)
      refine ⟨K + 50, fun k hk => ?_⟩
      obtain ⟨k, rfl⟩ : ∃ j, k = j + 1 := ⟨k - 1, by omega⟩
      have hk2 := hK k (by omega)
      rw [show ((n1.toNat : Nat) : Int) = n1 by omega] at hk2
      rw [terrref5_ListsOf.f, number_rt lim hlim b hb hl _ (by omega), Option.bind_some, rt_rn, ← h1, if_pos rfl, if_pos rfl]
      dsimp only
      rw [if_neg (by omega), decide_eq_false (by omega), terrref5_ListsOf.j0, if_neg (by decide), hk2]
      by_cases c3 : (P0 n1.toNat b1 0 0 0 []).1 = 0
      · rw [if_pos c3, if_pos c3]
      · rw [if_neg c3, if_neg c3]
  · rw [if_neg c]
    dsimp only
    rw [if_neg c]
    refine ⟨50, fun k hk => ?_⟩
    rw [terrref5_ListsOf.f, number_rt lim hlim b hb hl _ (by omega), Option.bind_some, rt_rn, ← h1, if_neg c, if_neg c]end Go.Proofs.Ytjgoehhhjffpmaa.U

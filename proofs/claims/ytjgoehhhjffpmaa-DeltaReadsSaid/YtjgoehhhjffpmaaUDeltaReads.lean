/- The pure statement of DeltaReads: lists of points are read as by the second implementation. No condition but the statement's own. -/
import Derived.Test.YtjgoehhhjffpmaaUG
import Derived.Test.YtjgoehhhjffpmaaUN
import Derived.Test.YtjgoehhhjffpmaaQDeltaReads
namespace Go.Proofs.Ytjgoehhhjffpmaa.U
open Go.RowKit Go.Proofs.Ytjgoehhhjffpmaa.Q Go.Proofs.YtjgoehhhjffpmaaW.PrintWords Go.Proofs.YtjgoehhhjffpmaaW.PrintLast Go.Proofs.YtjgoehhhjffpmaaW.PrintMore
set_option linter.unusedSimpArgs false
set_option linter.unusedVariables false

theorem rdL_at {l : List (List S44)} {j : Nat} (h : j < l.length) : rd_L4 l (j : Int) = l[j] := by
  unfold rd_L4
  simp [List.getD_eq_getElem?_getD, h]
theorem pt_loop (l : List S44) (hl : l.length ≤ 1000000000) : ∀ (d i : Nat), i + d = l.length → ∀ k, d < k → api_Point_24.l0 k l l (l.length : Int) (i : Int) = some true := by
  intro d
  induction d with
  | zero =>
    intro i hi k hk
    obtain ⟨k, rfl⟩ : ∃ m, k = m + 1 := ⟨k - 1, by omega⟩
    rw [api_Point_24.l0, if_neg (by omega)]
  | succ d ih =>
    intro i hi k hk
    obtain ⟨k, rfl⟩ : ∃ m, k = m + 1 := ⟨k - 1, by omega⟩
    have c1 : (i : Int) < (l.length : Int) := by omega
    have w1 : wrap64 ((i : Int) + 1) = ((i + 1 : Nat) : Int) := by rw [wrap_id (by omega) (by omega)]; omega
    rw [api_Point_24.l0, if_pos c1, if_pos (Int.natCast_nonneg _), if_pos c1, if_pos c1, if_neg (by simp), w1]
    exact ih (i + 1) (by omega) k (by omega)
theorem pt_self (l : List S44) (hl : l.length ≤ 1000000000) (k : Nat) (hk : l.length < k) : api_Point_24.f k l l = some true := by
  unfold api_Point_24.f
  rw [if_pos rfl]
  exact pt_loop l hl l.length 0 (by omega) k hk
theorem len_tot (ls : List (List S44)) : ∀ r ∈ ls, r.length ≤ tot ls := by
  induction ls with
  | nil => intro r h; cases h
  | cons l ls ih =>
    intro r h
    rw [tot]
    rcases List.mem_cons.1 h with rfl | h
    · omega
    · have := ih r h; omega
theorem ls_loop (ls : List (List S44)) (hl : ls.length ≤ 1000000000) (ht : tot ls ≤ 1000000000) : ∀ (d i : Nat), i + d = ls.length → ∀ k, d + tot ls < k → api_Point_23.l0 k ls ls (ls.length : Int) (i : Int) = some true := by
  intro d
  induction d with
  | zero =>
    intro i hi k hk
    obtain ⟨k, rfl⟩ : ∃ m, k = m + 1 := ⟨k - 1, by omega⟩
    rw [api_Point_23.l0, if_neg (by omega)]
  | succ d ih =>
    intro i hi k hk
    obtain ⟨k, rfl⟩ : ∃ m, k = m + 1 := ⟨k - 1, by omega⟩
    have hlt : i < ls.length := by omega
    have c1 : (i : Int) < (ls.length : Int) := by omega
    have w1 : wrap64 ((i : Int) + 1) = ((i + 1 : Nat) : Int) := by rw [wrap_id (by omega) (by omega)]; omega
    have hm := len_tot ls ls[i] (List.getElem_mem hlt)
    rw [api_Point_23.l0, if_pos c1, if_pos (Int.natCast_nonneg _), if_pos c1, if_pos c1, rdL_at hlt, show terrref5_SameParts_1.f k ls[i] ls[i] = some true by rw [terrref5_SameParts_1.f, pt_self _ (by omega) k (by omega), Option.bind_some], Option.bind_some, if_pos rfl, w1]
    exact ih (i + 1) (by omega) k (by omega)
theorem ls_self (ls : List (List S44)) (hl : ls.length ≤ 1000000000) (ht : tot ls ≤ 1000000000) (k : Nat) (hk : ls.length + tot ls < k) : api_Point_23.f k ls ls = some true := by
  unfold api_Point_23.f
  rw [if_pos rfl]
  exact ls_loop ls hl ht ls.length 0 (by omega) k hk

theorem rt_rn (b : List Int) : rt b = if (rn b).2.2 = 0 then rn b else (0, [], (rn b).2.2) := by
  rw [rt, rn]
  by_cases c : (tk 0 b).2.2 = 0
  · rw [if_pos c, if_pos c, if_pos rfl]
  · rw [if_neg c, if_neg c, if_neg c]
/-- What ListsOf says of the points read. -/
theorem lo1 (lim : Nat) (hlim : lim = 140737488355328) (n : Int) (out : List (List S44)) (all : Int) (ho : out.length ≤ 2000) : ∀ (m : Nat) (b : List Int) (x y : Int) (l : List S44), Bytes b → b.length < lim → m ≤ 20000 → l.length + m ≤ 8000000000 → ∀ k, 40 ≤ k →
    terrref5_ListsOf.l1 (k + m + 1) b n out x y all (m : Int) l = if (P1 m b x y l).1 = 0 then terrref5_ListsOf.l0 k (P1 m b x y l).2.1 (wrap64 (n - 1)) (out ++ [(P1 m b x y l).2.2.2.2]) (P1 m b x y l).2.2.1 (P1 m b x y l).2.2.2.1 all else some ([], [], (P1 m b x y l).1) := by
  intro m
  induction m with
  | zero =>
    intro b x y l hb hl hm hlm k hk
    rw [terrref5_ListsOf.l1, if_neg (by omega), if_pos (by omega), P1, if_pos rfl]
  | succ m ih =>
    intro b x y l hb hl hm hlm k hk
    have w1 : wrap64 (((m + 1 : Nat) : Int) - 1) = (m : Int) := by rw [wrap_id (by omega) (by omega)]; omega
    rw [show k + (m + 1) + 1 = (k + m + 1) + 1 by omega, terrref5_ListsOf.l1, if_pos (by omega), number_rt lim hlim b hb hl _ (by omega), Option.bind_some, P1, rn2, rt_rn]
    obtain ⟨⟨m1, b1, e1⟩, h1⟩ : ∃ r, r = rn b := ⟨_, rfl⟩
    obtain ⟨p1, p2, p3, p4⟩ := rn_inv hb h1.symm
    rw [← h1]
    by_cases c : e1 = 0
    · subst c
      rw [if_pos rfl, if_pos rfl, if_pos rfl]
      dsimp only
      rw [number_rt lim hlim b1 p2 (Nat.lt_of_le_of_lt p3 hl) _ (by omega), Option.bind_some, rt_rn]
      obtain ⟨⟨m2, b2, e2⟩, h2⟩ : ∃ r, r = rn b1 := ⟨_, rfl⟩
      obtain ⟨q1, q2, q3, q4⟩ := rn_inv p2 h2.symm
      rw [← h2]
      by_cases c2 : e2 = 0
      · rw [if_pos c2, if_pos c2, if_pos (by omega), if_pos c2, w1]
        exact ih _ _ _ _ q2 (by omega) (by omega) (by simp; omega) k hk
      · rw [if_neg c2, if_neg c2, if_neg c2, if_neg c2]
    · rw [if_neg c, if_neg c, if_neg c, if_neg c, if_neg c]
/-- What ListsOf says of the lists read. -/
theorem lo0 (lim : Nat) (hlim : lim = 140737488355328) : ∀ (m : Nat) (b : List Int) (x y all : Int) (out : List (List S44)), Bytes b → b.length < lim → 0 ≤ all → all ≤ 20000 → out.length + m ≤ 2000 → ∃ K, ∀ k, K ≤ k →
    terrref5_ListsOf.l0 k b (m : Int) out x y all = if (P0 m b x y all out).1 = 0 then some ((P0 m b x y all out).2.2, (P0 m b x y all out).2.1, 0) else some ([], [], (P0 m b x y all out).1) := by
  intro m
  induction m with
  | zero =>
    intro b x y all out hb hl h0 h1 hm
    refine ⟨1, fun k hk => ?_⟩
    obtain ⟨k, rfl⟩ : ∃ j, k = j + 1 := ⟨k - 1, by omega⟩
    rw [terrref5_ListsOf.l0, if_neg (by omega), P0, if_pos rfl]
  | succ m ih =>
    intro b x y all out hb hl ha0 ha1 hm
    have w1 : wrap64 (((m + 1 : Nat) : Int) - 1) = (m : Int) := by rw [wrap_id (by omega) (by omega)]; omega
    obtain ⟨⟨n1, b1, e1⟩, h1⟩ : ∃ r, r = rn b := ⟨_, rfl⟩
    obtain ⟨p1, p2, p3, p4⟩ := rn_inv hb h1.symm
    rw [P0, rm, ← h1]
    by_cases c : e1 = 0
    · have hin := (p1 c).2
      unfold In at hin
      subst c
      rw [if_pos rfl]
      dsimp only
      by_cases c2 : n1 < 0 ∨ n1 > 20000 - all
      · rw [if_pos c2]
        dsimp only
        rw [if_neg (show ¬ ((2 : Int) = 0) by decide)]
        refine ⟨50, fun k hk => ?_⟩
        obtain ⟨k, rfl⟩ : ∃ j, k = (j + 1) + 1 := ⟨k - 2, by omega⟩
        have fin : ∀ f : Bool, f = true → terrref5_ListsOf.j2 (k + 1) b1 ((m + 1 : Nat) : Int) out x y (wrap64 (all + mx n1 0)) n1 f = some ([], [], 2) := by
          rintro f rfl
          rw [terrref5_ListsOf.j2, if_pos rfl]
        rw [terrref5_ListsOf.l0, if_pos (by omega), number_rt lim hlim b hb hl _ (by omega), Option.bind_some, rt_rn, ← h1, if_pos rfl, if_pos rfl]
        dsimp only
        rw [if_neg (show ¬ ((2 : Int) = 0) by decide)]
        by_cases d1 : n1 < 0
        · rw [if_pos d1]; exact fin _ rfl
        · rw [if_neg d1]
          by_cases d2 : wrap64 (all + mx n1 0) > 20000
          · rw [if_pos d2]; exact fin _ rfl
          · rw [if_neg d2]
            refine fin _ (decide_eq_true ?_)
            have e : mx n1 0 = n1 := by unfold mx; omega
            rw [e] at d2
            by_cases d3 : n1 > 20000
            · exact d3
            · rw [wrap_id (by omega) (by omega)] at d2; omega
      · rw [if_neg c2, if_pos rfl]
        dsimp only
        obtain ⟨⟨e2, b2, x2, y2, l2⟩, h2⟩ : ∃ r, r = P1 n1.toNat b1 x y [] := ⟨_, rfl⟩
        obtain ⟨r1, r2, r3⟩ := P1_inv _ _ _ _ _ _ _ _ _ _ p2 h2.symm
        have e : mx n1 0 = n1 := by unfold mx; omega
        have wa : wrap64 (all + n1) = all + n1 := wrap_id (by omega) (by omega)
        have start : ∀ k, 40 ≤ k → terrref5_ListsOf.l0 (k + n1.toNat + 1 + 1 + 1) b ((m + 1 : Nat) : Int) out x y all = terrref5_ListsOf.l1 (k + n1.toNat + 1) b1 ((m + 1 : Nat) : Int) out x y (all + n1) ((n1.toNat : Nat) : Int) [] := by
          intro k hk
          rw [terrref5_ListsOf.l0, if_pos (by omega), number_rt lim hlim b hb hl _ (by omega), Option.bind_some, rt_rn, ← h1, if_pos rfl, if_pos rfl]
          dsimp only
          rw [if_neg (by omega), e, wa, if_neg (by omega), decide_eq_false (by omega), terrref5_ListsOf.j2, if_neg (by decide), show ((n1.toNat : Nat) : Int) = n1 by omega]
        have inner := lo1 lim hlim ((m + 1 : Nat) : Int) out (all + n1) (by omega) n1.toNat b1 x y [] p2 (Nat.lt_of_le_of_lt p3 hl) (by omega) (by simp; omega)
        rw [← h2] at inner ⊢
        dsimp only at inner ⊢
        by_cases c3 : e2 = 0
        · have inner := fun k hk => (inner k hk).trans (if_pos c3)
          rw [if_pos c3]
          rw [w1] at inner
          obtain ⟨K, hK⟩ := ih b2 x2 y2 (all + n1) (out ++ [l2]) r1 (by omega) (by omega) (by omega) (by simp; omega)
          refine ⟨K + n1.toNat + 50, fun k hk => ?_⟩
          obtain ⟨j, rfl⟩ : ∃ j, k = j + n1.toNat + 1 + 1 + 1 := ⟨k - n1.toNat - 3, by omega⟩
          rw [start j (by omega), inner j (by omega), hK j (by omega)]
        · have inner := fun k hk => (inner k hk).trans (if_neg c3)
          rw [if_neg c3]
          refine ⟨n1.toNat + 50, fun k hk => ?_⟩
          obtain ⟨j, rfl⟩ : ∃ j, k = j + n1.toNat + 1 + 1 + 1 := ⟨k - n1.toNat - 3, by omega⟩
          rw [start j (by omega), inner j (by omega), if_neg c3]
    · rw [if_neg c]
      dsimp only
      rw [if_neg c, if_neg c]
      refine ⟨50, fun k hk => ?_⟩
      obtain ⟨k, rfl⟩ : ∃ j, k = j + 1 := ⟨k - 1, by omega⟩
      rw [terrref5_ListsOf.l0, if_pos (by omega), number_rt lim hlim b hb hl _ (by omega), Option.bind_some, rt_rn, ← h1, if_neg c, if_neg c]
theorem lists_R (lim : Nat) (hlim : lim = 140737488355328) (b : List Int) (hb : Bytes b) (hl : b.length < lim) : ∃ K, ∀ k, K ≤ k → terrref5_ListsOf.f k b = some (R b) := by
  obtain ⟨⟨n1, b1, e1⟩, h1⟩ : ∃ r, r = rn b := ⟨_, rfl⟩
  obtain ⟨p1, p2, p3, p4⟩ := rn_inv hb h1.symm
  rw [R, rm, ← h1]
  by_cases c : e1 = 0
  · subst c
    rw [if_pos rfl]
    dsimp only
    by_cases c2 : n1 < 0 ∨ n1 > 1000
    · rw [if_pos c2]
      dsimp only
      rw [if_neg (show ¬ ((2 : Int) = 0) by decide)]
      refine ⟨50, fun k hk => ?_⟩
      obtain ⟨k, rfl⟩ : ∃ j, k = j + 1 := ⟨k - 1, by omega⟩
      have fin : ∀ f : Bool, f = true → terrref5_ListsOf.j0 (k + 1) b1 n1 f = some ([], [], 2) := by
        rintro f rfl
        rw [terrref5_ListsOf.j0, if_pos rfl]
      rw [terrref5_ListsOf.f, number_rt lim hlim b hb hl _ (by omega), Option.bind_some, rt_rn, ← h1, if_pos rfl, if_pos rfl]
      dsimp only
      by_cases d1 : n1 < 0
      · rw [if_pos d1]; exact fin _ rfl
      · rw [if_neg d1]; exact fin _ (decide_eq_true (by omega))
    · rw [if_neg c2, if_pos rfl]
      dsimp only
      obtain ⟨K, hK⟩ := lo0 lim hlim n1.toNat b1 0 0 0 [] p2 (Nat.lt_of_le_of_lt p3 hl) (by omega) (by omega) (by simp; omega)
      refine ⟨K + 50, fun k hk => ?_⟩
      obtain ⟨k, rfl⟩ : ∃ j, k = j + 1 := ⟨k - 1, by omega⟩
      have hk2 := hK k (by omega)
      rw [show ((n1.toNat : Nat) : Int) = n1 by omega] at hk2
      rw [terrref5_ListsOf.f, number_rt lim hlim b hb hl _ (by omega), Option.bind_some, rt_rn, ← h1, if_pos rfl, if_pos rfl]
      dsimp only
      rw [if_neg (by omega), decide_eq_false (by omega), terrref5_ListsOf.j0, if_neg (by decide), hk2]
      by_cases c3 : (P0 n1.toNat b1 0 0 0 []).1 = 0
      · rw [if_pos c3, if_pos c3]
      · rw [if_neg c3, if_neg c3]
  · rw [if_neg c]
    dsimp only
    rw [if_neg c]
    refine ⟨50, fun k hk => ?_⟩
    rw [terrref5_ListsOf.f, number_rt lim hlim b hb hl _ (by omega), Option.bind_some, rt_rn, ← h1, if_neg c, if_neg c]
theorem eq_loop (l : List Int) (hl : l.length < 9000000000000000000) : ∀ (d k i : Nat), i + d = l.length → d < k → slices_Equal_byte_byte.l0 k l l (l.length : Int) (i : Int) = some true := by
  intro d
  induction d with
  | zero =>
    intro k i hi hk
    obtain ⟨k, rfl⟩ : ∃ m, k = m + 1 := ⟨k - 1, by omega⟩
    rw [slices_Equal_byte_byte.l0, if_neg (by omega)]
  | succ d ih =>
    intro k i hi hk
    obtain ⟨k, rfl⟩ : ∃ m, k = m + 1 := ⟨k - 1, by omega⟩
    have c1 : (i : Int) < (l.length : Int) := by omega
    have w1 : wrap64 ((i : Int) + 1) = ((i + 1 : Nat) : Int) := by rw [wrap_id (by omega) (by omega)]; omega
    rw [slices_Equal_byte_byte.l0, if_pos c1, if_pos (Int.natCast_nonneg _), if_pos c1, if_pos c1, if_pos rfl, w1]
    exact ih k (i + 1) (by omega) (by omega)
theorem eq_self (l : List Int) (hl : l.length < 9000000000000000000) (k : Nat) (hk : l.length < k) : slices_Equal_byte_byte.f k l l = some true := by
  unfold slices_Equal_byte_byte.f
  rw [if_pos rfl]
  exact eq_loop l hl l.length k 0 (by omega) hk

theorem reads (lim : Nat) (hlim : lim = 140737488355328) (b : List Int) (hb : Bytes b) (hl : b.length + 100 < lim) : ∃ k, terrlaw5_DeltaReads.f k b = some true := by
  obtain ⟨K, hK⟩ := lists_R lim hlim b hb (by omega)
  obtain ⟨⟨ls, rest, e⟩, hR⟩ : ∃ r, r = R b := ⟨_, rfl⟩
  obtain ⟨p1, p2⟩ := R_inv hb hR.symm
  have join : ∃ K, ∀ k, K ≤ k → terrlaw5_DeltaReads.j0 k b false = some true := by
    by_cases c : e = 0
    · obtain ⟨q1, q2, q3, q4⟩ := p1 c
      have hlen := congrArg List.length q1
      rw [List.length_append] at hlen
      refine ⟨K + 50 + rest.length + ls.length + tot ls, fun k hk => ?_⟩
      obtain ⟨k, rfl⟩ : ∃ j, k = j + 1 := ⟨k - 1, by omega⟩
      rw [terrlaw5_DeltaReads.j0, if_neg (by decide), read_R lim hlim b hb (by omega) _ (by omega), Option.bind_some, hK _ (by omega), Option.bind_some, ← hR]
      dsimp only
      rw [if_pos c, if_pos c, terrref5_SameParts.f, ls_self ls (by omega) (by omega) _ (by omega), Option.bind_some, Option.bind_some, if_pos rfl, eq_self rest (by omega) _ (by omega), Option.bind_some]
    · obtain ⟨rfl, rfl⟩ := p2 c
      refine ⟨K + 50, fun k hk => ?_⟩
      obtain ⟨k, rfl⟩ : ∃ j, k = j + 1 := ⟨k - 1, by omega⟩
      rw [terrlaw5_DeltaReads.j0, if_neg (by decide), read_R lim hlim b hb (by omega) _ (by omega), Option.bind_some, hK _ (by omega), Option.bind_some, ← hR]
      dsimp only
      rw [if_neg c, if_pos rfl]
      rfl
  obtain ⟨K2, hK2⟩ := join
  refine ⟨K2 + 50, ?_⟩
  have hb2 : Bytes [2, 2, 2, 3] := by intro x hx; simp at hx; omega
  have e2 : ([2, 2, 2, 3] : List Int) = encAll [[⟨1, -2⟩]] ++ [] := by
    have z1 : (zig 1).toNat = 2 := by decide
    have z2 : (zig (wrap64 (1 - 0))).toNat = 2 := by rw [wrap_id (by omega) (by omega)]; decide
    have z3 : (zig (wrap64 (-2 - 0))).toNat = 3 := by rw [wrap_id (by omega) (by omega)]; decide
    show _ = (enc 1 ++ ((enc 1 ++ ((enc (wrap64 (1 - 0)) ++ (enc (wrap64 (-2 - 0)) ++ [])) ++ [])))) ++ []
    rw [enc, enc, enc, z1, z2, z3, dg_lo (by omega), dg_lo (by omega)]
    rfl
  rw [terrlaw5_DeltaReads.f, read_R lim hlim _ hb2 (by simp; omega) _ (by omega), Option.bind_some, e2, R_fwd [[⟨1, -2⟩]] [] (by intro l hl q hq; simp at hl; subst hl; simp at hq; subst hq; unfold In; constructor <;> constructor <;> decide) (by decide) (by decide), if_pos rfl]
  exact hK2 _ (by omega)
end Go.Proofs.Ytjgoehhhjffpmaa.U
namespace Go.Proofs.Ytjgoehhhjffpmaa.Pure
open Go.RowKit Go.Proofs.Ytjgoehhhjffpmaa.Q
theorem DeltaReads : terrlaw5_DeltaReads.Pure := by
  intro l0 _ hl hw
  refine U.reads 140737488355328 rfl l0 (fun x hx => ?_) (by omega)
  have := hw x hx
  simp only [Lit.wf, Bool.and_eq_true, decide_eq_true_eq] at this
  exact this
end Go.Proofs.Ytjgoehhhjffpmaa.Pure

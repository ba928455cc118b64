/- Plain facts on reading and writing lists of points. Conditions: stated at each. -/
import Derived.Test.YtjgoehhhjffpmaaZrUF
import Derived.Test.YtjgoehhhjffpmaaZrQf11
import Derived.Test.YtjgoehhhjffpmaaZrQ0
namespace Go.Proofs.Ytjgoehhhjffpmaa.U
open Go.RowKit Go.Proofs.Ytjgoehhhjffpmaa.Q Go.Proofs.YtjgoehhhjffpmaaW.PrintWords Go.Proofs.YtjgoehhhjffpmaaW.PrintLast Go.Proofs.YtjgoehhhjffpmaaW.PrintMore
set_option linter.unusedSimpArgs false
set_option linter.unusedVariables false

theorem rn_inv {b b' : List Int} {n e : Int} (hb : Bytes b) (h : rn b = (n, b', e)) : (e = 0 → b = enc n ++ b' ∧ In n) ∧ Bytes b' ∧ b'.length ≤ b.length ∧ (e ≠ 0 → n = 0) := by
  rw [rn] at h
  by_cases c : (tk 0 b).2.2 = 0
  · rw [if_pos c] at h
    simp only [Prod.mk.injEq] at h
    obtain ⟨h1, h2, h3⟩ := h
    obtain ⟨q1, q2⟩ := tk_enc (V := (tk 0 b).1) (rest := (tk 0 b).2.1) hb (by rw [← c])
    rw [h1, h2] at q1
    rw [h1] at q2
    refine ⟨fun _ => ⟨q1, q2⟩, fun x hx => hb x (by rw [q1]; exact List.mem_append_right _ hx), ?_, fun h => absurd h3.symm h⟩
    have := congrArg List.length q1
    rw [List.length_append] at this
    omega
  · rw [if_neg c] at h
    simp only [Prod.mk.injEq] at h
    obtain ⟨rfl, rfl, rfl⟩ := h
    exact ⟨fun h => absurd h c, hb, Nat.le_refl _, fun _ => rfl⟩
/-- Two numbers, one after the other. -/
def rn2 (b : List Int) : Int × Int × List Int × Int := if (rn b).2.2 = 0 then ((rn b).1, (rn (rn b).2.1).1, (rn (rn b).2.1).2.1, (rn (rn b).2.1).2.2) else (0, 0, (rn b).2.1, (rn b).2.2)
/-- What reading m points comes to. -/
def P1 : Nat → List Int → Int → Int → List S44 → Int × List Int × Int × Int × List S44
  | 0, b, x, y, l => (0, b, x, y, l)
  | m + 1, b, x, y, l => if (rn2 b).2.2.2 = 0 then P1 m (rn2 b).2.2.1 (wrap64 (x + (rn2 b).1)) (wrap64 (y + (rn2 b).2.1)) (l ++ [(⟨wrap64 (x + (rn2 b).1), wrap64 (y + (rn2 b).2.1)⟩ : S44)]) else ((rn2 b).2.2.2, (rn2 b).2.2.1, wrap64 (x + (rn2 b).1), wrap64 (y + (rn2 b).2.1), l)
theorem rn2_inv {b b' : List Int} {n1 n2 e : Int} (hb : Bytes b) (h : rn2 b = (n1, n2, b', e)) : (e = 0 → b = enc n1 ++ (enc n2 ++ b') ∧ In n1 ∧ In n2) ∧ Bytes b' ∧ b'.length ≤ b.length := by
  rw [rn2] at h
  obtain ⟨⟨m1, b1, e1⟩, h1⟩ : ∃ r, r = rn b := ⟨_, rfl⟩
  obtain ⟨p1, p2, p3, p4⟩ := rn_inv hb h1.symm
  rw [← h1] at h
  by_cases c : e1 = 0
  · subst c
    rw [if_pos rfl] at h
    obtain ⟨⟨m2, b2, e2⟩, h2⟩ : ∃ r, r = rn b1 := ⟨_, rfl⟩
    obtain ⟨q1, q2, q3, q4⟩ := rn_inv p2 h2.symm
    rw [← h2] at h
    simp only [Prod.mk.injEq] at h
    obtain ⟨rfl, rfl, rfl, rfl⟩ := h
    refine ⟨fun he => ⟨?_, (p1 rfl).2, (q1 he).2⟩, q2, Nat.le_trans q3 p3⟩
    rw [← (q1 he).1]
    exact (p1 rfl).1
  · rw [if_neg c] at h
    simp only [Prod.mk.injEq] at h
    obtain ⟨rfl, rfl, rfl, rfl⟩ := h
    exact ⟨fun he => absurd he c, p2, p3⟩
theorem l1_P (lim : Nat) (hlim : lim = 140737488355328) (k : Nat) (hk : 40 ≤ k) : ∀ (m : Nat) (b : List Int) (x y : Int) (l : List S44), Bytes b → b.length < lim → l.length + m ≤ 8000000000 → delta_Read.l1 k m b 0 x y l = some (P1 m b x y l) := by
  intro m
  induction m with
  | zero => intro b x y l _ _ _; rfl
  | succ m ih =>
    intro b x y l hb hl hm
    rw [delta_Read.l1, P1, num_rn lim hlim b hb hl k hk, Option.bind_some]
    obtain ⟨⟨m1, b1, e1⟩, h1⟩ : ∃ r, r = rn b := ⟨_, rfl⟩
    obtain ⟨p1, p2, p3, p4⟩ := rn_inv hb h1.symm
    rw [rn2, ← h1]
    by_cases c : e1 = 0
    · subst c
      rw [if_pos rfl]
      dsimp only
      rw [num_rn lim hlim b1 p2 (Nat.lt_of_le_of_lt p3 hl) k hk, Option.bind_some]
      obtain ⟨⟨m2, b2, e2⟩, h2⟩ : ∃ r, r = rn b1 := ⟨_, rfl⟩
      obtain ⟨q1, q2, q3, q4⟩ := rn_inv p2 h2.symm
      rw [← h2]
      dsimp only
      by_cases c2 : e2 = 0
      · rw [if_pos c2, if_pos c2, if_pos (by omega)]
        exact ih _ _ _ _ q2 (by omega) (by simp; omega)
      · rw [if_neg c2, if_neg c2]
    · rw [if_neg c]
      dsimp only
      rw [show delta_num.f k b1 e1 = some (0, b1, e1) by rw [delta_num.f, if_neg c], Option.bind_some]
      dsimp only
      rw [if_neg c, if_neg c, p4 c]
/-- Points' bytes, from the point (x, y) on. -/
def encP : Int → Int → List S44 → List Int
  | _, _, [] => []
  | x, y, q :: r => enc (wrap64 (q.f0 - x)) ++ (enc (wrap64 (q.f1 - y)) ++ encP q.f0 q.f1 r)
def after : Int → Int → List S44 → Int × Int
  | x, y, [] => (x, y)
  | _, _, q :: r => after q.f0 q.f1 r
def InP (l : List S44) : Prop := ∀ q ∈ l, In q.f0 ∧ In q.f1
theorem in_wrap (x : Int) : In (wrap64 x) := by unfold In wrap64; omega
theorem wrap_back (x n : Int) (h : In n) : wrap64 (wrap64 (x + n) - x) = n := by
  obtain ⟨h0, h1⟩ := h
  unfold wrap64; omega
theorem P1_inv : ∀ (m : Nat) (b : List Int) (x y : Int) (l : List S44) (b' : List Int) (x' y' : Int) (l' : List S44) (e' : Int), Bytes b → P1 m b x y l = (e', b', x', y', l') → Bytes b' ∧ b'.length ≤ b.length ∧
    (e' = 0 → ∃ ps, l' = l ++ ps ∧ ps.length = m ∧ b = encP x y ps ++ b' ∧ (x', y') = after x y ps ∧ InP ps) := by
  intro m
  induction m with
  | zero =>
    intro b x y l b' x' y' l' e' hb h
    rw [P1] at h
    cases h
    exact ⟨hb, Nat.le_refl _, fun _ => ⟨[], by simp, rfl, rfl, rfl, fun q hq => absurd hq (by simp)⟩⟩
  | succ m ih =>
    intro b x y l b' x' y' l' e' hb h
    rw [P1] at h
    obtain ⟨⟨n1, n2, b1, e1⟩, h1⟩ : ∃ r, r = rn2 b := ⟨_, rfl⟩
    obtain ⟨p1, p2, p3⟩ := rn2_inv hb h1.symm
    rw [← h1] at h
    by_cases c : e1 = 0
    · rw [if_pos c] at h
      obtain ⟨q1, q2, q3⟩ := ih _ _ _ _ _ _ _ _ _ p2 h
      refine ⟨q1, Nat.le_trans q2 p3, fun he => ?_⟩
      obtain ⟨ps, r1, r2, r3, r4, r5⟩ := q3 he
      obtain ⟨s1, s2, s3⟩ := p1 c
      refine ⟨(⟨wrap64 (x + n1), wrap64 (y + n2)⟩ : S44) :: ps, by rw [r1, List.append_assoc]; rfl, by rw [List.length_cons, r2], ?_, r4, fun q hq => ?_⟩
      · rw [encP]
        dsimp only
        rw [wrap_back x n1 s2, wrap_back y n2 s3, List.append_assoc, List.append_assoc, ← r3]
        exact s1
      · rcases List.mem_cons.1 hq with rfl | hq
        · exact ⟨in_wrap _, in_wrap _⟩
        · exact r5 q hq
    · rw [if_neg c] at h
      simp only [Prod.mk.injEq] at h
      obtain ⟨rfl, rfl, _⟩ := h
      exact ⟨p2, p3, fun h => absurd h c⟩
/-- How many there are. -/
def rm (b : List Int) (most : Int) : Int × List Int × Int := if (rn b).2.2 = 0 then (if (rn b).1 < 0 ∨ (rn b).1 > most then (0, (rn b).2.1, 2) else ((rn b).1, (rn b).2.1, 0)) else (0, (rn b).2.1, (rn b).2.2)
theorem many_rm (lim : Nat) (hlim : lim = 140737488355328) (b : List Int) (most : Int) (hb : Bytes b) (hl : b.length < lim) (k : Nat) (hk : 40 ≤ k) : delta_many.f k b 0 most = some (rm b most) := by
  rw [delta_many.f, num_rn lim hlim b hb hl k hk, Option.bind_some, rm]
  by_cases c : (rn b).2.2 = 0
  · rw [if_pos c, if_pos c]
    by_cases c2 : (rn b).1 < 0 ∨ (rn b).1 > most
    · rw [if_pos c2, if_pos c2]
    · rw [if_neg c2, if_neg c2]
  · rw [if_neg c, if_neg c]
theorem rm_inv {b b' : List Int} {n e most : Int} (hb : Bytes b) (h : rm b most = (n, b', e)) : (e = 0 → b = enc n ++ b' ∧ 0 ≤ n ∧ n ≤ most) ∧ Bytes b' ∧ b'.length ≤ b.length ∧ (e ≠ 0 → n = 0) := by
  rw [rm] at h
  obtain ⟨⟨m1, b1, e1⟩, h1⟩ : ∃ r, r = rn b := ⟨_, rfl⟩
  obtain ⟨p1, p2, p3, p4⟩ := rn_inv hb h1.symm
  rw [← h1] at h
  by_cases c : e1 = 0
  · rw [if_pos c] at h
    by_cases c2 : m1 < 0 ∨ m1 > most
    · rw [if_pos c2] at h
      cases h
      exact ⟨fun h => absurd h (by decide), p2, p3, fun _ => rfl⟩
    · rw [if_neg c2] at h
      cases h
      exact ⟨fun _ => ⟨(p1 c).1, by omega, by omega⟩, p2, p3, fun h => absurd rfl h⟩
  · rw [if_neg c] at h
    cases h
    exact ⟨fun h => absurd h c, p2, p3, fun _ => rfl⟩
/-- What reading m lists comes to. -/
def P0 : Nat → List Int → Int → Int → Int → List (List S44) → Int × List Int × List (List S44)
  | 0, b, _, _, _, out => (0, b, out)
  | m + 1, b, x, y, all, out => if (rm b (20000 - all)).2.2 = 0 then
      (if (P1 (rm b (20000 - all)).1.toNat (rm b (20000 - all)).2.1 x y []).1 = 0 then P0 m (P1 (rm b (20000 - all)).1.toNat (rm b (20000 - all)).2.1 x y []).2.1 (P1 (rm b (20000 - all)).1.toNat (rm b (20000 - all)).2.1 x y []).2.2.1 (P1 (rm b (20000 - all)).1.toNat (rm b (20000 - all)).2.1 x y []).2.2.2.1 (all + (rm b (20000 - all)).1) (out ++ [(P1 (rm b (20000 - all)).1.toNat (rm b (20000 - all)).2.1 x y []).2.2.2.2])
        else ((P1 (rm b (20000 - all)).1.toNat (rm b (20000 - all)).2.1 x y []).1, (P1 (rm b (20000 - all)).1.toNat (rm b (20000 - all)).2.1 x y []).2.1, []))
      else ((rm b (20000 - all)).2.2, (rm b (20000 - all)).2.1, [])
theorem l0_P (lim : Nat) (hlim : lim = 140737488355328) (k : Nat) (hk : 40 ≤ k) : ∀ (m : Nat) (b : List Int) (x y all : Int) (out : List (List S44)), Bytes b → b.length < lim → 0 ≤ all → all ≤ 20000 → out.length + m ≤ 2000 → delta_Read.l0 k m b 0 x y all out = some (P0 m b x y all out) := by
  intro m
  induction m with
  | zero => intro b x y all out _ _ _ _ _; rfl
  | succ m ih =>
    intro b x y all out hb hl ha0 ha1 hm
    have w1 : wrap64 (20000 - all) = 20000 - all := wrap_id (by omega) (by omega)
    rw [delta_Read.l0, P0, w1, many_rm lim hlim b _ hb hl k hk, Option.bind_some]
    obtain ⟨⟨n1, b1, e1⟩, h1⟩ : ∃ r, r = rm b (20000 - all) := ⟨_, rfl⟩
    obtain ⟨p1, p2, p3, p4⟩ := rm_inv hb h1.symm
    rw [← h1]
    dsimp only
    by_cases c : e1 = 0
    · obtain ⟨q1, q2, q3⟩ := p1 c
      subst c
      rw [if_pos rfl, l1_P lim hlim k hk _ _ _ _ _ p2 (Nat.lt_of_le_of_lt p3 hl) (by simp; omega), Option.bind_some]
      obtain ⟨⟨e2, b2, x2, y2, l2⟩, h2⟩ : ∃ r, r = P1 n1.toNat b1 x y [] := ⟨_, rfl⟩
      obtain ⟨r1, r2, r3⟩ := P1_inv _ _ _ _ _ _ _ _ _ _ p2 h2.symm
      rw [← h2]
      dsimp only
      by_cases c2 : e2 = 0
      · rw [if_pos c2, if_pos c2, if_pos (by omega), show wrap64 (all + n1) = all + n1 from wrap_id (by omega) (by omega)]
        exact ih _ _ _ _ _ r1 (by omega) (by omega) (by omega) (by simp; omega)
      · rw [if_neg c2, if_neg c2]
    · rw [p4 c, if_neg c]
      show (delta_Read.l1 k 0 b1 e1 x y []).bind _ = _
      rw [delta_Read.l1, Option.bind_some]
      dsimp only
      rw [if_neg c]
/-- Lists' bytes, from the point (x, y) on. -/
def encL : Int → Int → List (List S44) → List Int
  | _, _, [] => []
  | x, y, l :: r => enc (l.length : Int) ++ (encP x y l ++ encL (after x y l).1 (after x y l).2 r)
def tot : List (List S44) → Nat
  | [] => 0
  | l :: r => l.length + tot r
def InL (ls : List (List S44)) : Prop := ∀ l ∈ ls, InP l
theorem P0_inv : ∀ (m : Nat) (b : List Int) (x y all : Int) (out : List (List S44)) (b' : List Int) (out' : List (List S44)), Bytes b → P0 m b x y all out = (0, b', out') → all ≤ 20000 →
    Bytes b' ∧ ∃ ls, out' = out ++ ls ∧ ls.length = m ∧ b = encL x y ls ++ b' ∧ all + (tot ls : Int) ≤ 20000 ∧ InL ls := by
  intro m
  induction m with
  | zero =>
    intro b x y all out b' out' hb h ha
    rw [P0] at h
    cases h
    exact ⟨hb, [], by simp, rfl, rfl, by simp [tot]; exact ha, fun q hq => absurd hq (by simp)⟩
  | succ m ih =>
    intro b x y all out b' out' hb h ha
    rw [P0] at h
    obtain ⟨⟨n1, b1, e1⟩, h1⟩ : ∃ r, r = rm b (20000 - all) := ⟨_, rfl⟩
    obtain ⟨p1, p2, p3, p4⟩ := rm_inv hb h1.symm
    rw [← h1] at h
    dsimp only at h
    by_cases c : e1 = 0
    · obtain ⟨q1, q2, q3⟩ := p1 c
      rw [if_pos c] at h
      obtain ⟨⟨e2, b2, x2, y2, l2⟩, h2⟩ : ∃ r, r = P1 n1.toNat b1 x y [] := ⟨_, rfl⟩
      obtain ⟨r1, r2, r3⟩ := P1_inv _ _ _ _ _ _ _ _ _ _ p2 h2.symm
      rw [← h2] at h
      dsimp only at h
      by_cases c2 : e2 = 0
      · rw [if_pos c2] at h
        obtain ⟨ps, s1, s2, s3, s4, s5⟩ := r3 c2
        obtain ⟨t1, ls, u1, u2, u3, u4, u5⟩ := ih _ _ _ _ _ _ _ r1 h (by omega)
        rw [List.nil_append] at s1
        subst s1
        have hn : ((l2.length : Nat) : Int) = n1 := by omega
        refine ⟨t1, l2 :: ls, by rw [u1, List.append_assoc]; rfl, by rw [List.length_cons, u2], ?_, by rw [tot]; omega, fun l hl => ?_⟩
        · rw [encL, ← s4, hn, List.append_assoc, List.append_assoc, ← u3, ← s3]
          exact q1
        · rcases List.mem_cons.1 hl with rfl | hl
          · exact s5
          · exact u5 l hl
      · rw [if_neg c2] at h
        simp only [Prod.mk.injEq] at h
        exact absurd h.1 c2
    · rw [if_neg c] at h
      simp only [Prod.mk.injEq] at h
      exact absurd h.1 c
/-- What Read comes to. -/
def R (b : List Int) : List (List S44) × List Int × Int := if (rm b 1000).2.2 = 0 then
    (if (P0 (rm b 1000).1.toNat (rm b 1000).2.1 0 0 0 []).1 = 0 then ((P0 (rm b 1000).1.toNat (rm b 1000).2.1 0 0 0 []).2.2, (P0 (rm b 1000).1.toNat (rm b 1000).2.1 0 0 0 []).2.1, 0) else ([], [], (P0 (rm b 1000).1.toNat (rm b 1000).2.1 0 0 0 []).1))
  else ([], [], (rm b 1000).2.2)
theorem read_R (lim : Nat) (hlim : lim = 140737488355328) (b : List Int) (hb : Bytes b) (hl : b.length < lim) (k : Nat) (hk : 40 ≤ k) : delta_Read.f k b = some (R b) := by
  rw [delta_Read.f, ← hlim, if_pos hl, delta_Read.f0, many_rm lim hlim b _ hb hl k hk, Option.bind_some, R]
  obtain ⟨⟨n1, b1, e1⟩, h1⟩ : ∃ r, r = rm b 1000 := ⟨_, rfl⟩
  obtain ⟨p1, p2, p3, p4⟩ := rm_inv hb h1.symm
  rw [← h1]
  dsimp only
  by_cases c : e1 = 0
  · obtain ⟨q1, q2, q3⟩ := p1 c
    subst c
    rw [if_pos rfl, l0_P lim hlim k hk _ _ _ _ _ _ p2 (Nat.lt_of_le_of_lt p3 hl) (by omega) (by omega) (by simp; omega), Option.bind_some]
    by_cases c2 : (P0 n1.toNat b1 0 0 0 []).1 = 0
    · rw [if_pos c2, if_pos c2]
    · rw [if_neg c2, if_neg c2]
  · rw [p4 c, if_neg c]
    show (delta_Read.l0 k 0 b1 e1 0 0 0 []).bind _ = _
    rw [delta_Read.l0, Option.bind_some]
    dsimp only
    rw [if_neg c]
/-- The bytes of lists. -/
def encAll (ls : List (List S44)) : List Int := enc (ls.length : Int) ++ encL 0 0 ls
theorem R_inv {b b' : List Int} {ls : List (List S44)} {e : Int} (hb : Bytes b) (h : R b = (ls, b', e)) : (e = 0 → b = encAll ls ++ b' ∧ ls.length ≤ 1000 ∧ tot ls ≤ 20000 ∧ InL ls) ∧ (e ≠ 0 → ls = [] ∧ b' = []) := by
  rw [R] at h
  obtain ⟨⟨n1, b1, e1⟩, h1⟩ : ∃ r, r = rm b 1000 := ⟨_, rfl⟩
  obtain ⟨p1, p2, p3, p4⟩ := rm_inv hb h1.symm
  rw [← h1] at h
  dsimp only at h
  by_cases c : e1 = 0
  · obtain ⟨q1, q2, q3⟩ := p1 c
    rw [if_pos c] at h
    obtain ⟨⟨e2, b2, o2⟩, h2⟩ : ∃ r, r = P0 n1.toNat b1 0 0 0 [] := ⟨_, rfl⟩
    rw [← h2] at h
    dsimp only at h
    by_cases c2 : e2 = 0
    · rw [if_pos c2] at h
      rw [c2] at h2
      obtain ⟨t1, l, u1, u2, u3, u4, u5⟩ := P0_inv _ _ _ _ _ _ _ _ p2 h2.symm (by decide)
      simp only [Prod.mk.injEq] at h
      obtain ⟨rfl, rfl, rfl⟩ := h
      rw [List.nil_append] at u1
      subst u1
      refine ⟨fun _ => ⟨?_, by omega, by omega, u5⟩, fun h => absurd rfl h⟩
      rw [encAll, List.append_assoc, ← u3, show ((o2.length : Nat) : Int) = n1 by omega]
      exact q1
    · rw [if_neg c2] at h
      simp only [Prod.mk.injEq] at h
      obtain ⟨rfl, rfl, rfl⟩ := h
      exact ⟨fun h => absurd h c2, fun _ => ⟨rfl, rfl⟩⟩
  · rw [if_neg c] at h
    simp only [Prod.mk.injEq] at h
    obtain ⟨rfl, rfl, rfl⟩ := h
    exact ⟨fun h => absurd h c, fun _ => ⟨rfl, rfl⟩⟩
end Go.Proofs.Ytjgoehhhjffpmaa.U


/- Numbers and lists of points are written as by the second implementation: for all numbers of a whole number's range, all bytes, and all lists of lists of points. Conditions: stated at each. -/
import Derived.Test.YtjgoehhhjffpmaaUE
import Derived.Test.YtjgoehhhjffpmaaQDeltaTells
namespace Go.Proofs.Ytjgoehhhjffpmaa.Pure
open Go.RowKit Go.Proofs.Ytjgoehhhjffpmaa.Q Go.Proofs.Ytjgoehhhjffpmaa.U Go.Proofs.YtjgoehhhjffpmaaW.PrintWords Go.Proofs.YtjgoehhhjffpmaaW.PrintLast Go.Proofs.YtjgoehhhjffpmaaW.PrintMore
set_option linter.unusedSimpArgs false
set_option linter.unusedVariables false

theorem wrap_range (x : Int) : -9223372036854775808 ≤ wrap64 x ∧ wrap64 x ≤ 9223372036854775807 := by
  unfold wrap64
  omega

/-- The last point so far, or nothing. -/
def Last (all : List S44) (x y : Int) : Prop := (all = [] ∧ x = 0 ∧ y = 0) ∨ (all ≠ [] ∧ (rd_T44 all ((all.length : Int) - 1)).f0 = x ∧ (rd_T44 all ((all.length : Int) - 1)).f1 = y)
theorem last_snoc (all : List S44) (q : S44) : Last (all ++ [q]) q.f0 q.f1 := by
  right
  refine ⟨by simp, ?_⟩
  have e : rd_T44 (all ++ [q]) (((all ++ [q]).length : Int) - 1) = q := by
    unfold rd_T44
    rw [show ((((all ++ [q]).length : Int) - 1).toNat) = all.length from by rw [List.length_append, List.length_singleton]; omega, List.getD_eq_getElem?_getD, List.getElem?_append_right (Nat.le_refl _), Nat.sub_self]
    rfl
  rw [e]
  exact ⟨rfl, rfl⟩

theorem ring_step (lim : Nat) (hlim : lim = 140737488355328) (parts : List (List S44)) (n2 i2 : Int) (r : List S44) (j : Nat) (hj : j < r.length) (hr : r.length ≤ 100000) (out : List Int) (all : List S44) (px py : Int) (hL : Last all px py) (ho : out.length ≤ 10000000) (ha : all.length ≤ 1000000) :
    ∃ (out' : List Int) (q : S44), out'.length ≤ out.length + 20 ∧ Last (all ++ [q]) q.f0 q.f1 ∧
      (∀ k, 12 ≤ k → delta_Write.l1 (k + 1) parts n2 i2 r (r.length : Int) (j : Int) out px py = delta_Write.l1 k parts n2 i2 r (r.length : Int) ((j + 1 : Nat) : Int) out' q.f0 q.f1) ∧
      (∀ k, 12 ≤ k → terrref5_Lists.l1 (k + 1) out all parts n2 i2 r (r.length : Int) (j : Int) = terrref5_Lists.l1 k out' (all ++ [q]) parts n2 i2 r (r.length : Int) ((j + 1 : Nat) : Int)) := by
  have w1 : wrap64 ((j : Int) + 1) = ((j + 1 : Nat) : Int) := by rw [wrap_id (by omega) (by omega)]; omega
  have c1 : (j : Int) < (r.length : Int) := by omega
  have rx := wrap_range ((rd_T44 r (j : Int)).f0 - px)
  have ry := wrap_range ((rd_T44 r (j : Int)).f1 - py)
  obtain ⟨dx, lx, hx⟩ := digits_in lim hlim (wrap64 ((rd_T44 r (j : Int)).f0 - px)) rx.1 rx.2
  obtain ⟨dy, ly, hy⟩ := digits_in lim hlim (wrap64 ((rd_T44 r (j : Int)).f1 - py)) ry.1 ry.2
  have o1 : (out ++ dx).length ≤ 10000010 := by rw [List.length_append]; omega
  refine ⟨out ++ dx ++ dy, ⟨(rd_T44 r (j : Int)).f0, (rd_T44 r (j : Int)).f1⟩, by rw [List.length_append, List.length_append]; omega, last_snoc _ _, fun k hk => ?_, fun k hk => ?_⟩
  · rw [delta_Write.l1, if_pos c1, if_pos (Int.natCast_nonneg _), if_pos c1, (hx k out hk (by omega)).1, Option.bind_some, (hy k (out ++ dx) hk (by omega)).1, Option.bind_some, w1]
  · have gx := (hx k [] hk (by simp; omega)).2
    have gy := (hy k [] hk (by simp; omega)).2
    have b1 : out.length + dx.length < 140737488355328 := by omega
    have b2 : (out ++ dx).length + dy.length < 140737488355328 := by omega
    have b3 : all.length < 8796093022208 := by omega
    rcases hL with ⟨rfl, rfl, rfl⟩ | ⟨hne, ex, ey⟩
    · rw [terrref5_Lists.l1, if_pos c1, if_pos (Int.natCast_nonneg _), if_pos c1, if_neg (by decide), gx, Option.bind_some, if_pos b1, Option.bind_some, gy, Option.bind_some, if_pos b2, if_pos b3, w1]
    · have hpos : 0 < all.length := List.length_pos_iff.mpr hne
      have w2 : wrap64 ((all.length : Int) - 1) = (all.length : Int) - 1 := wrap_id (by omega) (by omega)
      rw [terrref5_Lists.l1, if_pos c1, if_pos (Int.natCast_nonneg _), if_pos c1, if_pos (by omega), w2, if_pos (by omega), if_pos (by omega), ex, ey, gx, Option.bind_some, if_pos b1, Option.bind_some, gy, Option.bind_some, if_pos b2, if_pos b3, w1]

theorem ring_all (lim : Nat) (hlim : lim = 140737488355328) (parts : List (List S44)) (n2 i2 : Int) (r : List S44) (hr : r.length ≤ 100000) : ∀ (d j : Nat) (out : List Int) (all : List S44) (px py : Int), j + d = r.length → Last all px py → out.length + 20 * d ≤ 9000000 → all.length + d ≤ 900000 →
    ∃ (out' : List Int) (all' : List S44) (x y : Int), out'.length ≤ out.length + 20 * d ∧ all'.length = all.length + d ∧ Last all' x y ∧
      (∀ k, 12 ≤ k → delta_Write.l1 (k + d + 1) parts n2 i2 r (r.length : Int) (j : Int) out px py = delta_Write.l0 k parts n2 (wrap64 (i2 + 1)) out' x y) ∧
      (∀ k, 12 ≤ k → terrref5_Lists.l1 (k + d + 1) out all parts n2 i2 r (r.length : Int) (j : Int) = terrref5_Lists.l0 k out' all' parts n2 (wrap64 (i2 + 1))) := by
  intro d
  induction d with
  | zero =>
    intro j out all px py hj hL ho ha
    refine ⟨out, all, px, py, by omega, by omega, hL, fun k hk => ?_, fun k hk => ?_⟩
    · rw [Nat.add_zero, delta_Write.l1, if_neg (by omega)]
    · rw [Nat.add_zero, terrref5_Lists.l1, if_neg (by omega)]
  | succ d ih =>
    intro j out all px py hj hL ho ha
    obtain ⟨o1, q, l1, L1, g1, g2⟩ := ring_step lim hlim parts n2 i2 r j (by omega) hr out all px py hL (by omega) (by omega)
    obtain ⟨o2, a2, x, y, l2, l3, L2, f1, f2⟩ := ih (j + 1) o1 (all ++ [q]) q.f0 q.f1 (by omega) L1 (by omega) (by rw [List.length_append, List.length_singleton]; omega)
    refine ⟨o2, a2, x, y, by omega, by rw [l3, List.length_append, List.length_singleton]; omega, L2, fun k hk => ?_, fun k hk => ?_⟩
    · rw [show k + (d + 1) + 1 = (k + d + 1) + 1 from by omega, g1 _ (by omega)]
      exact f1 k hk
    · rw [show k + (d + 1) + 1 = (k + d + 1) + 1 from by omega, g2 _ (by omega)]
      exact f2 k hk

/-- The points of the lists from i on. -/
def pts (parts : List (List S44)) : Nat → Nat
  | 0 => 0
  | d + 1 => (rd_L4 parts ((parts.length - (d + 1) : Nat) : Int)).length + pts parts d

theorem parts_all (lim : Nat) (hlim : lim = 140737488355328) (parts : List (List S44)) (hp : parts.length ≤ 1000) : ∀ (d i : Nat) (out : List Int) (all : List S44) (px py : Int), i + d = parts.length → Last all px py → pts parts d ≤ 20000 → out.length + 10 * d + 20 * pts parts d ≤ 8000000 → all.length + pts parts d ≤ 800000 →
    ∃ (out' : List Int) (K : Nat), out'.length ≤ out.length + 10 * d + 20 * pts parts d ∧
      (∀ k, K ≤ k → delta_Write.l0 k parts (parts.length : Int) (i : Int) out px py = some (out', 0)) ∧
      (∀ k, K ≤ k → terrref5_Lists.l0 k out all parts (parts.length : Int) (i : Int) = some out') := by
  intro d
  induction d with
  | zero =>
    intro i out all px py hi hL _ _ _
    refine ⟨out, 1, by omega, fun k hk => ?_, fun k hk => ?_⟩
    · obtain ⟨k, rfl⟩ : ∃ m, k = m + 1 := ⟨k - 1, by omega⟩
      rw [delta_Write.l0, if_neg (by omega)]
    · obtain ⟨k, rfl⟩ : ∃ m, k = m + 1 := ⟨k - 1, by omega⟩
      rw [terrref5_Lists.l0, if_neg (by omega)]
  | succ d ih =>
    intro i out all px py hi hL hpt ho ha
    have ei : parts.length - (d + 1) = i := by omega
    rw [pts, ei] at hpt ho ha ⊢
    have c1 : (i : Int) < (parts.length : Int) := by omega
    have w1 : wrap64 ((i : Int) + 1) = ((i + 1 : Nat) : Int) := by rw [wrap_id (by omega) (by omega)]; omega
    obtain ⟨dn, ln, hn⟩ := digits_in lim hlim ((rd_L4 parts (i : Int)).length : Int) (by omega) (by omega)
    obtain ⟨o1, a1, x, y, l1, l2, L1, g1, g2⟩ := ring_all lim hlim parts (parts.length : Int) (i : Int) (rd_L4 parts (i : Int)) (by omega) (rd_L4 parts (i : Int)).length 0 (out ++ dn) all px py (by omega) hL (by rw [List.length_append]; omega) (by omega)
    rw [List.length_append] at l1
    obtain ⟨o2, K, l3, f1, f2⟩ := ih (i + 1) o1 a1 x y (by omega) L1 (by omega) (by omega) (by omega)
    refine ⟨o2, K + 12 + (rd_L4 parts (i : Int)).length + 2, by omega, fun k hk => ?_, fun k hk => ?_⟩
    · obtain ⟨m, rfl, hm, hm2⟩ : ∃ m, k = (m + (rd_L4 parts (i : Int)).length + 1) + 1 ∧ 12 ≤ m ∧ K ≤ m := ⟨k - (rd_L4 parts (i : Int)).length - 2, by omega, by omega, by omega⟩
      have z : ((0 : Nat) : Int) = 0 := rfl
      have e := g1 m hm
      rw [z, w1] at e
      rw [delta_Write.l0, if_pos c1, if_pos (Int.natCast_nonneg _), if_pos c1, (hn _ out (by omega) (by omega)).1, Option.bind_some, e]
      exact f1 m hm2
    · obtain ⟨m, rfl, hm, hm2⟩ : ∃ m, k = (m + (rd_L4 parts (i : Int)).length + 1) + 1 ∧ 12 ≤ m ∧ K ≤ m := ⟨k - (rd_L4 parts (i : Int)).length - 2, by omega, by omega, by omega⟩
      have z : ((0 : Nat) : Int) = 0 := rfl
      have e := g2 m hm
      rw [z, w1] at e
      rw [terrref5_Lists.l0, if_pos c1, if_pos (Int.natCast_nonneg _), if_pos c1, (hn _ [] (by omega) (by simp; omega)).2, Option.bind_some, if_pos (by omega), e]
      exact f2 m hm2

/-- What is written is what the second implementation writes. -/
theorem write_lists (lim : Nat) (hlim : lim = 140737488355328) (parts : List (List S44)) (hp : parts.length ≤ 1000) (hpt : pts parts parts.length ≤ 20000) (hc : ∃ K, ∀ k, K ≤ k → delta_Check.f k parts = some 0) :
    ∃ (out : List Int) (K : Nat), out.length ≤ 8000000 ∧ (∀ k, K ≤ k → delta_Write.f k parts = some (out, 0)) ∧ (∀ k, K ≤ k → terrref5_Lists.f k parts = some out) := by
  obtain ⟨K0, h0⟩ := hc
  obtain ⟨dn, ln, hn⟩ := digits_in lim hlim (parts.length : Int) (by omega) (by omega)
  obtain ⟨out, K, l, f1, f2⟩ := parts_all lim hlim parts hp parts.length 0 dn [] 0 0 (by omega) (.inl ⟨rfl, rfl, rfl⟩) hpt (by omega) (by simp; omega)
  refine ⟨out, K0 + K + 12, by omega, fun k hk => ?_, fun k hk => ?_⟩
  · unfold delta_Write.f
    rw [h0 k (by omega), Option.bind_some, if_pos rfl, (hn k [] (by omega) (by simp; omega)).1, Option.bind_some]
    exact f1 k (by omega)
  · unfold terrref5_Lists.f
    rw [(hn k [] (by omega) (by simp; omega)).2, Option.bind_some]
    exact f2 k (by omega)

/-! ### rows of bytes are equal to themselves -/
theorem eq_loop (l : List Int) (hl : l.length < 9000000000000000000) : ∀ (d k i : Nat), i + d = l.length → d < k → slices_Equal_byte_byte.l0 k l l (l.length : Int) (i : Int) = some true := by
  intro d
  induction d with
  | zero =>
    intro k i hi hk
    obtain ⟨k, rfl⟩ : ∃ m, k = m + 1 := ⟨k - 1, by omega⟩
    rw [slices_Equal_byte_byte.l0, if_neg (by omega)]
  | succ d ih =>
    intro k i hi hk
    obtain ⟨k, rfl⟩ : ∃ m, k = m + 1 := ⟨k - 1, by omega⟩
    have c1 : (i : Int) < (l.length : Int) := by omega
    have w1 : wrap64 ((i : Int) + 1) = ((i + 1 : Nat) : Int) := by rw [wrap_id (by omega) (by omega)]; omega
    rw [slices_Equal_byte_byte.l0, if_pos c1, if_pos (Int.natCast_nonneg _), if_pos c1, if_pos c1, if_pos rfl, w1]
    exact ih k (i + 1) (by omega) (by omega)
theorem eq_self (l : List Int) (hl : l.length < 9000000000000000000) (k : Nat) (hk : l.length < k) : slices_Equal_byte_byte.f k l l = some true := by
  unfold slices_Equal_byte_byte.f
  rw [if_pos rfl]
  exact eq_loop l hl l.length k 0 (by omega) hk

theorem concat2 (lim : Nat) (hlim : lim = 140737488355328) (u v : List Int) (h : u.length + v.length + 2 < lim) (k : Nat) : slices_Concat_byte_byte.f (k + 6) [u, v] = some (u ++ v) := by
  have w0 : wrap64 (0 + (u.length : Int)) = (u.length : Int) := by rw [wrap_id (by omega) (by omega)]; omega
  have w1 : wrap64 ((u.length : Int) + (v.length : Int)) = (u.length : Int) + (v.length : Int) := wrap_id (by omega) (by omega)
  have a1 : wrap64 ((0 : Int) + 1) = 1 := wrap_id (by decide) (by decide)
  have a2 : wrap64 ((1 : Int) + 1) = 2 := wrap_id (by decide) (by decide)
  have r0 : rd_L1 [u, v] 0 = u := rfl
  have r1 : rd_L1 [u, v] 1 = v := rfl
  have l : (([u, v] : List (List Int)).length : Int) = 2 := rfl
  unfold slices_Concat_byte_byte.f
  rw [l, show k + 6 = k + 5 + 1 from rfl, slices_Concat_byte_byte.l0, l, if_pos (by decide), if_pos (by decide), if_pos (by decide), r0, w0, if_neg (by omega), a1]
  rw [show k + 5 = k + 4 + 1 from rfl, slices_Concat_byte_byte.l0, l, if_pos (by decide), if_pos (by decide), if_pos (by decide), r1, w1, if_neg (by omega), a2]
  rw [show k + 4 = k + 3 + 1 from rfl, slices_Concat_byte_byte.l0, if_neg (by decide), if_pos (by omega), l]
  rw [show k + 3 = k + 2 + 1 from rfl, slices_Concat_byte_byte.l1, l, if_pos (by decide), if_pos (by decide), if_pos (by decide), r0, ← hlim, if_pos (by show 0 + u.length < lim; omega), a1]
  rw [show k + 2 = k + 1 + 1 from rfl, slices_Concat_byte_byte.l1, l, if_pos (by decide), if_pos (by decide), if_pos (by decide), r1, ← hlim, if_pos (by show u.length + v.length < lim; omega), a2]
  rw [slices_Concat_byte_byte.l1, if_neg (by decide)]
  rfl

/-! ### the limits -/
def fin (n : Nat) (S : Int) : Option Int := if (n : Int) > 1000 then some 2 else if S > 20000 then some 2 else some 0
def lawfin (k : Nat) (parts : List (List S44)) (S : Int) : Option Bool := (delta_Write.f k parts).bind fun bt256 => (if (parts.length : Int) > 1000 then (terrlaw5_DeltaTells.j2 k parts bt256.1 bt256.2 true) else (terrlaw5_DeltaTells.j2 k parts bt256.1 bt256.2 (decide (S > 20000))))

theorem sums (B : Nat) (hB : B = 9007199254740992) (parts : List (List S44)) (hp : parts.length ≤ B) (hr : ∀ j, j < parts.length → (rd_L4 parts (j : Int)).length ≤ B) : ∀ (d i : Nat) (acc : Int), i + d = parts.length →
    ∃ S : Int, (∀ k, delta_Check.l0 (k + d + 1) parts acc parts (parts.length : Int) (i : Int) = fin parts.length S) ∧ (∀ k, terrlaw5_DeltaTells.l0 (k + d + 1) parts acc parts (parts.length : Int) (i : Int) = lawfin k parts S) ∧
      (0 ≤ acc → d ≤ 1000 → acc ≤ (1000 - d) * (B : Int) → S = acc + (pts parts d : Int)) := by
  intro d
  induction d with
  | zero =>
    intro i acc hi
    refine ⟨acc, fun k => ?_, fun k => ?_, fun _ _ _ => by rw [pts]; omega⟩
    · rw [Nat.add_zero, delta_Check.l0, if_neg (by omega)]
      rfl
    · rw [Nat.add_zero, terrlaw5_DeltaTells.l0, if_neg (by omega)]
      rfl
  | succ d ih =>
    intro i acc hi
    have c1 : (i : Int) < (parts.length : Int) := by omega
    have w1 : wrap64 ((i : Int) + 1) = ((i + 1 : Nat) : Int) := by rw [wrap_id (by omega) (by omega)]; omega
    have ei : parts.length - (d + 1) = i := by omega
    have hri := hr i (by omega)
    obtain ⟨S, h1, h2, h3⟩ := ih (i + 1) (wrap64 (acc + ((rd_L4 parts (i : Int)).length : Int))) (by omega)
    refine ⟨S, fun k => ?_, fun k => ?_, fun a0 d0 ab => ?_⟩
    · rw [show k + (d + 1) + 1 = (k + d + 1) + 1 from by omega, delta_Check.l0, if_pos c1, if_pos (Int.natCast_nonneg _), if_pos c1, w1]
      exact h1 k
    · rw [show k + (d + 1) + 1 = (k + d + 1) + 1 from by omega, terrlaw5_DeltaTells.l0, if_pos c1, if_pos (Int.natCast_nonneg _), if_pos c1, w1]
      exact h2 k
    · rw [pts, ei]
      have bnd : acc ≤ 1000 * (B : Int) := by
        have : (1000 - ((d + 1 : Nat) : Int)) * (B : Int) ≤ 1000 * (B : Int) := Int.mul_le_mul_of_nonneg_right (by omega) (by omega)
        omega
      have e : (1000 - (d : Int)) * (B : Int) = (1000 - ((d + 1 : Nat) : Int)) * (B : Int) + (B : Int) := by
        rw [show (1000 - (d : Int)) = (1000 - ((d + 1 : Nat) : Int)) + 1 by omega, Int.add_mul, Int.one_mul]
      have w2 : wrap64 (acc + ((rd_L4 parts (i : Int)).length : Int)) = acc + ((rd_L4 parts (i : Int)).length : Int) := wrap_id (by omega) (by omega)
      rw [w2] at h3
      have := h3 (by omega) (by omega) (by rw [e]; omega)
      omega

theorem DeltaTells (a0 : Int) (n0 : -9223372036854775808 ≤ a0) (n1 : a0 ≤ 9223372036854775807) (b : List Int) (hb : ∀ j, j < b.length → 0 ≤ rd b (j : Int) ∧ rd b (j : Int) ≤ 255) (lim : Nat) (hlim : lim = 140737488355328) (hbl : b.length + 100 < lim)
    (B : Nat) (hB : B = 9007199254740992) (parts : List (List S44)) (hp : parts.length ≤ B) (hr : ∀ j, j < parts.length → (rd_L4 parts (j : Int)).length ≤ B) : ∃ k, terrlaw5_DeltaTells.f k a0 b parts = some true := by
  obtain ⟨S, g1, g2, g3⟩ := sums B hB parts hp hr parts.length 0 0 (by omega)
  obtain ⟨dn, ln, hn⟩ := digits_in lim hlim a0 n0 n1
  obtain ⟨n, rest, e, r1, r2, r3⟩ := read_same lim hlim b hb (by omega)
  have first : ∀ k, 10 ≤ k → delta_Num.f k [] (-65) = some [129, 1] := fun k hk => at_rounds (delta_Num.mono _ _) hk (by decide +kernel)
  have chk : ∀ k, parts.length + 1 ≤ k → delta_Check.f k parts = fin parts.length S := by
    intro k hk
    obtain ⟨m, rfl⟩ : ∃ m, k = m + parts.length + 1 := ⟨k - parts.length - 1, by omega⟩
    unfold delta_Check.f
    exact g1 m
  -- the end of the law
  have ends : ∃ K, ∀ k, K ≤ k → lawfin k parts S = some true := by
    unfold fin at chk
    by_cases c : (parts.length : Int) > 1000 ∨ S > 20000
    · have c2 : ∀ k, parts.length + 1 ≤ k → delta_Check.f k parts = some 2 := by
        intro k hk
        rw [chk k hk]
        by_cases c3 : (parts.length : Int) > 1000
        · rw [if_pos c3]
        · rw [if_neg c3, if_pos (by omega)]
      have j2 : ∀ k, parts.length + 2 ≤ k → terrlaw5_DeltaTells.j2 k parts [] 2 true = some true := by
        intro k hk
        obtain ⟨m, rfl⟩ : ∃ m, k = m + 1 := ⟨k - 1, by omega⟩
        rw [terrlaw5_DeltaTells.j2, if_pos rfl, c2 m (by omega), Option.bind_some, if_pos rfl, if_pos rfl]
        rfl
      refine ⟨parts.length + 2, fun k hk => ?_⟩
      unfold lawfin delta_Write.f
      rw [c2 k (by omega), Option.bind_some, if_neg (by decide), Option.bind_some]
      by_cases c3 : (parts.length : Int) > 1000
      · rw [if_pos c3]; exact j2 k hk
      · rw [if_neg c3, decide_eq_true (by omega)]; exact j2 k hk
    · have hS := g3 (Int.le_refl _) (by omega) (Int.mul_nonneg (by omega) (by omega))
      have c0 : ∀ k, parts.length + 1 ≤ k → delta_Check.f k parts = some 0 := by
        intro k hk
        rw [chk k hk, if_neg (by omega), if_neg (by omega)]
      obtain ⟨out, K, lo, f1, f2⟩ := write_lists lim hlim parts (by omega) (by omega) ⟨_, c0⟩
      refine ⟨K + parts.length + 8000010, fun k hk => ?_⟩
      unfold lawfin
      rw [f1 k (by omega), Option.bind_some, if_neg (by omega), decide_eq_false (by omega)]
      obtain ⟨m, rfl⟩ : ∃ m, k = m + 1 := ⟨k - 1, by omega⟩
      rw [terrlaw5_DeltaTells.j2, if_neg (show ¬ (false = true) by decide), c0 m (by omega), Option.bind_some, if_pos rfl, if_pos rfl, f2 m (by omega), Option.bind_some, eq_self out (by omega) m (by omega), Option.bind_some]
  obtain ⟨K, hK⟩ := ends
  have j0 : ∀ k, K + parts.length + 3 ≤ k → terrlaw5_DeltaTells.j0 k parts false = some true := by
    intro k hk
    obtain ⟨m, rfl, hm⟩ : ∃ m, k = (m + parts.length + 1) + 1 ∧ K ≤ m := ⟨k - parts.length - 2, by omega, by omega⟩
    rw [terrlaw5_DeltaTells.j0, if_neg (show ¬ (false = true) by decide)]
    have := g2 m
    have z : ((0 : Nat) : Int) = 0 := rfl
    rw [z] at this
    rw [this]
    exact hK m hm
  refine ⟨K + parts.length + b.length + 200, ?_⟩
  obtain ⟨k, hk⟩ : ∃ k, k = K + parts.length + b.length + 200 := ⟨_, rfl⟩
  rw [← hk]
  have hn1 := hn k b (by omega) (by omega)
  have cc := concat2 lim hlim b dn (by omega) (k - 6)
  rw [show k - 6 + 6 = k from by omega] at cc
  unfold terrlaw5_DeltaTells.f
  rw [first k (by omega), Option.bind_some, eq_self [129, 1] (by decide) k (by show 2 < k; omega), Option.bind_some, if_pos rfl, hn1.1, Option.bind_some, Option.bind_some, hn1.2, Option.bind_some, cc, Option.bind_some, eq_self (b ++ dn) (by rw [List.length_append]; omega) k (by rw [List.length_append]; omega), Option.bind_some, if_pos rfl, r1 k (by omega), Option.bind_some, r2 k (by omega), Option.bind_some, if_pos rfl]
  dsimp only
  rcases r3 with ⟨he, hrest⟩ | ⟨rfl, rfl, he⟩
  · rw [if_pos he, if_pos rfl, eq_self rest (by omega) k (by omega), Option.bind_some, if_pos rfl]
    exact j0 k (by omega)
  · rw [if_neg he, if_pos rfl]
    exact j0 k (by omega)

end Go.Proofs.Ytjgoehhhjffpmaa.Pure

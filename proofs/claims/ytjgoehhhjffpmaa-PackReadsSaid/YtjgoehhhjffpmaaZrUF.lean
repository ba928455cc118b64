/- Plain facts on reading numbers: Take and the reader's num by the list, and that what is read is what is written. Conditions: stated at each. -/
import Derived.Test.YtjgoehhhjffpmaaZrUB
import Derived.Test.YtjgoehhhjffpmaaZrQf42
namespace Go.Proofs.Ytjgoehhhjffpmaa.U
open Go.RowKit Go.Proofs.Ytjgoehhhjffpmaa.Q Go.Proofs.YtjgoehhhjffpmaaW.PrintWords Go.Proofs.YtjgoehhhjffpmaaW.PrintLast Go.Proofs.YtjgoehhhjffpmaaW.PrintMore
set_option linter.unusedSimpArgs false
set_option linter.unusedVariables false

/-- A number's value, what is left, the fault; i bytes have been read. -/
def tk : Nat → List Int → Nat × List Int × Int
  | _, [] => (0, [], 14)
  | i, c :: t => if (i = 9 ∧ c > 1) ∨ (0 < i ∧ c = 0) then (0, [], 3) else if c < 128 then (c.toNat, t, 0) else
      if (tk (i + 1) t).2.2 = 0 then ((c - 128).toNat + 128 * (tk (i + 1) t).1, (tk (i + 1) t).2.1, 0) else (0, [], (tk (i + 1) t).2.2)
def Bytes (b : List Int) : Prop := ∀ x ∈ b, 0 ≤ x ∧ x ≤ 255
theorem rd_at {b : List Int} {i : Nat} (h : i < b.length) : rd b (i : Int) = b[i] := by
  unfold rd
  simp [List.getD_eq_getElem?_getD, h]
theorem drop_at {b : List Int} {i : Nat} (h : i < b.length) : b.drop i = rd b (i : Int) :: b.drop (i + 1) := by
  rw [rd_at h]; exact List.drop_eq_getElem_cons h
theorem bytes_rd {b : List Int} (hb : Bytes b) {i : Nat} (h : i < b.length) : 0 ≤ rd b (i : Int) ∧ rd b (i : Int) ≤ 255 := by
  rw [rd_at h]; exact hb _ (List.getElem_mem h)
/-- The result of Take out of the value so far and what is still read. -/
def fin (v i : Nat) (r : Nat × List Int × Int) : Int × List Int × Int := if r.2.2 = 0 then (unzig (v + r.1 * 128 ^ i), r.2.1, 0) else (0, [], r.2.2)
theorem take_tk (lim : Nat) (hlim : lim = 140737488355328) (b : List Int) (hb : Bytes b) (hl : b.length < lim) : ∀ (d i : Nat), i + d = 9 → i ≤ b.length →
    ∀ k, delta_Take.l0 (k + 2 * d + 2) b ((valN (low b) i : Nat) : Int) b (b.length : Int) (i : Int) = some (fin (valN (low b) i) i (tk i (b.drop i))) := by
  have ends : ∀ i, i ≤ 9 → i < b.length → rd b (i : Int) < 128 → ∀ k, delta_Take.l0 (k + 2) b ((valN (low b) i : Nat) : Int) b (b.length : Int) (i : Int) = some (fin (valN (low b) i) i (tk i (b.drop i))) := by
    intro i hi hlt hc k
    have c1 : (i : Int) < (b.length : Int) := by omega
    have bi := bytes_rd hb hlt
    rw [drop_at hlt]
    by_cases bad : (i = 9 ∧ rd b (i : Int) > 1) ∨ (0 < i ∧ rd b (i : Int) = 0)
    · have hr : fin (valN (low b) i) i (tk i (rd b (i : Int) :: b.drop (i + 1))) = (0, [], 3) := by rw [tk, if_pos bad]; rfl
      rw [hr]
      have flag : ∀ x : Bool, x = true → delta_Take.j1 (k + 1) b ((valN (low b) i : Nat) : Int) (i : Int) (rd b (i : Int)) b (b.length : Int) (i : Int) x = some (0, [], 3) := by
        rintro x rfl
        rw [delta_Take.j1, if_pos rfl]
      rw [show k + 2 = (k + 1) + 1 from rfl, delta_Take.l0, if_pos c1, if_pos (Int.natCast_nonneg _), if_pos c1]
      by_cases c9 : (i : Int) = 9
      · rw [if_pos c9]
        by_cases c2 : rd b (i : Int) > 1
        · rw [if_pos c2]; exact flag _ rfl
        · rw [if_neg c2, if_pos (by omega)]
          exact flag _ (by rw [beq_iff_eq]; omega)
      · rw [if_neg c9, if_pos (by omega)]
        exact flag _ (by rw [beq_iff_eq]; omega)
    · have h9 : i = 9 → low b 9 ≤ 1 := by
        rintro rfl
        unfold low
        omega
      have fit := val_fits b i hi h9
      have ev : valN (low b) (i + 1) = valN (low b) i + (rd b (i : Int)).toNat * 128 ^ i := by
        rw [valN]
        congr 2
        unfold low
        omega
      have hr : fin (valN (low b) i) i (tk i (rd b (i : Int) :: b.drop (i + 1))) = (unzig (valN (low b) (i + 1)), b.drop (i + 1), 0) := by
        rw [tk, if_neg bad, if_pos hc, fin, if_pos rfl, ev]
      rw [hr]
      have w1 : wrap64 ((i : Int) + 1) = ((i + 1 : Nat) : Int) := by rw [wrap_id (by omega) (by omega)]; omega
      have w7 : (0 : Int) ≤ wrap64 (7 * (i : Int)) := by rw [wrap_id (by omega) (by omega)]; omega
      have flag : ∀ x : Bool, x = false → delta_Take.j1 (k + 1) b ((valN (low b) i : Nat) : Int) (i : Int) (rd b (i : Int)) b (b.length : Int) (i : Int) x = some (unzig (valN (low b) (i + 1)), b.drop (i + 1), 0) := by
        rintro x rfl
        rw [delta_Take.j1, if_neg (show ¬ (false = true) by decide), if_pos w7, if_pos hc, Option.bind_some, w1, if_pos (by omega), if_pos (by omega), Int.toNat_natCast, ← hlim, if_pos (by rw [List.length_drop]; simp; omega), take_step b i hi bi.1 bi.2 h9, take_num _ fit]
        rfl
      rw [show k + 2 = (k + 1) + 1 from rfl, delta_Take.l0, if_pos c1, if_pos (Int.natCast_nonneg _), if_pos c1]
      by_cases c9 : (i : Int) = 9
      · rw [if_pos c9, if_neg (by omega), if_pos (by omega)]
        exact flag _ (by rw [beq_eq_false_iff_ne]; omega)
      · rw [if_neg c9]
        by_cases c0 : (i : Int) > 0
        · rw [if_pos c0]
          exact flag _ (by rw [beq_eq_false_iff_ne]; omega)
        · rw [if_neg c0]
          exact flag _ rfl
  have none' : ∀ i, i = b.length → ∀ k, delta_Take.l0 (k + 2) b ((valN (low b) i : Nat) : Int) b (b.length : Int) (i : Int) = some (fin (valN (low b) i) i (tk i (b.drop i))) := by
    rintro i rfl k
    rw [List.drop_length, tk, fin, if_neg (by decide), show k + 2 = (k + 1) + 1 from rfl, delta_Take.l0, if_neg (by omega)]
  intro d
  induction d with
  | zero =>
    intro i hi hle k
    by_cases c : i < b.length
    · by_cases c8 : rd b (i : Int) < 128
      · exact ends i (by omega) c c8 k
      · have c1 : (i : Int) < (b.length : Int) := by omega
        rw [drop_at c, tk, if_pos (Or.inl ⟨by omega, by omega⟩), show k + 2 * 0 + 2 = (k + 1) + 1 from rfl, delta_Take.l0, if_pos c1, if_pos (Int.natCast_nonneg _), if_pos c1, if_pos (by omega), if_pos (by omega), delta_Take.j1, if_pos rfl]
        rfl
    · exact none' i (by omega) k
  | succ d ih =>
    intro i hi hle k
    by_cases c : i < b.length
    · by_cases c8 : rd b (i : Int) < 128
      · exact ends i (by omega) c c8 _
      · have c1 : (i : Int) < (b.length : Int) := by omega
        have bi := bytes_rd hb c
        have h1 := ih (i + 1) (by omega) (by omega) k
        have w1 : wrap64 ((i : Int) + 1) = ((i + 1 : Nat) : Int) := by rw [wrap_id (by omega) (by omega)]; omega
        have w7 : (0 : Int) ≤ wrap64 (7 * (i : Int)) := by rw [wrap_id (by omega) (by omega)]; omega
        have hr : fin (valN (low b) (i + 1)) (i + 1) (tk (i + 1) (b.drop (i + 1))) = fin (valN (low b) i) i (tk i (b.drop i)) := by
          rw [drop_at c, tk, if_neg (by omega), if_neg c8]
          obtain ⟨⟨V, rest, e⟩, hV⟩ : ∃ r, r = tk (i + 1) (b.drop (i + 1)) := ⟨_, rfl⟩
          rw [← hV]
          by_cases ce : e = 0
          · subst ce
            rw [if_pos rfl, fin, if_pos rfl, fin, if_pos rfl]
            have ev : valN (low b) (i + 1) + V * 128 ^ (i + 1) = valN (low b) i + ((rd b (i : Int) - 128).toNat + 128 * V) * 128 ^ i := by
              rw [valN, show low b i = (rd b (i : Int) - 128).toNat by unfold low; omega, Nat.pow_succ, Nat.add_mul, Nat.add_assoc, Nat.mul_comm (128 ^ i) 128, ← Nat.mul_assoc, Nat.mul_comm V 128]
            show (unzig (valN (low b) (i + 1) + V * 128 ^ (i + 1)), rest, (0 : Int)) = (unzig (valN (low b) i + ((rd b (i : Int) - 128).toNat + 128 * V) * 128 ^ i), rest, 0)
            rw [ev]
          · rw [if_neg ce, fin, if_neg ce, fin, if_neg ce]
        rw [← hr]
        have flag : ∀ x : Bool, x = false → delta_Take.j1 (k + 2 * d + 3) b ((valN (low b) i : Nat) : Int) (i : Int) (rd b (i : Int)) b (b.length : Int) (i : Int) x = some (fin (valN (low b) (i + 1)) (i + 1) (tk (i + 1) (b.drop (i + 1)))) := by
          rintro x rfl
          rw [show k + 2 * d + 3 = (k + 2 * d + 2) + 1 from rfl, delta_Take.j1, if_neg (show ¬ (false = true) by decide), if_pos w7, if_neg c8, w1, take_step b i (by omega) bi.1 bi.2 (by omega)]
          exact h1
        rw [show k + 2 * (d + 1) + 2 = (k + 2 * d + 3) + 1 from by omega, delta_Take.l0, if_pos c1, if_pos (Int.natCast_nonneg _), if_pos c1, if_neg (by omega)]
        by_cases c0 : (i : Int) > 0
        · rw [if_pos c0]
          exact flag _ (by rw [beq_eq_false_iff_ne]; omega)
        · rw [if_neg c0]
          exact flag _ rfl
    · exact none' i (by omega) _
/-- What Take comes to. -/
def rt (b : List Int) : Int × List Int × Int := if (tk 0 b).2.2 = 0 then (unzig (tk 0 b).1, (tk 0 b).2.1, 0) else (0, [], (tk 0 b).2.2)
theorem take_rt (lim : Nat) (hlim : lim = 140737488355328) (b : List Int) (hb : Bytes b) (hl : b.length < lim) (k : Nat) (hk : 40 ≤ k) : delta_Take.f k b = some (rt b) := by
  obtain ⟨m, rfl⟩ : ∃ m, k = m + 2 * 9 + 2 := ⟨k - 20, by omega⟩
  have h := take_tk lim hlim b hb hl 9 0 rfl (Nat.zero_le _) m
  unfold delta_Take.f
  refine h.trans ?_
  rw [List.drop_zero, fin, rt]
  simp [valN]
/-! ### written and read -/
def B (i : Nat) : Nat := 2 ^ (64 - 7 * i)
theorem B_succ {i : Nat} (h : i ≤ 8) : B i = 128 * B (i + 1) := by
  unfold B
  rw [show 64 - 7 * i = 7 + (64 - 7 * (i + 1)) by omega, Nat.pow_add]
theorem B_nine : B 9 = 2 := by decide
theorem B_big {i : Nat} (h : i ≤ 8) : 256 ≤ B i := by
  unfold B
  exact Nat.le_trans (show 256 ≤ 2 ^ 8 by decide) (Nat.pow_le_pow_right (by decide) (by omega))
def dg (u : Nat) : List Int := if u > 127 then ((u % 128 + 128 : Nat) : Int) :: dg (u / 128) else [(u : Int)]
decreasing_by omega
theorem dg_lo {u : Nat} (h : u ≤ 127) : dg u = [(u : Int)] := by rw [dg, if_neg (by omega)]
theorem dg_hi {u : Nat} (h : 127 < u) : dg u = ((u % 128 + 128 : Nat) : Int) :: dg (u / 128) := by rw [dg, if_pos h]
/-- What is read is what would be written. -/
theorem tk_inv : ∀ (b : List Int) (i V : Nat) (rest : List Int), Bytes b → i ≤ 9 → tk i b = (V, rest, 0) → b = dg V ++ rest ∧ V < B i ∧ (0 < i → 0 < V) := by
  intro b
  induction b with
  | nil => intro i V rest _ _ h; rw [tk] at h; cases h
  | cons c t ih =>
    intro i V rest hb hi h
    have hc := hb c List.mem_cons_self
    rw [tk] at h
    by_cases bad : (i = 9 ∧ c > 1) ∨ (0 < i ∧ c = 0)
    · rw [if_pos bad] at h; cases h
    · rw [if_neg bad] at h
      by_cases c8 : c < 128
      · rw [if_pos c8] at h
        simp only [Prod.mk.injEq] at h
        obtain ⟨rfl, rfl, _⟩ := h
        refine ⟨?_, ?_, ?_⟩
        · rw [dg_lo (by omega), List.singleton_append]
          congr 1
          omega
        · by_cases i9 : i = 9
          · subst i9; rw [B_nine]; omega
          · have := B_big (i := i) (by omega); omega
        · intro h0; omega
      · rw [if_neg c8] at h
        have i8 : i ≤ 8 := by omega
        by_cases e : (tk (i + 1) t).2.2 = 0
        · rw [if_pos e] at h
          simp only [Prod.mk.injEq] at h
          obtain ⟨h1, h2, _⟩ := h
          obtain ⟨q1, q2, q3⟩ := ih (i + 1) (tk (i + 1) t).1 (tk (i + 1) t).2.1 (fun x hx => hb x (List.mem_cons_of_mem _ hx)) (by omega) (by rw [← e])
          rw [h2] at q1
          have q3 := q3 (by omega)
          have hB := B_succ i8
          obtain ⟨V1, hV1⟩ : ∃ V1, V1 = (tk (i + 1) t).1 := ⟨_, rfl⟩
          rw [← hV1] at h1 q1 q2 q3
          refine ⟨?_, by omega, by omega⟩
          rw [dg_hi (by omega), show V / 128 = V1 by omega, List.cons_append, ← q1]
          congr 1
          omega
        · rw [if_neg e] at h
          simp only [Prod.mk.injEq] at h
          exact absurd h.2.2 e
theorem zig_unzig (V : Nat) (h : V < 18446744073709551616) : (zig (unzig V)).toNat = V ∧ -9223372036854775808 ≤ unzig V ∧ unzig V ≤ 9223372036854775807 := by
  unfold unzig zig
  by_cases c : V % 2 = 1
  · rw [if_pos c, if_pos (by omega)]; omega
  · rw [if_neg c, if_neg (by omega)]; omega
def In (n : Int) : Prop := -9223372036854775808 ≤ n ∧ n ≤ 9223372036854775807
/-- A number's bytes. -/
def enc (n : Int) : List Int := dg (zig n).toNat
theorem B_zero : B 0 = 18446744073709551616 := by decide
theorem tk_enc {b rest : List Int} {V : Nat} (hb : Bytes b) (h : tk 0 b = (V, rest, 0)) : b = enc (unzig V) ++ rest ∧ In (unzig V) := by
  obtain ⟨h1, h2, _⟩ := tk_inv b 0 V rest hb (by omega) h
  rw [B_zero] at h2
  have := zig_unzig V h2
  exact ⟨by rw [enc, this.1]; exact h1, this.2⟩
/-! ### the reader's num -/
def st : Nat → List Int → Nat
  | _, [] => 0
  | i, c :: t => if i < 9 ∧ c > 127 then st (i + 1) t + 1 else 0
theorem stop_st (b : List Int) : ∀ f j, f + j = 10 → j ≤ b.length → stop b f j = j + st j (b.drop j) := by
  intro f
  induction f with
  | zero =>
    intro j h hj
    have : st j (b.drop j) = 0 := by
      cases b.drop j with
      | nil => rfl
      | cons c t => rw [st, if_neg (by omega)]
    rw [this]; rfl
  | succ f ih =>
    intro j h hj
    rw [stop]
    by_cases c : j < b.length
    · rw [drop_at c, st]
      by_cases c2 : j < 9 ∧ rd b (j : Int) > 127
      · rw [if_pos (by omega), if_pos c2, ih (j + 1) (by omega) (by omega)]; omega
      · rw [if_neg (by omega), if_neg c2]; rfl
    · rw [if_neg (by omega), List.drop_eq_nil_of_le (by omega)]; rfl
theorem tk_pre : ∀ (b : List Int) (i : Nat), i ≤ 9 → tk i (b.take (st i b + 1)) = ((tk i b).1, [], (tk i b).2.2) ∧ ((tk i b).2.2 = 0 → b.drop (st i b + 1) = (tk i b).2.1 ∧ st i b + 1 ≤ b.length) := by
  intro b
  induction b with
  | nil => intro i _; exact ⟨rfl, fun h => by simp [tk] at h⟩
  | cons c t ih =>
    intro i hi
    rw [List.take_succ_cons, tk, tk, st]
    by_cases bad : (i = 9 ∧ c > 1) ∨ (0 < i ∧ c = 0)
    · rw [if_pos bad, if_pos bad]
      exact ⟨rfl, fun h => absurd h (by decide)⟩
    · rw [if_neg bad, if_neg bad]
      by_cases c8 : c < 128
      · rw [if_pos c8, if_pos c8, if_neg (by omega)]
        exact ⟨rfl, fun _ => ⟨rfl, by simp⟩⟩
      · obtain ⟨r1, r2⟩ := ih (i + 1) (by omega)
        have hst : (if i < 9 ∧ c > 127 then st (i + 1) t + 1 else 0) = st (i + 1) t + 1 := if_pos (by omega)
        rw [hst, if_neg c8, if_neg c8, r1]
        by_cases e : (tk (i + 1) t).2.2 = 0
        · rw [if_pos e, if_pos e]
          exact ⟨rfl, fun _ => ⟨(r2 e).1, by have := (r2 e).2; rw [List.length_cons]; omega⟩⟩
        · rw [if_neg e, if_neg e]
          exact ⟨rfl, fun h => absurd h e⟩
theorem take_min (b : List Int) (a : Nat) : b.take (min a b.length) = b.take a := by
  by_cases h : a ≤ b.length
  · rw [Nat.min_eq_left h]
  · rw [Nat.min_eq_right (by omega), List.take_length, List.take_of_length_le (by omega)]
/-- What num comes to at a reader without a fault. -/
def rn (b : List Int) : Int × List Int × Int := if (tk 0 b).2.2 = 0 then (unzig (tk 0 b).1, (tk 0 b).2.1, 0) else (0, b, (tk 0 b).2.2)
theorem num_rn (lim : Nat) (hlim : lim = 140737488355328) (b : List Int) (hb : Bytes b) (hl : b.length < lim) (k : Nat) (hk : 40 ≤ k) : delta_num.f k b 0 = some (rn b) := by
  have hs : stop b 10 0 = st 0 b := by rw [stop_st b 10 0 rfl (Nat.zero_le _), List.drop_zero, Nat.zero_add]
  obtain ⟨h1, h2⟩ := tk_pre b 0 (by omega)
  have ht := take_rt lim hlim (b.take (st 0 b + 1)) (fun x hx => hb x (List.mem_of_mem_take hx)) (Nat.lt_of_le_of_lt (List.length_take_le' _ _) hl) k hk
  rw [delta_num.f, if_pos rfl, take_min, hs, ht, Option.bind_some, rt, h1, rn]
  by_cases e : (tk 0 b).2.2 = 0
  · rw [if_pos e, if_pos e, if_pos rfl, if_pos (h2 e).2, (h2 e).1]
  · rw [if_neg e, if_neg e, if_neg e]
end Go.Proofs.Ytjgoehhhjffpmaa.U


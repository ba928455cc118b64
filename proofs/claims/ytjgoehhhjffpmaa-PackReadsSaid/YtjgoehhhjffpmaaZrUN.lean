/- Plain facts on reading a number: the two ways to read it answer the same. Conditions: stated at each. -/
import Derived.Test.YtjgoehhhjffpmaaZrUF
import Derived.Test.YtjgoehhhjffpmaaZrQf19
namespace Go.Proofs.Ytjgoehhhjffpmaa.U
open Go.RowKit Go.Proofs.Ytjgoehhhjffpmaa.Q Go.Proofs.YtjgoehhhjffpmaaW.PrintWords Go.Proofs.YtjgoehhhjffpmaaW.PrintLast Go.Proofs.YtjgoehhhjffpmaaW.PrintMore
set_option linter.unusedSimpArgs false
set_option linter.unusedVariables false


theorem number_down (b : List Int) (hb : ∀ j, j < b.length → 0 ≤ rd b (j : Int) ∧ rd b (j : Int) ≤ 255) (K : Nat) (hK : K < b.length) (hl : b.length < 9000000000000000000) (fit : valN (low b) (K + 1) < 18446744073709551616) : ∀ (r k d : Nat), d + r = K + 1 → r < k →
    terrref5_Number.l1 k b (K : Int) ((horn (low b) K d : Nat) : Int) ((K : Int) - (d : Int)) = some (unzig (valN (low b) (K + 1)), b.drop (K + 1), 0) := by
  intro r
  induction r with
  | zero =>
    intro k d hd hk
    obtain ⟨k, rfl⟩ : ∃ m, k = m + 1 := ⟨k - 1, by omega⟩
    obtain rfl : d = K + 1 := by omega
    have hv := horn_val (low b) K (K + 1) (Nat.le_refl _)
    rw [Nat.sub_self, Nat.pow_zero, Nat.mul_one, show valN (low b) 0 = 0 from rfl, Nat.zero_add] at hv
    rw [← hv]
    have w1 : wrap64 ((K : Int) + 1) = ((K + 1 : Nat) : Int) := by rw [wrap_id (by omega) (by omega)]; omega
    have e0 : Int.tmod ((valN (low b) (K + 1) : Nat) : Int) 2 = ((valN (low b) (K + 1) % 2 : Nat) : Int) := by rw [Int.tmod_eq_emod_of_nonneg (by omega)]; omega
    have e1 : IntKind.u64.wrap (Int.tdiv ((valN (low b) (K + 1) : Nat) : Int) 2) = ((valN (low b) (K + 1) / 2 : Nat) : Int) := by rw [Int.tdiv_eq_ediv_of_nonneg (by omega), uwrap_id (by omega) (by omega)]; omega
    rw [terrref5_Number.l1, if_neg (by omega), e0, w1, e1, Int.toNat_natCast]
    generalize valN (low b) (K + 1) = V at *
    unfold unzig
    by_cases c : V % 2 = 1
    · rw [if_pos (by omega), if_pos (by omega), if_pos (by omega), if_pos c, wrap_id (x := ((V / 2 : Nat) : Int)) (by omega) (by omega), wrap_id (x := -((V / 2 : Nat) : Int)) (by omega) (by omega), wrap_id (by omega) (by omega)]
      rfl
    · rw [if_neg (by omega), if_pos (by omega), if_pos (by omega), if_neg c, wrap_id (x := ((V / 2 : Nat) : Int)) (by omega) (by omega)]
      rfl
  | succ r ih =>
    intro k d hd hk
    obtain ⟨k, rfl⟩ : ∃ m, k = m + 1 := ⟨k - 1, by omega⟩
    have hle := horn_le (low b) K (d + 1) (by omega)
    have hj : K - d < b.length := by omega
    have bj := hb (K - d) hj
    have ej : (K : Int) - (d : Int) = ((K - d : Nat) : Int) := by omega
    have hlow : ((low b (K - d) : Nat) : Int) = rd b ((K - d : Nat) : Int) % 128 := by unfold low; omega
    have l1 := low_lt b (K - d)
    have hn : horn (low b) K (d + 1) = horn (low b) K d * 128 + low b (K - d) := rfl
    have e1 : IntKind.u64.wrap ((IntKind.u64.wrap (((horn (low b) K d : Nat) : Int) * 128)) + (IntKind.u64.wrap (Int.tmod (rd b ((K - d : Nat) : Int)) 128))) = ((horn (low b) K (d + 1) : Nat) : Int) := by
      rw [Int.tmod_eq_emod_of_nonneg bj.1, ← hlow, uwrap_id (x := ((low b (K - d) : Nat) : Int)) (by omega) (by omega), uwrap_id (x := ((horn (low b) K d : Nat) : Int) * 128) (by omega) (by omega), uwrap_id (by omega) (by omega)]
      omega
    have e2 : wrap64 (((K - d : Nat) : Int) - 1) = (K : Int) - ((d + 1 : Nat) : Int) := by rw [wrap_id (by omega) (by omega)]; omega
    rw [ej, terrref5_Number.l1, if_pos (by omega), if_pos (by omega), if_pos (by omega), e1, e2]
    exact ih k (d + 1) (by omega) (by omega)
/-- The end of a number: its last byte is below 128. -/
theorem read_end (lim : Nat) (hlim : lim = 140737488355328) (b : List Int) (hb : ∀ j, j < b.length → 0 ≤ rd b (j : Int) ∧ rd b (j : Int) ≤ 255) (hl : b.length < lim) (i : Nat) (hi : i ≤ 9) (hlt : i < b.length) (hc : rd b (i : Int) < 128) :
    ∃ (n : Int) (rest : List Int) (e : Int), (∀ k, delta_Take.l0 (k + 2) b ((valN (low b) i : Nat) : Int) b (b.length : Int) (i : Int) = some (n, rest, e)) ∧ (∀ k, terrref5_Number.l0 (k + 20) b (i : Int) = some (n, rest, e)) ∧ ((e = 0 ∧ rest.length ≤ b.length) ∨ (n = 0 ∧ rest = [] ∧ e ≠ 0)) := by
  have bi := hb i hlt
  have c1 : (i : Int) < (b.length : Int) := by omega
  have hd : decide (rd b (i : Int) ≥ 128) = false := decide_eq_false (by omega)
  by_cases bad : (0 < i ∧ rd b (i : Int) = 0) ∨ (i = 9 ∧ rd b (i : Int) > 1)
  · refine ⟨0, [], 3, fun k => ?_, fun k => ?_, .inr ⟨rfl, rfl, by decide⟩⟩
    · have flag : ∀ x : Bool, x = true → delta_Take.j1 (k + 1) b ((valN (low b) i : Nat) : Int) (i : Int) (rd b (i : Int)) b (b.length : Int) (i : Int) x = some (0, [], 3) := by
        rintro x rfl
        rw [delta_Take.j1, if_pos rfl]
      rw [show k + 2 = (k + 1) + 1 from rfl, delta_Take.l0, if_pos c1, if_pos (Int.natCast_nonneg _), if_pos c1]
      by_cases c9 : (i : Int) = 9
      · rw [if_pos c9]
        by_cases c2 : rd b (i : Int) > 1
        · rw [if_pos c2]; exact flag _ rfl
        · rw [if_neg c2, if_pos (by omega)]
          exact flag _ (by rw [beq_iff_eq]; omega)
      · rw [if_neg c9, if_pos (by omega)]
        exact flag _ (by rw [beq_iff_eq]; omega)
    · have flag : ∀ x : Bool, x = true → terrref5_Number.j2 (k + 18) b (i : Int) x = some (0, [], 3) := by
        rintro x rfl
        rw [show k + 18 = (k + 17) + 1 from rfl, terrref5_Number.j2, if_pos rfl]
      rw [show k + 20 = (k + 19) + 1 from rfl, terrref5_Number.l0, if_pos c1, if_pos (Int.natCast_nonneg _), hd, show k + 19 = (k + 18) + 1 from rfl, terrref5_Number.j1, if_neg (show ¬ (false = true) by decide), if_neg (by omega)]
      by_cases c0 : (i : Int) > 0
      · rw [if_pos c0, if_pos (Int.natCast_nonneg _), if_pos c1]
        by_cases cz : rd b (i : Int) = 0
        · rw [if_pos cz]; exact flag _ rfl
        · rw [if_neg cz, if_pos (by omega)]
          exact flag _ (decide_eq_true (by omega))
      · rw [if_neg c0, if_pos (by omega)]
        omega
  · have h9 : i = 9 → low b 9 ≤ 1 := by
      rintro rfl
      unfold low
      omega
    have fit := val_fits b i hi h9
    refine ⟨unzig (valN (low b) (i + 1)), b.drop (i + 1), 0, fun k => ?_, fun k => ?_, .inl ⟨rfl, by rw [List.length_drop]; omega⟩⟩
    · have w1 : wrap64 ((i : Int) + 1) = ((i + 1 : Nat) : Int) := by rw [wrap_id (by omega) (by omega)]; omega
      have w7 : (0 : Int) ≤ wrap64 (7 * (i : Int)) := by rw [wrap_id (by omega) (by omega)]; omega
      have flag : ∀ x : Bool, x = false → delta_Take.j1 (k + 1) b ((valN (low b) i : Nat) : Int) (i : Int) (rd b (i : Int)) b (b.length : Int) (i : Int) x = some (unzig (valN (low b) (i + 1)), b.drop (i + 1), 0) := by
        rintro x rfl
        rw [delta_Take.j1, if_neg (show ¬ (false = true) by decide), if_pos w7, if_pos hc, Option.bind_some, w1, if_pos (by omega), if_pos (by omega), Int.toNat_natCast, ← hlim, if_pos (by rw [List.length_drop]; simp; omega), take_step b i hi bi.1 bi.2 h9, take_num _ fit]
        rfl
      rw [show k + 2 = (k + 1) + 1 from rfl, delta_Take.l0, if_pos c1, if_pos (Int.natCast_nonneg _), if_pos c1]
      by_cases c9 : (i : Int) = 9
      · rw [if_pos c9, if_neg (by omega), if_pos (by omega)]
        exact flag _ (by rw [beq_eq_false_iff_ne]; omega)
      · rw [if_neg c9]
        by_cases c0 : (i : Int) > 0
        · rw [if_pos c0]
          exact flag _ (by rw [beq_eq_false_iff_ne]; omega)
        · rw [if_neg c0]
          exact flag _ rfl
    · have down := number_down b hb i hlt (by omega) fit (i + 1) (k + 17) 0 (by omega) (by omega)
      have z : ((horn (low b) i 0 : Nat) : Int) = 0 := rfl
      rw [z, show (i : Int) - ((0 : Nat) : Int) = (i : Int) by omega] at down
      have flag : ∀ x : Bool, x = false → terrref5_Number.j2 (k + 18) b (i : Int) x = some (unzig (valN (low b) (i + 1)), b.drop (i + 1), 0) := by
        rintro x rfl
        rw [show k + 18 = (k + 17) + 1 from rfl, terrref5_Number.j2, if_neg (show ¬ (false = true) by decide)]
        exact down
      rw [show k + 20 = (k + 19) + 1 from rfl, terrref5_Number.l0, if_pos c1, if_pos (Int.natCast_nonneg _), hd, show k + 19 = (k + 18) + 1 from rfl, terrref5_Number.j1, if_neg (show ¬ (false = true) by decide), if_neg (by omega)]
      by_cases c0 : (i : Int) > 0
      · rw [if_pos c0, if_pos (Int.natCast_nonneg _), if_pos c1, if_neg (by omega)]
        by_cases c9 : (i : Int) = 9
        · rw [if_pos c9]
          exact flag _ (decide_eq_false (by omega))
        · rw [if_neg c9]
          exact flag _ rfl
      · rw [if_neg c0, if_neg (by omega)]
        exact flag _ rfl
theorem read_loop (lim : Nat) (hlim : lim = 140737488355328) (b : List Int) (hb : ∀ j, j < b.length → 0 ≤ rd b (j : Int) ∧ rd b (j : Int) ≤ 255) (hl : b.length < lim) : ∀ (d i : Nat), i + d = 9 → i ≤ b.length →
    ∃ (n : Int) (rest : List Int) (e : Int), (∀ k, delta_Take.l0 (k + 2 * d + 2) b ((valN (low b) i : Nat) : Int) b (b.length : Int) (i : Int) = some (n, rest, e)) ∧ (∀ k, terrref5_Number.l0 (k + 2 * d + 20) b (i : Int) = some (n, rest, e)) ∧ ((e = 0 ∧ rest.length ≤ b.length) ∨ (n = 0 ∧ rest = [] ∧ e ≠ 0)) := by
  intro d
  induction d with
  | zero =>
    intro i hi hle
    by_cases c : i < b.length
    · by_cases c8 : rd b (i : Int) < 128
      · obtain ⟨n, rest, e, h1, h2, h3⟩ := read_end lim hlim b hb hl i (by omega) c c8
        exact ⟨n, rest, e, fun k => h1 _, fun k => h2 _, h3⟩
      · have c1 : (i : Int) < (b.length : Int) := by omega
        refine ⟨0, [], 3, fun k => ?_, fun k => ?_, .inr ⟨rfl, rfl, by decide⟩⟩
        · rw [show k + 2 * 0 + 2 = (k + 1) + 1 from rfl, delta_Take.l0, if_pos c1, if_pos (Int.natCast_nonneg _), if_pos c1, if_pos (by omega), if_pos (by omega), delta_Take.j1, if_pos rfl]
        · rw [show k + 2 * 0 + 20 = (k + 19) + 1 from rfl, terrref5_Number.l0, if_pos c1, if_pos (Int.natCast_nonneg _), decide_eq_true (by omega), show k + 19 = (k + 18) + 1 from rfl, terrref5_Number.j1, if_pos rfl, if_pos (by omega)]
    · refine ⟨0, [], 14, fun k => ?_, fun k => ?_, .inr ⟨rfl, rfl, by decide⟩⟩
      · rw [show k + 2 * 0 + 2 = (k + 1) + 1 from rfl, delta_Take.l0, if_neg (by omega)]
      · rw [show k + 2 * 0 + 20 = (k + 19) + 1 from rfl, terrref5_Number.l0, if_neg (by omega), show k + 19 = (k + 18) + 1 from rfl, terrref5_Number.j1, if_neg (show ¬ (false = true) by decide), if_pos (by omega)]
  | succ d ih =>
    intro i hi hle
    by_cases c : i < b.length
    · by_cases c8 : rd b (i : Int) < 128
      · obtain ⟨n, rest, e, h1, h2, h3⟩ := read_end lim hlim b hb hl i (by omega) c c8
        exact ⟨n, rest, e, fun k => h1 _, fun k => h2 _, h3⟩
      · have c1 : (i : Int) < (b.length : Int) := by omega
        have bi := hb i c
        obtain ⟨n, rest, e, h1, h2, h3⟩ := ih (i + 1) (by omega) (by omega)
        have w1 : wrap64 ((i : Int) + 1) = ((i + 1 : Nat) : Int) := by rw [wrap_id (by omega) (by omega)]; omega
        have w7 : (0 : Int) ≤ wrap64 (7 * (i : Int)) := by rw [wrap_id (by omega) (by omega)]; omega
        refine ⟨n, rest, e, fun k => ?_, fun k => ?_, h3⟩
        · have flag : ∀ x : Bool, x = false → delta_Take.j1 (k + 2 * d + 3) b ((valN (low b) i : Nat) : Int) (i : Int) (rd b (i : Int)) b (b.length : Int) (i : Int) x = some (n, rest, e) := by
            rintro x rfl
            rw [show k + 2 * d + 3 = (k + 2 * d + 2) + 1 from rfl, delta_Take.j1, if_neg (show ¬ (false = true) by decide), if_pos w7, if_neg c8, w1, take_step b i (by omega) bi.1 bi.2 (by omega)]
            exact h1 k
          rw [show k + 2 * (d + 1) + 2 = (k + 2 * d + 3) + 1 from by omega, delta_Take.l0, if_pos c1, if_pos (Int.natCast_nonneg _), if_pos c1, if_neg (by omega)]
          by_cases c0 : (i : Int) > 0
          · rw [if_pos c0]
            exact flag _ (by rw [beq_eq_false_iff_ne]; omega)
          · rw [if_neg c0]
            exact flag _ rfl
        · rw [show k + 2 * (d + 1) + 20 = (k + 2 * d + 21) + 1 from by omega, terrref5_Number.l0, if_pos c1, if_pos (Int.natCast_nonneg _), decide_eq_true (by omega), show k + 2 * d + 21 = (k + 2 * d + 20) + 1 from rfl, terrref5_Number.j1, if_pos rfl, if_neg (by omega), w1]
          exact h2 k
    · refine ⟨0, [], 14, fun k => ?_, fun k => ?_, .inr ⟨rfl, rfl, by decide⟩⟩
      · rw [show k + 2 * (d + 1) + 2 = (k + 2 * d + 3) + 1 from by omega, delta_Take.l0, if_neg (by omega)]
      · rw [show k + 2 * (d + 1) + 20 = (k + 2 * d + 21) + 1 from by omega, terrref5_Number.l0, if_neg (by omega), show k + 2 * d + 21 = (k + 2 * d + 20) + 1 from rfl, terrref5_Number.j1, if_neg (show ¬ (false = true) by decide), if_pos (by omega)]
/-- Take and Number answer the same. -/
theorem read_same (lim : Nat) (hlim : lim = 140737488355328) (b : List Int) (hb : ∀ j, j < b.length → 0 ≤ rd b (j : Int) ∧ rd b (j : Int) ≤ 255) (hl : b.length < lim) :
    ∃ (n : Int) (rest : List Int) (e : Int), (∀ k, 40 ≤ k → delta_Take.f k b = some (n, rest, e)) ∧ (∀ k, 40 ≤ k → terrref5_Number.f k b = some (n, rest, e)) ∧ ((e = 0 ∧ rest.length ≤ b.length) ∨ (n = 0 ∧ rest = [] ∧ e ≠ 0)) := by
  obtain ⟨n, rest, e, h1, h2, h3⟩ := read_loop lim hlim b hb hl 9 0 rfl (Nat.zero_le _)
  refine ⟨n, rest, e, fun k hk => ?_, fun k hk => ?_, h3⟩
  · obtain ⟨m, rfl⟩ : ∃ m, k = m + 2 * 9 + 2 := ⟨k - 20, by omega⟩
    exact h1 m
  · obtain ⟨m, rfl⟩ : ∃ m, k = m + 2 * 9 + 20 := ⟨k - 38, by omega⟩
    exact h2 m
theorem number_rt (lim : Nat) (hlim : lim = 140737488355328) (b : List Int) (hb : Bytes b) (hl : b.length < lim) (k : Nat) (hk : 40 ≤ k) : terrref5_Number.f k b = some (rt b) := by
  obtain ⟨n, rest, e, h1, h2, _⟩ := read_same lim hlim b (fun j hj => bytes_rd hb hj) hl
  rw [h2 k hk, ← h1 k hk]
  exact take_rt lim hlim b hb hl k hk
end Go.Proofs.Ytjgoehhhjffpmaa.U


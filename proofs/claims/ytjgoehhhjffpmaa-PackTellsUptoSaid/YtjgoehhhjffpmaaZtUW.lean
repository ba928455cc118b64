/- Plain facts on writing lists of points, on equal rows and on rows put together. Conditions: stated at each. -/
import Derived.Test.YtjgoehhhjffpmaaZtUG
import Derived.Test.YtjgoehhhjffpmaaZtQf14
import Derived.Test.YtjgoehhhjffpmaaZtQf16
namespace Go.Proofs.Ytjgoehhhjffpmaa.U
open Go.RowKit Go.Proofs.Ytjgoehhhjffpmaa.Q Go.Proofs.YtjgoehhhjffpmaaW.PrintWords Go.Proofs.YtjgoehhhjffpmaaW.PrintLast Go.Proofs.YtjgoehhhjffpmaaW.PrintMore
set_option linter.unusedSimpArgs false
set_option linter.unusedVariables false

theorem rdT_at {l : List S44} {j : Nat} (h : j < l.length) : rd_T44 l (j : Int) = l[j] := by
  unfold rd_T44
  simp [List.getD_eq_getElem?_getD, h]
theorem rdL_at {l : List (List S44)} {j : Nat} (h : j < l.length) : rd_L4 l (j : Int) = l[j] := by
  unfold rd_L4
  simp [List.getD_eq_getElem?_getD, h]
theorem encP_len (r : List S44) : ∀ x y, (encP x y r).length ≤ 20 * r.length := by
  induction r with
  | nil => intro x y; simp [encP]
  | cons q r ih =>
    intro x y
    have h1 := enc_len (in_wrap (q.f0 - x))
    have h2 := enc_len (in_wrap (q.f1 - y))
    have h3 := ih q.f0 q.f1
    rw [encP, List.length_append, List.length_append, List.length_cons]
    omega
theorem encL_len (r : List (List S44)) : ∀ x y, tot r ≤ 20000 → (encL x y r).length ≤ 10 * r.length + 20 * tot r := by
  induction r with
  | nil => intro x y _; simp [encL]
  | cons l r ih =>
    intro x y h
    rw [tot] at h
    have h1 := enc_len (n := (l.length : Int)) (by unfold In; omega)
    have h2 := encP_len l x y
    have h3 := ih (after x y l).1 (after x y l).2 (by omega)
    rw [encL, List.length_append, List.length_append, List.length_cons, tot]
    omega
theorem w_ring (lim : Nat) (hlim : lim = 140737488355328) (parts : List (List S44)) (n2 i2 : Int) (r : List S44) (hr : r.length ≤ 100000) : ∀ (d j : Nat) (acc : List Int) (px py : Int), j + d = r.length → acc.length + 20 * d ≤ 9000000 → ∀ k, 12 ≤ k →
    delta_Write.l1 (k + d + 1) parts n2 i2 r (r.length : Int) (j : Int) acc px py = delta_Write.l0 k parts n2 (wrap64 (i2 + 1)) (acc ++ encP px py (r.drop j)) (after px py (r.drop j)).1 (after px py (r.drop j)).2 := by
  intro d
  induction d with
  | zero =>
    intro j acc px py hj ha k hk
    rw [List.drop_eq_nil_of_le (by omega), encP, after, List.append_nil, delta_Write.l1, if_neg (by omega)]
  | succ d ih =>
    intro j acc px py hj ha k hk
    have hlt : j < r.length := by omega
    have w1 : wrap64 ((j : Int) + 1) = ((j + 1 : Nat) : Int) := by rw [wrap_id (by omega) (by omega)]; omega
    have e1 := enc_len (in_wrap (r[j].f0 - px))
    have e2 := enc_len (in_wrap (r[j].f1 - py))
    rw [List.drop_eq_getElem_cons hlt, encP, after, show k + (d + 1) + 1 = (k + d + 1) + 1 by omega, delta_Write.l1, if_pos (by omega), if_pos (Int.natCast_nonneg _), if_pos (by omega), rdT_at hlt,
      num_enc lim hlim (in_wrap _) _ _ (by omega) (by omega), Option.bind_some, num_enc lim hlim (in_wrap _) _ _ (by omega) (by rw [List.length_append]; omega), Option.bind_some, w1, ih (j + 1) _ _ _ (by omega) (by rw [List.length_append, List.length_append]; omega) k hk, List.append_assoc, List.append_assoc]
theorem w_parts (lim : Nat) (hlim : lim = 140737488355328) (parts : List (List S44)) (hp : parts.length ≤ 1000) : ∀ (d i : Nat) (acc : List Int) (px py : Int), i + d = parts.length → tot (parts.drop i) ≤ 20000 → acc.length + 10 * d + 20 * tot (parts.drop i) ≤ 8000000 →
    ∃ K, ∀ k, K ≤ k → delta_Write.l0 k parts (parts.length : Int) (i : Int) acc px py = some (acc ++ encL px py (parts.drop i), 0) := by
  intro d
  induction d with
  | zero =>
    intro i acc px py hi ht ha
    refine ⟨1, fun k hk => ?_⟩
    obtain ⟨k, rfl⟩ : ∃ j, k = j + 1 := ⟨k - 1, by omega⟩
    rw [List.drop_eq_nil_of_le (by omega), encL, List.append_nil, delta_Write.l0, if_neg (by omega)]
  | succ d ih =>
    intro i acc px py hi ht ha
    have hlt : i < parts.length := by omega
    rw [List.drop_eq_getElem_cons hlt] at ht ha ⊢
    rw [tot] at ht ha
    have w1 : wrap64 ((i : Int) + 1) = ((i + 1 : Nat) : Int) := by rw [wrap_id (by omega) (by omega)]; omega
    have hin : In ((parts[i].length : Nat) : Int) := by unfold In; omega
    have e1 := enc_len hin
    have e2 := encP_len parts[i] px py
    obtain ⟨K, hK⟩ := ih (i + 1) ((acc ++ enc ((parts[i].length : Nat) : Int)) ++ encP px py parts[i]) (after px py parts[i]).1 (after px py parts[i]).2 (by omega) (by omega) (by rw [List.length_append, List.length_append]; omega)
    refine ⟨K + 40 + parts[i].length, fun k hk => ?_⟩
    obtain ⟨m, rfl⟩ : ∃ m, k = (m + parts[i].length + 1) + 1 := ⟨k - parts[i].length - 2, by omega⟩
    have hr := w_ring lim hlim parts (parts.length : Int) (i : Int) parts[i] (by omega) parts[i].length 0 (acc ++ enc ((parts[i].length : Nat) : Int)) px py (by omega) (by rw [List.length_append]; omega) m (by omega)
    rw [List.drop_zero] at hr
    rw [delta_Write.l0, if_pos (by omega), if_pos (Int.natCast_nonneg _), if_pos (by omega), rdL_at hlt, num_enc lim hlim hin _ _ (by omega) (by omega), Option.bind_some]
    refine hr.trans ?_
    rw [w1, hK m (by omega), encL, List.append_assoc, List.append_assoc]
theorem check_ok (parts : List (List S44)) (hp : parts.length ≤ 1000) : ∀ (d i : Nat) (s : Int), i + d = parts.length → 0 ≤ s → s + (tot (parts.drop i) : Int) ≤ 20000 → ∀ k, delta_Check.l0 (k + d + 1) parts s parts (parts.length : Int) (i : Int) = some 0 := by
  intro d
  induction d with
  | zero =>
    intro i s hi h0 ht k
    rw [delta_Check.l0, if_neg (by omega), if_neg (by omega), if_neg (by omega)]
  | succ d ih =>
    intro i s hi h0 ht k
    have hlt : i < parts.length := by omega
    rw [List.drop_eq_getElem_cons hlt, tot] at ht
    have w1 : wrap64 ((i : Int) + 1) = ((i + 1 : Nat) : Int) := by rw [wrap_id (by omega) (by omega)]; omega
    have w2 : wrap64 (s + ((parts[i].length : Nat) : Int)) = s + ((parts[i].length : Nat) : Int) := wrap_id (by omega) (by omega)
    rw [show k + (d + 1) + 1 = (k + d + 1) + 1 by omega, delta_Check.l0, if_pos (by omega), if_pos (Int.natCast_nonneg _), if_pos (by omega), rdL_at hlt, w1, w2]
    exact ih (i + 1) _ (by omega) (by omega) (by omega) k
/-- What Write comes to. -/
theorem write_enc (lim : Nat) (hlim : lim = 140737488355328) (parts : List (List S44)) (hp : parts.length ≤ 1000) (ht : tot parts ≤ 20000) : ∃ K, ∀ k, K ≤ k → delta_Write.f k parts = some (encAll parts, 0) := by
  have hin : In (parts.length : Int) := by unfold In; omega
  have e1 := enc_len hin
  obtain ⟨K, hK⟩ := w_parts lim hlim parts hp parts.length 0 (enc (parts.length : Int)) 0 0 (by omega) (by rw [List.drop_zero]; exact ht) (by rw [List.drop_zero]; omega)
  refine ⟨K + 40 + parts.length, fun k hk => ?_⟩
  have hc : delta_Check.f k parts = some 0 := by
    obtain ⟨m, rfl⟩ : ∃ m, k = m + parts.length + 1 := ⟨k - parts.length - 1, by omega⟩
    exact check_ok parts hp parts.length 0 0 (by omega) (by omega) (by rw [List.drop_zero]; omega) m
  rw [delta_Write.f, hc, Option.bind_some, if_pos rfl, num_enc lim hlim hin _ _ (by omega) (by simp; omega), Option.bind_some, List.nil_append]
  refine (hK k (by omega)).trans ?_
  rw [List.drop_zero]
  rfl
theorem eq_loop (l : List Int) (hl : l.length < 9000000000000000000) : ∀ (d k i : Nat), i + d = l.length → d < k → slices_Equal_byte_byte.l0 k l l (l.length : Int) (i : Int) = some true := by
  intro d
  induction d with
  | zero =>
    intro k i hi hk
    obtain ⟨k, rfl⟩ : ∃ m, k = m + 1 := ⟨k - 1, by omega⟩
    rw [slices_Equal_byte_byte.l0, if_neg (by omega)]
  | succ d ih =>
    intro k i hi hk
    obtain ⟨k, rfl⟩ : ∃ m, k = m + 1 := ⟨k - 1, by omega⟩
    have c1 : (i : Int) < (l.length : Int) := by omega
    have w1 : wrap64 ((i : Int) + 1) = ((i + 1 : Nat) : Int) := by rw [wrap_id (by omega) (by omega)]; omega
    rw [slices_Equal_byte_byte.l0, if_pos c1, if_pos (Int.natCast_nonneg _), if_pos c1, if_pos c1, if_pos rfl, w1]
    exact ih k (i + 1) (by omega) (by omega)
theorem eq_self (l : List Int) (hl : l.length < 9000000000000000000) (k : Nat) (hk : l.length < k) : slices_Equal_byte_byte.f k l l = some true := by
  unfold slices_Equal_byte_byte.f
  rw [if_pos rfl]
  exact eq_loop l hl l.length k 0 (by omega) hk
end Go.Proofs.Ytjgoehhhjffpmaa.U


/- The pure statement of DeltaBack: what is written is read, and what follows it is left. For lists of at most 10^9 in all. -/
import Derived.Test.YtjgoehhhjffpmaaUW
import Derived.Test.YtjgoehhhjffpmaaQDeltaBack
namespace Go.Proofs.Ytjgoehhhjffpmaa.U
open Go.RowKit Go.Proofs.Ytjgoehhhjffpmaa.Q Go.Proofs.YtjgoehhhjffpmaaW.PrintWords Go.Proofs.YtjgoehhhjffpmaaW.PrintLast Go.Proofs.YtjgoehhhjffpmaaW.PrintMore
set_option linter.unusedSimpArgs false
set_option linter.unusedVariables false

theorem pt_loop (l : List S44) (hl : l.length ≤ 1000000000) : ∀ (d i : Nat), i + d = l.length → ∀ k, d < k → api_Point_24.l0 k l l (l.length : Int) (i : Int) = some true := by
  intro d
  induction d with
  | zero =>
    intro i hi k hk
    obtain ⟨k, rfl⟩ : ∃ m, k = m + 1 := ⟨k - 1, by omega⟩
    rw [api_Point_24.l0, if_neg (by omega)]
  | succ d ih =>
    intro i hi k hk
    obtain ⟨k, rfl⟩ : ∃ m, k = m + 1 := ⟨k - 1, by omega⟩
    have c1 : (i : Int) < (l.length : Int) := by omega
    have w1 : wrap64 ((i : Int) + 1) = ((i + 1 : Nat) : Int) := by rw [wrap_id (by omega) (by omega)]; omega
    rw [api_Point_24.l0, if_pos c1, if_pos (Int.natCast_nonneg _), if_pos c1, if_pos c1, if_neg (by simp), w1]
    exact ih (i + 1) (by omega) k (by omega)
theorem pt_self (l : List S44) (hl : l.length ≤ 1000000000) (k : Nat) (hk : l.length < k) : api_Point_24.f k l l = some true := by
  unfold api_Point_24.f
  rw [if_pos rfl]
  exact pt_loop l hl l.length 0 (by omega) k hk
theorem len_tot (ls : List (List S44)) : ∀ r ∈ ls, r.length ≤ tot ls := by
  induction ls with
  | nil => intro r h; cases h
  | cons l ls ih =>
    intro r h
    rw [tot]
    rcases List.mem_cons.1 h with rfl | h
    · omega
    · have := ih r h; omega
theorem ls_loop (ls : List (List S44)) (hl : ls.length ≤ 1000000000) (ht : tot ls ≤ 1000000000) : ∀ (d i : Nat), i + d = ls.length → ∀ k, d + tot ls < k → api_Point_23.l0 k ls ls (ls.length : Int) (i : Int) = some true := by
  intro d
  induction d with
  | zero =>
    intro i hi k hk
    obtain ⟨k, rfl⟩ : ∃ m, k = m + 1 := ⟨k - 1, by omega⟩
    rw [api_Point_23.l0, if_neg (by omega)]
  | succ d ih =>
    intro i hi k hk
    obtain ⟨k, rfl⟩ : ∃ m, k = m + 1 := ⟨k - 1, by omega⟩
    have hlt : i < ls.length := by omega
    have c1 : (i : Int) < (ls.length : Int) := by omega
    have w1 : wrap64 ((i : Int) + 1) = ((i + 1 : Nat) : Int) := by rw [wrap_id (by omega) (by omega)]; omega
    have hm := len_tot ls ls[i] (List.getElem_mem hlt)
    rw [api_Point_23.l0, if_pos c1, if_pos (Int.natCast_nonneg _), if_pos c1, if_pos c1, rdL_at hlt, pt_self _ (by omega) k (by omega), Option.bind_some, if_pos rfl, w1]
    exact ih (i + 1) (by omega) k (by omega)
theorem ls_self (ls : List (List S44)) (hl : ls.length ≤ 1000000000) (ht : tot ls ≤ 1000000000) (k : Nat) (hk : ls.length + tot ls < k) : api_Point_23.f k ls ls = some true := by
  unfold api_Point_23.f
  rw [if_pos rfl]
  exact ls_loop ls hl ht ls.length 0 (by omega) k hk
theorem check_all (parts : List (List S44)) (hp : parts.length ≤ 1000000000) (h : ¬ (parts.length ≤ 1000 ∧ tot parts ≤ 20000)) : ∀ (d i : Nat) (s : Int), i + d = parts.length → 0 ≤ s → s + (tot (parts.drop i) : Int) = (tot parts : Int) → tot parts ≤ 1000000000 → ∀ k, delta_Check.l0 (k + d + 1) parts s parts (parts.length : Int) (i : Int) = some 2 := by
  intro d
  induction d with
  | zero =>
    intro i s hi h0 ht hb k
    rw [List.drop_eq_nil_of_le (by omega), tot] at ht
    rw [delta_Check.l0, if_neg (by omega)]
    by_cases c : (parts.length : Int) > 1000
    · rw [if_pos c]
    · rw [if_neg c, if_pos (by omega)]
  | succ d ih =>
    intro i s hi h0 ht hb k
    have hlt : i < parts.length := by omega
    rw [List.drop_eq_getElem_cons hlt, tot] at ht
    have w1 : wrap64 ((i : Int) + 1) = ((i + 1 : Nat) : Int) := by rw [wrap_id (by omega) (by omega)]; omega
    have w2 : wrap64 (s + ((parts[i].length : Nat) : Int)) = s + ((parts[i].length : Nat) : Int) := wrap_id (by omega) (by omega)
    rw [show k + (d + 1) + 1 = (k + d + 1) + 1 by omega, delta_Check.l0, if_pos (by omega), if_pos (Int.natCast_nonneg _), if_pos (by omega), rdL_at hlt, w1, w2]
    exact ih (i + 1) _ (by omega) (by omega) (by omega) hb k
theorem write_large (parts : List (List S44)) (hp : parts.length ≤ 1000000000) (ht : tot parts ≤ 1000000000) (h : ¬ (parts.length ≤ 1000 ∧ tot parts ≤ 20000)) (k : Nat) (hk : parts.length + 1 ≤ k) : delta_Write.f k parts = some ([], 2) := by
  have hc : delta_Check.f k parts = some 2 := by
    obtain ⟨m, rfl⟩ : ∃ m, k = m + parts.length + 1 := ⟨k - parts.length - 1, by omega⟩
    exact check_all parts hp h parts.length 0 0 (by omega) (by omega) (by rw [List.drop_zero]; omega) ht m
  rw [delta_Write.f, hc, Option.bind_some, if_neg (by decide)]
theorem encP_bytes (r : List S44) : ∀ x y, Bytes (encP x y r) := by
  induction r with
  | nil => intro x y z hz; cases hz
  | cons q r ih =>
    intro x y z hz
    rw [encP] at hz
    rcases List.mem_append.1 hz with hz | hz
    · exact enc_bytes (in_wrap _) z hz
    · rcases List.mem_append.1 hz with hz | hz
      · exact enc_bytes (in_wrap _) z hz
      · exact ih _ _ z hz
theorem encL_bytes (r : List (List S44)) : ∀ x y, tot r ≤ 20000 → Bytes (encL x y r) := by
  induction r with
  | nil => intro x y _ z hz; cases hz
  | cons l r ih =>
    intro x y h z hz
    rw [tot] at h
    rw [encL] at hz
    rcases List.mem_append.1 hz with hz | hz
    · exact enc_bytes (by unfold In; omega) z hz
    · rcases List.mem_append.1 hz with hz | hz
      · exact encP_bytes _ _ _ z hz
      · exact ih _ _ (by omega) z hz
theorem encAll_bytes (ls : List (List S44)) (hin : InL ls) (hp : ls.length ≤ 1000) (ht : tot ls ≤ 20000) : Bytes (encAll ls) := by
  intro z hz
  rw [encAll] at hz
  rcases List.mem_append.1 hz with hz | hz
  · exact enc_bytes (by unfold In; omega) z hz
  · exact encL_bytes ls 0 0 ht z hz
theorem enc_300 : (enc 300).length = 2 := by
  have z : (zig 300).toNat = 600 := by decide
  rw [enc, z, dg_hi (by omega), dg_lo (by omega)]
  rfl
theorem back (lim : Nat) (hlim : lim = 140737488355328) (n : Int) (hn : In n) (ls : List (List S44)) (hl : ls.length ≤ 1000000000) (ht : tot ls ≤ 1000000000) (hin : InL ls) (more : List Int) (hb : Bytes more) (hm : more.length ≤ 1000000000) : ∃ k, terrkeep5_DeltaBack.f k n ls more = some true := by
  have h300 : In 300 := by unfold In; omega
  have hle := enc_len hn
  have join : ∃ K, ∀ k, K ≤ k → terrkeep5_DeltaBack.j0 k ls more false = some true := by
    by_cases c : ls.length ≤ 1000 ∧ tot ls ≤ 20000
    · obtain ⟨K, hK⟩ := write_enc lim hlim ls c.1 c.2
      have hal := encAll_len ls c.1 c.2
      refine ⟨K + 50 + more.length + ls.length + tot ls, fun k hk => ?_⟩
      obtain ⟨m, rfl⟩ : ∃ m, k = (m + 6) + 1 := ⟨k - 7, by omega⟩
      have hbe : Bytes (encAll ls ++ more) := by
        intro x hx
        rcases List.mem_append.1 hx with hx | hx
        · exact encAll_bytes ls hin c.1 c.2 x hx
        · exact hb x hx
      rw [terrkeep5_DeltaBack.j0, if_neg (by decide), hK _ (by omega), Option.bind_some, if_pos rfl, Option.bind_some]
      dsimp only
      rw [concat2 lim hlim _ _ (by omega), Option.bind_some, read_R lim hlim _ hbe (by rw [List.length_append]; omega) _ (by omega), Option.bind_some, R_fwd ls more hin c.1 c.2, if_pos rfl]
      dsimp only
      rw [eq_self more (by omega) _ (by omega), Option.bind_some, if_pos rfl, ls_self ls hl ht _ (by omega), Option.bind_some]
    · refine ⟨ls.length + 2, fun k hk => ?_⟩
      obtain ⟨m, rfl⟩ : ∃ m, k = m + 1 := ⟨k - 1, by omega⟩
      rw [terrkeep5_DeltaBack.j0, if_neg (by decide), write_large ls hl ht c _ (by omega), Option.bind_some, if_neg (by decide)]
      rfl
  obtain ⟨K, hK⟩ := join
  refine ⟨K + 50 + more.length, ?_⟩
  have hbn : Bytes (enc n ++ more) := by
    intro x hx
    rcases List.mem_append.1 hx with hx | hx
    · exact enc_bytes hn x hx
    · exact hb x hx
  rw [terrkeep5_DeltaBack.f, num_enc lim hlim h300 _ _ (by omega) (by simp; omega), Option.bind_some, List.nil_append, if_pos (by rw [enc_300]; rfl), num_enc lim hlim hn _ _ (by omega) (by simp; omega), Option.bind_some, List.nil_append, ← hlim, if_pos (by omega),
    take_rt lim hlim _ hbn (by rw [List.length_append]; omega) _ (by omega), Option.bind_some, rt, rt_enc hn, if_pos rfl, if_pos rfl, if_pos (unzig_zig n hn.1 hn.2), eq_self more (by omega) _ (by omega), Option.bind_some]
  exact hK _ (by omega)
end Go.Proofs.Ytjgoehhhjffpmaa.U

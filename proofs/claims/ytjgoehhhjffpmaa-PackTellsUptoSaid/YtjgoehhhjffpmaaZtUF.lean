/- Plain facts on reading numbers: Take and the reader's num by the list, and that what is read is what is written. Conditions: stated at each. -/
import Derived.Test.YtjgoehhhjffpmaaZtUB
import Derived.Test.YtjgoehhhjffpmaaZtQ0
namespace Go.Proofs.Ytjgoehhhjffpmaa.U
open Go.RowKit Go.Proofs.Ytjgoehhhjffpmaa.Q Go.Proofs.YtjgoehhhjffpmaaW.PrintWords Go.Proofs.YtjgoehhhjffpmaaW.PrintLast Go.Proofs.YtjgoehhhjffpmaaW.PrintMore
set_option linter.unusedSimpArgs false
set_option linter.unusedVariables false

/-- A number's value, what is left, the fault; i bytes have been read. -/
def tk : Nat → List Int → Nat × List Int × Int
  | _, [] => (0, [], 14)
  | i, c :: t => if (i = 9 ∧ c > 1) ∨ (0 < i ∧ c = 0) then (0, [], 3) else if c < 128 then (c.toNat, t, 0) else
      if (tk (i + 1) t).2.2 = 0 then ((c - 128).toNat + 128 * (tk (i + 1) t).1, (tk (i + 1) t).2.1, 0) else (0, [], (tk (i + 1) t).2.2)
def Bytes (b : List Int) : Prop := ∀ x ∈ b, 0 ≤ x ∧ x ≤ 255
theorem rd_at {b : List Int} {i : Nat} (h : i < b.length) : rd b (i : Int) = b[i] := by
  unfold rd
  simp [List.getD_eq_getElem?_getD, h]
theorem drop_at {b : List Int} {i : Nat} (h : i < b.length) : b.drop i = rd b (i : Int) :: b.drop (i + 1) := by
  rw [rd_at h]; exact List.drop_eq_getElem_cons h
theorem bytes_rd {b : List Int} (hb : Bytes b) {i : Nat} (h : i < b.length) : 0 ≤ rd b (i : Int) ∧ rd b (i : Int) ≤ 255 := by
  rw [rd_at h]; exact hb _ (List.getElem_mem h)
/-! ### written and read -/
def B (i : Nat) : Nat := 2 ^ (64 - 7 * i)
def dg (u : Nat) : List Int := if u > 127 then ((u % 128 + 128 : Nat) : Int) :: dg (u / 128) else [(u : Int)]
decreasing_by omega
theorem dg_lo {u : Nat} (h : u ≤ 127) : dg u = [(u : Int)] := by rw [dg, if_neg (by omega)]
theorem dg_hi {u : Nat} (h : 127 < u) : dg u = ((u % 128 + 128 : Nat) : Int) :: dg (u / 128) := by rw [dg, if_pos h]
theorem num_dg (lim : Nat) (hlim : lim = 140737488355328) : ∀ (m u : Nat), u < 128 ^ (m + 1) → ∀ (k : Nat) (acc : List Int), m + 1 ≤ k → acc.length + m < lim → delta_Num.l0 k (u : Int) acc = some (acc ++ dg u) := by
  intro m
  induction m with
  | zero =>
    intro u h k acc hk ha
    have h2 : u < 128 := by simpa using h
    obtain ⟨k, rfl⟩ : ∃ j, k = j + 1 := ⟨k - 1, by omega⟩
    have b1 : (u : Int) % 256 = u := by omega
    rw [dg_lo (by omega), delta_Num.l0, if_neg (by omega), ← hlim, if_pos (by omega), b1]
  | succ m ih =>
    intro u h k acc hk ha
    obtain ⟨k, rfl⟩ : ∃ j, k = j + 1 := ⟨k - 1, by omega⟩
    by_cases c : u > 127
    · have b1 : Go.bits .or .u8 ((u : Int) % 256) 128 = ((u % 128 + 128 : Nat) : Int) := by rw [or_byte _ (by omega) (by omega)]; omega
      have q : (u : Int) / 128 = ((u / 128 : Nat) : Int) := by omega
      have hq : u / 128 < 128 ^ (m + 1) := by
        rw [Nat.pow_succ] at h
        exact Nat.div_lt_of_lt_mul (by rw [Nat.mul_comm]; exact h)
      rw [dg_hi c, delta_Num.l0, if_pos (by omega), ← hlim, if_pos (by omega), b1, q, ih _ hq k _ (by omega) (by simp; omega), List.append_assoc]
      rfl
    · have b1 : (u : Int) % 256 = u := by omega
      rw [dg_lo (by omega), delta_Num.l0, if_neg (by omega), ← hlim, if_pos (by omega), b1]
theorem dg_len : ∀ (m u : Nat), u < 128 ^ (m + 1) → (dg u).length ≤ m + 1 := by
  intro m
  induction m with
  | zero => intro u h; rw [dg_lo (by omega)]; simp
  | succ m ih =>
    intro u h
    by_cases c : u > 127
    · rw [dg_hi c, List.length_cons]
      have hq : u / 128 < 128 ^ (m + 1) := by
        rw [Nat.pow_succ] at h
        exact Nat.div_lt_of_lt_mul (by rw [Nat.mul_comm]; exact h)
      have := ih _ hq
      omega
    · rw [dg_lo (by omega)]; simp
theorem dg_bytes : ∀ (m u : Nat), u < 128 ^ (m + 1) → Bytes (dg u) := by
  intro m
  induction m with
  | zero => intro u h; rw [dg_lo (by omega)]; intro x hx; rw [List.mem_singleton] at hx; omega
  | succ m ih =>
    intro u h
    by_cases c : u > 127
    · rw [dg_hi c]
      have hq : u / 128 < 128 ^ (m + 1) := by
        rw [Nat.pow_succ] at h
        exact Nat.div_lt_of_lt_mul (by rw [Nat.mul_comm]; exact h)
      intro x hx
      rcases List.mem_cons.1 hx with rfl | hx
      · omega
      · exact ih _ hq x hx
    · rw [dg_lo (by omega)]; intro x hx; rw [List.mem_singleton] at hx; omega
theorem zig_lt (n : Int) (h0 : -9223372036854775808 ≤ n) (h1 : n ≤ 9223372036854775807) : 0 ≤ zig n ∧ (zig n).toNat < 18446744073709551616 := by
  unfold zig
  by_cases c : n < 0
  · rw [if_pos c]; omega
  · rw [if_neg c]; omega
def In (n : Int) : Prop := -9223372036854775808 ≤ n ∧ n ≤ 9223372036854775807
/-- A number's bytes. -/
def enc (n : Int) : List Int := dg (zig n).toNat
theorem enc_len {n : Int} (h : In n) : (enc n).length ≤ 10 := dg_len 9 _ (Nat.lt_trans (zig_lt n h.1 h.2).2 (by decide))
theorem enc_bytes {n : Int} (h : In n) : Bytes (enc n) := dg_bytes 9 _ (Nat.lt_trans (zig_lt n h.1 h.2).2 (by decide))
theorem num_enc (lim : Nat) (hlim : lim = 140737488355328) {n : Int} (h : In n) (k : Nat) (acc : List Int) (hk : 12 ≤ k) (ha : acc.length + 12 < lim) : delta_Num.f k acc n = some (acc ++ enc n) := by
  unfold delta_Num.f
  rw [Option.bind_some, ← hlim, if_pos (by simp; omega), num_start n h.1 h.2, List.nil_append, show zig n = (((zig n).toNat : Nat) : Int) by have := (zig_lt n h.1 h.2).1; omega]
  exact num_dg lim hlim 9 _ (Nat.lt_trans (zig_lt n h.1 h.2).2 (by decide)) k acc (by omega) (by omega)
/-! ### the reader's num -/
/-- What num comes to at a reader without a fault. -/
def rn (b : List Int) : Int × List Int × Int := if (tk 0 b).2.2 = 0 then (unzig (tk 0 b).1, (tk 0 b).2.1, 0) else (0, b, (tk 0 b).2.2)
end Go.Proofs.Ytjgoehhhjffpmaa.U


/- Plain facts on the encoding of numbers: bits, digits, what is written and read. Conditions: stated at each. -/
import Derived.Test.YtjgoehhhjffpmaaQf15
import Derived.Test.YtjgoehhhjffpmaaQf17
import Derived.Test.YtjgoehhhjffpmaaQf18
import Derived.Test.YtjgoehhhjffpmaaQf19
namespace Go.Proofs.Ytjgoehhhjffpmaa.U
open Go.RowKit Go.Proofs.Ytjgoehhhjffpmaa.Q Go.Proofs.YtjgoehhhjffpmaaW.PrintWords Go.Proofs.YtjgoehhhjffpmaaW.PrintLast Go.Proofs.YtjgoehhhjffpmaaW.PrintMore
set_option linter.unusedSimpArgs false
set_option linter.unusedVariables false

theorem wrap_id {x : Int} (h0 : -9223372036854775808 ≤ x) (h1 : x ≤ 9223372036854775807) : wrap64 x = x := by
  unfold wrap64
  omega
theorem uwrap (x : Int) : IntKind.u64.wrap x = x % 18446744073709551616 := rfl
theorem iwrap (x : Int) : IntKind.i64.wrap x = wrap64 x := i64_w x
theorem uwrap_id {x : Int} (h0 : 0 ≤ x) (h1 : x < 18446744073709551616) : IntKind.u64.wrap x = x := by rw [uwrap]; omega

/-! ### bits -/
theorem or8 : ∀ n : Fin 256, Go.bits .or .u8 (n.val : Int) 128 = (n.val : Int) % 128 + 128 := by decide +kernel
theorem and8 : ∀ n : Fin 256, Go.bits .and .u8 (n.val : Int) 127 = (n.val : Int) % 128 := by decide +kernel
theorem or_byte (x : Int) (h : 0 ≤ x) (h2 : x ≤ 255) : Go.bits .or .u8 x 128 = x % 128 + 128 := by
  have := or8 ⟨x.toNat, by omega⟩
  simp only [show ((x.toNat : Nat) : Int) = x by omega] at this
  exact this
theorem and_byte (x : Int) (h : 0 ≤ x) (h2 : x ≤ 255) : Go.bits .and .u8 x 127 = x % 128 := by
  have := and8 ⟨x.toNat, by omega⟩
  simp only [show ((x.toNat : Nat) : Int) = x by omega] at this
  exact this
theorem or64 (x y : Nat) (hx : x < 18446744073709551616) (hy : y < 18446744073709551616) : Go.bits .or .u64 (x : Int) (y : Int) = ((x ||| y : Nat) : Int) := by
  have e : (BitVec.ofInt IntKind.u64.bits (x : Int) ||| BitVec.ofInt IntKind.u64.bits (y : Int)).toNat = x ||| y := by
    show (BitVec.ofInt 64 (x : Int) ||| BitVec.ofInt 64 (y : Int)).toNat = x ||| y
    rw [BitVec.ofInt_natCast, BitVec.ofInt_natCast, BitVec.toNat_or, BitVec.toNat_ofNat, BitVec.toNat_ofNat, Nat.mod_eq_of_lt hx, Nat.mod_eq_of_lt hy]
  have hlt : x ||| y < 18446744073709551616 := Nat.or_lt_two_pow (n := 64) hx hy
  unfold Go.bits
  dsimp only
  rw [e]
  exact uwrap_id (by omega) (by omega)
theorem and64 (x : Nat) (hx : x < 18446744073709551616) : Go.bits .and .u64 (x : Int) 1 = ((x % 2 : Nat) : Int) := by
  have e : (BitVec.ofInt IntKind.u64.bits (x : Int) &&& BitVec.ofInt IntKind.u64.bits ((1 : Nat) : Int)).toNat = x % 2 := by
    show (BitVec.ofInt 64 (x : Int) &&& BitVec.ofInt 64 ((1 : Nat) : Int)).toNat = x % 2
    rw [BitVec.ofInt_natCast, BitVec.ofInt_natCast, BitVec.toNat_and, BitVec.toNat_ofNat, BitVec.toNat_ofNat, Nat.mod_eq_of_lt hx, Nat.mod_eq_of_lt (by decide)]
    exact Nat.and_one_is_mod x
  unfold Go.bits
  dsimp only
  have z : ((1 : Nat) : Int) = 1 := rfl
  rw [z] at e
  rw [e]
  exact uwrap_id (by omega) (by omega)
theorem xor64_zero (x : Nat) (hx : x < 18446744073709551616) : Go.bits .xor .u64 (x : Int) 0 = (x : Int) := by
  have e : (BitVec.ofInt IntKind.u64.bits (x : Int) ^^^ BitVec.ofInt IntKind.u64.bits ((0 : Nat) : Int)).toNat = x := by
    show (BitVec.ofInt 64 (x : Int) ^^^ BitVec.ofInt 64 ((0 : Nat) : Int)).toNat = x
    rw [BitVec.ofInt_natCast, BitVec.ofInt_natCast, BitVec.toNat_xor, BitVec.toNat_ofNat, BitVec.toNat_ofNat, Nat.mod_eq_of_lt hx, Nat.zero_mod, Nat.xor_zero]
  unfold Go.bits
  dsimp only
  have z : ((0 : Nat) : Int) = 0 := rfl
  rw [z] at e
  rw [e]
  exact uwrap_id (by omega) (by omega)
theorem xor_ones (x : Nat) (hx : x < 18446744073709551616) : (BitVec.ofInt 64 (x : Int) ^^^ BitVec.allOnes 64).toNat = 18446744073709551615 - x := by
  rw [BitVec.xor_allOnes, BitVec.toNat_not, BitVec.ofInt_natCast, BitVec.toNat_ofNat, Nat.mod_eq_of_lt hx]
theorem xor64_ones (x : Nat) (hx : x < 18446744073709551616) : Go.bits .xor .u64 (x : Int) 18446744073709551615 = 18446744073709551615 - (x : Int) := by
  have e' : (BitVec.ofInt IntKind.u64.bits (x : Int) ^^^ BitVec.ofInt IntKind.u64.bits 18446744073709551615).toNat = 18446744073709551615 - x := by
    show (BitVec.ofInt 64 (x : Int) ^^^ BitVec.ofInt 64 18446744073709551615).toNat = _
    rw [show BitVec.ofInt 64 18446744073709551615 = BitVec.allOnes 64 by decide]
    exact xor_ones x hx
  unfold Go.bits
  dsimp only
  rw [e', uwrap_id (by omega) (by omega)]
  omega
theorem xori_zero (x : Nat) (hx : x < 9223372036854775808) : Go.bits .xor .i64 (x : Int) 0 = (x : Int) := by
  have e : (BitVec.ofInt IntKind.i64.bits (x : Int) ^^^ BitVec.ofInt IntKind.i64.bits ((0 : Nat) : Int)).toNat = x := by
    show (BitVec.ofInt 64 (x : Int) ^^^ BitVec.ofInt 64 ((0 : Nat) : Int)).toNat = x
    rw [BitVec.ofInt_natCast, BitVec.ofInt_natCast, BitVec.toNat_xor, BitVec.toNat_ofNat, BitVec.toNat_ofNat, Nat.mod_eq_of_lt (by omega), Nat.zero_mod, Nat.xor_zero]
  unfold Go.bits
  dsimp only
  have z : ((0 : Nat) : Int) = 0 := rfl
  rw [z] at e
  rw [e, iwrap, wrap_id (by omega) (by omega)]
theorem xori_ones (x : Nat) (hx : x < 9223372036854775808) : Go.bits .xor .i64 (x : Int) (-1) = -(x : Int) - 1 := by
  have e' : (BitVec.ofInt IntKind.i64.bits (x : Int) ^^^ BitVec.ofInt IntKind.i64.bits (-1)).toNat = 18446744073709551615 - x := by
    show (BitVec.ofInt 64 (x : Int) ^^^ BitVec.ofInt 64 (-1)).toNat = _
    rw [show BitVec.ofInt 64 (-1) = BitVec.allOnes 64 by decide]
    exact xor_ones x (by omega)
  unfold Go.bits
  dsimp only
  rw [e', iwrap]
  unfold wrap64
  omega

/-! ### a number's digits -/
theorem dig_loop (lim : Nat) (hlim : lim = 140737488355328) : ∀ (m : Nat) (u : Int), 0 ≤ u → u < 18446744073709551616 → u < 128 ^ (m + 1) →
    ∃ d : List Int, d.length ≤ m + 1 ∧ ∀ (k : Nat) (acc : List Int), m + 1 ≤ k → acc.length + m < lim → delta_Num.l0 k u acc = some (acc ++ d) ∧ terrref5_Digits.l0 k u acc = some (acc ++ d) := by
  intro m
  induction m with
  | zero =>
    intro u h0 h1 h2
    have h2' : u < 128 := by simpa using h2
    refine ⟨[u], by simp, fun k acc hk ha => ?_⟩
    obtain ⟨k, rfl⟩ : ∃ j, k = j + 1 := ⟨k - 1, by omega⟩
    have q : IntKind.u64.wrap (Int.tdiv u 128) = 0 := by rw [Int.tdiv_eq_ediv_of_nonneg h0, show u / 128 = 0 by omega]; rfl
    have b1 : u % 256 = u := by omega
    have b2 : Int.tmod u 128 % 256 = u := by rw [Int.tmod_eq_emod_of_nonneg h0]; omega
    constructor
    · rw [delta_Num.l0, if_neg (by omega), ← hlim, if_pos (by omega), b1]
    · rw [terrref5_Digits.l0, if_pos q, ← hlim, if_pos (by omega), b2]
  | succ m ih =>
    intro u h0 h1 h2
    by_cases c : u > 127
    · obtain ⟨d, hd, h⟩ := ih (u / 128) (by omega) (by omega) (by
        have e : (128 : Int) ^ (m + 1 + 1) = 128 ^ (m + 1) * 128 := Int.pow_succ _ _
        rw [e] at h2
        exact Int.ediv_lt_of_lt_mul (by decide) h2)
      refine ⟨(u % 128 + 128) :: d, by simp; omega, fun k acc hk ha => ?_⟩
      obtain ⟨k, rfl⟩ : ∃ j, k = j + 1 := ⟨k - 1, by omega⟩
      have q : IntKind.u64.wrap (Int.tdiv u 128) = u / 128 := by rw [Int.tdiv_eq_ediv_of_nonneg h0, uwrap_id (by omega) (by omega)]
      have b1 : Go.bits .or .u8 (u % 256) 128 = u % 128 + 128 := by rw [or_byte _ (by omega) (by omega)]; omega
      have b2 : (Int.tmod u 128 % 256 + 128) % 256 = u % 128 + 128 := by rw [Int.tmod_eq_emod_of_nonneg h0]; omega
      obtain ⟨g1, g2⟩ := h k (acc ++ [u % 128 + 128]) (by omega) (by simp; omega)
      constructor
      · rw [delta_Num.l0, if_pos c, ← hlim, if_pos (by omega), b1, g1, List.append_assoc]; rfl
      · rw [terrref5_Digits.l0, q, if_neg (by omega), ← hlim, if_pos (by omega), b2, g2, List.append_assoc]; rfl
    · refine ⟨[u], by simp, fun k acc hk ha => ?_⟩
      obtain ⟨k, rfl⟩ : ∃ j, k = j + 1 := ⟨k - 1, by omega⟩
      have q : IntKind.u64.wrap (Int.tdiv u 128) = 0 := by rw [Int.tdiv_eq_ediv_of_nonneg h0, show u / 128 = 0 by omega]; rfl
      have b1 : u % 256 = u := by omega
      have b2 : Int.tmod u 128 % 256 = u := by rw [Int.tmod_eq_emod_of_nonneg h0]; omega
      constructor
      · rw [delta_Num.l0, if_neg c, ← hlim, if_pos (by omega), b1]
      · rw [terrref5_Digits.l0, if_pos q, ← hlim, if_pos (by omega), b2]

def zig (n : Int) : Int := if n < 0 then -2 * n - 1 else 2 * n
theorem num_start (n : Int) (h0 : -9223372036854775808 ≤ n) (h1 : n ≤ 9223372036854775807) : Go.bits .xor .u64 (IntKind.u64.wrap ((IntKind.u64.wrap n) * 2)) (IntKind.u64.wrap (n / 9223372036854775808)) = zig n := by
  unfold zig
  by_cases c : n < 0
  · have e1 : IntKind.u64.wrap (n / 9223372036854775808) = 18446744073709551615 := by rw [show n / 9223372036854775808 = -1 by omega]; rfl
    obtain ⟨x, hx⟩ : ∃ x : Nat, (x : Int) = IntKind.u64.wrap ((IntKind.u64.wrap n) * 2) := ⟨(IntKind.u64.wrap ((IntKind.u64.wrap n) * 2)).toNat, by rw [uwrap, uwrap]; omega⟩
    have hx2 : (x : Int) = 18446744073709551616 + 2 * n := by rw [hx, uwrap, uwrap]; omega
    rw [← hx, e1, xor64_ones x (by omega), if_pos c]
    omega
  · have e1 : IntKind.u64.wrap (n / 9223372036854775808) = 0 := by rw [show n / 9223372036854775808 = 0 by omega]; rfl
    obtain ⟨x, hx⟩ : ∃ x : Nat, (x : Int) = IntKind.u64.wrap ((IntKind.u64.wrap n) * 2) := ⟨(IntKind.u64.wrap ((IntKind.u64.wrap n) * 2)).toNat, by rw [uwrap, uwrap]; omega⟩
    have hx2 : (x : Int) = 2 * n := by rw [hx, uwrap, uwrap]; omega
    rw [← hx, e1, xor64_zero x (by omega), if_neg c, hx2]
theorem digits_in (lim : Nat) (hlim : lim = 140737488355328) (n : Int) (h0 : -9223372036854775808 ≤ n) (h1 : n ≤ 9223372036854775807) : ∃ d : List Int, d.length ≤ 10 ∧ ∀ (k : Nat) (acc : List Int), 12 ≤ k → acc.length + 12 < lim → delta_Num.f k acc n = some (acc ++ d) ∧ terrref5_Digits.f k n = some d := by
  have hz : 0 ≤ zig n ∧ zig n < 18446744073709551616 := by unfold zig; split <;> omega
  obtain ⟨d, hd, h⟩ := dig_loop lim hlim 9 (zig n) hz.1 hz.2 (Int.lt_trans hz.2 (by decide))
  refine ⟨d, hd, fun k acc hk ha => ⟨?_, ?_⟩⟩
  · unfold delta_Num.f
    rw [Option.bind_some, ← hlim, if_pos (by simp; omega), num_start n h0 h1]
    exact (h k acc (by omega) (by omega)).1
  · obtain ⟨k, rfl⟩ : ∃ j, k = j + 1 := ⟨k - 1, by omega⟩
    have := (h k [] (by omega) (by simp; omega)).2
    unfold terrref5_Digits.f
    by_cases c : n < 0
    · have e : IntKind.u64.wrap ((IntKind.u64.wrap (-(IntKind.u64.wrap (2 * (IntKind.u64.wrap n))))) - 1) = zig n := by
        unfold zig; rw [if_pos c, uwrap, uwrap, uwrap, uwrap]; omega
      rw [if_pos c, e, terrref5_Digits.j0]
      exact this
    · have e : IntKind.u64.wrap (2 * (IntKind.u64.wrap n)) = zig n := by unfold zig; rw [if_neg c, uwrap, uwrap]; omega
      rw [if_neg c, e, terrref5_Digits.j0]
      exact this

end Go.Proofs.Ytjgoehhhjffpmaa.U

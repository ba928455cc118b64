/- Plain facts on bits and on the value of a number's bytes. No condition but those stated at each. -/
import Derived.Test.YtjgoehhhjffpmaaZrQ0
import Derived.Test.YtjgoehhhjffpmaaZrQf18
namespace Go.Proofs.Ytjgoehhhjffpmaa.U
open Go.RowKit Go.Proofs.Ytjgoehhhjffpmaa.Q Go.Proofs.YtjgoehhhjffpmaaW.PrintWords Go.Proofs.YtjgoehhhjffpmaaW.PrintLast Go.Proofs.YtjgoehhhjffpmaaW.PrintMore
set_option linter.unusedSimpArgs false
set_option linter.unusedVariables false

theorem wrap_id {x : Int} (h0 : -9223372036854775808 ≤ x) (h1 : x ≤ 9223372036854775807) : wrap64 x = x := by
  unfold wrap64
  omega
theorem uwrap (x : Int) : IntKind.u64.wrap x = x % 18446744073709551616 := rfl
theorem iwrap (x : Int) : IntKind.i64.wrap x = wrap64 x := i64_w x
theorem uwrap_id {x : Int} (h0 : 0 ≤ x) (h1 : x < 18446744073709551616) : IntKind.u64.wrap x = x := by rw [uwrap]; omega
/-! ### bits -/
theorem and8 : ∀ n : Fin 256, Go.bits .and .u8 (n.val : Int) 127 = (n.val : Int) % 128 := by decide +kernel
theorem and_byte (x : Int) (h : 0 ≤ x) (h2 : x ≤ 255) : Go.bits .and .u8 x 127 = x % 128 := by
  have := and8 ⟨x.toNat, by omega⟩
  simp only [show ((x.toNat : Nat) : Int) = x by omega] at this
  exact this
theorem or64 (x y : Nat) (hx : x < 18446744073709551616) (hy : y < 18446744073709551616) : Go.bits .or .u64 (x : Int) (y : Int) = ((x ||| y : Nat) : Int) := by
  have e : (BitVec.ofInt IntKind.u64.bits (x : Int) ||| BitVec.ofInt IntKind.u64.bits (y : Int)).toNat = x ||| y := by
    show (BitVec.ofInt 64 (x : Int) ||| BitVec.ofInt 64 (y : Int)).toNat = x ||| y
    rw [BitVec.ofInt_natCast, BitVec.ofInt_natCast, BitVec.toNat_or, BitVec.toNat_ofNat, BitVec.toNat_ofNat, Nat.mod_eq_of_lt hx, Nat.mod_eq_of_lt hy]
  have hlt : x ||| y < 18446744073709551616 := Nat.or_lt_two_pow (n := 64) hx hy
  unfold Go.bits
  dsimp only
  rw [e]
  exact uwrap_id (by omega) (by omega)
theorem and64 (x : Nat) (hx : x < 18446744073709551616) : Go.bits .and .u64 (x : Int) 1 = ((x % 2 : Nat) : Int) := by
  have e : (BitVec.ofInt IntKind.u64.bits (x : Int) &&& BitVec.ofInt IntKind.u64.bits ((1 : Nat) : Int)).toNat = x % 2 := by
    show (BitVec.ofInt 64 (x : Int) &&& BitVec.ofInt 64 ((1 : Nat) : Int)).toNat = x % 2
    rw [BitVec.ofInt_natCast, BitVec.ofInt_natCast, BitVec.toNat_and, BitVec.toNat_ofNat, BitVec.toNat_ofNat, Nat.mod_eq_of_lt hx, Nat.mod_eq_of_lt (by decide)]
    exact Nat.and_one_is_mod x
  unfold Go.bits
  dsimp only
  have z : ((1 : Nat) : Int) = 1 := rfl
  rw [z] at e
  rw [e]
  exact uwrap_id (by omega) (by omega)
theorem xor_ones (x : Nat) (hx : x < 18446744073709551616) : (BitVec.ofInt 64 (x : Int) ^^^ BitVec.allOnes 64).toNat = 18446744073709551615 - x := by
  rw [BitVec.xor_allOnes, BitVec.toNat_not, BitVec.ofInt_natCast, BitVec.toNat_ofNat, Nat.mod_eq_of_lt hx]
theorem xori_zero (x : Nat) (hx : x < 9223372036854775808) : Go.bits .xor .i64 (x : Int) 0 = (x : Int) := by
  have e : (BitVec.ofInt IntKind.i64.bits (x : Int) ^^^ BitVec.ofInt IntKind.i64.bits ((0 : Nat) : Int)).toNat = x := by
    show (BitVec.ofInt 64 (x : Int) ^^^ BitVec.ofInt 64 ((0 : Nat) : Int)).toNat = x
    rw [BitVec.ofInt_natCast, BitVec.ofInt_natCast, BitVec.toNat_xor, BitVec.toNat_ofNat, BitVec.toNat_ofNat, Nat.mod_eq_of_lt (by omega), Nat.zero_mod, Nat.xor_zero]
  unfold Go.bits
  dsimp only
  have z : ((0 : Nat) : Int) = 0 := rfl
  rw [z] at e
  rw [e, iwrap, wrap_id (by omega) (by omega)]
theorem xori_ones (x : Nat) (hx : x < 9223372036854775808) : Go.bits .xor .i64 (x : Int) (-1) = -(x : Int) - 1 := by
  have e' : (BitVec.ofInt IntKind.i64.bits (x : Int) ^^^ BitVec.ofInt IntKind.i64.bits (-1)).toNat = 18446744073709551615 - x := by
    show (BitVec.ofInt 64 (x : Int) ^^^ BitVec.ofInt 64 (-1)).toNat = _
    rw [show BitVec.ofInt 64 (-1) = BitVec.allOnes 64 by decide]
    exact xor_ones x (by omega)
  unfold Go.bits
  dsimp only
  rw [e', iwrap]
  unfold wrap64
  omega
def zig (n : Int) : Int := if n < 0 then -2 * n - 1 else 2 * n
def valN (f : Nat → Nat) : Nat → Nat
  | 0 => 0
  | i + 1 => valN f i + f i * 128 ^ i
theorem valN_lt (f : Nat → Nat) (hf : ∀ i, f i < 128) (i : Nat) : valN f i < 128 ^ i := by
  induction i with
  | zero => exact Nat.one_pos
  | succ i ih =>
    have h1 : f i * 128 ^ i ≤ 127 * 128 ^ i := Nat.mul_le_mul_right _ (by have := hf i; omega)
    rw [valN, Nat.pow_succ]
    omega
def horn (f : Nat → Nat) (K : Nat) : Nat → Nat
  | 0 => 0
  | d + 1 => horn f K d * 128 + f (K - d)
theorem horn_val (f : Nat → Nat) (K : Nat) : ∀ d, d ≤ K + 1 → valN f (K + 1) = valN f (K + 1 - d) + horn f K d * 128 ^ (K + 1 - d) := by
  intro d
  induction d with
  | zero => intro _; simp [horn]
  | succ d ih =>
    intro hd
    rw [ih (by omega), horn, show K + 1 - d = (K - d) + 1 from by omega, show K + 1 - (d + 1) = K - d from by omega, valN, Nat.pow_succ, Nat.add_mul, Nat.mul_assoc, Nat.mul_comm 128]
    omega
theorem horn_le (f : Nat → Nat) (K d : Nat) (hd : d ≤ K + 1) : horn f K d ≤ valN f (K + 1) := by
  rw [horn_val f K d hd]
  have : horn f K d * 1 ≤ horn f K d * 128 ^ (K + 1 - d) := Nat.mul_le_mul_left _ (Nat.pow_pos (by decide))
  omega
/-- The seven low bits of a byte. -/
def low (b : List Int) (j : Nat) : Nat := (rd b (j : Int) % 128).toNat
theorem low_lt (b : List Int) (j : Nat) : low b j < 128 := by unfold low; omega
theorem val_fits (b : List Int) (i : Nat) (hi : i ≤ 9) (h9 : i = 9 → low b 9 ≤ 1) : valN (low b) (i + 1) < 18446744073709551616 := by
  rw [valN]
  have h1 := valN_lt (low b) (low_lt b) i
  by_cases c : i = 9
  · subst c
    have : low b 9 * 128 ^ 9 ≤ 1 * 128 ^ 9 := Nat.mul_le_mul_right _ (h9 rfl)
    have e : (128 : Nat) ^ 9 = 9223372036854775808 := by decide
    rw [e] at this h1 ⊢
    omega
  · have h2 : low b i * 128 ^ i ≤ 127 * 128 ^ i := Nat.mul_le_mul_right _ (by have := low_lt b i; omega)
    have h3 : (128 : Nat) ^ i ≤ 128 ^ 8 := Nat.pow_le_pow_right (by decide) (by omega)
    have e : (128 : Nat) ^ 8 = 72057594037927936 := by decide
    rw [e] at h3
    omega
theorem pow_eq (i : Nat) : (128 : Nat) ^ i = 2 ^ (7 * i) := by rw [show (128 : Nat) = 2 ^ 7 from rfl, ← Nat.pow_mul]
/-- One byte more. -/
theorem take_step (b : List Int) (i : Nat) (hi : i ≤ 9) (hb0 : 0 ≤ rd b (i : Int)) (hb1 : rd b (i : Int) ≤ 255) (h9 : i = 9 → low b 9 ≤ 1) :
    Go.bits .or .u64 (valN (low b) i : Int) (shl .u64 (IntKind.u64.wrap (Go.bits .and .u8 (rd b (i : Int)) 127)) (wrap64 (7 * (i : Int)))) = ((valN (low b) (i + 1) : Nat) : Int) := by
  have fit := val_fits b i hi h9
  have hl : ((low b i : Nat) : Int) = rd b (i : Int) % 128 := by unfold low; omega
  have l1 := low_lt b i
  have e1 : IntKind.u64.wrap (Go.bits .and .u8 (rd b (i : Int)) 127) = ((low b i : Nat) : Int) := by rw [and_byte _ hb0 hb1, hl, uwrap_id (by omega) (by omega)]
  have e2 : wrap64 (7 * (i : Int)) = ((7 * i : Nat) : Int) := by rw [wrap_id (by omega) (by omega)]; omega
  have fit2 : low b i * 128 ^ i < 18446744073709551616 := by rw [valN] at fit; omega
  have e3 : shl .u64 ((low b i : Nat) : Int) ((7 * i : Nat) : Int) = ((low b i * 128 ^ i : Nat) : Int) := by
    unfold shl
    have e4 : min (((7 * i : Nat) : Int).toNat) IntKind.u64.bits = 7 * i := by
      rw [Int.toNat_natCast]
      show min (7 * i) 64 = 7 * i
      omega
    rw [e4]
    have e5 : ((low b i : Nat) : Int) * 2 ^ (7 * i) = ((low b i * 128 ^ i : Nat) : Int) := by rw [pow_eq, Int.natCast_mul, Int.natCast_pow]; rfl
    rw [e5]
    exact uwrap_id (by omega) (by omega)
  have lt := valN_lt (low b) (low_lt b) i
  rw [e1, e2, e3, or64 _ _ (by rw [valN] at fit; omega) fit2]
  have e6 : valN (low b) i ||| low b i * 128 ^ i = valN (low b) (i + 1) := by
    rw [pow_eq] at lt ⊢
    rw [valN, pow_eq, Nat.or_comm, Nat.mul_comm, ← Nat.two_pow_add_eq_or_of_lt lt]
    omega
  rw [e6]
/-- The number out of the bits. -/
def unzig (V : Nat) : Int := if V % 2 = 1 then -((V / 2 : Nat) : Int) - 1 else ((V / 2 : Nat) : Int)
theorem take_num (V : Nat) (h : V < 18446744073709551616) : Go.bits .xor .i64 (wrap64 ((V : Int) / 2)) (wrap64 (-(wrap64 (Go.bits .and .u64 (V : Int) 1)))) = unzig V := by
  have e1 : wrap64 ((V : Int) / 2) = ((V / 2 : Nat) : Int) := by rw [wrap_id (by omega) (by omega)]; omega
  unfold unzig
  rw [and64 V h, e1]
  by_cases c : V % 2 = 1
  · rw [if_pos c, c]
    have e2 : wrap64 (-(wrap64 ((1 : Nat) : Int))) = -1 := by rw [wrap_id (x := ((1 : Nat) : Int)) (by decide) (by decide), wrap_id (by decide) (by decide)]; rfl
    rw [e2]
    exact xori_ones _ (by omega)
  · rw [if_neg c, show V % 2 = 0 by omega]
    have e2 : wrap64 (-(wrap64 ((0 : Nat) : Int))) = 0 := by rw [wrap_id (x := ((0 : Nat) : Int)) (by decide) (by decide), wrap_id (by decide) (by decide)]; rfl
    rw [e2]
    exact xori_zero _ (by omega)
end Go.Proofs.Ytjgoehhhjffpmaa.U


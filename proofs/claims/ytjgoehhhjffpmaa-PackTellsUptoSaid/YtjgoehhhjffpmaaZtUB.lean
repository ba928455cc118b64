/- Plain facts on bits and on the value of a number's bytes. No condition but those stated at each. -/
import Derived.Test.YtjgoehhhjffpmaaZtQf15
import Derived.Test.YtjgoehhhjffpmaaZtQ0
namespace Go.Proofs.Ytjgoehhhjffpmaa.U
open Go.RowKit Go.Proofs.Ytjgoehhhjffpmaa.Q Go.Proofs.YtjgoehhhjffpmaaW.PrintWords Go.Proofs.YtjgoehhhjffpmaaW.PrintLast Go.Proofs.YtjgoehhhjffpmaaW.PrintMore
set_option linter.unusedSimpArgs false
set_option linter.unusedVariables false

theorem wrap_id {x : Int} (h0 : -9223372036854775808 ≤ x) (h1 : x ≤ 9223372036854775807) : wrap64 x = x := by
  unfold wrap64
  omega
theorem uwrap (x : Int) : IntKind.u64.wrap x = x % 18446744073709551616 := rfl
theorem uwrap_id {x : Int} (h0 : 0 ≤ x) (h1 : x < 18446744073709551616) : IntKind.u64.wrap x = x := by rw [uwrap]; omega
/-! ### bits -/
theorem or8 : ∀ n : Fin 256, Go.bits .or .u8 (n.val : Int) 128 = (n.val : Int) % 128 + 128 := by decide +kernel
theorem or_byte (x : Int) (h : 0 ≤ x) (h2 : x ≤ 255) : Go.bits .or .u8 x 128 = x % 128 + 128 := by
  have := or8 ⟨x.toNat, by omega⟩
  simp only [show ((x.toNat : Nat) : Int) = x by omega] at this
  exact this
theorem xor64_zero (x : Nat) (hx : x < 18446744073709551616) : Go.bits .xor .u64 (x : Int) 0 = (x : Int) := by
  have e : (BitVec.ofInt IntKind.u64.bits (x : Int) ^^^ BitVec.ofInt IntKind.u64.bits ((0 : Nat) : Int)).toNat = x := by
    show (BitVec.ofInt 64 (x : Int) ^^^ BitVec.ofInt 64 ((0 : Nat) : Int)).toNat = x
    rw [BitVec.ofInt_natCast, BitVec.ofInt_natCast, BitVec.toNat_xor, BitVec.toNat_ofNat, BitVec.toNat_ofNat, Nat.mod_eq_of_lt hx, Nat.zero_mod, Nat.xor_zero]
  unfold Go.bits
  dsimp only
  have z : ((0 : Nat) : Int) = 0 := rfl
  rw [z] at e
  rw [e]
  exact uwrap_id (by omega) (by omega)
theorem xor_ones (x : Nat) (hx : x < 18446744073709551616) : (BitVec.ofInt 64 (x : Int) ^^^ BitVec.allOnes 64).toNat = 18446744073709551615 - x := by
  rw [BitVec.xor_allOnes, BitVec.toNat_not, BitVec.ofInt_natCast, BitVec.toNat_ofNat, Nat.mod_eq_of_lt hx]
theorem xor64_ones (x : Nat) (hx : x < 18446744073709551616) : Go.bits .xor .u64 (x : Int) 18446744073709551615 = 18446744073709551615 - (x : Int) := by
  have e' : (BitVec.ofInt IntKind.u64.bits (x : Int) ^^^ BitVec.ofInt IntKind.u64.bits 18446744073709551615).toNat = 18446744073709551615 - x := by
    show (BitVec.ofInt 64 (x : Int) ^^^ BitVec.ofInt 64 18446744073709551615).toNat = _
    rw [show BitVec.ofInt 64 18446744073709551615 = BitVec.allOnes 64 by decide]
    exact xor_ones x hx
  unfold Go.bits
  dsimp only
  rw [e', uwrap_id (by omega) (by omega)]
  omega
def zig (n : Int) : Int := if n < 0 then -2 * n - 1 else 2 * n
theorem num_start (n : Int) (h0 : -9223372036854775808 ≤ n) (h1 : n ≤ 9223372036854775807) : Go.bits .xor .u64 (IntKind.u64.wrap ((IntKind.u64.wrap n) * 2)) (IntKind.u64.wrap (n / 9223372036854775808)) = zig n := by
  unfold zig
  by_cases c : n < 0
  · have e1 : IntKind.u64.wrap (n / 9223372036854775808) = 18446744073709551615 := by rw [show n / 9223372036854775808 = -1 by omega]; rfl
    obtain ⟨x, hx⟩ : ∃ x : Nat, (x : Int) = IntKind.u64.wrap ((IntKind.u64.wrap n) * 2) := ⟨(IntKind.u64.wrap ((IntKind.u64.wrap n) * 2)).toNat, by rw [uwrap, uwrap]; omega⟩
    have hx2 : (x : Int) = 18446744073709551616 + 2 * n := by rw [hx, uwrap, uwrap]; omega
    rw [← hx, e1, xor64_ones x (by omega), if_pos c]
    omega
  · have e1 : IntKind.u64.wrap (n / 9223372036854775808) = 0 := by rw [show n / 9223372036854775808 = 0 by omega]; rfl
    obtain ⟨x, hx⟩ : ∃ x : Nat, (x : Int) = IntKind.u64.wrap ((IntKind.u64.wrap n) * 2) := ⟨(IntKind.u64.wrap ((IntKind.u64.wrap n) * 2)).toNat, by rw [uwrap, uwrap]; omega⟩
    have hx2 : (x : Int) = 2 * n := by rw [hx, uwrap, uwrap]; omega
    rw [← hx, e1, xor64_zero x (by omega), if_neg c, hx2]
/-- The number out of the bits. -/
def unzig (V : Nat) : Int := if V % 2 = 1 then -((V / 2 : Nat) : Int) - 1 else ((V / 2 : Nat) : Int)
end Go.Proofs.Ytjgoehhhjffpmaa.U


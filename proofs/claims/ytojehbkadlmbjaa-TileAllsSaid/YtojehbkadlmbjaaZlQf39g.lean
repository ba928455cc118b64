/- What Order leaves behind: draws and blocks of its own. Condition: small numbers. -/
import Derived.Test.YtojehbkadlmbjaaZlQf56a
namespace Go.Proofs.Ytojehbkadlmbjaa.Q
open Go.Sort Go.Proofs Go.RowKit Go.Proofs.YtojehbkadlmbjaaW.PrintWords Go.Proofs.YtojehbkadlmbjaaW.PrintLast Go.Proofs.YtojehbkadlmbjaaW.PrintMore
set_option linter.unusedVariables false
set_option linter.unusedSimpArgs false
theorem wrap_idT {x : Int} (h1 : -9223372036854775808 ≤ x) (h2 : x < 9223372036854775808) : wrap64 x = x := by
  unfold wrap64
  omega
set_option maxHeartbeats 2000000 in
set_option maxRecDepth 100000 in
theorem order_same (x0 x1 x2 y0 y1 r : Int) (hr : wrap64 (x1 - y1) = r) (W : World) : Calls Try.prog 39 #[.agg #[.int .i64 x0, .int .i64 x1, .int .i64 x2], .agg #[.int .i64 y0, .int .i64 y1, .int .i64 x2]] W fun e w' => e = .returned (.int .i64 r) ∧ ∃ q os', w' = grow (W.drewN q) os' := by
  have hu34 := Try.underlying34
  have c0 : (x2 == x2) = true := beq_iff_eq.mpr rfl
  have c1 : (x2 != x2) = false := bne_eq_false_iff_eq.mpr rfl
  go_enter Try.func39, Try.ntmps39
  go_wp2
  go_ret
  exact ⟨by rw [← hr]; rfl, 0, _, by rw [alloc_eq_grow, alloc_eq_grow, grow_grow]; rfl⟩
set_option maxHeartbeats 2000000 in
set_option maxRecDepth 100000 in
theorem order_other (x0 x1 x2 y0 y1 y2 r : Int) (c : ¬ x2 = y2) (hr : wrap64 (x2 - y2) = r) (W : World) : Calls Try.prog 39 #[.agg #[.int .i64 x0, .int .i64 x1, .int .i64 x2], .agg #[.int .i64 y0, .int .i64 y1, .int .i64 y2]] W fun e w' => e = .returned (.int .i64 r) ∧ ∃ q os', w' = grow (W.drewN q) os' := by
  have hu34 := Try.underlying34
  have c0 : (x2 == y2) = false := beq_eq_false_iff_ne.mpr c
  have c1 : (x2 != y2) = true := bne_iff_ne.mpr c
  clear c
  go_enter Try.func39, Try.ntmps39
  go_wp2
  go_ret
  exact ⟨by rw [← hr]; rfl, 0, _, by rw [alloc_eq_grow, alloc_eq_grow, grow_grow]; rfl⟩
theorem order_grow {z : Int} (x y : Tl z) (W : World) : Calls Try.prog 39 #[.agg #[.int .i64 x.val.f0, .int .i64 x.val.f1, .int .i64 x.val.f2], .agg #[.int .i64 y.val.f0, .int .i64 y.val.f1, .int .i64 y.val.f2]] W fun e w' => e = .returned (.int .i64 (cfT x y)) ∧ ∃ q os', w' = grow (W.drewN q) os' := by
  obtain ⟨x, hx⟩ := x
  obtain ⟨y, hy⟩ := y
  obtain ⟨-, hx1, hx2, hx3, hx4⟩ := hx
  obtain ⟨-, hy1, hy2, hy3, hy4⟩ := hy
  unfold cfT
  by_cases c : x.f2 = y.f2
  · have e : wrap64 (x.f1 - y.f1) = x.f1 - y.f1 := wrap_idT (by omega) (by omega)
    dsimp only
    rw [if_pos c, ← c]
    exact order_same _ _ _ _ _ _ e W
  · have e : wrap64 (x.f2 - y.f2) = x.f2 - y.f2 := wrap_idT (by omega) (by omega)
    dsimp only
    rw [if_neg c]
    exact order_other _ _ _ _ _ _ _ c e W
end Go.Proofs.Ytojehbkadlmbjaa.Q


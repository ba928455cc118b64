/- How an argument's reading bounds its lists: by its bulk. Conditions: stated at each. -/
import Derived.Test.YtjgoehhhjffpmaaZtOpen
namespace Go.Proofs.Ytjgoehhhjffpmaa.Open
open Go.RowKit Go.Deep Go.ChangeShapes Go.Proofs.YtjgoehhhjffpmaaW.PrintWords
set_option linter.unusedVariables false
section
variable {H : Type} {enc : TypeId × Value → H} {P : Program} {w : World}
/-! ### bulk -/
theorem bulkAll_le {α : Type} (f : α → Nat) (Q : α → DataW H → Prop) (hQ : ∀ x e, Q x e → f x ≤ Rows.uptoBulk e) : ∀ (xs : List α) (es : List (DataW H)), es.length = xs.length → (∀ (i : Nat) (x : α) (e : DataW H), xs[i]? = some x → es[i]? = some e → Q x e) → (xs.map f).sum ≤ Rows.uptoBulkAll es
  | [], [], _, _ => by simp
  | [], _ :: _, h, _ => by simp at h
  | _ :: _, [], h, _ => by simp at h
  | x :: xs, e :: es, h, hq => by
    have h1 := hQ x e (hq 0 x e rfl rfl)
    have h2 := bulkAll_le f Q hQ xs es (by simpa using h) (fun i x' e' hi he => hq (i + 1) x' e' (by simpa using hi) (by simpa using he))
    rw [List.map_cons, List.sum_cons, Rows.uptoBulkAll]
    omega

theorem rows_bulk {α : Type} (f : α → Nat) (Q : α → DataW H → Prop) (hQ : ∀ x e, Q x e → f x ≤ Rows.uptoBulk e) {xs : List α} {y : DataW H} (h : RowsQ Q xs y) : (xs.map f).sum + 1 ≤ Rows.uptoBulk y := by
  rcases h with ⟨rfl, rfl⟩ | ⟨es, sp, rfl, hl, hq⟩
  · simp [Rows.uptoBulk]
  · have := bulkAll_le f Q hQ xs es hl hq
    rw [Rows.uptoBulk]
    omega

end
section
variable {H : Type} {enc : TypeId × Value → H} {w : World}
theorem bulk_pair (a b : Int) (k k' : IntKind) : 3 ≤ Rows.uptoBulk (DataW.agg [DataW.lit (H := H) (.int k a), DataW.lit (.int k' b)]) := Nat.le_refl _

theorem good_pointB : Good enc Try.prog w Q.k44 (fun x y => (Lit.int .i64 x.f0).wf = true ∧ (Lit.int .i64 x.f1).wf = true ∧ 3 ≤ Rows.uptoBulk y) 44 := by
  intro n cs y h
  obtain ⟨y0, y1, n', rfl, hl, h0, h1⟩ := trod_struct2 Try.underlying44 h
  obtain ⟨a, e0, e1, w0⟩ := DataW.trod_int Try.underlying3 h0
  obtain ⟨b, e2, e3, w1⟩ := DataW.trod_int Try.underlying3 h1
  have c3 : Try.prog.cellsOf 3 = 1 := by kernel_rfl
  have c44 : Try.prog.cellsOf 44 = 2 := by kernel_rfl
  rw [c44] at hl
  obtain ⟨u, v, rfl⟩ := two_of hl
  have e0' : List.take (Try.prog.cellsOf 3) [u, v] = [Value.int .i64 a] := e0
  have e2' : List.take (Try.prog.cellsOf 3) [v] = [Value.int .i64 b] := e2
  rw [c3] at e0' e2'
  have eu : u = Value.int .i64 a := (List.cons.inj e0').1
  have ev : v = Value.int .i64 b := (List.cons.inj e2').1
  rw [eu, ev]
  refine ⟨⟨a, b⟩, Q.k44_mk w ⟨a, b⟩, w0, w1, ?_⟩
  rw [e1, e3]
  exact bulk_pair _ _ _ _

end
end Go.Proofs.Ytjgoehhhjffpmaa.Open

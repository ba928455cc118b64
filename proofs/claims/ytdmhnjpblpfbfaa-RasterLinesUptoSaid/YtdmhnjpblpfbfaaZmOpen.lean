/- How an argument's reading is a list of lists of structs in memory: opened from below, kind by kind. Conditions: the types are as stated at each. -/
import Derived.Test.YtdmhnjpblpfbfaaZmQ0
import Derived.Test.YtdmhnjpblpfbfaaRows
import Derived.Deep.Slices
import Derived.OpenShut
namespace Go.Proofs.Ytdmhnjpblpfbfaa.Open
open Go.RowKit Go.Deep Go.ChangeShapes Go.Proofs.YtdmhnjpblpfbfaaW.PrintWords
set_option linter.unusedVariables false

/-- Whatever reads as the type t (the whole memory, spare places too) is a value that d tells, and what it reads as stands in the relation Q to it. -/
def Good {H : Type} (enc : TypeId × Value → H) (P : Program) (w : World) {α : Type} (d : Kd α) (Q : α → DataW H → Prop) (t : TypeId) : Prop :=
  ∀ (n : Nat) (cs : List Value) (y : DataW H × List MemPlace), DataW.trod enc P w 0 (fun _ => true) true n t cs = some y → ∃ a, d.K w a cs ∧ Q a y.1

section
variable {H : Type} {enc : TypeId × Value → H} {P : Program} {w : World}

theorem good_int {k : IntKind} {t : TypeId} (ht : P.underlying t = some (.int k)) : Good enc P w (Kd.int k) (fun x y => y = .lit (.int k x) ∧ (Lit.int k x).wf = true) t := by
  intro n cs y h
  obtain ⟨x, rfl, rfl, hw⟩ := DataW.trod_int ht h
  exact ⟨x, rfl, rfl, hw⟩

/-- What is known of a list and what it reads as. -/
def RowsQ {α : Type} (Q : α → DataW H → Prop) (xs : List α) (y : DataW H) : Prop :=
  (xs = [] ∧ y = .nil) ∨ ∃ es sp, y = .slice es sp ∧ es.length = xs.length ∧ ∀ (i : Nat) (x : α) (e : DataW H), xs[i]? = some x → es[i]? = some e → Q x e

theorem exists_list {α : Type} (R : Nat → α → Prop) : ∀ n : Nat, (∀ i, i < n → ∃ a, R i a) → ∃ xs : List α, xs.length = n ∧ ∀ (i : Nat) (x : α), xs[i]? = some x → R i x := by
  intro n
  induction n with
  | zero => intro _; exact ⟨[], rfl, fun i x h => by simp at h⟩
  | succ n ih =>
    intro h
    obtain ⟨xs, hl, hx⟩ := ih (fun i hi => h i (by omega))
    obtain ⟨a, ha⟩ := h n (by omega)
    refine ⟨xs ++ [a], by simp [hl], fun i x hi => ?_⟩
    by_cases c : i < n
    · rw [List.getElem?_append_left (by omega)] at hi
      exact hx i x hi
    · have hlt := (List.getElem?_eq_some_iff.1 hi).1
      rw [List.length_append, List.length_singleton, hl] at hlt
      obtain rfl : i = n := by omega
      rw [List.getElem?_append_right (by omega), hl, Nat.sub_self] at hi
      simp at hi
      rw [← hi]
      exact ha

theorem good_slice {α : Type} {d : Kd α} {Q : α → DataW H → Prop} {t e : TypeId} (ht : P.underlying t = some (.slice e)) (hc : P.cellsOf e = d.sz) (hd : Good enc P w d Q e) : Good enc P w (Kd.slice e d) (RowsQ Q) t := by
  intro n cs y h
  rcases open_slice ht h with ⟨rfl, rfl⟩ | ⟨a, len, cap, m, n', D, Pl, rfl, hb, hl, hm, hmm, rfl, hel⟩
  · exact ⟨[], ⟨none, 0, rfl, Nat.le_refl _, rfl, by simp, fun h => by simp at h⟩, .inl ⟨rfl, rfl⟩⟩
  · have hm' : m = cap := hmm
    have step : ∀ i, i < len → ∃ x, (∃ cs', w.cells? 0 (a.add (i * P.cellsOf e)) (P.cellsOf e) = some cs' ∧ d.K w x cs') ∧ Q x (D i) := by
      intro i hi
      obtain ⟨cs', h1, h2⟩ := hel i (by omega)
      obtain ⟨x, hx, hq⟩ := hd _ _ _ h2
      exact ⟨x, ⟨cs', h1, hx⟩, hq⟩
    obtain ⟨xs, hlen, hx⟩ := exists_list _ len step
    refine ⟨xs, ⟨some a, cap, by rw [hlen], by omega, rfl, ?_, fun hpos => ⟨a, rfl, fun j p hj => ?_⟩⟩, .inr ⟨_, _, rfl, by simp [hlen], fun i x e' hi he => ?_⟩⟩
    · unfold maxLen at hm; omega
    · obtain ⟨⟨cs', h1, h2⟩, -⟩ := hx j p hj
      refine ⟨cs', d.K_len h2, h2, fun i u hu => ?_⟩
      unfold World.cells? at h1
      rw [if_pos (Nat.zero_le _)] at h1
      have hlt := (List.getElem?_eq_some_iff.1 hu).1
      have hlc := d.K_len h2
      have g := mapM_some_get h1 i i (by rw [List.getElem?_range (by omega)])
      rw [← hc, ← Deep.add_add, g]
      exact hu
    · have hlt := (List.getElem?_eq_some_iff.1 he).1
      rw [List.length_map, List.length_range] at hlt
      rw [List.getElem?_map, List.getElem?_range hlt] at he
      have : D i = e' := by simpa using he
      rw [← this]
      exact (hx i x hi).2

/-! ### bulk -/
theorem bulkAll_le {α : Type} (f : α → Nat) (Q : α → DataW H → Prop) (hQ : ∀ x e, Q x e → f x ≤ Rows.uptoBulk e) : ∀ (xs : List α) (es : List (DataW H)), es.length = xs.length → (∀ (i : Nat) (x : α) (e : DataW H), xs[i]? = some x → es[i]? = some e → Q x e) → (xs.map f).sum ≤ Rows.uptoBulkAll es
  | [], [], _, _ => by simp
  | [], _ :: _, h, _ => by simp at h
  | _ :: _, [], h, _ => by simp at h
  | x :: xs, e :: es, h, hq => by
    have h1 := hQ x e (hq 0 x e rfl rfl)
    have h2 := bulkAll_le f Q hQ xs es (by simpa using h) (fun i x' e' hi he => hq (i + 1) x' e' (by simpa using hi) (by simpa using he))
    rw [List.map_cons, List.sum_cons, Rows.uptoBulkAll]
    omega

theorem rows_bulk {α : Type} (f : α → Nat) (Q : α → DataW H → Prop) (hQ : ∀ x e, Q x e → f x ≤ Rows.uptoBulk e) {xs : List α} {y : DataW H} (h : RowsQ Q xs y) : (xs.map f).sum + 1 ≤ Rows.uptoBulk y := by
  rcases h with ⟨rfl, rfl⟩ | ⟨es, sp, rfl, hl, hq⟩
  · simp [Rows.uptoBulk]
  · have := bulkAll_le f Q hQ xs es hl hq
    rw [Rows.uptoBulk]
    omega

end

/-! ### points, rings, areas -/
section
variable {H : Type} {enc : TypeId × Value → H} {w : World}

theorem two_of {α : Type} {l : List α} (h : l.length = 2) : ∃ u v, l = [u, v] := by
  match l, h with
  | [u, v], _ => exact ⟨u, v, rfl⟩

theorem bulk_pair (a b : Int) (k k' : IntKind) : 3 ≤ Rows.uptoBulk (DataW.agg [DataW.lit (H := H) (.int k a), DataW.lit (.int k' b)]) := Nat.le_refl _

theorem good_point : Good enc Try.prog w Q.k40 (fun x y => (Lit.int .i64 x.f0).wf = true ∧ (Lit.int .i64 x.f1).wf = true ∧ 3 ≤ Rows.uptoBulk y) 40 := by
  intro n cs y h
  obtain ⟨y0, y1, n', rfl, hl, h0, h1⟩ := trod_struct2 Try.underlying40 h
  obtain ⟨a, e0, e1, w0⟩ := DataW.trod_int Try.underlying3 h0
  obtain ⟨b, e2, e3, w1⟩ := DataW.trod_int Try.underlying3 h1
  have c3 : Try.prog.cellsOf 3 = 1 := by kernel_rfl
  have c40 : Try.prog.cellsOf 40 = 2 := by kernel_rfl
  rw [c40] at hl
  obtain ⟨u, v, rfl⟩ := two_of hl
  have e0' : List.take (Try.prog.cellsOf 3) [u, v] = [Value.int .i64 a] := e0
  have e2' : List.take (Try.prog.cellsOf 3) [v] = [Value.int .i64 b] := e2
  rw [c3] at e0' e2'
  have eu : u = Value.int .i64 a := (List.cons.inj e0').1
  have ev : v = Value.int .i64 b := (List.cons.inj e2').1
  rw [eu, ev]
  refine ⟨⟨a, b⟩, Q.k40_mk w ⟨a, b⟩, w0, w1, ?_⟩
  rw [e1, e3]
  exact bulk_pair _ _ _ _

end
end Go.Proofs.Ytdmhnjpblpfbfaa.Open

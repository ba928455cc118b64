/- The pixels of a row of pixels are covered as each sample alone says: the Go function RasterCovers answers true and leaves its arguments as they were; for all areas and rows of bulk at most 1048576 (the statement's own bound). -/
import Derived.Test.YtdmhnjpblpfbfaaRows
import Derived.Test.YtdmhnjpblpfbfaaQRasterCovers
import Derived.Test.YtdmhnjpblpfbfaaURasterCovers
import Derived.Test.YtdmhnjpblpfbfaaOpen
import Derived.WalkKit
import Derived.ProofKit
import Derived.OpenShut
import Derived.ChangeOld
import Derived.Below
import Derived.JoinedCond
namespace Go.Proofs.Ytdmhnjpblpfbfaa.rasterCovers
open Go.ChangeShapes Go.WideShapes Go.ChangeAt Go.RowKit Go.Proofs.Ytdmhnjpblpfbfaa.Q Go.Proofs.Ytdmhnjpblpfbfaa.U Go.Proofs.Ytdmhnjpblpfbfaa.Open Go.Proofs.YtdmhnjpblpfbfaaW.PrintWords
set_option linter.unusedVariables false
theorem own : ownKnob Try.prog.godebug = none := by kernel_rfl

/-- What an area's reading bears: each ring of so many points, and two more for each ring, within its bulk. -/
theorem cost_sum (a : List (List S40)) : ∀ d, d ≤ a.length → cost a d = ((a.drop (a.length - d)).map fun r => r.length + 2).sum := by
  intro d
  induction d with
  | zero => intro _; rw [Nat.sub_zero, List.drop_length]; rfl
  | succ d ih =>
    intro h
    have hlt : a.length - (d + 1) < a.length := by omega
    have e : a.length - (d + 1) + 1 = a.length - d := by omega
    have g : rd_L2 a ((a.length - (d + 1) : Nat) : Int) = a[a.length - (d + 1)] := by simp [rd_L2, List.getD, hlt]
    rw [cost, ih (by omega), List.drop_eq_getElem_cons hlt, List.map_cons, List.sum_cons, e, g]
    omega

theorem sum_ones {α : Type} (l : List α) : (l.map fun _ => 1).sum = l.length := by
  induction l with
  | nil => rfl
  | cons x l ih => rw [List.map_cons, List.sum_cons, ih, List.length_cons]; omega

theorem ring_bulk {H : Type} {r : List S40} {y : DataW H} (h : RowsQ (fun x y => (Lit.int .i64 x.f0).wf = true ∧ (Lit.int .i64 x.f1).wf = true ∧ 3 ≤ Rows.uptoBulk y) r y) : r.length + 2 ≤ 2 * Rows.uptoBulk y := by
  have := rows_bulk (fun _ => 1) _ (fun x e hq => Nat.le_trans (by omega) hq.2.2) h
  rw [sum_ones] at this
  omega

def AreaQ {H : Type} : List (List S40) → DataW H → Prop := RowsQ (RowsQ (fun x y => (Lit.int .i64 x.f0).wf = true ∧ (Lit.int .i64 x.f1).wf = true ∧ 3 ≤ Rows.uptoBulk y))

theorem sum_double (l : List Nat) (f : Nat → Nat) : (l.map fun x => 2 * x).sum = 2 * l.sum := by
  induction l with
  | nil => rfl
  | cons x l ih => rw [List.map_cons, List.sum_cons, List.sum_cons, ih]; omega

theorem area_cost {H : Type} {a : List (List S40)} {y : DataW H} (h : AreaQ a y) : cost a a.length ≤ 2 * Rows.uptoBulk y := by
  rw [cost_sum a a.length (Nat.le_refl _), Nat.sub_self, List.drop_zero]
  have key : ∀ (xs : List (List S40)) (es : List (DataW H)), es.length = xs.length → (∀ (i : Nat) (x : List S40) (e : DataW H), xs[i]? = some x → es[i]? = some e → RowsQ (fun x y => (Lit.int .i64 x.f0).wf = true ∧ (Lit.int .i64 x.f1).wf = true ∧ 3 ≤ Rows.uptoBulk y) x e) → (xs.map fun r => r.length + 2).sum ≤ 2 * Rows.uptoBulkAll es := by
    intro xs
    induction xs with
    | nil => intro es _ _; simp
    | cons x xs ih =>
      intro es hl hq
      match es, hl with
      | e :: es, hl =>
        have h1 := ring_bulk (hq 0 x e rfl rfl)
        have h2 := ih es (by simpa using hl) (fun i x' e' hi he => hq (i + 1) x' e' (by simpa using hi) (by simpa using he))
        rw [List.map_cons, List.sum_cons, Rows.uptoBulkAll]
        omega
  rcases h with ⟨rfl, rfl⟩ | ⟨es, sp, rfl, hl, hq⟩
  · simp
  · have := key a es hl hq
    rw [Rows.uptoBulk]
    omega

theorem area_small {H : Type} {a : List (List S40)} {y : DataW H} (h : AreaQ a y) (hb : Rows.uptoBulk y ≤ 1048576) : a.length ≤ 9000000000000000 ∧ (∀ j, j < a.length → (rd_L2 a (j : Int)).length ≤ 9000000000000000) ∧ cost a a.length < 17592186044416 := by
  have hc := area_cost h
  have e := cost_sum a a.length (Nat.le_refl _)
  rw [Nat.sub_self, List.drop_zero] at e
  have each : ∀ (l : List (List S40)) (r : List S40), r ∈ l → r.length + 2 ≤ (l.map fun r => r.length + 2).sum := by
    intro l
    induction l with
    | nil => intro r h; cases h
    | cons x l ih =>
      intro r h
      rw [List.map_cons, List.sum_cons]
      rcases List.mem_cons.1 h with rfl | h
      · omega
      · have := ih r h; omega
  have len : ∀ l : List (List S40), l.length ≤ (l.map fun r => r.length + 2).sum := by
    intro l
    induction l with
    | nil => simp
    | cons x l ih => rw [List.map_cons, List.sum_cons, List.length_cons]; omega
  have l1 := len a
  refine ⟨by omega, fun j hj => ?_, by omega⟩
  have g : rd_L2 a (j : Int) = a[j] := by simp [rd_L2, List.getD, hj]
  have := each a a[j] (List.getElem_mem hj)
  rw [g]
  omega

set_option maxRecDepth 100000 in
theorem contract (H : Type) (enc : TypeId × Value → H) (W : World) (base : Nat) (args : Array Value) (ds gs : List (DataW H)) (before : List MemPlace)
    (hval : ∀ (j : Nat) t v, Try.f12.params[j]? = some t → args[j]? = some v → Value.okWide Try.prog W .any base t v)
    (hW : DataW.Whole enc Try.prog Try.f12.params.toList Rows.rasterCoversSpec.vars false W args.toList ds gs before) (hk : Rows.uptoSmall H (ds ++ gs) = true) :
    Calls Try.prog 12 args W fun e W' => ∃ v, e = .returned v ∧ Rows.rasterCoversSpec.post enc Try.prog Try.f12 false true false false W args v W' := by
  have laidOut : laidOutB Try.prog = true := by kernel_rfl
  have hW' := hW
  obtain ⟨p, q, hA0, hV, rfl, hfz, hnd⟩ := hW
  have hA : DataW.TrodAll enc Try.prog W 0 (fun _ => true) true Try.f12.params.toList args.toList ds p := hA0
  rw [Try.params12] at hA hval
  obtain ⟨v0, vs0, d0, ds0, p0, q0, hargs, rfl, rfl, h0, r0⟩ := trodAll_cons hA
  obtain ⟨v1, vs1, d1, ds1, p1, q1, rfl, rfl, rfl, h1, r1⟩ := trodAll_cons r0
  obtain ⟨rfl, rfl, rfl⟩ := trodAll_nil r1
  obtain rfl : args = #[v0, v1] := by cases args; simp_all
  obtain ⟨rfl, rfl⟩ := trodVars_none hV
  obtain ⟨a1, rfl, rfl, rfl, w1⟩ := open_int Try.underlying3 (hval 1 3 v1 rfl rfl) h1
  have k0 := h0
  have lt0 : ∀ x ∈ p0, x.block < W.heap.size := by obtain ⟨m, hm⟩ := k0; exact DataW.trod_lt m _ _ _ hm
  have hb : Rows.uptoBulk d0 ≤ 1048576 := by
    have := of_decide_eq_true hk
    simp only [List.append_nil, Rows.uptoBulkAll] at this
    omega
  obtain ⟨n, hn⟩ := h0
  obtain ⟨xs, ⟨A, c, hcs, hlc, hC⟩, hq⟩ := good_slice (enc := enc) (w := W) Try.underlying58 (by kernel_rfl) (good_slice Try.underlying54 (by kernel_rfl) good_point) _ _ _ hn
  obtain ⟨s1, s2, s3⟩ := area_small hq hb
  have hv0 : v0 = .slice A xs.length c := by
    have c58 := hval 0 58 v0 rfl rfl
    obtain ⟨A', l', c', rfl⟩ := okWide_slice Try.underlying58 c58
    simpa [Value.cells] using hcs
  subst hv0
  clear hA0
  obtain ⟨k, hf⟩ := Pure.RasterCovers xs s1 s2 s3 a1
  refine (terrlaw5_RasterCovers.calls k A c xs a1 true W hC hlc hf rfl).mono fun e W' ⟨he, bel⟩ => ?_
  subst he
  exact ⟨_, rfl, _, _, _, [], _, [], hW', trodAll_mk1 (shut_bool Try.underlying4 _), (trodAll_cons_mk (Below.trod laidOut (by kernel_rfl) (of_decide_eq_true (by kernel_rfl)) k0 bel lt0) (trodAll_cons_mk (shut_int Try.underlying3 w1) trodAll_mk0)), rfl, bel.frame _, fun h => by cases h⟩

set_option maxRecDepth 100000 in
theorem lifted (os : Os) (started : os.Started) (H : Type) (enc : TypeId × Value → H) (F : Stop.Interp) :
    ReturnsInHanded {} Try.checked os 12 .any ((Rows.OpenSpec.upto Rows.rasterCoversSpec).pre6 enc Try.prog Try.f12 Rows.rasterCoversUptoRow.domain false) (((Rows.OpenSpec.upto Rows.rasterCoversSpec).at F).post enc Try.prog Try.f12 false true false false) := by
  refine returnsInHanded_of_cond (C := Try.checked) (s := Rows.OpenSpec.upto Rows.rasterCoversSpec) (k := Rows.uptoSmall) rfl own started (by kernel_rfl) Try.func12
    (OpenSpec.witness (enc := enc) (C := Try.checked) (s := Rows.OpenSpec.upto Rows.rasterCoversSpec) (k := Rows.uptoSmall) rfl false ⟨#[], #[.slice none 0 0, .int .i64 0], []⟩ 8 (by kernel_rfl) (by kernel_rfl) (by kernel_rfl)
      (x := ([.nil, .lit (.int .i64 0)], [], [])) (by kernel_rfl) rfl (by kernel_rfl)) ?_
  intro W base args ds gs before hval hW _ hk _
  exact contract H enc W base args ds gs before hval hW hk

theorem over : Rows.rasterCoversUptoRow.holds Try.pinned (Rows.OpenSpec.upto Rows.rasterCoversSpec) :=
  OpenClaim.holds_of_cond 12 Try.f12 rfl rfl rfl rfl rfl rfl rfl ⟨rfl, rfl, rfl, rfl, rfl⟩ rfl rfl rfl rfl rfl (by kernel_rfl) Try.func12 (by kernel_rfl)
    (of_decide_eq_true (by kernel_rfl)) (by unfold Func.isWrapper; first | (rw [if_pos (by decide +kernel)]; kernel_rfl) | (rw [if_neg (by decide +kernel)]; exact ⟨rfl, rfl⟩))
    (fun os started H enc _ F => lifted os started H enc F)

theorem proved : Rows.RasterCoversUptoSaid := over
#print axioms proved
end Go.Proofs.Ytdmhnjpblpfbfaa.rasterCovers
namespace Go.Proofs.Ytdmhnjpblpfbfaa
theorem rasterCovers_holds : Rows.RasterCoversUptoSaid := rasterCovers.proved
end Go.Proofs.Ytdmhnjpblpfbfaa

/- Lines and dots meet a pixel as the second implementation says: the Go function RasterLines answers true and leaves its arguments as they were; for all arguments of bulk at most 1048576 (the statement's own bound). -/
import Derived.Test.YtdmhnjpblpfbfaaRows
import Derived.Test.YtdmhnjpblpfbfaaZmQRasterLines
import Derived.Test.YtdmhnjpblpfbfaaZmURasterLines
import Derived.Test.YtdmhnjpblpfbfaaZmOpen
import Derived.WalkKit
import Derived.ProofKit
import Derived.OpenShut
import Derived.ChangeOld
import Derived.Below
import Derived.JoinedCond
namespace Go.Proofs.Ytdmhnjpblpfbfaa.rasterLines
open Go.ChangeShapes Go.WideShapes Go.ChangeAt Go.RowKit Go.Proofs.Ytdmhnjpblpfbfaa.Q Go.Proofs.Ytdmhnjpblpfbfaa.U Go.Proofs.Ytdmhnjpblpfbfaa.Open Go.Proofs.YtdmhnjpblpfbfaaW.PrintWords
set_option linter.unusedVariables false
theorem own : ownKnob Try.prog.godebug = none := by kernel_rfl

theorem tots_sum (a : List (List S40)) : ∀ d, d ≤ a.length → UL.tots a d = ((a.take d).map List.length).sum := by
  intro d
  induction d with
  | zero => intro _; rw [List.take_zero]; rfl
  | succ d ih =>
    intro h
    have hlt : d < a.length := by omega
    have g : rd_L2 a ((d : Nat) : Int) = a[d] := by simp [rd_L2, List.getD, hlt]
    rw [UL.tots, ih (by omega), g, List.take_succ_eq_append_getElem h, List.map_append, List.sum_append]
    simp
theorem sum_ones {α : Type} (l : List α) : (l.map fun _ => 1).sum = l.length := by
  induction l with
  | nil => rfl
  | cons x l ih => rw [List.map_cons, List.sum_cons, ih, List.length_cons]; omega

theorem ring_bulk {H : Type} {r : List S40} {y : DataW H} (h : RowsQ (fun x y => (Lit.int .i64 x.f0).wf = true ∧ (Lit.int .i64 x.f1).wf = true ∧ 3 ≤ Rows.uptoBulk y) r y) : r.length + 2 ≤ 2 * Rows.uptoBulk y := by
  have := rows_bulk (fun _ => 1) _ (fun x e hq => Nat.le_trans (by omega) hq.2.2) h
  rw [sum_ones] at this
  omega

def AreaQ {H : Type} : List (List S40) → DataW H → Prop := RowsQ (RowsQ (fun x y => (Lit.int .i64 x.f0).wf = true ∧ (Lit.int .i64 x.f1).wf = true ∧ 3 ≤ Rows.uptoBulk y))

theorem sum_double (l : List Nat) (f : Nat → Nat) : (l.map fun x => 2 * x).sum = 2 * l.sum := by
  induction l with
  | nil => rfl
  | cons x l ih => rw [List.map_cons, List.sum_cons, List.sum_cons, ih]; omega

theorem area_sum {H : Type} {a : List (List S40)} {y : DataW H} (h : AreaQ a y) : (a.map fun r => r.length + 2).sum ≤ 2 * Rows.uptoBulk y := by
  have key : ∀ (xs : List (List S40)) (es : List (DataW H)), es.length = xs.length → (∀ (i : Nat) (x : List S40) (e : DataW H), xs[i]? = some x → es[i]? = some e → RowsQ (fun x y => (Lit.int .i64 x.f0).wf = true ∧ (Lit.int .i64 x.f1).wf = true ∧ 3 ≤ Rows.uptoBulk y) x e) → (xs.map fun r => r.length + 2).sum ≤ 2 * Rows.uptoBulkAll es := by
    intro xs
    induction xs with
    | nil => intro es _ _; simp
    | cons x xs ih =>
      intro es hl hq
      match es, hl with
      | e :: es, hl =>
        have h1 := ring_bulk (hq 0 x e rfl rfl)
        have h2 := ih es (by simpa using hl) (fun i x' e' hi he => hq (i + 1) x' e' (by simpa using hi) (by simpa using he))
        rw [List.map_cons, List.sum_cons, Rows.uptoBulkAll]
        omega
  rcases h with ⟨rfl, rfl⟩ | ⟨es, sp, rfl, hl, hq⟩
  · simp
  · have := key a es hl hq
    rw [Rows.uptoBulk]
    omega
theorem area_small {H : Type} {a : List (List S40)} {y : DataW H} (h : AreaQ a y) (hb : Rows.uptoBulk y ≤ 1048576) : UL.tots a a.length ≤ 1099511627776 ∧ a.length ≤ 1099511627776 := by
  have hc := area_sum h
  have len : ∀ l : List (List S40), l.length ≤ (l.map fun r => r.length + 2).sum ∧ (l.map List.length).sum ≤ (l.map fun r => r.length + 2).sum := by
    intro l
    induction l with
    | nil => simp
    | cons x l ih => rw [List.map_cons, List.sum_cons, List.length_cons, List.map_cons, List.sum_cons]; omega
  have l1 := len a
  rw [tots_sum a a.length (Nat.le_refl _), List.take_length]
  omega
set_option maxRecDepth 100000 in
theorem contract (H : Type) (enc : TypeId × Value → H) (W : World) (base : Nat) (args : Array Value) (ds gs : List (DataW H)) (before : List MemPlace)
    (hval : ∀ (j : Nat) t v, Try.f14.params[j]? = some t → args[j]? = some v → Value.okWide Try.prog W .any base t v)
    (hW : DataW.Whole enc Try.prog Try.f14.params.toList Rows.rasterLinesSpec.vars false W args.toList ds gs before) (hk : Rows.uptoSmall H (ds ++ gs) = true) :
    Calls Try.prog 14 args W fun e W' => ∃ v, e = .returned v ∧ Rows.rasterLinesSpec.post enc Try.prog Try.f14 false true false false W args v W' := by
  have laidOut : laidOutB Try.prog = true := by kernel_rfl
  have hW' := hW
  obtain ⟨p, q, hA0, hV, rfl, hfz, hnd⟩ := hW
  have hA : DataW.TrodAll enc Try.prog W 0 (fun _ => true) true Try.f14.params.toList args.toList ds p := hA0
  rw [Try.params14] at hA hval
  obtain ⟨v0, vs0, d0, ds0, p0, q0, hargs, rfl, rfl, h0, r0⟩ := trodAll_cons hA
  obtain ⟨v1, vs1, d1, ds1, p1, q1, rfl, rfl, rfl, h1, r1⟩ := trodAll_cons r0
  obtain ⟨v2, vs2, d2, ds2, p2, q2, rfl, rfl, rfl, h2, r2⟩ := trodAll_cons r1
  obtain ⟨v3, vs3, d3, ds3, p3, q3, rfl, rfl, rfl, h3, r3⟩ := trodAll_cons r2
  obtain ⟨rfl, rfl, rfl⟩ := trodAll_nil r3
  obtain rfl : args = #[v0, v1, v2, v3] := by cases args; simp_all
  obtain ⟨rfl, rfl⟩ := trodVars_none hV
  obtain ⟨a2, rfl, rfl, rfl, w2⟩ := open_int Try.underlying3 (hval 2 3 v2 rfl rfl) h2
  obtain ⟨a3, rfl, rfl, rfl, w3⟩ := open_int Try.underlying3 (hval 3 3 v3 rfl rfl) h3
  have k0 := h0
  have k1 := h1
  have lt0 : ∀ x ∈ p0, x.block < W.heap.size := by obtain ⟨m, hm⟩ := k0; exact DataW.trod_lt m _ _ _ hm
  have lt1 : ∀ x ∈ p1, x.block < W.heap.size := by obtain ⟨m, hm⟩ := k1; exact DataW.trod_lt m _ _ _ hm
  have hb : Rows.uptoBulk d0 ≤ 1048576 ∧ Rows.uptoBulk d1 ≤ 1048576 := by
    have := of_decide_eq_true hk
    simp only [List.append_nil, Rows.uptoBulkAll] at this
    omega
  obtain ⟨n, hn⟩ := h0
  obtain ⟨xs, ⟨A, c, hcs, hlc, hC⟩, hq⟩ := good_slice (enc := enc) (w := W) Try.underlying31 (by kernel_rfl) (good_slice Try.underlying54 (by kernel_rfl) good_point) _ _ _ hn
  obtain ⟨m, hm⟩ := h1
  obtain ⟨ys, ⟨A', c', hcs', hlc', hC'⟩, hq'⟩ := good_slice (enc := enc) (w := W) Try.underlying54 (by kernel_rfl) good_point _ _ _ hm
  obtain ⟨s1, s2⟩ := area_small hq hb.1
  have s3 : ys.length + 2 ≤ 2 * Rows.uptoBulk d1 := ring_bulk hq'
  have hv0 : v0 = .slice A xs.length c := by
    have c31 := hval 0 31 v0 rfl rfl
    obtain ⟨A', l', c', rfl⟩ := okWide_slice Try.underlying31 c31
    simpa [Value.cells] using hcs
  have hv1 : v1 = .slice A' ys.length c' := by
    have c54 := hval 1 54 v1 rfl rfl
    obtain ⟨A', l', c', rfl⟩ := okWide_slice Try.underlying54 c54
    simpa [Value.cells] using hcs'
  subst hv0
  subst hv1
  clear hA0
  obtain ⟨k, hf⟩ := UL.RasterLines xs ys a2 a3 s1 s2 (by omega)
  refine (terrlaw5_RasterLines.calls k A c xs A' c' ys a2 a3 true W hC hlc hC' hlc' (hf k (Nat.le_refl k)) rfl).mono fun e W' ⟨he, bel⟩ => ?_
  subst he
  exact ⟨_, rfl, _, _, _, [], _, [], hW', trodAll_mk1 (shut_bool Try.underlying4 _), (trodAll_cons_mk (Below.trod laidOut (by kernel_rfl) (of_decide_eq_true (by kernel_rfl)) k0 bel lt0) (trodAll_cons_mk (Below.trod laidOut (by kernel_rfl) (of_decide_eq_true (by kernel_rfl)) k1 bel lt1) (trodAll_cons_mk (shut_int Try.underlying3 w2) (trodAll_cons_mk (shut_int Try.underlying3 w3) trodAll_mk0)))), rfl, bel.frame _, fun h => by cases h⟩

set_option maxRecDepth 100000 in
theorem lifted (os : Os) (started : os.Started) (H : Type) (enc : TypeId × Value → H) (F : Stop.Interp) :
    ReturnsInHanded {} Try.checked os 14 .any ((Rows.OpenSpec.upto Rows.rasterLinesSpec).pre6 enc Try.prog Try.f14 Rows.rasterLinesUptoRow.domain false) (((Rows.OpenSpec.upto Rows.rasterLinesSpec).at F).post enc Try.prog Try.f14 false true false false) := by
  refine returnsInHanded_of_cond (C := Try.checked) (s := Rows.OpenSpec.upto Rows.rasterLinesSpec) (k := Rows.uptoSmall) rfl own started (by kernel_rfl) Try.func14
    (OpenSpec.witness (enc := enc) (C := Try.checked) (s := Rows.OpenSpec.upto Rows.rasterLinesSpec) (k := Rows.uptoSmall) rfl false ⟨#[], #[.slice none 0 0, .slice none 0 0, .int .i64 0, .int .i64 0], []⟩ 8 (by kernel_rfl) (by kernel_rfl) (by kernel_rfl)
      (x := ([.nil, .nil, .lit (.int .i64 0), .lit (.int .i64 0)], [], [])) (by kernel_rfl) rfl (by kernel_rfl)) ?_
  intro W base args ds gs before hval hW _ hk _
  exact contract H enc W base args ds gs before hval hW hk

theorem over : Rows.rasterLinesUptoRow.holds Try.pinned (Rows.OpenSpec.upto Rows.rasterLinesSpec) :=
  OpenClaim.holds_of_cond 14 Try.f14 rfl rfl rfl rfl rfl rfl rfl ⟨rfl, rfl, rfl, rfl, rfl⟩ rfl rfl rfl rfl rfl (by kernel_rfl) Try.func14 (by kernel_rfl)
    (of_decide_eq_true (by kernel_rfl)) (by unfold Func.isWrapper; first | (rw [if_pos (by decide +kernel)]; kernel_rfl) | (rw [if_neg (by decide +kernel)]; exact ⟨rfl, rfl⟩))
    (fun os started H enc _ F => lifted os started H enc F)

theorem proved : Rows.RasterLinesUptoSaid := over
#print axioms proved
end Go.Proofs.Ytdmhnjpblpfbfaa.rasterLines
namespace Go.Proofs.Ytdmhnjpblpfbfaa
theorem rasterLines_holds : Rows.RasterLinesUptoSaid := rasterLines.proved
end Go.Proofs.Ytdmhnjpblpfbfaa

/- What is written is read, and what follows it is left: the Go function DeltaBack answers true and leaves its arguments as they were; for all arguments of bulk at most 1048576 (the statement's own bound). -/
import Derived.Test.YtjgoehhhjffpmaaRows
import Derived.Test.YtjgoehhhjffpmaaQDeltaBack
import Derived.Test.YtjgoehhhjffpmaaUDeltaBack
import Derived.Test.YtjgoehhhjffpmaaOpenB
import Derived.WalkKit
import Derived.ProofKit
import Derived.OpenShut
import Derived.ChangeOld
import Derived.Below
import Derived.JoinedCond
namespace Go.Proofs.Ytjgoehhhjffpmaa.deltaBack
open Go.ChangeShapes Go.WideShapes Go.ChangeAt Go.RowKit Go.Proofs.Ytjgoehhhjffpmaa.Q Go.Proofs.Ytjgoehhhjffpmaa.U Go.Proofs.Ytjgoehhhjffpmaa.Open Go.Proofs.YtjgoehhhjffpmaaW.PrintWords
set_option linter.unusedVariables false
theorem own : ownKnob Try.prog.godebug = none := by kernel_rfl
theorem sum_ones {α : Type} (l : List α) : (l.map fun _ => 1).sum = l.length := by
  induction l with
  | nil => rfl
  | cons x l ih => rw [List.map_cons, List.sum_cons, ih, List.length_cons]; omega
theorem sum_tot (ls : List (List S44)) : (ls.map fun r => r.length + 1).sum = tot ls + ls.length := by
  induction ls with
  | nil => rfl
  | cons l ls ih => rw [List.map_cons, List.sum_cons, ih, tot, List.length_cons]; omega
def PtQ {H : Type} (x : S44) (y : DataW H) : Prop := (Lit.int .i64 x.f0).wf = true ∧ (Lit.int .i64 x.f1).wf = true ∧ 3 ≤ Rows.uptoBulk y
theorem ring_bulk {H : Type} {r : List S44} {y : DataW H} (h : RowsQ PtQ r y) : r.length + 1 ≤ Rows.uptoBulk y := by
  have := rows_bulk (fun _ => 1) _ (fun x e hq => Nat.le_trans (by omega) hq.2.2) h
  rw [sum_ones] at this
  exact this
theorem parts_bulk {H : Type} {a : List (List S44)} {y : DataW H} (h : RowsQ (RowsQ PtQ) a y) : tot a + a.length + 1 ≤ Rows.uptoBulk y := by
  have := rows_bulk (fun r => r.length + 1) _ (fun x e hq => ring_bulk hq) h
  rw [sum_tot] at this
  exact this
theorem bytes_bulk {H : Type} {a : List Int} {y : DataW H} (h : RowsQ (fun x y => y = .lit (.int .u8 x) ∧ (Lit.int .u8 x).wf = true) a y) : a.length + 1 ≤ Rows.uptoBulk y := by
  have := rows_bulk (fun _ => 1) _ (fun x e hq => by rw [hq.1]; exact Nat.le_refl _) h
  rw [sum_ones] at this
  exact this
theorem wf_in {x : Int} (h : (Lit.int .i64 x).wf = true) : In x := by
  unfold Lit.wf at h
  rw [Bool.and_eq_true, decide_eq_true_iff, decide_eq_true_iff] at h
  exact h
theorem wf_byte {x : Int} (h : (Lit.int .u8 x).wf = true) : 0 ≤ x ∧ x ≤ 255 := by
  unfold Lit.wf at h
  rw [Bool.and_eq_true, decide_eq_true_iff, decide_eq_true_iff] at h
  exact h
theorem rows_all {H α : Type} {Q : α → DataW H → Prop} {xs : List α} {y : DataW H} (h : RowsQ Q xs y) : ∀ x ∈ xs, ∃ e, Q x e := by
  rcases h with ⟨rfl, _⟩ | ⟨es, sp, _, hl, hq⟩
  · intro x hx; cases hx
  · intro x hx
    obtain ⟨i, hi, rfl⟩ := List.mem_iff_getElem.1 hx
    exact ⟨es[i]'(by omega), hq i _ _ (List.getElem?_eq_getElem hi) (List.getElem?_eq_getElem (by omega))⟩

set_option maxRecDepth 100000 in
theorem contract (H : Type) (enc : TypeId × Value → H) (W : World) (base : Nat) (args : Array Value) (ds gs : List (DataW H)) (before : List MemPlace)
    (hval : ∀ (j : Nat) t v, Try.f6.params[j]? = some t → args[j]? = some v → Value.okWide Try.prog W .any base t v)
    (hW : DataW.Whole enc Try.prog Try.f6.params.toList Rows.deltaBackSpec.vars false W args.toList ds gs before) (hk : Rows.uptoSmall H (ds ++ gs) = true) :
    Calls Try.prog 6 args W fun e W' => ∃ v, e = .returned v ∧ Rows.deltaBackSpec.post enc Try.prog Try.f6 false true false false W args v W' := by
  have laidOut : laidOutB Try.prog = true := by kernel_rfl
  have hW' := hW
  obtain ⟨p, q, hA0, hV, rfl, hfz, hnd⟩ := hW
  have hA : DataW.TrodAll enc Try.prog W 0 (fun _ => true) true Try.f6.params.toList args.toList ds p := hA0
  rw [Try.params6] at hA hval
  obtain ⟨v0, vs0, d0, ds0, p0, q0, hargs, rfl, rfl, h0, r0⟩ := trodAll_cons hA
  obtain ⟨v1, vs1, d1, ds1, p1, q1, rfl, rfl, rfl, h1, r1⟩ := trodAll_cons r0
  obtain ⟨v2, vs2, d2, ds2, p2, q2, rfl, rfl, rfl, h2, r2⟩ := trodAll_cons r1
  obtain ⟨rfl, rfl, rfl⟩ := trodAll_nil r2
  obtain rfl : args = #[v0, v1, v2] := by cases args; simp_all
  obtain ⟨rfl, rfl⟩ := trodVars_none hV
  obtain ⟨a0, rfl, rfl, rfl, w0⟩ := open_int Try.underlying3 (hval 0 3 v0 rfl rfl) h0
  have k1 := h1
  have lt1 : ∀ x ∈ p1, x.block < W.heap.size := by obtain ⟨m, hm⟩ := k1; exact DataW.trod_lt m _ _ _ hm
  have k2 := h2
  have lt2 : ∀ x ∈ p2, x.block < W.heap.size := by obtain ⟨m, hm⟩ := k2; exact DataW.trod_lt m _ _ _ hm
  have hb : Rows.uptoBulk d1 ≤ 1048576 ∧ Rows.uptoBulk d2 ≤ 1048576 := by
    have := of_decide_eq_true hk
    simp only [List.append_nil, Rows.uptoBulkAll] at this
    omega
  obtain ⟨n1, hn1⟩ := h1
  obtain ⟨ps, ⟨A1, c1, hcs1, hlc1, hC1⟩, hq1⟩ := good_slice (enc := enc) (w := W) Try.underlying23 (by kernel_rfl) (good_slice Try.underlying35 (by kernel_rfl) good_pointB) _ _ _ hn1
  have hv1 : v1 = .slice A1 ps.length c1 := by
    obtain ⟨A', l', c', rfl⟩ := okWide_slice Try.underlying23 (hval 1 23 v1 rfl rfl)
    simpa [Value.cells] using hcs1
  subst hv1
  obtain ⟨n2, hn2⟩ := h2
  obtain ⟨bs, ⟨A2, c2, hcs2, hlc2, hC2⟩, hq2⟩ := good_slice (enc := enc) (w := W) Try.underlying22 (by kernel_rfl) (good_int Try.underlying5) _ _ _ hn2
  have hv2 : v2 = .slice A2 bs.length c2 := by
    obtain ⟨A', l', c', rfl⟩ := okWide_slice Try.underlying22 (hval 2 22 v2 rfl rfl)
    simpa [Value.cells] using hcs2
  subst hv2
  clear hA0
  have z1 : tot ps + ps.length + 1 ≤ Rows.uptoBulk d1 := parts_bulk (a := ps) hq1
  have z2 : bs.length + 1 ≤ Rows.uptoBulk d2 := bytes_bulk hq2
  have hin : InL ps := by
    intro l hl x hx
    obtain ⟨e, he⟩ := rows_all hq1 l hl
    obtain ⟨e2, he2⟩ := rows_all he x hx
    exact ⟨wf_in he2.1, wf_in he2.2.1⟩
  have hby : Bytes bs := by
    intro x hx
    obtain ⟨e, he⟩ := rows_all hq2 x hx
    exact wf_byte he.2
  obtain ⟨k, hf⟩ := back 140737488355328 rfl a0 (wf_in w0) ps (by omega) (by omega) hin bs hby (by omega)
  refine (terrkeep5_DeltaBack.calls k a0 A1 c1 ps A2 c2 bs true W hC1 hlc1 hC2 hlc2 hf rfl).mono fun e W' ⟨he, bel⟩ => ?_
  subst he
  exact ⟨_, rfl, _, _, _, [], _, [], hW', trodAll_mk1 (shut_bool Try.underlying4 _), (trodAll_cons_mk (shut_int Try.underlying3 w0) (trodAll_cons_mk (Below.trod laidOut (by kernel_rfl) (of_decide_eq_true (by kernel_rfl)) k1 bel lt1) (trodAll_cons_mk (Below.trod laidOut (by kernel_rfl) (of_decide_eq_true (by kernel_rfl)) k2 bel lt2) trodAll_mk0))), rfl, bel.frame _, fun h => by cases h⟩

set_option maxRecDepth 100000 in
theorem lifted (os : Os) (started : os.Started) (H : Type) (enc : TypeId × Value → H) (F : Stop.Interp) :
    ReturnsInHanded {} Try.checked os 6 .any ((Rows.OpenSpec.upto Rows.deltaBackSpec).pre6 enc Try.prog Try.f6 Rows.deltaBackUptoRow.domain false) (((Rows.OpenSpec.upto Rows.deltaBackSpec).at F).post enc Try.prog Try.f6 false true false false) := by
  refine returnsInHanded_of_cond (C := Try.checked) (s := Rows.OpenSpec.upto Rows.deltaBackSpec) (k := Rows.uptoSmall) rfl own started (by kernel_rfl) Try.func6
    (OpenSpec.witness (enc := enc) (C := Try.checked) (s := Rows.OpenSpec.upto Rows.deltaBackSpec) (k := Rows.uptoSmall) rfl false ⟨#[], #[.int .i64 0, .slice none 0 0, .slice none 0 0], []⟩ 8 (by kernel_rfl) (by kernel_rfl) (by kernel_rfl)
      (x := ([.lit (.int .i64 0), .nil, .nil], [], [])) (by kernel_rfl) rfl (by kernel_rfl)) ?_
  intro W base args ds gs before hval hW _ hk _
  exact contract H enc W base args ds gs before hval hW hk

theorem over : Rows.deltaBackUptoRow.holds Try.pinned (Rows.OpenSpec.upto Rows.deltaBackSpec) :=
  OpenClaim.holds_of_cond 6 Try.f6 rfl rfl rfl rfl rfl rfl rfl ⟨rfl, rfl, rfl, rfl, rfl⟩ rfl rfl rfl rfl rfl (by kernel_rfl) Try.func6 (by kernel_rfl)
    (of_decide_eq_true (by kernel_rfl)) (by unfold Func.isWrapper; first | (rw [if_pos (by decide +kernel)]; kernel_rfl) | (rw [if_neg (by decide +kernel)]; exact ⟨rfl, rfl⟩))
    (fun os started H enc _ F => lifted os started H enc F)

theorem proved : Rows.DeltaBackUptoSaid := over
#print axioms proved
end Go.Proofs.Ytjgoehhhjffpmaa.deltaBack
namespace Go.Proofs.Ytjgoehhhjffpmaa
theorem deltaBack_holds : Rows.DeltaBackUptoSaid := deltaBack.proved
end Go.Proofs.Ytjgoehhhjffpmaa

/- Commands are checked, compared, summed and written as by the second implementation: the Go function PackTells answers true and leaves its arguments as they were; for all arguments of bulk at most 1048576 (the statement's own bound). -/
import Derived.Test.YtjgoehhhjffpmaaRows
import Derived.Test.YtjgoehhhjffpmaaZtQPackTells
import Derived.Test.YtjgoehhhjffpmaaZtUPackTells
import Derived.Test.YtjgoehhhjffpmaaZtOpenB
import Derived.WalkKit
import Derived.ProofKit
import Derived.OpenShut
import Derived.ChangeOld
import Derived.Below
import Derived.JoinedCond
namespace Go.Proofs.Ytjgoehhhjffpmaa.packTells
open Go.ChangeShapes Go.WideShapes Go.ChangeAt Go.RowKit Go.Proofs.Ytjgoehhhjffpmaa.Q Go.Proofs.Ytjgoehhhjffpmaa.U Go.Proofs.Ytjgoehhhjffpmaa.Open Go.Proofs.YtjgoehhhjffpmaaW.PrintWords
set_option linter.unusedVariables false
theorem own : ownKnob Try.prog.godebug = none := by kernel_rfl
theorem sum_ones {α : Type} (l : List α) : (l.map fun _ => 1).sum = l.length := by
  induction l with
  | nil => rfl
  | cons x l ih => rw [List.map_cons, List.sum_cons, ih, List.length_cons]; omega
theorem sum_tot (ls : List (List S44)) : (ls.map fun r => r.length + 1).sum = tot ls + ls.length := by
  induction ls with
  | nil => rfl
  | cons l ls ih => rw [List.map_cons, List.sum_cons, ih, tot, List.length_cons]; omega
def PtQ {H : Type} (x : S44) (y : DataW H) : Prop := (Lit.int .i64 x.f0).wf = true ∧ (Lit.int .i64 x.f1).wf = true ∧ 3 ≤ Rows.uptoBulk y
theorem ring_bulk {H : Type} {r : List S44} {y : DataW H} (h : RowsQ PtQ r y) : r.length + 1 ≤ Rows.uptoBulk y := by
  have := rows_bulk (fun _ => 1) _ (fun x e hq => Nat.le_trans (by omega) hq.2.2) h
  rw [sum_ones] at this
  exact this
theorem parts_bulk {H : Type} {a : List (List S44)} {y : DataW H} (h : RowsQ (RowsQ PtQ) a y) : tot a + a.length + 1 ≤ Rows.uptoBulk y := by
  have := rows_bulk (fun r => r.length + 1) _ (fun x e hq => ring_bulk hq) h
  rw [sum_tot] at this
  exact this
theorem bytes_bulk {H : Type} {a : List Int} {y : DataW H} (h : RowsQ (fun x y => y = .lit (.int .u8 x) ∧ (Lit.int .u8 x).wf = true) a y) : a.length + 1 ≤ Rows.uptoBulk y := by
  have := rows_bulk (fun _ => 1) _ (fun x e hq => by rw [hq.1]; exact Nat.le_refl _) h
  rw [sum_ones] at this
  exact this
theorem wf_byte {x : Int} (h : (Lit.int .u8 x).wf = true) : 0 ≤ x ∧ x ≤ 255 := by
  unfold Lit.wf at h
  rw [Bool.and_eq_true, decide_eq_true_iff, decide_eq_true_iff] at h
  exact h
theorem rows_all {H α : Type} {Q : α → DataW H → Prop} {xs : List α} {y : DataW H} (h : RowsQ Q xs y) : ∀ x ∈ xs, ∃ e, Q x e := by
  rcases h with ⟨rfl, _⟩ | ⟨es, sp, _, hl, hq⟩
  · intro x hx; cases hx
  · intro x hx
    obtain ⟨i, hi, rfl⟩ := List.mem_iff_getElem.1 hx
    exact ⟨es[i]'(by omega), hq i _ _ (List.getElem?_eq_getElem hi) (List.getElem?_eq_getElem (by omega))⟩
theorem tot_mem : ∀ (ls : List (List S44)) (p : List S44), p ∈ ls → p.length ≤ tot ls
  | [], _, h => by cases h
  | q :: ls, p, h => by
    rw [tot]
    rcases List.mem_cons.1 h with rfl | h
    · omega
    · have := tot_mem ls p h; omega
theorem six_of {α : Type} {l : List α} (h : l.length = 6) : ∃ a b c d e f, l = [a, b, c, d, e, f] := by
  match l, h with
  | [a, b, c, d, e, f], _ => exact ⟨a, b, c, d, e, f, rfl⟩
theorem bulk_six {H : Type} (a b c d e f : DataW H) : Rows.uptoBulk e ≤ Rows.uptoBulk (DataW.agg [a, b, c, d, e, f]) := by
  simp only [Rows.uptoBulk, Rows.uptoBulkAll]
  omega
theorem one_of {α : Type} {l : List α} {v u : α} (h : l.take 1 = [v]) (hu : l.head? = some u) : u = v := by
  cases l with
  | nil => cases hu
  | cons x l => simp at h hu; rw [← hu, h]
/-- A command in memory: opened field by field; its parts are no more than its bulk. -/
theorem good_draw {H : Type} {enc : TypeId × Value → H} {w : World} : Open.Good enc Try.prog w Q.k48 (fun x y => tot x.f4 + x.f4.length + 1 ≤ Rows.uptoBulk y) 48 := by
  intro n cs y h
  obtain ⟨xs, n', _, rfl, hl, hlen, hf⟩ := DataW.trod_struct Try.underlying48 h
  have c48 : Try.prog.cellsOf 48 = 6 := by kernel_rfl
  have c3 : Try.prog.cellsOf 3 = 1 := by kernel_rfl
  have c9 : Try.prog.cellsOf 9 = 1 := by kernel_rfl
  have c23 : Try.prog.cellsOf 23 = 1 := by kernel_rfl
  rw [c48] at hl
  obtain ⟨v0, v1, v2, v3, v4, v5, rfl⟩ := six_of hl
  obtain ⟨x0, x1, x2, x3, x4, x5, rfl⟩ := six_of (l := xs) (by rw [hlen]; rfl)
  have h0 : DataW.trod enc Try.prog w 0 (fun _ => true) true n' 3 (List.take (Try.prog.cellsOf 3) [v0, v1, v2, v3, v4, v5]) = some x0 := hf 0 _ rfl
  have h1 : DataW.trod enc Try.prog w 0 (fun _ => true) true n' 3 (List.take (Try.prog.cellsOf 3) [v1, v2, v3, v4, v5]) = some x1 := hf 1 _ rfl
  have h2 : DataW.trod enc Try.prog w 0 (fun _ => true) true n' 3 (List.take (Try.prog.cellsOf 3) [v2, v3, v4, v5]) = some x2 := hf 2 _ rfl
  have h3 : DataW.trod enc Try.prog w 0 (fun _ => true) true n' 3 (List.take (Try.prog.cellsOf 3) [v3, v4, v5]) = some x3 := hf 3 _ rfl
  have h4 : DataW.trod enc Try.prog w 0 (fun _ => true) true n' 23 (List.take (Try.prog.cellsOf 23) [v4, v5]) = some x4 := hf 4 _ rfl
  have h5 : DataW.trod enc Try.prog w 0 (fun _ => true) true n' 9 (List.take (Try.prog.cellsOf 9) [v5]) = some x5 := hf 5 _ rfl
  rw [c3] at h0 h1 h2 h3
  rw [c23] at h4
  rw [c9] at h5
  obtain ⟨a0, e0, _, _⟩ := DataW.trod_int Try.underlying3 h0
  obtain ⟨a1, e1, _, _⟩ := DataW.trod_int Try.underlying3 h1
  obtain ⟨a2, e2, _, _⟩ := DataW.trod_int Try.underlying3 h2
  obtain ⟨a3, e3, _, _⟩ := DataW.trod_int Try.underlying3 h3
  obtain ⟨ps, ⟨A4, c4, hcs4, hlc4, hC4⟩, hq4⟩ := good_slice (enc := enc) (w := w) Try.underlying23 (by kernel_rfl) (good_slice Try.underlying35 (by kernel_rfl) good_pointB) _ _ _ h4
  obtain ⟨s, e5, _, _⟩ := DataW.trod_string Try.underlying9 h5
  obtain rfl : v0 = _ := (List.cons.inj e0).1
  obtain rfl : v1 = _ := (List.cons.inj e1).1
  obtain rfl : v2 = _ := (List.cons.inj e2).1
  obtain rfl : v3 = _ := (List.cons.inj e3).1
  obtain rfl : v4 = _ := (List.cons.inj hcs4).1
  obtain rfl : v5 = _ := (List.cons.inj e5).1
  refine ⟨⟨a0, a1, a2, a3, ps, s⟩, Q.k48_mk w ⟨a0, a1, a2, a3, ps, s⟩ hlc4 hC4, ?_⟩
  have z := parts_bulk (a := ps) hq4
  exact Nat.le_trans z (bulk_six _ _ _ _ _ _)
set_option maxRecDepth 100000 in
theorem contract (H : Type) (enc : TypeId × Value → H) (W : World) (base : Nat) (args : Array Value) (ds gs : List (DataW H)) (before : List MemPlace)
    (hval : ∀ (j : Nat) t v, Try.f7.params[j]? = some t → args[j]? = some v → Value.okWide Try.prog W .any base t v)
    (hW : DataW.Whole enc Try.prog Try.f7.params.toList Rows.packTellsSpec.vars false W args.toList ds gs before) (hk : Rows.uptoSmall H (ds ++ gs) = true) :
    Calls Try.prog 7 args W fun e W' => ∃ v, e = .returned v ∧ Rows.packTellsSpec.post enc Try.prog Try.f7 false true false false W args v W' := by
  have laidOut : laidOutB Try.prog = true := by kernel_rfl
  have hW' := hW
  obtain ⟨p, q, hA0, hV, rfl, hfz, hnd⟩ := hW
  have hA : DataW.TrodAll enc Try.prog W 0 (fun _ => true) true Try.f7.params.toList args.toList ds p := hA0
  rw [Try.params7] at hA hval
  obtain ⟨v0, vs0, d0, ds0, p0, q0, hargs, rfl, rfl, h0, r0⟩ := trodAll_cons hA
  obtain ⟨v1, vs1, d1, ds1, p1, q1, rfl, rfl, rfl, h1, r1⟩ := trodAll_cons r0
  obtain ⟨v2, vs2, d2, ds2, p2, q2, rfl, rfl, rfl, h2, r2⟩ := trodAll_cons r1
  obtain ⟨v3, vs3, d3, ds3, p3, q3, rfl, rfl, rfl, h3, r3⟩ := trodAll_cons r2
  obtain ⟨rfl, rfl, rfl⟩ := trodAll_nil r3
  obtain rfl : args = #[v0, v1, v2, v3] := by cases args; simp_all
  obtain ⟨rfl, rfl⟩ := trodVars_none hV
  have k0 := h0
  have lt0 : ∀ x ∈ p0, x.block < W.heap.size := by obtain ⟨m, hm⟩ := k0; exact DataW.trod_lt m _ _ _ hm
  have k1 := h1
  have lt1 : ∀ x ∈ p1, x.block < W.heap.size := by obtain ⟨m, hm⟩ := k1; exact DataW.trod_lt m _ _ _ hm
  have k2 := h2
  have lt2 : ∀ x ∈ p2, x.block < W.heap.size := by obtain ⟨m, hm⟩ := k2; exact DataW.trod_lt m _ _ _ hm
  have k3 := h3
  have lt3 : ∀ x ∈ p3, x.block < W.heap.size := by obtain ⟨m, hm⟩ := k3; exact DataW.trod_lt m _ _ _ hm
  have hb : Rows.uptoBulk d1 ≤ 1048576 ∧ Rows.uptoBulk d3 ≤ 1048576 := by
    have := of_decide_eq_true hk
    simp only [List.append_nil, Rows.uptoBulkAll] at this
    omega
  obtain ⟨n0, hn0⟩ := h0
  obtain ⟨l, ⟨A0, c0, hcs0, hlc0, hC0⟩, hq0⟩ := good_slice (enc := enc) (w := W) Try.underlying46 (by kernel_rfl) good_draw _ _ _ hn0
  have hv0 : v0 = .slice A0 l.length c0 := by
    obtain ⟨A', l', c', rfl⟩ := okWide_slice Try.underlying46 (hval 0 46 v0 rfl rfl)
    simpa [Value.cells] using hcs0
  subst hv0
  obtain ⟨n1, hn1⟩ := h1
  obtain ⟨a, ha, hqa⟩ := good_draw (enc := enc) (w := W) _ _ _ hn1
  obtain ⟨Aa, ca, hcsa, hca, hCa⟩ := Q.k48_open ha
  have hv1 : v1 = .agg #[.int .i64 a.f0, .int .i64 a.f1, .int .i64 a.f2, .int .i64 a.f3, .slice Aa a.f4.length ca, .string a.f5] := by
    obtain ⟨cs, rfl, _⟩ := okWide_struct Try.underlying48 (hval 1 48 v1 rfl rfl)
    have e : cs.toList = _ := hcsa
    congr 1
    exact Array.toList_inj.1 e
  subst hv1
  obtain ⟨n2, hn2⟩ := h2
  obtain ⟨b, hb2, hqb⟩ := good_draw (enc := enc) (w := W) _ _ _ hn2
  obtain ⟨Ab, cb, hcsb, hcb, hCb⟩ := Q.k48_open hb2
  have hv2 : v2 = .agg #[.int .i64 b.f0, .int .i64 b.f1, .int .i64 b.f2, .int .i64 b.f3, .slice Ab b.f4.length cb, .string b.f5] := by
    obtain ⟨cs, rfl, _⟩ := okWide_struct Try.underlying48 (hval 2 48 v2 rfl rfl)
    have e : cs.toList = _ := hcsb
    congr 1
    exact Array.toList_inj.1 e
  subst hv2
  obtain ⟨n3, hn3⟩ := h3
  obtain ⟨c, ⟨A3, c3, hcs3, hlc3, hC3⟩, hq3⟩ := good_slice (enc := enc) (w := W) Try.underlying22 (by kernel_rfl) (good_int Try.underlying5) _ _ _ hn3
  have hv3 : v3 = .slice A3 c.length c3 := by
    obtain ⟨A', l', c', rfl⟩ := okWide_slice Try.underlying22 (hval 3 22 v3 rfl rfl)
    simpa [Value.cells] using hcs3
  subst hv3
  clear hA0
  have z1 : tot a.f4 + a.f4.length + 1 ≤ Rows.uptoBulk d1 := hqa
  have z3 : c.length + 1 ≤ Rows.uptoBulk d3 := bytes_bulk hq3
  have hby : Bytes c := by
    intro x hx
    obtain ⟨e, he⟩ := rows_all hq3 x hx
    exact wf_byte he.2
  obtain ⟨k, x8, t, s, m, f, d, e, g1, g2, g3, g4, g5, g6, g7, g8, g9, g10, g11, g12⟩ := tells 140737488355328 rfl l a b c (by omega) (fun p hp => by have := tot_mem _ p hp; omega) (by omega) hby
  refine (tells_calls k A0 c0 l a b Aa ca Ab cb A3 c3 c x8 t s m f d e W hC0 hlc0 hCa hca hCb hcb hC3 hlc3 g1 g2 g3 g4 g5 g6 g7 g8 g9 g10 g11 g12).mono fun e W' ⟨he, bel⟩ => ?_
  subst he
  exact ⟨_, rfl, _, _, _, [], _, [], hW', trodAll_mk1 (shut_bool Try.underlying4 _), (trodAll_cons_mk (Below.trod laidOut (by kernel_rfl) (of_decide_eq_true (by kernel_rfl)) k0 bel lt0) (trodAll_cons_mk (Below.trod laidOut (by kernel_rfl) (of_decide_eq_true (by kernel_rfl)) k1 bel lt1) (trodAll_cons_mk (Below.trod laidOut (by kernel_rfl) (of_decide_eq_true (by kernel_rfl)) k2 bel lt2) (trodAll_cons_mk (Below.trod laidOut (by kernel_rfl) (of_decide_eq_true (by kernel_rfl)) k3 bel lt3) trodAll_mk0)))), rfl, bel.frame _, fun h => by cases h⟩

set_option maxRecDepth 100000 in
theorem lifted (os : Os) (started : os.Started) (H : Type) (enc : TypeId × Value → H) (F : Stop.Interp) :
    ReturnsInHanded {} Try.checked os 7 .any ((Rows.OpenSpec.upto Rows.packTellsSpec).pre6 enc Try.prog Try.f7 Rows.packTellsUptoRow.domain false) (((Rows.OpenSpec.upto Rows.packTellsSpec).at F).post enc Try.prog Try.f7 false true false false) := by
  refine returnsInHanded_of_cond (C := Try.checked) (s := Rows.OpenSpec.upto Rows.packTellsSpec) (k := Rows.uptoSmall) rfl own started (by kernel_rfl) Try.func7
    (OpenSpec.witness (enc := enc) (C := Try.checked) (s := Rows.OpenSpec.upto Rows.packTellsSpec) (k := Rows.uptoSmall) rfl false ⟨#[], #[.slice none 0 0, .agg #[.int .i64 0, .int .i64 0, .int .i64 0, .int .i64 0, .slice none 0 0, .string (⟨#[]⟩ : ByteArray)], .agg #[.int .i64 0, .int .i64 0, .int .i64 0, .int .i64 0, .slice none 0 0, .string (⟨#[]⟩ : ByteArray)], .slice none 0 0], []⟩ 8 (by kernel_rfl) (by kernel_rfl) (by kernel_rfl)
      (x := ([.nil, .agg [.lit (.int .i64 0), .lit (.int .i64 0), .lit (.int .i64 0), .lit (.int .i64 0), .nil, .lit (.string [])], .agg [.lit (.int .i64 0), .lit (.int .i64 0), .lit (.int .i64 0), .lit (.int .i64 0), .nil, .lit (.string [])], .nil], [], [])) (by kernel_rfl) rfl (by kernel_rfl)) ?_
  intro W base args ds gs before hval hW _ hk _
  exact contract H enc W base args ds gs before hval hW hk

theorem over : Rows.packTellsUptoRow.holds Try.pinned (Rows.OpenSpec.upto Rows.packTellsSpec) :=
  OpenClaim.holds_of_cond 7 Try.f7 rfl rfl rfl rfl rfl rfl rfl ⟨rfl, rfl, rfl, rfl, rfl⟩ rfl rfl rfl rfl rfl (by kernel_rfl) Try.func7 (by kernel_rfl)
    (of_decide_eq_true (by kernel_rfl)) (by unfold Func.isWrapper; first | (rw [if_pos (by decide +kernel)]; kernel_rfl) | (rw [if_neg (by decide +kernel)]; exact ⟨rfl, rfl⟩))
    (fun os started H enc _ F => lifted os started H enc F)

theorem proved : Rows.PackTellsUptoSaid := over
#print axioms proved
end Go.Proofs.Ytjgoehhhjffpmaa.packTells
namespace Go.Proofs.Ytjgoehhhjffpmaa
theorem packTells_holds : Rows.PackTellsUptoSaid := packTells.proved
end Go.Proofs.Ytjgoehhhjffpmaa

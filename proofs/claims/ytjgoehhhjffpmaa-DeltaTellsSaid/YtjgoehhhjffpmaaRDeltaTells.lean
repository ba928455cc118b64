/- Numbers and lists of points are written as by the second implementation: the row of DeltaTells: the Go function answers true for every input and leaves its arguments as they were. No condition. -/
import Derived.Test.YtjgoehhhjffpmaaRows
import Derived.Test.YtjgoehhhjffpmaaQDeltaTells
import Derived.Test.YtjgoehhhjffpmaaUDeltaTells
import Derived.Test.YtjgoehhhjffpmaaOpen
import Derived.WalkKit
import Derived.ProofKit
import Derived.OpenShut
import Derived.ShutString
import Derived.ChangeOld
import Derived.Below
import Derived.SizedLaws
namespace Go.Proofs.Ytjgoehhhjffpmaa.deltaTells
open Go.ChangeShapes Go.WideShapes Go.ChangeAt Go.RowKit Go.Proofs.Ytjgoehhhjffpmaa.Q Go.Proofs.Ytjgoehhhjffpmaa.Open Go.Proofs.YtjgoehhhjffpmaaW.PrintWords
set_option linter.unusedVariables false
theorem own : ownKnob Try.prog.godebug = none := by kernel_rfl
theorem laidOut : laidOutB Try.prog = true := by kernel_rfl

/-! ### sizes -/
theorem all_mem {H : Type} {P : Program} {e : TypeId} : ∀ (es : List (DataW H)), (DataW.weightsAll P e es).all (· ≤ reachBytes) = true → ∀ x ∈ es, (DataW.weights P e x).all (· ≤ reachBytes) = true := by
  intro es
  induction es with
  | nil => intro _ x hx; cases hx
  | cons d r ih =>
    intro h x hx
    rw [DataW.weightsAll, List.all_append, Bool.and_eq_true] at h
    rcases List.mem_cons.1 hx with rfl | hx
    · exact h.1
    · exact ih h.2 x hx
theorem slice_size {H : Type} {P : Program} {t e : TypeId} (ht : P.underlying t = some (.slice e)) {B : Nat} (hB : P.bytesOf e = B) {es sp : List (DataW H)} (h : (DataW.weights P t (.slice es sp)).all (· ≤ reachBytes) = true) :
    es.length * B ≤ 140737488351232 ∧ ∀ x ∈ es, (DataW.weights P e x).all (· ≤ reachBytes) = true := by
  rw [DataW.weights, ht] at h
  simp only [List.all_cons, List.all_append, Bool.and_eq_true, decide_eq_true_eq] at h
  refine ⟨?_, all_mem es h.2.1⟩
  have h1 := h.1
  rw [hB] at h1
  have h2 : es.length * B ≤ (es.length + sp.length) * B := Nat.mul_le_mul_right _ (by omega)
  have h3 : reachBytes = 140737488351232 := rfl
  omega

set_option maxRecDepth 100000 in
theorem lifted (os : Os) (started : os.Started) (H : Type) (enc : TypeId × Value → H) :
    ReturnsInHanded {} Try.checked os 4 .any (Rows.deltaTellsSpec.pre6 enc Try.prog Try.f4 Rows.deltaTellsRow.domain false) (Rows.deltaTellsSpec.post enc Try.prog Try.f4 false true false false) := by
  refine returnsInHanded_of_change_sized (C := Try.checked) own started (by kernel_rfl) Try.func4
    (ChangeSpec.witness6 (enc := enc) (C := Try.checked) false ⟨#[], #[.int .i64 0, .slice none 0 0, .slice none 0 0], []⟩ 8 (by kernel_rfl) (by kernel_rfl) (by kernel_rfl) (by kernel_rfl)) ?_
  intro W base args ds gs before hval0 hW hcnd hsz0 _
  have hsz : (DataW.weightsEach Try.prog (Try.f4.params.toList ++ Rows.deltaTellsSpec.plain.varTypes Try.prog) (ds ++ gs)).all (· ≤ reachBytes) = true := hsz0
  have hval : ∀ (j : Nat) t v, Try.f4.params[j]? = some t → args[j]? = some v → Value.okWide Try.prog W .any base t v := hval0
  have hW' := hW
  obtain ⟨p, q, hA0, hV, rfl, hfz, hnd⟩ := hW
  have hA : DataW.TrodAll enc Try.prog W 0 (fun _ => true) true Try.f4.params.toList args.toList ds p := hA0
  rw [Try.params4] at hA hval hsz
  obtain ⟨v0, vs0, d0, ds0, p0, q0, hargs, rfl, rfl, h0, r0⟩ := trodAll_cons hA
  obtain ⟨v1, vs1, d1, ds1, p1, q1, rfl, rfl, rfl, h1, r1⟩ := trodAll_cons r0
  obtain ⟨v2, vs2, d2, ds2, p2, q2, rfl, rfl, rfl, h2, r2⟩ := trodAll_cons r1
  obtain ⟨rfl, rfl, rfl⟩ := trodAll_nil r2
  obtain rfl : args = #[v0, v1, v2] := by cases args; simp_all
  obtain ⟨rfl, rfl⟩ := trodVars_none hV
  obtain ⟨a0, rfl, rfl, rfl, w0⟩ := open_int Try.underlying3 (hval 0 3 v0 rfl rfl) h0
  have k1 := h1
  have lt1 : ∀ x ∈ p1, x.block < W.heap.size := by obtain ⟨m, hm⟩ := k1; exact DataW.trod_lt m _ _ _ hm
  have k2 := h2
  have lt2 : ∀ x ∈ p2, x.block < W.heap.size := by obtain ⟨m, hm⟩ := k2; exact DataW.trod_lt m _ _ _ hm
  have s1 : (DataW.weights Try.prog 22 d1).all (· ≤ reachBytes) = true ∧ (DataW.weights Try.prog 23 d2).all (· ≤ reachBytes) = true := by
    have h : (DataW.weightsEach Try.prog (3 :: 22 :: 23 :: Rows.deltaTellsSpec.plain.varTypes Try.prog) ([DataW.lit (.int .i64 a0), d1, d2] ++ [])).all (· ≤ reachBytes) = true := hsz
    simp only [List.append_nil, DataW.weightsEach, List.all_append, Bool.and_eq_true] at h
    exact ⟨h.2.1, h.2.2.1⟩
  -- the bytes
  obtain ⟨n1, hn1⟩ := h1
  obtain ⟨bs, ⟨A1, c1, hcs1, hlc1, hC1⟩, hq1⟩ := good_slice (enc := enc) (w := W) Try.underlying22 (by kernel_rfl) (good_int Try.underlying5) _ _ _ hn1
  have hv1 : v1 = .slice A1 bs.length c1 := by
    obtain ⟨A', l', c', rfl⟩ := okWide_slice Try.underlying22 (hval 1 22 v1 rfl rfl)
    simpa [Value.cells] using hcs1
  subst hv1
  have hb5 : Try.prog.bytesOf 5 = 1 := by kernel_rfl
  have bl : bs.length ≤ 140737488351232 := by
    rcases hq1 with ⟨rfl, _⟩ | ⟨es, sp, rfl, hl, _⟩
    · exact Nat.zero_le _
    · have := (slice_size Try.underlying22 hb5 s1.1).1
      omega
  have bw : ∀ j, j < bs.length → 0 ≤ rd bs (j : Int) ∧ rd bs (j : Int) ≤ 255 := by
    intro j hj
    have e : rd bs (j : Int) = bs[j] := by simp [rd, List.getD, hj]
    rcases hq1 with ⟨rfl, _⟩ | ⟨es, sp, _, hl, hq⟩
    · cases hj
    · have hj2 : j < es.length := by omega
      have w := (hq j bs[j] es[j] (List.getElem?_eq_getElem hj) (List.getElem?_eq_getElem hj2)).2
      unfold Lit.wf at w
      rw [Bool.and_eq_true, decide_eq_true_iff, decide_eq_true_iff] at w
      have m0 : IntKind.u8.min = 0 := rfl
      have m1 : IntKind.u8.max = 255 := rfl
      rw [m0, m1] at w
      rw [e]
      exact w
  -- the lists of points
  obtain ⟨n2, hn2⟩ := h2
  obtain ⟨ps, ⟨A2, c2, hcs2, hlc2, hC2⟩, hq2⟩ := good_slice (enc := enc) (w := W) Try.underlying23 (by kernel_rfl) (good_slice Try.underlying35 (by kernel_rfl) good_point) _ _ _ hn2
  have hv2 : v2 = .slice A2 ps.length c2 := by
    obtain ⟨A', l', c', rfl⟩ := okWide_slice Try.underlying23 (hval 2 23 v2 rfl rfl)
    simpa [Value.cells] using hcs2
  subst hv2
  have hb35 : Try.prog.bytesOf 35 = 24 := by kernel_rfl
  have hb44 : Try.prog.bytesOf 44 = 16 := by kernel_rfl
  obtain ⟨B, hB⟩ : ∃ B : Nat, B = 9007199254740992 := ⟨_, rfl⟩
  have pl : ps.length ≤ B ∧ ∀ j, j < ps.length → (rd_L4 ps (j : Int)).length ≤ B := by
    rcases hq2 with ⟨rfl, _⟩ | ⟨es, sp, rfl, hl, hq⟩
    · exact ⟨Nat.zero_le _, fun j hj => by cases hj⟩
    · obtain ⟨z1, z2⟩ := slice_size Try.underlying23 hb35 s1.2
      refine ⟨by omega, fun j hj => ?_⟩
      have hj2 : j < es.length := by omega
      have e : rd_L4 ps (j : Int) = ps[j] := by simp [rd_L4, List.getD, hj]
      have z3 := z2 es[j] (List.getElem_mem hj2)
      rw [e]
      rcases hq j ps[j] es[j] (List.getElem?_eq_getElem hj) (List.getElem?_eq_getElem hj2) with ⟨hz, _⟩ | ⟨es2, sp2, he2, hl2, _⟩
      · rw [hz]; exact Nat.zero_le _
      · rw [he2] at z3
        have := (slice_size Try.underlying35 hb44 z3).1
        omega
  clear hA0 hval0 hsz0 hsz
  obtain ⟨lim, hlim⟩ : ∃ lim : Nat, lim = 140737488355328 := ⟨_, rfl⟩
  have w0' : -9223372036854775808 ≤ a0 ∧ a0 ≤ 9223372036854775807 := by
    have h := w0
    unfold Lit.wf at h
    rw [Bool.and_eq_true, decide_eq_true_iff, decide_eq_true_iff] at h
    exact h
  obtain ⟨k, hk⟩ := Pure.DeltaTells a0 w0'.1 w0'.2 bs bw lim hlim (by omega) B hB ps pl.1 pl.2
  refine (Q.terrlaw5_DeltaTells.calls k a0 A1 c1 bs A2 c2 ps true W hC1 hlc1 hC2 hlc2 hk rfl).mono fun e W' ⟨he, bel⟩ => ?_
  subst he
  exact ⟨_, rfl, _, _, _, [], _, [], hW', trodAll_mk1 (shut_bool Try.underlying4 _), (trodAll_cons_mk (shut_int Try.underlying3 w0) (trodAll_cons_mk (Below.trod laidOut (by kernel_rfl) (of_decide_eq_true (by kernel_rfl)) k1 bel lt1) (trodAll_cons_mk (Below.trod laidOut (by kernel_rfl) (of_decide_eq_true (by kernel_rfl)) k2 bel lt2) trodAll_mk0))), rfl, bel.frame _, fun h => by cases h⟩
theorem over : Rows.deltaTellsRow.holds Try.pinned (OpenSpec.ofChange Rows.deltaTellsSpec) :=
  OpenClaim.holds_of_wide 4 Try.f4 rfl rfl rfl rfl rfl rfl rfl ⟨rfl, rfl, rfl, rfl, rfl⟩ rfl rfl rfl rfl rfl (by kernel_rfl) Try.func4 (by kernel_rfl)
    (of_decide_eq_true (by kernel_rfl)) (by unfold Func.isWrapper; first | (rw [if_pos (by decide +kernel)]; kernel_rfl) | (rw [if_neg (by decide +kernel)]; exact ⟨rfl, rfl⟩))
    (fun os started H enc _ => lifted os started H enc)
theorem proved : Rows.DeltaTellsSaid := over
#print axioms proved
end Go.Proofs.Ytjgoehhhjffpmaa.deltaTells
namespace Go.Proofs.Ytjgoehhhjffpmaa
/-- The row, under a short name, for the claim. -/
theorem deltaTells_holds : Rows.DeltaTellsSaid := deltaTells.proved
end Go.Proofs.Ytjgoehhhjffpmaa

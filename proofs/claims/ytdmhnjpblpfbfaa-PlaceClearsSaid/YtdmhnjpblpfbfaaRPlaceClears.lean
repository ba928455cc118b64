/- Possible choices, and those of labels one after the other, are those of the second implementation: the Go function PlaceClears answers true for every input and leaves its arguments as they were. No condition. -/
import Derived.Test.YtdmhnjpblpfbfaaRows
import Derived.Test.YtdmhnjpblpfbfaaQPlaceClears
import Derived.Test.YtdmhnjpblpfbfaaUPlaceClears
import Derived.Test.YtdmhnjpblpfbfaaOpenP
import Derived.WalkKit
import Derived.ProofKit
import Derived.OpenShut
import Derived.ChangeOld
import Derived.Below
import Derived.SizedLaws
import Derived.Test.YtdmhnjpblpfbfaaWSized
namespace Go.Proofs.Ytdmhnjpblpfbfaa.placeClears
open Go.ChangeShapes Go.WideShapes Go.ChangeAt Go.RowKit Go.Proofs.Ytdmhnjpblpfbfaa.Q Go.Proofs.Ytdmhnjpblpfbfaa.U Go.Proofs.Ytdmhnjpblpfbfaa.Open Go.Proofs.YtdmhnjpblpfbfaaW.PrintWords
set_option linter.unusedVariables false
theorem own : ownKnob Try.prog.godebug = none := by kernel_rfl
set_option maxRecDepth 100000 in
theorem contract (H : Type) (enc : TypeId × Value → H) (W : World) (base : Nat) (args : Array Value) (ds gs : List (DataW H)) (before : List MemPlace)
    (hval : ∀ (j : Nat) t v, Try.f6.params[j]? = some t → args[j]? = some v → Value.okWide Try.prog W .any base t v)
    (hW : DataW.Whole enc Try.prog Try.f6.params.toList Rows.placeClearsSpec.vars false W args.toList ds gs before) :
    Calls Try.prog 6 args W fun e W' => ∃ v, e = .returned v ∧ Rows.placeClearsSpec.post enc Try.prog Try.f6 false true false false W args v W' := by
  have laidOut : laidOutB Try.prog = true := by kernel_rfl
  have hW' := hW
  obtain ⟨p, q, hA0, hV, rfl, hfz, hnd⟩ := hW
  have hA : DataW.TrodAll enc Try.prog W 0 (fun _ => true) true Try.f6.params.toList args.toList ds p := hA0
  rw [Try.params6] at hA hval
  obtain ⟨v0, vs0, d0, ds0, p0, q0, hargs, rfl, rfl, h0, r0⟩ := trodAll_cons hA
  obtain ⟨v1, vs1, d1, ds1, p1, q1, rfl, rfl, rfl, h1, r1⟩ := trodAll_cons r0
  obtain ⟨rfl, rfl, rfl⟩ := trodAll_nil r1
  obtain rfl : args = #[v0, v1] := by cases args; simp_all
  obtain ⟨rfl, rfl⟩ := trodVars_none hV
  have k0 := h0
  have k1 := h1
  have lt0 : ∀ x ∈ p0, x.block < W.heap.size := by obtain ⟨m, hm⟩ := k0; exact DataW.trod_lt m _ _ _ hm
  have lt1 : ∀ x ∈ p1, x.block < W.heap.size := by obtain ⟨m, hm⟩ := k1; exact DataW.trod_lt m _ _ _ hm
  obtain ⟨n, hn⟩ := h0
  obtain ⟨xs, ⟨A, c, hcs, hlc, hC⟩, _⟩ := good_slice (enc := enc) (w := W) Try.underlying24 (by kernel_rfl) good_want _ _ _ hn
  obtain ⟨n1, hn1⟩ := h1
  obtain ⟨ys, ⟨A1, c1, hcs1, hlc1, hC1⟩, _⟩ := good_slice (enc := enc) (w := W) Try.underlying22 (by kernel_rfl) (good_int Try.underlying3) _ _ _ hn1
  have hv0 : v0 = .slice A xs.length c := by
    have cc := hval 0 24 v0 rfl rfl
    obtain ⟨A', l', c', rfl⟩ := okWide_slice Try.underlying24 cc
    simpa [Value.cells] using hcs
  subst hv0
  have hv1 : v1 = .slice A1 ys.length c1 := by
    have cc := hval 1 22 v1 rfl rfl
    obtain ⟨A', l', c', rfl⟩ := okWide_slice Try.underlying22 cc
    simpa [Value.cells] using hcs1
  subst hv1
  clear hA0
  obtain ⟨k, hf⟩ := Pure.PlaceClears xs ys (Kd.C_max hC)
  refine (terrlaw5_PlaceClears.calls k A c xs A1 c1 ys true W hC hlc hC1 hlc1 hf rfl).mono fun e W' ⟨he, bel⟩ => ?_
  subst he
  exact ⟨_, rfl, _, _, _, [], _, [], hW', trodAll_mk1 (shut_bool Try.underlying4 _), (trodAll_cons_mk (Below.trod laidOut (by kernel_rfl) (of_decide_eq_true (by kernel_rfl)) k0 bel lt0) (trodAll_cons_mk (Below.trod laidOut (by kernel_rfl) (of_decide_eq_true (by kernel_rfl)) k1 bel lt1) trodAll_mk0)), rfl, bel.frame _, fun h => by cases h⟩
set_option maxRecDepth 100000 in
theorem lifted (os : Os) (started : os.Started) (H : Type) (enc : TypeId × Value → H) :
    ReturnsInHanded {} Try.checked os 6 .any (Rows.placeClearsSpec.pre6 enc Try.prog Try.f6 Rows.placeClearsRow.domain false) (Rows.placeClearsSpec.post enc Try.prog Try.f6 false true false false) := by
  refine returnsInHanded_of_change_sized (C := Try.checked) own started (by kernel_rfl) Try.func6
    (ChangeSpec.witness6 (enc := enc) (C := Try.checked) false ⟨#[], #[.slice none 0 0, .slice none 0 0], []⟩ 8 (by kernel_rfl) (by kernel_rfl) (by kernel_rfl) (by kernel_rfl)) ?_
  intro W base args ds gs before hval0 hW hcnd hsz0 _
  exact contract H enc W base args ds gs before hval0 hW
theorem over : Rows.placeClearsRow.holds Try.pinned (OpenSpec.ofChange Rows.placeClearsSpec) :=
  OpenClaim.holds_of_wide 6 Try.f6 rfl rfl rfl rfl rfl rfl rfl ⟨rfl, rfl, rfl, rfl, rfl⟩ rfl rfl rfl rfl rfl (by kernel_rfl) Try.func6 (by kernel_rfl)
    (of_decide_eq_true (by kernel_rfl)) (by unfold Func.isWrapper; first | (rw [if_pos (by decide +kernel)]; kernel_rfl) | (rw [if_neg (by decide +kernel)]; exact ⟨rfl, rfl⟩))
    (fun os started H enc _ => lifted os started H enc)
theorem proved : Rows.PlaceClearsSaid := over
#print axioms proved
end Go.Proofs.Ytdmhnjpblpfbfaa.placeClears
namespace Go.Proofs.Ytdmhnjpblpfbfaa
/-- The row, under a short name, for the claim. -/
theorem placeClears_holds : Rows.PlaceClearsSaid := placeClears.proved
end Go.Proofs.Ytdmhnjpblpfbfaa

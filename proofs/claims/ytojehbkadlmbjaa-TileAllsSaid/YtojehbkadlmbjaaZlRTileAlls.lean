/- The tiles that meet a box are those that are found by going down from the whole grid, or are too many: the row of TileAlls: the Go function answers true for every input and leaves its arguments as they were. No condition. -/
import Derived.Test.YtojehbkadlmbjaaRows
import Derived.Test.YtojehbkadlmbjaaZlQTileAlls
import Derived.Test.YtojehbkadlmbjaaZlUTileAlls
import Derived.WalkKit
import Derived.ProofKit
import Derived.OpenShut
import Derived.ChangeOld
import Derived.Below
import Derived.SizedLaws
import Derived.Deep.Slices
import Derived.Deep.Strs
namespace Go.Proofs.Ytojehbkadlmbjaa.tileAlls
open Go.ChangeShapes Go.WideShapes Go.ChangeAt Go.RowKit Go.Deep
set_option linter.unusedVariables false
theorem own : ownKnob Try.prog.godebug = none := by kernel_rfl
theorem laidOut : laidOutB Try.prog = true := by kernel_rfl
theorem four_of {α : Type} {l : List α} (h : l.length = 4) : ∃ u v x y, l = [u, v, x, y] := by
  match l, h with
  | [u, v, x, y], _ => exact ⟨u, v, x, y, rfl⟩
set_option maxRecDepth 100000 in
theorem point_cells {H : Type} {enc : TypeId × Value → H} {W : World} {n : Nat} {u v : Value} {x : DataW H × List MemPlace} (hn' : DataW.trod enc Try.prog W 0 (fun _ => true) true n 31 [u, v] = some x) : ∃ a b : Int, [u, v] = [Value.int .i64 a, Value.int .i64 b] := by
  have c3 : Try.prog.cellsOf 3 = 1 := by kernel_rfl
  obtain ⟨y0, y1, n', e, hl, h0, h1⟩ := trod_struct2 Try.underlying31 hn'
  obtain ⟨a, e0, -, -⟩ := DataW.trod_int Try.underlying3 h0
  obtain ⟨b, e2, -, -⟩ := DataW.trod_int Try.underlying3 h1
  have e0' : List.take (Try.prog.cellsOf 3) [u, v] = [Value.int .i64 a] := e0
  have e2' : List.take (Try.prog.cellsOf 3) [v] = [Value.int .i64 b] := e2
  rw [c3] at e0' e2'
  have eu : u = Value.int .i64 a := (List.cons.inj e0').1
  have ev : v = Value.int .i64 b := (List.cons.inj e2').1
  exact ⟨a, b, by rw [eu, ev]⟩
set_option maxRecDepth 100000 in
/-- An argument that is a box. -/
theorem open_box {H : Type} {enc : TypeId × Value → H} {W : World} {base : Nat} {v : Value} {d : DataW H} {p : List MemPlace} (hval : Value.okWide Try.prog W .any base 44 v) (h : DataW.Trod enc Try.prog W 0 (fun _ => true) true 44 v d p) :
    ∃ a b c e : Int, v = .agg #[.int .i64 a, .int .i64 b, .int .i64 c, .int .i64 e] := by
  obtain ⟨cs, rfl, hs⟩ := okWide_struct Try.underlying44 hval
  obtain ⟨n, hn⟩ := h
  have c3 : Try.prog.cellsOf 3 = 1 := by kernel_rfl
  have c31 : Try.prog.cellsOf 31 = 2 := by kernel_rfl
  have c44 : Try.prog.cellsOf 44 = 4 := by kernel_rfl
  rw [c44] at hs
  obtain ⟨u, v, x, y, rfl⟩ : ∃ u v x y, cs = #[u, v, x, y] := by
    obtain ⟨u, v, x, y, h⟩ := four_of (l := cs.toList) (by simpa using hs)
    exact ⟨u, v, x, y, by rw [← Array.toArray_toList (xs := cs), h]⟩
  have hn' : DataW.trod enc Try.prog W 0 (fun _ => true) true n 44 [u, v, x, y] = some (d, p) := hn
  obtain ⟨y0, y1, n', e, hl, h0, h1⟩ := trod_struct2 Try.underlying44 hn'
  have h0' : DataW.trod enc Try.prog W 0 (fun _ => true) true n' 31 [u, v] = some y0 := by simpa [c31] using h0
  have h1' : DataW.trod enc Try.prog W 0 (fun _ => true) true n' 31 [x, y] = some y1 := by simpa [c31] using h1
  obtain ⟨a, b, e1⟩ := point_cells h0'
  obtain ⟨c, e, e2⟩ := point_cells h1'
  injection e1 with e1 e1'
  injection e1' with e1' _
  injection e2 with e2 e2'
  injection e2' with e2' _
  exact ⟨a, b, c, e, by rw [e1, e1', e2, e2']⟩
set_option maxRecDepth 100000 in
theorem lifted (os : Os) (started : os.Started) (H : Type) (enc : TypeId × Value → H) :
    ReturnsInHanded {} Try.checked os 11 .any (Rows.tileAllsSpec.pre6 enc Try.prog Try.f11 Rows.tileAllsRow.domain false) (Rows.tileAllsSpec.post enc Try.prog Try.f11 false true false false) := by
  refine returnsInHanded_of_change_sized (C := Try.checked) own started (by kernel_rfl) Try.func11
    (ChangeSpec.witness6 (enc := enc) (C := Try.checked) false ⟨#[], #[.agg #[.int .i64 0, .int .i64 0, .int .i64 0, .int .i64 0], .int .i64 0], []⟩ 8 (by kernel_rfl) (by kernel_rfl) (by kernel_rfl) (by kernel_rfl)) ?_
  intro W base args ds gs before hval0 hW hcnd hsz0 _
  have hval : ∀ (j : Nat) t v, Try.f11.params[j]? = some t → args[j]? = some v → Value.okWide Try.prog W .any base t v := hval0
  have hW' := hW
  obtain ⟨p, q, hA0, hV, rfl, hfz, hnd⟩ := hW
  have hA : DataW.TrodAll enc Try.prog W 0 (fun _ => true) true Try.f11.params.toList args.toList ds p := hA0
  rw [Try.params11] at hA hval
  obtain ⟨v0, vs0, d0, ds0, p0, q0, hargs, rfl, rfl, h0, r0⟩ := trodAll_cons hA
  obtain ⟨v1, vs1, d1, ds1, p1, q1, rfl, rfl, rfl, h1, r1⟩ := trodAll_cons r0
  obtain ⟨rfl, rfl, rfl⟩ := trodAll_nil r1
  obtain rfl : args = #[v0, v1] := by cases args; simp_all
  obtain ⟨rfl, rfl⟩ := trodVars_none hV
  obtain ⟨a, b, c, e, rfl⟩ := open_box (hval 0 44 v0 rfl rfl) h0
  obtain ⟨z, rfl, rfl, rfl, w1⟩ := open_int Try.underlying3 (hval 1 3 v1 rfl rfl) h1
  have k0 := h0
  have lt0 : ∀ z ∈ p0, z.block < W.heap.size := by obtain ⟨m, hm⟩ := k0; exact DataW.trod_lt m _ _ _ hm
  clear hA0 hval0 hsz0
  obtain ⟨K, hK⟩ := U.TileAlls a b c e z
  refine (Q.terrlaw5_TileAlls.calls K a b c e z true W (hK K (Nat.le_refl K)) rfl).mono fun e W' ⟨he, bel⟩ => ?_
  subst he
  exact ⟨_, rfl, _, _, _, [], _, [], hW', trodAll_mk1 (shut_bool Try.underlying4 _), (trodAll_cons_mk (Below.trod laidOut (by kernel_rfl) (of_decide_eq_true (by kernel_rfl)) k0 bel lt0) (trodAll_cons_mk (shut_int Try.underlying3 w1) trodAll_mk0)), rfl, bel.frame _, fun h => by cases h⟩
theorem over : Rows.tileAllsRow.holds Try.pinned (OpenSpec.ofChange Rows.tileAllsSpec) :=
  OpenClaim.holds_of_wide 11 Try.f11 rfl rfl rfl rfl rfl rfl rfl ⟨rfl, rfl, rfl, rfl, rfl⟩ rfl rfl rfl rfl rfl (by kernel_rfl) Try.func11 (by kernel_rfl)
    (of_decide_eq_true (by kernel_rfl)) (by unfold Func.isWrapper; first | (rw [if_pos (by decide +kernel)]; kernel_rfl) | (rw [if_neg (by decide +kernel)]; exact ⟨rfl, rfl⟩))
    (fun os started H enc _ => lifted os started H enc)
theorem proved : Rows.TileAllsSaid := over
#print axioms proved
end Go.Proofs.Ytojehbkadlmbjaa.tileAlls
namespace Go.Proofs.Ytojehbkadlmbjaa
/-- The row, under a short name, for the claim. -/
theorem tileAlls_holds : Rows.TileAllsSaid := tileAlls.proved
end Go.Proofs.Ytojehbkadlmbjaa

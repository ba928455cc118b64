/- Tiles are those that halving the grid again and again gives: the row of TileTells: the Go function answers true for every input and leaves its arguments as they were. No condition. -/
import Derived.Test.YtojehbkadlmbjaaRows
import Derived.Test.YtojehbkadlmbjaaQTileTells
import Derived.Test.YtojehbkadlmbjaaUTk
import Derived.WalkKit
import Derived.ProofKit
import Derived.OpenShut
import Derived.ChangeOld
import Derived.Below
import Derived.SizedLaws
import Derived.Deep.Slices
import Derived.Deep.Strs
namespace Go.Proofs.Ytojehbkadlmbjaa.tileTells
open Go.ChangeShapes Go.WideShapes Go.ChangeAt Go.RowKit Go.Deep
set_option linter.unusedVariables false
theorem own : ownKnob Try.prog.godebug = none := by kernel_rfl
theorem laidOut : laidOutB Try.prog = true := by kernel_rfl
theorem two_of {α : Type} {l : List α} (h : l.length = 2) : ∃ u v, l = [u, v] := by
  match l, h with
  | [u, v], _ => exact ⟨u, v, rfl⟩
theorem three_of {α : Type} {l : List α} (h : l.length = 3) : ∃ u v x, l = [u, v, x] := by
  match l, h with
  | [u, v, x], _ => exact ⟨u, v, x, rfl⟩
set_option maxRecDepth 100000 in
/-- An argument that is a point. -/
theorem open_point {H : Type} {enc : TypeId × Value → H} {W : World} {base : Nat} {v : Value} {d : DataW H} {p : List MemPlace} (hval : Value.okWide Try.prog W .any base 31 v) (h : DataW.Trod enc Try.prog W 0 (fun _ => true) true 31 v d p) :
    ∃ x y : Int, v = .agg #[.int .i64 x, .int .i64 y] := by
  obtain ⟨cs, rfl, hs⟩ := okWide_struct Try.underlying31 hval
  obtain ⟨n, hn⟩ := h
  have c3 : Try.prog.cellsOf 3 = 1 := by kernel_rfl
  have c31 : Try.prog.cellsOf 31 = 2 := by kernel_rfl
  rw [c31] at hs
  obtain ⟨u, v, rfl⟩ : ∃ u v, cs = #[u, v] := by
    obtain ⟨u, v, h⟩ := two_of (l := cs.toList) (by simpa using hs)
    exact ⟨u, v, by rw [← Array.toArray_toList (xs := cs), h]⟩
  have hn' : DataW.trod enc Try.prog W 0 (fun _ => true) true n 31 [u, v] = some (d, p) := hn
  obtain ⟨y0, y1, n', e, hl, h0, h1⟩ := trod_struct2 Try.underlying31 hn'
  obtain ⟨a, e0, -, -⟩ := DataW.trod_int Try.underlying3 h0
  obtain ⟨b, e2, -, -⟩ := DataW.trod_int Try.underlying3 h1
  have e0' : List.take (Try.prog.cellsOf 3) [u, v] = [Value.int .i64 a] := e0
  have e2' : List.take (Try.prog.cellsOf 3) [v] = [Value.int .i64 b] := e2
  rw [c3] at e0' e2'
  have eu : u = Value.int .i64 a := (List.cons.inj e0').1
  have ev : v = Value.int .i64 b := (List.cons.inj e2').1
  exact ⟨a, b, by rw [eu, ev]⟩
set_option maxRecDepth 100000 in
/-- An argument that is a tile. -/
theorem open_tile {H : Type} {enc : TypeId × Value → H} {W : World} {base : Nat} {v : Value} {d : DataW H} {p : List MemPlace} (hval : Value.okWide Try.prog W .any base 34 v) (h : DataW.Trod enc Try.prog W 0 (fun _ => true) true 34 v d p) :
    ∃ x y z : Int, v = .agg #[.int .i64 x, .int .i64 y, .int .i64 z] := by
  obtain ⟨cs, rfl, hs⟩ := okWide_struct Try.underlying34 hval
  obtain ⟨n, hn⟩ := h
  have c3 : Try.prog.cellsOf 3 = 1 := by kernel_rfl
  have c34 : Try.prog.cellsOf 34 = 3 := by kernel_rfl
  rw [c34] at hs
  obtain ⟨u, v, x, rfl⟩ : ∃ u v x, cs = #[u, v, x] := by
    obtain ⟨u, v, x, h⟩ := three_of (l := cs.toList) (by simpa using hs)
    exact ⟨u, v, x, by rw [← Array.toArray_toList (xs := cs), h]⟩
  have hn' : DataW.trod enc Try.prog W 0 (fun _ => true) true n 34 [u, v, x] = some (d, p) := hn
  obtain ⟨y0, y1, y2, n', e, hl, h0, h1, h2⟩ := trod_struct3 Try.underlying34 hn'
  obtain ⟨a, e0, -, -⟩ := DataW.trod_int Try.underlying3 h0
  obtain ⟨b, e1, -, -⟩ := DataW.trod_int Try.underlying3 h1
  obtain ⟨c, e2, -, -⟩ := DataW.trod_int Try.underlying3 h2
  have e0' : List.take (Try.prog.cellsOf 3) [u, v, x] = [Value.int .i64 a] := e0
  have e1' : List.take (Try.prog.cellsOf 3) [v, x] = [Value.int .i64 b] := by first | exact e1 | simpa [c3] using e1
  have e2' : List.take (Try.prog.cellsOf 3) [x] = [Value.int .i64 c] := by first | exact e2 | simpa [c3] using e2
  rw [c3] at e0' e1' e2'
  have eu : u = Value.int .i64 a := (List.cons.inj e0').1
  have ev : v = Value.int .i64 b := (List.cons.inj e1').1
  have ex : x = Value.int .i64 c := (List.cons.inj e2').1
  exact ⟨a, b, c, by rw [eu, ev, ex]⟩
set_option maxRecDepth 100000 in
theorem lifted (os : Os) (started : os.Started) (H : Type) (enc : TypeId × Value → H) :
    ReturnsInHanded {} Try.checked os 10 .any (Rows.tileTellsSpec.pre6 enc Try.prog Try.f10 Rows.tileTellsRow.domain false) (Rows.tileTellsSpec.post enc Try.prog Try.f10 false true false false) := by
  refine returnsInHanded_of_change_sized (C := Try.checked) own started (by kernel_rfl) Try.func10
    (ChangeSpec.witness6 (enc := enc) (C := Try.checked) false ⟨#[], #[.agg #[.int .i64 0, .int .i64 0, .int .i64 0], .agg #[.int .i64 0, .int .i64 0, .int .i64 0], .agg #[.int .i64 0, .int .i64 0], .int .i64 0], []⟩ 8 (by kernel_rfl) (by kernel_rfl) (by kernel_rfl) (by kernel_rfl)) ?_
  intro W base args ds gs before hval0 hW hcnd hsz0 _
  have hval : ∀ (j : Nat) t v, Try.f10.params[j]? = some t → args[j]? = some v → Value.okWide Try.prog W .any base t v := hval0
  have hW' := hW
  obtain ⟨p, q, hA0, hV, rfl, hfz, hnd⟩ := hW
  have hA : DataW.TrodAll enc Try.prog W 0 (fun _ => true) true Try.f10.params.toList args.toList ds p := hA0
  rw [Try.params10] at hA hval
  obtain ⟨v0, vs0, d0, ds0, p0, q0, hargs, rfl, rfl, h0, r0⟩ := trodAll_cons hA
  obtain ⟨v1, vs1, d1, ds1, p1, q1, rfl, rfl, rfl, h1, r1⟩ := trodAll_cons r0
  obtain ⟨v2, vs2, d2, ds2, p2, q2, rfl, rfl, rfl, h2, r2⟩ := trodAll_cons r1
  obtain ⟨v3, vs3, d3, ds3, p3, q3, rfl, rfl, rfl, h3, r3⟩ := trodAll_cons r2
  obtain ⟨rfl, rfl, rfl⟩ := trodAll_nil r3
  obtain rfl : args = #[v0, v1, v2, v3] := by cases args; simp_all
  obtain ⟨rfl, rfl⟩ := trodVars_none hV
  obtain ⟨a0, a1, a2, rfl⟩ := open_tile (hval 0 34 v0 rfl rfl) h0
  obtain ⟨y0, y1, y2, rfl⟩ := open_tile (hval 1 34 v1 rfl rfl) h1
  obtain ⟨x0, x1, rfl⟩ := open_point (hval 2 31 v2 rfl rfl) h2
  obtain ⟨z, rfl, rfl, rfl, w3⟩ := open_int Try.underlying3 (hval 3 3 v3 rfl rfl) h3
  have k0 := h0
  have k1 := h1
  have k2 := h2
  have lt0 : ∀ z ∈ p0, z.block < W.heap.size := by obtain ⟨m, hm⟩ := k0; exact DataW.trod_lt m _ _ _ hm
  have lt1 : ∀ z ∈ p1, z.block < W.heap.size := by obtain ⟨m, hm⟩ := k1; exact DataW.trod_lt m _ _ _ hm
  have lt2 : ∀ z ∈ p2, z.block < W.heap.size := by obtain ⟨m, hm⟩ := k2; exact DataW.trod_lt m _ _ _ hm
  clear hA0 hval0 hsz0
  obtain ⟨k, side, o, o0, o1, o2, e, u0, u1, u2, f, g, b0, b1, b2, b3, q0, q1, l0, l1, w0, w1, ok, lt, v, ks, s1, s2, s3, s4, s5, s6, s7, s8, s9, sa, sb, sc, sd, se, sf, sg, sh, si⟩ := U.tells a0 a1 a2 y0 y1 y2 x0 x1 z
  refine (Q.tells_calls k a0 a1 a2 y0 y1 y2 x0 x1 z side o o0 o1 o2 e u0 u1 u2 f g b0 b1 b2 b3 q0 q1 l0 l1 w0 w1 ok lt v ks W s1 s2 s3 s4 s5 s6 s7 s8 s9 sa sb sc sd se sf sg sh si).mono fun e W' ⟨he, bel⟩ => ?_
  subst he
  exact ⟨_, rfl, _, _, _, [], _, [], hW', trodAll_mk1 (shut_bool Try.underlying4 _), (trodAll_cons_mk (Below.trod laidOut (by kernel_rfl) (of_decide_eq_true (by kernel_rfl)) k0 bel lt0) (trodAll_cons_mk (Below.trod laidOut (by kernel_rfl) (of_decide_eq_true (by kernel_rfl)) k1 bel lt1) (trodAll_cons_mk (Below.trod laidOut (by kernel_rfl) (of_decide_eq_true (by kernel_rfl)) k2 bel lt2) (trodAll_cons_mk (shut_int Try.underlying3 w3) trodAll_mk0)))), rfl, bel.frame _, fun h => by cases h⟩
theorem over : Rows.tileTellsRow.holds Try.pinned (OpenSpec.ofChange Rows.tileTellsSpec) :=
  OpenClaim.holds_of_wide 10 Try.f10 rfl rfl rfl rfl rfl rfl rfl ⟨rfl, rfl, rfl, rfl, rfl⟩ rfl rfl rfl rfl rfl (by kernel_rfl) Try.func10 (by kernel_rfl)
    (of_decide_eq_true (by kernel_rfl)) (by unfold Func.isWrapper; first | (rw [if_pos (by decide +kernel)]; kernel_rfl) | (rw [if_neg (by decide +kernel)]; exact ⟨rfl, rfl⟩))
    (fun os started H enc _ => lifted os started H enc)
theorem proved : Rows.TileTellsSaid := over
#print axioms proved
end Go.Proofs.Ytojehbkadlmbjaa.tileTells
namespace Go.Proofs.Ytojehbkadlmbjaa
/-- The row, under a short name, for the claim. -/
theorem tileTells_holds : Rows.TileTellsSaid := tileTells.proved
end Go.Proofs.Ytojehbkadlmbjaa

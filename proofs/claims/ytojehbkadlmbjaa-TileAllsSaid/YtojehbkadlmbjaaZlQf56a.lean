/- A list of tiles in memory, sorted in place: what the shelf's words for a sorted row say in this seat's words. Condition: the tiles are of one zoom, with small numbers. -/
import Derived.Test.YtojehbkadlmbjaaZlQ0
import Derived.Shelf.GgSortFunc.InsertionK
import Derived.Sort.Row
namespace Go.Proofs.Ytojehbkadlmbjaa.Q
open Go.Sort Go.Proofs Go.RowKit Go.Proofs.YtojehbkadlmbjaaW.PrintWords Go.Proofs.YtojehbkadlmbjaaW.PrintLast Go.Proofs.YtojehbkadlmbjaaW.PrintMore
set_option linter.unusedVariables false
set_option linter.unusedSimpArgs false
def okT (z : Int) (x : S34) : Bool := decide (x.f0 = z ∧ 0 ≤ x.f1 ∧ x.f1 < 4294967296 ∧ 0 ≤ x.f2 ∧ x.f2 < 4294967296)
/-- Tiles of one zoom with small numbers, not too many. -/
def okL (z : Int) (xs : List S34) : Bool := xs.all (okT z) && decide (xs.length ≤ 1048576)
structure Tl (z : Int) where
  val : S34
  ok : val.f0 = z ∧ 0 ≤ val.f1 ∧ val.f1 < 4294967296 ∧ 0 ≤ val.f2 ∧ val.f2 < 4294967296
instance {z : Int} : Inhabited (Tl z) := ⟨⟨⟨z, 0, 0⟩, rfl, Int.le_refl 0, by show (0 : Int) < 4294967296; decide, Int.le_refl 0, by show (0 : Int) < 4294967296; decide⟩⟩
def encT {z : Int} (x : Tl z) : List Value := [.int .i64 x.val.f0, .int .i64 x.val.f1, .int .i64 x.val.f2]
def cfT {z : Int} (x y : Tl z) : Int := if x.val.f2 = y.val.f2 then x.val.f1 - y.val.f1 else x.val.f2 - y.val.f2
/-- By f2, then by f1. -/
def leT (x y : S34) : Bool := decide (x.f2 < y.f2 ∨ (x.f2 = y.f2 ∧ x.f1 ≤ y.f1))
def srt (xs : List S34) : List S34 := xs.mergeSort leT
theorem leT_cf {z : Int} (x y : Tl z) : (!decide (cfT y x < 0)) = leT x.val y.val := by
  unfold cfT leT
  by_cases h : y.val.f2 = x.val.f2
  · rw [if_pos h, ← decide_not]
    exact decide_eq_decide.mpr (by omega)
  · rw [if_neg h, ← decide_not]
    exact decide_eq_decide.mpr (by omega)
theorem srt_map {z : Int} (xs : List (Tl z)) : (xs.mergeSort fun x y => !decide (cfT y x < 0)).map Tl.val = srt (xs.map Tl.val) :=
  List.map_mergeSort (fun a _ b _ => leT_cf a b)
theorem lift_T {z : Int} : ∀ (xs : List S34), xs.all (okT z) = true → ∃ ys : List (Tl z), ys.map Tl.val = xs
  | [], _ => ⟨[], rfl⟩
  | x :: xs, h => by
    rw [List.all_cons, Bool.and_eq_true] at h
    obtain ⟨ys, hy⟩ := lift_T xs h.2
    exact ⟨⟨x, of_decide_eq_true h.1⟩ :: ys, by rw [List.map_cons, hy]⟩
theorem encT_len {z : Int} (x : Tl z) : (encT x).length = 3 := rfl
theorem flat_get {z : Int} (d : Array (Tl z)) (q i : Nat) (hq : q < d.size) (hi : i < 3) : (flatK encT 3 d)[q * 3 + i]! = (encT d[q]!)[i]! := by
  rw [get_flatK _ _ _ _ (by omega), show (q * 3 + i) / 3 = q by omega, show (q * 3 + i) % 3 = i by omega]
theorem enc_at {z : Int} (x : Tl z) (i : Nat) (hi : i < 3) : (encT x)[i]? = some (encT x)[i]! := by
  match i, hi with
  | 0, _ => rfl
  | 1, _ => rfl
  | 2, _ => rfl
theorem arr_at {α : Type} [Inhabited α] (ys : List α) (q : Nat) (hq : q < ys.length) : ys.toArray[q]! = ys[q] := by
  rw [getElem!_pos ys.toArray q (by simpa using hq)]; simp
/-- The cells of a list of tiles, as the shelf tells them. -/
theorem reps_flat {z : Int} (ys : List (Tl z)) (R : S34 → List Value → Prop) (hR : ∀ x : S34, R x [.int .i64 x.f0, .int .i64 x.f1, .int .i64 x.f2]) : Reps R 3 (ys.map Tl.val) (flatK encT 3 ys.toArray).toList := by
  refine ⟨by simp, fun j p hj => ?_⟩
  rw [List.getElem?_map] at hj
  obtain ⟨y, hy, rfl⟩ := Option.map_eq_some_iff.mp hj
  obtain ⟨hlt, hy'⟩ := List.getElem?_eq_some_iff.mp hy
  have hl : (flatK encT 3 ys.toArray).toList.length = ys.length * 3 := by simp
  have e : ((flatK encT 3 ys.toArray).toList.drop (j * 3)).take 3 = encT y := by
    refine List.ext_getElem? fun i => ?_
    by_cases hi : i < 3
    · rw [List.getElem?_take, if_pos hi, List.getElem?_drop, Array.getElem?_toList, enc_at y i hi]
      have h1 : j * 3 + i < (flatK encT 3 ys.toArray).size := by rw [size_flatK]; simp; omega
      rw [Array.getElem?_eq_getElem h1, ← getElem!_pos (flatK encT 3 ys.toArray) _ h1, flat_get _ _ _ (by simpa using hlt) hi, arr_at ys j hlt, hy']
    · rw [List.getElem?_eq_none (by rw [List.length_take, List.length_drop, hl]; omega), List.getElem?_eq_none (by rw [encT_len]; omega)]
  rw [e]
  exact hR y.val
theorem reps_at {R : S34 → List Value → Prop} (hR : ∀ x cs, R x cs → cs = [.int .i64 x.f0, .int .i64 x.f1, .int .i64 x.f2]) {z : Int} {ys : List (Tl z)} {inner : List Value} (h : Reps R 3 (ys.map Tl.val) inner) (j : Nat) (hj : j < ys.length * 3) : inner[j]? = some (flatK encT 3 ys.toArray)[j]! := by
  have hq : j / 3 < ys.length := by omega
  have h2 := hR _ _ (h.2 (j / 3) ys[j / 3].val (by rw [List.getElem?_map, List.getElem?_eq_getElem hq]; rfl))
  have h3 : ((inner.drop (j / 3 * 3)).take 3)[j % 3]? = (encT ys[j / 3])[j % 3]? := by rw [h2]; rfl
  rw [List.getElem?_take, if_pos (by omega), List.getElem?_drop, show j / 3 * 3 + j % 3 = j by omega, enc_at _ _ (by omega)] at h3
  rw [h3, get_flatK _ _ _ _ (by simpa using hj), arr_at ys _ hq]
/-- The row of a list of tiles of the call's own: held, as the shelf says it. -/
theorem holds_T {z : Int} {W : World} {base g cap : Nat} {ok : Nat → Prop} {ys : List (Tl z)} (h : Kd.R k34 34 W base ok (.slice (some ⟨g, 0, none⟩) (ys.map Tl.val).length cap) (ys.map Tl.val)) (hne : ys ≠ []) : HoldsK encT 3 W g 0 ys.toArray ∧ g < W.heap.size := by
  obtain ⟨_, inner, ⟨hl, hc⟩, hr⟩ := h
  rcases hc with ⟨hv, hn⟩ | ⟨g', cap', cur, hv, hb, hg, h1, h2, h3, h4⟩
  · cases hv
  · have hv2 := hv
    simp only [Value.slice.injEq, Option.some.injEq, Addr.mk.injEq] at hv2
    obtain ⟨⟨rfl, -⟩, -, -⟩ := hv2
    have hlen : (ys.map Tl.val).length = ys.length := List.length_map _
    refine ⟨fun j hj => ⟨?_, blk_frozen hg (0 + j)⟩, blk_lt hg⟩
    rw [size_flatK] at hj
    have hj' : j < ys.length * 3 := by simpa using hj
    rw [Nat.zero_add, blk_cell hg j]
    have e := reps_at (fun x cs hx => k34_openM hx) hr j hj'
    have hsz : 3 * 1 = 3 := rfl
    rw [← h4, List.getElem?_take] at e
    have hk : k34.sz = 3 := rfl
    rw [hk, if_pos (by rw [hlen]; exact hj'), Array.getElem?_toList] at e
    exact e
/-- The row behind the sort. -/
theorem sorted_R {z : Int} {W : World} {base g cap : Nat} {ok : Nat → Prop} {ys zs : List (Tl z)} (h : Kd.R k34 34 W base ok (.slice (some ⟨g, 0, none⟩) (ys.map Tl.val).length cap) (ys.map Tl.val)) (hz : zs.length = ys.length) (hne : ys ≠ []) (m : Nat) (os : Array Obj) :
    Kd.R k34 34 (sortWorldK encT 3 W g 0 m zs.toArray os) base ok (.slice (some ⟨g, 0, none⟩) (zs.map Tl.val).length cap) (zs.map Tl.val) ∧ ∀ w0, Below base w0 W → Below base w0 (sortWorldK encT 3 W g 0 m zs.toArray os) := by
  obtain ⟨h0, inner, ⟨hl, hc⟩, hr⟩ := h
  rcases hc with ⟨hv, hn⟩ | ⟨g', cap', cur, hv, hb, hg, h1, h2, h3, h4⟩
  · cases hv
  have hv2 := hv
  simp only [Value.slice.injEq, Option.some.injEq, Addr.mk.injEq] at hv2
  obtain ⟨⟨rfl, -⟩, -, rfl⟩ := hv2
  have hlt := blk_lt hg
  have hk : k34.sz = 3 := rfl
  have hly : (ys.map Tl.val).length = ys.length := List.length_map _
  have hlz : (zs.map Tl.val).length = zs.length := List.length_map _
  have hheap : ∀ k, k < W.heap.size → (sortWorldK encT 3 W g 0 m zs.toArray os).heap[k]? = if g = k then (W.heap[k]?).map (Go.Sort.onCells (Go.Sort.putCells id 0 (flatK encT 3 zs.toArray))) else W.heap[k]? := by
    intro k hk
    unfold sortWorldK putRowK Go.Sort.putRow Go.Sort.mapBlock Go.Sort.grow Go.Sort.ahead
    dsimp only
    rw [Array.getElem?_append_left (by simpa using hk), Array.getElem?_modify]
  have hsize : W.heap.size ≤ (sortWorldK encT 3 W g 0 m zs.toArray os).heap.size := by
    unfold sortWorldK putRowK Go.Sort.putRow Go.Sort.mapBlock Go.Sort.grow Go.Sort.ahead
    simp
  have hF : (flatK encT 3 zs.toArray).size = zs.length * 3 := by simp
  refine ⟨⟨fun k hk' => h0 k hk', (flatK encT 3 zs.toArray).toList, ⟨by rw [Array.length_toList, hF, hlz, hk], .inr ⟨g, cap, Go.Sort.putCells id 0 (flatK encT 3 zs.toArray) cur, rfl, hb, ?_, by rw [hlz, hz, ← hly]; exact h1, h2, by rw [← h3]; simp [Go.Sort.putCells], ?_⟩⟩, reps_flat zs _ (fun x => k34_mkM _ _ _ x)⟩, fun w0 hB => ?_⟩
  · rw [hheap g hlt, if_pos rfl, hg]; rfl
  · rw [hk] at h3 ⊢
    rw [hlz]
    refine List.ext_getElem? fun i => ?_
    rw [List.getElem?_take]
    have hcur : zs.length * 3 ≤ cur.size := by rw [h3, hz, ← hly]; exact Nat.mul_le_mul_right 3 h1
    by_cases hi : i < zs.length * 3
    · rw [if_pos hi, Array.getElem?_toList, Array.getElem?_toList]
      have h5 : i < (flatK encT 3 zs.toArray).size := by rw [hF]; exact hi
      unfold Go.Sort.putCells
      rw [Array.getElem?_mapIdx, Array.getElem?_eq_getElem (by omega), Array.getElem?_eq_getElem h5, Option.map_some, if_pos ⟨by omega, by omega⟩, Nat.sub_zero, getElem!_pos (flatK encT 3 zs.toArray) _ h5]
      rfl
    · rw [if_neg hi, List.getElem?_eq_none (by rw [Array.length_toList, hF]; omega)]
  · refine ⟨hB.os, hB.tape, hB.output, Nat.le_trans hB.size hsize, fun k hk' => ?_⟩
    by_cases hkW : k < W.heap.size
    · rw [hheap k hkW, if_neg (by omega)]
      exact hB.block k hk'
    · have := Nat.lt_of_lt_of_le hk' hb
      omega
end Go.Proofs.Ytojehbkadlmbjaa.Q


/- slices.Sort at []int: a slice of the call's own is sorted in place. Condition: none beyond that the slice is the call's own. -/
import Derived.Test.YtdmhnjpblpfbfaaZmQ0
import Derived.Test.YtdmhnjpblpfbfaaZmShelf
import Derived.Shelf.Sort.Plain
import Derived.Shelf.Slices.In.SortNone
namespace Go.Proofs.Ytdmhnjpblpfbfaa.Q
open Go.RowKit Go.Sort Go.Shelf Go.Proofs.YtdmhnjpblpfbfaaW.PrintWords Go.Proofs.YtdmhnjpblpfbfaaW.PrintLast Go.Proofs.YtdmhnjpblpfbfaaW.PrintMore
set_option linter.unusedVariables false
set_option linter.unusedSimpArgs false

theorem heap_sorted {w : World} {g n : Nat} {cur : Array Value} {e : TypeId} {fr : Nat × Nat} (d : Array Int) (os : Array Obj) (hb : w.heap[g]? = some (.cells cur e fr)) :
    (grow (putRow (Value.int .i64) (Sort.ahead w n) g 0 d) os).heap[g]? = some (.cells (putCells (Value.int .i64) 0 d cur) e fr) := by
  have hg : g < w.heap.size := by
    rcases Nat.lt_or_ge g w.heap.size with h | h
    · exact h
    · rw [Array.getElem?_eq_none h] at hb; cases hb
  have hg' : g < (w.heap.modify g (onCells (putCells (Value.int .i64) 0 d))).size := by rw [Array.size_modify]; exact hg
  show (w.heap.modify g (onCells (putCells (Value.int .i64) 0 d)) ++ os)[g]? = _
  rw [Array.getElem?_append, if_pos hg', Array.getElem?_modify, if_pos rfl, hb]
  rfl
theorem heap_other {w : World} {g n k : Nat} (d : Array Int) (os : Array Obj) (hk : k < w.heap.size) (hne : k ≠ g) :
    (grow (putRow (Value.int .i64) (Sort.ahead w n) g 0 d) os).heap[k]? = w.heap[k]? := by
  have hk' : k < (w.heap.modify g (onCells (putCells (Value.int .i64) 0 d))).size := by rw [Array.size_modify]; exact hk
  show (w.heap.modify g (onCells (putCells (Value.int .i64) 0 d)) ++ os)[k]? = _
  rw [Array.getElem?_append, if_pos hk', Array.getElem?_modify, if_neg (fun h => hne h.symm)]
theorem size_sorted (w : World) (g n : Nat) (d : Array Int) (os : Array Obj) : w.heap.size ≤ (grow (putRow (Value.int .i64) (Sort.ahead w n) g 0 d) os).heap.size := by
  rw [size_grow, size_putRow]
  exact Nat.le_add_right _ _
theorem put_take (s : List Int) (cur : Array Value) (h : s.length ≤ cur.size) : (putCells (Value.int .i64) 0 s.toArray cur).toList.take (s.length * 1) = encs (Value.int .i64) s := by
  apply List.ext_getElem?
  intro i
  rw [List.getElem?_take, Nat.mul_one]
  by_cases hi : i < s.length
  · rw [if_pos hi]
    have hc : i < cur.size := by omega
    simp [putCells, encs, hi, hc]
  · rw [if_neg hi]
    simp [encs, hi]
/-- What slices.Sort comes to: the list in order. -/
def slices_Sort_int_int.f (l0 : List Int) : Option (List Int) := if l0.length < 4611686018427387904 then some (l0.mergeSort fun x y => decide (x ≤ y)) else none
theorem slices_Sort_int_int.calls (P0_ : Nat → Prop) (u9000_ : Value) (l0 : List Int) (r : List Int) (w0 w : World) (hB : Below w0.heap.size w0 w) (ho0 : Kd.R (Kd.int .i64) 3 w w0.heap.size P0_ u9000_ l0) (h : slices_Sort_int_int.f l0 = some r) :
    Calls Try.prog 70 #[u9000_] w fun e w' => e = .returned (.tuple #[]) ∧ Kd.R (Kd.int .i64) 3 w' w0.heap.size (fun k_ => (P0_ k_ ∨ w.heap.size ≤ k_)) u9000_ r ∧ Below w0.heap.size w0 w' ∧ Kept w w' (fun k_ => P0_ k_) := by
  unfold slices_Sort_int_int.f at h
  have hsmall : l0.length < 4611686018427387904 := by
    rcases Nat.lt_or_ge l0.length 4611686018427387904 with c | c
    · exact c
    · rw [if_neg (by omega)] at h; cases h
  rw [if_pos hsmall] at h
  obtain rfl := Option.some.inj h
  have hok := ho0.1
  have ho := Kd.own_of_R ho0
  obtain ⟨hlen, hv⟩ := ho
  rcases hv with ⟨rfl, hn⟩ | ⟨g, cap, cur, rfl, hg, hb, hn, hc, hs, ht⟩
  · obtain rfl : l0 = [] := List.eq_nil_of_length_eq_zero hn
    refine (Any.slices_Sort_int_none Try.lays189 none 0 w).mono ?_
    rintro e w' ⟨rfl, rfl⟩
    exact ⟨rfl, by rw [List.mergeSort_nil]; exact Kd.R_mono ho0 (fun k hk => .inl hk), hB, Kept.refl _ _⟩
  · have hgl : g < w.heap.size := by
      rcases Nat.lt_or_ge g w.heap.size with h | h
      · exact h
      · rw [Array.getElem?_eq_none h] at hb; cases hb
    have hcell : ∀ j, j < l0.length → cur[j]? = some (Value.int .i64 (l0.getD j 0)) := by
      intro j hj
      have h1 : (cur.toList.take (l0.length * 1))[j]? = (encs (Value.int .i64) l0)[j]? := by rw [ht]
      rw [List.getElem?_take, Nat.mul_one, if_pos hj] at h1
      rw [← Array.getElem?_toList, h1]
      simp [encs, hj, List.getD]
    have hH : Holds (Value.int .i64) w g 0 l0.toArray := by
      intro j hj
      have hj' : j < l0.length := by simpa using hj
      constructor
      · rw [Nat.zero_add]
        have := hcell j hj'
        simp only [World.cell?, hb]
        simp [this, hj', List.getD]
      · exact blk_frozen hb _
    refine (Any.slices_Sort_int Try.lays189 g 0 cap l0 w hH hgl hsmall).mono ?_
    rintro e w' ⟨rfl, n, os, rfl⟩
    have hl : (l0.mergeSort fun x y => decide (x ≤ y)).length = l0.length := List.length_mergeSort _
    have hb' := heap_sorted (n := n) (l0.mergeSort fun x y => decide (x ≤ y)).toArray os hb
    refine ⟨rfl, ?_, ⟨hB.os, hB.tape, hB.output, Nat.le_trans hB.size (size_sorted _ _ _ _ _), fun k hk => ?_⟩, ⟨size_sorted _ _ _ _ _, fun i hi hni => ?_⟩⟩
    · refine Kd.R_of_own ⟨by simp [encs], .inr ⟨g, cap, _, by rw [hl], hg, hb', by rw [hl]; exact hn, hc, ?_, put_take _ _ (by rw [hl]; omega)⟩⟩ (fun k hk => .inl (hok k hk))
      simp [putCells]; omega
    · rw [heap_other _ _ (Nat.lt_of_lt_of_le hk hB.size) (by omega)]
      exact hB.block k hk
    · exact heap_other _ _ hi (fun e => hni (by rw [e]; exact hok g rfl))
end Go.Proofs.Ytdmhnjpblpfbfaa.Q


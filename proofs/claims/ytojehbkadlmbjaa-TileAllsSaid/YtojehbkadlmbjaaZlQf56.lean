/- slices.SortFunc at a list of tiles, by Order: the list in its order. Condition: the tiles are of one zoom, with small numbers. -/
import Derived.Test.YtojehbkadlmbjaaZlQf39g
import Derived.Test.YtojehbkadlmbjaaZlQf56s
namespace Go.Proofs.Ytojehbkadlmbjaa.Q
open Go.Sort Go.Shelf Go.Proofs Go.RowKit Go.Proofs.YtojehbkadlmbjaaW.PrintWords Go.Proofs.YtojehbkadlmbjaaW.PrintLast Go.Proofs.YtojehbkadlmbjaaW.PrintMore
theorem ltT {z : Int} (x y : Tl z) : ltOf cfT x y = decide (x.val.f2 < y.val.f2 ∨ (x.val.f2 = y.val.f2 ∧ x.val.f1 < y.val.f1)) := by
  unfold ltOf cfT
  by_cases h : x.val.f2 = y.val.f2
  · rw [if_pos h]
    exact decide_eq_decide.mpr (by omega)
  · rw [if_neg h]
    exact decide_eq_decide.mpr (by omega)
theorem swoT {z : Int} : SWO (ltOf (cfT (z := z))) where
  irrefl x := by rw [ltT]; exact decide_eq_false (by omega)
  trans x y u h1 h2 := by
    rw [ltT] at *
    have h1 := of_decide_eq_true h1
    have h2 := of_decide_eq_true h2
    exact decide_eq_true (by omega)
  ntrans x y u h1 h2 := by
    rw [ltT] at *
    have h1 := of_decide_eq_false h1
    have h2 := of_decide_eq_false h2
    exact decide_eq_false (by omega)
theorem totT {z : Int} (x y : Tl z) (h1 : ltOf cfT x y = false) (h2 : ltOf cfT y x = false) : x = y := by
  rw [ltT] at *
  have h1 := of_decide_eq_false h1
  have h2 := of_decide_eq_false h2
  obtain ⟨⟨x0, x1, x2⟩, hx⟩ := x
  obtain ⟨⟨y0, y1, y2⟩, hy⟩ := y
  dsimp only at h1 h2
  have e1 : x1 = y1 := by omega
  have e2 : x2 = y2 := by omega
  have e0 : x0 = y0 := hx.1.trans hy.1.symm
  subst e0 e1 e2
  rfl
theorem cmpT {z : Int} (blk off size : Nat) (w : World) : CmpLays Try.prog 39 #[] (encT (z := z)) 3 cfT blk off size w :=
  fun _ _ _ _ x y => order_grow x y _
set_option maxHeartbeats 1000000 in
theorem sort_calls (z : Int) (v : Value) (xs : List S34) (W : World) (base : Nat) (h : Kd.R k34 34 W base (fun _ => True) v xs) (hx0 : okL z xs = true) :
    Calls Try.prog 56 #[v, .func (.func 39) #[] #[]] W fun e w' => e = .returned (.tuple #[]) ∧ Kd.R k34 34 w' base (fun _ => True) v (srt xs) ∧ ∀ w0, Below base w0 W → Below base w0 w' := by
  obtain ⟨hx, hxl⟩ : xs.all (okT z) = true ∧ xs.length ≤ 1048576 := by
    unfold okL at hx0
    rw [Bool.and_eq_true, decide_eq_true_iff] at hx0
    exact hx0
  clear hx0
  obtain ⟨ys, rfl⟩ := lift_T (z := z) xs hx
  obtain ⟨A, c, rfl, hc, hC⟩ := Kd.R_reads h
  by_cases hne : ys = []
  · subst hne
    have hcon := AnyF.slices_SortFunc_none Try.srtLay A c (.func (.func 39) #[] #[]) W
    change Calls Try.prog 56 _ _ _ at hcon
    refine hcon.mono ?_
    rintro e w' ⟨rfl, rfl⟩
    have e : srt (([] : List (Tl z)).map Tl.val) = ([] : List (Tl z)).map Tl.val := by unfold srt; simp
    exact ⟨rfl, by rw [e]; exact h, fun _ hb => hb⟩
  · obtain ⟨g, rfl⟩ : ∃ g, A = some ⟨g, 0, none⟩ := by
      obtain ⟨_, inner, ⟨hl, hv⟩, hr⟩ := h
      rcases hv with ⟨hv, hn⟩ | ⟨g', cap', cur, hv, _⟩
      · exact absurd (by simpa using hn) hne
      · simp only [Value.slice.injEq] at hv
        exact ⟨g', hv.1⟩
    obtain ⟨hH, hblk⟩ := holds_T h hne
    have hsz : ys.toArray.size < 4611686018427387904 := by
      have h2 : (ys.map Tl.val).length = ys.length := List.length_map _
      have h4 : ys.toArray.size = ys.length := by simp
      omega
    have eg : ∀ args w, (callFunc 39 args).run Try.prog w = .ok (.enter 39 args) w := enters_of Try.func39 (by kernel_rfl) rfl
    have hcon := AnyQ.slices_SortFunc_total Try.srtLay 3 Try.isAgg34 Try.sizeOf34 (encT (z := z)) (fun _ => rfl) (fun x v hv => by simp [encT] at hv; rcases hv with rfl | rfl | rfl <;> rfl) cfT swoT 39 #[] g 0 c ys.toArray W eg (cmpT g 0 _ W) hH hblk hsz totT
    change Calls Try.prog 56 _ _ _ at hcon
    have e1 : ys.toArray.size = (ys.map Tl.val).length := by simp
    rw [e1] at hcon
    refine hcon.mono ?_
    rintro e w' ⟨rfl, n, os, rfl⟩
    have hp : (ys.mergeSort fun x y => !decide (cfT y x < 0)).length = ys.length := (List.mergeSort_perm ys _).length_eq
    obtain ⟨r1, r2⟩ := sorted_R h (zs := ys.mergeSort fun x y => !decide (cfT y x < 0)) hp hne n os
    rw [srt_map] at r1
    have hl : (srt (ys.map Tl.val)).length = (ys.map Tl.val).length := (List.mergeSort_perm (ys.map Tl.val) leT).length_eq
    rw [hl] at r1
    exact ⟨rfl, r1, r2⟩
end Go.Proofs.Ytojehbkadlmbjaa.Q


/- (*delta.writer).num appends a number's bytes to the row that the writer holds. Conditions: stated at the contract. -/
import Derived.Test.YtjgoehhhjffpmaaZtQf15
namespace Go.Proofs.Ytjgoehhhjffpmaa.Q
open Go.RowKit Go.Proofs.YtjgoehhhjffpmaaW.PrintWords Go.Proofs.YtjgoehhhjffpmaaW.PrintLast Go.Proofs.YtjgoehhhjffpmaaW.PrintMore
attribute [local go_sem] max2_int min2_int max_two min_two max_three min_three max_four min_four
set_option linter.unusedVariables false
set_option linter.unusedSimpArgs false
theorem num_app_l (lim : Nat) (hlim : lim = 140737488355328) : ∀ (k : Nat) (u : Int) (acc r pre acc2 : List Int), delta_Num.l0 k u acc = some r → acc = pre ++ acc2 → ∃ d, delta_Num.l0 k u acc2 = some d ∧ r = pre ++ d := by
  intro k
  induction k with
  | zero => intro u acc r pre acc2 h _; simp [delta_Num.l0] at h
  | succ k ih =>
    intro u acc r pre acc2 h e
    have hle : acc2.length ≤ acc.length := by rw [e, List.length_append]; omega
    rw [delta_Num.l0, ← hlim] at h ⊢
    by_cases c : u > 127
    · rw [if_pos c] at h ⊢
      by_cases c2 : acc.length < lim
      · rw [if_pos c2] at h
        rw [if_pos (by omega)]
        exact ih _ _ _ pre _ h (by rw [e, List.append_assoc])
      · rw [if_neg c2] at h; cases h
    · rw [if_neg c] at h ⊢
      by_cases c2 : acc.length < lim
      · rw [if_pos c2] at h
        rw [if_pos (by omega)]
        refine ⟨_, rfl, ?_⟩
        rw [← Option.some.inj h, e, List.append_assoc]
      · rw [if_neg c2] at h; cases h
theorem num_app {k : Nat} {xs l : List Int} {n : Int} (h : delta_Num.f k xs n = some l) : ∃ d, delta_Num.f k [] n = some d ∧ l = xs ++ d := by
  obtain ⟨lim, hlim⟩ : ∃ lim : Nat, lim = 140737488355328 := ⟨_, rfl⟩
  unfold delta_Num.f at h ⊢
  rw [Option.bind_some, ← hlim] at h ⊢
  by_cases c : ([] : List Int).length + xs.length < lim
  · rw [if_pos c] at h
    rw [if_pos (by simp; omega)]
    obtain ⟨d, h1, h2⟩ := num_app_l lim hlim _ _ _ _ xs [] h (by simp)
    exact ⟨d, h1, h2⟩
  · rw [if_neg c] at h; cases h
theorem num_len_l (lim : Nat) (hlim : lim = 140737488355328) : ∀ (k : Nat) (u : Int) (acc r : List Int), delta_Num.l0 k u acc = some r → r.length ≤ lim := by
  intro k
  induction k with
  | zero => intro u acc r h; simp [delta_Num.l0] at h
  | succ k ih =>
    intro u acc r h
    rw [delta_Num.l0, ← hlim] at h
    by_cases c : u > 127
    · rw [if_pos c] at h
      by_cases c2 : acc.length < lim
      · rw [if_pos c2] at h; exact ih _ _ _ h
      · rw [if_neg c2] at h; cases h
    · rw [if_neg c] at h
      by_cases c2 : acc.length < lim
      · rw [if_pos c2] at h
        rw [← Option.some.inj h, List.length_append]
        exact c2
      · rw [if_neg c2] at h; cases h
theorem num_len {k : Nat} {xs l : List Int} {n : Int} (h : delta_Num.f k xs n = some l) : l.length ≤ 140737488355328 := by
  obtain ⟨lim, hlim⟩ : ∃ lim : Nat, lim = 140737488355328 := ⟨_, rfl⟩
  unfold delta_Num.f at h
  rw [Option.bind_some, ← hlim] at h
  rw [← hlim]
  by_cases c : ([] : List Int).length + xs.length < lim
  · rw [if_pos c] at h; exact num_len_l lim hlim _ _ _ _ h
  · rw [if_neg c] at h; cases h
set_option maxHeartbeats 2000000 in
theorem writer_num (k b base : Nat) (ok : Nat → Prop) (v : Value) (xs : List Int) (n : Int) (l : List Int) (w0 w : World) (hb : w.heap[b]? = some (.cells #[v] 77 (0, 0))) (hbb : base ≤ b)
    (ho : Kd.R (Kd.int .u8) 5 w base ok v xs) (hokb : ∀ k, ok k → k ≠ b) (hfresh : ∀ k, w.heap.size ≤ k → ok k) (hB : Below base w0 w) (hbs : base ≤ w.heap.size) (h : delta_Num.f k xs n = some l) :
    Calls Try.prog 45 #[.pointer (some ⟨b, 0, none⟩), .int .i64 n] w fun e w' => e = .returned (.tuple #[]) ∧ ∃ v', w'.heap[b]? = some (.cells #[v'] 77 (0, 0)) ∧ Kd.R (Kd.int .u8) 5 w' base ok v' l ∧ Below base w0 w' ∧ w.heap.size ≤ w'.heap.size ∧
      (∀ j, j < w.heap.size → j ≠ b → some j ≠ v.ownBlock → w'.heap[j]? = w.heap[j]?) := by
  have hl := num_len h
  obtain ⟨d, hd, rfl⟩ := num_app h
  have hcell : w.cell? ⟨b, 0, none⟩ = some v := (blk_cell hb 0).trans rfl
  have hfr := blk_frozen hb 0
  have HD := Aside0.mk hd
  have HBK := Aside0.mk hb
  have HO := Aside0.mk ho
  have HB := Aside0.mk hB
  have HL := Aside0.mk hl
  have HF := Aside0.mk hfresh
  clear hd hb ho hB h hl hfresh
  go_enter Try.func45, Try.ntmps45
  refine start_ (n := 11) (S := fun w' => w'.cell? ⟨b, 0, none⟩ = some v) (ds := [7, 10]) #[false, false, false, false, false, false, false, false, false, false, false] (by kernel_rfl) rfl rfl hcell (fun hHeld => ?_)
  have HB1 := Aside0.mk (below_drew HB.out)
  have HO1 := Aside0.mk (Kd.R_drew HO.out)
  have HBK1 : Aside0 (w.drew.heap[b]? = some (.cells #[v] 77 (0, 0))) := ⟨HBK.out⟩
  have hsz1 : w.drew.heap.size = w.heap.size := rfl
  have hsame1 : Aside0 (∀ j, j < w.heap.size → j ≠ b → some j ≠ v.ownBlock → w.drew.heap[j]? = w.heap[j]?) := ⟨fun _ _ _ _ => rfl⟩
  clear hcell hfr
  generalize w.drew = w1 at HB1 HO1 HBK1 hHeld hsz1 hsame1 ⊢
  refine pure_ (i := 0) (N := some 4) (v := ?_) (a' := ?_) #[true, false, false, false, false, false, false, false, false, false, false] rfl rfl (by kernel_rfl) (fun _ _ _ h => h) (Or.inl ⟨by rfl, ?_⟩) ?_ ?_
  rotate_left
  · intro w'
    go_simp
    with_reducible rfl
  rotate_left
  · simp only [Act.put, List.setIfInBounds_toArray, List.set_cons_zero, List.set_cons_succ, i64_w, i32_w]
    rfl
  refine pure_ (i := 1) (N := some 5) (v := ?_) (a' := ?_) #[true, true, false, false, false, false, false, false, false, false, false] rfl rfl (by kernel_rfl) (fun _ _ _ h => h) (Or.inl ⟨by rfl, ?_⟩) ?_ ?_
  rotate_left
  · intro w'
    go_simp
    with_reducible rfl
  rotate_left
  · simp only [Act.put, List.setIfInBounds_toArray, List.set_cons_zero, List.set_cons_succ, i64_w, i32_w]
    rfl
  refine pure_ (i := 5) (N := some 9) (v := ?_) (a' := ?_) #[true, true, false, false, false, true, false, false, false, false, false] rfl rfl (by kernel_rfl) (fun _ _ _ h => h) (Or.inl ⟨by rfl, ?_⟩) ?_ ?_
  rotate_left
  · intro w'
    go_simp
    with_reducible rfl
  rotate_left
  · simp only [Act.put, List.setIfInBounds_toArray, List.set_cons_zero, List.set_cons_succ, i64_w, i32_w]
    rfl
  refine pure_ (i := 2) (N := some 6) (v := ?_) (a' := ?_) #[true, true, true, false, false, true, false, false, false, false, false] rfl rfl (by kernel_rfl) (fun _ _ _ h => h) (Or.inl ⟨by rfl, ?_⟩) ?_ ?_
  rotate_left
  · intro w'
    go_simp
    with_reducible rfl
  rotate_left
  · simp only [Act.put, List.setIfInBounds_toArray, List.set_cons_zero, List.set_cons_succ, i64_w, i32_w]
    rfl
  refine pure_ (i := 3) (N := some 7) (v := ?_) (a' := ?_) #[true, true, true, true, false, true, false, false, false, false, false] rfl rfl (by kernel_rfl) (fun _ _ _ h => h) (Or.inl ⟨by rfl, ?_⟩) ?_ ?_
  rotate_left
  · intro w'
    go_simp
    with_reducible rfl
  rotate_left
  · simp only [Act.put, List.setIfInBounds_toArray, List.set_cons_zero, List.set_cons_succ, i64_w, i32_w]
    rfl
  refine take_ (i := 4) (N := some 8) (v := ?_) (a' := ?_) #[true, true, true, true, true, true, false, false, false, false, false] rfl rfl (by kernel_rfl) (fun _ _ _ h => h) (Or.inl ⟨by rfl, ?_⟩) hHeld ?_ ?_
  rotate_left
  · rintro w' s0
    go_simp
    with_reducible rfl
  rotate_left
  · simp only [Act.put, List.setIfInBounds_toArray, List.set_cons_zero, List.set_cons_succ, i64_w, i32_w]
    rfl
  refine one_ (i := 6) (N := some 10) #[true, true, true, true, true, true, true, false, false, false, false] rfl rfl (by kernel_rfl) (by decide) (fun K hK => ?_)
  refine goes_ Try.func15 (by kernel_rfl) rfl #[.slice none 0 0, .int .i64 n] (by rfl) rfl rfl (by (try simp only [List.map_toArray, List.map_cons, List.map_nil]); first | done | rfl) ?_
  refine (delta_Num.calls k none 0 [] n d w1 (Kd.R_reads' (Kd.R_nil (Kd.int .u8) 5 w1 0 (fun _ => True))).2.2 (Nat.le_refl _) HD.out).mono ?_
  rintro e w2 ⟨vd, rfl, hod, hb2⟩
  refine ⟨_, rfl, ?_⟩
  have s12 := hb2.size
  have HBK2 := Aside0.mk (blk_below HBK1.out hb2)
  have HO2 := Aside0.mk (Kd.R_below HO1.out hb2)
  have HB2 := Aside0.mk (below_then HB1.out (by rw [hsz1]; exact hbs) hb2)
  have hsame2 : Aside0 (∀ j, j < w.heap.size → j ≠ b → some j ≠ v.ownBlock → w2.heap[j]? = w.heap[j]?) := ⟨fun j h1 h2 h3 => (hb2.block j (by rw [hsz1]; exact h1)).trans (hsame1.out j h1 h2 h3)⟩
  have HOD := Aside0.mk hod
  clear hb2 hod HB1 HO1 HBK1 hsame1 hHeld
  obtain ⟨Ad, cd, ed⟩ := Kd.R_slice HOD.out
  subst ed
  refine hK.out _ _ ((blk_cell HBK2.out 0).trans rfl) (fun hHeld => ?_)
  clear hK K
  refine norm_ (a' := ?_) ?_ ?_
  rotate_left
  · show Act.put _ (some 10) _ = _
    simp only [Act.put, List.setIfInBounds_toArray, List.set_cons_zero, List.set_cons_succ, i64_w, i32_w]
    rfl
  refine last_ (i := 7) (N := some 11) #[true, true, true, true, true, true, true, true, false, false, false] rfl rfl (by kernel_rfl) (by decide) (fun K hK => ?_)
  refine Kd.R_append_rows_step (Kd.int .u8) (w0 := w0) base (by rfl) (.tmp 8) (.tmp 10) 22 5 (.int .u8 0) 1 rfl Try.underlying22 info5 rfl (by decide) (by omega) v xs d _ _ _ ok (fun _ => False) rfl rfl ?aO ?aR (fun _ _ h => h) (fun _ h => h.elim) ?aF ?aB ?aS ?aL ?_
  case aR => exact (Kd.R_reads' HOD.out).2.2
  case aB => exact HB2.out
  case aF => exact fun k hk => HF.out k (by omega)
  case aO => exact HO2.out
  case aS => omega
  case aL => have := HL.out; rw [List.length_append] at this; omega
  intro v3 w3 ho3 hb3 hg3 hat3
  have hne : some b ≠ v.ownBlock := fun e => hokb b (HO2.out.1 b e.symm) rfl
  have HBK3 := Aside0.mk (blk_grown HBK2.out hg3 hne)
  have HO3 := Aside0.mk ho3
  have HB3 := Aside0.mk hb3
  have s23 := hg3.size
  have hsame3 : Aside0 (∀ j, j < w.heap.size → j ≠ b → some j ≠ v.ownBlock → w3.heap[j]? = w.heap[j]?) := ⟨fun j h1 h2 h3 => (hg3.block j (by omega) h3).trans (hsame2.out j h1 h2 h3)⟩
  clear ho3 hb3 hg3 hat3 HO2 HBK2 HB2 hsame2 hHeld HOD
  refine hK.out _ _ ?_
  clear hK K
  refine norm_ (a' := ?_) ?_ ?_
  rotate_left
  · show Act.put _ (some 11) _ = _
    simp only [Act.put, List.setIfInBounds_toArray, List.set_cons_zero, List.set_cons_succ, i64_w, i32_w]
    rfl
  refine pure_ (i := 8) (N := some 12) (v := ?_) (a' := ?_) #[true, true, true, true, true, true, true, true, true, false, false] rfl rfl (by kernel_rfl) (fun _ _ _ h => h) (Or.inl ⟨by rfl, ?_⟩) ?_ ?_
  rotate_left
  · intro w'
    go_simp
    with_reducible rfl
  rotate_left
  · simp only [Act.put, List.setIfInBounds_toArray, List.set_cons_zero, List.set_cons_succ, i64_w, i32_w]
    rfl
  refine pure_ (i := 9) (N := some 13) (v := ?_) (a' := ?_) #[true, true, true, true, true, true, true, true, true, true, false] rfl rfl (by kernel_rfl) (fun _ _ _ h => h) (Or.inl ⟨by rfl, ?_⟩) ?_ ?_
  rotate_left
  · intro w'
    go_simp
    with_reducible rfl
  rotate_left
  · simp only [Act.put, List.setIfInBounds_toArray, List.set_cons_zero, List.set_cons_succ, i64_w, i32_w]
    rfl
  obtain ⟨A3, c3, e3⟩ := Kd.R_slice HO3.out
  subst e3
  have hs : w3.cell? ⟨b, 0, none⟩ = some v := (blk_cell HBK3.out 0).trans rfl
  have hfs := blk_frozen HBK3.out 0
  refine last_ (i := 10) (N := none) #[true, true, true, true, true, true, true, true, true, true, true] rfl rfl (by kernel_rfl) (by decide) (fun K hK => ?_)
  refine skip_ (w1 := ?_) (by rfl) rfl ?_ ?_
  rotate_left
  · go_simp
    rfl
  refine hK.out _ _ ?_
  clear hK K
  refine done_ (by kernel_rfl) ?_
  rw [show xs.length + d.length = (xs ++ d).length from List.length_append.symm]
  refine bodyPost_end (v := .tuple #[]) (results_none rfl _ _ _) rfl ?_
  refine ⟨rfl, _, blk_put HBK3.out 0 _ rfl, Kd.R_far (p := ⟨b, 0, none⟩) HO3.out (fun k hk => hokb k hk) _, HB3.out.setCell hbb _, by simp [World.setCell]; omega, fun j h1 h2 h3 => (Below.heap_setCell w3 ⟨b, 0, none⟩ _ j h2).trans (hsame3.out j h1 h2 h3)⟩
/-- A writer in block gW and a point in block gL, beside what was there in w. -/
def Wr (w W : World) (gW gL : Nat) (xs : List Int) (x y : Int) : Prop :=
  ∃ v, W.heap[gW]? = some (.cells #[v] 77 (0, 0)) ∧ Kd.R (Kd.int .u8) 5 W w.heap.size (fun k => k ≠ gW) v xs ∧ W.heap[gL]? = some (.cells #[.int .i64 x, .int .i64 y] 44 (0, 0)) ∧ w.heap.size ≤ gW ∧ w.heap.size ≤ gL ∧ Below w.heap.size w W
theorem type_ne {W : World} {g g' : Nat} {cs cs' : Array Value} (h : W.heap[g]? = some (.cells cs 77 (0, 0))) (h' : W.heap[g']? = some (.cells cs' 44 (0, 0))) : g ≠ g' := by
  rintro rfl
  rw [h] at h'
  injection h' with h'
  injection h' with _ h'
  exact absurd h' (by decide)
theorem Wr_L {w W : World} {gW gL : Nat} {xs : List Int} {x y : Int} (h : Wr w W gW gL xs x y) : W.heap[gL]? = some (.cells #[.int .i64 x, .int .i64 y] 44 (0, 0)) := h.choose_spec.2.2.1
theorem Wr_B {w W : World} {gW gL : Nat} {xs : List Int} {x y : Int} (h : Wr w W gW gL xs x y) : Below w.heap.size w W := h.choose_spec.2.2.2.2.2
theorem Wr_below {w W w1 : World} {gW gL : Nat} {xs : List Int} {x y : Int} (h : Wr w W gW gL xs x y) (hb : Below W.heap.size W w1) : Wr w w1 gW gL xs x y := by
  obtain ⟨v, h1, h2, h3, h4, h5, h6⟩ := h
  exact ⟨v, blk_below h1 hb, Kd.R_below h2 hb, blk_below h3 hb, h4, h5, below_step h6 hb⟩
theorem Wr_far {w W : World} {gW gL : Nat} {xs : List Int} {x y : Int} (h : Wr w W gW gL xs x y) {g : Nat} {cs : Array Value} (hg : W.heap[g]? = some (.cells cs 44 (0, 0))) (hne : gL ≠ g) (hlo : w.heap.size ≤ g) (i : Nat) (u : Value) : Wr w (W.setCell ⟨g, i, none⟩ u) gW gL xs x y := by
  obtain ⟨v, h1, h2, h3, h4, h5, h6⟩ := h
  refine ⟨v, blk_far h1 (type_ne h1 hg) u, Kd.R_mono (Kd.R_far (p := ⟨g, i, none⟩) (Kd.R_types h2 hg (by decide)) (fun _ hk => hk.2) u) (fun _ hk => hk.1), blk_far h3 hne u, h4, h5, h6.setCell hlo u⟩
theorem Wr_put {w W : World} {gW gL : Nat} {xs : List Int} {x y : Int} (h : Wr w W gW gL xs x y) (x' y' : Int) : Wr w ((W.setCell ⟨gL, 0, none⟩ (.int .i64 x')).setCell ⟨gL, 1, none⟩ (.int .i64 y')) gW gL xs x' y' := by
  obtain ⟨v, h1, h2, h3, h4, h5, h6⟩ := h
  have hne := type_ne h1 h3
  refine ⟨v, blk_far (blk_far h1 hne _) hne _, ?_, blk_put (cs := #[.int .i64 x', .int .i64 y]) (blk_put h3 0 _ rfl) 1 _ rfl, h4, h5, (h6.setCell h5 _).setCell h5 _⟩
  exact Kd.R_mono (Kd.R_far (p := ⟨gL, 1, none⟩) (Kd.R_far (p := ⟨gL, 0, none⟩) (Kd.R_types h2 h3 (by decide)) (fun _ hk => hk.2) _) (fun _ hk => hk.2) _) (fun _ hk => hk.1)
theorem Wr_num {w W : World} {gW gL : Nat} {xs : List Int} {x y : Int} (h : Wr w W gW gL xs x y) {k : Nat} {n : Int} {l : List Int} (hn : delta_Num.f k xs n = some l) :
    Calls Try.prog 45 #[.pointer (some ⟨gW, 0, none⟩), .int .i64 n] W fun e w' => e = .returned (.tuple #[]) ∧ Wr w w' gW gL l x y ∧ ∀ (g : Nat) (cs : Array Value), W.heap[g]? = some (.cells cs 44 (0, 0)) → w'.heap[g]? = some (.cells cs 44 (0, 0)) := by
  obtain ⟨v, h1, h2, h3, h4, h5, h6⟩ := h
  refine (writer_num k gW w.heap.size (fun k_ => k_ ≠ gW) v xs n l w W h1 h4 h2 (fun _ hk => hk) (fun k_ hk => by have := blk_lt h1; omega) h6 h6.size hn).mono ?_
  rintro e w' ⟨rfl, v', q1, q2, q3, q4, q5⟩
  have keep : ∀ (g : Nat) (cs : Array Value), W.heap[g]? = some (.cells cs 44 (0, 0)) → w'.heap[g]? = some (.cells cs 44 (0, 0)) := fun g cs hg => (q5 g (blk_lt hg) (type_ne h1 hg).symm (Kd.R_ne h2 hg (by decide))).trans hg
  exact ⟨rfl, ⟨v', q1, q2, keep _ _ h3, h4, h5, q3⟩, keep⟩
end Go.Proofs.Ytjgoehhhjffpmaa.Q


/- terrkeep5.Draws' closure p: a point out of the stream. Condition: the stream lies in its block, and the variable points there. -/
import Derived.Test.YtjgoehhhjffpmaaQf52
namespace Go.Proofs.Ytjgoehhhjffpmaa.Q
open Go Go.RowKit Go.Proofs.YtjgoehhhjffpmaaW.PrintWords Go.Proofs.YtjgoehhhjffpmaaW.PrintLast Go.Proofs.YtjgoehhhjffpmaaW.PrintMore
set_option linter.unusedVariables false
set_option linter.unusedSimpArgs false
/-- What stays but the stream's own block; there may be new blocks. -/
def KeptG (b : Nat) (w w' : World) : Prop := (∀ k, k ≤ b → Below k w w') ∧ (∀ k, k < w.heap.size → k ≠ b → w'.heap[k]? = w.heap[k]?) ∧ w.heap.size ≤ w'.heap.size
theorem Kept.G {b : Nat} {w w' : World} (h : Kept b w w') : KeptG b w w' := ⟨h.1, fun k hk hne => h.2.1.2 k hk hne (by simp), by rw [h.2.2]; exact Nat.le_refl _⟩
theorem KeptG.trans {b : Nat} {w w1 w2 : World} (h : KeptG b w w1) (k : KeptG b w1 w2) : KeptG b w w2 :=
  ⟨fun j hj => (h.1 j hj).trans (k.1 j hj), fun j hj hne => (k.2.1 j (Nat.lt_of_lt_of_le hj h.2.2) hne).trans (h.2.1 j hj hne), Nat.le_trans h.2.2 k.2.2⟩
theorem KeptG.below {b : Nat} {w w1 : World} (h : Below w.heap.size w w1) (hb : b < w.heap.size) : KeptG b w w1 :=
  ⟨fun k hk => h.mono (by omega), fun k hk _ => h.block k hk, h.size⟩
theorem KeptG.blk {b : Nat} {w w1 : World} {g : Nat} {o : Obj} (h : KeptG b w w1) (hg : w.heap[g]? = some o) (hne : g ≠ b) : w1.heap[g]? = some o := (h.2.1 g (blk_lt hg) hne).trans hg
/-- A variable that points to the stream's block. -/
def Var (w : World) (q b : Nat) : Prop := w.heap[q]? = some (.cells #[.pointer (some ⟨b, 0, none⟩)] 83 (0, 0))
theorem StB_lt {w : World} {b : Nat} {l : List Int} (h : StB w b l) : b < w.heap.size := by
  obtain ⟨A, c, h1, _⟩ := h
  exact blk_lt h1
set_option maxHeartbeats 4000000 in
theorem point_calls (b q : Nat) (l : List Int) (W : World) (hs : StB W b l) (hv : Var W q b) (hq : b < q) :
    Calls Try.prog 53 #[.pointer (some ⟨q, 0, none⟩)] W fun e W' => e = .returned (.agg #[.int .i64 (nextv l 300 - 20), .int .i64 (nextv l.tail 300 - 20)]) ∧ StB W' b l.tail.tail ∧ KeptG b W W' := by
  have bX := nextv_in l 300 (by omega)
  have bY := nextv_in l.tail 300 (by omega)
  obtain ⟨X, hX⟩ : ∃ n, n = nextv l 300 := ⟨_, rfl⟩
  obtain ⟨Y, hY⟩ : ∃ n, n = nextv l.tail 300 := ⟨_, rfl⟩
  rw [← hX] at bX
  rw [← hY] at bY
  have wX : wrap64 (X - 20) = X - 20 := by rw [wrapF] <;> omega
  have wY : wrap64 (Y - 20) = Y - 20 := by rw [wrapF] <;> omega
  rw [← hX, ← hY]
  have HXv := Aside0.mk hX
  have HYv := Aside0.mk hY
  clear hX hY bX bY
  have HS := Aside0.mk hs
  have HV := Aside0.mk hv
  have HQ := Aside0.mk hq
  clear hs hv hq
  go_enter Try.func53, Try.ntmps53
  go_upto_region 1 with ((with_reducible refine gate_dst (N := 1) rfl ?_); refine box_event ?hg (N := 1) ?hd (cs := #[.int .i64 0, .int .i64 0]) (t := 44) ?hr ?_; (case hd => rfl); (case hg => rfl); (case hr => first | (go_simp; done) | (go_simp; rfl)); intro g hg W1 hbox hb1; have BG := Aside0.mk hbox; have HG := Aside0.mk hg; have HS1 := Aside0.mk (StB_below HS.out (hb1.mono (StB_lt HS.out))); have HV1 := Aside0.mk (blk_below HV.out hb1); have HK1 := Aside0.mk (KeptG.below hb1 (StB_lt HS.out)); clear hbox hb1 hg)
  have hc : W1.cell? ⟨q, 0, none⟩ = some (.pointer (some ⟨b, 0, none⟩)) := (blk_cell HV1.out 0).trans rfl
  refine start_ (n := 8) (S := fun w' => w'.cell? ⟨q, 0, none⟩ = some (.pointer (some ⟨b, 0, none⟩))) (ds := [7]) #[false, false, false, false, false, false, false, false] (by kernel_rfl) rfl rfl hc (fun hHeld => ?_)
  replace HS1 := Aside0.mk (StB_below HS1.out ((below_drew (Below.refl W1.heap.size W1)).mono (StB_lt HS1.out)))
  replace HV1 := Aside0.mk (blk_drew HV1.out)
  replace BG := Aside0.mk (blk_drew BG.out)
  replace HK1 := Aside0.mk (HK1.out.trans (KeptG.below (below_drew (Below.refl W1.heap.size W1)) (StB_lt HS1.out)))
  clear hc
  generalize W1.drew = Wa at HS1 HV1 BG HK1 hHeld ⊢
  refine take_ (i := 0) (N := some 2) (v := ?_) (a' := ?_) #[true, false, false, false, false, false, false, false] rfl rfl (by kernel_rfl) (fun _ _ _ h => h) (Or.inl ⟨by rfl, ?_⟩) hHeld ?_ ?_
  rotate_left
  · rintro w' s0
    go_simp
    with_reducible rfl
  rotate_left
  · simp only [Act.put, List.setIfInBounds_toArray, List.set_cons_zero, List.set_cons_succ, i64_w, i32_w]
    rfl
  refine take_ (i := 3) (N := some 5) (v := ?_) (a' := ?_) #[true, false, false, true, false, false, false, false] rfl rfl (by kernel_rfl) (fun _ _ _ h => h) (Or.inl ⟨by rfl, ?_⟩) hHeld ?_ ?_
  rotate_left
  · rintro w' s0
    go_simp
    with_reducible rfl
  rotate_left
  · simp only [Act.put, List.setIfInBounds_toArray, List.set_cons_zero, List.set_cons_succ, i64_w, i32_w]
    rfl
  refine one_ (i := 1) (N := some 3) #[true, true, false, true, false, false, false, false] rfl rfl (by kernel_rfl) (by decide) (fun K hK => ?_)
  refine goes_ Try.func52 (by kernel_rfl) rfl #[.pointer (some ⟨b, 0, none⟩), .int .i64 300] (by rfl) rfl rfl (by (try simp only [List.map_toArray, List.map_cons, List.map_nil]); first | done | rfl) ?_
  refine (stb_next b l 300 _ HS1.out (by decide) (by decide)).mono ?_
  rintro r_ Wb ⟨rfl, hs_, hk_⟩
  rw [← HXv.out]
  refine ⟨_, rfl, ?_⟩
  have hb_ := StB_lt HS1.out
  replace HV1 := Aside0.mk (hk_.G.blk HV1.out (Nat.ne_of_gt HQ.out))
  replace BG := Aside0.mk (hk_.G.blk BG.out (by have h1 := HG.out; have h2 := StB_lt HS.out; omega))
  replace HK1 := Aside0.mk (HK1.out.trans hk_.G)
  replace HS1 := Aside0.mk hs_
  clear hs_ hk_ hb_ hHeld
  refine hK.out _ _ ((blk_cell HV1.out 0).trans rfl) (fun hHeld => ?_)
  clear hK K
  refine norm_ (a' := ?_) ?_ ?_
  rotate_left
  · show Act.put _ (some 3) _ = _
    simp only [Act.put, List.setIfInBounds_toArray, List.set_cons_zero, List.set_cons_succ, i64_w, i32_w]
    rfl
  refine pure_ (i := 2) (N := some 4) (v := ?_) (a' := ?_) #[true, true, true, true, false, false, false, false] rfl rfl (by kernel_rfl) (fun _ _ _ h => h) (Or.inl ⟨by rfl, ?_⟩) ?_ ?_
  rotate_left
  · intro w'
    go_simp
    with_reducible rfl
  rotate_left
  · simp only [Act.put, List.setIfInBounds_toArray, List.set_cons_zero, List.set_cons_succ, i64_w, i32_w]
    rfl
  refine one_ (i := 4) (N := some 6) #[true, true, true, true, true, false, false, false] rfl rfl (by kernel_rfl) (by decide) (fun K hK => ?_)
  refine goes_ Try.func52 (by kernel_rfl) rfl #[.pointer (some ⟨b, 0, none⟩), .int .i64 300] (by rfl) rfl rfl (by (try simp only [List.map_toArray, List.map_cons, List.map_nil]); first | done | rfl) ?_
  refine (stb_next b l.tail 300 _ HS1.out (by decide) (by decide)).mono ?_
  rintro r_ Wc ⟨rfl, hs_, hk_⟩
  rw [← HYv.out]
  refine ⟨_, rfl, ?_⟩
  have hb_ := StB_lt HS1.out
  replace HV1 := Aside0.mk (hk_.G.blk HV1.out (Nat.ne_of_gt HQ.out))
  replace BG := Aside0.mk (hk_.G.blk BG.out (by have h1 := HG.out; have h2 := StB_lt HS.out; omega))
  replace HK1 := Aside0.mk (HK1.out.trans hk_.G)
  replace HS1 := Aside0.mk hs_
  clear hs_ hk_ hb_ hHeld
  refine hK.out _ _ ((blk_cell HV1.out 0).trans rfl) (fun hHeld => ?_)
  clear hK K
  refine norm_ (a' := ?_) ?_ ?_
  rotate_left
  · show Act.put _ (some 6) _ = _
    simp only [Act.put, List.setIfInBounds_toArray, List.set_cons_zero, List.set_cons_succ, i64_w, i32_w]
    rfl
  refine pure_ (i := 5) (N := some 7) (v := ?_) (a' := ?_) #[true, true, true, true, true, true, false, false] rfl rfl (by kernel_rfl) (fun _ _ _ h => h) (Or.inl ⟨by rfl, ?_⟩) ?_ ?_
  rotate_left
  · intro w'
    go_simp
    with_reducible rfl
  rotate_left
  · simp only [Act.put, List.setIfInBounds_toArray, List.set_cons_zero, List.set_cons_succ, i64_w, i32_w]
    rfl
  refine pure_ (i := 6) (N := some 8) (v := ?_) (a' := ?_) #[true, true, true, true, true, true, true, false] rfl rfl (by kernel_rfl) (fun _ _ _ h => h) (Or.inl ⟨by rfl, ?_⟩) ?_ ?_
  rotate_left
  · intro w'
    go_simp
    with_reducible rfl
  rotate_left
  · simp only [Act.put, List.setIfInBounds_toArray, List.set_cons_zero, List.set_cons_succ, i64_w, i32_w]
    rfl
  have hg0 : Wc.cell? ⟨g, 0, none⟩ = some (.int .i64 0) := (blk_cell BG.out 0).trans rfl
  have hg1 : Wc.cell? ⟨g, 1, none⟩ = some (.int .i64 0) := (blk_cell BG.out 1).trans rfl
  have hf0 := blk_frozen BG.out 0
  have hf1 := blk_frozen BG.out 1
  refine last_ (i := 7) (N := none) #[true, true, true, true, true, true, true, true] rfl rfl (by kernel_rfl) (by decide) (fun K hK => ?_)
  refine skip_ (w1 := ?_) (by rfl) rfl ?_ ?_
  rotate_left
  · go_simp
    rfl
  refine hK.out _ _ ?_
  clear hK K
  refine done_ (by kernel_rfl) ?_
  have HB2 := Aside0.mk (show Below Wc.heap.size Wc Wc from Below.refl _ _)
  have BG2 := Aside0.mk (blk_put (cs' := #[.int .i64 (X - 20), .int .i64 (Y - 20)]) (blk_put (cs' := #[.int .i64 (X - 20), .int .i64 0]) BG.out 0 (.int .i64 (X - 20)) rfl) 1 (.int .i64 (Y - 20)) rfl)
  clear hg0 hg1 hf0 hf1 hHeld
  go_wp2
  refine bodyPost_ret (results_single rfl (.cell g 44 #[.int .i64 (X - 20), .int .i64 (Y - 20)] (0, 0) _ rfl BG2.out Try.underlying44 rfl (by kernel_rfl) .nil)) rfl ?_
  have hgb : b < g := by have h1 := HG.out; have h2 := StB_lt HS.out; omega
  have hb : Below g Wc ((Wc.setCell ⟨g, 0, none⟩ (.int .i64 (X - 20))).setCell ⟨g, 1, none⟩ (.int .i64 (Y - 20))) := ((Below.refl g Wc).setCell (p := ⟨g, 0, none⟩) (Nat.le_refl _) _).setCell (p := ⟨g, 1, none⟩) (Nat.le_refl _) _
  refine ⟨rfl, StB_below HS1.out (hb.mono hgb), fun k hk => (HK1.out.1 k hk).trans (hb.mono (by omega)), fun k hk hne => ?_, Nat.le_trans HK1.out.2.2 hb.size⟩
  exact (hb.block k (by have := HG.out; omega)).trans (HK1.out.2.1 k hk hne)
end Go.Proofs.Ytjgoehhhjffpmaa.Q

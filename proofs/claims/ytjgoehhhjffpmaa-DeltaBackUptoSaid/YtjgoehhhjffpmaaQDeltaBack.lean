/- What the Go function terrkeep5_DeltaBack comes to, and its contract. Condition: its printed twin gives an answer, which is true. -/
import Derived.Test.YtjgoehhhjffpmaaQf18
import Derived.Test.YtjgoehhhjffpmaaQf11
import Derived.Test.YtjgoehhhjffpmaaQf14
import Derived.Test.YtjgoehhhjffpmaaQf15
import Derived.Test.YtjgoehhhjffpmaaQf16
import Derived.Test.YtjgoehhhjffpmaaQf20
import Derived.Test.YtjgoehhhjffpmaaQf23
namespace Go.Proofs.Ytjgoehhhjffpmaa.Q
open Go.RowKit Go.Proofs.YtjgoehhhjffpmaaW.PrintWords Go.Proofs.YtjgoehhhjffpmaaW.PrintLast Go.Proofs.YtjgoehhhjffpmaaW.PrintMore
attribute [local go_sem] max2_int min2_int max_two min_two max_three min_three max_four min_four
set_option linter.unusedVariables false
set_option linter.unusedSimpArgs false
/-! ### terrkeep5_DeltaBack: function 6 -/
/-- A list of two rows, read: the rows may be anybody's. -/
theorem C_lit2 {P : Program} {ops : Array Oper} {rest : List Oper} {o : Oper} {a : Act} {Q : Exit → Act → World → Prop} {W : World} (hgd : o.guard = none) {N : Tmp} (_hd : o.dst = some N) {A1 A2 : Option Addr} {c1 c2 : Nat} {l1 l2 : List Int}
    (hrun : (execOp a.eval o).run P W = .ok (.value (.slice (some ⟨W.heap.size, 0, none⟩) 2 2)) (W.alloc (.cells #[.slice A1 l1.length c1, .slice A2 l2.length c2] 22)))
    (h1 : Kd.C (Kd.int .u8) W A1 l1.length l1) (hc1 : l1.length ≤ c1) (h2 : Kd.C (Kd.int .u8) W A2 l2.length l2) (hc2 : l2.length ≤ c2)
    (h : ∀ g w1, Kd.C (Kd.slice 5 (Kd.int .u8)) w1 (some ⟨g, 0, none⟩) 2 [l1, l2] → Below W.heap.size W w1 → wpList P ops Q rest (a.put o.dst (.slice (some ⟨g, 0, none⟩) 2 2)) w1) : wpList P ops Q (o :: rest) a W := by
  have hb : Below W.heap.size W (W.alloc (.cells #[.slice A1 l1.length c1, .slice A2 l2.length c2] 22)) := below_alloc (Below.refl _ _) _
  have hg := blk_new W (.cells #[.slice A1 l1.length c1, .slice A2 l2.length c2] 22)
  refine Kd.event_run hgd hrun (h W.heap.size _ ⟨rfl, by decide, fun _ => ⟨_, rfl, fun j p hj => ?_⟩⟩ hb)
  have hg' : (W.alloc (.cells #[.slice A1 l1.length c1, .slice A2 l2.length c2] 22)).heap[W.heap.size]? = some (.cells #[.slice A1 l1.length c1, .slice A2 l2.length c2] 22 (0, 0)) := hg
  have hj2 : j < 2 := (List.getElem?_eq_some_iff.1 hj).1
  have e : j = 0 ∨ j = 1 := by omega
  rcases e with rfl | rfl
  · obtain rfl : l1 = p := by simpa using hj
    refine ⟨[.slice A1 l1.length c1], rfl, ⟨A1, c1, rfl, hc1, Kd.C_below h1 hb⟩, fun i u hu => ?_⟩
    have hi : i < 1 := (List.getElem?_eq_some_iff.1 hu).1
    obtain rfl : i = 0 := by omega
    obtain rfl : Value.slice A1 l1.length c1 = u := by simpa using hu
    exact (blk_cell hg' 0).trans rfl
  · obtain rfl : l2 = p := by simpa using hj
    refine ⟨[.slice A2 l2.length c2], rfl, ⟨A2, c2, rfl, hc2, Kd.C_below h2 hb⟩, fun i u hu => ?_⟩
    have hi : i < 1 := (List.getElem?_eq_some_iff.1 hu).1
    obtain rfl : i = 0 := by omega
    obtain rfl : Value.slice A2 l2.length c2 = u := by simpa using hu
    exact (blk_cell hg' 1).trans rfl
def terrkeep5_DeltaBack.j0 : Nat → List (List (S44)) → List Int → Bool → Option (Bool)
  | 0, _, _, _ => none
  | k + 1, x1, x2, x40 => if x40 = true then (some false) else ((delta_Write.f k x1).bind fun bt187 => (if bt187.2 = 0 then ((some x2).bind fun t191 => ((slices_Concat_byte_byte.f k (([bt187.1, t191] : List (List Int)))).bind fun t197 => ((delta_Read.f k t197).bind fun bt200 => (if bt200.2.2 = 0 then ((slices_Equal_byte_byte.f k bt200.2.1 x2).bind fun t207 => (if t207 = true then ((api_Point_23.f k bt200.1 x1).bind fun t208 => (some t208)) else (some false))) else (some false))))) else (some (bt187.2 == 2))))
def terrkeep5_DeltaBack.f (k : Nat) (a0 : Int) (l1 : List (List (S44))) (l2 : List Int) : Option (Bool) := (delta_Num.f k ([] : List Int) 300).bind fun t172 => (if (t172.length : Int) = 2 then ((delta_Num.f k ([] : List Int) a0).bind fun t175 => (if t175.length + l2.length < 140737488355328 then ((delta_Take.f k (t175 ++ l2)).bind fun bt181 => (if bt181.2.2 = 0 then (if bt181.1 = a0 then ((slices_Equal_byte_byte.f k bt181.2.1 l2).bind fun t186 => (terrkeep5_DeltaBack.j0 k l1 l2 (!t186))) else (terrkeep5_DeltaBack.j0 k l1 l2 true)) else (terrkeep5_DeltaBack.j0 k l1 l2 true))) else (none))) else (some false))
set_option maxHeartbeats 8000000 in
set_option maxRecDepth 100000 in
theorem terrkeep5_DeltaBack.calls (k : Nat) (a0 : Int) (A1 : Option Addr) (c1 : Nat) (l1 : List (List (S44))) (A2 : Option Addr) (c2 : Nat) (l2 : List Int) (r : Bool) (w : World) (hr1 : Kd.C (Kd.slice 44 k44) w A1 l1.length l1) (hc1 : l1.length ≤ c1) (hr2 : Kd.C (Kd.int .u8) w A2 l2.length l2) (hc2 : l2.length ≤ c2) (h : terrkeep5_DeltaBack.f k a0 l1 l2 = some r) (hr : r = true) :
    Calls Try.prog 6 #[.int .i64 a0, .slice A1 l1.length c1, .slice A2 l2.length c2] w fun e w' => e = .returned (.bool r) ∧ Below w.heap.size w w' := by
  have HR1 := Aside0.mk hr1
  have HC1 := Aside0.mk hc1
  clear hr1 hc1
  have HR2 := Aside0.mk hr2
  have HC2 := Aside0.mk hc2
  clear hr2 hc2
  have HB := Aside0.mk (Below.refl w.heap.size w)
  have H : ((delta_Num.f k ([] : List Int) 300).bind fun t172 => (if (t172.length : Int) = 2 then ((delta_Num.f k ([] : List Int) a0).bind fun t175 => (if t175.length + l2.length < 140737488355328 then ((delta_Take.f k (t175 ++ l2)).bind fun bt181 => (if bt181.2.2 = 0 then (if bt181.1 = a0 then ((slices_Equal_byte_byte.f k bt181.2.1 l2).bind fun t186 => (terrkeep5_DeltaBack.j0 k l1 l2 (!t186))) else (terrkeep5_DeltaBack.j0 k l1 l2 true)) else (terrkeep5_DeltaBack.j0 k l1 l2 true))) else (none))) else (some false))) = some r := h
  clear h
  replace H := Option.bind_eq_some_iff.mp H
  obtain ⟨t172, A40, H⟩ := H
  replace H : (if (t172.length : Int) = 2 then ((delta_Num.f k ([] : List Int) a0).bind fun t175 => (if t175.length + l2.length < 140737488355328 then ((delta_Take.f k (t175 ++ l2)).bind fun bt181 => (if bt181.2.2 = 0 then (if bt181.1 = a0 then ((slices_Equal_byte_byte.f k bt181.2.1 l2).bind fun t186 => (terrkeep5_DeltaBack.j0 k l1 l2 (!t186))) else (terrkeep5_DeltaBack.j0 k l1 l2 true)) else (terrkeep5_DeltaBack.j0 k l1 l2 true))) else (none))) else (some false)) = some r := H
  have A4 := Aside0.mk A40
  clear A40
  by_cases c5 : (t172.length : Int) = 2
  · rw [if_pos c5] at H
    have c5b0 : ((t172.length : Int) == 2) = true := beq_iff_eq.mpr c5
    have c5b1 : ((t172.length : Int) != 2) = false := bne_eq_false_iff_eq.mpr c5
    clear c5
    replace H := Option.bind_eq_some_iff.mp H
    obtain ⟨t175, A60, H⟩ := H
    replace H : (if t175.length + l2.length < 140737488355328 then ((delta_Take.f k (t175 ++ l2)).bind fun bt181 => (if bt181.2.2 = 0 then (if bt181.1 = a0 then ((slices_Equal_byte_byte.f k bt181.2.1 l2).bind fun t186 => (terrkeep5_DeltaBack.j0 k l1 l2 (!t186))) else (terrkeep5_DeltaBack.j0 k l1 l2 true)) else (terrkeep5_DeltaBack.j0 k l1 l2 true))) else (none)) = some r := H
    have A6 := Aside0.mk A60
    clear A60
    by_cases c7 : t175.length + l2.length < 140737488355328
    · rw [if_pos c7] at H
      have LMc7 := Aside0.mk c7
      clear c7
      obtain ⟨y178, hy178⟩ : ∃ y_ : List Int, y_ = (t175 ++ l2) := ⟨_, rfl⟩
      replace H : ((delta_Take.f k y178).bind fun bt181 => (if bt181.2.2 = 0 then (if bt181.1 = a0 then ((slices_Equal_byte_byte.f k bt181.2.1 l2).bind fun t186 => (terrkeep5_DeltaBack.j0 k l1 l2 (!t186))) else (terrkeep5_DeltaBack.j0 k l1 l2 true)) else (terrkeep5_DeltaBack.j0 k l1 l2 true))) = some r := by first | (rw [hy178]; with_reducible exact H) | (have H2_ := (Option.bind_some _ _).symm.trans H; rw [hy178]; with_reducible exact H2_) | (have H2_ := (Option.bind_some _ _).symm.trans H; with_reducible exact H2_) | with_reducible exact H | (rw [hy178]; exact H) | exact H
      have Ny178 := Aside0.mk hy178
      clear hy178
      replace H := Option.bind_eq_some_iff.mp H
      obtain ⟨⟨t181, t182, t183⟩, A80, H⟩ := H
      replace H : (if t183 = 0 then (if t181 = a0 then ((slices_Equal_byte_byte.f k t182 l2).bind fun t186 => (terrkeep5_DeltaBack.j0 k l1 l2 (!t186))) else (terrkeep5_DeltaBack.j0 k l1 l2 true)) else (terrkeep5_DeltaBack.j0 k l1 l2 true)) = some r := H
      have A8 := Aside0.mk A80
      clear A80
      have HC9 := Aside0.mk H
      clear H
      go_enter Try.func6, Try.ntmps6
      go_upto_region 5 with (first | ((with_reducible refine gate_callee (f := 15) rfl ?_); refine goesL_ (some 15) rfl rfl Try.func15 (by kernel_rfl) rfl #[.slice none 0 0, .int .i64 300] rfl (by (try simp only [List.map_toArray, List.map_cons, List.map_nil]); first | done | rfl | (simp only [List.length_drop, List.length_take]; rfl)) ?_; (refine (delta_Num.calls k _ _ ([] : List Int) 300 t172 _ ?side1 ?side2 A4.out).mono ?_); (case side1 => exact Kd.C_nil _ _); (case side2 => exact Nat.le_refl _); rintro e w10 ⟨v173, rfl, ho0, hb⟩; refine ⟨_, rfl, ?_⟩; have n0_ := Aside0.mk (Kd.R_lower ho0 (below_size (by repeat (first | (with_reducible first | exact HB.out | apply below_alloc | apply pw_below_drewN | apply below_drew1) | exact HB.out)))); have n1_ := Aside0.mk (below_step (by repeat (first | (with_reducible first | exact HB.out | apply below_alloc | apply pw_below_drewN | apply below_drew1) | exact HB.out)) hb); clear HB; have HO174 := n0_; have HB := n1_; clear n0_ n1_; (try clear hb); (try clear hb2); (try clear hk); (try clear hi); (try clear ho0); obtain ⟨Ao11, co11, eo11⟩ := Kd.R_slice HO174.out; subst eo11) | ((with_reducible refine gate_callee (f := 15) rfl ?_); refine goesL_ (some 21) rfl rfl Try.func15 (by kernel_rfl) rfl #[.slice none 0 0, .int .i64 a0] rfl (by (try simp only [List.map_toArray, List.map_cons, List.map_nil]); first | done | rfl | (simp only [List.length_drop, List.length_take]; rfl)) ?_; (refine (delta_Num.calls k _ _ ([] : List Int) a0 t175 _ ?side1 ?side2 A6.out).mono ?_); (case side1 => exact Kd.C_nil _ _); (case side2 => exact Nat.le_refl _); rintro e w12 ⟨v176, rfl, ho0, hb⟩; refine ⟨_, rfl, ?_⟩; have n0_ := Aside0.mk (Kd.R_elder' (by (with_reducible repeat (first | apply Kd.R_alloc | apply Kd.R_drewN | apply Kd.R_drew)); exact HO174.out) (Kd.R_base ho0) hb); have n1_ := Aside0.mk (Kd.R_lower (Kd.R_new' ho0 (Kd.R_lt (by (with_reducible repeat (first | apply Kd.R_alloc | apply Kd.R_drewN | apply Kd.R_drew)); exact HO174.out))) (below_size (by repeat (first | (with_reducible first | exact HB.out | apply below_alloc | apply pw_below_drewN | apply below_drew1) | exact HB.out)))); have n2_ := Aside0.mk (below_step (by repeat (first | (with_reducible first | exact HB.out | apply below_alloc | apply pw_below_drewN | apply below_drew1) | exact HB.out)) hb); clear HO174; clear HB; have HO174 := n0_; have HO177 := n1_; have HB := n2_; clear n0_ n1_ n2_; (try clear hb); (try clear hb2); (try clear hk); (try clear hi); (try clear ho0)) | ((with_reducible refine gate_builtin (b := .append) (xs := #[.tmp 21, .tmp 22]) rfl ?_); at_builtin; refine Kd.R_append_rows (Kd.int .u8) (w0 := w) w.heap.size rfl (.tmp 21) (.tmp 22) 22 5 (.int .u8 0) 1 rfl Try.underlying22 info5 rfl (by decide) (by omega) v176 t175 l2 _ _ _ (fun k_ => some k_ ≠ (.slice Ao11 t172.length co11 : Value).ownBlock) (fun _ => False) rfl rfl ?aO ?aR (fun _ _ h => h) (fun _ h => h.elim) ?aF ?aB ?aS ?aL ?_; (case aR => repeat (first | exact (Kd.C_below HR2.out HB.out) | (with_reducible refine Kd.C_alloc ?_ _) | (with_reducible refine Kd.C_drewN ?_ _) | (with_reducible refine Kd.C_drew ?_))); (case aB => exact (by repeat (first | (with_reducible first | exact HB.out | apply below_alloc | apply pw_below_drewN | apply below_drew1) | exact HB.out))); (case aF => exact (fun k_ hk => Kd.fresh' (Kd.R_lt (by (with_reducible repeat (first | apply Kd.R_alloc | apply Kd.R_drewN | apply Kd.R_drew)); exact HO174.out)) k_ hk)); (case aO => exact (by (with_reducible repeat (first | apply Kd.R_alloc | apply Kd.R_drewN | apply Kd.R_drew)); exact Kd.R_mono HO177.out (fun _ hk => hk.2))); (case aS => exact (below_size (by repeat (first | (with_reducible first | exact HB.out | apply below_alloc | apply pw_below_drewN | apply below_drew1) | exact HB.out)))); (case aL => have := LMc7.out; omega); intro v179 w13 ho hb hg hat; rw [← Ny178.out] at ho; have n0_ := Aside0.mk (Kd.R_after (ok := (fun _ => True)) (by (with_reducible repeat (first | apply Kd.R_alloc | apply Kd.R_drewN | apply Kd.R_drew)); exact HO174.out) hg hat); have n1_ := Aside0.mk (hb); have n2_ := Aside0.mk (ho); clear HO174; clear HB; clear HO177; have HO174 := n0_; have HB := n1_; have HO180 := n2_; clear n0_ n1_ n2_; clear ho hb hg hat; obtain ⟨Ao14, co14, eo14⟩ := Kd.R_slice HO180.out; subst eo14) | ((with_reducible refine gate_callee (f := 18) rfl ?_); refine goesL_ (some 24) rfl rfl Try.func18 (by kernel_rfl) rfl #[.slice Ao14 y178.length co14] rfl (by (try simp only [List.map_toArray, List.map_cons, List.map_nil]); first | done | rfl | (simp only [List.length_drop, List.length_take]; rfl)) ?_; (with_reducible refine (delta_Take.calls k _ _ y178 t181 t182 t183 _ ?side1 ?side2 A8.out).mono ?_); (case side1 => repeat (first | exact (Kd.R_reads' HO180.out).2.2 | (with_reducible refine Kd.C_alloc ?_ _) | (with_reducible refine Kd.C_drewN ?_ _) | (with_reducible refine Kd.C_drew ?_))); (case side2 => exact (Kd.R_reads' HO180.out).2.1); rintro e w15 ⟨v184, rfl, ho0, hb⟩; refine ⟨_, rfl, ?_⟩; have n0_ := Aside0.mk (Kd.R_elder' (by (with_reducible repeat (first | apply Kd.R_alloc | apply Kd.R_drewN | apply Kd.R_drew)); exact HO174.out) (Kd.R_base ho0) hb); have n1_ := Aside0.mk (Kd.R_elder' (by (with_reducible repeat (first | apply Kd.R_alloc | apply Kd.R_drewN | apply Kd.R_drew)); exact HO180.out) (Kd.R_base ho0) hb); have n2_ := Aside0.mk (Kd.R_lower (Kd.R_new' (Kd.R_new' ho0 (Kd.R_lt (by (with_reducible repeat (first | apply Kd.R_alloc | apply Kd.R_drewN | apply Kd.R_drew)); exact HO174.out))) (Kd.R_lt (by (with_reducible repeat (first | apply Kd.R_alloc | apply Kd.R_drewN | apply Kd.R_drew)); exact HO180.out))) (below_size (by repeat (first | (with_reducible first | exact HB.out | apply below_alloc | apply pw_below_drewN | apply below_drew1) | exact HB.out)))); have n3_ := Aside0.mk (below_step (by repeat (first | (with_reducible first | exact HB.out | apply below_alloc | apply pw_below_drewN | apply below_drew1) | exact HB.out)) hb); clear HO174; clear HO180; clear HB; have HO174 := n0_; have HO180 := n1_; have HO185 := n2_; have HB := n3_; clear n0_ n1_ n2_ n3_; (try clear hb); (try clear hb2); (try clear hk); (try clear hi); (try clear ho0)))
      (try simp only [Act.put, List.setIfInBounds_toArray, List.set_cons_zero, List.set_cons_succ])
      go_cut [40] (fun v40 wc => ∃ (kq : Nat) (x40_8 : Bool), v40 = .bool x40_8 ∧ Aside0 (terrkeep5_DeltaBack.j0 kq l1 l2 x40_8 = some r) ∧ Aside0 (kq ≤ k) ∧ Aside0 (Below w.heap.size w wc))
      case first =>
        have H := HC9.out
        clear HC9
        by_cases c16 : t183 = 0
        · rw [if_pos c16] at H
          have c16b0 : (t183 == 0) = true := beq_iff_eq.mpr c16
          have c16b1 : (t183 != 0) = false := bne_eq_false_iff_eq.mpr c16
          clear c16
          (first | rw [c16b0] | (simp only [i64_w, i32_w]; rw [c16b0]) | skip)
          by_cases c17 : t181 = a0
          · rw [if_pos c17] at H
            have c17b0 : (t181 == a0) = true := beq_iff_eq.mpr c17
            have c17b1 : (t181 != a0) = false := bne_eq_false_iff_eq.mpr c17
            clear c17
            replace H := Option.bind_eq_some_iff.mp H
            obtain ⟨t186, A180, H⟩ := H
            replace H : (terrkeep5_DeltaBack.j0 k l1 l2 (!t186)) = some r := H
            have A18 := Aside0.mk A180
            clear A180
            have H' := Aside0.mk H
            clear H
            obtain ⟨Ao19, co19, eo19⟩ := Kd.R_slice HO185.out
            subst eo19
            go_wp2_with (first | (go_at_call 14; (with_reducible refine (slices_Equal_byte_byte.calls k _ _ t182 _ _ l2 t186 _ ?side1 ?side2 ?side3 ?side4 A18.out).mono ?_); (case side1 => repeat (first | exact (Kd.R_reads' HO185.out).2.2 | (with_reducible refine Kd.C_alloc ?_ _) | (with_reducible refine Kd.C_drewN ?_ _) | (with_reducible refine Kd.C_drew ?_))); (case side2 => exact (Kd.R_reads' HO185.out).2.1); (case side3 => repeat (first | exact (Kd.C_below HR2.out HB.out) | (with_reducible refine Kd.C_alloc ?_ _) | (with_reducible refine Kd.C_drewN ?_ _) | (with_reducible refine Kd.C_drew ?_))); (case side4 => exact HC2.out); rintro e w' ⟨rfl, ⟨nd, rfl⟩⟩))
            go_meet
            case rel => exact ⟨_, (!t186), (by first | rfl | (simp; done) | (simp [*]; done)), H', ⟨by first | omega | exact Nat.le_refl _⟩, ⟨by repeat (first | (with_reducible first | exact HB.out | apply below_alloc | apply pw_below_drewN | apply below_drew1) | exact HB.out)⟩⟩
          · rw [if_neg c17] at H
            have c17b0 : (t181 == a0) = false := beq_eq_false_iff_ne.mpr c17
            have c17b1 : (t181 != a0) = true := bne_iff_ne.mpr c17
            have H' := Aside0.mk H
            clear H
            go_wp2
            go_meet
            case rel => exact ⟨_, (true), (by first | rfl | (simp; done) | (simp [*]; done)), H', ⟨by first | omega | exact Nat.le_refl _⟩, ⟨by repeat (first | (with_reducible first | exact HB.out | apply below_alloc | apply pw_below_drewN | apply below_drew1) | exact HB.out)⟩⟩
        · rw [if_neg c16] at H
          have c16b0 : (t183 == 0) = false := beq_eq_false_iff_ne.mpr c16
          have c16b1 : (t183 != 0) = true := bne_iff_ne.mpr c16
          (first | rw [c16b0] | (simp only [i64_w, i32_w]; rw [c16b0]) | skip)
          have H' := Aside0.mk H
          clear H
          go_wp2
          go_meet
          case rel => exact ⟨_, (true), (by first | rfl | (simp; done) | (simp [*]; done)), H', ⟨by first | omega | exact Nat.le_refl _⟩, ⟨by repeat (first | (with_reducible first | exact HB.out | apply below_alloc | apply pw_below_drewN | apply below_drew1) | exact HB.out)⟩⟩
      case rest =>
        clear HC9
        try clear c1
        try clear c2
        try clear p2
        try clear c5
        try clear c5b0
        try clear c5b1
        try clear p5
        try clear c6
        try clear c7
        try clear c15
        try clear c16
        try clear c16b0
        try clear c16b1
        try clear c17
        try clear c17b0
        try clear c17b1
        try clear c18
        obtain ⟨kq, x40_8, rfl, HA, HJ8, HB⟩ := hcut
        cases kq with
        | zero => exact absurd HA.out (by simp [terrkeep5_DeltaBack.j0])
        | succ kj8 =>
          have H := HA.out
          clear HA
          simp only [terrkeep5_DeltaBack.j0] at H
          by_cases c20 : x40_8 = true
          · subst c20
            have H1 : (some false) = some r := by rw [if_pos rfl] at H; exact H
            clear H
            have H := H1
            clear H1
            exact absurd (H.trans (congrArg some hr)) (by decide)
          · replace c20 := Bool.eq_false_iff.mpr c20
            subst c20
            have H1 : ((delta_Write.f kj8 l1).bind fun bt187 => (if bt187.2 = 0 then ((some l2).bind fun t191 => ((slices_Concat_byte_byte.f kj8 (([bt187.1, t191] : List (List Int)))).bind fun t197 => ((delta_Read.f kj8 t197).bind fun bt200 => (if bt200.2.2 = 0 then ((slices_Equal_byte_byte.f kj8 bt200.2.1 l2).bind fun t207 => (if t207 = true then ((api_Point_23.f kj8 bt200.1 l1).bind fun t208 => (some t208)) else (some false))) else (some false))))) else (some (bt187.2 == 2)))) = some r := by rw [if_neg (show ¬ (false = true) by decide)] at H; exact H
            clear H
            have H := H1
            clear H1
            replace H := Option.bind_eq_some_iff.mp H
            obtain ⟨⟨t187, t188⟩, A210, H⟩ := H
            replace H : (if t188 = 0 then ((some l2).bind fun t191 => ((slices_Concat_byte_byte.f kj8 (([t187, t191] : List (List Int)))).bind fun t197 => ((delta_Read.f kj8 t197).bind fun bt200 => (if bt200.2.2 = 0 then ((slices_Equal_byte_byte.f kj8 bt200.2.1 l2).bind fun t207 => (if t207 = true then ((api_Point_23.f kj8 bt200.1 l1).bind fun t208 => (some t208)) else (some false))) else (some false))))) else (some (t188 == 2))) = some r := H
            have A21 := Aside0.mk A210
            clear A210
            by_cases c22 : t188 = 0
            · rw [if_pos c22] at H
              have c22b0 : (t188 == 0) = true := beq_iff_eq.mpr c22
              have c22b1 : (t188 != 0) = false := bne_eq_false_iff_eq.mpr c22
              clear c22
              replace H := Option.bind_eq_some_iff.mp H
              obtain ⟨t191, A230, H⟩ := H
              replace H : ((slices_Concat_byte_byte.f kj8 (([t187, t191] : List (List Int)))).bind fun t197 => ((delta_Read.f kj8 t197).bind fun bt200 => (if bt200.2.2 = 0 then ((slices_Equal_byte_byte.f kj8 bt200.2.1 l2).bind fun t207 => (if t207 = true then ((api_Point_23.f kj8 bt200.1 l1).bind fun t208 => (some t208)) else (some false))) else (some false)))) = some r := H
              have A23 := Aside0.mk A230
              clear A230
              have e23 := Option.some.inj A23.out
              subst e23
              obtain ⟨y194, hy194⟩ : ∃ y_ : List (List Int), y_ = (([t187, l2] : List (List Int))) := ⟨_, rfl⟩
              replace H : ((slices_Concat_byte_byte.f kj8 y194).bind fun t197 => ((delta_Read.f kj8 t197).bind fun bt200 => (if bt200.2.2 = 0 then ((slices_Equal_byte_byte.f kj8 bt200.2.1 l2).bind fun t207 => (if t207 = true then ((api_Point_23.f kj8 bt200.1 l1).bind fun t208 => (some t208)) else (some false))) else (some false)))) = some r := by first | (rw [hy194]; with_reducible exact H) | (have H2_ := (Option.bind_some _ _).symm.trans H; rw [hy194]; with_reducible exact H2_) | (have H2_ := (Option.bind_some _ _).symm.trans H; with_reducible exact H2_) | with_reducible exact H | (rw [hy194]; exact H) | exact H
              have Ny194 := Aside0.mk hy194
              clear hy194
              replace H := Option.bind_eq_some_iff.mp H
              obtain ⟨t197, A240, H⟩ := H
              replace H : ((delta_Read.f kj8 t197).bind fun bt200 => (if bt200.2.2 = 0 then ((slices_Equal_byte_byte.f kj8 bt200.2.1 l2).bind fun t207 => (if t207 = true then ((api_Point_23.f kj8 bt200.1 l1).bind fun t208 => (some t208)) else (some false))) else (some false))) = some r := H
              have A24 := Aside0.mk A240
              clear A240
              replace H := Option.bind_eq_some_iff.mp H
              obtain ⟨⟨t200, t201, t202⟩, A250, H⟩ := H
              replace H : (if t202 = 0 then ((slices_Equal_byte_byte.f kj8 t201 l2).bind fun t207 => (if t207 = true then ((api_Point_23.f kj8 t200 l1).bind fun t208 => (some t208)) else (some false))) else (some false)) = some r := H
              have A25 := Aside0.mk A250
              clear A250
              by_cases c26 : t202 = 0
              · rw [if_pos c26] at H
                have c26b0 : (t202 == 0) = true := beq_iff_eq.mpr c26
                have c26b1 : (t202 != 0) = false := bne_eq_false_iff_eq.mpr c26
                clear c26
                replace H := Option.bind_eq_some_iff.mp H
                obtain ⟨t207, A270, H⟩ := H
                replace H : (if t207 = true then ((api_Point_23.f kj8 t200 l1).bind fun t208 => (some t208)) else (some false)) = some r := H
                have A27 := Aside0.mk A270
                clear A270
                by_cases c28 : t207 = true
                · subst c28
                  have H1 : ((api_Point_23.f kj8 t200 l1).bind fun t208 => (some t208)) = some r := by rw [if_pos rfl] at H; exact H
                  clear H
                  have H := H1
                  clear H1
                  replace H := Option.bind_eq_some_iff.mp H
                  obtain ⟨t208, A290, H⟩ := H
                  replace H : (some t208) = some r := H
                  have A29 := Aside0.mk A290
                  clear A290
                  clear hr
                  obtain rfl := Option.some.inj H
                  go_wp2_with (first | ((with_reducible refine gate_callee (f := 20) rfl ?_); refine goesL_ (some 43) rfl rfl Try.func20 (by kernel_rfl) rfl #[.slice A1 l1.length c1] rfl (by (try simp only [List.map_toArray, List.map_cons, List.map_nil]); first | done | rfl | (simp only [List.length_drop, List.length_take]; rfl)) ?_; (with_reducible refine (delta_Write.calls kj8 _ _ l1 t187 t188 _ ?side1 ?side2 A21.out).mono ?_); (case side1 => repeat (first | exact (Kd.C_below HR1.out HB.out) | (with_reducible refine Kd.C_alloc ?_ _) | (with_reducible refine Kd.C_drewN ?_ _) | (with_reducible refine Kd.C_drew ?_))); (case side2 => exact HC1.out); rintro e w30 ⟨v189, rfl, ho0, hb⟩; refine ⟨_, rfl, ?_⟩; have n0_ := Aside0.mk (Kd.R_lower ho0 (below_size (by repeat (first | (with_reducible first | exact HB.out | apply below_alloc | apply pw_below_drewN | apply below_drew1) | exact HB.out)))); have n1_ := Aside0.mk (below_step (by repeat (first | (with_reducible first | exact HB.out | apply below_alloc | apply pw_below_drewN | apply below_drew1) | exact HB.out)) hb); clear HB; have HO190 := n0_; have HB := n1_; clear n0_ n1_; (try clear hb); (try clear hb2); (try clear hk); (try clear hi); (try clear ho0); obtain ⟨Ao32, co32, eo32⟩ := Kd.R_slice HO190.out; subst eo32) | ((with_reducible refine gate_dst (N := 53) rfl ?_); (try (refine gate_guard (by rfl) ?_; dsimp only)); refine C_lit2 ?hg (N := 53) ?hd (A1 := Ao32) (c1 := co32) (l1 := t187) (A2 := A2) (c2 := c2) (l2 := l2) ?hr ?h1 (Kd.R_reads' HO190.out).2.1 (Kd.C_below HR2.out (by repeat (first | (with_reducible first | exact HB.out | apply below_alloc | apply pw_below_drewN | apply below_drew1) | exact HB.out))) HC2.out ?_; (case hd => rfl); (case hg => rfl); (case hr => first | (go_simp; done) | (go_simp; rfl)); (case h1 => repeat (first | exact (Kd.R_reads' HO190.out).2.2 | (with_reducible refine Kd.C_alloc ?_ _) | (with_reducible refine Kd.C_drewN ?_ _) | (with_reducible refine Kd.C_drew ?_))); intro gC wC hC hb; clear HO190; have nb_ := Aside0.mk (below_step (by repeat (first | (with_reducible first | exact HB.out | apply below_alloc | apply pw_below_drewN | apply below_drew1) | exact HB.out)) hb); clear HB; have HB := nb_; clear nb_; have HCC := Aside0.mk hC; clear hb hC) | ((with_reducible refine gate_callee (f := 16) rfl ?_); refine goesL_ (some 54) rfl rfl Try.func16 (by kernel_rfl) rfl #[.slice (some ⟨gC, 0, none⟩) 2 2] rfl (by (try simp only [List.map_toArray, List.map_cons, List.map_nil]); first | done | rfl | (simp only [List.length_drop, List.length_take]; rfl)) ?_; (refine (slices_Concat_byte_byte.calls kj8 _ _ [t187, l2] t197 _ HCC.out (Nat.le_refl 2) (by rw [← Ny194.out]; exact A24.out)).mono ?_); rintro e w37 ⟨v198, rfl, ho0, hb⟩; refine ⟨_, rfl, ?_⟩; have HO199 := Aside0.mk (Kd.R_lower ho0 (below_size (by repeat (first | (with_reducible first | exact HB.out | apply below_alloc | apply pw_below_drewN | apply below_drew1) | exact HB.out)))); clear HCC; have nb_ := Aside0.mk (below_step (by repeat (first | (with_reducible first | exact HB.out | apply below_alloc | apply pw_below_drewN | apply below_drew1) | exact HB.out)) hb); clear HB; have HB := nb_; clear nb_; clear hb ho0; obtain ⟨Ao38, co38, eo38⟩ := Kd.R_slice HO199.out; subst eo38) | ((with_reducible refine gate_callee (f := 11) rfl ?_); refine goesL_ (some 55) rfl rfl Try.func11 (by kernel_rfl) rfl #[.slice Ao38 t197.length co38] rfl (by (try simp only [List.map_toArray, List.map_cons, List.map_nil]); first | done | rfl | (simp only [List.length_drop, List.length_take]; rfl)) ?_; (with_reducible refine (delta_Read.calls kj8 _ _ t197 t200 t201 t202 _ ?side1 ?side2 A25.out).mono ?_); (case side1 => repeat (first | exact (Kd.R_reads' HO199.out).2.2 | (with_reducible refine Kd.C_alloc ?_ _) | (with_reducible refine Kd.C_drewN ?_ _) | (with_reducible refine Kd.C_drew ?_))); (case side2 => exact (Kd.R_reads' HO199.out).2.1); rintro e w39 ⟨v203, v205, rfl, ho0, ho1, hb⟩; refine ⟨_, rfl, ?_⟩; have n2_ := Aside0.mk (Kd.N_lower (Kd.N_mono (ok' := fun k_ => some k_ ≠ (v205 : Value).ownBlock) (Kd.S_N (Kd.S_bound (Kd.S_apart' ho0 (Kd.R_typed ho1) (by decide)))) (fun k_ hk_ => hk_.1.2)) (below_size (by repeat (first | (with_reducible first | exact HB.out | apply below_alloc | apply pw_below_drewN | apply below_drew1) | exact HB.out)))); have n3_ := Aside0.mk (Kd.R_lower ho1 (below_size (by repeat (first | (with_reducible first | exact HB.out | apply below_alloc | apply pw_below_drewN | apply below_drew1) | exact HB.out)))); clear HO199; have nb_ := Aside0.mk (below_step (by repeat (first | (with_reducible first | exact HB.out | apply below_alloc | apply pw_below_drewN | apply below_drew1) | exact HB.out)) hb); clear HB; have HB := nb_; clear nb_; have HO204 := n2_; have HO206 := n3_; clear n2_ n3_ hb ho0 ho1; obtain ⟨Ao40, co40, eo40⟩ := Kd.R_slice HO206.out; subst eo40) | (go_at_call 14; (with_reducible refine (slices_Equal_byte_byte.calls kj8 _ _ t201 _ _ l2 true _ ?side1 ?side2 ?side3 ?side4 A27.out).mono ?_); (case side1 => repeat (first | exact (Kd.R_reads' HO206.out).2.2 | (with_reducible refine Kd.C_alloc ?_ _) | (with_reducible refine Kd.C_drewN ?_ _) | (with_reducible refine Kd.C_drew ?_))); (case side2 => exact (Kd.R_reads' HO206.out).2.1); (case side3 => repeat (first | exact (Kd.C_below HR2.out HB.out) | (with_reducible refine Kd.C_alloc ?_ _) | (with_reducible refine Kd.C_drewN ?_ _) | (with_reducible refine Kd.C_drew ?_))); (case side4 => exact HC2.out); rintro e w' ⟨rfl, ⟨nd, rfl⟩⟩; obtain ⟨Ao41, co41, eo41⟩ := Kd.N_slice HO204.out; subst eo41) | (go_at_call 23; (with_reducible refine (api_Point_23.calls kj8 _ _ t200 _ _ l1 t208 _ ?side1 ?side2 ?side3 ?side4 A29.out).mono ?_); (case side1 => repeat (first | exact (Kd.N_reads' HO204.out).2.2 | (with_reducible refine Kd.C_alloc ?_ _) | (with_reducible refine Kd.C_drewN ?_ _) | (with_reducible refine Kd.C_drew ?_))); (case side2 => exact (Kd.N_reads' HO204.out).2.1); (case side3 => repeat (first | exact (Kd.C_below HR1.out (by repeat (first | (with_reducible first | exact HB.out | apply below_alloc | apply pw_below_drewN | apply below_drew1) | exact HB.out))) | (with_reducible refine Kd.C_alloc ?_ _) | (with_reducible refine Kd.C_drewN ?_ _) | (with_reducible refine Kd.C_drew ?_))); (case side4 => exact HC1.out); rintro e w' ⟨rfl, ⟨nd, rfl⟩⟩))
                  go_ret
                  exact ⟨by first | rfl | (simp [errW_none, errW_some] <;> rfl) | (simp [*, errW_none, errW_some] <;> rfl), by repeat (first | (with_reducible first | exact HB.out | apply below_alloc | apply pw_below_drewN | apply below_drew1) | exact HB.out)⟩
                · replace c28 := Bool.eq_false_iff.mpr c28
                  subst c28
                  have H1 : (some false) = some r := by rw [if_neg (show ¬ (false = true) by decide)] at H; exact H
                  clear H
                  have H := H1
                  clear H1
                  exact absurd (H.trans (congrArg some hr)) (by decide)
              · rw [if_neg c26] at H
                have c26b0 : (t202 == 0) = false := beq_eq_false_iff_ne.mpr c26
                have c26b1 : (t202 != 0) = true := bne_iff_ne.mpr c26
                exact absurd (H.trans (congrArg some hr)) (by decide)
            · rw [if_neg c22] at H
              have c22b0 : (t188 == 0) = false := beq_eq_false_iff_ne.mpr c22
              have c22b1 : (t188 != 0) = true := bne_iff_ne.mpr c22
              clear hr
              obtain rfl := Option.some.inj H
              go_wp2_with (first | ((with_reducible refine gate_callee (f := 20) rfl ?_); refine goesL_ (some 43) rfl rfl Try.func20 (by kernel_rfl) rfl #[.slice A1 l1.length c1] rfl (by (try simp only [List.map_toArray, List.map_cons, List.map_nil]); first | done | rfl | (simp only [List.length_drop, List.length_take]; rfl)) ?_; (with_reducible refine (delta_Write.calls kj8 _ _ l1 t187 t188 _ ?side1 ?side2 A21.out).mono ?_); (case side1 => repeat (first | exact (Kd.C_below HR1.out HB.out) | (with_reducible refine Kd.C_alloc ?_ _) | (with_reducible refine Kd.C_drewN ?_ _) | (with_reducible refine Kd.C_drew ?_))); (case side2 => exact HC1.out); rintro e w42 ⟨v189, rfl, ho0, hb⟩; refine ⟨_, rfl, ?_⟩; have n0_ := Aside0.mk (Kd.R_lower ho0 (below_size (by repeat (first | (with_reducible first | exact HB.out | apply below_alloc | apply pw_below_drewN | apply below_drew1) | exact HB.out)))); have n1_ := Aside0.mk (below_step (by repeat (first | (with_reducible first | exact HB.out | apply below_alloc | apply pw_below_drewN | apply below_drew1) | exact HB.out)) hb); clear HB; have HO190 := n0_; have HB := n1_; clear n0_ n1_; (try clear hb); (try clear hb2); (try clear hk); (try clear hi); (try clear ho0)))
              go_ret
              exact ⟨by first | rfl | (simp [errW_none, errW_some] <;> rfl) | (simp [*, errW_none, errW_some] <;> rfl), by repeat (first | (with_reducible first | exact HB.out | apply below_alloc | apply pw_below_drewN | apply below_drew1) | exact HB.out)⟩
    · rw [if_neg c7] at H
      exact absurd H (by simp)
  · rw [if_neg c5] at H
    have c5b0 : ((t172.length : Int) == 2) = false := beq_eq_false_iff_ne.mpr c5
    have c5b1 : ((t172.length : Int) != 2) = true := bne_iff_ne.mpr c5
    exact absurd (H.trans (congrArg some hr)) (by decide)
end Go.Proofs.Ytjgoehhhjffpmaa.Q

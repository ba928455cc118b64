/- What the Go function terrlaw5_PackReads comes to, and its contract. Condition: its printed twin gives an answer, which is true. -/
import Derived.Test.YtjgoehhhjffpmaaZrQf35
import Derived.Test.YtjgoehhhjffpmaaZrQf36
import Derived.Test.YtjgoehhhjffpmaaZrQf29
import Derived.Test.YtjgoehhhjffpmaaZrQf34
namespace Go.Proofs.Ytjgoehhhjffpmaa.Q
open Go.RowKit Go.Proofs.YtjgoehhhjffpmaaW.PrintWords Go.Proofs.YtjgoehhhjffpmaaW.PrintLast Go.Proofs.YtjgoehhhjffpmaaW.PrintMore
attribute [local go_sem] max2_int min2_int max_two min_two max_three min_three max_four min_four
set_option linter.unusedVariables false
set_option linter.unusedSimpArgs false
/-! ### terrlaw5_PackReads: function 8 -/
def terrlaw5_PackReads.j0 : Nat → List Int → Bool → Option (Bool)
  | 0, _, _ => none
  | k + 1, x0, x25 => if x25 = true then (some false) else ((pack_Read.f k x0).bind fun bt400 => ((terrref5_Unpacked.f k x0).bind fun bt404 => (if bt400.2 = bt404.2 then ((terrref5_SameDraws.f k bt400.1 bt404.1).bind fun t408 => (some t408)) else (some false))))
def terrlaw5_PackReads.f (k : Nat) (l0 : List Int) : Option (Bool) := (terrref5_Packed.f k (([(⟨1, 0, 0, 0, (([(([(⟨0, 0⟩ : S44)] : List (S44)))] : List (List (S44)))), (⟨#[]⟩ : ByteArray)⟩ : S48)] : List (S48)))).bind fun t393 => ((pack_Read.f k t393).bind fun bt396 => (if bt396.2 = 0 then (terrlaw5_PackReads.j0 k l0 ((bt396.1.length : Int) != 1)) else (terrlaw5_PackReads.j0 k l0 true)))
set_option maxHeartbeats 8000000 in
set_option maxRecDepth 100000 in
theorem terrlaw5_PackReads.calls (k : Nat) (A0 : Option Addr) (c0 : Nat) (l0 : List Int) (r : Bool) (w : World) (hr0 : Kd.C (Kd.int .u8) w A0 l0.length l0) (hc0 : l0.length ≤ c0) (h : terrlaw5_PackReads.f k l0 = some r) (hr : r = true) :
    Calls Try.prog 8 #[.slice A0 l0.length c0] w fun e w' => e = .returned (.bool r) ∧ Below w.heap.size w w' := by
  have hu44 := Try.underlying44
  have hu48 := Try.underlying48
  have HR0 := Aside0.mk hr0
  have HC0 := Aside0.mk hc0
  clear hr0 hc0
  have HB := Aside0.mk (Below.refl w.heap.size w)
  have H : ((terrref5_Packed.f k (([(⟨1, 0, 0, 0, (([(([(⟨0, 0⟩ : S44)] : List (S44)))] : List (List (S44)))), (⟨#[]⟩ : ByteArray)⟩ : S48)] : List (S48)))).bind fun t393 => ((pack_Read.f k t393).bind fun bt396 => (if bt396.2 = 0 then (terrlaw5_PackReads.j0 k l0 ((bt396.1.length : Int) != 1)) else (terrlaw5_PackReads.j0 k l0 true)))) = some r := h
  clear h
  obtain ⟨y384, hy384⟩ : ∃ y_ : List (S44), y_ = (([(⟨0, 0⟩ : S44)] : List (S44))) := ⟨_, rfl⟩
  replace H : ((terrref5_Packed.f k (([(⟨1, 0, 0, 0, (([y384] : List (List (S44)))), (⟨#[]⟩ : ByteArray)⟩ : S48)] : List (S48)))).bind fun t393 => ((pack_Read.f k t393).bind fun bt396 => (if bt396.2 = 0 then (terrlaw5_PackReads.j0 k l0 ((bt396.1.length : Int) != 1)) else (terrlaw5_PackReads.j0 k l0 true)))) = some r := by first | (rw [hy384]; with_reducible exact H) | (have H2_ := (Option.bind_some _ _).symm.trans H; rw [hy384]; with_reducible exact H2_) | (have H2_ := (Option.bind_some _ _).symm.trans H; with_reducible exact H2_) | with_reducible exact H | (rw [hy384]; exact H) | exact H
  have Ny384 := Aside0.mk hy384
  clear hy384
  obtain ⟨y387, hy387⟩ : ∃ y_ : List (List (S44)), y_ = (([y384] : List (List (S44)))) := ⟨_, rfl⟩
  replace H : ((terrref5_Packed.f k (([(⟨1, 0, 0, 0, y387, (⟨#[]⟩ : ByteArray)⟩ : S48)] : List (S48)))).bind fun t393 => ((pack_Read.f k t393).bind fun bt396 => (if bt396.2 = 0 then (terrlaw5_PackReads.j0 k l0 ((bt396.1.length : Int) != 1)) else (terrlaw5_PackReads.j0 k l0 true)))) = some r := by first | (rw [hy387]; with_reducible exact H) | (have H2_ := (Option.bind_some _ _).symm.trans H; rw [hy387]; with_reducible exact H2_) | (have H2_ := (Option.bind_some _ _).symm.trans H; with_reducible exact H2_) | with_reducible exact H | (rw [hy387]; exact H) | exact H
  have Ny387 := Aside0.mk hy387
  clear hy387
  obtain ⟨y390, hy390⟩ : ∃ y_ : List (S48), y_ = (([(⟨1, 0, 0, 0, y387, (⟨#[]⟩ : ByteArray)⟩ : S48)] : List (S48))) := ⟨_, rfl⟩
  replace H : ((terrref5_Packed.f k y390).bind fun t393 => ((pack_Read.f k t393).bind fun bt396 => (if bt396.2 = 0 then (terrlaw5_PackReads.j0 k l0 ((bt396.1.length : Int) != 1)) else (terrlaw5_PackReads.j0 k l0 true)))) = some r := by first | (rw [hy390]; with_reducible exact H) | (have H2_ := (Option.bind_some _ _).symm.trans H; rw [hy390]; with_reducible exact H2_) | (have H2_ := (Option.bind_some _ _).symm.trans H; with_reducible exact H2_) | with_reducible exact H | (rw [hy390]; exact H) | exact H
  have Ny390 := Aside0.mk hy390
  clear hy390
  replace H := Option.bind_eq_some_iff.mp H
  obtain ⟨t393, A20, H⟩ := H
  replace H : ((pack_Read.f k t393).bind fun bt396 => (if bt396.2 = 0 then (terrlaw5_PackReads.j0 k l0 ((bt396.1.length : Int) != 1)) else (terrlaw5_PackReads.j0 k l0 true))) = some r := H
  have A2 := Aside0.mk A20
  clear A20
  replace H := Option.bind_eq_some_iff.mp H
  obtain ⟨⟨t396, t397⟩, A30, H⟩ := H
  replace H : (if t397 = 0 then (terrlaw5_PackReads.j0 k l0 ((t396.length : Int) != 1)) else (terrlaw5_PackReads.j0 k l0 true)) = some r := H
  have A3 := Aside0.mk A30
  clear A30
  have HC4 := Aside0.mk H
  clear H
  go_enter Try.func8, Try.ntmps8
  go_upto_region 2 with (first | ((with_reducible refine gate_dst (N := 11) rfl ?_); (try (refine gate_guard (by rfl) ?_; dsimp only)); refine Kd.R_lit k44 _ 44 ?hg (N := 11) ?hd (xs := ([(⟨0, 0⟩ : S44)] : List (S44))) (inner := [.int .i64 0, .int .i64 0]) (ok := fun _ => True) (okp := fun _ => True) ?hr ?hp (fun _ hk => hk) trivial (Below.refl _ _) (Nat.le_refl _) (by simp) ?_; (case hd => rfl); (case hg => rfl); (case hr => first | (go_simp; done) | (go_simp; rfl)); (case hp => exact (Reps.c2 (show Kd.M k44 _ _ _ (⟨0, 0⟩ : S44) [.int .i64 0, .int .i64 0] from (k44_mkM _ _ _ (⟨0, 0⟩ : S44) )) (Reps.none _ _))); intro v385 w5 ho6 hb hg_ hnew_; clear hg_ hnew_; (first | rw [← Ny384.out] at ho6 | (simp only [Int.reduceToNat] at ho6; rw [← Ny384.out] at ho6)); have HO386 := Aside0.mk (Kd.R_lower ho6 (below_size (by repeat (first | (with_reducible first | exact HB.out | apply below_alloc | apply pw_below_drewN | apply below_drew1) | exact HB.out)))); replace HB := Aside0.mk (below_step (by repeat (first | (with_reducible first | exact HB.out | apply below_alloc | apply pw_below_drewN | apply below_drew1) | exact HB.out)) hb); clear hb ho6; obtain ⟨Ao7, co7, eo7⟩ := Kd.R_slice HO386.out; subst eo7) | ((with_reducible refine gate_dst (N := 12) rfl ?_); (try (refine gate_guard (by rfl) ?_; dsimp only)); refine Kd.N_lit (Kd.slice 44 k44) _ 35 ?hg (N' := 12) ?hd (xs := ([y384] : List (List (S44)))) (inner := [.slice Ao7 y384.length co7]) (ok := (fun _ => True)) (okp := (fun _ => True)) ?hr ?hp (fun _ hk => hk) ((show ∀ k_, w5.heap.size ≤ k_ → (fun _ => True) k_ from fun k_ hk => trivial) _ (Nat.le_refl _)) (Below.refl _ _) (Nat.le_refl _) (by simp) ?_; (case hd => rfl); (case hg => rfl); (case hr => first | (go_simp; done) | (go_simp; rfl)); (case hp => exact (Reps.one (show Kd.FK (Kd.slice 44 k44) _ _ y384 [.slice Ao7 y384.length co7] from (Kd.FK_slice_mk (Kd.R_reads' (Kd.R_mono (ok' := (fun _ => True)) (HO386.out) (fun k_ hk => trivial))).2.1 (Kd.R_F (Kd.R_mono (ok' := (fun _ => True)) (HO386.out) (fun k_ hk => trivial))))) (Reps.none _ _))); intro v388 w8 ho9 hb hg_ hnew_; clear hg_ hnew_; (first | rw [← Ny387.out] at ho9 | (simp only [Int.reduceToNat] at ho9; rw [← Ny387.out] at ho9)); have HO389 := Aside0.mk (Kd.N_lower ho9 (below_size (by repeat (first | (with_reducible first | exact HB.out | apply below_alloc | apply pw_below_drewN | apply below_drew1) | exact HB.out)))); replace HB := Aside0.mk (below_step (by repeat (first | (with_reducible first | exact HB.out | apply below_alloc | apply pw_below_drewN | apply below_drew1) | exact HB.out)) hb); clear HO386 hb ho9; obtain ⟨Ao10, co10, eo10⟩ := Kd.N_slice HO389.out; subst eo10) | ((with_reducible refine gate_dst (N := 14) rfl ?_); (try (refine gate_guard (by rfl) ?_; dsimp only)); refine Kd.N_lit k48 _ 48 ?hg (N' := 14) ?hd (xs := ([(⟨1, 0, 0, 0, y387, (⟨#[]⟩ : ByteArray)⟩ : S48)] : List (S48))) (inner := [.int .i64 1, .int .i64 0, .int .i64 0, .int .i64 0, .slice Ao10 y387.length co10, .string (⟨#[]⟩ : ByteArray)]) (ok := (fun _ => True)) (okp := (fun _ => True)) ?hr ?hp (fun _ hk => hk) ((show ∀ k_, w8.heap.size ≤ k_ → (fun _ => True) k_ from fun k_ hk => trivial) _ (Nat.le_refl _)) (Below.refl _ _) (Nat.le_refl _) (by simp) ?_; (case hd => rfl); (case hg => rfl); (case hr => first | (go_simp; done) | (go_simp; rfl)); (case hp => exact (Reps.c6 (show Kd.FK k48 _ _ (⟨1, 0, 0, 0, y387, (⟨#[]⟩ : ByteArray)⟩ : S48) [.int .i64 1, .int .i64 0, .int .i64 0, .int .i64 0, .slice Ao10 y387.length co10, .string (⟨#[]⟩ : ByteArray)] from (k48_mkF _ _ (⟨1, 0, 0, 0, y387, (⟨#[]⟩ : ByteArray)⟩ : S48) (Kd.N_reads' (Kd.N_mono (ok' := (fun _ => True)) (HO389.out) (fun k_ hk => trivial))).2.1 (Kd.N_F (Kd.N_mono (ok' := (fun _ => True)) (HO389.out) (fun k_ hk => trivial))))) (Reps.none _ _))); intro v391 w11 ho12 hb hg_ hnew_; clear hg_ hnew_; (first | rw [← Ny390.out] at ho12 | (simp only [Int.reduceToNat] at ho12; rw [← Ny390.out] at ho12)); have HO392 := Aside0.mk (Kd.N_lower ho12 (below_size (by repeat (first | (with_reducible first | exact HB.out | apply below_alloc | apply pw_below_drewN | apply below_drew1) | exact HB.out)))); replace HB := Aside0.mk (below_step (by repeat (first | (with_reducible first | exact HB.out | apply below_alloc | apply pw_below_drewN | apply below_drew1) | exact HB.out)) hb); clear HO389 hb ho12; obtain ⟨Ao13, co13, eo13⟩ := Kd.N_slice HO392.out; subst eo13) | ((with_reducible refine gate_callee (f := 34) rfl ?_); refine goesL_ (some 15) rfl rfl Try.func34 (by kernel_rfl) rfl #[.slice Ao13 y390.length co13] rfl (by (try simp only [List.map_toArray, List.map_cons, List.map_nil]); first | done | rfl | (simp only [List.length_drop, List.length_take]; rfl)) ?_; (with_reducible refine (terrref5_Packed.calls k _ _ y390 t393 _ ?side1 ?side2 A2.out).mono ?_); (case side1 => repeat (first | exact (Kd.N_reads' HO392.out).2.2 | (with_reducible refine Kd.C_alloc ?_ _) | (with_reducible refine Kd.C_drewN ?_ _) | (with_reducible refine Kd.C_drew ?_))); (case side2 => exact (Kd.N_reads' HO392.out).2.1); rintro e w14 ⟨v394, rfl, ho0, hb⟩; refine ⟨_, rfl, ?_⟩; have HO395 := Aside0.mk (Kd.R_lower ho0 (below_size (by repeat (first | (with_reducible first | exact HB.out | apply below_alloc | apply pw_below_drewN | apply below_drew1) | exact HB.out)))); replace HO392 := Aside0.mk (Kd.N_elder' (by (with_reducible repeat (first | apply Kd.N_alloc | apply Kd.N_drewN | apply Kd.N_drew)); exact HO392.out) (Kd.R_base ho0) hb); replace HB := Aside0.mk (below_step (by repeat (first | (with_reducible first | exact HB.out | apply below_alloc | apply pw_below_drewN | apply below_drew1) | exact HB.out)) hb); (try clear hb); (try clear hb2); (try clear hk); (try clear hi); (try clear ho0); obtain ⟨Ao15, co15, eo15⟩ := Kd.R_slice HO395.out; subst eo15) | ((with_reducible refine gate_callee (f := 35) rfl ?_); refine goesL_ (some 16) rfl rfl Try.func35 (by kernel_rfl) rfl #[.slice Ao15 t393.length co15] rfl (by (try simp only [List.map_toArray, List.map_cons, List.map_nil]); first | done | rfl | (simp only [List.length_drop, List.length_take]; rfl)) ?_; (with_reducible refine (pack_Read.calls k _ _ t393 t396 t397 _ ?side1 ?side2 A3.out).mono ?_); (case side1 => repeat (first | exact (Kd.R_reads' HO395.out).2.2 | (with_reducible refine Kd.C_alloc ?_ _) | (with_reducible refine Kd.C_drewN ?_ _) | (with_reducible refine Kd.C_drew ?_))); (case side2 => exact (Kd.R_reads' HO395.out).2.1); rintro e w16 ⟨v398, rfl, ho0, hb⟩; refine ⟨_, rfl, ?_⟩; have HO399 := Aside0.mk ho0; replace HB := Aside0.mk (below_step (by repeat (first | (with_reducible first | exact HB.out | apply below_alloc | apply pw_below_drewN | apply below_drew1) | exact HB.out)) hb); clear HO392 HO395 hb ho0))
  (try simp only [Act.put, List.setIfInBounds_toArray, List.set_cons_zero, List.set_cons_succ])
  go_cut [25] (fun v25 wc => ∃ (kq : Nat) (x25_3 : Bool), v25 = .bool x25_3 ∧ Aside0 (terrlaw5_PackReads.j0 kq l0 x25_3 = some r) ∧ Aside0 (kq ≤ k) ∧ Aside0 (Below w.heap.size w wc))
  case first =>
    have H := HC4.out
    clear HC4
    by_cases c17 : t397 = 0
    rotate_left
    · rw [if_neg c17] at H
      have c17b0 : (t397 == 0) = false := beq_eq_false_iff_ne.mpr c17
      have c17b1 : (t397 != 0) = true := bne_iff_ne.mpr c17
      (first | rw [c17b0] | (simp only [i64_w, i32_w]; rw [c17b0]) | skip)
      have H' := Aside0.mk H
      clear H
      go_wp2
      go_meet
      case rel => exact ⟨_, (true), (by first | rfl | (simp; done) | (simp [*]; done)), H', ⟨by first | omega | exact Nat.le_refl _⟩, ⟨by repeat (first | (with_reducible first | exact HB.out | apply below_alloc | apply pw_below_drewN | apply below_drew1) | exact HB.out)⟩⟩
    rw [if_pos c17] at H
    have c17b0 : (t397 == 0) = true := beq_iff_eq.mpr c17
    have c17b1 : (t397 != 0) = false := bne_eq_false_iff_eq.mpr c17
    clear c17
    (first | rw [c17b0] | (simp only [i64_w, i32_w]; rw [c17b0]) | skip)
    have H' := Aside0.mk H
    clear H
    obtain ⟨Ao18, co18, eo18⟩ := Kd.R_slice HO399.out
    subst eo18
    go_wp2
    go_meet
    case rel => exact ⟨_, (((t396.length : Int) != 1)), (by first | rfl | (simp; done) | (simp [*]; done)), H', ⟨by first | omega | exact Nat.le_refl _⟩, ⟨by repeat (first | (with_reducible first | exact HB.out | apply below_alloc | apply pw_below_drewN | apply below_drew1) | exact HB.out)⟩⟩
  case rest =>
    clear HC4
    try clear c2
    try clear c6
    obtain ⟨kq, x25_3, rfl, HA, HJ3, HB⟩ := hcut
    cases kq with
    | zero => exact absurd HA.out (by simp [terrlaw5_PackReads.j0])
    | succ kj3 =>
      have H := HA.out
      clear HA
      simp only [terrlaw5_PackReads.j0] at H
      by_cases c19 : x25_3 = true
      · subst c19
        have H1 : (some false) = some r := by rw [if_pos rfl] at H; exact H
        clear H
        have H := H1
        clear H1
        exact absurd (H.trans (congrArg some hr)) (by decide)
      replace c19 := Bool.eq_false_iff.mpr c19
      subst c19
      have H1 : ((pack_Read.f kj3 l0).bind fun bt400 => ((terrref5_Unpacked.f kj3 l0).bind fun bt404 => (if bt400.2 = bt404.2 then ((terrref5_SameDraws.f kj3 bt400.1 bt404.1).bind fun t408 => (some t408)) else (some false)))) = some r := by rw [if_neg (show ¬ (false = true) by decide)] at H; exact H
      clear H
      have H := H1
      clear H1
      replace H := Option.bind_eq_some_iff.mp H
      obtain ⟨⟨t400, t401⟩, A200, H⟩ := H
      replace H : ((terrref5_Unpacked.f kj3 l0).bind fun bt404 => (if t401 = bt404.2 then ((terrref5_SameDraws.f kj3 t400 bt404.1).bind fun t408 => (some t408)) else (some false))) = some r := H
      have A20 := Aside0.mk A200
      clear A200
      replace H := Option.bind_eq_some_iff.mp H
      obtain ⟨⟨t404, t405⟩, A210, H⟩ := H
      replace H : (if t401 = t405 then ((terrref5_SameDraws.f kj3 t400 t404).bind fun t408 => (some t408)) else (some false)) = some r := H
      have A21 := Aside0.mk A210
      clear A210
      by_cases c22 : t401 = t405
      rotate_left
      · rw [if_neg c22] at H
        have c22b0 : (t401 == t405) = false := beq_eq_false_iff_ne.mpr c22
        have c22b1 : (t401 != t405) = true := bne_iff_ne.mpr c22
        exact absurd (H.trans (congrArg some hr)) (by decide)
      rw [if_pos c22] at H
      have c22b0 : (t401 == t405) = true := beq_iff_eq.mpr c22
      have c22b1 : (t401 != t405) = false := bne_eq_false_iff_eq.mpr c22
      clear c22
      replace H := Option.bind_eq_some_iff.mp H
      obtain ⟨t408, A230, H⟩ := H
      replace H : (some t408) = some r := H
      have A23 := Aside0.mk A230
      clear A230 hr
      obtain rfl := Option.some.inj H
      go_wp2_with (first | ((with_reducible refine gate_callee (f := 35) rfl ?_); refine goesL_ (some 28) rfl rfl Try.func35 (by kernel_rfl) rfl #[.slice A0 l0.length c0] rfl (by (try simp only [List.map_toArray, List.map_cons, List.map_nil]); first | done | rfl) ?_; (with_reducible refine (pack_Read.calls kj3 _ _ l0 t400 t401 _ ?side1 ?side2 A20.out).mono ?_); (case side1 => exact (Kd.C_below HR0.out HB.out)); (case side2 => exact HC0.out); rintro e w24 ⟨v402, rfl, ho0, hb⟩; obtain ⟨Ao26, co26, e_, hc_, hC_⟩ := Kd.R_reads ho0; subst e_; refine ⟨_, rfl, ?_⟩; have HO403 := Aside0.mk hC_; have HC403 := Aside0.mk hc_; replace HB := Aside0.mk (below_step (by repeat (first | (with_reducible first | exact HB.out | apply below_alloc | apply pw_below_drewN | apply below_drew1) | exact HB.out)) hb); clear hb ho0 hC_ hc_) | ((with_reducible refine gate_callee (f := 36) rfl ?_); refine goesL_ (some 33) rfl rfl Try.func36 (by kernel_rfl) rfl #[.slice A0 l0.length c0] rfl (by (try simp only [List.map_toArray, List.map_cons, List.map_nil]); first | done | rfl) ?_; (with_reducible refine (terrref5_Unpacked.calls kj3 _ _ l0 t404 t405 _ ?side1 ?side2 A21.out).mono ?_); (case side1 => exact (Kd.C_below HR0.out HB.out)); (case side2 => exact HC0.out); rintro e w25 ⟨v406, rfl, ho0, hb⟩; obtain ⟨Ao27, co27, e_, hc_, hC_⟩ := Kd.R_reads ho0; subst e_; refine ⟨_, rfl, ?_⟩; have HO407 := Aside0.mk hC_; have HC407 := Aside0.mk hc_; replace HO403 := Aside0.mk (Kd.C_below HO403.out hb); replace HB := Aside0.mk (below_step (by repeat (first | (with_reducible first | exact HB.out | apply below_alloc | apply pw_below_drewN | apply below_drew1) | exact HB.out)) hb); clear hb ho0 hC_ hc_) | (go_at_call 29; refine (terrref5_SameDraws.calls kj3 _ _ t400 _ _ t404 t408 _ HO403.out HC403.out HO407.out HC407.out A23.out).mono ?_; rintro e w28 ⟨rfl, hb⟩; replace HB := Aside0.mk (below_step (by repeat (first | (with_reducible first | exact HB.out | apply below_alloc | apply pw_below_drewN | apply below_drew1) | exact HB.out)) hb); clear hb))
      go_ret
      exact ⟨by first | rfl | (simp [errW_none, errW_some] <;> rfl) | (simp [*, errW_none, errW_some] <;> rfl), by repeat (first | (with_reducible first | exact HB.out | apply below_alloc | apply pw_below_drewN | apply below_drew1) | exact HB.out)⟩
/-- THE ONE PURE STATEMENT of terrlaw5_PackReads: yours. -/
def terrlaw5_PackReads.Pure : Prop := ∀ (l0 : List Int), l0.length ≤ maxLen → l0.length * 1 ≤ 140737488351232 → (∀ x ∈ l0, (Lit.int .u8 x).wf = true) → ∃ k, terrlaw5_PackReads.f k l0 = some true
theorem terrlaw5_PackReads.walk (P : terrlaw5_PackReads.Pure) (a0 : Option Addr) (len0 cap0 : Nat) (z0 : List Int) (w : World) (w0 : (a0 = none ∧ len0 = 0 ∧ cap0 = 0 ∧ z0 = []) ∨ ∃ x, a0 = some x ∧ len0 ≤ cap0 ∧ cap0 ≤ maxLen ∧ z0.length = cap0 ∧ (∀ i, i < z0.length → w.cell? (x.add i) = some (.int .u8 (z0.getD i 0))) ∧ ∀ n ∈ z0, (Lit.int .u8 n).wf = true) (y0 : len0 * 1 ≤ 140737488351232) :
    Calls Try.prog 8 #[.slice a0 len0 cap0] w fun e w' => e = .returned (.bool true) ∧ Below w.heap.size w w' := by
  obtain ⟨l0, rfl, hr0, hm0, hw0, hc0⟩ := ReadsInt.ofRowC w0
  obtain ⟨k, h⟩ := P l0 hm0 y0 hw0
  refine (terrlaw5_PackReads.calls k _ _ l0 true w (Kd.C_of_reads (d := (0 : Int)) (h1 := fun _ => rfl) hr0) hc0 h rfl).mono ?_
  rintro e w' ⟨rfl, hd⟩
  exact ⟨rfl, hd⟩
end Go.Proofs.Ytjgoehhhjffpmaa.Q


/- What the Go function terrref5_Wide comes to, and its contract. Condition: its printed twin gives an answer. -/
import Derived.Test.YtojehbkadlmbjaaDoorQ0
namespace Go.Proofs.YtojehbkadlmbjaaDoor.Q
open Go.RowKit Go.Proofs.YtojehbkadlmbjaaDoorW.PrintWords Go.Proofs.YtojehbkadlmbjaaDoorW.PrintLast Go.Proofs.YtojehbkadlmbjaaDoorW.PrintMore
attribute [local go_sem] max2_int min2_int max_two min_two max_three min_three max_four min_four
set_option linter.unusedVariables false
set_option linter.unusedSimpArgs false
/-! ### terrref5_Wide: function 14 -/
/-- A block that holds a string's bytes. -/
def CB (w : World) (g : Nat) (s : ByteArray) : Prop := g < w.heap.size ∧ ∀ j : Nat, j < s.size → w.cell? ⟨g, j, none⟩ = some (.int .u8 (bt s (j : Int)))
theorem CB_at {w : World} {g : Nat} {s : ByteArray} (h : CB w g s) (i : Int) (h0 : 0 ≤ i) (h1 : i < (s.size : Int)) : w.cell? ⟨g, i.toNat, none⟩ = some (.int .u8 (bt s i)) := by
  have e := h.2 i.toNat (by omega)
  rw [show ((i.toNat : Nat) : Int) = i by omega] at e
  exact e
theorem CB_add {w : World} {g : Nat} {s : ByteArray} (h : CB w g s) (i : Int) (h0 : 0 ≤ i) (h1 : i < (s.size : Int)) : w.cell? ((⟨g, 0, none⟩ : Addr).add i.toNat) = some (.int .u8 (bt s i)) := by
  have e := CB_at h i h0 h1
  unfold Addr.add
  by_cases c : i.toNat = 0
  · rw [if_pos c]; rw [c] at e; exact e
  · rw [if_neg c]; simpa using e
theorem CB_below {w w1 : World} {g : Nat} {s : ByteArray} (h : CB w g s) (hb : Below w.heap.size w w1) : CB w1 g s := by
  refine ⟨Nat.lt_of_lt_of_le h.1 hb.size, fun j hj => ?_⟩
  rw [← h.2 j hj]
  unfold World.cell?
  rw [hb.block g h.1]
theorem bytes_below (w : World) (e : TypeId) (s : ByteArray) : Below w.heap.size w (Lib.bytesWorld w e s) :=
  ⟨rfl, rfl, rfl, by rw [Lib.bytesWorld_size]; omega, fun k hk => Lib.bytesWorld_at_old w e s k hk⟩
/-- '[]byte(s)'. -/
theorem conv_str {ops : Array Oper} {rest : List Oper} {o : Oper} {a : Act} {Q : Exit → Act → World → Prop} {W : World} (hgd : o.guard = none) {N : Tmp} (_hd : o.dst = some N) (x : Operand) (ho : o.op = .convert 9 38 x) (s : ByteArray) (hx : a.eval x = .string s)
    (h : ∀ g c w1, CB w1 g s → Below W.heap.size W w1 → wpList Tryd.prog ops Q rest (a.put o.dst (.slice (some ⟨g, 0, none⟩) s.size c)) w1) : wpList Tryd.prog ops Q (o :: rest) a W := by
  have hr := Lib.run_convert_string_bytes (P := Tryd.prog) W 9 38 5 s Tryd.underlying9 Tryd.underlying38 Tryd.underlying5
  refine Kd.event_run hgd (w1 := Lib.bytesWorld W 5 s) (v := .slice (some ⟨W.heap.size, 0, none⟩) s.size (grownCap W s.size 0 5)) ?_ (h _ _ _ ⟨?_, fun j hj => ?_⟩ (bytes_below W 5 s))
  · simp [execOp, ho, hx, hr]
  · rw [Lib.bytesWorld_size]; omega
  · rw [Lib.bytesWorld_cell W 5 s j hj]
    have hj2 : j < s.data.size := hj
    have e1 : s.data.toList.getD j 0 = s.data[j] := by rw [List.getD_eq_getElem?_getD, Array.getElem?_toList, Array.getElem?_eq_getElem hj2]; rfl
    have e2 : ((s.data[j].toNat : Nat) : Int) = bt s (j : Int) := bt_at s (j : Int) hj
    rw [e1, e2]
mutual
def terrref5_Wide.j0 : Nat → Int → Bool → Option (Int)
  | 0, _, _ => none
  | k + 1, x0, x12 => if x12 = true then (some 0) else ((some (([(⟨#[]⟩ : ByteArray), (⟨#[]⟩ : ByteArray), (⟨#[105, 108, 46, 44, 58, 59, 39, 33, 124]⟩ : ByteArray), (⟨#[32, 102, 116, 114, 106]⟩ : ByteArray), (⟨#[]⟩ : ByteArray), (⟨#[65, 66, 67, 68, 69, 70, 71, 72, 73, 74, 75, 76, 78, 79, 80, 81, 82, 83, 84, 85, 86, 88, 89, 90]⟩ : ByteArray), (⟨#[109, 119, 77, 87, 64, 37]⟩ : ByteArray)] : List ByteArray) : List ByteArray)).bind fun y131 => (terrref5_Wide.l0 k x0 y131 (y131.length : Int) 0))
def terrref5_Wide.l0 : Nat → Int → List ByteArray → Int → Int → Option (Int)
  | 0, _, _, _, _ => none
  | k + 1, x0, x13, x14, x15 => if x15 < x14 then (if 0 ≤ x15 then (if x15 < (x13.length : Int) then (terrref5_Wide.l1 k x0 x15 x13 x14 x15 (rdOf ByteArray.empty x13 x15) ((rdOf ByteArray.empty x13 x15).size : Int) 0) else (none)) else (none)) else (some 4)
def terrref5_Wide.l1 : Nat → Int → Int → List ByteArray → Int → Int → ByteArray → Int → Int → Option (Int)
  | 0, _, _, _, _, _, _, _, _ => none
  | k + 1, x0, x3, x13, x14, x15, x21, x22, x23 => if x23 < x22 then (if 0 ≤ x23 then (if x23 < (x21.size : Int) then (if (bt x21 x23) = x0 then (some x3) else (terrref5_Wide.l1 k x0 x3 x13 x14 x15 x21 x22 (wrap64 (x23 + 1)))) else (none)) else (none)) else (terrref5_Wide.l0 k x0 x13 x14 (wrap64 (x15 + 1)))
end
def terrref5_Wide.f (k : Nat) (a0 : Int) : Option (Int) := if a0 < 32 then (terrref5_Wide.j0 k a0 true) else (terrref5_Wide.j0 k a0 (decide (a0 > 126)))
theorem terrref5_Wide.mono_l : ∀ k, (∀ y0 y1, LeO (terrref5_Wide.j0 k y0 y1) (terrref5_Wide.j0 (k + 1) y0 y1)) ∧ (∀ y0 y1 y2 y3, LeO (terrref5_Wide.l0 k y0 y1 y2 y3) (terrref5_Wide.l0 (k + 1) y0 y1 y2 y3)) ∧ (∀ y0 y1 y2 y3 y4 y5 y6 y7, LeO (terrref5_Wide.l1 k y0 y1 y2 y3 y4 y5 y6 y7) (terrref5_Wide.l1 (k + 1) y0 y1 y2 y3 y4 y5 y6 y7))
  | 0 => ⟨fun _ _ r h => by simp [terrref5_Wide.j0] at h, fun _ _ _ _ r h => by simp [terrref5_Wide.l0] at h, fun _ _ _ _ _ _ _ _ r h => by simp [terrref5_Wide.l1] at h⟩
  | k + 1 => by
    obtain ⟨ih0, ih1, ih2⟩ := terrref5_Wide.mono_l k
    refine ⟨?_, ?_, ?_⟩
    · intro y0 y1
      unfold terrref5_Wide.j0
      repeat' first
      | (with_reducible exact ih0 _ _)
      | (with_reducible exact ih1 _ _ _ _)
      | (with_reducible exact ih2 _ _ _ _ _ _ _ _)
      | (with_reducible exact LeO.refl _)
      | (with_reducible exact LeO.none _)
      | (with_reducible refine LeO.ite ?_ ?_)
      | (with_reducible refine LeO.bind ?_ (fun _ => ?_))
      | exact ih0 _ _
      | exact ih1 _ _ _ _
      | exact ih2 _ _ _ _ _ _ _ _
      | exact LeO.none _
      | refine LeO.ite ?_ ?_
      | refine LeO.bind ?_ (fun _ => ?_)
    · intro y0 y1 y2 y3
      unfold terrref5_Wide.l0
      repeat' first
      | (with_reducible exact ih0 _ _)
      | (with_reducible exact ih1 _ _ _ _)
      | (with_reducible exact ih2 _ _ _ _ _ _ _ _)
      | (with_reducible exact LeO.refl _)
      | (with_reducible exact LeO.none _)
      | (with_reducible refine LeO.ite ?_ ?_)
      | (with_reducible refine LeO.bind ?_ (fun _ => ?_))
      | exact ih0 _ _
      | exact ih1 _ _ _ _
      | exact ih2 _ _ _ _ _ _ _ _
      | exact LeO.none _
      | refine LeO.ite ?_ ?_
      | refine LeO.bind ?_ (fun _ => ?_)
    · intro y0 y1 y2 y3 y4 y5 y6 y7
      unfold terrref5_Wide.l1
      repeat' first
      | (with_reducible exact ih0 _ _)
      | (with_reducible exact ih1 _ _ _ _)
      | (with_reducible exact ih2 _ _ _ _ _ _ _ _)
      | (with_reducible exact LeO.refl _)
      | (with_reducible exact LeO.none _)
      | (with_reducible refine LeO.ite ?_ ?_)
      | (with_reducible refine LeO.bind ?_ (fun _ => ?_))
      | exact ih0 _ _
      | exact ih1 _ _ _ _
      | exact ih2 _ _ _ _ _ _ _ _
      | exact LeO.none _
      | refine LeO.ite ?_ ?_
      | refine LeO.bind ?_ (fun _ => ?_)
theorem terrref5_Wide.mono : ∀ a0 k, LeO (terrref5_Wide.f k a0) (terrref5_Wide.f (k + 1) a0) := by
  intro a0 k
  obtain ⟨ih0, ih1, ih2⟩ := terrref5_Wide.mono_l k
  unfold terrref5_Wide.f
  repeat' first
      | (with_reducible exact ih0 _ _)
      | (with_reducible exact ih1 _ _ _ _)
      | (with_reducible exact ih2 _ _ _ _ _ _ _ _)
      | (with_reducible exact LeO.refl _)
      | (with_reducible exact LeO.none _)
      | (with_reducible refine LeO.ite ?_ ?_)
      | (with_reducible refine LeO.bind ?_ (fun _ => ?_))
      | exact ih0 _ _
      | exact ih1 _ _ _ _
      | exact ih2 _ _ _ _ _ _ _ _
      | exact LeO.none _
      | refine LeO.ite ?_ ?_
      | refine LeO.bind ?_ (fun _ => ?_)
set_option maxHeartbeats 8000000 in
set_option maxRecDepth 100000 in
theorem terrref5_Wide.calls (k : Nat) (a0 : Int) (r : Int) (w : World) (h : terrref5_Wide.f k a0 = some r) :
    Calls Tryd.prog 14 #[.int .u8 a0] w fun e w' => e = .returned (.int .i64 r) ∧ Below w.heap.size w w' := by
  have HB := Aside0.mk (Below.refl w.heap.size w)
  have H : (if a0 < 32 then (terrref5_Wide.j0 k a0 true) else (terrref5_Wide.j0 k a0 (decide (a0 > 126)))) = some r := h
  clear h
  have HC2 := Aside0.mk H
  clear H
  go_enter Tryd.func14, Tryd.ntmps14
  go_upto_region 1 with (fail)
  go_cut [12] (fun v12 wc => ∃ (kq : Nat) (x12_1 : Bool), v12 = .bool x12_1 ∧ Aside0 (terrref5_Wide.j0 kq a0 x12_1 = some r) ∧ Aside0 (kq ≤ k) ∧ Aside0 (Below w.heap.size w wc))
  case first =>
    have H := HC2.out
    clear HC2
    by_cases c3 : a0 < 32
    · rw [if_pos c3] at H
      have c3b0 : decide (a0 < 32) = true := decide_eq_true c3
      clear c3
      (first | rw [c3b0] | (simp only [i64_w, i32_w]; rw [c3b0]) | skip)
      have H' := Aside0.mk H
      clear H
      go_wp2
      go_meet
      case rel => exact ⟨_, (true), (by first | rfl | (simp; done) | (simp [*]; done)), H', ⟨by first | omega | exact Nat.le_refl _⟩, ⟨by repeat (first | (with_reducible first | exact HB.out | apply below_alloc | apply pw_below_drewN | apply below_drew1) | exact HB.out)⟩⟩
    · rw [if_neg c3] at H
      have c3b0 : decide (a0 < 32) = false := decide_eq_false c3
      clear c3
      (first | rw [c3b0] | (simp only [i64_w, i32_w]; rw [c3b0]) | skip)
      have H' := Aside0.mk H
      clear H
      go_wp2
      go_meet
      case rel => exact ⟨_, (decide (a0 > 126)), (by first | rfl | (simp; done) | (simp [*]; done)), H', ⟨by first | omega | exact Nat.le_refl _⟩, ⟨by repeat (first | (with_reducible first | exact HB.out | apply below_alloc | apply pw_below_drewN | apply below_drew1) | exact HB.out)⟩⟩
  case rest =>
    clear HC2
    try clear c1
    try clear p2
    try clear c3
    try clear c3b0
    obtain ⟨kq, x12_1, rfl, HA, HJ1, HB⟩ := hcut
    cases kq with
    | zero => exact absurd HA.out (by simp [terrref5_Wide.j0])
    | succ kj1 =>
      have H := HA.out
      clear HA
      simp only [terrref5_Wide.j0] at H
      by_cases c4 : x12_1 = true
      · subst c4
        have H1 : (some 0) = some r := by rw [if_pos rfl] at H; exact H
        clear H
        have H := H1
        clear H1
        obtain rfl := Option.some.inj H
        go_wp2
        go_ret
        exact ⟨by first | rfl | (simp [errW_none, errW_some] <;> rfl) | (simp [*, errW_none, errW_some] <;> rfl), by repeat (first | (with_reducible first | exact HB.out | apply below_alloc | apply pw_below_drewN | apply below_drew1) | exact HB.out)⟩
      · replace c4 := Bool.eq_false_iff.mpr c4
        subst c4
        have H1 : ((some (([(⟨#[]⟩ : ByteArray), (⟨#[]⟩ : ByteArray), (⟨#[105, 108, 46, 44, 58, 59, 39, 33, 124]⟩ : ByteArray), (⟨#[32, 102, 116, 114, 106]⟩ : ByteArray), (⟨#[]⟩ : ByteArray), (⟨#[65, 66, 67, 68, 69, 70, 71, 72, 73, 74, 75, 76, 78, 79, 80, 81, 82, 83, 84, 85, 86, 88, 89, 90]⟩ : ByteArray), (⟨#[109, 119, 77, 87, 64, 37]⟩ : ByteArray)] : List ByteArray) : List ByteArray)).bind fun y131 => (terrref5_Wide.l0 kj1 a0 y131 (y131.length : Int) 0)) = some r := by rw [if_neg (show ¬ (false = true) by decide)] at H; exact H
        clear H
        have H := H1
        clear H1
        obtain ⟨y131, hy131⟩ : ∃ y_ : List ByteArray, y_ = (([(⟨#[]⟩ : ByteArray), (⟨#[]⟩ : ByteArray), (⟨#[105, 108, 46, 44, 58, 59, 39, 33, 124]⟩ : ByteArray), (⟨#[32, 102, 116, 114, 106]⟩ : ByteArray), (⟨#[]⟩ : ByteArray), (⟨#[65, 66, 67, 68, 69, 70, 71, 72, 73, 74, 75, 76, 78, 79, 80, 81, 82, 83, 84, 85, 86, 88, 89, 90]⟩ : ByteArray), (⟨#[109, 119, 77, 87, 64, 37]⟩ : ByteArray)] : List ByteArray)) := ⟨_, rfl⟩
        replace H : (terrref5_Wide.l0 kj1 a0 y131 (y131.length : Int) 0) = some r := by first | (rw [hy131]; with_reducible exact H) | (have H2_ := (Option.bind_some _ _).symm.trans H; rw [hy131]; with_reducible exact H2_) | (have H2_ := (Option.bind_some _ _).symm.trans H; with_reducible exact H2_) | with_reducible exact H | (rw [hy131]; exact H) | exact H
        have Ny131 := Aside0.mk hy131
        clear hy131
        have H' := Aside0.mk H
        clear H
        go_wp2_with (first | ((with_reducible refine gate_dst (N := 13) rfl ?_); refine Kd.R_lit Kd.string _ 9 ?hg (N := 13) ?hd (xs := ([(⟨#[]⟩ : ByteArray), (⟨#[]⟩ : ByteArray), (⟨#[105, 108, 46, 44, 58, 59, 39, 33, 124]⟩ : ByteArray), (⟨#[32, 102, 116, 114, 106]⟩ : ByteArray), (⟨#[]⟩ : ByteArray), (⟨#[65, 66, 67, 68, 69, 70, 71, 72, 73, 74, 75, 76, 78, 79, 80, 81, 82, 83, 84, 85, 86, 88, 89, 90]⟩ : ByteArray), (⟨#[109, 119, 77, 87, 64, 37]⟩ : ByteArray)] : List ByteArray)) (inner := [.string (⟨#[]⟩ : ByteArray), .string (⟨#[]⟩ : ByteArray), .string (⟨#[105, 108, 46, 44, 58, 59, 39, 33, 124]⟩ : ByteArray), .string (⟨#[32, 102, 116, 114, 106]⟩ : ByteArray), .string (⟨#[]⟩ : ByteArray), .string (⟨#[65, 66, 67, 68, 69, 70, 71, 72, 73, 74, 75, 76, 78, 79, 80, 81, 82, 83, 84, 85, 86, 88, 89, 90]⟩ : ByteArray), .string (⟨#[109, 119, 77, 87, 64, 37]⟩ : ByteArray)]) (ok := fun _ => True) (okp := fun _ => True) ?hr ?hp (fun _ hk => hk) trivial (Below.refl _ _) (Nat.le_refl _) (by simp) ?_; (case hd => rfl); (case hg => rfl); (case hr => first | (go_simp; done) | (go_simp; rfl)); (case hp => exact (Reps.one (show Kd.M Kd.string _ _ _ (⟨#[]⟩ : ByteArray) [.string (⟨#[]⟩ : ByteArray)] from rfl) (Reps.one (show Kd.M Kd.string _ _ _ (⟨#[]⟩ : ByteArray) [.string (⟨#[]⟩ : ByteArray)] from rfl) (Reps.one (show Kd.M Kd.string _ _ _ (⟨#[105, 108, 46, 44, 58, 59, 39, 33, 124]⟩ : ByteArray) [.string (⟨#[105, 108, 46, 44, 58, 59, 39, 33, 124]⟩ : ByteArray)] from rfl) (Reps.one (show Kd.M Kd.string _ _ _ (⟨#[32, 102, 116, 114, 106]⟩ : ByteArray) [.string (⟨#[32, 102, 116, 114, 106]⟩ : ByteArray)] from rfl) (Reps.one (show Kd.M Kd.string _ _ _ (⟨#[]⟩ : ByteArray) [.string (⟨#[]⟩ : ByteArray)] from rfl) (Reps.one (show Kd.M Kd.string _ _ _ (⟨#[65, 66, 67, 68, 69, 70, 71, 72, 73, 74, 75, 76, 78, 79, 80, 81, 82, 83, 84, 85, 86, 88, 89, 90]⟩ : ByteArray) [.string (⟨#[65, 66, 67, 68, 69, 70, 71, 72, 73, 74, 75, 76, 78, 79, 80, 81, 82, 83, 84, 85, 86, 88, 89, 90]⟩ : ByteArray)] from rfl) (Reps.one (show Kd.M Kd.string _ _ _ (⟨#[109, 119, 77, 87, 64, 37]⟩ : ByteArray) [.string (⟨#[109, 119, 77, 87, 64, 37]⟩ : ByteArray)] from rfl) (Reps.none _ _))))))))); intro v132 w5 ho6 hb hg_ hnew_; clear hg_ hnew_; (first | rw [← Ny131.out] at ho6 | (simp only [Int.reduceToNat] at ho6; rw [← Ny131.out] at ho6)); have n0_ := Aside0.mk (Kd.R_lower ho6 (below_size (by repeat (first | (with_reducible first | exact HB.out | apply below_alloc | apply pw_below_drewN | apply below_drew1) | exact HB.out)))); have n1_ := Aside0.mk (below_step (by repeat (first | (with_reducible first | exact HB.out | apply below_alloc | apply pw_below_drewN | apply below_drew1) | exact HB.out)) hb); clear HB; have HO133 := n0_; have HB := n1_; clear n0_ n1_; clear hb ho6; obtain ⟨Ao7, co7, eo7⟩ := Kd.R_slice HO133.out; subst eo7))
        go_loopg [15] kj1 (fun kq v15 w' => ∃ (x15_2 : Int), v15 = .int .i64 x15_2 ∧ Aside0 (terrref5_Wide.l0 kq a0 y131 (y131.length : Int) x15_2 = some r) ∧ Aside0 (kq ≤ kj1) ∧ Aside0 (Kd.R Kd.string 9 w' w.heap.size (fun _ => True) (.slice Ao7 y131.length co7) y131) ∧ Aside0 (Below w.heap.size w w'))
        case atStart => exact ⟨(0), (by first | rfl | (simp; done) | (simp [*]; done)), H', ⟨Nat.le_refl _⟩, ⟨by (with_reducible repeat (first | apply Kd.R_alloc | apply Kd.R_drewN | apply Kd.R_drew)); exact HO133.out⟩, ⟨by repeat (first | (with_reducible first | exact HB.out | apply below_alloc | apply pw_below_drewN | apply below_drew1) | exact HB.out)⟩⟩
        case round =>
          clear H'
          try clear c1
          try clear p2
          try clear c3
          try clear c3b0
          try clear c4
          try clear p2
          obtain ⟨x15_2, rfl, HA, HK2, HO_13, HB⟩ := hrel
          cases gk with
          | zero => exact absurd HA.out (by simp [terrref5_Wide.l0])
          | succ k2 =>
            have H := HA.out
            clear HA
            simp only [terrref5_Wide.l0] at H
            by_cases c8 : x15_2 < (y131.length : Int)
            · rw [if_pos c8] at H
              have c8b0 : decide (x15_2 < (y131.length : Int)) = true := decide_eq_true c8
              clear c8
              by_cases c9 : 0 ≤ x15_2
              · rw [if_pos c9] at H
                have c9b0 : decide (0 ≤ x15_2) = true := decide_eq_true c9
                clear c9
                by_cases c10 : x15_2 < (y131.length : Int)
                · rw [if_pos c10] at H
                  have c10b0 : decide (x15_2 < (y131.length : Int)) = true := decide_eq_true c10
                  clear c10
                  have H' := Aside0.mk H
                  clear H
                  have p134 : 0 ≤ (x15_2 : Int) := of_decide_eq_true (by first | (with_reducible assumption) | assumption)
                  have q134 : x15_2 < (y131.length : Int) := of_decide_eq_true (by first | (with_reducible assumption) | assumption)
                  obtain ⟨ad134, e134, hx134_0⟩ := Kd.at_string (Kd.R_reads' HO_13.out).2.2 x15_2 p134 q134
                  cases e134
                  replace p134 := eq_true p134
                  replace q134 := eq_true q134
                  go_wp2_with (first | ((with_reducible refine gate_dst (N := 21) rfl ?_); refine conv_str rfl (N := 21) rfl (.tmp 20) rfl (rdOf ByteArray.empty y131 x15_2) rfl ?_; intro gB cB wB hcb hb; have n0_ := Aside0.mk (Kd.R_below (by (with_reducible repeat (first | apply Kd.R_alloc | apply Kd.R_drewN | apply Kd.R_drew)); exact HO_13.out) hb); have n1_ := Aside0.mk (below_step (by repeat (first | (with_reducible first | exact HB.out | apply below_alloc | apply pw_below_drewN | apply below_drew1) | exact HB.out)) hb); have HCB := Aside0.mk hcb; clear HO_13; clear HB; have HO_13 := n0_; have HB := n1_; clear n0_ n1_; clear hb hcb))
                  go_loopg [23] k2 (fun kq v23 w' => ∃ (x23_3 : Int), v23 = .int .i64 x23_3 ∧ Aside0 (terrref5_Wide.l1 kq a0 x15_2 y131 (y131.length : Int) x15_2 (rdOf ByteArray.empty y131 x15_2) ((rdOf ByteArray.empty y131 x15_2).size : Int) x23_3 = some r) ∧ Aside0 (kq ≤ k2) ∧ Aside0 (Kd.R Kd.string 9 w' w.heap.size (fun _ => True) (.slice (some ad134) y131.length co7) y131) ∧ Aside0 (Below w.heap.size w w') ∧ Aside0 (CB w' gB (rdOf ByteArray.empty y131 x15_2)))
                  case atStart => exact ⟨(0), (by first | rfl | (simp; done) | (simp [*]; done)), H', ⟨Nat.le_refl _⟩, ⟨by (with_reducible repeat (first | apply Kd.R_alloc | apply Kd.R_drewN | apply Kd.R_drew)); exact HO_13.out⟩, ⟨by repeat (first | (with_reducible first | exact HB.out | apply below_alloc | apply pw_below_drewN | apply below_drew1) | exact HB.out)⟩, ⟨HCB.out⟩⟩
                  case round =>
                    clear H'
                    try clear c1
                    try clear p1
                    try clear q1
                    try clear hx1
                    try clear p2
                    try clear c3
                    try clear c3b0
                    try clear c4
                    try clear c8
                    try clear c8b0
                    try clear c9
                    try clear c9b0
                    try clear c10
                    try clear c10b0
                    try clear hx134_0
                    try clear p134
                    try clear p2
                    try clear q134
                    obtain ⟨x23_3, rfl, HA, HK3, HO_13, HB, HCB⟩ := hrel
                    cases gk with
                    | zero => exact absurd HA.out (by simp [terrref5_Wide.l1])
                    | succ k3 =>
                      have H := HA.out
                      clear HA
                      simp only [terrref5_Wide.l1] at H
                      by_cases c11 : x23_3 < ((rdOf ByteArray.empty y131 x15_2).size : Int)
                      · rw [if_pos c11] at H
                        have c11b0 : decide (x23_3 < ((rdOf ByteArray.empty y131 x15_2).size : Int)) = true := decide_eq_true c11
                        clear c11
                        by_cases c12 : 0 ≤ x23_3
                        · rw [if_pos c12] at H
                          have c12b0 : decide (0 ≤ x23_3) = true := decide_eq_true c12
                          clear c12
                          by_cases c13 : x23_3 < ((rdOf ByteArray.empty y131 x15_2).size : Int)
                          · rw [if_pos c13] at H
                            have c13b0 : decide (x23_3 < ((rdOf ByteArray.empty y131 x15_2).size : Int)) = true := decide_eq_true c13
                            clear c13
                            by_cases c15 : (bt (rdOf ByteArray.empty y131 x15_2) x23_3) = a0
                            · rw [if_pos c15] at H
                              have c15b0 : ((bt (rdOf ByteArray.empty y131 x15_2) x23_3) == a0) = true := beq_iff_eq.mpr c15
                              have c15b1 : ((bt (rdOf ByteArray.empty y131 x15_2) x23_3) != a0) = false := bne_eq_false_iff_eq.mpr c15
                              clear c15
                              obtain rfl := Option.some.inj H
                              have p14 : 0 ≤ (x23_3 : Int) := of_decide_eq_true (by first | (with_reducible assumption) | assumption)
                              have q14 : x23_3 < ((rdOf ByteArray.empty y131 x15_2).size : Int) := of_decide_eq_true (by first | (with_reducible assumption) | assumption)
                              have hx14 := CB_at HCB.out x23_3 p14 q14; have hy14 := CB_add HCB.out x23_3 p14 q14
                              replace p14 := eq_true p14
                              replace q14 := eq_true q14
                              go_wp2
                              go_ret
                              exact ⟨by first | rfl | (simp [errW_none, errW_some] <;> rfl) | (simp [*, errW_none, errW_some] <;> rfl), by repeat (first | (with_reducible first | exact HB.out | apply below_alloc | apply pw_below_drewN | apply below_drew1) | exact HB.out)⟩
                            · rw [if_neg c15] at H
                              have c15b0 : ((bt (rdOf ByteArray.empty y131 x15_2) x23_3) == a0) = false := beq_eq_false_iff_ne.mpr c15
                              have c15b1 : ((bt (rdOf ByteArray.empty y131 x15_2) x23_3) != a0) = true := bne_iff_ne.mpr c15
                              have H' := Aside0.mk H
                              clear H
                              have p14 : 0 ≤ (x23_3 : Int) := of_decide_eq_true (by first | (with_reducible assumption) | assumption)
                              have q14 : x23_3 < ((rdOf ByteArray.empty y131 x15_2).size : Int) := of_decide_eq_true (by first | (with_reducible assumption) | assumption)
                              have hx14 := CB_at HCB.out x23_3 p14 q14; have hy14 := CB_add HCB.out x23_3 p14 q14
                              replace p14 := eq_true p14
                              replace q14 := eq_true q14
                              go_wp2
                              go_roundg k3
                              case measure => have := HJ1.out; have := HK2.out; have := HK3.out; omega
                              case rel => exact ⟨(wrap64 (x23_3 + 1)), (by first | rfl | (simp; done) | (simp [*]; done)), H', ⟨by have := HJ1.out; have := HK2.out; have := HK3.out; omega⟩, ⟨by (with_reducible repeat (first | apply Kd.R_alloc | apply Kd.R_drewN | apply Kd.R_drew)); exact HO_13.out⟩, ⟨by repeat (first | (with_reducible first | exact HB.out | apply below_alloc | apply pw_below_drewN | apply below_drew1) | exact HB.out)⟩, ⟨HCB.out⟩⟩
                          · rw [if_neg c13] at H
                            exact absurd H (by simp)
                        · rw [if_neg c12] at H
                          exact absurd H (by simp)
                      · rw [if_neg c11] at H
                        have c11b0 : decide (x23_3 < ((rdOf ByteArray.empty y131 x15_2).size : Int)) = false := decide_eq_false c11
                        clear c11
                        have H' := Aside0.mk H
                        clear H
                        go_wp2
                        go_roundg k3
                        case measure => have := HJ1.out; have := HK2.out; have := HK3.out; omega
                        case rel => exact ⟨(wrap64 (x15_2 + 1)), (by first | rfl | (simp; done) | (simp [*]; done)), H', ⟨by have := HJ1.out; have := HK2.out; have := HK3.out; omega⟩, ⟨by (with_reducible repeat (first | apply Kd.R_alloc | apply Kd.R_drewN | apply Kd.R_drew)); exact HO_13.out⟩, ⟨by repeat (first | (with_reducible first | exact HB.out | apply below_alloc | apply pw_below_drewN | apply below_drew1) | exact HB.out)⟩⟩
                · rw [if_neg c10] at H
                  exact absurd H (by simp)
              · rw [if_neg c9] at H
                exact absurd H (by simp)
            · rw [if_neg c8] at H
              have c8b0 : decide (x15_2 < (y131.length : Int)) = false := decide_eq_false c8
              clear c8
              obtain rfl := Option.some.inj H
              go_wp2
              go_ret
              exact ⟨by first | rfl | (simp [errW_none, errW_some] <;> rfl) | (simp [*, errW_none, errW_some] <;> rfl), by repeat (first | (with_reducible first | exact HB.out | apply below_alloc | apply pw_below_drewN | apply below_drew1) | exact HB.out)⟩
end Go.Proofs.YtojehbkadlmbjaaDoor.Q

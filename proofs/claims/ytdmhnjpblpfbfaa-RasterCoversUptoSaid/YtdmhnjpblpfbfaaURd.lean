/- Plain facts on samples: the second implementation's sample is the parity of the edges that pass to the right of it. Conditions: stated at each. -/
import Derived.Test.YtdmhnjpblpfbfaaURb
import Derived.Test.YtdmhnjpblpfbfaaQf40
namespace Go.Proofs.Ytdmhnjpblpfbfaa.U
open Go.RowKit Go.Proofs.Ytdmhnjpblpfbfaa.Q Go.Proofs.YtdmhnjpblpfbfaaW.PrintWords Go.Proofs.YtdmhnjpblpfbfaaW.PrintLast Go.Proofs.YtdmhnjpblpfbfaaW.PrintMore
set_option linter.unusedSimpArgs false
set_option linter.unusedVariables false

theorem short8 (v : Int) : ∃ t, terrref5_Short.f v = some t ∧ wrap64 (8 * t) = c8 v := by
  have b := c8_bd v
  unfold c8 at b ⊢
  unfold terrref5_Short.f
  by_cases c : v < -4096
  · rw [if_pos c]
    refine ⟨_, rfl, ?_⟩
    have e : mx (-4096) (mn 4096 v) = -4096 := by unfold mx mn; split <;> split <;> omega
    rw [e]
    exact wrap_id (by decide) (by decide)
  · rw [if_neg c]
    refine ⟨_, rfl, ?_⟩
    have e : mn v 4096 = mx (-4096) (mn 4096 v) := by unfold mx mn; split <;> split <;> split <;> omega
    rw [e]
    exact wrap_id (by omega) (by omega)

/-- One edge in the second implementation. -/
theorem sample_edge (k : Nat) (x y : Int) (o : Bool) (r : List S40) (a : List (List S40)) (n idx : Int) (r2 : List S40) (len j : Int) (p q : S40) (x0 : -40000 ≤ x) (x1 : x ≤ 40000) (y0 : -40000 ≤ y) (y1 : y ≤ 40000) (j' : Int) (hj : wrap64 (j + 1) = j') :
    terrref5_Sampled.j2 (k + 1) x y o r a n idx r2 len j p.f0 p.f1 q.f0 q.f1 = terrref5_Sampled.l1 k x y (o ^^ pass p q x y) r a n idx r2 len j' := by
  obtain ⟨t1, e1, f1⟩ := short8 p.f0
  obtain ⟨t2, e2, f2⟩ := short8 p.f1
  obtain ⟨t3, e3, f3⟩ := short8 q.f0
  obtain ⟨t4, e4, f4⟩ := short8 q.f1
  have g1 := c8_bd p.f0
  have g2 := c8_bd p.f1
  have g3 := c8_bd q.f0
  have g4 := c8_bd q.f1
  unfold pass
  rw [terrref5_Sampled.j2, e1, Option.bind_some, e2, Option.bind_some, e3, Option.bind_some, e4, Option.bind_some, f1, f2, f3, f4, hj]
  generalize c8 p.f0 = ax at *
  generalize c8 p.f1 = ay at *
  generalize c8 q.f0 = bx at *
  generalize c8 q.f1 = b_ at *
  have core : ∀ (px py qx qy : Int), -32768 ≤ px → px ≤ 32768 → -32768 ≤ py → py ≤ 32768 → -32768 ≤ qx → qx ≤ 32768 → -32768 ≤ qy → qy ≤ 32768 →
      (if py ≤ y then (if y < qy then (if (wrap64 ((wrap64 (x - px)) * (wrap64 (qy - py)))) < (wrap64 ((wrap64 (y - py)) * (wrap64 (qx - px)))) then (terrref5_Sampled.l1 k x y (!o) r a n idx r2 len j') else (terrref5_Sampled.l1 k x y o r a n idx r2 len j')) else (terrref5_Sampled.l1 k x y o r a n idx r2 len j')) else (terrref5_Sampled.l1 k x y o r a n idx r2 len j')) = terrref5_Sampled.l1 k x y (o ^^ decide (passOne px py qx qy x y)) r a n idx r2 len j' := by
    intro px py qx qy h1 h2 h3 h4 h5 h6 h7 h8
    have b1 := mul_bd2 (a := x - px) (b := qy - py) (by omega) (by omega) (by omega) (by omega)
    have b2 := mul_bd2 (a := y - py) (b := qx - px) (by omega) (by omega) (by omega) (by omega)
    rw [wrap_id (x := x - px) (by omega) (by omega), wrap_id (x := qy - py) (by omega) (by omega), wrap_id (x := y - py) (by omega) (by omega), wrap_id (x := qx - px) (by omega) (by omega), wrap_id (x := (x - px) * (qy - py)) (by omega) (by omega), wrap_id (x := (y - py) * (qx - px)) (by omega) (by omega)]
    by_cases c1 : py ≤ y
    · rw [if_pos c1]
      by_cases c2 : y < qy
      · rw [if_pos c2]
        by_cases c3 : (x - px) * (qy - py) < (y - py) * (qx - px)
        · rw [if_pos c3, decide_eq_true (show passOne px py qx qy x y from ⟨c1, c2, c3⟩), Bool.xor_true]
        · rw [if_neg c3, decide_eq_false (show ¬ passOne px py qx qy x y from fun h => c3 h.2.2), Bool.xor_false]
      · rw [if_neg c2, decide_eq_false (show ¬ passOne px py qx qy x y from fun h => c2 h.2.1), Bool.xor_false]
    · rw [if_neg c1, decide_eq_false (show ¬ passOne px py qx qy x y from fun h => c1 h.1), Bool.xor_false]
  by_cases d : ay > b_
  · rw [if_pos d, core bx b_ ax ay g3.1 g3.2 g4.1 g4.2 g1.1 g1.2 g2.1 g2.2]
    have e : decide (passOne bx b_ ax ay x y) = decide (passOne ax ay bx b_ x y ∨ passOne bx b_ ax ay x y) := by
      rw [decide_eq_decide]
      constructor
      · exact Or.inr
      · rintro (h | h)
        · unfold passOne at h; omega
        · exact h
    rw [e]
  · rw [if_neg d, core ax ay bx b_ g1.1 g1.2 g2.1 g2.2 g3.1 g3.2 g4.1 g4.2]
    have e : decide (passOne ax ay bx b_ x y) = decide (passOne ax ay bx b_ x y ∨ passOne bx b_ ax ay x y) := by
      rw [decide_eq_decide]
      constructor
      · exact Or.inl
      · rintro (h | h)
        · exact h
        · unfold passOne at h; omega
    rw [e]

theorem xor_asc (o a b p : Bool) : ((o ^^ p) ^^ (a ^^ (b ^^ p))) = (o ^^ (a ^^ b)) := by cases o <;> cases a <;> cases b <;> cases p <;> rfl

theorem fuel_two {d k : Nat} (h : 2 * (d + 1) + 1 ≤ k) : ∃ m, k = m + 1 + 1 ∧ 2 * d + 1 ≤ m ∧ m - 2 * d - 1 = m + 1 + 1 - 2 * (d + 1) - 1 := ⟨k - 2, by omega, by omega, by omega⟩
theorem fuel_end {d k : Nat} (h : 2 * 0 + 1 ≤ k) : ∃ m, k = m + 1 ∧ m + 1 - 2 * 0 - 1 = m := ⟨k - 1, by omega, by omega⟩

theorem sample_ring (x y : Int) (x0 : -40000 ≤ x) (x1 : x ≤ 40000) (y0 : -40000 ≤ y) (y1 : y ≤ 40000) (r : List S40) (hr : r.length ≤ 9000000000000000) (a : List (List S40)) (n idx : Int) (hi : wrap64 (idx + 1) = idx + 1) : ∀ (d k j : Nat) (o : Bool), j + d = r.length → 2 * d + 1 ≤ k →
    terrref5_Sampled.l1 k x y o r a n idx r (r.length : Int) (j : Int) = terrref5_Sampled.l0 (k - 2 * d - 1) x y (o ^^ (ringX r x y r.length ^^ ringX r x y j)) a n (idx + 1) := by
  intro d
  induction d with
  | zero =>
    intro k j o hj hk
    obtain ⟨k, rfl, ek⟩ := fuel_end (d := 0) hk
    obtain rfl : j = r.length := by omega
    rw [terrref5_Sampled.l1, if_neg (Int.lt_irrefl _), hi, ek, ← xor_stay]
  | succ d ih =>
    intro k j o hj hk
    obtain ⟨k, rfl, hk1, ek⟩ := fuel_two hk
    have hlt : j < r.length := by omega
    obtain ⟨w1, w2, w3⟩ := ring_nums hlt hr
    have c1 : (j : Int) < (r.length : Int) := Int.ofNat_lt.mpr hlt
    have c0 : (0 : Int) < (r.length : Int) := Int.lt_of_le_of_lt (Int.natCast_nonneg j) c1
    have hj1 : j + 1 + d = r.length := by omega
    have key : ∀ q : S40, q = rd_T40 r (((j + 1) % r.length : Nat) : Int) → terrref5_Sampled.j2 (k + 1) x y o r a n idx r (r.length : Int) (j : Int) (rd_T40 r (j : Int)).f0 (rd_T40 r (j : Int)).f1 q.f0 q.f1 = terrref5_Sampled.l0 (k + 1 + 1 - 2 * (d + 1) - 1) x y (o ^^ (ringX r x y r.length ^^ ringX r x y j)) a n (idx + 1) := by
      intro q hq
      rw [sample_edge k x y o r a n idx r (r.length : Int) (j : Int) (rd_T40 r (j : Int)) q x0 x1 y0 y1 _ w1, ih k (j + 1) _ hj1 hk1, ringX, hq, xor_asc, ek]
    rw [terrref5_Sampled.l1, if_pos c1, if_pos (Int.natCast_nonneg _), if_pos c1, if_pos c0, w1]
    by_cases l : j + 1 < r.length
    · have c2 : ((j + 1 : Nat) : Int) < (r.length : Int) := by omega
      rw [if_pos c2, if_pos (Int.natCast_nonneg _)]
      exact key _ (by rw [Nat.mod_eq_of_lt l])
    · have c2 : ¬ ((j + 1 : Nat) : Int) < (r.length : Int) := by omega
      rw [if_neg c2]
      exact key _ (by rw [show j + 1 = r.length by omega, Nat.mod_self]; rfl)

theorem fuel_ring {c l k M : Nat} (h : 2 * (c + l + 2) + 1 ≤ k) : ∃ m, k = m + 1 ∧ 2 * l + 1 ≤ m ∧ 2 * c + 1 ≤ m - 2 * l - 1 := ⟨k - 1, by omega, by omega, by omega⟩

theorem sample_rings (x y : Int) (x0 : -40000 ≤ x) (x1 : x ≤ 40000) (y0 : -40000 ≤ y) (y1 : y ≤ 40000) (a : List (List S40)) (ha : a.length ≤ 9000000000000000) (hr : ∀ j, j < a.length → (rd_L2 a (j : Int)).length ≤ 9000000000000000) : ∀ (d k j : Nat) (o : Bool), j + d = a.length → 2 * cost a d + 1 ≤ k →
    terrref5_Sampled.l0 k x y o a (a.length : Int) (j : Int) = some (o ^^ (areaX a x y a.length ^^ areaX a x y j)) := by
  intro d
  induction d with
  | zero =>
    intro k j o hj hk
    rw [cost] at hk
    obtain ⟨k, rfl, ek⟩ := fuel_end (d := 0) hk
    obtain rfl : j = a.length := by omega
    rw [terrref5_Sampled.l0, if_neg (Int.lt_irrefl _), ← xor_stay]
  | succ d ih =>
    intro k j o hj hk
    rw [cost] at hk
    have hjd : a.length - (d + 1) = j := by omega
    rw [hjd] at hk
    have hlt : j < a.length := by omega
    obtain ⟨k, rfl, hk1, hk2⟩ := fuel_ring (M := 0) hk
    obtain ⟨w1, w2, w3⟩ := idx_nums hlt ha
    have e := sample_ring x y x0 x1 y0 y1 (rd_L2 a (j : Int)) (hr j hlt) a (a.length : Int) (j : Int) w1 (rd_L2 a (j : Int)).length k 0 o (Nat.zero_add _) hk1
    rw [terrref5_Sampled.l0, if_pos w3, if_pos (Int.natCast_nonneg _), if_pos w3]
    have z : ((0 : Nat) : Int) = 0 := rfl
    rw [z] at e
    rw [e, w2, ih _ (j + 1) _ (by omega) hk2, areaX]
    show some ((o ^^ (ringX _ x y _ ^^ false)) ^^ _) = _
    congr 1
    cases o <;> cases areaX a x y a.length <;> cases areaX a x y j <;> cases ringX (rd_L2 a (j : Int)) x y (rd_L2 a (j : Int)).length <;> rfl

/-- SAMPLED: the parity of the edges that pass to the right of a sample. -/
theorem sampled_in (a : List (List S40)) (ha : a.length ≤ 9000000000000000) (hr : ∀ j, j < a.length → (rd_L2 a (j : Int)).length ≤ 9000000000000000) (row i : Nat) (hrow : row < 1024) (hi : i < 1024) (k : Nat) (hk : 2 * cost a a.length + 1 ≤ k) :
    terrref5_Sampled.f k a (i : Int) (row : Int) = some (areaX a (2 * (i : Int) + 1) (2 * (row : Int) + 1) a.length) := by
  have e := sample_rings (2 * (i : Int) + 1) (2 * (row : Int) + 1) (by omega) (by omega) (by omega) (by omega) a ha hr a.length k 0 false (Nat.zero_add _) hk
  unfold terrref5_Sampled.f
  rw [wrap_id (x := 2 * (i : Int)) (by omega) (by omega), wrap_id (x := 2 * (row : Int)) (by omega) (by omega), wrap_id (x := 2 * (i : Int) + 1) (by omega) (by omega), wrap_id (x := 2 * (row : Int) + 1) (by omega) (by omega)]
  have z : ((0 : Nat) : Int) = 0 := rfl
  rw [z] at e
  rw [e]
  show some (false ^^ (_ ^^ false)) = _
  rw [Bool.false_xor, Bool.xor_false]

end Go.Proofs.Ytdmhnjpblpfbfaa.U

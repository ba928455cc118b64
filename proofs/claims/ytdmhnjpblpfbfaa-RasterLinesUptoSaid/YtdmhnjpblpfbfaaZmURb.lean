/- Plain facts on rows of samples: a row is covered as the parity of the edges that pass to the right of each sample. Conditions: stated at each. -/
import Derived.Test.YtdmhnjpblpfbfaaZmUB
import Derived.Test.YtdmhnjpblpfbfaaZmQf39
namespace Go.Proofs.Ytdmhnjpblpfbfaa.U
open Go.RowKit Go.Proofs.Ytdmhnjpblpfbfaa.Q Go.Proofs.YtdmhnjpblpfbfaaW.PrintWords Go.Proofs.YtdmhnjpblpfbfaaW.PrintLast Go.Proofs.YtdmhnjpblpfbfaaW.PrintMore
set_option linter.unusedSimpArgs false
set_option linter.unusedVariables false

/-! ### one edge -/
def c8 (v : Int) : Int := 8 * mx (-4096) (mn 4096 v)
theorem c8_bd (v : Int) : -32768 ≤ c8 v ∧ c8 v ≤ 32768 := by
  unfold c8 mx mn
  split <;> split <;> omega
def passOne (px py qx qy x y : Int) : Prop := py ≤ y ∧ y < qy ∧ (x - px) * (qy - py) < (y - py) * (qx - px)
instance (px py qx qy x y : Int) : Decidable (passOne px py qx qy x y) := by unfold passOne; infer_instance
/-- The edge from p to q passes the height y to the right of x (all in eighths). -/
def pass (p q : S40) (x y : Int) : Bool := decide (passOne (c8 p.f0) (c8 p.f1) (c8 q.f0) (c8 q.f1) x y ∨ passOne (c8 q.f0) (c8 q.f1) (c8 p.f0) (c8 p.f1) x y)
theorem mul_bd2 {a b : Int} (h0 : -100000 ≤ a) (h1 : a ≤ 100000) (h2 : -100000 ≤ b) (h3 : b ≤ 100000) : -10000000000 ≤ a * b ∧ a * b ≤ 10000000000 := by
  have h : (a * b).natAbs ≤ 100000 * 100000 := by
    rw [Int.natAbs_mul]
    exact Nat.mul_le_mul (by omega) (by omega)
  omega
theorem ceil_in (a b : Int) (h : 0 < b) (hb : b ≤ 200000) (a0 : -100000000000 ≤ a) (a1 : a ≤ 100000000000) : ∃ q, raster_ceil.f a b = some q ∧ ∀ i : Int, (i < q ↔ i * b < a) := by
  have e := Int.mul_ediv_add_emod a b
  have m0 := Int.emod_nonneg a (show b ≠ 0 by omega)
  have m1 := Int.emod_lt_of_pos a h
  have comm : a / b * b = b * (a / b) := Int.mul_comm _ _
  have b0 : -100000000000 ≤ a / b := (Int.le_ediv_iff_mul_le h).mpr (by have := Int.mul_le_mul_of_nonneg_left (show (1 : Int) ≤ b by omega) (show (0 : Int) ≤ 100000000000 by decide); rw [Int.neg_mul]; omega)
  have b1 : a / b ≤ 100000000000 := by
    by_cases c : 0 ≤ a
    · have := Int.ediv_le_self b c; omega
    · have := Int.ediv_neg_of_neg_of_pos (show a < 0 by omega) h; omega
  have lt : ∀ i j : Int, i ≤ j → i * b ≤ j * b := fun i j h' => Int.mul_le_mul_of_nonneg_right h' (by omega)
  have q : Int.tdiv a b = a / b ∧ (0 ≤ a ∨ a % b = 0) ∨ Int.tdiv a b = a / b + 1 ∧ a % b ≠ 0 := by
    rw [Int.tdiv_eq_ediv]
    by_cases c : 0 ≤ a ∨ b ∣ a
    · rw [if_pos c]
      exact Or.inl ⟨by omega, c.imp_right Int.emod_eq_zero_of_dvd⟩
    · rw [if_neg c, Int.sign_eq_one_of_pos h]
      exact Or.inr ⟨rfl, fun k => c (Or.inr (Int.dvd_of_emod_eq_zero k))⟩
  have e2 : (a / b + 1) * b = b * (a / b) + b := by rw [Int.add_mul, Int.one_mul, comm]
  unfold raster_ceil.f
  rw [if_neg (by omega)]
  rcases q with ⟨q, c⟩ | ⟨q, c⟩
  · rw [q, wrap_id (x := a / b) (by omega) (by omega), wrap_id (x := a / b * b) (by omega) (by omega)]
    by_cases l : a / b * b < a
    · rw [if_pos l, wrap_id (by omega) (by omega)]
      refine ⟨_, rfl, fun i => ⟨fun hi => ?_, fun hi => ?_⟩⟩
      · have := lt i (a / b) (by omega); omega
      · rcases Int.lt_or_le i (a / b + 1) with h1 | h1
        · exact h1
        · have := lt _ _ h1; omega
    · rw [if_neg l]
      refine ⟨_, rfl, fun i => ⟨fun hi => ?_, fun hi => ?_⟩⟩
      · have := lt i (a / b - 1) (by omega)
        have e3 : (a / b - 1) * b = b * (a / b) - b := by rw [Int.sub_mul, Int.one_mul, comm]
        omega
      · rcases Int.lt_or_le i (a / b) with h1 | h1
        · exact h1
        · have := lt _ _ h1; omega
  · rw [q, wrap_id (x := a / b + 1) (by omega) (by omega), wrap_id (x := (a / b + 1) * b) (by omega) (by omega), if_neg (by omega)]
    refine ⟨_, rfl, fun i => ⟨fun hi => ?_, fun hi => ?_⟩⟩
    · have := lt i (a / b) (by omega); omega
    · rcases Int.lt_or_le i (a / b + 1) with h1 | h1
      · exact h1
      · have := lt _ _ h1; omega
/-- The core of 'before', for an edge that goes up. -/
theorem cross_in (ax ay bx b_ y : Int) (hax : -32768 ≤ ax) (hax' : ax ≤ 32768) (hay : -32768 ≤ ay) (hb : b_ ≤ 32768) (hbx : -32768 ≤ bx) (hbx' : bx ≤ 32768) (h1 : ay ≤ y) (h2 : y < b_) :
    ∃ t, raster_ceil.f (wrap64 ((wrap64 ((wrap64 (ax * (wrap64 (b_ - ay)))) + (wrap64 ((wrap64 (y - ay)) * (wrap64 (bx - ax)))))) - (wrap64 (b_ - ay)))) (wrap64 (2 * (wrap64 (b_ - ay)))) = some t ∧
      ∀ i : Nat, i < 1024 → (decide ((i : Int) < mx 0 (mn 1024 t)) = decide (passOne ax ay bx b_ (2 * (i : Int) + 1) y)) := by
  have p1 := mul_bd2 (a := ax) (b := b_ - ay) (by omega) (by omega) (by omega) (by omega)
  have p2 := mul_bd2 (a := y - ay) (b := bx - ax) (by omega) (by omega) (by omega) (by omega)
  rw [wrap_id (x := b_ - ay) (by omega) (by omega), wrap_id (x := y - ay) (by omega) (by omega), wrap_id (x := bx - ax) (by omega) (by omega), wrap_id (x := ax * (b_ - ay)) (by omega) (by omega), wrap_id (x := (y - ay) * (bx - ax)) (by omega) (by omega), wrap_id (x := ax * (b_ - ay) + (y - ay) * (bx - ax)) (by omega) (by omega), wrap_id (x := ax * (b_ - ay) + (y - ay) * (bx - ax) - (b_ - ay)) (by omega) (by omega), wrap_id (x := 2 * (b_ - ay)) (by omega) (by omega)]
  obtain ⟨q, hq, hi⟩ := ceil_in (ax * (b_ - ay) + (y - ay) * (bx - ax) - (b_ - ay)) (2 * (b_ - ay)) (by omega) (by omega) (by omega) (by omega)
  refine ⟨q, hq, fun i hlt => ?_⟩
  rw [decide_eq_decide]
  have h3 := hi (i : Int)
  have e1 : (i : Int) * (2 * (b_ - ay)) = 2 * (i : Int) * (b_ - ay) := by rw [← Int.mul_assoc, Int.mul_comm (i : Int) 2]
  have e2 : (2 * (i : Int) + 1 - ax) * (b_ - ay) = 2 * (i : Int) * (b_ - ay) + (b_ - ay) - ax * (b_ - ay) := by rw [Int.sub_mul, Int.add_mul, Int.one_mul]
  have e3 : ((i : Int) < mx 0 (mn 1024 q)) ↔ (i : Int) < q := by
    unfold mx mn
    split <;> split <;> omega
  rw [e3, h3, e1]
  unfold passOne
  rw [e2]
  omega
theorem clamp8 (v : Int) : ∃ t, raster_clamp.f v = some t ∧ wrap64 (8 * t) = c8 v := by
  refine ⟨_, rfl, ?_⟩
  have := c8_bd v
  unfold c8 at this ⊢
  exact wrap_id (by omega) (by omega)
theorem before_in (p q : S40) (y : Int) (y0 : 0 ≤ y) (y1 : y ≤ 4096) :
    (∃ k, raster_before.f p.f0 p.f1 q.f0 q.f1 y = some (k, true) ∧ ∀ i : Nat, i < 1024 → decide ((i : Int) < k) = pass p q (2 * (i : Int) + 1) y) ∨
    (raster_before.f p.f0 p.f1 q.f0 q.f1 y = some (0, false) ∧ ∀ i : Nat, i < 1024 → pass p q (2 * (i : Int) + 1) y = false) := by
  obtain ⟨t1, e1, f1⟩ := clamp8 p.f0
  obtain ⟨t2, e2, f2⟩ := clamp8 p.f1
  obtain ⟨t3, e3, f3⟩ := clamp8 q.f0
  obtain ⟨t4, e4, f4⟩ := clamp8 q.f1
  have g1 := c8_bd p.f0
  have g2 := c8_bd p.f1
  have g3 := c8_bd q.f0
  have g4 := c8_bd q.f1
  unfold raster_before.f pass
  rw [e1, Option.bind_some, e2, Option.bind_some, e3, Option.bind_some, e4, Option.bind_some, f1, f2, f3, f4]
  generalize c8 p.f0 = ax at *
  generalize c8 p.f1 = ay at *
  generalize c8 q.f0 = bx at *
  generalize c8 q.f1 = b_ at *
  by_cases c : (ay ≤ y ↔ b_ ≤ y)
  · right
    rw [if_pos (by rw [beq_iff_eq, decide_eq_decide]; exact c)]
    refine ⟨rfl, fun i _ => decide_eq_false ?_⟩
    unfold passOne
    omega
  · left
    rw [if_neg (by rw [beq_iff_eq, decide_eq_decide]; exact c)]
    by_cases d : ay > b_
    · obtain ⟨t, ht, hi⟩ := cross_in bx b_ ax ay y (by omega) (by omega) (by omega) (by omega) (by omega) (by omega) (by omega) (by omega)
      rw [if_pos d, ht, Option.bind_some]
      refine ⟨_, rfl, fun i hlt => ?_⟩
      rw [hi i hlt, decide_eq_decide]
      constructor
      · exact Or.inr
      · rintro (h | h)
        · unfold passOne at h; omega
        · exact h
    · obtain ⟨t, ht, hi⟩ := cross_in ax ay bx b_ y (by omega) (by omega) (by omega) (by omega) (by omega) (by omega) (by omega) (by omega)
      rw [if_neg d, ht, Option.bind_some]
      refine ⟨_, rfl, fun i hlt => ?_⟩
      rw [hi i hlt, decide_eq_decide]
      constructor
      · exact Or.inl
      · rintro (h | h)
        · exact h
        · unfold passOne at h; omega
/-! ### the ends of a row -/
def odd (l : List Int) (i : Nat) : Bool := l.countP (fun k => decide ((i : Int) < k)) % 2 == 1
theorem odd_nil (i : Nat) : odd [] i = false := rfl
theorem odd_snoc (l : List Int) (k : Int) (i : Nat) : odd (l ++ [k]) i = (odd l i ^^ decide ((i : Int) < k)) := by
  unfold odd
  rw [List.countP_append, List.countP_singleton]
  by_cases h : (i : Int) < k
  · simp only [h, decide_true, if_true, Bool.xor_true]
    rw [Bool.eq_iff_iff]
    simp
    omega
  · simp [h]
/-- The parity of the first n edges of a ring. -/
def ringX (r : List S40) (x y : Int) : Nat → Bool
  | 0 => false
  | n + 1 => ringX r x y n ^^ pass (rd_T40 r (n : Int)) (rd_T40 r (((n + 1) % r.length : Nat) : Int)) x y
/-- The parity of the edges of the first n rings. -/
def areaX (a : List (List S40)) (x y : Int) : Nat → Bool
  | 0 => false
  | n + 1 => areaX a x y n ^^ ringX (rd_L2 a (n : Int)) x y (rd_L2 a (n : Int)).length
theorem xor_move (a b c d : Bool) : (a ^^ (b ^^ (c ^^ d))) = ((a ^^ d) ^^ (b ^^ c)) := by cases a <;> cases b <;> cases c <;> cases d <;> rfl
theorem xor_stay (a b : Bool) : a = (a ^^ (b ^^ b)) := by cases a <;> cases b <;> rfl
theorem ring_nums {j len : Nat} (h : j < len) (hl : len ≤ 9000000000000000) : wrap64 ((j : Int) + 1) = ((j + 1 : Nat) : Int) ∧ Int.tmod ((j + 1 : Nat) : Int) (len : Int) = (((j + 1) % len : Nat) : Int) ∧ (j + 1) % len < len := by
  refine ⟨?_, ?_, Nat.mod_lt _ (by omega)⟩
  · rw [wrap_id (by omega) (by omega)]; omega
  · rw [Int.tmod_eq_emod_of_nonneg (by omega)]; exact (Int.natCast_emod _ _).symm
theorem ring_loop (row y : Int) (hy : wrap64 (wrap64 (2 * row) + 1) = y) (y0 : 0 ≤ y) (y1 : y ≤ 4096) (r : List S40) (hr : r.length ≤ 9000000000000000) (a : List (List S40)) (n idx : Int) (hi : wrap64 (idx + 1) = idx + 1) : ∀ (d k j : Nat) (acc : List Int), j + d = r.length → d < k → acc.length + d < 17592186044416 →
    ∃ acc', acc'.length ≤ acc.length + d ∧ (∀ i : Nat, i < 1024 → odd acc' i = (odd acc i ^^ (ringX r (2 * (i : Int) + 1) y r.length ^^ ringX r (2 * (i : Int) + 1) y j))) ∧
      raster_Row.l1 k row acc r a n idx (r.length : Int) (j : Int) = raster_Row.l0 (k - d - 1) row acc' a n (idx + 1) := by
  intro d
  induction d with
  | zero =>
    intro k j acc hj hk ha
    obtain ⟨k, rfl⟩ : ∃ m, k = m + 1 := ⟨k - 1, by omega⟩
    obtain rfl : j = r.length := by omega
    refine ⟨acc, by omega, fun i _ => xor_stay _ _, ?_⟩
    rw [raster_Row.l1, if_neg (by omega), hi]
    rfl
  | succ d ih =>
    intro k j acc hj hk ha
    obtain ⟨k, rfl⟩ : ∃ m, k = m + 1 := ⟨k - 1, by omega⟩
    have hlt : j < r.length := by omega
    obtain ⟨w1, w2, w3⟩ := ring_nums hlt hr
    have c1 : (j : Int) < (r.length : Int) := by omega
    have c2 : (0 : Int) ≤ (j : Int) := by omega
    have c3 : ¬ (r.length : Int) = 0 := by omega
    have c4 : (((j + 1) % r.length : Nat) : Int) < (r.length : Int) := by omega
    have hk1 : k + 1 - (d + 1) - 1 = k - d - 1 := by omega
    have hkd : d < k := by omega
    have hj1 : j + 1 + d = r.length := by omega
    rw [raster_Row.l1, if_pos c1, if_pos c2, if_pos c1, if_neg c3, w1, w2, if_pos (Int.natCast_nonneg _), if_pos c4, hy, hk1]
    rcases before_in (rd_T40 r (j : Int)) (rd_T40 r (((j + 1) % r.length : Nat) : Int)) y y0 y1 with ⟨q, e, hq⟩ | ⟨e, hq⟩
    · have hl : (acc ++ [q]).length + d < 17592186044416 := by rw [List.length_append]; simp; omega
      obtain ⟨acc', l', o', e'⟩ := ih k (j + 1) (acc ++ [q]) hj1 hkd hl
      refine ⟨acc', by rw [List.length_append] at l'; simp at l'; omega, fun i hi' => ?_, ?_⟩
      · rw [o' i hi', odd_snoc, hq i hi', ringX, xor_move]
        cases odd acc i <;> cases ringX r (2 * (i : Int) + 1) y r.length <;> cases ringX r (2 * (i : Int) + 1) y j <;> cases pass (rd_T40 r (j : Int)) (rd_T40 r (((j + 1) % r.length : Nat) : Int)) (2 * (i : Int) + 1) y <;> rfl
      · rw [e, Option.bind_some]
        dsimp only
        rw [if_pos rfl, if_pos (by omega)]
        exact e'
    · obtain ⟨acc', l', o', e'⟩ := ih k (j + 1) acc hj1 hkd (by omega)
      refine ⟨acc', by omega, fun i hi' => ?_, ?_⟩
      · rw [o' i hi', ringX, hq i hi', Bool.xor_false]
      · rw [e, Option.bind_some]
        dsimp only
        rw [if_neg (by decide)]
        exact e'
/-- What the rings from a place on cost in rounds. -/
def cost (a : List (List S40)) : Nat → Nat
  | 0 => 0
  | d + 1 => cost a d + (rd_L2 a ((a.length - (d + 1) : Nat) : Int)).length + 2
theorem idx_nums {j n : Nat} (h : j < n) (hl : n ≤ 9000000000000000) : wrap64 ((j : Int) + 1) = (j : Int) + 1 ∧ (j : Int) + 1 = ((j + 1 : Nat) : Int) ∧ (j : Int) < (n : Int) := by
  refine ⟨wrap_id (by omega) (by omega), by omega, by omega⟩
/-- What stands behind the collecting of the ends. -/
def tailRow (k : Nat) (acc : List Int) : Option (List Bool) := (slices_Sort_int_int.f acc).bind fun t240 => (if 1024 ≤ 281474976710656 then ((some (List.replicate 1024 false : List Bool)).bind fun y241 => (raster_Row.l2 k t240 y241 0 (y241.length : Int) 0)) else (none))
theorem rings_loop (row y : Int) (hy : wrap64 (wrap64 (2 * row) + 1) = y) (y0 : 0 ≤ y) (y1 : y ≤ 4096) (a : List (List S40)) (ha : a.length ≤ 9000000000000000) (hr : ∀ j, j < a.length → (rd_L2 a (j : Int)).length ≤ 9000000000000000) : ∀ (d k j M : Nat) (acc : List Int), j + d = a.length → cost a d + 1 + M ≤ k → acc.length + cost a d < 17592186044416 →
    ∃ acc' k', M ≤ k' ∧ acc'.length ≤ acc.length + cost a d ∧ (∀ i : Nat, i < 1024 → odd acc' i = (odd acc i ^^ (areaX a (2 * (i : Int) + 1) y a.length ^^ areaX a (2 * (i : Int) + 1) y j))) ∧
      raster_Row.l0 k row acc a (a.length : Int) (j : Int) = tailRow k' acc' := by
  intro d
  induction d with
  | zero =>
    intro k j M acc hj hk hb
    rw [cost] at hk hb
    obtain ⟨k, rfl⟩ : ∃ m, k = m + 1 := ⟨k - 1, by omega⟩
    obtain rfl : j = a.length := by omega
    refine ⟨acc, k, by omega, by omega, fun i _ => xor_stay _ _, ?_⟩
    rw [raster_Row.l0, if_neg (by omega)]
    rfl
  | succ d ih =>
    intro k j M acc hj hk hb
    rw [cost] at hk hb
    have hjd : a.length - (d + 1) = j := by omega
    rw [hjd] at hk hb
    have hlt : j < a.length := by omega
    obtain ⟨k, rfl⟩ : ∃ m, k = m + 1 := ⟨k - 1, by omega⟩
    obtain ⟨w1, w2, w3⟩ := idx_nums hlt ha
    have hrj := hr j hlt
    obtain ⟨acc1, l1, o1, e1⟩ := ring_loop row y hy y0 y1 (rd_L2 a (j : Int)) hrj a (a.length : Int) (j : Int) w1 (rd_L2 a (j : Int)).length k 0 acc (by omega) (by omega) (by omega)
    obtain ⟨acc', k', hM, l', o', e'⟩ := ih (k - (rd_L2 a (j : Int)).length - 1) (j + 1) M acc1 (by omega) (by omega) (by omega)
    refine ⟨acc', k', hM, by rw [cost, hjd]; omega, fun i hi => ?_, ?_⟩
    · rw [o' i hi, o1 i hi, areaX]
      show ((odd acc i ^^ (ringX _ _ y _ ^^ false)) ^^ _) = _
      cases odd acc i <;> cases areaX a (2 * (i : Int) + 1) y a.length <;> cases areaX a (2 * (i : Int) + 1) y j <;> cases ringX (rd_L2 a (j : Int)) (2 * (i : Int) + 1) y (rd_L2 a (j : Int)).length <;> rfl
    · rw [raster_Row.l0, if_pos w3, if_pos (Int.natCast_nonneg _), if_pos w3]
      have z : raster_Row.l1 k row acc (rd_L2 a (j : Int)) a (a.length : Int) (j : Int) ((rd_L2 a (j : Int)).length : Int) 0 = raster_Row.l1 k row acc (rd_L2 a (j : Int)) a (a.length : Int) (j : Int) ((rd_L2 a (j : Int)).length : Int) ((0 : Nat) : Int) := rfl
      rw [z, e1, w2, e']
/-! ### from the ends to the samples -/
def tb (n : Nat) (f : Nat → Bool) : List Bool := (List.range n).map f
theorem tb_length (n : Nat) (f : Nat → Bool) : (tb n f).length = n := by simp [tb]
theorem tb_rd (n : Nat) (f : Nat → Bool) (j : Nat) (h : j < n) : rdOf false (tb n f) (j : Int) = f j := by
  simp [rdOf, tb, List.getD, h]
theorem tb_set (n : Nat) (f : Nat → Bool) (j : Nat) (v : Bool) : (tb n f).set j v = tb n (fun i => if i = j then v else f i) := by
  apply List.ext_getElem
  · simp [tb]
  · intro i h1 h2
    simp only [tb, List.getElem_set, List.getElem_map, List.getElem_range]
    by_cases e : j = i
    · rw [if_pos e, if_pos e.symm]
    · rw [if_neg e, if_neg (fun h => e h.symm)]
theorem tb_false (n : Nat) : List.replicate n false = tb n (fun _ => false) := by
  apply List.ext_getElem
  · simp [tb]
  · intro i h1 h2
    simp [tb]
theorem rd_eq (s : List Int) (j : Nat) (h : j < s.length) : rd s (j : Int) = s[j] := by
  simp [rd, List.getD, h]
/-- How many are above i, where the first m are not, and the others are. -/
theorem count_above (s : List Int) (i : Int) (m : Nat) (hm : m ≤ s.length) (h1 : ∀ j, (hj : j < s.length) → j < m → s[j] ≤ i) (h2 : ∀ j, (hj : j < s.length) → m ≤ j → i < s[j]) :
    s.countP (fun k => decide (i < k)) = s.length - m := by
  have e : s = s.take m ++ s.drop m := (List.take_append_drop m s).symm
  have c1 : (s.take m).countP (fun k => decide (i < k)) = 0 := by
    rw [List.countP_eq_zero]
    intro x hx
    obtain ⟨j, hj, rfl⟩ := List.mem_iff_getElem.mp hx
    rw [List.length_take] at hj
    rw [List.getElem_take]
    have := h1 j (by omega) (by omega)
    simp
    omega
  have c2 : (s.drop m).countP (fun k => decide (i < k)) = (s.drop m).length := by
    rw [List.countP_eq_length]
    intro x hx
    obtain ⟨j, hj, rfl⟩ := List.mem_iff_getElem.mp hx
    rw [List.length_drop] at hj
    rw [List.getElem_drop]
    have := h2 (m + j) (by omega) (by omega)
    simpa using this
  rw [e, List.countP_append, c1, c2, ← e, List.length_drop, Nat.zero_add]
/-- The inner loop: the place moves on while the end there is not above i. -/
theorem at_loop (n : Nat) (hn : n = 1024) (s : List Int) (hs : s.Pairwise (· ≤ ·)) (hl : s.length < 17592186044416) (i : Nat) (hi : i < n) (out : List Bool) (ho : out.length = n) : ∀ (d k m : Nat), m + d = s.length → d < k → (∀ j, (hj : j < s.length) → j < m → s[j] ≤ (i : Int)) →
    ∃ m' k', k - d - 1 ≤ k' ∧ m ≤ m' ∧ m' ≤ s.length ∧ (∀ j, (hj : j < s.length) → j < m' → s[j] ≤ (i : Int)) ∧ k' + (m' - m) + 1 = k ∧
      raster_Row.l3 k s out (m : Int) (i : Int) (n : Int) (i : Int) = raster_Row.l2 k' s (out.set i (odd s i)) (m' : Int) (n : Int) ((i + 1 : Nat) : Int) := by
  have wi : wrap64 ((i : Int) + 1) = ((i + 1 : Nat) : Int) := by rw [wrap_id (by omega) (by omega)]; omega
  have i1 : (i : Int) < (out.length : Int) := by rw [ho]; omega
  have fin : ∀ m : Nat, m ≤ s.length → (∀ j, (hj : j < s.length) → j < m → s[j] ≤ (i : Int)) → (∀ j, (hj : j < s.length) → m ≤ j → (i : Int) < s[j]) → ((Int.tmod (wrap64 ((s.length : Int) - (m : Int))) 2) == 1) = odd s i := by
    intro m hm h1 h2
    unfold odd
    rw [count_above s i m hm h1 h2, wrap_id (by omega) (by omega), Int.tmod_eq_emod_of_nonneg (by omega), Bool.eq_iff_iff, beq_iff_eq, beq_iff_eq]
    omega
  intro d
  induction d with
  | zero =>
    intro k m hm hk h1
    obtain ⟨k, rfl⟩ : ∃ q, k = q + 1 := ⟨k - 1, by omega⟩
    obtain rfl : m = s.length := by omega
    refine ⟨s.length, k, by omega, by omega, by omega, h1, by omega, ?_⟩
    rw [raster_Row.l3, if_neg (by omega), if_pos (Int.natCast_nonneg _), if_pos i1, fin s.length (by omega) h1 (fun j hj hm => absurd hj (by omega)), Int.toNat_natCast, wi]
  | succ d ih =>
    intro k m hm hk h1
    obtain ⟨k, rfl⟩ : ∃ q, k = q + 1 := ⟨k - 1, by omega⟩
    have hlt : m < s.length := by omega
    have c1 : (m : Int) < (s.length : Int) := by omega
    have wm : wrap64 ((m : Int) + 1) = ((m + 1 : Nat) : Int) := by rw [wrap_id (by omega) (by omega)]; omega
    rw [raster_Row.l3, if_pos c1, if_pos (Int.natCast_nonneg _), rd_eq s m hlt]
    by_cases c : s[m] ≤ (i : Int)
    · rw [if_pos c, wm]
      obtain ⟨m', k', a1, a2, a3, a4, a5, a6⟩ := ih k (m + 1) (by omega) (by omega) (fun j hj hjm => by
        rcases Nat.lt_or_ge j m with h | h
        · exact h1 j hj h
        · obtain rfl : j = m := by omega
          exact c)
      exact ⟨m', k', by omega, by omega, a3, a4, by omega, a6⟩
    · rw [if_neg c, if_pos (Int.natCast_nonneg _), if_pos i1, fin m (by omega) h1 (fun j hj hmj => by
        rcases Nat.lt_or_ge m j with h | h
        · have := List.pairwise_iff_getElem.mp hs m j hlt hj h
          omega
        · obtain rfl : j = m := by omega
          omega), Int.toNat_natCast, wi]
      exact ⟨m, k, by omega, by omega, by omega, h1, by omega, rfl⟩
theorem out_loop (n : Nat) (hn : n = 1024) (s : List Int) (hs : s.Pairwise (· ≤ ·)) (hl : s.length < 17592186044416) : ∀ (d k m i : Nat), i + d = n → m ≤ s.length → (s.length - m) + 2 * d + 1 ≤ k → (∀ j, (hj : j < s.length) → j < m → s[j] ≤ (i : Int)) →
    raster_Row.l2 k s (tb n (fun j => if j < i then odd s j else false)) (m : Int) (n : Int) (i : Int) = some (tb n (odd s)) := by
  intro d
  induction d with
  | zero =>
    intro k m i hi hm hk h1
    obtain ⟨k, rfl⟩ : ∃ q, k = q + 1 := ⟨k - 1, by omega⟩
    rw [raster_Row.l2, if_neg (by omega)]
    congr 1
    apply List.ext_getElem
    · simp [tb]
    · intro j h2 h3
      rw [tb_length] at h2
      simp only [tb, List.getElem_map, List.getElem_range]
      rw [if_pos (by omega)]
  | succ d ih =>
    intro k m i hi hm hk h1
    obtain ⟨k, rfl⟩ : ∃ q, k = q + 1 := ⟨k - 1, by omega⟩
    rw [raster_Row.l2, if_pos (by omega)]
    obtain ⟨m', k', a1, a2, a3, a4, a5, a6⟩ := at_loop n hn s hs hl i (by omega) (tb n (fun j => if j < i then odd s j else false)) (tb_length _ _) (s.length - m) k m (by omega) (by omega) h1
    rw [a6, tb_set]
    have e : (fun j => if j = i then odd s i else if j < i then odd s j else false) = (fun j => if j < i + 1 then odd s j else false) := by
      funext j
      by_cases c : j = i
      · rw [if_pos c, if_pos (by omega), c]
      · rw [if_neg c]
        by_cases c2 : j < i
        · rw [if_pos c2, if_pos (by omega)]
        · rw [if_neg c2, if_neg (by omega)]
    rw [e]
    exact ih k' m' (i + 1) (by omega) a3 (by omega) (fun j hj hjm => by have := a4 j hj hjm; omega)
theorem tail_in (n : Nat) (hn : n = 1024) (acc : List Int) (hl : acc.length < 17592186044416) (k : Nat) (hk : acc.length + 3000 ≤ k) : tailRow k acc = some (tb n (odd acc)) := by
  have hp : (acc.mergeSort fun x y => decide (x ≤ y)).Perm acc := List.mergeSort_perm acc _
  have hs : (acc.mergeSort fun x y => decide (x ≤ y)).Pairwise (· ≤ ·) := by
    have := List.pairwise_mergeSort (le := fun x y : Int => decide (x ≤ y)) (fun a b c h1 h2 => by simp at *; omega) (fun a b => by simp; omega) acc
    exact this.imp (fun h => by simpa using h)
  have hlen := hp.length_eq
  have ho : odd (acc.mergeSort fun x y => decide (x ≤ y)) = odd acc := by
    funext i
    unfold odd
    rw [hp.countP_eq]
  unfold tailRow slices_Sort_int_int.f
  rw [if_pos (by omega), Option.bind_some, if_pos (by decide), ← hn, tb_false, Option.bind_some, tb_length]
  generalize (acc.mergeSort fun x y => decide (x ≤ y)) = s at *
  have := out_loop n hn s hs (by omega) n k 0 0 (by omega) (by omega) (by omega) (fun j hj h => absurd h (by omega))
  rw [← ho]
  exact this
theorem row_fuel {C k F G : Nat} (hF : F = 4000) (hG : G = 3000) (h : 2 * C + F ≤ k + 1) : C + 1 + (C + G) ≤ k := by omega
theorem row_fuel2 {C k l G : Nat} (h : C + G ≤ k) (hl : l ≤ C) : l + G ≤ k := by omega
/-- ROW: each sample is covered as the parity of the edges that pass to the right of it. -/
theorem row_in (n : Nat) (hn : n = 1024) (a : List (List S40)) (ha : a.length ≤ 9000000000000000) (hr : ∀ j, j < a.length → (rd_L2 a (j : Int)).length ≤ 9000000000000000) (hc : cost a a.length < 17592186044416) (row : Nat) (hrow : row < n) (F : Nat) (hF : F = 4000) (k : Nat) (hk : 2 * cost a a.length + F ≤ k) :
    raster_Row.f k a (row : Int) = some (tb n (fun i => areaX a (2 * (i : Int) + 1) (2 * (row : Int) + 1) a.length)) := by
  obtain ⟨k, rfl⟩ : ∃ m, k = m + 1 := ⟨k - 1, by omega⟩
  have hy : wrap64 (wrap64 (2 * (row : Int)) + 1) = 2 * (row : Int) + 1 := by rw [wrap_id (x := 2 * (row : Int)) (by omega) (by omega), wrap_id (by omega) (by omega)]
  obtain ⟨C, hC⟩ : ∃ C, C = cost a a.length := ⟨_, rfl⟩
  rw [← hC] at hc hk
  obtain ⟨G, hG⟩ : ∃ G : Nat, G = 3000 := ⟨_, rfl⟩
  have f1 := row_fuel hF hG hk
  have f2 : ([] : List Int).length + C < 17592186044416 := by rw [List.length_nil, Nat.zero_add]; exact hc
  rw [hC] at f2
  rw [show C + 1 + (C + G) = cost a a.length + 1 + (C + G) by rw [hC]] at f1
  obtain ⟨acc', k', hM, l', o', e'⟩ := rings_loop (row : Int) (2 * (row : Int) + 1) hy (by omega) (by omega) a ha hr a.length k 0 (C + G) [] (Nat.zero_add _) f1 f2
  have l2 : acc'.length ≤ C := by rw [List.length_nil, Nat.zero_add, ← hC] at l'; exact l'
  unfold raster_Row.f
  rw [if_neg (by omega), raster_Row.j0, if_neg (by simp; omega)]
  have z : raster_Row.l0 k (row : Int) [] a (a.length : Int) 0 = raster_Row.l0 k (row : Int) [] a (a.length : Int) ((0 : Nat) : Int) := rfl
  rw [z, e', tail_in n hn acc' (Nat.lt_of_le_of_lt l2 hc) k' (by rw [← hG]; exact row_fuel2 hM l2)]
  congr 1
  apply List.ext_getElem
  · simp [tb]
  · intro i h1 h2
    rw [tb_length] at h1
    simp only [tb, List.getElem_map, List.getElem_range]
    rw [o' i (by omega), odd_nil, Bool.false_xor]
    show (areaX a (2 * (i : Int) + 1) (2 * (row : Int) + 1) a.length ^^ false) = _
    rw [Bool.xor_false]
end Go.Proofs.Ytdmhnjpblpfbfaa.U


/- It does not matter where a ring begins, nor in which direction it goes: for all lists and numbers. No condition. -/
import Derived.Test.YtdmhnjpblpfbfaaURb
import Derived.Test.YtdmhnjpblpfbfaaQRasterTurns
namespace Go.Proofs.Ytdmhnjpblpfbfaa.Pure
open Go.RowKit Go.Proofs.Ytdmhnjpblpfbfaa.Q Go.Proofs.Ytdmhnjpblpfbfaa.U Go.Proofs.YtdmhnjpblpfbfaaW.PrintWords Go.Proofs.YtdmhnjpblpfbfaaW.PrintLast Go.Proofs.YtdmhnjpblpfbfaaW.PrintMore
set_option linter.unusedSimpArgs false
set_option linter.unusedVariables false

/-! ### the area out of numbers: at most three rings, of four points each -/
theorem next_in (l : List Int) (n : Int) (h : 1 ≤ n) (h2 : n ≤ 1000000) : ∃ v, terrmake_Stream_Next.f l n = some v ∧ 0 ≤ v ∧ v < n := by
  refine ⟨nextv l n, ?_, nextv_in l n h⟩
  unfold terrmake_Stream_Next.f
  rw [if_pos ⟨h, h2⟩]

def Small (a : List (List S40)) : Prop := a.length ≤ 3 ∧ ∀ r ∈ a, r.length = 4

theorem area_in (l : List Int) : ∃ a, terrmake_Area.f l = some a ∧ Small a := by
  obtain ⟨x, ex, x0, x1⟩ := next_in l 30 (by decide) (by decide)
  obtain ⟨y, ey, y0, y1⟩ := next_in l.tail 30 (by decide) (by decide)
  obtain ⟨q, eq, q0, q1⟩ := next_in l.tail.tail 10 (by decide) (by decide)
  obtain ⟨s, es, s0, s1⟩ := next_in l.tail.tail.tail 4 (by decide) (by decide)
  have w1 : wrap64 (6 + q) = 6 + q := wrap_id (by omega) (by omega)
  have w2 : wrap64 (6 + q - 2) = 6 + q - 2 := wrap_id (by omega) (by omega)
  have w3 : wrap64 (6 + q - 4) = 6 + q - 4 := wrap_id (by omega) (by omega)
  obtain ⟨u, eu, u0, u1⟩ := next_in l.tail.tail.tail.tail (6 + q - 2) (by omega) (by omega)
  obtain ⟨v, ev, v0, v1⟩ := next_in l.tail.tail.tail.tail (6 + q - 4) (by omega) (by omega)
  have w4 : wrap64 (3 + v) = 3 + v := wrap_id (by omega) (by omega)
  have w5 : wrap64 (3 + v - 2) = 3 + v - 2 := wrap_id (by omega) (by omega)
  obtain ⟨z, ez, z0, z1⟩ := next_in l.tail.tail.tail.tail.tail (3 + v - 2) (by omega) (by omega)
  obtain ⟨t, et, t0, t1⟩ := next_in l.tail.tail.tail.tail 3 (by decide) (by decide)
  have d1 : ∀ a b c, ∃ r, terrmake_Area_1.f a b c = some r ∧ r.length = 4 := fun a b c => ⟨_, rfl, rfl⟩
  have d2 : ∀ a b c, ∃ r, terrmake_Area_2.f a b c = some r ∧ r.length = 4 := fun a b c => ⟨_, rfl, rfl⟩
  obtain ⟨A, eA, lA⟩ := d1 (wrap64 (x - 15)) (wrap64 (y - 15)) (6 + q)
  obtain ⟨B, eB, lB⟩ := d2 (wrap64 (x - 15)) (wrap64 (y - 15)) (wrap64 (1 + u))
  obtain ⟨C, eC, lC⟩ := d2 (wrap64 (x - 15)) (wrap64 (y - 15)) (3 + v)
  obtain ⟨D, eD, lD⟩ := d1 (wrap64 (x - 15)) (wrap64 (y - 15)) (wrap64 (1 + z))
  obtain ⟨E, eE, lE⟩ := d1 (wrap64 (wrap64 (wrap64 (wrap64 (x - 15) + (6 + q)) + 3) + t)) (wrap64 (y - 15)) 2
  unfold terrmake_Area.f
  rw [ex, Option.bind_some, ey, Option.bind_some, eq, Option.bind_some, w1, eA, Option.bind_some, Option.bind_some, es, Option.bind_some]
  by_cases c1 : s = 1
  · rw [if_pos c1, w2, eu, Option.bind_some, eB, Option.bind_some, if_pos (by show (1 : Nat) < _; omega)]
    refine ⟨_, rfl, by show (2 : Nat) ≤ 3; omega, fun r hr => ?_⟩
    simp at hr
    rcases hr with rfl | rfl <;> omega
  · rw [if_neg c1]
    by_cases c2 : s = 2
    · rw [if_pos c2, w3, ev, Option.bind_some, w4, eC, Option.bind_some, w5, ez, Option.bind_some, eD, Option.bind_some, Option.bind_some, if_pos (by show (3 : Nat) < _; omega)]
      refine ⟨_, rfl, by show (3 : Nat) ≤ 3; omega, fun r hr => ?_⟩
      simp at hr
      rcases hr with rfl | rfl | rfl <;> omega
    · rw [if_neg c2]
      by_cases c3 : s = 3
      · rw [if_pos c3, et, Option.bind_some, eE, Option.bind_some, if_pos (by show (1 : Nat) < _; omega)]
        refine ⟨_, rfl, by show (2 : Nat) ≤ 3; omega, fun r hr => ?_⟩
        simp at hr
        rcases hr with rfl | rfl <;> omega
      · rw [if_neg c3]
        refine ⟨_, rfl, by show (1 : Nat) ≤ 3; omega, fun r hr => ?_⟩
        simp at hr
        subst hr
        omega

/-! ### the area, moved -/
theorem local_ring (x3 x10 : List (List S40)) (x11 x12 : Int) (x16 : List S40) (hl : x16.length ≤ 4) (h3 : x3.length ≤ 4) : ∀ (d j : Nat) (x6 : List S40), j + d = x16.length → x6.length = j →
    ∃ q : List S40, q.length = x16.length ∧ ∀ k, terrkeep5_Local.l1 (k + d + 1) x3 x6 x10 x11 x12 x16 (x16.length : Int) (j : Int) = terrkeep5_Local.l0 k (x3 ++ [q]) x10 x11 (wrap64 (x12 + 1)) := by
  intro d
  induction d with
  | zero =>
    intro j x6 hj h6
    refine ⟨x6, by omega, fun k => ?_⟩
    rw [Nat.add_zero, terrkeep5_Local.l1, if_neg (by omega), if_pos (by omega)]
  | succ d ih =>
    intro j x6 hj h6
    obtain ⟨q, hq, h⟩ := ih (j + 1) (x6 ++ [(⟨wrap64 (3 * (wrap64 (((rd_T40 x16 (j : Int)).f0) + 41))), wrap64 (3 * (wrap64 (((rd_T40 x16 (j : Int)).f1) + 41)))⟩ : S40)]) (by omega) (by simp [h6])
    refine ⟨q, hq, fun k => ?_⟩
    have w : wrap64 ((j : Int) + 1) = ((j + 1 : Nat) : Int) := by rw [wrap_id (by omega) (by omega)]; omega
    rw [show k + (d + 1) + 1 = (k + d + 1) + 1 from by omega, terrkeep5_Local.l1, if_pos (by omega), if_pos (Int.natCast_nonneg _), if_pos (by omega), if_pos (by omega), w]
    exact h k

theorem rd_mem (a : List (List S40)) (i : Nat) (h : i < a.length) : rd_L2 a (i : Int) ∈ a := by
  unfold rd_L2
  rw [Int.toNat_natCast, List.getD_eq_getElem?_getD, List.getElem?_eq_getElem h]
  exact List.getElem_mem h

theorem local_loop (a : List (List S40)) (ha : Small a) : ∀ (e i : Nat) (x3 : List (List S40)), i + e = a.length → x3.length = i → (∀ r ∈ x3, r.length = 4) →
    ∃ q, Small q ∧ ∃ K, ∀ k, K ≤ k → terrkeep5_Local.l0 k x3 a (a.length : Int) (i : Int) = some q := by
  intro e
  induction e with
  | zero =>
    intro i x3 hi h3 hr
    refine ⟨x3, ⟨by have := ha.1; omega, hr⟩, 1, fun k hk => ?_⟩
    obtain ⟨m, rfl⟩ : ∃ m, k = m + 1 := ⟨k - 1, by omega⟩
    rw [terrkeep5_Local.l0, if_neg (by omega)]
  | succ e ih =>
    intro i x3 hi h3 hr
    have hlen := ha.1
    have hlt : i < a.length := by omega
    have hring := ha.2 _ (rd_mem a i hlt)
    obtain ⟨q, hq, h⟩ := local_ring x3 a (a.length : Int) (i : Int) (rd_L2 a (i : Int)) (by omega) (by omega) (rd_L2 a (i : Int)).length 0 [] (by omega) rfl
    obtain ⟨z, hz, K, hK⟩ := ih (i + 1) (x3 ++ [q]) (by omega) (by simp [h3]) (fun r hr' => by
      rcases List.mem_append.mp hr' with c | c
      · exact hr r c
      · rw [List.mem_singleton.mp c]; omega)
    refine ⟨z, hz, K + (rd_L2 a (i : Int)).length + 2, fun k hk => ?_⟩
    obtain ⟨m, rfl, hm⟩ : ∃ m, k = m + (rd_L2 a (i : Int)).length + 1 + 1 ∧ K ≤ m := ⟨k - (rd_L2 a (i : Int)).length - 2, by omega, by omega⟩
    have w : wrap64 ((i : Int) + 1) = ((i + 1 : Nat) : Int) := by rw [wrap_id (by omega) (by omega)]; omega
    have hk' := h m
    rw [w] at hk'
    rw [terrkeep5_Local.l0, if_pos (by omega), if_pos (Int.natCast_nonneg _), if_pos (by omega)]
    exact hk'.trans (hK m hm)

theorem local_in (l : List Int) : ∃ q, Small q ∧ ∃ K, ∀ k, K ≤ k → terrkeep5_Local.f k l = some q := by
  obtain ⟨a, ea, ha⟩ := area_in l
  obtain ⟨q, hq, K, hK⟩ := local_loop a ha a.length 0 [] (by omega) rfl (fun r hr => by cases hr)
  refine ⟨q, hq, K, fun k hk => ?_⟩
  unfold terrkeep5_Local.f
  rw [ea, Option.bind_some]
  exact hK k hk

/-! ### the whole tile -/
theorem rd_L2_one' (r : List S40) : rd_L2 [r] ((0 : Nat) : Int) = r := rfl

theorem whole_area (x y : Int) (hx : 0 ≤ x) (hx2 : x < 2048) (hy : 0 ≤ y) (hy2 : y < 2048) : areaX [[⟨0, 0⟩, ⟨256, 0⟩, ⟨256, 256⟩, ⟨0, 256⟩]] x y 1 = true := by
  have e0 : c8 0 = 0 := by decide
  have e1 : c8 256 = 2048 := by decide
  have p1 : pass ⟨0, 0⟩ ⟨256, 0⟩ x y = false := by
    unfold pass; apply decide_eq_false; unfold passOne; dsimp only; omega
  have p2 : pass ⟨256, 0⟩ ⟨256, 256⟩ x y = true := by
    unfold pass; apply decide_eq_true; left; unfold passOne; dsimp only; rw [e0, e1]; exact ⟨hy, hy2, by omega⟩
  have p3 : pass ⟨256, 256⟩ ⟨0, 256⟩ x y = false := by
    unfold pass; apply decide_eq_false; unfold passOne; dsimp only; omega
  have p4 : pass ⟨0, 256⟩ ⟨0, 0⟩ x y = false := by
    unfold pass; apply decide_eq_false; unfold passOne; dsimp only; rw [e0, e1]; omega
  rw [areaX, areaX, rd_L2_one', Bool.false_xor]
  show ringX _ x y 4 = true
  have e : ringX [⟨0, 0⟩, ⟨256, 0⟩, ⟨256, 256⟩, ⟨0, 256⟩] x y 4 = ((((false ^^ pass ⟨0, 0⟩ ⟨256, 0⟩ x y) ^^ pass ⟨256, 0⟩ ⟨256, 256⟩ x y) ^^ pass ⟨256, 256⟩ ⟨0, 256⟩ x y) ^^ pass ⟨0, 256⟩ ⟨0, 0⟩ x y) := by simp [ringX, rd_T40, List.getD]
  rw [e, p1, p2, p3, p4]
  rfl

theorem cost_whole : cost [[⟨0, 0⟩, ⟨256, 0⟩, ⟨256, 256⟩, ⟨0, 256⟩]] 1 = 6 := rfl

theorem whole_row (n : Nat) (hn : n = 1024) (row : Nat) (hrow : row < n) (F : Nat) (hF : F = 4000) (k : Nat) (hk : 12 + F ≤ k) : raster_Row.f k [[⟨0, 0⟩, ⟨256, 0⟩, ⟨256, 256⟩, ⟨0, 256⟩]] (row : Int) = some (tb n (fun _ => true)) := by
  have hr := row_in n hn [[⟨0, 0⟩, ⟨256, 0⟩, ⟨256, 256⟩, ⟨0, 256⟩]] (by show (1 : Nat) ≤ _; omega) (by
    intro j hj
    obtain rfl : j = 0 := by simp at hj; omega
    show (4 : Nat) ≤ _
    omega) (by
    show cost [[⟨0, 0⟩, ⟨256, 0⟩, ⟨256, 256⟩, ⟨0, 256⟩]] 1 < _
    rw [cost_whole]
    omega) row hrow F hF k (by
    show 2 * cost [[⟨0, 0⟩, ⟨256, 0⟩, ⟨256, 256⟩, ⟨0, 256⟩]] 1 + F ≤ k
    rw [cost_whole]
    exact hk)
  rw [hr]
  refine congrArg some ?_
  apply List.ext_getElem
  · simp [tb]
  · intro i h1 h2
    rw [tb_length] at h1
    simp only [tb, List.getElem_map, List.getElem_range]
    exact whole_area _ _ (by omega) (by omega) (by omega) (by omega)

theorem covered_in : ∃ K, ∀ k, K ≤ k → terrkeep5_covered.f k = some true := by
  obtain ⟨n, hn⟩ : ∃ n : Nat, n = 1024 := ⟨_, rfl⟩
  obtain ⟨F, hF⟩ : ∃ F : Nat, F = 4000 := ⟨_, rfl⟩
  refine ⟨12 + F, fun k hk => ?_⟩
  have h2 : raster_Row.f k [[⟨0, 0⟩, ⟨256, 0⟩, ⟨256, 256⟩, ⟨0, 256⟩]] 0 = some (tb n (fun _ => true)) := whole_row n hn 0 (by omega) F hF k hk
  have h9 : rdOf false (tb n (fun _ => true)) 9 = true := tb_rd n (fun _ => true) 9 (by omega)
  unfold terrkeep5_covered.f terrkeep5_whole.f
  rw [Option.bind_some, h2, Option.bind_some, tb_length, if_pos (by omega), if_pos (by omega), h9]

/-! ### a ring, turned or the other way round -/
theorem four_of (r : List S40) (h : r.length = 4) : ∃ a b c d, r = [a, b, c, d] := by
  rcases r with _ | ⟨a, _ | ⟨b, _ | ⟨c, _ | ⟨d, _ | ⟨e, t⟩⟩⟩⟩⟩
  all_goals first | (simp at h; done) | skip
  exact ⟨a, b, c, d, rfl⟩

theorem ring4 (a b c d : S40) (x y : Int) : ringX [a, b, c, d] x y 4 = ((((false ^^ pass a b x y) ^^ pass b c x y) ^^ pass c d x y) ^^ pass d a x y) := by simp [ringX, rd_T40, List.getD]

theorem pass_swap (p q : S40) (x y : Int) : pass p q x y = pass q p x y := by
  unfold pass
  rw [decide_eq_decide]
  exact ⟨Or.symm, Or.symm⟩

def Same (q r : List S40) : Prop := q.length = 4 ∧ ∀ x y, ringX q x y q.length = ringX r x y r.length

theorem xor_turn1 (a b c d : Bool) : ((((false ^^ b) ^^ c) ^^ d) ^^ a) = ((((false ^^ a) ^^ b) ^^ c) ^^ d) := by cases a <;> cases b <;> cases c <;> cases d <;> rfl
theorem xor_turn2 (a b c d : Bool) : ((((false ^^ c) ^^ d) ^^ a) ^^ b) = ((((false ^^ a) ^^ b) ^^ c) ^^ d) := by cases a <;> cases b <;> cases c <;> cases d <;> rfl
theorem xor_turn3 (a b c d : Bool) : ((((false ^^ d) ^^ a) ^^ b) ^^ c) = ((((false ^^ a) ^^ b) ^^ c) ^^ d) := by cases a <;> cases b <;> cases c <;> cases d <;> rfl
theorem xor_back (a b c d : Bool) : ((((false ^^ c) ^^ b) ^^ a) ^^ d) = ((((false ^^ a) ^^ b) ^^ c) ^^ d) := by cases a <;> cases b <;> cases c <;> cases d <;> rfl

theorem same_turn (r : List S40) (h : r.length = 4) (n : Nat) (hn : n < 4) : Same (r.drop n ++ r.take n) r := by
  obtain ⟨a, b, c, d, rfl⟩ := four_of r h
  have e : n = 0 ∨ n = 1 ∨ n = 2 ∨ n = 3 := by omega
  rcases e with rfl | rfl | rfl | rfl
  · exact ⟨rfl, fun x y => rfl⟩
  · refine ⟨rfl, fun x y => ?_⟩
    show ringX [b, c, d, a] x y 4 = ringX [a, b, c, d] x y 4
    rw [ring4, ring4]; exact xor_turn1 _ _ _ _
  · refine ⟨rfl, fun x y => ?_⟩
    show ringX [c, d, a, b] x y 4 = ringX [a, b, c, d] x y 4
    rw [ring4, ring4]; exact xor_turn2 _ _ _ _
  · refine ⟨rfl, fun x y => ?_⟩
    show ringX [d, a, b, c] x y 4 = ringX [a, b, c, d] x y 4
    rw [ring4, ring4]; exact xor_turn3 _ _ _ _

theorem same_back (a b c d : S40) : Same [d, c, b, a] [a, b, c, d] := by
  refine ⟨rfl, fun x y => ?_⟩
  show ringX [d, c, b, a] x y 4 = ringX [a, b, c, d] x y 4
  rw [ring4, ring4, pass_swap d c, pass_swap c b, pass_swap b a, pass_swap a d]
  exact xor_back _ _ _ _

/-! ### what the functions on rows of points answer -/
theorem concat_in (u v : List S40) (h : u.length + v.length = 4) (k : Nat) : api_Point_46.f (k + 6) [u, v] = some (u ++ v) := by
  have w0 : wrap64 (0 + (u.length : Int)) = (u.length : Int) := by rw [wrap_id (by omega) (by omega)]; omega
  have w1 : wrap64 ((u.length : Int) + (v.length : Int)) = 4 := by rw [wrap_id (by omega) (by omega)]; omega
  have a1 : wrap64 ((0 : Int) + 1) = 1 := wrap_id (by decide) (by decide)
  have a2 : wrap64 ((1 : Int) + 1) = 2 := wrap_id (by decide) (by decide)
  have r0 : rd_L2 [u, v] 0 = u := rfl
  have r1 : rd_L2 [u, v] 1 = v := rfl
  have l : (([u, v] : List (List S40)).length : Int) = 2 := rfl
  unfold api_Point_46.f
  rw [l, show k + 6 = k + 5 + 1 from rfl, api_Point_46.l0, l, if_pos (by decide), if_pos (by decide), if_pos (by decide), r0, w0, if_neg (by omega), a1]
  rw [show k + 5 = k + 4 + 1 from rfl, api_Point_46.l0, l, if_pos (by decide), if_pos (by decide), if_pos (by decide), r1, w1, if_neg (by decide), a2]
  rw [show k + 4 = k + 3 + 1 from rfl, api_Point_46.l0, if_neg (by decide), if_pos (by decide), l]
  rw [show k + 3 = k + 2 + 1 from rfl, api_Point_46.l1, l, if_pos (by decide), if_pos (by decide), if_pos (by decide), r0, if_pos (by show 0 + u.length < 8796093022208; omega), a1]
  rw [show k + 2 = k + 1 + 1 from rfl, api_Point_46.l1, l, if_pos (by decide), if_pos (by decide), if_pos (by decide), r1, if_pos (by show u.length + v.length < 8796093022208; omega), a2]
  rw [api_Point_46.l1, if_neg (by decide)]
  rfl

theorem clone_in (r : List S40) (h : r.length = 4) : api_Point_47.f r = some r := by
  unfold api_Point_47.f
  rw [Option.bind_some, if_pos (by show 0 + r.length < 8796093022208; omega)]
  rfl

theorem reverse_in (a b c d : S40) (k : Nat) : api_Point_48.f (k + 3) [a, b, c, d] = some [d, c, b, a] := by
  have a1 : wrap64 ((0 : Int) + 1) = 1 := wrap_id (by decide) (by decide)
  have a2 : wrap64 ((1 : Int) + 1) = 2 := wrap_id (by decide) (by decide)
  have b1 : wrap64 ((3 : Int) - 1) = 2 := wrap_id (by decide) (by decide)
  have b2 : wrap64 ((2 : Int) - 1) = 1 := wrap_id (by decide) (by decide)
  have b0 : wrap64 ((([a, b, c, d] : List S40).length : Int) - 1) = 3 := wrap_id (x := 3) (by decide) (by decide)
  unfold api_Point_48.f
  rw [b0, show k + 3 = k + 2 + 1 from rfl, api_Point_48.l0, if_pos (by decide), if_pos (by decide), if_pos (by show (3 : Int) < 4; decide), if_pos (by decide), if_pos (by show (0 : Int) < 4; decide), a1, b1]
  rw [show k + 2 = k + 1 + 1 from rfl, api_Point_48.l0, if_pos (by decide), if_pos (by decide), if_pos (by show (2 : Int) < 4; decide), if_pos (by decide), if_pos (by show (1 : Int) < 4; decide), a2, b2]
  rw [api_Point_48.l0, if_neg (by decide)]
  rfl

theorem bool_rows (n : Nat) (hn : n ≤ 1000000) (f : Nat → Bool) : ∀ (d k i : Nat), i + d = n → d < k → slices_Equal_bool_bool.l0 k (tb n f) (tb n f) (n : Int) (i : Int) = some true := by
  intro d
  induction d with
  | zero =>
    intro k i hi hk
    obtain ⟨k, rfl⟩ : ∃ m, k = m + 1 := ⟨k - 1, by omega⟩
    rw [slices_Equal_bool_bool.l0, if_neg (by omega)]
  | succ d ih =>
    intro k i hi hk
    obtain ⟨k, rfl⟩ : ∃ m, k = m + 1 := ⟨k - 1, by omega⟩
    have c : (i : Int) < (n : Int) := by omega
    have w : wrap64 ((i : Int) + 1) = ((i + 1 : Nat) : Int) := by rw [wrap_id (by omega) (by omega)]; omega
    have e : ¬ ((rdOf false (tb n f) (i : Int) != rdOf false (tb n f) (i : Int)) = true) := by simp
    rw [slices_Equal_bool_bool.l0, if_pos c, if_pos (Int.natCast_nonneg _), tb_length, if_pos c, if_pos c, if_neg e, w]
    exact ih k (i + 1) (by omega) (by omega)
theorem equal_in (n : Nat) (hn : n ≤ 1000000) (f : Nat → Bool) (k : Nat) (hk : n < k) : slices_Equal_bool_bool.f k (tb n f) (tb n f) = some true := by
  unfold slices_Equal_bool_bool.f
  rw [if_pos rfl, tb_length]
  exact bool_rows n hn f n k 0 (by omega) hk

/-! ### areas of the same rings -/
theorem area_same (x y : Int) (a q : List (List S40)) : ∀ n : Nat, (∀ j : Nat, j < n → Same (rd_L2 q (j : Int)) (rd_L2 a (j : Int))) → areaX q x y n = areaX a x y n := by
  intro n
  induction n with
  | zero => intro _; rfl
  | succ n ih =>
    intro h
    rw [areaX, areaX, ih (fun j hj => h j (by omega)), (h n (by omega)).2 x y]

theorem rd_snoc (q : List (List S40)) (v : List S40) (j : Nat) : rd_L2 (q ++ [v]) (j : Int) = if j < q.length then rd_L2 q (j : Int) else if j = q.length then v else [] := by
  unfold rd_L2
  rw [Int.toNat_natCast, List.getD_eq_getElem?_getD, List.getD_eq_getElem?_getD]
  by_cases c : j < q.length
  · rw [if_pos c, List.getElem?_append_left c]
  · rw [if_neg c, List.getElem?_append_right (by omega)]
    by_cases e : j = q.length
    · rw [if_pos e, e, Nat.sub_self]; rfl
    · rw [if_neg e, List.getElem?_eq_none (by simp; omega)]; rfl

theorem cost_same (q : List (List S40)) (h : ∀ j, j < q.length → (rd_L2 q (j : Int)).length = 4) : ∀ d, d ≤ q.length → cost q d ≤ 6 * d := by
  intro d
  induction d with
  | zero => intro _; exact Nat.le_refl _
  | succ d ih =>
    intro hd
    have := ih (by omega)
    have := h (q.length - (d + 1)) (by omega)
    rw [cost]
    omega

theorem row_of (n : Nat) (hn : n = 1024) (q : List (List S40)) (hq : q.length ≤ 3) (h : ∀ j, j < q.length → (rd_L2 q (j : Int)).length = 4) (row : Nat) (hrow : row < n) (F : Nat) (hF : F = 4000) (k : Nat) (hk : 36 + F ≤ k) :
    raster_Row.f k q (row : Int) = some (tb n (fun i => areaX q (2 * (i : Int) + 1) (2 * (row : Int) + 1) q.length)) := by
  have hc := cost_same q h q.length (Nat.le_refl _)
  exact row_in n hn q (by omega) (fun j hj => by have := h j hj; omega) (by omega) row hrow F hF k (by omega)

def Like (a q : List (List S40)) (m : Nat) : Prop := q.length = m ∧ ∀ j, j < m → Same (rd_L2 q (j : Int)) (rd_L2 a (j : Int))
theorem like_snoc {a q : List (List S40)} {m : Nat} (h : Like a q m) {v : List S40} (hv : Same v (rd_L2 a (m : Int))) : Like a (q ++ [v]) (m + 1) := by
  refine ⟨by simp [h.1], fun j hj => ?_⟩
  rw [rd_snoc, h.1]
  by_cases c : j < m
  · rw [if_pos c]; exact h.2 j c
  · obtain rfl : j = m := by omega
    rw [if_neg c, if_pos rfl]; exact hv

theorem like_row (n : Nat) (hn : n = 1024) (a q : List (List S40)) (ha : a.length ≤ 3) (h : Like a q a.length) (row : Nat) (hrow : row < n) (F : Nat) (hF : F = 4000) (k : Nat) (hk : 36 + F ≤ k) :
    raster_Row.f k q (row : Int) = some (tb n (fun i => areaX a (2 * (i : Int) + 1) (2 * (row : Int) + 1) a.length)) := by
  rw [row_of n hn q (by rw [h.1]; exact ha) (fun j hj => (h.2 j (by rw [← h.1]; exact hj)).1) row hrow F hF k hk]
  refine congrArg some ?_
  refine congrArg (tb n) ?_
  funext i
  rw [h.1]
  exact area_same _ _ a q a.length h.2

theorem turns_exit (n : Nat) (hn : n = 1024) (a b c : List (List S40)) (ha : Small a) (hb : Like a b a.length) (hc : Like a c a.length) (row : Nat) (hrow : row < n) (F : Nat) (hF : F = 4000) (k : Nat) (hk : 36 + F ≤ k) (a1 : Int) (i : Int) (hi : i = (a.length : Int)) :
    terrkeep5_RasterTurns.l0 (k + 1) a1 (row : Int) a b c a (a.length : Int) i = some true := by
  have la := ha.1
  have r1 := row_of n hn a la (fun j hj => ha.2 _ (rd_mem a j hj)) row hrow F hF k hk
  have r2 := like_row n hn a b la hb row hrow F hF k hk
  have r3 := like_row n hn a c la hc row hrow F hF k hk
  have e := equal_in n (by omega) (fun i => areaX a (2 * (i : Int) + 1) (2 * (row : Int) + 1) a.length) k (by omega)
  have l : ((tb n (fun i => areaX a (2 * (i : Int) + 1) (2 * (row : Int) + 1) a.length)).length : Int) = 1024 := by rw [tb_length]; omega
  generalize tb n (fun i => areaX a (2 * (i : Int) + 1) (2 * (row : Int) + 1) a.length) = T at *
  rw [terrkeep5_RasterTurns.l0, if_neg (by omega), r1, Option.bind_some, if_pos l, r2, Option.bind_some, e, Option.bind_some, if_pos rfl, r3, Option.bind_some, e, Option.bind_some]

theorem turns_step (a b c : List (List S40)) (ha : Small a) (i : Nat) (hi : i < a.length) (hb : Like a b i) (hc : Like a c i) (k : Nat) (a1 row : Int) : ∃ u v, Same u (rd_L2 a (i : Int)) ∧ Same v (rd_L2 a (i : Int)) ∧
    terrkeep5_RasterTurns.l0 (k + 6 + 1) a1 row a b c a (a.length : Int) (i : Int) = terrkeep5_RasterTurns.l0 (k + 6) a1 row a (b ++ [u]) (c ++ [v]) a (a.length : Int) ((i + 1 : Nat) : Int) := by
  have la := ha.1
  have lb := hb.1
  have lc := hc.1
  have h4 := ha.2 _ (rd_mem a i hi)
  have w : wrap64 ((i : Int) + 1) = ((i + 1 : Nat) : Int) := by rw [wrap_id (by omega) (by omega)]; omega
  obtain ⟨t, et, t0, t1⟩ := below_spec a1 4 (by decide) (by decide)
  have st := same_turn _ h4 t.toNat (by omega)
  have ec := concat_in ((rd_L2 a (i : Int)).drop t.toNat) ((rd_L2 a (i : Int)).take t.toNat) (by rw [List.length_drop, List.length_take]; omega) k
  have ed := clone_in _ h4
  obtain ⟨p0, p1, p2, p3, e4⟩ := four_of _ h4
  have er := reverse_in p0 p1 p2 p3 (k + 3)
  rw [← e4] at er
  have sb := same_back p0 p1 p2 p3
  rw [← e4] at sb
  refine ⟨_, _, st, sb, ?_⟩
  have l4 : ((rd_L2 a (i : Int)).length : Int) = 4 := by omega
  rw [terrkeep5_RasterTurns.l0, if_pos (by omega), if_pos (Int.natCast_nonneg _), if_pos (by omega), l4, et, Option.bind_some, if_pos t0, if_pos (by omega), ec, Option.bind_some, if_pos (by omega), ed, Option.bind_some, er, Option.bind_some, if_pos (by omega), w]

theorem turns_loop (n : Nat) (hn : n = 1024) (a : List (List S40)) (ha : Small a) (row : Nat) (hrow : row < n) (F : Nat) (hF : F = 4000) (a1 : Int) : ∀ (d k i : Nat) (b c : List (List S40)), i + d = a.length → Like a b i → Like a c i → 36 + F + d < k →
    terrkeep5_RasterTurns.l0 k a1 (row : Int) a b c a (a.length : Int) (i : Int) = some true := by
  intro d
  induction d with
  | zero =>
    intro k i b c hi hb hc hk
    obtain ⟨k, rfl⟩ : ∃ m, k = m + 1 := ⟨k - 1, by omega⟩
    obtain rfl : i = a.length := by omega
    exact turns_exit n hn a b c ha hb hc row hrow F hF k (by omega) a1 _ rfl
  | succ d ih =>
    intro k i b c hi hb hc hk
    obtain ⟨m, rfl, hm⟩ : ∃ m, k = m + 6 + 1 ∧ 36 + F + d < m + 6 := ⟨k - 7, by omega, by omega⟩
    obtain ⟨u, v, su, sv, e⟩ := turns_step a b c ha i (by omega) hb hc m a1 (row : Int)
    rw [e]
    exact ih (m + 6) (i + 1) _ _ (by omega) (like_snoc hb su) (like_snoc hc sv) hm

theorem RasterTurns : terrkeep5_RasterTurns.Pure := by
  intro l0 a1 a2 _ _ _ _ _
  obtain ⟨n, hn⟩ : ∃ n : Nat, n = 1024 := ⟨_, rfl⟩
  obtain ⟨F, hF⟩ : ∃ F : Nat, F = 4000 := ⟨_, rfl⟩
  obtain ⟨a, ha, K1, h1⟩ := local_in l0
  obtain ⟨K0, h0⟩ := covered_in
  obtain ⟨r, er, r0, r1⟩ := below_spec a2 1024 (by decide) (by decide)
  obtain ⟨row, hr⟩ : ∃ row : Nat, (row : Int) = r := ⟨r.toNat, by omega⟩
  have hl := turns_loop n hn a ha row (by omega) F hF a1 a.length (K0 + K1 + (40 + F)) 0 [] [] (by omega) ⟨rfl, fun j hj => absurd hj (Nat.not_lt_zero j)⟩ ⟨rfl, fun j hj => absurd hj (Nat.not_lt_zero j)⟩ (by have := ha.1; omega)
  refine ⟨K0 + K1 + (40 + F), ?_⟩
  unfold terrkeep5_RasterTurns.f
  rw [h0 _ (by omega), Option.bind_some, if_pos rfl, h1 _ (by omega), Option.bind_some, er, Option.bind_some, ← hr]
  exact hl

end Go.Proofs.Ytdmhnjpblpfbfaa.Pure

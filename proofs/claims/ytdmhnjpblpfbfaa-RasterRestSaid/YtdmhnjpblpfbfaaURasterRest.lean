/- An area and the rest of the tile cover each pixel together, just once: for all lists of numbers. No condition. -/
import Derived.Test.YtdmhnjpblpfbfaaURasterHalves
import Derived.Test.YtdmhnjpblpfbfaaQRasterRest
namespace Go.Proofs.Ytdmhnjpblpfbfaa.Pure
open Go.RowKit Go.Proofs.Ytdmhnjpblpfbfaa.Q Go.Proofs.Ytdmhnjpblpfbfaa.U Go.Proofs.YtdmhnjpblpfbfaaW.PrintWords Go.Proofs.YtdmhnjpblpfbfaaW.PrintLast Go.Proofs.YtdmhnjpblpfbfaaW.PrintMore
set_option linter.unusedSimpArgs false
set_option linter.unusedVariables false

/-! ### the area out of numbers: at most three rings of four points -/
theorem next_in (l : List Int) (n : Int) (h : 1 ≤ n) (h2 : n ≤ 1000000) : ∃ v, terrmake_Stream_Next.f l n = some v ∧ 0 ≤ v ∧ v < n := by
  refine ⟨nextv l n, ?_, nextv_in l n h⟩
  unfold terrmake_Stream_Next.f
  rw [if_pos ⟨h, h2⟩]

def Small (a : List (List S40)) : Prop := a.length ≤ 3 ∧ ∀ r ∈ a, r.length ≤ 4

theorem area_in (l : List Int) : ∃ a, terrmake_Area.f l = some a ∧ Small a := by
  obtain ⟨x, ex, x0, x1⟩ := next_in l 30 (by decide) (by decide)
  obtain ⟨y, ey, y0, y1⟩ := next_in l.tail 30 (by decide) (by decide)
  obtain ⟨q, eq, q0, q1⟩ := next_in l.tail.tail 10 (by decide) (by decide)
  obtain ⟨s, es, s0, s1⟩ := next_in l.tail.tail.tail 4 (by decide) (by decide)
  have w1 : wrap64 (6 + q) = 6 + q := wrap_id (by omega) (by omega)
  have w2 : wrap64 (6 + q - 2) = 6 + q - 2 := wrap_id (by omega) (by omega)
  have w3 : wrap64 (6 + q - 4) = 6 + q - 4 := wrap_id (by omega) (by omega)
  obtain ⟨u, eu, u0, u1⟩ := next_in l.tail.tail.tail.tail (6 + q - 2) (by omega) (by omega)
  obtain ⟨v, ev, v0, v1⟩ := next_in l.tail.tail.tail.tail (6 + q - 4) (by omega) (by omega)
  have w4 : wrap64 (3 + v) = 3 + v := wrap_id (by omega) (by omega)
  have w5 : wrap64 (3 + v - 2) = 3 + v - 2 := wrap_id (by omega) (by omega)
  obtain ⟨z, ez, z0, z1⟩ := next_in l.tail.tail.tail.tail.tail (3 + v - 2) (by omega) (by omega)
  obtain ⟨t, et, t0, t1⟩ := next_in l.tail.tail.tail.tail 3 (by decide) (by decide)
  have d1 : ∀ a b c, ∃ r, terrmake_Area_1.f a b c = some r ∧ r.length = 4 := fun a b c => ⟨_, rfl, rfl⟩
  have d2 : ∀ a b c, ∃ r, terrmake_Area_2.f a b c = some r ∧ r.length = 4 := fun a b c => ⟨_, rfl, rfl⟩
  obtain ⟨A, eA, lA⟩ := d1 (wrap64 (x - 15)) (wrap64 (y - 15)) (6 + q)
  obtain ⟨B, eB, lB⟩ := d2 (wrap64 (x - 15)) (wrap64 (y - 15)) (wrap64 (1 + u))
  obtain ⟨C, eC, lC⟩ := d2 (wrap64 (x - 15)) (wrap64 (y - 15)) (3 + v)
  obtain ⟨D, eD, lD⟩ := d1 (wrap64 (x - 15)) (wrap64 (y - 15)) (wrap64 (1 + z))
  obtain ⟨E, eE, lE⟩ := d1 (wrap64 (wrap64 (wrap64 (wrap64 (x - 15) + (6 + q)) + 3) + t)) (wrap64 (y - 15)) 2
  unfold terrmake_Area.f
  rw [ex, Option.bind_some, ey, Option.bind_some, eq, Option.bind_some, w1, eA, Option.bind_some, Option.bind_some, es, Option.bind_some]
  by_cases c1 : s = 1
  · rw [if_pos c1, w2, eu, Option.bind_some, eB, Option.bind_some, if_pos (by show (1 : Nat) < _; omega)]
    refine ⟨_, rfl, by show (2 : Nat) ≤ 3; omega, fun r hr => ?_⟩
    simp at hr
    rcases hr with rfl | rfl <;> omega
  · rw [if_neg c1]
    by_cases c2 : s = 2
    · rw [if_pos c2, w3, ev, Option.bind_some, w4, eC, Option.bind_some, w5, ez, Option.bind_some, eD, Option.bind_some, Option.bind_some, if_pos (by show (3 : Nat) < _; omega)]
      refine ⟨_, rfl, by show (3 : Nat) ≤ 3; omega, fun r hr => ?_⟩
      simp at hr
      rcases hr with rfl | rfl | rfl <;> omega
    · rw [if_neg c2]
      by_cases c3 : s = 3
      · rw [if_pos c3, et, Option.bind_some, eE, Option.bind_some, if_pos (by show (1 : Nat) < _; omega)]
        refine ⟨_, rfl, by show (2 : Nat) ≤ 3; omega, fun r hr => ?_⟩
        simp at hr
        rcases hr with rfl | rfl <;> omega
      · rw [if_neg c3]
        refine ⟨_, rfl, by show (1 : Nat) ≤ 3; omega, fun r hr => ?_⟩
        simp at hr
        subst hr
        omega

/-! ### the area, moved -/
theorem local_ring (x3 x10 : List (List S40)) (x11 x12 : Int) (x16 : List S40) (hl : x16.length ≤ 4) (h3 : x3.length ≤ 4) : ∀ (d j : Nat) (x6 : List S40), j + d = x16.length → x6.length = j →
    ∃ q : List S40, q.length = x16.length ∧ ∀ k, terrkeep5_Local.l1 (k + d + 1) x3 x6 x10 x11 x12 x16 (x16.length : Int) (j : Int) = terrkeep5_Local.l0 k (x3 ++ [q]) x10 x11 (wrap64 (x12 + 1)) := by
  intro d
  induction d with
  | zero =>
    intro j x6 hj h6
    refine ⟨x6, by omega, fun k => ?_⟩
    rw [Nat.add_zero, terrkeep5_Local.l1, if_neg (by omega), if_pos (by omega)]
  | succ d ih =>
    intro j x6 hj h6
    obtain ⟨q, hq, h⟩ := ih (j + 1) (x6 ++ [(⟨wrap64 (3 * (wrap64 (((rd_T40 x16 (j : Int)).f0) + 41))), wrap64 (3 * (wrap64 (((rd_T40 x16 (j : Int)).f1) + 41)))⟩ : S40)]) (by omega) (by simp [h6])
    refine ⟨q, hq, fun k => ?_⟩
    have w : wrap64 ((j : Int) + 1) = ((j + 1 : Nat) : Int) := by rw [wrap_id (by omega) (by omega)]; omega
    rw [show k + (d + 1) + 1 = (k + d + 1) + 1 from by omega, terrkeep5_Local.l1, if_pos (by omega), if_pos (Int.natCast_nonneg _), if_pos (by omega), if_pos (by omega), w]
    exact h k

theorem rd_mem (a : List (List S40)) (i : Nat) (h : i < a.length) : rd_L2 a (i : Int) ∈ a := by
  unfold rd_L2
  rw [Int.toNat_natCast, List.getD_eq_getElem?_getD, List.getElem?_eq_getElem h]
  exact List.getElem_mem h

theorem local_loop (a : List (List S40)) (ha : Small a) : ∀ (e i : Nat) (x3 : List (List S40)), i + e = a.length → x3.length = i → (∀ r ∈ x3, r.length ≤ 4) →
    ∃ q, Small q ∧ ∃ K, ∀ k, K ≤ k → terrkeep5_Local.l0 k x3 a (a.length : Int) (i : Int) = some q := by
  intro e
  induction e with
  | zero =>
    intro i x3 hi h3 hr
    refine ⟨x3, ⟨by have := ha.1; omega, hr⟩, 1, fun k hk => ?_⟩
    obtain ⟨m, rfl⟩ : ∃ m, k = m + 1 := ⟨k - 1, by omega⟩
    rw [terrkeep5_Local.l0, if_neg (by omega)]
  | succ e ih =>
    intro i x3 hi h3 hr
    have hlen := ha.1
    have hlt : i < a.length := by omega
    have hring := ha.2 _ (rd_mem a i hlt)
    obtain ⟨q, hq, h⟩ := local_ring x3 a (a.length : Int) (i : Int) (rd_L2 a (i : Int)) hring (by omega) (rd_L2 a (i : Int)).length 0 [] (by omega) rfl
    obtain ⟨z, hz, K, hK⟩ := ih (i + 1) (x3 ++ [q]) (by omega) (by simp [h3]) (fun r hr' => by
      rcases List.mem_append.mp hr' with c | c
      · exact hr r c
      · rw [List.mem_singleton.mp c]; omega)
    refine ⟨z, hz, K + (rd_L2 a (i : Int)).length + 2, fun k hk => ?_⟩
    obtain ⟨m, rfl, hm⟩ : ∃ m, k = m + (rd_L2 a (i : Int)).length + 1 + 1 ∧ K ≤ m := ⟨k - (rd_L2 a (i : Int)).length - 2, by omega, by omega⟩
    have w : wrap64 ((i : Int) + 1) = ((i + 1 : Nat) : Int) := by rw [wrap_id (by omega) (by omega)]; omega
    have hk' := h m
    rw [w] at hk'
    rw [terrkeep5_Local.l0, if_pos (by omega), if_pos (Int.natCast_nonneg _), if_pos (by omega)]
    exact hk'.trans (hK m hm)

theorem local_in (l : List Int) : ∃ q, Small q ∧ ∃ K, ∀ k, K ≤ k → terrkeep5_Local.f k l = some q := by
  obtain ⟨a, ea, ha⟩ := area_in l
  obtain ⟨q, hq, K, hK⟩ := local_loop a ha a.length 0 [] (by omega) rfl (fun r hr => by cases hr)
  refine ⟨q, hq, K, fun k hk => ?_⟩
  unfold terrkeep5_Local.f
  rw [ea, Option.bind_some]
  exact hK k hk

/-! ### its cover, and that of the rest -/
theorem cost_small (a : List (List S40)) (h : ∀ r ∈ a, r.length ≤ 4) (d : Nat) (hd : d ≤ a.length) : cost a d ≤ 6 * d := by
  induction d with
  | zero => exact Nat.le_refl _
  | succ d ih =>
    have := ih (by omega)
    have := h _ (rd_mem a (a.length - (d + 1)) (by omega))
    rw [cost]
    omega
theorem cover_small (N : Nat) (hN : N = 4096) (a : List (List S40)) (h1 : a.length ≤ 4) (h : ∀ r ∈ a, r.length ≤ 4) : ∃ K, ∀ k, K ≤ k → raster_Cover.f k a = some (tab N (pixels a)) := by
  refine cover_in N hN a (by omega) (fun j hj => ?_) ?_
  · have := h _ (rd_mem a j hj); omega
  · have := cost_small a h a.length (Nat.le_refl _); omega

theorem areaX_cons (w : List S40) (a : List (List S40)) (x y : Int) (n : Nat) : areaX (w :: a) x y (n + 1) = (areaX [w] x y 1 ^^ areaX a x y n) := by
  induction n with
  | zero =>
    show (false ^^ ringX (rd_L2 (w :: a) ((0 : Nat) : Int)) x y (rd_L2 (w :: a) ((0 : Nat) : Int)).length) = ((false ^^ ringX (rd_L2 [w] ((0 : Nat) : Int)) x y (rd_L2 [w] ((0 : Nat) : Int)).length) ^^ false)
    rw [Bool.xor_false]
    rfl
  | succ n ih =>
    rw [areaX, ih]
    have e : rd_L2 (w :: a) ((n + 1 : Nat) : Int) = rd_L2 a (n : Int) := by
      unfold rd_L2
      rw [Int.toNat_natCast, Int.toNat_natCast]
      rfl
    rw [e, show areaX a x y (n + 1) = (areaX a x y n ^^ ringX (rd_L2 a (n : Int)) x y (rd_L2 a (n : Int)).length) from rfl, Bool.xor_assoc]

theorem count_span (A B : Nat) (hB : A ≤ B) (n : Nat) : sumN (fun i => bitI (decide (A ≤ i ∧ i < B))) n = (min n B : Nat) - (min n A : Nat) := by
  induction n with
  | zero => rw [sumN]; omega
  | succ n ih =>
    rw [sumN, ih]
    unfold bitI
    by_cases c : A ≤ n ∧ n < B
    · rw [if_pos (decide_eq_true c)]; omega
    · rw [if_neg (by rw [decide_eq_true_iff]; exact c)]; omega

theorem all_pixel (p : Nat) (hp : p < 4096) : sumN (fun row => sumN (fun i => bitI (decide (row / 16 * 64 + i / 16 = p))) 1024) 1024 = 256 := by
  have e : ∀ row, row < 1024 → sumN (fun i => bitI (decide (row / 16 * 64 + i / 16 = p))) 1024 = 16 * bitI (decide (p / 64 * 16 ≤ row ∧ row < p / 64 * 16 + 16)) := by
    intro row hrow
    have e1 : ∀ i, i < 1024 → bitI (decide (row / 16 * 64 + i / 16 = p)) = bitI (decide (p / 64 * 16 ≤ row ∧ row < p / 64 * 16 + 16)) * bitI (decide (p % 64 * 16 ≤ i ∧ i < p % 64 * 16 + 16)) := by
      intro i hi
      by_cases c : row / 16 * 64 + i / 16 = p
      · rw [decide_eq_true c, decide_eq_true (by omega), decide_eq_true (by omega)]; rfl
      · rw [decide_eq_false c]
        by_cases c1 : p / 64 * 16 ≤ row ∧ row < p / 64 * 16 + 16
        · rw [decide_eq_false (p := p % 64 * 16 ≤ i ∧ i < p % 64 * 16 + 16) (by omega)]
          unfold bitI
          simp
        · rw [decide_eq_false c1]
          unfold bitI
          simp
    rw [sumN_congr _ _ 1024 e1, sumN_mul, count_span _ _ (by omega) 1024, Int.mul_comm]
    congr 1
    omega
  rw [sumN_congr _ _ 1024 e, sumN_mul, count_span _ _ (by omega) 1024]
  omega

theorem whole_in (row i : Nat) (hr : row < 1024) (hi : i < 1024) : insideA [[⟨0, 0⟩, ⟨256, 0⟩, ⟨256, 256⟩, ⟨0, 256⟩]] row i = true :=
  (three 0 0 256 256 (by decide) (by decide) (by decide) (by decide) (by decide) (by decide) (2 * (i : Int) + 1) (2 * (row : Int) + 1) row i rfl rfl).2.1.mpr (by omega)

theorem rest_pixel (a : List (List S40)) (p : Nat) (hp : p < 4096) : pixels a p + pixels ([⟨0, 0⟩, ⟨256, 0⟩, ⟨256, 256⟩, ⟨0, 256⟩] :: a) p = 256 := by
  have z : ∀ S : Nat → Nat → Bool, sumN (ofPix S p 1024) 0 = 0 := fun _ => rfl
  unfold pixels cnt
  rw [z, z, Int.add_zero, Int.add_zero, ← sumN_add]
  refine Eq.trans ?_ (all_pixel p hp)
  apply sumN_congr
  intro row hr
  rw [← sumN_add]
  apply sumN_congr
  intro i hi
  have hw := whole_in row i hr hi
  have hx : insideA ([⟨0, 0⟩, ⟨256, 0⟩, ⟨256, 256⟩, ⟨0, 256⟩] :: a) row i = !(insideA a row i) := by
    unfold insideA at hw ⊢
    have := areaX_cons [⟨0, 0⟩, ⟨256, 0⟩, ⟨256, 256⟩, ⟨0, 256⟩] a (2 * (i : Int) + 1) (2 * (row : Int) + 1) a.length
    rw [show areaX [[⟨0, 0⟩, ⟨256, 0⟩, ⟨256, 256⟩, ⟨0, 256⟩]] (2 * (i : Int) + 1) (2 * (row : Int) + 1) 1 = true from hw, Bool.true_xor] at this
    exact this
  unfold ofPix
  rw [hx]
  cases insideA a row i <;> cases decide (row / 16 * 64 + i / 16 = p) <;> rfl

theorem rest_loop (N : Nat) (hN : N = 4096) (f g : Nat → Int) (hf : ∀ p, 0 ≤ f p) (h : ∀ p, p < 4096 → f p + g p = 256) : ∀ (d k i : Nat), i + d = N → d < k →
    terrkeep5_RasterRest.l0 k (tab N f) (tab N g) (N : Int) (i : Int) = some true := by
  intro d
  induction d with
  | zero =>
    intro k i hi hk
    obtain ⟨k, rfl⟩ : ∃ m, k = m + 1 := ⟨k - 1, by omega⟩
    rw [terrkeep5_RasterRest.l0, if_neg (by omega)]
  | succ d ih =>
    intro k i hi hk
    obtain ⟨k, rfl, hk1⟩ := lt_one hk
    have hlt : i < N := by omega
    have c1 : (i : Int) < (N : Int) := by omega
    have w1 : wrap64 ((i : Int) + 1) = ((i + 1 : Nat) : Int) := by rw [wrap_id (by omega) (by omega)]; omega
    have e := h i (by omega)
    have b := hf i
    have w2 : wrap64 256 = 256 := wrap_id (by decide) (by decide)
    rw [terrkeep5_RasterRest.l0, if_pos c1, if_pos (Int.natCast_nonneg _), if_pos (by rw [tab_length]; exact c1), tab_rd N f i hlt, if_neg (by omega), if_pos (by rw [tab_length]; exact c1), tab_rd N g i hlt, e, w2, if_pos rfl, w1]
    exact ih k (i + 1) (by omega) hk1

theorem RasterRest : terrkeep5_RasterRest.Pure := by
  intro l0 _ _ _
  obtain ⟨N, hN⟩ : ∃ N : Nat, N = 4096 := ⟨_, rfl⟩
  obtain ⟨a, ha, K1, h1⟩ := local_in l0
  obtain ⟨K0, h0⟩ := covered_in
  obtain ⟨K2, h2⟩ := cover_small N hN a (by have := ha.1; omega) ha.2
  obtain ⟨K3, h3⟩ := cover_small N hN ([⟨0, 0⟩, ⟨256, 0⟩, ⟨256, 256⟩, ⟨0, 256⟩] :: a) (by have := ha.1; rw [List.length_cons]; omega) (fun r hr => by
    rcases List.mem_cons.mp hr with c | c
    · rw [c]; show (4 : Nat) ≤ 4; omega
    · exact ha.2 r c)
  have hp := fun p (h : p < 4096) => rest_pixel a p h
  have hb : ∀ p, 0 ≤ pixels a p := fun p => (cnt_bd _ p 1024 0 (by omega) (by omega)).1
  obtain ⟨K, hK0, hK1, hK2, hK3, hK4⟩ : ∃ K, K0 ≤ K ∧ K1 ≤ K ∧ K2 ≤ K ∧ K3 ≤ K ∧ N + 3 ≤ K := ⟨K0 + K1 + K2 + K3 + (N + 3), by omega, by omega, by omega, by omega, by omega⟩
  have len : ∀ f : Nat → Int, ((tab N f).length : Int) = 4096 := by intro f; rw [tab_length]; omega
  have g2 := h2 K hK2
  have g3 := h3 K hK3
  have g1 := h1 K hK1
  have g0 := h0 K hK0
  generalize pixels a = f1 at *
  generalize pixels ([⟨0, 0⟩, ⟨256, 0⟩, ⟨256, 256⟩, ⟨0, 256⟩] :: a) = f2 at *
  refine ⟨K, ?_⟩
  obtain ⟨k, rfl⟩ : ∃ k, K = k + 1 := ⟨K - 1, by omega⟩
  unfold terrkeep5_RasterRest.f
  rw [g0, Option.bind_some, if_pos rfl, g1, Option.bind_some, g2, Option.bind_some]
  unfold terrkeep5_whole.f
  rw [Option.bind_some, if_pos (by have := ha.1; show 1 + a.length < _; omega)]
  rw [show ([[⟨0, 0⟩, ⟨256, 0⟩, ⟨256, 256⟩, ⟨0, 256⟩]] : List (List S40)) ++ a = [⟨0, 0⟩, ⟨256, 0⟩, ⟨256, 256⟩, ⟨0, 256⟩] :: a from rfl, g3, Option.bind_some, if_pos (len _), len]
  rw [show ((4096 : Int) != 4096) = false from rfl, terrkeep5_RasterRest.j0, if_neg (by decide), tab_length]
  exact rest_loop N hN f1 f2 hb hp N k 0 (by omega) (by omega)

end Go.Proofs.Ytdmhnjpblpfbfaa.Pure

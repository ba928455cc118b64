/- The plain law of RasterLines, first part: strokes, counts of segments and dots, and the second implementation's test. Conditions: stated at each. -/
import Derived.Test.YtdmhnjpblpfbfaaZmURa
import Derived.Test.YtdmhnjpblpfbfaaZmQf50
import Derived.Test.YtdmhnjpblpfbfaaZmQf52
namespace Go.Proofs.Ytdmhnjpblpfbfaa.UL
set_option linter.unusedSimpArgs false
set_option linter.unusedVariables false
open Go.RowKit Go.Proofs.Ytdmhnjpblpfbfaa.Q Go.Proofs.Ytdmhnjpblpfbfaa.U Go.Proofs.YtdmhnjpblpfbfaaW.PrintWords Go.Proofs.YtdmhnjpblpfbfaaW.PrintLast Go.Proofs.YtdmhnjpblpfbfaaW.PrintMore
/-- From some count of rounds on, g answers r. -/
def Is {α : Type} (g : Nat → Option α) (r : α) : Prop := ∃ K, ∀ k, K ≤ k → g k = some r
theorem Is.pure {α : Type} (r : α) : Is (fun _ => some r) r := ⟨0, fun _ _ => rfl⟩
theorem Is.of {α : Type} {g : Option α} {r : α} (h : g = some r) : Is (fun _ => g) r := ⟨0, fun _ _ => h⟩
theorem Is.bind {α β : Type} {g : Nat → Option α} {f : Nat → α → Option β} {r : α} {s : β} (h : Is g r) (hf : Is (fun k => f k r) s) : Is (fun k => (g k).bind (f k)) s := by
  obtain ⟨K, hK⟩ := h
  obtain ⟨K', hK'⟩ := hf
  exact ⟨K + K', fun k hk => by show (g k).bind (f k) = some s; rw [hK k (by omega), Option.bind_some]; exact hK' k (by omega)⟩
theorem Is.pos {β : Type} {c : Prop} [Decidable c] {f g : Nat → Option β} {r : β} (hc : c) (h : Is f r) : Is (fun k => if c then f k else g k) r := by simpa only [if_pos hc] using h
theorem Is.neg {β : Type} {c : Prop} [Decidable c] {f g : Nat → Option β} {r : β} (hc : ¬ c) (h : Is g r) : Is (fun k => if c then f k else g k) r := by simpa only [if_neg hc] using h
theorem Is.step {α : Type} {g f : Nat → Option α} {r : α} (h : Is f r) (e : ∀ k, g (k + 1) = f k) : Is g r := by
  obtain ⟨K, hK⟩ := h
  refine ⟨K + 1, fun k hk => ?_⟩
  obtain ⟨m, rfl⟩ : ∃ m, k = m + 1 := ⟨k - 1, by omega⟩
  rw [e]; exact hK m (by omega)
theorem tab_congr {n : Nat} {f g : Nat → Int} (h : ∀ i, i < n → f i = g i) : tab n f = tab n g := by
  unfold tab
  exact List.map_congr_left fun i hi => h i (List.mem_range.1 hi)
/-! ### clamped -/
def cl (a : Int) : Int := mx (-4096) (mn 4096 a)
theorem cl_rng (a : Int) : -4096 ≤ cl a ∧ cl a ≤ 4096 := by unfold cl mx mn; split <;> split <;> omega
theorem clamp_all (a : Int) : raster_clamp.f a = some (cl a) := rfl
theorem short_all (a : Int) : terrref5_Short.f a = some (cl a) := by
  unfold terrref5_Short.f cl mx mn
  split
  · congr 1; split <;> split <;> omega
  · congr 1; split <;> split <;> (try split) <;> omega
/-! ### a stroke -/
theorem hit_range {ax ay cx cy : Int} {x y : Nat} (hx : x < 64) (hy : y < 64) (h : hitP ax ay cx cy x y = true) :
    (firstP ay cy).toNat ≤ y ∧ (y : Int) ≤ lastP ay cy ∧ (firstP ax cx).toNat ≤ x ∧ (x : Int) ≤ lastP ax cx := by
  unfold hitP hitB at h
  rw [Bool.and_eq_true, decide_eq_true_iff] at h
  obtain ⟨⟨h1, h2, h3, h4⟩, -⟩ := h
  have fst : ∀ (a c : Int) (q : Nat), mn a c ≤ 4 * (q : Int) + 4 → (firstP a c).toNat ≤ q := by
    intro a c q h
    unfold firstP
    have : Int.tdiv (mn a c - 4) 4 ≤ q := by
      rw [Int.tdiv_eq_ediv]
      split
      · omega
      · rw [show Int.sign 4 = 1 from rfl]; omega
    rw [mx]; split <;> omega
  have lst : ∀ (a c : Int) (q : Nat), q < 64 → 4 * (q : Int) ≤ mx a c → (q : Int) ≤ lastP a c := by
    intro a c q hq h
    unfold lastP
    rw [Int.tdiv_eq_ediv_of_nonneg (by omega), mn]
    split <;> omega
  exact ⟨fst _ _ _ h4, lst _ _ _ hy h3, fst _ _ _ h2, lst _ _ _ hx h1⟩
/-- One segment more at each pixel that it meets. -/
def addH (ax ay cx cy : Int) (f : Nat → Int) : Nat → Int := fun i => if hitP ax ay cx cy (i % 64) (i / 64) = true then wrap64 (f i + 1) else f i
theorem stroke_all (n : Nat) (hn : n = 4096) (ax ay cx cy : Int) (h0 : -4096 ≤ ax ∧ ax ≤ 4096) (h2 : -4096 ≤ ay ∧ ay ≤ 4096) (h4 : -4096 ≤ cx ∧ cx ≤ 4096) (h6 : -4096 ≤ cy ∧ cy ≤ 4096) (f : Nat → Int) :
    Is (fun k => raster_stroke.f k (tab n f) ax ay cx cy) (tab n (addH ax ay cx cy f)) := by
  refine ⟨5200, fun k hk => ?_⟩
  show raster_stroke.f k (tab n f) ax ay cx cy = _
  rw [stroke_in n hn ax ay cx cy h0.1 h0.2 h2.1 h2.2 h4.1 h4.2 h6.1 h6.2 f k hk]
  refine congrArg some (tab_congr fun i hi => ?_)
  unfold rowsAdd addH
  by_cases p : hitP ax ay cx cy (i % 64) (i / 64) = true
  · obtain ⟨r1, r2, r3, r4⟩ := hit_range (by omega) (by omega) p
    rw [if_pos p, if_pos ⟨r1, r2, r3, r4, p⟩]
  · rw [if_neg p, if_neg (fun h => p h.2.2.2.2)]
/-! ### the second implementation's test -/
theorem near_all (a0 a1 a2 a3 b0 b1 b2 b3 : Int) : terrref5_Near.f a0 a1 a2 a3 b0 b1 b2 b3 = some (decide (a0 ≤ b2 ∧ b0 ≤ a2 ∧ a1 ≤ b3 ∧ b1 ≤ a3)) := by
  unfold terrref5_Near.f
  by_cases c1 : a0 ≤ b2
  · rw [if_pos c1]
    by_cases c2 : b0 ≤ a2
    · rw [if_pos c2]
      by_cases c3 : a1 ≤ b3
      · rw [if_pos c3]
        exact congrArg some (decide_eq_decide.2 ⟨fun h => ⟨c1, c2, c3, h⟩, fun h => h.2.2.2⟩)
      · rw [if_neg c3, decide_eq_false (fun h => c3 h.2.2.1)]
    · rw [if_neg c2, decide_eq_false (fun h => c2 h.2.1)]
  · rw [if_neg c1, decide_eq_false (fun h => c1 h.1)]
def ng (d : Int) : Int := if d < 0 then 1 else 0
def ps (d : Int) : Int := if d > 0 then 1 else 0
theorem cr_wrap {ax ay cx cy px py : Int} (h0 : -4096 ≤ ax ∧ ax ≤ 4096) (h1 : -4096 ≤ ay ∧ ay ≤ 4096) (h2 : -4096 ≤ cx ∧ cx ≤ 4096) (h3 : -4096 ≤ cy ∧ cy ≤ 4096) (h4 : -4096 ≤ px ∧ px ≤ 4096) (h5 : -4096 ≤ py ∧ py ≤ 4096) :
    wrap64 (wrap64 (wrap64 (cx - ax) * wrap64 (py - ay)) - wrap64 (wrap64 (cy - ay) * wrap64 (px - ax))) = cr ax ay cx cy px py := by
  rw [wrap_id (x := cx - ax) (by omega) (by omega), wrap_id (x := py - ay) (by omega) (by omega), wrap_id (x := cy - ay) (by omega) (by omega), wrap_id (x := px - ax) (by omega) (by omega)]
  have m1 := mul_bd (a := cx - ax) (b := py - ay) (by omega) (by omega) (by omega) (by omega)
  have m2 := mul_bd (a := cy - ay) (b := px - ax) (by omega) (by omega) (by omega) (by omega)
  unfold cr
  generalize (cx - ax) * (py - ay) = u at *
  generalize (cy - ay) * (px - ax) = v at *
  rw [wrap_id (x := u) (by omega) (by omega), wrap_id (x := v) (by omega) (by omega), wrap_id (x := u - v) (by omega) (by omega)]
theorem wrap_small {a : Int} (h0 : 0 ≤ a) (h1 : a ≤ 1000000) : wrap64 (a + 1) = a + 1 := wrap_id (by omega) (by omega)
/-- One corner. -/
theorem corner {b0 b1 b2 b3 ax ay cx cy le mo i px py d : Int} {r : Bool} (hi : i < 4) (hi0 : 0 ≤ i) (hl : 0 ≤ le ∧ le ≤ 4) (hm : 0 ≤ mo ∧ mo ≤ 4)
    (hx : px = if Int.tmod i 2 = 1 then b2 else b0) (hy : py = if wrap64 (Int.tdiv i 2) = 1 then b3 else b1)
    (hd : wrap64 (wrap64 (wrap64 (cx - ax) * wrap64 (py - ay)) - wrap64 (wrap64 (cy - ay) * wrap64 (px - ax))) = d)
    (next : Is (fun k => terrref5_Hits.l0 k (le + ng d) (mo + ps d) (i + 1) b0 b1 b2 b3 ax ay cx cy) r) : Is (fun k => terrref5_Hits.l0 k le mo i b0 b1 b2 b3 ax ay cx cy) r := by
  have w1 : wrap64 (le + 1) = le + 1 := wrap_small hl.1 (by omega)
  have w2 : wrap64 (mo + 1) = mo + 1 := wrap_small hm.1 (by omega)
  have w3 : wrap64 (i + 1) = i + 1 := wrap_small hi0 (by omega)
  have j2 : Is (fun k => terrref5_Hits.j2 k le mo i b0 b1 b2 b3 ax ay cx cy px py) r := by
    unfold ng ps at next
    by_cases d1 : d < 0
    · rw [if_pos d1, if_neg (Int.not_lt.2 (Int.le_of_lt d1)), Int.add_zero] at next
      exact Is.step next (fun k => by rw [terrref5_Hits.j2, hd, if_pos d1, w1, w3])
    · rw [if_neg d1, Int.add_zero] at next
      by_cases d2 : d > 0
      · rw [if_pos d2] at next
        exact Is.step next (fun k => by rw [terrref5_Hits.j2, hd, if_neg d1, if_pos d2, w2, w3])
      · rw [if_neg d2, Int.add_zero] at next
        exact Is.step next (fun k => by rw [terrref5_Hits.j2, hd, if_neg d1, if_neg d2, w3])
  have j1 : Is (fun k => terrref5_Hits.j1 k le mo i i b0 b1 b2 b3 ax ay cx cy px b1) r := by
    by_cases c : wrap64 (Int.tdiv i 2) = 1
    · rw [if_pos c] at hy
      subst hy
      exact Is.step j2 (fun k => by rw [terrref5_Hits.j1, if_pos c])
    · rw [if_neg c] at hy
      subst hy
      exact Is.step j2 (fun k => by rw [terrref5_Hits.j1, if_neg c])
  by_cases c : Int.tmod i 2 = 1
  · rw [if_pos c] at hx
    subst hx
    exact Is.step j1 (fun k => by rw [terrref5_Hits.l0, if_pos hi, if_pos c])
  · rw [if_neg c] at hx
    subst hx
    exact Is.step j1 (fun k => by rw [terrref5_Hits.l0, if_pos hi, if_neg c])
theorem ng_rng (d : Int) : 0 ≤ ng d ∧ ng d ≤ 1 := by unfold ng; split <;> omega
theorem ps_rng (d : Int) : 0 ≤ ps d ∧ ps d ≤ 1 := by unfold ps; split <;> omega
theorem hits_all (x y : Nat) (hx : x < 64) (hy : y < 64) (ax ay cx cy : Int) (h0 : -4096 ≤ ax ∧ ax ≤ 4096) (h1 : -4096 ≤ ay ∧ ay ≤ 4096) (h2 : -4096 ≤ cx ∧ cx ≤ 4096) (h3 : -4096 ≤ cy ∧ cy ≤ 4096) :
    Is (fun k => terrref5_Hits.f k (4 * (x : Int)) (4 * (y : Int)) (4 * (x : Int) + 4) (4 * (y : Int) + 4) ax ay cx cy) (hitP ax ay cx cy x y) := by
  have key : Is (fun k => (terrref5_Near.f (4 * (x : Int)) (4 * (y : Int)) (4 * (x : Int) + 4) (4 * (y : Int) + 4) (mn ax cx) (mn ay cy) (mx ax cx) (mx ay cy)).bind fun t380 => (if t380 = true then (terrref5_Hits.l0 k 0 0 0 (4 * (x : Int)) (4 * (y : Int)) (4 * (x : Int) + 4) (4 * (y : Int) + 4) ax ay cx cy) else (some false))) (hitP ax ay cx cy x y) := by
    refine Is.bind (Is.of (near_all _ _ _ _ _ _ _ _)) ?_
    unfold hitP hitB
    by_cases c : 4 * (x : Int) ≤ mx ax cx ∧ mn ax cx ≤ 4 * (x : Int) + 4 ∧ 4 * (y : Int) ≤ mx ay cy ∧ mn ay cy ≤ 4 * (y : Int) + 4
    case neg =>
      rw [decide_eq_false c, Bool.false_and]
      exact Is.neg (by decide) (Is.pure _)
    rw [decide_eq_true c, Bool.true_and]
    refine Is.pos rfl ?_
    have q0 : Int.tmod 0 2 = 0 := rfl
    have q1 : Int.tmod (0 + 1) 2 = 1 := rfl
    have q2 : Int.tmod (0 + 1 + 1) 2 = 0 := rfl
    have q3 : Int.tmod (0 + 1 + 1 + 1) 2 = 1 := rfl
    have p0 : wrap64 (Int.tdiv 0 2) = 0 := by decide +kernel
    have p1 : wrap64 (Int.tdiv (0 + 1) 2) = 0 := by decide +kernel
    have p2 : wrap64 (Int.tdiv (0 + 1 + 1) 2) = 1 := by decide +kernel
    have p3 : wrap64 (Int.tdiv (0 + 1 + 1 + 1) 2) = 1 := by decide +kernel
    have d0 := cr_wrap (px := 4 * (x : Int)) (py := 4 * (y : Int)) h0 h1 h2 h3 (by omega) (by omega)
    have d1 := cr_wrap (px := 4 * (x : Int) + 4) (py := 4 * (y : Int)) h0 h1 h2 h3 (by omega) (by omega)
    have d2 := cr_wrap (px := 4 * (x : Int)) (py := 4 * (y : Int) + 4) h0 h1 h2 h3 (by omega) (by omega)
    have d3 := cr_wrap (px := 4 * (x : Int) + 4) (py := 4 * (y : Int) + 4) h0 h1 h2 h3 (by omega) (by omega)
    generalize cr ax ay cx cy (4 * (x : Int)) (4 * (y : Int)) = e0 at *
    generalize cr ax ay cx cy (4 * (x : Int) + 4) (4 * (y : Int)) = e1 at *
    generalize cr ax ay cx cy (4 * (x : Int)) (4 * (y : Int) + 4) = e2 at *
    generalize cr ax ay cx cy (4 * (x : Int) + 4) (4 * (y : Int) + 4) = e3 at *
    have n0 := ng_rng e0
    have n1 := ng_rng e1
    have n2 := ng_rng e2
    have s0 := ps_rng e0
    have s1 := ps_rng e1
    have s2 := ps_rng e2
    refine corner (d := e0) (by decide) (by decide) (by decide) (by decide) (by rw [if_neg (by rw [q0]; decide)]) (by rw [if_neg (by rw [p0]; decide)]) d0 ?_
    refine corner (d := e1) (by decide) (by decide) (by clear d0 d1 d2 d3 p0 p1 p2 p3; omega) (by clear d0 d1 d2 d3 p0 p1 p2 p3; omega) (by rw [if_pos q1]) (by rw [if_neg (by rw [p1]; decide)]) d1 ?_
    refine corner (d := e2) (by decide) (by decide) (by clear d0 d1 d2 d3 p0 p1 p2 p3; omega) (by clear d0 d1 d2 d3 p0 p1 p2 p3; omega) (by rw [if_neg (by rw [q2]; decide)]) (by rw [if_pos p2]) d2 ?_
    refine corner (d := e3) (by decide) (by decide) (by clear d0 d1 d2 d3 p0 p1 p2 p3; omega) (by clear d0 d1 d2 d3 p0 p1 p2 p3; omega) (by rw [if_pos q3]) (by rw [if_pos p3]) d3 ?_
    clear d0 d1 d2 d3 p0 p1 p2 p3 q0 q1 q2 q3 n0 n1 n2 s0 s1 s2
    refine Is.step (f := fun _ => some _) (Is.pure _) (fun k => ?_)
    rw [terrref5_Hits.l0, if_neg (by decide)]
    unfold ng ps
    by_cases c1 : e0 ≥ 0 ∨ e1 ≥ 0 ∨ e3 ≥ 0 ∨ e2 ≥ 0
    · rw [if_pos (by split <;> split <;> split <;> split <;> omega), decide_eq_true c1, Bool.true_and]
      congr 1
      refine decide_eq_decide.2 ?_
      split <;> split <;> split <;> split <;> omega
    · rw [if_neg (by split <;> split <;> split <;> split <;> omega), decide_eq_false c1, Bool.false_and]
  obtain ⟨K, hK⟩ := key
  exact ⟨K, fun k hk => hK k hk⟩
end Go.Proofs.Ytdmhnjpblpfbfaa.UL


/- A row of samples is covered as each sample alone says: for all areas of less than 17592186044416 edges, and all rows. -/
import Derived.Test.YtdmhnjpblpfbfaaURd
import Derived.Test.YtdmhnjpblpfbfaaQRasterRows
namespace Go.Proofs.Ytdmhnjpblpfbfaa.Pure
open Go.RowKit Go.Proofs.Ytdmhnjpblpfbfaa.Q Go.Proofs.Ytdmhnjpblpfbfaa.U Go.Proofs.YtdmhnjpblpfbfaaW.PrintWords Go.Proofs.YtdmhnjpblpfbfaaW.PrintLast Go.Proofs.YtdmhnjpblpfbfaaW.PrintMore
set_option linter.unusedSimpArgs false
set_option linter.unusedVariables false

theorem rd_L2_one' (r : List S40) : rd_L2 [r] ((0 : Nat) : Int) = r := rfl

/-- The whole tile covers each sample of the row 5. -/
theorem whole_area (x y : Int) (hx : 0 ≤ x) (hx2 : x < 2048) (hy : 0 ≤ y) (hy2 : y < 2048) : areaX [[⟨0, 0⟩, ⟨256, 0⟩, ⟨256, 256⟩, ⟨0, 256⟩]] x y 1 = true := by
  have e0 : c8 0 = 0 := by decide
  have e1 : c8 256 = 2048 := by decide
  have p1 : pass ⟨0, 0⟩ ⟨256, 0⟩ x y = false := by
    unfold pass; apply decide_eq_false; unfold passOne; dsimp only; omega
  have p2 : pass ⟨256, 0⟩ ⟨256, 256⟩ x y = true := by
    unfold pass; apply decide_eq_true; left; unfold passOne; dsimp only; rw [e0, e1]; exact ⟨hy, hy2, by omega⟩
  have p3 : pass ⟨256, 256⟩ ⟨0, 256⟩ x y = false := by
    unfold pass; apply decide_eq_false; unfold passOne; dsimp only; omega
  have p4 : pass ⟨0, 256⟩ ⟨0, 0⟩ x y = false := by
    unfold pass; apply decide_eq_false; unfold passOne; dsimp only; rw [e0, e1]; omega
  rw [areaX, areaX, rd_L2_one', Bool.false_xor]
  show ringX _ x y 4 = true
  have e : ringX [⟨0, 0⟩, ⟨256, 0⟩, ⟨256, 256⟩, ⟨0, 256⟩] x y 4 = ((((false ^^ pass ⟨0, 0⟩ ⟨256, 0⟩ x y) ^^ pass ⟨256, 0⟩ ⟨256, 256⟩ x y) ^^ pass ⟨256, 256⟩ ⟨0, 256⟩ x y) ^^ pass ⟨0, 256⟩ ⟨0, 0⟩ x y) := by simp [ringX, rd_T40, List.getD]
  rw [e, p1, p2, p3, p4]
  rfl

theorem cost_whole : cost [[⟨0, 0⟩, ⟨256, 0⟩, ⟨256, 256⟩, ⟨0, 256⟩]] 1 = 6 := rfl

theorem whole_row (n : Nat) (hn : n = 1024) (row : Nat) (hrow : row < n) (F : Nat) (hF : F = 4000) (k : Nat) (hk : 12 + F ≤ k) : raster_Row.f k [[⟨0, 0⟩, ⟨256, 0⟩, ⟨256, 256⟩, ⟨0, 256⟩]] (row : Int) = some (tb n (fun _ => true)) := by
  have hr := row_in n hn [[⟨0, 0⟩, ⟨256, 0⟩, ⟨256, 256⟩, ⟨0, 256⟩]] (by show (1 : Nat) ≤ _; omega) (by
    intro j hj
    obtain rfl : j = 0 := by simp at hj; omega
    show (4 : Nat) ≤ _
    omega) (by
    show cost [[⟨0, 0⟩, ⟨256, 0⟩, ⟨256, 256⟩, ⟨0, 256⟩]] 1 < _
    rw [cost_whole]
    omega) row hrow F hF k (by
    show 2 * cost [[⟨0, 0⟩, ⟨256, 0⟩, ⟨256, 256⟩, ⟨0, 256⟩]] 1 + F ≤ k
    rw [cost_whole]
    exact hk)
  rw [hr]
  refine congrArg some ?_
  apply List.ext_getElem
  · simp [tb]
  · intro i h1 h2
    rw [tb_length] at h1
    simp only [tb, List.getElem_map, List.getElem_range]
    exact whole_area _ _ (by omega) (by omega) (by omega) (by omega)

theorem covers_in (F : Nat) (hF : F = 4000) (k : Nat) (hk : 12 + F ≤ k) : terrlaw5_covers.f k = some true := by
  obtain ⟨n, hn⟩ : ∃ n : Nat, n = 1024 := ⟨_, rfl⟩
  obtain ⟨j5, h5⟩ : ∃ j : Nat, (j : Int) = 5 := ⟨5, by decide⟩
  obtain ⟨jl, hl⟩ : ∃ j : Nat, (j : Int) = 1023 := ⟨1023, by decide⟩
  have h2 : raster_Row.f k [[⟨0, 0⟩, ⟨256, 0⟩, ⟨256, 256⟩, ⟨0, 256⟩]] 5 = some (tb n (fun _ => true)) := by rw [← h5]; exact whole_row n hn j5 (by omega) F hF k hk
  have r0 : rdOf false (tb n (fun _ => true)) 0 = true := tb_rd n (fun _ => true) 0 (by omega)
  have r1 : rdOf false (tb n (fun _ => true)) 1023 = true := by rw [← hl]; exact tb_rd n (fun _ => true) jl (by omega)
  unfold terrlaw5_covers.f terrlaw5_square.f
  rw [Option.bind_some, h2, Option.bind_some, tb_length, if_pos (by omega), if_pos (by omega), r0, if_pos rfl, if_pos (by omega), r1]

theorem rows_loop (n : Nat) (hn : n = 1024) (a : List (List S40)) (row : Nat) (B : Nat) (h : ∀ (i k : Nat), i < n → B ≤ k → terrref5_Sampled.f k a (i : Int) (row : Int) = some (areaX a (2 * (i : Int) + 1) (2 * (row : Int) + 1) a.length)) : ∀ (d k i : Nat), i + d = n → d + B < k →
    terrlaw5_RasterRows.l0 k a (row : Int) (tb n (fun i => areaX a (2 * (i : Int) + 1) (2 * (row : Int) + 1) a.length)) (n : Int) (i : Int) = some true := by
  intro d
  induction d with
  | zero =>
    intro k i hi hk
    obtain ⟨k, rfl⟩ : ∃ m, k = m + 1 := ⟨k - 1, by omega⟩
    obtain rfl : i = n := by omega
    rw [terrlaw5_RasterRows.l0, if_neg (Int.lt_irrefl _)]
  | succ d ih =>
    intro k i hi hk
    obtain ⟨k, rfl, hk1, hk2⟩ : ∃ m, k = m + 1 ∧ d + B < m ∧ B ≤ m := ⟨k - 1, by omega, by omega, by omega⟩
    have hlt : i < n := by omega
    have c1 : (i : Int) < (n : Int) := by omega
    have w : wrap64 ((i : Int) + 1) = ((i + 1 : Nat) : Int) := by rw [wrap_id (by omega) (by omega)]; omega
    rw [terrlaw5_RasterRows.l0, if_pos c1, if_pos (Int.natCast_nonneg _), if_pos (by rw [tb_length]; exact c1), h i k hlt hk2, Option.bind_some, tb_rd n _ i hlt, if_neg (by simp), w]
    exact ih k (i + 1) (by omega) hk1

theorem RasterRows (a : List (List S40)) (ha : a.length ≤ 9000000000000000) (hr : ∀ j, j < a.length → (rd_L2 a (j : Int)).length ≤ 9000000000000000) (hc : cost a a.length < 17592186044416) (a1 : Int) : ∃ k, terrlaw5_RasterRows.f k a a1 = some true := by
  obtain ⟨n, hn⟩ : ∃ n : Nat, n = 1024 := ⟨_, rfl⟩
  obtain ⟨F, hF⟩ : ∃ F : Nat, F = 4000 := ⟨_, rfl⟩
  obtain ⟨K, hK1, hK2, hK3⟩ : ∃ K : Nat, 12 + F ≤ K + 1 ∧ 2 * cost a a.length + F ≤ K + 1 ∧ n + (2 * cost a a.length + 1) < K := ⟨2 * cost a a.length + F + n + 20, by omega, by omega, by omega⟩
  refine ⟨K + 1, ?_⟩
  unfold terrlaw5_RasterRows.f
  rw [covers_in F hF (K + 1) hK1, Option.bind_some, if_pos rfl]
  by_cases c : a1 < 0
  · unfold raster_Row.f
    rw [if_pos c, raster_Row.j0, if_pos rfl, Option.bind_some, if_pos c, terrlaw5_RasterRows.j0, if_pos rfl]
    rfl
  · by_cases c2 : a1 ≥ 1024
    · unfold raster_Row.f
      rw [if_neg c, decide_eq_true c2, raster_Row.j0, if_pos rfl, Option.bind_some, if_neg c, terrlaw5_RasterRows.j0, if_pos rfl]
      rfl
    · obtain ⟨row, hrow⟩ : ∃ row : Nat, a1 = (row : Int) := ⟨a1.toNat, by omega⟩
      subst hrow
      have hlt : row < n := by omega
      rw [row_in n hn a ha hr hc row hlt F hF (K + 1) hK2, Option.bind_some, if_neg c, decide_eq_false c2, terrlaw5_RasterRows.j0, if_neg (by decide), tb_length, if_pos (by omega)]
      exact rows_loop n hn a row (2 * cost a a.length + 1) (fun i k hi hk => sampled_in a ha hr row i (by omega) (by omega) k hk) n K 0 (Nat.zero_add _) hK3

end Go.Proofs.Ytdmhnjpblpfbfaa.Pure

/- The whole tile is covered. No condition. -/
import Derived.Test.YtdmhnjpblpfbfaaZmURb
import Derived.Test.YtdmhnjpblpfbfaaZmQf50
import Derived.Test.YtdmhnjpblpfbfaaZmQf38
namespace Go.Proofs.Ytdmhnjpblpfbfaa.Pure
open Go.RowKit Go.Proofs.Ytdmhnjpblpfbfaa.Q Go.Proofs.Ytdmhnjpblpfbfaa.U Go.Proofs.YtdmhnjpblpfbfaaW.PrintWords Go.Proofs.YtdmhnjpblpfbfaaW.PrintLast Go.Proofs.YtdmhnjpblpfbfaaW.PrintMore
set_option linter.unusedSimpArgs false
set_option linter.unusedVariables false

theorem rd_L2_one' (r : List S40) : rd_L2 [r] ((0 : Nat) : Int) = r := rfl
/-- The whole tile covers each sample of the row 5. -/
theorem whole_area (x y : Int) (hx : 0 ≤ x) (hx2 : x < 2048) (hy : 0 ≤ y) (hy2 : y < 2048) : areaX [[⟨0, 0⟩, ⟨256, 0⟩, ⟨256, 256⟩, ⟨0, 256⟩]] x y 1 = true := by
  have e0 : c8 0 = 0 := by decide
  have e1 : c8 256 = 2048 := by decide
  have p1 : pass ⟨0, 0⟩ ⟨256, 0⟩ x y = false := by
    unfold pass; apply decide_eq_false; unfold passOne; dsimp only; omega
  have p2 : pass ⟨256, 0⟩ ⟨256, 256⟩ x y = true := by
    unfold pass; apply decide_eq_true; left; unfold passOne; dsimp only; rw [e0, e1]; exact ⟨hy, hy2, by omega⟩
  have p3 : pass ⟨256, 256⟩ ⟨0, 256⟩ x y = false := by
    unfold pass; apply decide_eq_false; unfold passOne; dsimp only; omega
  have p4 : pass ⟨0, 256⟩ ⟨0, 0⟩ x y = false := by
    unfold pass; apply decide_eq_false; unfold passOne; dsimp only; rw [e0, e1]; omega
  rw [areaX, areaX, rd_L2_one', Bool.false_xor]
  show ringX _ x y 4 = true
  have e : ringX [⟨0, 0⟩, ⟨256, 0⟩, ⟨256, 256⟩, ⟨0, 256⟩] x y 4 = ((((false ^^ pass ⟨0, 0⟩ ⟨256, 0⟩ x y) ^^ pass ⟨256, 0⟩ ⟨256, 256⟩ x y) ^^ pass ⟨256, 256⟩ ⟨0, 256⟩ x y) ^^ pass ⟨0, 256⟩ ⟨0, 0⟩ x y) := by simp [ringX, rd_T40, List.getD]
  rw [e, p1, p2, p3, p4]
  rfl
theorem cost_whole : cost [[⟨0, 0⟩, ⟨256, 0⟩, ⟨256, 256⟩, ⟨0, 256⟩]] 1 = 6 := rfl
theorem whole_row (n : Nat) (hn : n = 1024) (row : Nat) (hrow : row < n) (F : Nat) (hF : F = 4000) (k : Nat) (hk : 12 + F ≤ k) : raster_Row.f k [[⟨0, 0⟩, ⟨256, 0⟩, ⟨256, 256⟩, ⟨0, 256⟩]] (row : Int) = some (tb n (fun _ => true)) := by
  have hr := row_in n hn [[⟨0, 0⟩, ⟨256, 0⟩, ⟨256, 256⟩, ⟨0, 256⟩]] (by show (1 : Nat) ≤ _; omega) (by
    intro j hj
    obtain rfl : j = 0 := by simp at hj; omega
    show (4 : Nat) ≤ _
    omega) (by
    show cost [[⟨0, 0⟩, ⟨256, 0⟩, ⟨256, 256⟩, ⟨0, 256⟩]] 1 < _
    rw [cost_whole]
    omega) row hrow F hF k (by
    show 2 * cost [[⟨0, 0⟩, ⟨256, 0⟩, ⟨256, 256⟩, ⟨0, 256⟩]] 1 + F ≤ k
    rw [cost_whole]
    exact hk)
  rw [hr]
  refine congrArg some ?_
  apply List.ext_getElem
  · simp [tb]
  · intro i h1 h2
    rw [tb_length] at h1
    simp only [tb, List.getElem_map, List.getElem_range]
    exact whole_area _ _ (by omega) (by omega) (by omega) (by omega)
theorem covers_in (F : Nat) (hF : F = 4000) (k : Nat) (hk : 12 + F ≤ k) : terrlaw5_covers.f k = some true := by
  obtain ⟨n, hn⟩ : ∃ n : Nat, n = 1024 := ⟨_, rfl⟩
  obtain ⟨j5, h5⟩ : ∃ j : Nat, (j : Int) = 5 := ⟨5, by decide⟩
  obtain ⟨jl, hl⟩ : ∃ j : Nat, (j : Int) = 1023 := ⟨1023, by decide⟩
  have h2 : raster_Row.f k [[⟨0, 0⟩, ⟨256, 0⟩, ⟨256, 256⟩, ⟨0, 256⟩]] 5 = some (tb n (fun _ => true)) := by rw [← h5]; exact whole_row n hn j5 (by omega) F hF k hk
  have r0 : rdOf false (tb n (fun _ => true)) 0 = true := tb_rd n (fun _ => true) 0 (by omega)
  have r1 : rdOf false (tb n (fun _ => true)) 1023 = true := by rw [← hl]; exact tb_rd n (fun _ => true) jl (by omega)
  unfold terrlaw5_covers.f terrlaw5_square.f
  rw [Option.bind_some, h2, Option.bind_some, tb_length, if_pos (by omega), if_pos (by omega), r0, if_pos rfl, if_pos (by omega), r1]
end Go.Proofs.Ytdmhnjpblpfbfaa.Pure


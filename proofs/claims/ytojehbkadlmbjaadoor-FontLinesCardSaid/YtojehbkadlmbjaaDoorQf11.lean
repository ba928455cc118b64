/- strings.Join: the texts one after the other, with the separator between them. Condition: the printed twin gives an answer (the result is not longer than 2^47 bytes). -/
import Derived.Test.YtojehbkadlmbjaaDoorQ0
import Derived.Test.YtojehbkadlmbjaaDoorQf11s
namespace Go.Proofs.YtojehbkadlmbjaaDoor.Q
open Go.Proofs Go.RowKit Go.Proofs.YtojehbkadlmbjaaDoorW.PrintWords Go.Proofs.YtojehbkadlmbjaaDoorW.PrintLast Go.Proofs.YtojehbkadlmbjaaDoorW.PrintMore
set_option linter.unusedVariables false
def joinB (l0 : List ByteArray) (a1 : ByteArray) : ByteArray := ⟨(Lib.join (l0.map (·.data.toList)) a1.data.toList).toArray⟩
def joinOk (l0 : List ByteArray) (a1 : ByteArray) : Bool := decide (l0.length ≤ 140737488355328) && decide ((Lib.join (l0.map (·.data.toList)) a1.data.toList).length ≤ 140737488355328)
def strings_Join.f (l0 : List ByteArray) (a1 : ByteArray) : Option (ByteArray) := if joinOk l0 a1 = true then some (joinB l0 a1) else none
theorem extra156 : Builder.Extra Tryd.prog Tryd.lays156_ren where
  sizeBuilder := by kernel_rfl
  liesBuilder := by kernel_rfl
  t5 := Tryd.underlying5
  a5 := Tryd.isAgg5
  z5 := Tryd.sizeOf5
  v5 := Tryd.zeroValue5
  infoByte := by kernel_rfl
  cellsByte := by kernel_rfl
  sizeByte := by kernel_rfl
  neB5 := by decide
theorem strings_Join.calls (A0 : Option Addr) (c0 : Nat) (l0 : List ByteArray) (a1 : ByteArray) (r : ByteArray) (w : World) (hr0 : Kd.C Kd.string w A0 l0.length l0) (hc0 : l0.length ≤ c0) (h : strings_Join.f l0 a1 = some r) :
    Calls Tryd.prog 11 #[.slice A0 l0.length c0, .string a1] w fun e w' => e = .returned (.string r) ∧ Below w.heap.size w w' := by
  unfold strings_Join.f at h
  by_cases c : joinOk l0 a1 = true
  case neg => rw [if_neg c] at h; cases h
  rw [if_pos c] at h
  obtain rfl := Option.some.inj h
  unfold joinOk at c
  rw [Bool.and_eq_true, decide_eq_true_iff, decide_eq_true_iff] at c
  match l0, hr0, hc0, c with
  | [], hr0, hc0, c =>
    have hcon := Any.strings_Join_none Tryd.lays156 extra156 A0 c0 a1 w
    change Calls Tryd.prog 11 _ _ _ at hcon
    refine hcon.mono ?_
    rintro e w' ⟨rfl, rfl⟩
    exact ⟨rfl, Below.refl _ _⟩
  | x :: l, hr0, hc0, c =>
    have hpos : (0 : Int) < ((x :: l).length : Nat) := by simp
    obtain ⟨ad, rfl, hcell⟩ := Kd.at_string hr0 0 (Int.le_refl _) hpos
    obtain ⟨bk, o, spot⟩ := ad
    have hspot : spot = none := by simpa [Addr.add] using World.cell?_spot hcell
    subst hspot
    have hcells : ∀ (j : Nat) y, (x :: l)[j]? = some y → w.cell? ⟨bk, o + j, none⟩ = some (.string y) := by
      intro j y hj
      have hlt := (List.getElem?_eq_some_iff.1 hj).1
      obtain ⟨ad', e', h'⟩ := Kd.at_string hr0 (j : Int) (by omega) (by omega)
      obtain rfl := (Option.some.inj e')
      have hv : rdOf ByteArray.empty (x :: l) (j : Int) = y := by
        unfold rdOf
        simp only [Int.toNat_natCast, List.getD_eq_getElem?_getD, hj, Option.getD_some]
      rw [hv, Int.toNat_natCast] at h'
      rcases j with _ | j
      · exact h'
      · exact h'
    have hbk : bk < w.heap.size := by
      have h0 := hcells 0 x rfl
      rcases Nat.lt_or_ge bk w.heap.size with h | h
      · exact h
      · unfold World.cell? at h0
        simp [Array.getElem?_eq_none h] at h0
    have hcon := Any.strings_Join Tryd.lays156 extra156 bk o c0 (x :: l) a1 w hcells hbk c.1 hc0 c.2
    change Calls Tryd.prog 11 _ _ _ at hcon
    exact hcon.mono fun e w' h => h
end Go.Proofs.YtojehbkadlmbjaaDoor.Q

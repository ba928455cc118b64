/- strings.Fields at a text of ASCII bytes: its words. Conditions: the library's table of white space is laid; the printed twin gives an answer. -/
import Derived.Test.YtojehbkadlmbjaaDoorQ0
import Derived.Test.YtojehbkadlmbjaaDoorQf10s
namespace Go.Proofs.YtojehbkadlmbjaaDoor.Q
open Go.Proofs Go.RowKit Go.Proofs.YtojehbkadlmbjaaDoorW.PrintWords Go.Proofs.YtojehbkadlmbjaaDoorW.PrintLast Go.Proofs.YtojehbkadlmbjaaDoorW.PrintMore
set_option linter.unusedVariables false
/-- The table of white space is laid. -/
def Spaces (w : World) : Prop := Lib.TabIs Tryd.prog w "strings.asciiSpace" .u8 Lib.asciiSpaceTab
theorem Spaces.below {w w1 : World} (h : Spaces w) (hb : Below w.heap.size w w1) : Spaces w1 := by
  unfold Spaces Lib.TabIs World.var? at *
  rw [Option.bind_eq_some_iff] at h ⊢
  obtain ⟨g, hg, hc⟩ := h
  refine ⟨g, hg, ?_⟩
  have hlt : g < w.heap.size := by
    rcases Nat.lt_or_ge g w.heap.size with h | h
    · exact h
    · rw [Array.getElem?_eq_none h] at hc
      cases hc
  rw [hb.block g hlt]
  exact hc
def asciiB (s : ByteArray) : Bool := decide (s.size < 4294967281) && s.data.toList.all fun b => decide (b.toNat < 128)
/-- The words of a text. -/
def wordsB (s : ByteArray) : List ByteArray := (Lib.fields s.data.toList).map fun l => ⟨l.toArray⟩
def strings_Fields.f (k : Nat) (a0 : ByteArray) : Option (List ByteArray) := if asciiB a0 = true then some (wordsB a0) else none
theorem strings_Fields.mono : ∀ a0 k, LeO (strings_Fields.f k a0) (strings_Fields.f (k + 1) a0) := fun _ _ => LeO.refl _
theorem strings_Fields.calls (k : Nat) (a0 : ByteArray) (r : List ByteArray) (w : World) (hT : Spaces w) (h : strings_Fields.f k a0 = some r) :
    Calls Tryd.prog 10 #[.string a0] w fun e w' => ∃ v0_ : Value, e = .returned (v0_) ∧ Kd.R Kd.string 9 w' w.heap.size (fun _ => True) v0_ r ∧ Below w.heap.size w w' := by
  unfold strings_Fields.f at h
  by_cases c : asciiB a0 = true
  case neg => rw [if_neg c] at h; cases h
  rw [if_pos c] at h
  obtain rfl := Option.some.inj h
  unfold asciiB at c
  rw [Bool.and_eq_true, decide_eq_true_iff, List.all_eq_true] at c
  have hcon := Any.strings_Fields Tryd.lays157 info9 (by kernel_rfl) a0 w c.1 (fun j b hb => of_decide_eq_true (c.2 b (List.mem_of_getElem? hb))) hT
  change Calls Tryd.prog 10 _ _ _ at hcon
  refine hcon.mono ?_
  rintro e w' ⟨rfl, rfl⟩
  have hl : (Lib.fields a0.data.toList).length ≤ maxLen := by
    have h1 := Lib.fields_length a0.data.toList
    have h2 : ∀ (l : List UInt8) (b : Bool), Lib.cntF b l ≤ l.length := by
      intro l
      induction l with
      | nil => intro b; exact Nat.le_refl 0
      | cons x l ih => intro b; have := ih (Lib.isSp x); rw [Lib.cntF, List.length_cons]; split <;> omega
    have h3 := h2 a0.data.toList true
    have h4 : a0.data.toList.length = a0.size := rfl
    have h5 : maxLen = 9223372036854775807 := rfl
    have := c.1
    omega
  refine ⟨_, rfl, ⟨fun _ _ => trivial, ((wordsB a0).map Value.string), ?_, Kd.reps_scalar (wordsB a0)⟩, below_alloc (Below.refl _ _) _⟩
  have hw : (wordsB a0).length = (Lib.fields a0.data.toList).length := List.length_map _
  have h2 := World.ownsRow_lit (base := w.heap.size) (e := 9) (size := 1) w ((Lib.fields a0.data.toList).map fun l => Value.string ⟨l.toArray⟩).toArray (Lib.fields a0.data.toList).length (Nat.le_refl _) hl (by simp)
  rw [hw]
  have e : (wordsB a0).map Value.string = ((Lib.fields a0.data.toList).map fun l => Value.string ⟨l.toArray⟩) := by
    unfold wordsB
    rw [List.map_map]
    rfl
  rw [e]
  exact h2
end Go.Proofs.YtojehbkadlmbjaaDoor.Q

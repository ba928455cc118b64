/- strings.Cut: the text up to the first separator, and behind it. Conditions: the text is shorter than 2^32 - 15 bytes; the variable bytealg.MaxLen holds some int. -/
import Derived.Test.YtojehbkadlmbjaaDoorQf10
import Derived.Test.YtojehbkadlmbjaaDoorQf13s
namespace Go.Proofs.YtojehbkadlmbjaaDoor.Q
open Go.Proofs Go.RowKit Go.Proofs.YtojehbkadlmbjaaDoorW.PrintWords Go.Proofs.YtojehbkadlmbjaaDoorW.PrintLast Go.Proofs.YtojehbkadlmbjaaDoorW.PrintMore
set_option linter.unusedVariables false
/-- The variable bytealg.MaxLen holds some int. -/
def MaxL (w : World) : Prop := ∃ m : Int, w.cell? ⟨2, 0, none⟩ = some (.int .i64 m)
theorem MaxL.below {w w1 : World} (h : MaxL w) (hb : Below w.heap.size w w1) : MaxL w1 := by
  obtain ⟨m, hm⟩ := h
  refine ⟨m, ?_⟩
  have hlt : 2 < w.heap.size := by
    rcases Nat.lt_or_ge 2 w.heap.size with h | h
    · exact h
    · unfold World.cell? at hm
      simp [Array.getElem?_eq_none h] at hm
  have e := hb.block 2 hlt
  unfold World.cell? at hm ⊢
  simp only [e]
  exact hm
/-- What the law's library functions read is laid. -/
structure Laid (w : World) : Prop where
  sp : Spaces w
  mx : MaxL w
theorem Laid.below {w w1 : World} (h : Laid w) (hb : Below w.heap.size w w1) : Laid w1 := ⟨h.sp.below hb, h.mx.below hb⟩
def cutB (a0 a1 : ByteArray) : ByteArray × ByteArray × Bool := (⟨(Lib.cut a0.data.toList a1.data.toList).1.toArray⟩, ⟨(Lib.cut a0.data.toList a1.data.toList).2.1.toArray⟩, (Lib.cut a0.data.toList a1.data.toList).2.2)
def strings_Cut.f (a0 : ByteArray) (a1 : ByteArray) : Option (ByteArray × ByteArray × Bool) := if a0.size < 4294967281 then some (cutB a0 a1) else none
theorem strings_Cut.calls (a0 : ByteArray) (a1 : ByteArray) (r1 : ByteArray) (r2 : ByteArray) (r3 : Bool) (w : World) (hM : MaxL w) (h : strings_Cut.f a0 a1 = some (r1, r2, r3)) :
    Calls Tryd.prog 13 #[.string a0, .string a1] w fun e w' => e = .returned (.tuple #[.string r1, .string r2, .bool r3]) ∧ Drawn0 w w' := by
  unfold strings_Cut.f at h
  by_cases c : a0.size < 4294967281
  case neg => rw [if_neg c] at h; cases h
  rw [if_pos c] at h
  have h := Option.some.inj h
  unfold cutB at h
  simp only [Prod.mk.injEq] at h
  obtain ⟨rfl, rfl, rfl⟩ := h
  obtain ⟨m, hm⟩ := hM
  have hcon := Any.strings_Cut { Tryd.lays145 with } a0 a1 m w c hm
  change Calls Tryd.prog 13 _ _ _ at hcon
  exact hcon.mono fun e w' h => ⟨h.1, ⟨h.2⟩⟩
end Go.Proofs.YtojehbkadlmbjaaDoor.Q

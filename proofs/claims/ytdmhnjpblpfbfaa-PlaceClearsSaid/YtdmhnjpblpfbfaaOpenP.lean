/- How an argument's reading is a list of labels (structs in structs) in memory: opened field by field. Conditions: the types are as stated at each. -/
import Derived.Test.YtdmhnjpblpfbfaaOpen
namespace Go.Proofs.Ytdmhnjpblpfbfaa.Open
open Go.RowKit Go.Deep Go.ChangeShapes Go.Proofs.YtdmhnjpblpfbfaaW.PrintWords
set_option linter.unusedVariables false
section
variable {H : Type} {enc : TypeId × Value → H} {P : Program} {w : World}
/-- Fields one behind the other from the cell o on. -/
def GoodF {H : Type} (enc : TypeId × Value → H) (P : Program) (w : World) {α : Type} (d : Kd α) (fs : List Field) (o : Nat) : Prop :=
  ∀ (n : Nat) (cs : List Value), (∀ f, f ∈ fs → ∃ y, DataW.trod enc P w 0 (fun _ => true) true n f.type ((cs.drop f.offset).take (P.cellsOf f.type)) = some y) → ∃ a, d.K w a ((cs.drop o).take d.sz)
theorem goodF_one {α : Type} {d : Kd α} {Q : α → DataW H → Prop} {f : Field} {o : Nat} (hd : Good enc P w d Q f.type) (ho : f.offset = o) (hc : P.cellsOf f.type = d.sz) : GoodF enc P w d [f] o := by
  intro n cs h
  obtain ⟨y, hy⟩ := h f (List.mem_singleton.2 rfl)
  rw [ho, hc] at hy
  obtain ⟨a, ha, _⟩ := hd _ _ _ hy
  exact ⟨a, ha⟩
theorem goodF_cons {α β : Type} {d : Kd α} {d' : Kd β} {Q : α → DataW H → Prop} {f : Field} {fs : List Field} {o : Nat} (hd : Good enc P w d Q f.type) (ho : f.offset = o) (hc : P.cellsOf f.type = d.sz) (hr : GoodF enc P w d' fs (o + d.sz)) : GoodF enc P w (Kd.pair d d') (f :: fs) o := by
  intro n cs h
  obtain ⟨y, hy⟩ := h f (List.mem_cons_self)
  rw [ho, hc] at hy
  obtain ⟨a, ha, _⟩ := hd _ _ _ hy
  obtain ⟨b, hb⟩ := hr n cs (fun g hg => h g (List.mem_cons_of_mem _ hg))
  refine ⟨(a, b), _, _, ?_, ha, hb⟩
  show (cs.drop o).take (d.sz + d'.sz) = _
  rw [List.take_add, List.drop_drop]
theorem good_struct {α β : Type} {d : Kd α} {f : β → α} {fs : Array Field} {t : TypeId} (g : α → β) (hg : ∀ a, f (g a) = a) (ht : P.underlying t = some (.struct fs)) (hc : P.cellsOf t = d.sz) (hF : GoodF enc P w d fs.toList 0) : Good enc P w (Kd.iso d f) (fun _ _ => True) t := by
  intro n cs y h
  obtain ⟨xs, n', _, rfl, hl, hlen, hf⟩ := DataW.trod_struct ht h
  obtain ⟨a, ha⟩ := hF n' cs (fun fl hfl => by
    obtain ⟨i, hi, hi2⟩ := List.getElem_of_mem hfl
    have hi3 : i < xs.length := by rw [hlen]; simpa using hi
    have := hf i fl (by rw [← hi2]; simp)
    rw [List.getElem?_eq_getElem hi3] at this
    exact ⟨_, this⟩)
  rw [List.drop_zero, List.take_of_length_le (by rw [hl, hc]; exact Nat.le_refl _)] at ha
  exact ⟨g a, by show d.K w (f (g a)) cs; rw [hg]; exact ha, trivial⟩
theorem good_string {t : TypeId} (ht : P.underlying t = some .string) : Good enc P w Kd.string (fun _ _ => True) t := by
  intro n cs y h
  obtain ⟨s, rfl, _, _⟩ := DataW.trod_string ht h
  exact ⟨s, rfl, trivial⟩
theorem good_want : Good enc Try.prog w Q.k36 (fun _ _ => True) 36 := by
  have c3 : Try.prog.cellsOf 3 = 1 := by kernel_rfl
  have g3 : Good enc Try.prog w (Kd.int .i64) _ 3 := good_int Try.underlying3
  have g58 := good_slice (enc := enc) (w := w) Try.underlying31 (by kernel_rfl) (good_slice Try.underlying54 (by kernel_rfl) good_point)
  have g9 := good_string (enc := enc) (w := w) Try.underlying9
  have g42 : Good enc Try.prog w Q.k42 (fun _ _ => True) 42 := good_struct (fun p => ⟨p.1, p.2⟩) (fun _ => rfl) Try.underlying42 (by kernel_rfl) (goodF_cons good_point rfl (by kernel_rfl) (goodF_one good_point rfl (by kernel_rfl)))
  have g34 := good_slice (enc := enc) (w := w) Try.underlying34 (by kernel_rfl) g42
  have g33 : Good enc Try.prog w Q.k33 (fun _ _ => True) 33 := good_struct (fun p => ⟨p.1, p.2.1, p.2.2.1, p.2.2.2.1, p.2.2.2.2.1, p.2.2.2.2.2⟩) (fun _ => rfl) Try.underlying33 (by kernel_rfl)
    (goodF_cons g3 rfl c3 (goodF_cons g3 rfl c3 (goodF_cons g3 rfl c3 (goodF_cons g3 rfl c3 (goodF_cons g58 rfl (by kernel_rfl) (goodF_one g9 rfl (by kernel_rfl)))))))
  exact good_struct (fun p => ⟨p.1, p.2.1, p.2.2⟩) (fun _ => rfl) Try.underlying36 (by kernel_rfl) (goodF_cons g33 rfl (by kernel_rfl) (goodF_cons g34 rfl (by kernel_rfl) (goodF_one g3 rfl c3)))
end
end Go.Proofs.Ytdmhnjpblpfbfaa.Open

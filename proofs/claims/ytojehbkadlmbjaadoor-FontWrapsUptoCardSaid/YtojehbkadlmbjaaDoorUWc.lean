/- Widths of joined texts; the sizes of words that are left. No condition. -/
import Derived.Test.YtojehbkadlmbjaaDoorUWb
namespace Go.Proofs.YtojehbkadlmbjaaDoor.U
open Go.RowKit Go.Proofs.YtojehbkadlmbjaaDoor.Q Go.Proofs.YtojehbkadlmbjaaDoorW.PrintWords Go.Proofs.YtojehbkadlmbjaaDoorW.PrintLast Go.Proofs.YtojehbkadlmbjaaDoorW.PrintMore
set_option linter.unusedSimpArgs false
set_option linter.unusedVariables false

def Good (s : ByteArray) : Prop := ∀ i : Nat, i < s.size → 32 ≤ bt s (i : Int) ∧ bt s (i : Int) ≤ 126

theorem bt_app_l (a b : ByteArray) (i : Nat) (h : i < a.size) : bt (a ++ b) (i : Int) = bt a (i : Int) := by
  unfold bt
  rw [dif_pos (show ((i : Nat) : Int).toNat < (a ++ b).size by rw [size_app]; show i < _; omega), dif_pos (show ((i : Nat) : Int).toNat < a.size from h)]
  congr 2
  exact ByteArray.getElem_append_left h
theorem bt_app_r (a b : ByteArray) (i : Nat) (h : i < b.size) : bt (a ++ b) ((a.size + i : Nat) : Int) = bt b (i : Int) := by
  unfold bt
  rw [dif_pos (show ((a.size + i : Nat) : Int).toNat < (a ++ b).size by rw [size_app]; show a.size + i < _; omega), dif_pos (show ((i : Nat) : Int).toNat < b.size from h)]
  congr 2
  have key : ∀ (n : Nat) (hn : n = a.size + i) (h1 : n < (a ++ b).size), (a ++ b)[n]'h1 = b[i]'h := by
    intro n hn h1
    subst hn
    rw [ByteArray.getElem_append_right (by omega)]
    congr 1
    omega
  exact key _ rfl _

theorem widthOf_app (a b : ByteArray) : widthOf (a ++ b) = widthOf a + widthOf b := by
  unfold widthOf
  rw [size_app, sumF_split]
  rw [sumF_congr _ (fun i => ww (bt a (i : Int))) a.size (fun i hi => by rw [bt_app_l a b i hi]), sumF_congr (fun i => ww (bt (a ++ b) ((a.size + i : Nat) : Int))) (fun i => ww (bt b (i : Int))) b.size (fun i hi => by rw [bt_app_r a b i hi])]

theorem sumF_pos (f : Nat → Int) (n : Nat) (h : ∀ i, i < n → 0 ≤ f i) : 0 ≤ sumF f n := by
  induction n with
  | zero => exact Int.le_refl _
  | succ n ih =>
    have h1 := ih (fun i hi => h i (by omega))
    have h2 := h n (by omega)
    rw [sumF]
    omega
theorem widthOf_pos (s : ByteArray) : 0 ≤ widthOf s := sumF_pos _ _ (fun i hi => (wide_in _ (bt_range s _).1 (bt_range s _).2 70 (Nat.le_refl _)).2.2.1)

theorem Good.app {a b : ByteArray} (ha : Good a) (hb : Good b) : Good (a ++ b) := by
  intro i hi
  rw [size_app] at hi
  by_cases c : i < a.size
  · rw [bt_app_l a b i c]; exact ha i c
  · obtain ⟨j, rfl⟩ : ∃ j, i = a.size + j := ⟨i - a.size, by omega⟩
    rw [bt_app_r a b j (by omega)]; exact hb j (by omega)

/-- The bytes that words take with one space each. -/
def T : List ByteArray → Nat
  | [] => 0
  | w :: ws => w.size + 1 + T ws

theorem cut_T (s : ByteArray) : ∀ (l : List UInt8) (a i : Nat), s.data.toList.drop i = l → a ≤ i → i ≤ s.size → T (cut s l a i) ≤ l.length + (i - a) + 1 := by
  intro l
  induction l with
  | nil =>
    intro a i hd ha hi
    rw [cut]
    by_cases c : a < i
    · rw [if_pos c, T, T, ByteArray.size_extract]; omega
    · rw [if_neg c, T]; omega
  | cons b l ih =>
    intro a i hd ha hi
    obtain ⟨hlt, hd2, -⟩ := drop_step s i b l hd
    have h1 := ih (i + 1) (i + 1) hd2 (Nat.le_refl _) hlt
    have h2 := ih a (i + 1) hd2 (by omega) hlt
    rw [cut, List.length_cons]
    by_cases c32 : b = 32
    · rw [if_pos c32]
      by_cases c : a < i
      · rw [if_pos c, T, ByteArray.size_extract]; omega
      · rw [if_neg c]; omega
    · rw [if_neg c32]; omega

end Go.Proofs.YtojehbkadlmbjaaDoor.U

/- Stream.Next: the next number of a stream. Condition: the stream lies in its block, its numbers below it. -/
import Derived.Test.YtjgoehhhjffpmaaQf38
import Derived.Lib.Hide
namespace Go.Proofs.Ytjgoehhhjffpmaa.Q
open Go Go.RowKit Go.Proofs.YtjgoehhhjffpmaaW.PrintWords Go.Proofs.YtjgoehhhjffpmaaW.PrintLast Go.Proofs.YtjgoehhhjffpmaaW.PrintMore
set_option linter.unusedVariables false
set_option linter.unusedSimpArgs false
theorem wrapF {x : Int} (h0 : -9223372036854775808 ≤ x) (h1 : x ≤ 9223372036854775807) : wrap64 x = x := by
  unfold wrap64
  omega
/-- A stream of numbers lies in block b. -/
def Str (w : World) (b : Nat) (l : List Int) : Prop :=
  ∃ A c, w.heap[b]? = some (.cells #[.slice A l.length c] 85 (0, 0)) ∧ l.length ≤ c ∧ ReadsInt w .i64 A l.length l ∧ ∀ ad, A = some ad → 0 < l.length → ad.block ≠ b
/-- The number that Next gives. -/
def nextv (l : List Int) (n : Int) : Int := match l with
  | [] => 0
  | x :: _ => if Int.tmod x n < 0 then Int.tmod x n + n else Int.tmod x n
theorem nextv_in (l : List Int) (n : Int) (h : 1 ≤ n) : 0 ≤ nextv l n ∧ nextv l n < n := by
  cases l with
  | nil => exact ⟨Int.le_refl _, by show (0:Int) < n; omega⟩
  | cons x l =>
    have h1 : Int.tmod x n < n := Int.tmod_lt_of_pos x (by omega)
    have h2 : -n < Int.tmod x n := by
      have := Int.lt_tmod_of_pos x (b := n) (by omega); omega
    show 0 ≤ (if Int.tmod x n < 0 then Int.tmod x n + n else Int.tmod x n) ∧ (if Int.tmod x n < 0 then Int.tmod x n + n else Int.tmod x n) < n
    generalize Int.tmod x n = y at h1 h2 ⊢
    split <;> omega
/-- What a call of Next leaves: nothing but the stream's own block has changed. -/
def Kept (b : Nat) (w w' : World) : Prop := (∀ k, k ≤ b → Below k w w') ∧ KeepBut w w' b none ∧ w'.heap.size = w.heap.size
theorem Kept.refl (b : Nat) (w : World) : Kept b w w := ⟨fun _ _ => Below.refl _ _, KeepBut.refl _ _ _, rfl⟩
theorem Kept.drewN {b : Nat} {w w' : World} (h : Kept b w w') (n : Nat) : Kept b w (w'.drewN n) := ⟨fun k hk => (h.1 k hk).trans (pw_below_drewN (Below.refl _ _) n), h.2.1, h.2.2⟩
theorem below_val (l : List Int) (x n : Int) (h : 1 ≤ n) (h2 : n ≤ 1000000) : terrmake_Below.f x n = some (nextv (x :: l) n) := by
  have h1 : Int.tmod x n < n := Int.tmod_lt_of_pos x (by omega)
  have h2 : -n < Int.tmod x n := by
    have := Int.lt_tmod_of_pos x (b := n) (by omega); omega
  show _ = some (if Int.tmod x n < 0 then Int.tmod x n + n else Int.tmod x n)
  unfold terrmake_Below.f
  rw [if_neg (by omega)]
  generalize Int.tmod x n = y at h1 h2 ⊢
  split
  · rw [wrapF (by omega) (by omega)]
  · rfl
theorem str_after {w : World} {b : Nat} {cs : Array Value} {l : List Int} (A : Option Addr) (c : Nat) (hb : w.heap[b]? = some (.cells cs 85 (0, 0))) (hcs : cs.size = 1) (hc : l.length ≤ c) (hr : ReadsInt w .i64 A l.length l) (hf : ∀ ad, A = some ad → 0 < l.length → ad.block ≠ b) :
    Str (w.setCell ⟨b, 0, none⟩ (.slice A l.length c)) b l ∧ Kept b w (w.setCell ⟨b, 0, none⟩ (.slice A l.length c)) := by
  have hk : KeepBut w (w.setCell ⟨b, 0, none⟩ (.slice A l.length c)) b none := (KeepBut.refl w b none).set_ 0 _
  refine ⟨⟨A, c, ?_, hc, hr.keep hk hf, hf⟩, fun k hk' => (Below.refl k w).setCell hk' _, hk, ?_⟩
  · simp only [World.setCell, Array.getElem?_modify, if_true, hb]
    match cs, hcs with
    | ⟨[x]⟩, _ => rfl
  · simp [World.setCell]
/-- A stream of numbers lies in block b, its numbers below it. -/
def StB (w : World) (b : Nat) (l : List Int) : Prop :=
  ∃ A c, w.heap[b]? = some (.cells #[.slice A l.length c] 85 (0, 0)) ∧ l.length ≤ c ∧ ReadsInt w .i64 A l.length l ∧ ∀ ad, A = some ad → 0 < l.length → ad.block < b
theorem StB_Str {w : World} {b : Nat} {l : List Int} (h : StB w b l) : Str w b l := by
  obtain ⟨A, c, h1, h2, h3, h4⟩ := h
  exact ⟨A, c, h1, h2, h3, fun ad e hp => Nat.ne_of_lt (h4 ad e hp)⟩
theorem StB_below {w W : World} {b : Nat} {l : List Int} (h : StB w b l) (hb : Below (b + 1) w W) : StB W b l := by
  obtain ⟨A, c, h1, h2, h3, h4⟩ := h
  refine ⟨A, c, (hb.block b (by omega)).trans h1, h2, ⟨h3.1, h3.2.1, fun hn => ?_⟩, h4⟩
  obtain ⟨ad, e, hc⟩ := h3.2.2 hn
  exact ⟨ad, e, fun j hj => (hb.cell (by rw [add_block]; have := h4 ad e hn; omega)).trans (hc j hj)⟩
set_option maxHeartbeats 1000000 in
theorem stb_some (b : Nat) (x : Int) (l : List Int) (n : Int) (w : World) (hs : StB w b (x :: l)) (h : 1 ≤ n) (h2 : n ≤ 1000000) :
    Calls Try.prog 52 #[.pointer (some ⟨b, 0, none⟩), .int .i64 n] w fun e w' => e = .returned (.int .i64 (nextv (x :: l) n)) ∧ StB w' b l ∧ Kept b w w' := by
  have hB := below_val l x n h h2
  obtain ⟨A, c, hb, hc, hr, hf⟩ := hs
  obtain ⟨ad, rfl, hx⟩ := hr.2.2 (by simp)
  have hx0 := hx 0 (by simp)
  have e0 : ad.add 0 = ad := rfl
  rw [e0] at hx0
  have hx1 : w.cell? ad = some (.int .i64 x) := hx0
  have hm := hr.2.1
  have hd := hr.drop_ (c := c) 1 (by simp) hc
  have HD := Lib.hid hd
  have HF := Lib.hid hf
  have HR := Lib.hid hr
  have HB := Lib.hid hB
  have hcell : w.cell? ⟨b, 0, none⟩ = some (.slice (some ad) (l.length + 1) c) := (blk_cell hb 0).trans rfl
  have hfr := blk_frozen hb 0
  have hn1 : decide (n < 1) = false := decide_eq_false (by omega)
  have hc1 : l.length + 1 ≤ c := by simpa using hc
  have hm1 : l.length + 1 ≤ 9223372036854775807 := by simpa using hm
  have HBL := Lib.hid hb
  clear hd hf hr hB hx hx0 e0 hm hc hb
  have hl : l.length ≤ maxLen := by unfold maxLen; omega
  unfold maxLen at hl
  clear hm1
  have HC := Lib.hid hcell
  by_cases c1 : c = 1
  all_goals
    go_enter Try.func52, Try.ntmps52
    go_wp2_with (go_at_call 38; refine (terrmake_Below.calls _ _ _ _ HB.out).mono ?_; rintro e w' ⟨rfl, hb⟩)
    go_ret
    refine ⟨rfl, ?_⟩
    obtain ⟨n, rfl⟩ := hb.out
  · have hd := HD.out
    rw [if_pos c1] at hd
    obtain ⟨g1, g2⟩ := str_after (l := l) (some ad) 0 HBL.out rfl (by omega) (by simpa using hd) (fun a ha hp => Nat.ne_of_lt (HF.out a ha (by simp)))
    obtain ⟨A, c', k1, k2, k3, k4⟩ := g1
    have e : Value.slice A l.length c' = Value.slice (some ad) l.length 0 := by
      have h1 := (blk_cell k1 0).symm
      have h2 : (w.setCell ⟨b, 0, none⟩ (.slice (some ad) l.length 0)).heap[b]? = some (.cells (#[.slice (some ad) (x :: l).length c].setIfInBounds 0 (.slice (some ad) l.length 0)) 85 (0, 0)) := blk_set HBL.out 0 _
      rw [h2] at k1
      have := (Obj.cells.inj (Option.some.inj k1)).1
      simpa using this.symm
    obtain ⟨e1, -, e3⟩ := Value.slice.inj e
    subst e1 e3
    exact ⟨⟨some ad, 0, k1, k2, k3, fun a ha hp => HF.out a ha (by simp)⟩, g2.drewN _⟩
  · have hd := HD.out
    rw [if_neg c1] at hd
    obtain ⟨g1, g2⟩ := str_after (l := l) (some (ad.add 1)) (c - 1) HBL.out rfl (by omega) (by simpa using hd) (fun a ha hp => by
      obtain rfl := Option.some.inj ha
      rw [add_block]
      exact Nat.ne_of_lt (HF.out ad rfl (by simp)))
    obtain ⟨A, c', k1, k2, k3, k4⟩ := g1
    have e : Value.slice A l.length c' = Value.slice (some (ad.add 1)) l.length (c - 1) := by
      have h2 : (w.setCell ⟨b, 0, none⟩ (.slice (some (ad.add 1)) l.length (c - 1))).heap[b]? = some (.cells (#[.slice (some ad) (x :: l).length c].setIfInBounds 0 (.slice (some (ad.add 1)) l.length (c - 1))) 85 (0, 0)) := blk_set HBL.out 0 _
      rw [h2] at k1
      have := (Obj.cells.inj (Option.some.inj k1)).1
      simpa using this.symm
    obtain ⟨e1, -, e3⟩ := Value.slice.inj e
    subst e1 e3
    have ha : ({ block := ad.block, off := ad.off + 1, spot := none } : Addr) = ad.add 1 := rfl
    exact ⟨⟨some (ad.add 1), c - 1, k1, k2, k3, fun a hA hp => by
      obtain rfl := Option.some.inj hA
      rw [add_block]
      exact HF.out ad rfl (by simp)⟩, g2.drewN _⟩
/-- Stream.Next, its numbers below it. -/
theorem stb_next (b : Nat) (l : List Int) (n : Int) (w : World) (hs : StB w b l) (h : 1 ≤ n) (h2 : n ≤ 1000000) :
    Calls Try.prog 52 #[.pointer (some ⟨b, 0, none⟩), .int .i64 n] w fun e w' => e = .returned (.int .i64 (nextv l n)) ∧ StB w' b l.tail ∧ Kept b w w' := by
  cases l with
  | nil =>
    have HS := Lib.hid hs
    obtain ⟨A, c, hb, hc, hr, hf⟩ := hs
    have hcell : w.cell? ⟨b, 0, none⟩ = some (.slice A 0 c) := (blk_cell hb 0).trans rfl
    clear hb hc hr hf
    go_enter Try.func52, Try.ntmps52
    go_wp2
    go_ret
    exact ⟨rfl, HS.out, Kept.refl _ _⟩
  | cons x l => exact stb_some b x l n w hs h h2
end Go.Proofs.Ytjgoehhhjffpmaa.Q

/- The search for the best choice (branch and bound), in plain Lean: it gives the least of the best choices. No condition. -/
namespace Go.Proofs.Ytdmhnjpblpfbfaa.P
def lexlt : List Int → List Int → Prop
  | [], [] => False
  | [], _ :: _ => True
  | _ :: _, [] => False
  | a :: l, b :: m => a < b ∨ a = b ∧ lexlt l m
theorem lexlt_irrefl : ∀ l, ¬ lexlt l l
  | [], h => h
  | a :: l, h => by
    rcases h with h | ⟨_, h⟩
    · omega
    · exact lexlt_irrefl l h
theorem lexlt_append (n : List Int) (a b : List Int) : lexlt (n ++ a) (n ++ b) ↔ lexlt a b := by
  induction n with
  | nil => rfl
  | cons x n ih =>
    constructor
    · rintro (h | ⟨_, h⟩)
      · omega
      · exact ih.1 h
    · exact fun h => .inr ⟨rfl, ih.2 h⟩
theorem lexlt_tri : ∀ a b : List Int, lexlt a b ∨ a = b ∨ lexlt b a
  | [], [] => .inr (.inl rfl)
  | [], _ :: _ => .inl trivial
  | _ :: _, [] => .inr (.inr trivial)
  | x :: a, y :: b => by
    rcases Int.lt_trichotomy x y with h | h | h
    · exact .inl (.inl h)
    · subst h
      rcases lexlt_tri a b with h | h | h
      · exact .inl (.inr ⟨rfl, h⟩)
      · exact .inr (.inl (by rw [h]))
      · exact .inr (.inr (.inr ⟨rfl, h⟩))
    · exact .inr (.inr (.inl h))
/-- r is the least of the best of S, if one is better than bt; else bt. -/
def Bst (S : List Int → Prop) (v : List Int → Int) (bt r : List Int × Int) : Prop :=
  (r = bt ∧ ∀ t, S t → v t ≤ bt.2) ∨ (∃ t, S t ∧ r = (t, v t) ∧ bt.2 < v t ∧ ∀ t', S t' → v t' < v t ∨ v t' = v t ∧ ¬ lexlt t' t)
theorem Bst_comp {S1 S2 : List Int → Prop} {v : List Int → Int} {bt r1 r2 : List Int × Int} (h1 : Bst S1 v bt r1) (h2 : Bst S2 v r1 r2) (ho : ∀ a b, S1 a → S2 b → ¬ lexlt b a) : Bst (fun t => S1 t ∨ S2 t) v bt r2 := by
  rcases h1 with ⟨rfl, h1⟩ | ⟨t1, s1, rfl, g1, h1⟩
  · rcases h2 with ⟨rfl, h2⟩ | ⟨t2, s2, rfl, g2, h2⟩
    · exact .inl ⟨rfl, fun t ht => ht.elim (h1 t) (h2 t)⟩
    · refine .inr ⟨t2, .inr s2, rfl, g2, fun t ht => ?_⟩
      rcases ht with ht | ht
      · left; have := h1 t ht; omega
      · exact h2 t ht
  · rcases h2 with ⟨rfl, h2⟩ | ⟨t2, s2, rfl, g2, h2⟩
    · refine .inr ⟨t1, .inl s1, rfl, g1, fun t ht => ?_⟩
      rcases ht with ht | ht
      · exact h1 t ht
      · have h := h2 t ht
        simp only at h
        by_cases c : v t < v t1
        · exact .inl c
        · exact .inr ⟨by omega, ho _ _ s1 ht⟩
    · simp only at g2
      refine .inr ⟨t2, .inr s2, rfl, by omega, fun t ht => ?_⟩
      rcases ht with ht | ht
      · left; rcases h1 t ht with h | ⟨h, _⟩ <;> omega
      · exact h2 t ht
theorem Bst_congr {S S' : List Int → Prop} {v : List Int → Int} {bt r : List Int × Int} (h : Bst S v bt r) (e : ∀ t, S t ↔ S' t) : Bst S' v bt r := by
  rw [show S' = S from funext fun t => propext (e t).symm]; exact h
theorem Bst_none {S : List Int → Prop} {v : List Int → Int} {bt : List Int × Int} (h : ∀ t, ¬ S t) : Bst S v bt bt := .inl ⟨rfl, fun t ht => absurd ht (h t)⟩
section
variable (nb : Nat → Nat) (wg : Nat → Int) (may : List Int → Int → Bool) (rest : Nat → Int)
def wgt (n : Nat) (k : Int) : Int := if 0 ≤ k then wg n else 0
def val : Nat → List Int → Int
  | _, [] => 0
  | n, k :: t => wgt wg n k + val (n + 1) t
theorem val_append (n : Nat) (a b : List Int) : val wg n (a ++ b) = val wg n a + val wg (n + a.length) b := by
  induction a generalizing n with
  | nil => simp [val]
  | cons x a ih => rw [List.cons_append, val, val, ih, List.length_cons, show n + 1 + a.length = n + (a.length + 1) by omega]; omega
def ok : List Int → List Int → Prop
  | _, [] => True
  | now, k :: t => (-1 ≤ k ∧ k < (nb now.length : Int) ∧ may now k = true) ∧ ok (now ++ [k]) t
def loop (st : Int → List Int × Int → List Int × Int) : Nat → Int → List Int × Int → List Int × Int
  | 0, _, bt => bt
  | m + 1, k, bt => loop st m (k + 1) (st k bt)
def srch : Nat → List Int → Int → List Int × Int → List Int × Int
  | 0, now, worth, bt => if worth > bt.2 then (now, worth) else bt
  | d + 1, now, worth, bt => if worth + rest now.length ≤ bt.2 then bt else
      loop (fun k bt => if may now k = true then srch d (now ++ [k]) (worth + wgt wg now.length k) bt else bt) (nb now.length + 1) (-1) bt
/-- The completions of now by d labels. -/
def Cmp (d : Nat) (now p : List Int) : Prop := ∃ t, p = now ++ t ∧ t.length = d ∧ ok nb may now t
theorem loop_best (st : Int → List Int × Int → List Int × Int) (S : Int → List Int → Prop) (v : List Int → Int) (hs : ∀ k bt, Bst (S k) v bt (st k bt)) (ho : ∀ k j a b, k < j → S k a → S j b → ¬ lexlt b a) :
    ∀ (m : Nat) (k : Int) (bt : List Int × Int), Bst (fun p => ∃ j, k ≤ j ∧ j < k + m ∧ S j p) v bt (loop st m k bt)
  | 0, k, bt => Bst_none fun t ⟨j, h1, h2, _⟩ => by omega
  | m + 1, k, bt => by
    rw [loop]
    refine Bst_congr (Bst_comp (hs k bt) (loop_best st S v hs ho m (k + 1) (st k bt)) ?_) fun t => ?_
    · rintro a b ha ⟨j, h1, h2, hb⟩
      exact ho k j a b (by omega) ha hb
    · constructor
      · rintro (h | ⟨j, h1, h2, h⟩)
        · exact ⟨k, by omega, by omega, h⟩
        · exact ⟨j, by omega, by omega, h⟩
      · rintro ⟨j, h1, h2, h⟩
        by_cases c : j = k
        · subst c; exact .inl h
        · exact .inr ⟨j, by omega, by omega, h⟩
/-- The sum of the weights of d labels from the n-th on. -/
def sums : Nat → Nat → Int
  | 0, _ => 0
  | d + 1, n => wg n + sums d (n + 1)
theorem val_le (hw : ∀ n, 0 ≤ wg n) : ∀ (t : List Int) (n : Nat), val wg n t ≤ sums wg t.length n ∧ 0 ≤ val wg n t
  | [], n => ⟨Int.le_refl _, Int.le_refl _⟩
  | k :: t, n => by
    have h := val_le hw t (n + 1)
    have h0 := hw n
    rw [val, List.length_cons, sums, wgt]
    split <;> omega
theorem srch_best (hw : ∀ n, 0 ≤ wg n) (N : Nat) (hr : ∀ d n, n + d = N → rest n = sums wg d n) : ∀ (d : Nat) (now : List Int) (bt : List Int × Int), now.length + d = N →
    Bst (Cmp nb may d now) (val wg 0) bt (srch nb wg may rest d now (val wg 0 now) bt)
  | 0, now, bt, hN => by
    rw [srch]
    have e : ∀ p, Cmp nb may 0 now p → p = now := by
      rintro p ⟨t, rfl, ht, _⟩
      rw [List.length_eq_zero_iff.1 ht, List.append_nil]
    by_cases c : val wg 0 now > bt.2
    · rw [if_pos c]
      refine .inr ⟨now, ⟨[], (List.append_nil _).symm, rfl, trivial⟩, rfl, c, fun p hp => ?_⟩
      rw [e p hp]
      exact .inr ⟨rfl, lexlt_irrefl _⟩
    · rw [if_neg c]
      refine .inl ⟨rfl, fun p hp => ?_⟩
      rw [e p hp]; omega
  | d + 1, now, bt, hN => by
    rw [srch]
    by_cases c : val wg 0 now + rest now.length ≤ bt.2
    · rw [if_pos c]
      refine .inl ⟨rfl, ?_⟩
      rintro p ⟨t, rfl, ht, _⟩
      rw [val_append, Nat.zero_add]
      have h := (val_le wg hw t now.length).1
      rw [ht, ← hr (d + 1) now.length hN] at h
      omega
    · rw [if_neg c]
      refine Bst_congr (loop_best _ (fun k p => may now k = true ∧ Cmp nb may d (now ++ [k]) p) _ ?_ ?_ _ _ _) ?_
      · intro k bt
        by_cases hm : may now k = true
        · rw [if_pos hm]
          have h := srch_best hw N hr d (now ++ [k]) bt (by rw [List.length_append, List.length_singleton]; omega)
          have ev : val wg 0 (now ++ [k]) = val wg 0 now + wgt wg now.length k := by rw [val_append, Nat.zero_add, val, val, Int.add_zero]
          rw [ev] at h
          exact Bst_congr h fun t => ⟨fun q => ⟨hm, q⟩, fun q => q.2⟩
        · rw [if_neg hm]
          exact Bst_none fun t q => hm q.1
      · rintro k j a b hkj ⟨_, t, rfl, ht, _⟩ ⟨_, s, rfl, hs, _⟩
        rw [List.append_assoc, List.append_assoc, lexlt_append]
        rintro (q | ⟨q, _⟩) <;> omega
      · intro p
        constructor
        · rintro ⟨j, h1, h2, hm, t, rfl, ht, hk⟩
          exact ⟨j :: t, by rw [List.append_assoc]; rfl, by rw [List.length_cons, ht], ⟨h1, by omega, hm⟩, hk⟩
        · rintro ⟨t, rfl, ht, hk⟩
          cases t with
          | nil => cases ht
          | cons j t =>
            obtain ⟨⟨h1, h2, hm⟩, hk⟩ := hk
            exact ⟨j, h1, by omega, hm, t, by rw [List.append_assoc]; rfl, by simpa using ht, hk⟩
end
/-! ### which is the best -/
theorem Bst_uniq {S : List Int → Prop} {v : List Int → Int} {bt r1 r2 : List Int × Int} (h1 : Bst S v bt r1) (h2 : Bst S v bt r2) : r1 = r2 := by
  rcases h1 with ⟨rfl, h1⟩ | ⟨t1, s1, rfl, g1, h1⟩
  · rcases h2 with ⟨rfl, h2⟩ | ⟨t2, s2, rfl, g2, h2⟩
    · rfl
    · have := h1 t2 s2; omega
  · rcases h2 with ⟨rfl, h2⟩ | ⟨t2, s2, rfl, g2, h2⟩
    · have := h2 t1 s1; omega
    · rcases h1 t2 s2 with q | ⟨q1, q2⟩
      · rcases h2 t1 s1 with p | ⟨p1, p2⟩ <;> omega
      · rcases h2 t1 s1 with p | ⟨p1, p2⟩
        · omega
        · rcases lexlt_tri t1 t2 with e | e | e
          · exact absurd e p2
          · rw [e]
          · exact absurd e q2
/-- The impossible choices, worth -1, do not matter. -/
theorem Bst_less {S S' : List Int → Prop} {v v' : List Int → Int} {l : List Int} {r : List Int × Int} (h : Bst S' v' (l, -1) r) (hs : ∀ p, S p → S' p ∧ v' p = v p) (hn : ∀ p, S' p → ¬ S p → v' p = -1) : Bst S v (l, -1) r := by
  rcases h with ⟨rfl, h⟩ | ⟨t, s, rfl, g, h⟩
  · exact .inl ⟨rfl, fun p hp => by rw [← (hs p hp).2]; exact h p (hs p hp).1⟩
  · have st : S t := Classical.byContradiction fun c => by have := hn t s c; simp only at g; omega
    refine .inr ⟨t, st, by rw [(hs t st).2], by rw [← (hs t st).2]; exact g, fun p hp => ?_⟩
    rw [← (hs p hp).2, ← (hs t st).2]
    exact h p (hs p hp).1
theorem Bst_one {S : List Int → Prop} {v : List Int → Int} {bt : List Int × Int} {p : List Int} (e : ∀ q, S q ↔ q = p) : Bst S v bt (if v p > bt.2 then (p, v p) else bt) := by
  by_cases c : v p > bt.2
  · rw [if_pos c]
    exact .inr ⟨p, (e p).2 rfl, rfl, c, fun q hq => by rw [(e q).1 hq]; exact .inr ⟨rfl, lexlt_irrefl _⟩⟩
  · rw [if_neg c]
    exact .inl ⟨rfl, fun q hq => by rw [(e q).1 hq]; omega⟩
/-! ### one list after the other -/
section
variable (nb : Nat → Nat)
def Rng : Nat → List Int → Prop
  | _, [] => True
  | i, k :: t => (-1 ≤ k ∧ k < (nb i : Int)) ∧ Rng (i + 1) t
def nxt : Nat → List Int → Option (List Int)
  | _, [] => none
  | i, x :: xs => match nxt (i + 1) xs with
    | some ys => some (x :: ys)
    | none => if x + 1 < (nb i : Int) then some ((x + 1) :: List.replicate xs.length (-1)) else none
theorem rng_reps : ∀ (m i : Nat), Rng nb i (List.replicate m (-1))
  | 0, _ => trivial
  | m + 1, i => ⟨⟨by omega, by omega⟩, rng_reps m (i + 1)⟩
theorem not_lt_reps : ∀ (q : List Int) (i : Nat), Rng nb i q → ¬ lexlt q (List.replicate q.length (-1))
  | [], _, _, h => h
  | a :: q, i, hr, h => by
    rcases h with h | ⟨_, h⟩
    · have := hr.1.1; omega
    · exact not_lt_reps q (i + 1) hr.2 h
theorem nxt_none : ∀ (xs : List Int) (i : Nat), Rng nb i xs → nxt nb i xs = none → ∀ p, Rng nb i p → p.length = xs.length → ¬ lexlt xs p
  | [], _, _, _, p, _, hl, h => by rw [List.length_eq_zero_iff.1 hl] at h; exact h
  | x :: xs, i, hr, hn, p, hp, hl, h => by
    match p, hp, hl, h with
    | a :: q, hp, hl, h =>
      rw [nxt] at hn
      cases e : nxt nb (i + 1) xs with
      | some ys => rw [e] at hn; simp at hn
      | none =>
        rw [e] at hn
        simp only at hn
        by_cases c : x + 1 < (nb i : Int)
        · rw [if_pos c] at hn; simp at hn
        · rcases h with h | ⟨_, h⟩
          · have := hp.1.2; omega
          · exact nxt_none xs (i + 1) hr.2 e q hp.2 (by simpa using hl) h
theorem nxt_some : ∀ (xs ys : List Int) (i : Nat), Rng nb i xs → nxt nb i xs = some ys → Rng nb i ys ∧ ys.length = xs.length ∧ ∀ p, Rng nb i p → p.length = xs.length → (lexlt p ys ↔ lexlt p xs ∨ p = xs)
  | [], _, _, _, hn => by simp [nxt] at hn
  | x :: xs, ys, i, hr, hn => by
    rw [nxt] at hn
    cases e : nxt nb (i + 1) xs with
    | some zs =>
      rw [e] at hn
      simp only [Option.some.injEq] at hn
      subst hn
      obtain ⟨h1, h2, h3⟩ := nxt_some xs zs (i + 1) hr.2 e
      refine ⟨⟨hr.1, h1⟩, by simp [h2], fun p hp hl => ?_⟩
      match p, hp, hl with
      | a :: q, hp, hl =>
        have := h3 q hp.2 (by simpa using hl)
        simp only [lexlt, List.cons.injEq]
        rw [this]
        constructor
        · rintro (h | ⟨h, h' | h'⟩)
          · exact .inl (.inl h)
          · exact .inl (.inr ⟨h, h'⟩)
          · exact .inr ⟨h, h'⟩
        · rintro ((h | ⟨h, h'⟩) | ⟨h, h'⟩)
          · exact .inl h
          · exact .inr ⟨h, .inl h'⟩
          · exact .inr ⟨h, .inr h'⟩
    | none =>
      rw [e] at hn
      simp only at hn
      by_cases c : x + 1 < (nb i : Int)
      · rw [if_pos c, Option.some.injEq] at hn
        subst hn
        refine ⟨⟨⟨by have := hr.1.1; omega, c⟩, rng_reps nb _ _⟩, by simp, fun p hp hl => ?_⟩
        match p, hp, hl with
        | a :: q, hp, hl =>
          have hq : q.length = xs.length := by simpa using hl
          have h1 := not_lt_reps nb q (i + 1) hp.2
          rw [hq] at h1
          have h2 := nxt_none nb xs (i + 1) hr.2 e q hp.2 hq
          simp only [lexlt, List.cons.injEq]
          constructor
          · rintro (h | ⟨_, h⟩)
            · by_cases ca : a = x
              · rcases lexlt_tri q xs with t | t | t
                · exact .inl (.inr ⟨ca, t⟩)
                · exact .inr ⟨ca, t⟩
                · exact absurd t h2
              · exact .inl (.inl (by omega))
            · exact absurd h h1
          · rintro ((h | ⟨h, _⟩) | ⟨h, _⟩) <;> exact .inl (by omega)
      · rw [if_neg c] at hn; simp at hn
/-- How far a list is from the last one. -/
def rk (B : Nat) : Nat → List Int → Nat
  | _, [] => 0
  | i, x :: xs => ((nb i : Int) - 1 - x).toNat * B ^ xs.length + rk B (i + 1) xs
theorem rk_lt (B : Nat) (hB : ∀ i, nb i < B) : ∀ (xs : List Int) (i : Nat), Rng nb i xs → rk nb B i xs < B ^ xs.length
  | [], _, _ => by simp [rk]
  | x :: xs, i, hr => by
    have h := rk_lt B hB xs (i + 1) hr.2
    have hd : ((nb i : Int) - 1 - x).toNat + 1 ≤ B := by have := hr.1.1; have := hB i; omega
    have := Nat.mul_le_mul_right (B ^ xs.length) hd
    rw [Nat.add_mul, Nat.one_mul] at this
    rw [rk, List.length_cons, Nat.pow_succ, Nat.mul_comm (B ^ xs.length) B]
    omega
theorem nxt_rk (B : Nat) (hB : ∀ i, nb i < B) : ∀ (xs ys : List Int) (i : Nat), Rng nb i xs → nxt nb i xs = some ys → rk nb B i ys < rk nb B i xs
  | [], _, _, _, hn => by simp [nxt] at hn
  | x :: xs, ys, i, hr, hn => by
    rw [nxt] at hn
    cases e : nxt nb (i + 1) xs with
    | some zs =>
      rw [e] at hn
      simp only [Option.some.injEq] at hn
      subst hn
      have h := nxt_rk B hB xs zs (i + 1) hr.2 e
      rw [rk, rk, (nxt_some nb xs zs (i + 1) hr.2 e).2.1]
      omega
    | none =>
      rw [e] at hn
      simp only at hn
      by_cases c : x + 1 < (nb i : Int)
      · rw [if_pos c, Option.some.injEq] at hn
        subst hn
        have h := rk_lt nb B hB _ (i + 1) (rng_reps nb xs.length (i + 1))
        rw [List.length_replicate] at h
        rw [rk, rk, List.length_replicate, show ((nb i : Int) - 1 - x).toNat = ((nb i : Int) - 1 - (x + 1)).toNat + 1 by omega, Nat.add_mul, Nat.one_mul]
        omega
      · rw [if_neg c] at hn; simp at hn
/-- All from the i-th on are the greatest. -/
def Full : Nat → List Int → Prop
  | _, [] => True
  | i, x :: xs => x = (nb i : Int) - 1 ∧ Full (i + 1) xs
theorem full_none : ∀ (xs : List Int) (i : Nat), Full nb i xs → nxt nb i xs = none
  | [], _, _ => rfl
  | x :: xs, i, h => by rw [nxt, full_none xs (i + 1) h.2]; simp only; rw [if_neg (by have := h.1; omega)]
theorem nxt_at : ∀ (a : List Int) (x : Int) (b : List Int) (i : Nat), Full nb (i + a.length + 1) b → x + 1 < (nb (i + a.length) : Int) → nxt nb i (a ++ x :: b) = some (a ++ (x + 1) :: List.replicate b.length (-1))
  | [], x, b, i, hb, hx => by rw [List.nil_append, nxt, full_none nb b (i + 1) hb]; simp only [List.nil_append]; exact if_pos hx
  | y :: a, x, b, i, hb, hx => by
    have e : i + (y :: a).length = i + 1 + a.length := by rw [List.length_cons]; omega
    rw [List.cons_append, nxt, nxt_at a x b (i + 1) (by rw [← e]; exact hb) (by rw [← e]; exact hx)]
    rfl
end
end Go.Proofs.Ytdmhnjpblpfbfaa.P

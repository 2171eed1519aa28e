/- Small lemmas for the pure statements: rounds, whole numbers that do not wrap, and the loops that every law has (equal, marked, held, copied). -/
import Derived.Test.YtbjdhmgednhdgaaXWords
namespace Go.Proofs.YtbjdhmgednhdgaaW.PrintWords
/-! ### from some round on -/
section
variable {α β : Type} {g f f' : Nat → Option α} {r r' : α}
theorem Ev.mk (h : ∀ k, g k = some r) : Ev g r := ⟨0, fun k _ => h k⟩
theorem Ev.pos {c : Prop} [Decidable c] (h : c) (k : Ev f r) : Ev (fun n => if c then f n else f' n) r := Ev.congr (fun _ => if_pos h) k
theorem Ev.neg {c : Prop} [Decidable c] (h : ¬ c) (k : Ev f' r) : Ev (fun n => if c then f n else f' n) r := Ev.congr (fun _ => if_neg h) k
theorem Ev.ite {c : Prop} [Decidable c] (h : c → Ev f r) (h' : ¬ c → Ev f' r) : Ev (fun n => if c then f n else f' n) r := by
  by_cases hc : c
  · exact Ev.pos hc (h hc)
  · exact Ev.neg hc (h' hc)
theorem Ev.cast (h : Ev g r) (e : r = r') : Ev g r' := e ▸ h
theorem Ev.some_bind {h : Nat → α → Option β} {a : α} {r : β} (k : Ev (fun n => h n a) r) : Ev (fun n => (some a).bind (h n)) r := k
theorem Ev.const_bind {o : Option α} {h : Nat → α → Option β} {a : α} {r : β} (e : o = some a) (k : Ev (fun n => h n a) r) : Ev (fun n => o.bind (h n)) r := by
  subst e; exact k
end
theorem Ev.and {f : Nat → Option Bool} {r b : Bool} (h : b = true → Ev f r) : Ev (fun k => if b = true then f k else some false) (b && r) := by
  cases b with
  | true => exact Ev.pos rfl (h rfl)
  | false => exact Ev.neg (by decide) (Ev.now _)
/-- Two that come to one and the same answer, of which Q holds. -/
def Both {α : Type} (Q : α → Prop) (f g : Nat → Option α) : Prop := ∃ r, Q r ∧ Ev f r ∧ Ev g r
section
variable {α β : Type} {Q : α → Prop} {f g f' g' : Nat → Option α}
theorem Both.now (r : α) (h : Q r) : Both Q (fun _ => some r) (fun _ => some r) := ⟨r, h, Ev.now r, Ev.now r⟩
theorem Both.ite {c : Prop} [Decidable c] (h : c → Both Q f g) (h' : ¬ c → Both Q f' g') : Both Q (fun k => if c then f k else f' k) (fun k => if c then g k else g' k) := by
  by_cases hc : c
  · obtain ⟨r, q, h1, h2⟩ := h hc; exact ⟨r, q, Ev.pos hc h1, Ev.pos hc h2⟩
  · obtain ⟨r, q, h1, h2⟩ := h' hc; exact ⟨r, q, Ev.neg hc h1, Ev.neg hc h2⟩
theorem Both.pos {c d : Prop} [Decidable c] [Decidable d] (hc : c) (hd : d) (h : Both Q f g) : Both Q (fun k => if c then f k else f' k) (fun k => if d then g k else g' k) := by
  obtain ⟨r, q, h1, h2⟩ := h; exact ⟨r, q, Ev.pos hc h1, Ev.pos hd h2⟩
theorem Both.neg {c d : Prop} [Decidable c] [Decidable d] (hc : ¬ c) (hd : ¬ d) (h : Both Q f' g') : Both Q (fun k => if c then f k else f' k) (fun k => if d then g k else g' k) := by
  obtain ⟨r, q, h1, h2⟩ := h; exact ⟨r, q, Ev.neg hc h1, Ev.neg hd h2⟩
theorem Both.step (h : ∀ k, f (k + 1) = f' k) (h' : ∀ k, g (k + 1) = g' k) (b : Both Q f' g') : Both Q f g := by
  obtain ⟨r, q, h1, h2⟩ := b; exact ⟨r, q, Ev.step h h1, Ev.step h' h2⟩
theorem Both.bind {P : β → Prop} {u v : Nat → Option β} {F G : Nat → β → Option α} (h : Both P u v) (k : ∀ b, P b → Both Q (fun n => F n b) (fun n => G n b)) : Both Q (fun n => (u n).bind (F n)) (fun n => (v n).bind (G n)) := by
  obtain ⟨b, p, h1, h2⟩ := h
  obtain ⟨r, q, k1, k2⟩ := k b p
  exact ⟨r, q, Ev.bind h1 k1, Ev.bind h2 k2⟩
end
/-- One that comes to an answer of which Q holds. -/
def Yes {α : Type} (Q : α → Prop) (f : Nat → Option α) : Prop := ∃ r, Q r ∧ Ev f r
section
variable {α β : Type} {Q : α → Prop} {f f' : Nat → Option α}
theorem Yes.now (r : α) (h : Q r) : Yes Q (fun _ => some r) := ⟨r, h, Ev.now r⟩
theorem Yes.step (h : ∀ k, f (k + 1) = f' k) (b : Yes Q f') : Yes Q f := by
  obtain ⟨r, q, e⟩ := b; exact ⟨r, q, Ev.step h e⟩
theorem Yes.pos {c : Prop} [Decidable c] (hc : c) (b : Yes Q f) : Yes Q (fun k => if c then f k else f' k) := by
  obtain ⟨r, q, e⟩ := b; exact ⟨r, q, Ev.pos hc e⟩
theorem Yes.neg {c : Prop} [Decidable c] (hc : ¬ c) (b : Yes Q f') : Yes Q (fun k => if c then f k else f' k) := by
  obtain ⟨r, q, e⟩ := b; exact ⟨r, q, Ev.neg hc e⟩
theorem Yes.ite {c : Prop} [Decidable c] (h : c → Yes Q f) (h' : ¬ c → Yes Q f') : Yes Q (fun k => if c then f k else f' k) := by
  by_cases hc : c
  · exact Yes.pos hc (h hc)
  · exact Yes.neg hc (h' hc)
theorem Yes.bind {u : Nat → Option β} {b : β} {F : Nat → β → Option α} (h : Ev u b) (k : Yes Q (fun n => F n b)) : Yes Q (fun n => (u n).bind (F n)) := by
  obtain ⟨r, q, e⟩ := k; exact ⟨r, q, Ev.bind h e⟩
end
end Go.Proofs.YtbjdhmgednhdgaaW.PrintWords
namespace Go.Proofs.Ytbjdhmgednhdgaa.X
open Go.RowKit Go.Proofs.YtbjdhmgednhdgaaW.PrintWords

theorem w64 {n : Int} (h0 : -9223372036854775808 ≤ n) (h1 : n ≤ 9223372036854775807) : wrap64 n = n := by
  unfold wrap64
  omega
theorem w_succ {i : Nat} (h : i < 9223372036854775807) : wrap64 ((i : Int) + 1) = ((i + 1 : Nat) : Int) := by
  rw [w64 (by omega) (by omega)]
  omega
theorem maxLen_eq : maxLen = 9223372036854775807 := rfl
/-- What is left of the room. -/
def roomLeft (n : Nat) (a : Int) : Int := if (n : Int) ≤ a then a - n else -1
theorem roomLeft_ok {n : Nat} {a : Int} (h : ¬ roomLeft n a < 0) : (n : Int) ≤ a ∧ roomLeft n a = a - n := by
  unfold roomLeft at h ⊢
  by_cases hc : (n : Int) ≤ a
  · rw [if_pos hc]; exact ⟨hc, rfl⟩
  · rw [if_neg hc] at h; omega
theorem sz_left {n : Nat} {a : Int} (h0 : 0 ≤ a) (h1 : a ≤ 1048576) (hn : n ≤ maxLen) : (if wrap64 (a - (n : Int)) < 0 then some (-1) else some (wrap64 (a - (n : Int)))) = some (roomLeft n a) := by
  rw [maxLen_eq] at hn
  rw [w64 (by omega) (by omega)]
  unfold roomLeft
  by_cases hc : (n : Int) ≤ a
  · rw [if_neg (by omega), if_pos hc]
  · rw [if_pos (by omega), if_neg hc]
/-! ### lists by whole numbers -/
theorem rd_get {xs : List Int} {i : Nat} (h : i < xs.length) : rd xs (i : Int) = xs[i] := by
  unfold rd
  rw [Int.toNat_natCast, List.getD_eq_getElem?_getD, List.getElem?_eq_getElem h]
  rfl
theorem rdOf_get {α : Type} {d : α} {xs : List α} {i : Nat} (h : i < xs.length) : rdOf d xs (i : Int) = xs[i] := by
  unfold rdOf
  rw [Int.toNat_natCast, List.getD_eq_getElem?_getD, List.getElem?_eq_getElem h]
  rfl
/-! ### equal lists are told as equal; what was marked is held -/
/-- The list of k, k + 1, .. -/
def marks : Nat → Int → List Int
  | 0, _ => []
  | n + 1, k => k :: marks n (k + 1)
/-- A loop that writes every element: 'put k' is what is written by the mark k. -/
theorem mark_loop {α : Type} (T : Nat → Int → Option α) (put : Int → α) (F : Nat → List α → Int → Int → Option (Int × List α))
    (hF : ∀ k x c i, F (k + 1) x c i = if i < (x.length : Int) then ((T k c).bind fun t => if 0 ≤ i then F k (x.set (i : Int).toNat t) (wrap64 (c + 1)) (wrap64 (i + 1)) else none) else some (c, x))
    (hT : ∀ c, 1 ≤ c → c ≤ 4611686018427387904 → Ev (fun k => T k c) (put c)) (c0 : Int) (h0 : 1 ≤ c0) :
    ∀ (m i : Nat) (xs : List α), i + m = xs.length → c0 + xs.length ≤ 4611686018427387904 →
      Ev (fun k => F k xs (c0 + i) (i : Int)) (c0 + xs.length, xs.take i ++ (marks m (c0 + i)).map put) := by
  intro m
  induction m with
  | zero =>
    intro i xs hi hb
    refine Ev.step (fun k => hF k _ _ _) (Ev.neg (by omega) ((Ev.now _).cast ?_))
    have : i = xs.length := by omega
    subst this
    simp [marks]
  | succ m ih =>
    intro i xs hi hb
    refine Ev.step (fun k => hF k _ _ _) (Ev.pos (by omega) (Ev.bind (hT (c0 + i) (by omega) (by omega)) (Ev.pos (by omega) ?_)))
    rw [w64 (n := (i : Int) + 1) (by omega) (by omega), w64 (n := c0 + i + 1) (by omega) (by omega), Int.toNat_natCast]
    have h := ih (i + 1) (xs.set i (put (c0 + i))) (by simp; omega) (by simp; omega)
    rw [List.length_set] at h
    refine Ev.cast (by rw [show c0 + (i : Int) + 1 = c0 + ((i + 1 : Nat) : Int) from by omega]; exact h) ?_
    rw [List.take_succ_eq_append_getElem (by simp; omega), List.getElem_set_self, List.take_set_of_le (by omega), marks, List.map_cons, List.append_assoc, List.singleton_append]
    rw [show c0 + (i : Int) + 1 = c0 + ((i + 1 : Nat) : Int) from by omega]
theorem mark_ev {α : Type} (T : Nat → Int → Option α) (put : Int → α) (F : Nat → List α → Int → Int → Option (Int × List α))
    (hF : ∀ k x c i, F (k + 1) x c i = if i < (x.length : Int) then ((T k c).bind fun t => if 0 ≤ i then F k (x.set (i : Int).toNat t) (wrap64 (c + 1)) (wrap64 (i + 1)) else none) else some (c, x))
    (hT : ∀ c, 1 ≤ c → c ≤ 4611686018427387904 → Ev (fun k => T k c) (put c)) (c0 : Int) (h0 : 1 ≤ c0) (xs : List α) (hb : c0 + xs.length ≤ 4611686018427387904) :
    Ev (fun k => F k xs c0 0) (c0 + xs.length, (marks xs.length c0).map put) := by
  have h := mark_loop T put F hF hT c0 h0 xs.length 0 xs (by omega) hb
  simpa using h
/-! ### a list copied, element by element; equal lists of structs -/
theorem toS_ev {α β : Type} (z : β) (f : α → β) (d : α) (F : Nat → List α → List β → Int → Option (List β))
    (hF : ∀ k x y i, F (k + 1) x y i = if i < (x.length : Int) then (if 0 ≤ i then (if i < (y.length : Int) then F k x (y.set (i : Int).toNat (f (rdOf d x i))) (wrap64 (i + 1)) else none) else none) else some y)
    (xs : List α) (hl : xs.length ≤ 9223372036854775806) : Ev (fun k => F k xs (List.replicate (xs.length : Int).toNat z) 0) (xs.map f) := by
  have key : ∀ (m i : Nat), i + m = xs.length → Ev (fun k => F k xs ((xs.map f).take i ++ List.replicate m z) (i : Int)) (xs.map f) := by
    intro m
    induction m with
    | zero =>
      intro i hi
      refine Ev.step (fun k => hF k _ _ _) (Ev.neg (by omega) (Ev.cast (Ev.now _) ?_))
      rw [List.replicate_zero, List.append_nil, List.take_of_length_le (by rw [List.length_map]; omega)]
    | succ m ih =>
      intro i hi
      have hi' : i < xs.length := by omega
      refine Ev.step (fun k => hF k _ _ _) (Ev.pos (by omega) (Ev.pos (by omega) (Ev.pos (by simp; omega) ?_)))
      rw [w64 (by omega) (by omega), Int.toNat_natCast, rdOf_get hi']
      have e : ((xs.map f).take i ++ List.replicate (m + 1) z).set i (f xs[i]) = (xs.map f).take (i + 1) ++ List.replicate m z := by
        have hl2 : ((xs.map f).take i).length = i := by rw [List.length_take, List.length_map]; omega
        rw [List.take_succ_eq_append_getElem (by rw [List.length_map]; omega), List.set_append_right _ _ (by omega), List.append_assoc, hl2, Nat.sub_self, List.replicate_succ, List.set_cons_zero, List.getElem_map]
        rfl
      rw [e]
      exact ih (i + 1) (by omega)
  have h := key xs.length 0 (by omega)
  simpa using h
/-! ### slices.IndexFunc, slices.ContainsFunc -/
def idxP {α : Type} (p : α → Bool) : List α → Int
  | [] => -1
  | x :: xs => if p x then 0 else (if idxP p xs < 0 then -1 else idxP p xs + 1)
theorem idxP_range {α : Type} (p : α → Bool) : ∀ xs : List α, -1 ≤ idxP p xs ∧ idxP p xs < xs.length
  | [] => by simp [idxP]
  | x :: xs => by
    have := idxP_range p xs
    simp only [idxP, List.length_cons]
    split
    · omega
    · split <;> omega
theorem idxP_any {α : Type} (p : α → Bool) : ∀ xs : List α, decide (idxP p xs ≥ 0) = xs.any p
  | [] => by simp [idxP]
  | x :: xs => by
    have h := idxP_any p xs
    have hr := idxP_range p xs
    rw [List.any_cons, ← h, idxP]
    by_cases hp : p x = true
    · rw [if_pos hp, hp]; rfl
    · rw [if_neg hp, Bool.eq_false_iff.2 hp, Bool.false_or]
      by_cases hn : idxP p xs < 0
      · rw [if_pos hn, decide_eq_false (by omega), decide_eq_false (by omega)]
      · rw [if_neg hn, decide_eq_true (by omega), decide_eq_true (by omega)]
theorem index_ev {α : Type} (d : α) (T : Nat → α → Option Bool) (p : α → Bool) (F : Nat → List α → Int → Int → Option Int)
    (hF : ∀ k x n i, F (k + 1) x n i = if i < n then (if 0 ≤ i then (if i < (x.length : Int) then ((T k (rdOf d x i)).bind fun t => if t = true then some i else F k x n (wrap64 (i + 1))) else none) else none) else some (-1))
    (xs : List α) (hl : xs.length ≤ maxLen) (hT : ∀ z ∈ xs, Ev (fun k => T k z) (p z)) : Ev (fun k => F k xs (xs.length : Int) 0) (idxP p xs) := by
  rw [maxLen_eq] at hl
  have key : ∀ (m i : Nat), i + m = xs.length → Ev (fun k => F k xs (xs.length : Int) (i : Int)) (if idxP p (xs.drop i) < 0 then -1 else idxP p (xs.drop i) + i) := by
    intro m
    induction m with
    | zero =>
      intro i hi
      refine Ev.step (fun k => hF k _ _ _) (Ev.neg (by omega) (Ev.cast (Ev.now _) ?_))
      rw [List.drop_of_length_le (by omega)]
      rfl
    | succ m ih =>
      intro i hi
      have hi' : i < xs.length := by omega
      refine Ev.step (fun k => hF k _ _ _) (Ev.pos (by omega) (Ev.pos (by omega) (Ev.pos (by omega) (Ev.bind (hT (rdOf d xs i) (by rw [rdOf_get hi']; exact List.getElem_mem _)) ?_))))
      rw [List.drop_eq_getElem_cons hi', rdOf_get hi', idxP]
      have hr := idxP_range p (xs.drop (i + 1))
      cases hp : p xs[i] with
      | true => exact Ev.pos rfl (Ev.cast (Ev.now _) (by simp))
      | false =>
        refine Ev.neg (by decide) ?_
        rw [w64 (by omega) (by omega)]
        refine Ev.cast (ih (i + 1) (by omega)) ?_
        simp only [Bool.false_eq_true, if_false]
        by_cases hn : idxP p (xs.drop (i + 1)) < 0
        · simp [hn]
        · rw [if_neg hn, if_neg hn, if_neg (by omega)]; omega
  have h := key xs.length 0 (by omega)
  have hr := idxP_range p xs
  refine Ev.cast h ?_
  rw [List.drop_zero]
  by_cases hn : idxP p xs < 0
  · rw [if_pos hn]; omega
  · rw [if_neg hn]; omega
theorem contains_ev {α : Type} (d : α) (T : Nat → α → Option Bool) (p : α → Bool) (F : Nat → List α → Int → Int → Option Int)
    (hF : ∀ k x n i, F (k + 1) x n i = if i < n then (if 0 ≤ i then (if i < (x.length : Int) then ((T k (rdOf d x i)).bind fun t => if t = true then some i else F k x n (wrap64 (i + 1))) else none) else none) else some (-1))
    (xs : List α) (hl : xs.length ≤ maxLen) (hT : ∀ z ∈ xs, Ev (fun k => T k z) (p z)) : Ev (fun k => (F k xs (xs.length : Int) 0).bind fun t => some (decide (t ≥ 0))) (xs.any p) :=
  Ev.bind (index_ev d T p F hF xs hl hT) (Ev.cast (Ev.now _) (idxP_any p xs))
theorem any_not {α : Type} (p : α → Bool) : ∀ xs : List α, (!(xs.any fun z => !p z)) = xs.all p
  | [] => rfl
  | x :: xs => by rw [List.any_cons, List.all_cons, Bool.not_or, Bool.not_not, any_not p xs]
/-- A loop over a list that checks each element and folds it in. -/
theorem fold_ev {α σ β : Type} (d : α) (p : α → Bool) (g : σ → α → σ) (bad : β) (E : Nat → σ → Option β) (F : Nat → σ → List α → Int → Int → Option β)
    (hF : ∀ k s x n i, F (k + 1) s x n i = if i < n then (if 0 ≤ i then (if i < (x.length : Int) then (if p (rdOf d x i) = true then F k (g s (rdOf d x i)) x n (wrap64 (i + 1)) else some bad) else none) else none) else E k s)
    (xs : List α) (hl : xs.length ≤ maxLen) (s : σ) (r : β) (hE : xs.all p = true → Ev (fun k => E k (xs.foldl g s)) r) (hb : xs.all p = false → r = bad) : Ev (fun k => F k s xs (xs.length : Int) 0) r := by
  rw [maxLen_eq] at hl
  have key : ∀ (m i : Nat) (s : σ), i + m = xs.length → ((xs.drop i).all p = true → Ev (fun k => E k ((xs.drop i).foldl g s)) r) → ((xs.drop i).all p = false → r = bad) → Ev (fun k => F k s xs (xs.length : Int) (i : Int)) r := by
    intro m
    induction m with
    | zero =>
      intro i s hi h1 _
      rw [List.drop_of_length_le (by omega)] at h1
      exact Ev.step (fun k => hF k _ _ _ _) (Ev.neg (by omega) (h1 rfl))
    | succ m ih =>
      intro i s hi h1 h2
      have hi' : i < xs.length := by omega
      rw [List.drop_eq_getElem_cons hi', List.all_cons, List.foldl_cons] at h1
      rw [List.drop_eq_getElem_cons hi', List.all_cons] at h2
      refine Ev.step (fun k => hF k _ _ _ _) (Ev.pos (by omega) (Ev.pos (by omega) (Ev.pos (by omega) ?_)))
      rw [w_succ (by omega), rdOf_get hi']
      cases hp : p xs[i] with
      | true =>
        rw [hp, Bool.true_and] at h1 h2
        exact Ev.pos rfl (ih (i + 1) _ (by omega) h1 h2)
      | false =>
        rw [hp, Bool.false_and] at h2
        exact Ev.neg (by decide) (Ev.cast (Ev.now _) (h2 rfl).symm)
  exact key xs.length 0 s (by omega) hE hb
/-- A loop over a list that checks each element. -/
theorem all_ev {α : Type} (d : α) (p : α → Bool) (F : Nat → List α → Int → Int → Option Bool)
    (hF : ∀ k x n i, F (k + 1) x n i = if i < n then (if 0 ≤ i then (if i < (x.length : Int) then (if p (rdOf d x i) = true then F k x n (wrap64 (i + 1)) else some false) else none) else none) else some true)
    (xs : List α) (hl : xs.length ≤ maxLen) : Ev (fun k => F k xs (xs.length : Int) 0) (xs.all p) :=
  fold_ev d p (fun _ _ => ()) false (fun _ _ => some true) (fun k _ x n i => F k x n i) (fun k _ x n i => hF k x n i) xs hl () (xs.all p) (fun h => by rw [h]; exact Ev.now _) (fun h => h)
/-- A list copied by elements that are copied in rounds. -/
theorem toK_ev {α β : Type} (z : β) (f : α → β) (d : α) (T : Nat → α → Option β) (F : Nat → List α → List β → Int → Option (List β))
    (hF : ∀ k x y i, F (k + 1) x y i = if i < (x.length : Int) then (if 0 ≤ i then ((T k (rdOf d x i)).bind fun t => if i < (y.length : Int) then F k x (y.set (i : Int).toNat t) (wrap64 (i + 1)) else none) else none) else some y)
    (xs : List α) (hl : xs.length ≤ 9223372036854775806) (hT : ∀ a ∈ xs, Ev (fun k => T k a) (f a)) : Ev (fun k => F k xs (List.replicate (xs.length : Int).toNat z) 0) (xs.map f) := by
  have key : ∀ (m i : Nat), i + m = xs.length → Ev (fun k => F k xs ((xs.map f).take i ++ List.replicate m z) (i : Int)) (xs.map f) := by
    intro m
    induction m with
    | zero =>
      intro i hi
      refine Ev.step (fun k => hF k _ _ _) (Ev.neg (by omega) (Ev.cast (Ev.now _) ?_))
      rw [List.replicate_zero, List.append_nil, List.take_of_length_le (by rw [List.length_map]; omega)]
    | succ m ih =>
      intro i hi
      have hi' : i < xs.length := by omega
      refine Ev.step (fun k => hF k _ _ _) (Ev.pos (by omega) (Ev.pos (by omega) (Ev.bind (a := f xs[i]) ?_ (Ev.pos (by simp; omega) ?_))))
      · rw [rdOf_get hi']; exact hT _ (List.getElem_mem _)
      rw [w64 (by omega) (by omega), Int.toNat_natCast]
      have e : ((xs.map f).take i ++ List.replicate (m + 1) z).set i (f xs[i]) = (xs.map f).take (i + 1) ++ List.replicate m z := by
        have hl2 : ((xs.map f).take i).length = i := by rw [List.length_take, List.length_map]; omega
        rw [List.take_succ_eq_append_getElem (by rw [List.length_map]; omega), List.set_append_right _ _ (by omega), List.append_assoc, hl2, Nat.sub_self, List.replicate_succ, List.set_cons_zero, List.getElem_map]
        rfl
      rw [e]
      exact ih (i + 1) (by omega)
  have h := key xs.length 0 (by omega)
  simpa using h
/-- Equal lists whose elements are compared in rounds. -/
theorem eqK_ev {α : Type} (d : α) (E : Nat → α → α → Option Bool) (F : Nat → List α → List α → Int → Option Bool)
    (hF : ∀ k x y i, F (k + 1) x y i = if i < (x.length : Int) then (if 0 ≤ i then (if i < (y.length : Int) then ((E k (rdOf d x i) (rdOf d y i)).bind fun t => if t = true then F k x y (wrap64 (i + 1)) else some false) else none) else none) else some true)
    (xs : List α) (hl : xs.length ≤ maxLen) (hE : ∀ a ∈ xs, Ev (fun k => E k a a) true) : Ev (fun k => if (xs.length : Int) = (xs.length : Int) then F k xs xs 0 else some false) true := by
  rw [maxLen_eq] at hl
  have key : ∀ m i : Nat, i + m = xs.length → Ev (fun k => F k xs xs (i : Int)) true := by
    intro m
    induction m with
    | zero => exact fun i hi => Ev.step (fun k => hF k _ _ _) (Ev.neg (by omega) (Ev.now _))
    | succ m ih =>
      intro i hi
      have hi' : i < xs.length := by omega
      refine Ev.step (fun k => hF k _ _ _) (Ev.pos (by omega) (Ev.pos (by omega) (Ev.pos (by omega) (Ev.bind (hE (rdOf d xs i) (by rw [rdOf_get hi']; exact List.getElem_mem _)) (Ev.pos rfl ?_)))))
      rw [w64 (by omega) (by omega)]
      exact ih (i + 1) (by omega)
  exact Ev.pos rfl (key xs.length 0 (by omega))
end Go.Proofs.Ytbjdhmgednhdgaa.X

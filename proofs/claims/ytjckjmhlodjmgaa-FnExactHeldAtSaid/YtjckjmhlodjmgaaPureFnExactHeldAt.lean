/- HeldAt: the pure statement of the law: the program's held keys are the reference's, for all events and times. -/
import Derived.Test.YtjckjmhlodjmgaaXFnExactHeldAtx5
import Derived.Test.YtjckjmhlodjmgaaXLibHeldAt
namespace Go.Proofs.Ytjckjmhlodjmgaa.Pure
open Go.RowKit Go.Proofs.Ytjckjmhlodjmgaa.XFnExactHeldAt Go.Proofs.YtjckjmhlodjmgaaW.PrintWords Go.Proofs.YtjckjmhlodjmgaaW.PrintLast Go.Proofs.YtjckjmhlodjmgaaW.PrintMore Go.Proofs.Ytjckjmhlodjmgaa.X
set_option linter.unusedVariables false
set_option linter.unusedSimpArgs false

theorem in_spec (a b c : Int) : spec_l1In.f a b c = some (decide (b ≤ a) && decide (a ≤ c)) := by
  unfold spec_l1In.f
  by_cases h : b ≤ a <;> simp [h]
theorem in_impl (a b c : Int) : impl_inRange.f a b c = some (decide (b ≤ a) && decide (a ≤ c)) := by
  unfold impl_inRange.f
  by_cases h : b ≤ a <;> simp [h]
theorem eq_ints (l : List Int) (hl : (l.length : Int) ≤ 1048576) : Ev (fun k => laws_eqIntS.f k l l) true :=
  eqInt_ev laws_eqIntS.l0 (fun k x y i => laws_eqIntS.l0.eq_2 x y i k) l (by rw [maxLen_eq]; omega)
theorem mark_ints (l : List Int) (hl : (l.length : Int) ≤ 4611686018427387000) : Ev (fun k => laws_markIntS.f k l 1) (1 + (l.length : Int), marks l.length 1) :=
  markInt_ev laws_markIntS.l0 (fun k x c i => laws_markIntS.l0.eq_2 x c i k) 1 (by omega) l (by omega)
theorem held_ints (n : Nat) (hn : (n : Int) ≤ 4611686018427387000) : Ev (fun k => laws_heldIntS.f k (marks n 1) 1) (1 + (n : Int)) :=
  heldInt_ev laws_heldIntS.l0 (fun k x c i => laws_heldIntS.l0.eq_2 x c i k) n 1 (by omega) (by omega)
abbrev Pr := S144
/-! the laws' helpers -/
theorem sz_press (l : List S147) {s : Int} (h0 : 0 ≤ s) (h1 : s ≤ 1048576) (hl : l.length ≤ maxLen) : laws_szPressS.f l s = some (roomLeft l.length s) := sz_left h0 h1 hl
def asPress (b : S147) : Pr := ⟨b.f0, b.f1, b.f2⟩
theorem to_press (l : List S147) (hl : (l.length : Int) ≤ 1048576) : Ev (fun k => laws_toPressS.f k l) (l.map asPress) := by
  have ht := toS_ev z144 asPress z147 laws_toPressS.l0 (fun k x y i => by rw [laws_toPressS.l0]; simp only [laws_toPress.f, Option.bind_some]; rfl) l (by omega)
  unfold laws_toPressS.f
  exact Ev.pos (by omega) (Ev.pos (by omega) ht)
theorem eq_press (l : List Pr) (hl : (l.length : Int) ≤ 1048576) : Ev (fun k => laws_eqPressS.f k l l) true := by
  unfold laws_eqPressS.f
  exact eqT_ev z144 (fun a b => laws_eqPress.f a.f0 a.f1 a.f2 b.f0 b.f1 b.f2) laws_eqPressS.l0 (fun k x y i => laws_eqPressS.l0.eq_2 x y i k) (fun a => by simp [laws_eqPress.f]) l (by rw [maxLen_eq]; omega)
theorem mark_press (l : List Pr) (hl : (l.length : Int) ≤ 1048576) : Yes (fun r : Int × List Pr => r.1 = 1 + 3 * (l.length : Int)) (fun k => laws_markPressS.f k l 1) := by
  have key : ∀ (m i : Nat) (c : Int) (x : List Pr), i + m = x.length → (x.length : Int) ≤ 1048576 → 1 ≤ c → c + 3 * (m : Int) ≤ 4194304 → Yes (fun r : Int × List Pr => r.1 = c + 3 * (m : Int)) (fun k => laws_markPressS.l0 k x c (i : Int)) := by
    intro m
    induction m with
    | zero => exact fun i c x hi _ _ _ => Yes.step (fun k => laws_markPressS.l0.eq_2 _ _ _ k) (Yes.neg (by omega) (Yes.now _ (by simp)))
    | succ m ih =>
      intro i c x hi hx hc hc'
      have nxt : ∀ X : List Pr, X.length = x.length → Yes (fun r : Int × List Pr => r.1 = c + 3 * ((m + 1 : Nat) : Int)) (fun k => laws_markPressS.l0 k X (c + 1 + 1 + 1) ((i + 1 : Nat) : Int)) := fun X hX => by
        obtain ⟨r, hr, e⟩ := ih (i + 1) (c + 1 + 1 + 1) X (by omega) (by omega) (by omega) (by omega)
        exact ⟨r, by show r.1 = _; rw [hr]; omega, e⟩
      refine Yes.step (fun k => laws_markPressS.l0.eq_2 _ _ _ k) (Yes.pos (by omega) (Yes.pos (by omega) ?_))
      rw [w64 (n := c + 1) (by omega) (by omega), w64 (n := c + 1 + 1) (by omega) (by omega), w64 (n := c + 1 + 1 + 1) (by omega) (by omega), w_succ (by omega)]
      exact Yes.cbind rfl (Yes.cbind rfl (nxt _ (by simp)))
  exact key l.length 0 1 l (by omega) hl (by omega) (by omega)
/-! events -/
def evAt (l : List Pr) (i : Nat) : Bool := (decide (0 ≤ (rd_T144 l (i : Int)).f0) && decide ((rd_T144 l (i : Int)).f0 ≤ 100000)) && ((decide (0 ≤ (rd_T144 l (i : Int)).f1) && decide ((rd_T144 l (i : Int)).f1 ≤ 99)) && (if i = 0 then true else !decide ((rd_T144 l ((i : Int) - 1)).f0 > (rd_T144 l (i : Int)).f0)))
theorem ev_loop (l : List Pr) (hl : l.length ≤ maxLen) (R : Bool) (G : Nat → Int → Option Bool)
    (hG : ∀ k (i : Int), G (k + 1) i = if i < (l.length : Int) then (if 0 ≤ i then (if i < (l.length : Int) then (if (decide (0 ≤ (rd_T144 l i).f0) && decide ((rd_T144 l i).f0 ≤ 100000)) = true then (if (decide (0 ≤ (rd_T144 l i).f1) && decide ((rd_T144 l i).f1 ≤ 99)) = true then (if i > 0 then (if 0 ≤ wrap64 (i - 1) then (if wrap64 (i - 1) < (l.length : Int) then (if (rd_T144 l (wrap64 (i - 1))).f0 > (rd_T144 l i).f0 then some false else G k (wrap64 (i + 1))) else none) else none) else G k (wrap64 (i + 1))) else some false) else some false) else none) else none) else some R) :
    Ev (fun k => G k 0) (allFrom (evAt l) l.length 0 && R) := by
  rw [maxLen_eq] at hl
  have key : ∀ m i : Nat, i + m = l.length → Ev (fun k => G k (i : Int)) (allFrom (evAt l) m i && R) := by
    intro m
    induction m with
    | zero => exact fun i hi => Ev.step (fun k => hG k _) (Ev.neg (by omega) (Ev.now _))
    | succ m ih =>
      intro i hi
      refine Ev.step (fun k => hG k _) (Ev.pos (by omega) (Ev.pos (by omega) (Ev.pos (by omega) ?_)))
      rw [allFrom, evAt, Bool.and_assoc, Bool.and_assoc]
      refine Ev.and (fun _ => ?_)
      rw [Bool.and_assoc]
      refine Ev.and (fun _ => ?_)
      rw [w_succ (by omega), w_pred (by omega)]
      by_cases hz : i = 0
      · rw [if_pos hz, Bool.true_and]
        exact Ev.neg (by omega) (ih (i + 1) (by omega))
      · rw [if_neg hz]
        refine Ev.pos (by omega) (Ev.pos (by omega) (Ev.pos (by omega) ?_))
        by_cases hp : (rd_T144 l ((i : Int) - 1)).f0 > (rd_T144 l (i : Int)).f0
        · rw [decide_eq_true hp]; exact Ev.pos hp (Ev.now _)
        · rw [decide_eq_false hp, Bool.not_false, Bool.true_and]; exact Ev.neg hp (ih (i + 1) (by omega))
  exact key l.length 0 (by omega)
def evOk (l : List Pr) : Bool := allFrom (evAt l) l.length 0 && decide ((l.length : Int) ≤ 200)
theorem ev_impl (l : List Pr) (hl : l.length ≤ maxLen) : Ev (fun k => impl_areEvents.f k l) (evOk l) := by
  unfold impl_areEvents.f evOk
  exact ev_loop l hl _ (fun k i => impl_areEvents.l0 k l l (l.length : Int) i) (fun k i => by
    rw [impl_areEvents.l0]
    simp only [impl_isTime.f, impl_isKey.f, in_impl, Option.bind_some])
theorem ev_spec (l : List Pr) (hl : l.length ≤ maxLen) : Ev (fun k => spec_l17Events.f k l) (evOk l) := by
  unfold spec_l17Events.f evOk
  by_cases h : (l.length : Int) > 200
  · refine Ev.pos h (Ev.cast (Ev.now _) ?_)
    rw [decide_eq_false (show ¬ (l.length : Int) ≤ 200 by omega), Bool.and_false]
  · refine Ev.neg h ?_
    rw [decide_eq_true (show (l.length : Int) ≤ 200 by omega)]
    exact ev_loop l hl true (fun k i => spec_l17Events.l0 k l l (l.length : Int) i) (fun k i => by
      rw [spec_l17Events.l0]
      simp only [in_spec, Option.bind_some])
/-! the keys that are held, in their order -/
theorem keys_len (H : List Bool) : ∀ n i, (impl_HeldAt.keys H n i).length ≤ n
  | 0, _ => Nat.le_refl _
  | n + 1, i => by
    have ih := keys_len H n (i + 1)
    rw [impl_HeldAt.keys, List.length_append]
    split <;> simp <;> omega
theorem keys_mem (H : List Bool) : ∀ n i x, x ∈ impl_HeldAt.keys H n i → (i : Int) ≤ x ∧ x < (i : Int) + n
  | 0, _, x, h => by simp [impl_HeldAt.keys] at h
  | n + 1, i, x, h => by
    rw [impl_HeldAt.keys] at h
    rcases List.mem_append.1 h with h | h
    · split at h
      · rw [List.mem_singleton.1 h]; omega
      · simp at h
    · have := keys_mem H n (i + 1) x h; omega
theorem keys_split (H : List Bool) : ∀ m n i, impl_HeldAt.keys H (m + n) i = impl_HeldAt.keys H m i ++ impl_HeldAt.keys H n (i + m)
  | 0, n, i => by rw [Nat.zero_add, Nat.add_zero, impl_HeldAt.keys, List.nil_append]
  | m + 1, n, i => by
    rw [show m + 1 + n = (m + n) + 1 by omega, impl_HeldAt.keys, keys_split H m n (i + 1), impl_HeldAt.keys, List.append_assoc, show i + 1 + m = i + (m + 1) by omega]
theorem keys_congr {H H' : List Bool} : ∀ n i, (∀ t, i ≤ t → t < i + n → H.getD t false = H'.getD t false) → impl_HeldAt.keys H n i = impl_HeldAt.keys H' n i
  | 0, _, _ => rfl
  | n + 1, i, h => by
    rw [impl_HeldAt.keys, impl_HeldAt.keys, h i (Nat.le_refl _) (by omega), keys_congr n (i + 1) (fun t h1 h2 => h t (by omega) (by omega))]
theorem getD_set (H : List Bool) (v t : Nat) (b : Bool) (hv : v < H.length) : (H.set v b).getD t false = if v = t then b else H.getD t false := by
  rw [List.getD_eq_getElem?_getD, List.getD_eq_getElem?_getD, List.getElem?_set]
  by_cases e : v = t
  · subst e; simp [hv]
  · simp [e]
theorem keys_at (H : List Bool) (v : Nat) (hv : v < 100) : impl_HeldAt.keys H 100 0 = impl_HeldAt.keys H v 0 ++ ((if H.getD v false = true then [(v : Int)] else []) ++ impl_HeldAt.keys H (99 - v) (v + 1)) := by
  have h := keys_split H v ((99 - v) + 1) 0
  rw [show v + (99 - v + 1) = 100 by omega, Nat.zero_add] at h
  rw [h, impl_HeldAt.keys]
theorem keys_set (H : List Bool) (v : Nat) (b : Bool) (hl : H.length = 100) (hv : v < 100) : impl_HeldAt.keys (H.set v b) 100 0 = impl_HeldAt.keys H v 0 ++ ((if b = true then [(v : Int)] else []) ++ impl_HeldAt.keys H (99 - v) (v + 1)) := by
  have e1 : impl_HeldAt.keys (H.set v b) v 0 = impl_HeldAt.keys H v 0 := keys_congr v 0 (fun t h1 h2 => by rw [getD_set H v t b (by omega), if_neg (by omega)])
  have e2 : impl_HeldAt.keys (H.set v b) (99 - v) (v + 1) = impl_HeldAt.keys H (99 - v) (v + 1) := keys_congr (99 - v) (v + 1) (fun t h1 h2 => by rw [getD_set H v t b (by omega), if_neg (by omega)])
  rw [keys_at _ v hv, getD_set H v v b (by omega), if_pos rfl, e1, e2]
theorem keys_none (H : List Bool) (h : ∀ t, H.getD t false = false) : ∀ n i, impl_HeldAt.keys H n i = []
  | 0, _ => rfl
  | n + 1, i => by
    rw [impl_HeldAt.keys, h i, keys_none H h n (i + 1)]
    rfl
theorem put_skip (A B : List Int) (v : Int) (r : List Int) (hA : ∀ x ∈ A, x < v) (hn : A.length ≤ 1000) (hE : Ev (fun k => spec_l1Put.l0 k (A ++ B) v (A.length : Int)) r) : ∀ m i : Nat, i + m = A.length → Ev (fun k => spec_l1Put.l0 k (A ++ B) v (i : Int)) r := by
  intro m
  induction m with
  | zero => intro i hi; rw [show i = A.length by omega]; exact hE
  | succ m ih =>
    intro i hi
    have hl : (A ++ B).length = A.length + B.length := List.length_append
    have e : rd (A ++ B) (i : Int) = A[i]'(by omega) := by rw [rd_get (by omega), List.getElem_append_left (by omega)]
    have hlt := hA _ (List.getElem_mem (show i < A.length by omega))
    refine Ev.step (fun k => spec_l1Put.l0.eq_2 _ _ _ k) (Ev.pos (by omega) (Ev.pos (by omega) (Ev.pos (by omega) ?_)))
    rw [w_succ (by omega)]
    exact ih (i + 1) (by omega)
theorem put_absent (A B : List Int) (v : Int) (hA : ∀ x ∈ A, x < v) (hB : ∀ x ∈ B, v < x) (hn : A.length ≤ 1000) (hm : B.length ≤ 1000) : Ev (fun k => spec_l1Put.f k (A ++ B) v) (A ++ v :: B) := by
  have hl : (A ++ B).length = A.length + B.length := List.length_append
  have ht : (A ++ B).take A.length = A := by simp
  have hd : (A ++ B).drop A.length = B := by simp
  unfold spec_l1Put.f
  refine put_skip A B v _ hA hn ?_ A.length 0 (by omega)
  have chain : Ev (fun _ : Nat => (some A).bind fun y108 => (if ([] : List Int).length + y108.length < 17592186044416 then ((some (([] : List Int) ++ y108 : List Int)).bind fun y112 => (if y112.length < 17592186044416 then ((some (y112 ++ [v] : List Int)).bind fun y115 => ((some B).bind fun y118 => (if y115.length + y118.length < 17592186044416 then (some (y115 ++ y118)) else (none)))) else (none))) else (none))) (A ++ v :: B) := by
    refine Ev.mk (fun _ => ?_)
    simp only [Option.bind_some, List.nil_append, List.length_nil, List.length_append, List.length_singleton]
    rw [if_pos (by omega), if_pos (by omega), if_pos (by omega), List.append_assoc]
    rfl
  refine Ev.step (fun k => spec_l1Put.l0.eq_2 _ _ _ k) ?_
  rw [Int.toNat_natCast, ht, hd]
  by_cases h : (A.length : Int) < ((A ++ B).length : Int)
  · have e : rd (A ++ B) (A.length : Int) = B[0]'(by omega) := by
      rw [rd_get (by omega), List.getElem_append_right (by omega)]
      congr 1
      omega
    have hlt := hB _ (List.getElem_mem (show 0 < B.length by omega))
    exact Ev.pos h (Ev.pos (by omega) (Ev.neg (by omega) (Ev.neg (by omega) (Ev.pos (by omega) chain))))
  · exact Ev.neg h (Ev.pos (by omega) (Ev.pos (by omega) chain))
theorem put_there (A B : List Int) (v : Int) (hA : ∀ x ∈ A, x < v) (hn : A.length ≤ 1000) : Ev (fun k => spec_l1Put.f k (A ++ v :: B) v) (A ++ v :: B) := by
  have hl : (A ++ v :: B).length = A.length + (B.length + 1) := by simp
  have e : rd (A ++ v :: B) (A.length : Int) = v := by
    rw [rd_get (by omega), List.getElem_append_right (by omega)]
    simp
  unfold spec_l1Put.f
  refine put_skip A (v :: B) v _ hA hn ?_ A.length 0 (by omega)
  refine Ev.step (fun k => spec_l1Put.l0.eq_2 _ _ _ k) (Ev.pos (by omega) (Ev.pos (by omega) (Ev.neg (by omega) (Ev.pos e (Ev.now _)))))
theorem drop_ev (L : List Int) (a v : Int) (b : Bool) (hn : L.length ≤ 1000) : ∀ (m i : Nat) (o : List Int), i + m = L.length → o.length ≤ i → Ev (fun k => spec_l17Press.l0 k o L (L.length : Int) (i : Int) a v b) (o ++ (L.drop i).filter (fun x => !decide (x = v))) := by
  intro m
  induction m with
  | zero =>
    intro i o hi ho
    refine Ev.step (fun k => spec_l17Press.l0.eq_2 _ _ _ _ _ _ _ k) (Ev.neg (by omega) (Ev.cast (Ev.now _) ?_))
    rw [List.drop_of_length_le (by omega)]
    simp
  | succ m ih =>
    intro i o hi ho
    have hi' : i < L.length := by omega
    refine Ev.step (fun k => spec_l17Press.l0.eq_2 _ _ _ _ _ _ _ k) (Ev.pos (by omega) (Ev.pos (by omega) (Ev.pos (by omega) ?_)))
    rw [rd_get hi', w_succ (by omega), List.drop_eq_getElem_cons hi']
    by_cases h : L[i] = v
    · refine Ev.pos h (Ev.cast (ih (i + 1) o (by omega) (by omega)) ?_)
      rw [List.filter_cons_of_neg (by simp [h])]
    · refine Ev.neg h (Ev.pos (by omega) (Ev.cast (ih (i + 1) _ (by omega) (by rw [List.length_append, List.length_singleton]; omega)) ?_))
      rw [List.filter_cons_of_pos (by simp [h]), List.append_assoc]
      rfl
theorem press_ev (H : List Bool) (hl : H.length = 100) (t v : Int) (b : Bool) (h0 : 0 ≤ v) (h1 : v ≤ 99) : Ev (fun k => spec_l17Press.f k (impl_HeldAt.keys H 100 0) t v b) (impl_HeldAt.keys (H.set v.toNat b) 100 0) := by
  obtain ⟨n, rfl⟩ := Int.eq_ofNat_of_zero_le h0
  have hn : n < 100 := by omega
  rw [Int.toNat_natCast, keys_set H n b hl hn, keys_at H n hn]
  have hA : ∀ x ∈ impl_HeldAt.keys H n 0, x < (n : Int) := fun x hx => by have := keys_mem H n 0 x hx; omega
  have hB : ∀ x ∈ impl_HeldAt.keys H (99 - n) (n + 1), (n : Int) < x := fun x hx => by have := keys_mem H _ _ x hx; omega
  have lA := keys_len H n 0
  have lB := keys_len H (99 - n) (n + 1)
  generalize impl_HeldAt.keys H n 0 = A at *
  generalize impl_HeldAt.keys H (99 - n) (n + 1) = B at *
  unfold spec_l17Press.f
  cases b with
  | true =>
    refine Ev.pos rfl ?_
    cases hv : H.getD n false with
    | true => exact Ev.bind (put_there A B n hA (by omega)) (Ev.now _)
    | false => exact Ev.bind (put_absent A B n hA hB (by omega) (by omega)) (Ev.now _)
  | false =>
    refine Ev.neg (by decide) ?_
    have fA : A.filter (fun x => !decide (x = (n : Int))) = A := List.filter_eq_self.2 (fun x hx => by have := hA x hx; simp; omega)
    have fB : B.filter (fun x => !decide (x = (n : Int))) = B := List.filter_eq_self.2 (fun x hx => by have := hB x hx; simp; omega)
    cases hv : H.getD n false with
    | true =>
      refine Ev.cast (drop_ev (A ++ ([(n : Int)] ++ B)) t n false (by simp; omega) (A ++ ([(n : Int)] ++ B)).length 0 [] (by omega) (Nat.le_refl _)) ?_
      rw [List.drop_zero, List.nil_append, List.filter_append, List.filter_append, fA, fB]
      simp
    | false =>
      refine Ev.cast (drop_ev (A ++ ([] ++ B)) t n false (by simp; omega) (A ++ ([] ++ B)).length 0 [] (by omega) (Nat.le_refl _)) ?_
      rw [List.drop_zero, List.nil_append, List.filter_append, List.filter_append, fA, fB]
      simp
theorem held_spec (l : List Pr) (a : Int) (hl : (l.length : Int) ≤ 200) (hall : (l.all fun e => decide (0 ≤ e.f1) && decide (e.f1 ≤ 99)) = true) : ∀ m i : Nat, i + m = l.length → Ev (fun k => spec_HeldAt.l0 k a (impl_HeldAt.keys (impl_HeldAt.held a (l.take i)) 100 0) l (l.length : Int) (i : Int)) (impl_HeldAt.keys (impl_HeldAt.held a l) 100 0, true) := by
  intro m
  induction m with
  | zero =>
    intro i hi
    have hk := keys_len (impl_HeldAt.held a l) 100 0
    rw [show i = l.length by omega, List.take_length]
    refine Ev.step (fun k => spec_HeldAt.l0.eq_2 _ _ _ _ _ k) (Ev.neg (by omega) (Ev.some_bind (Ev.pos (by simp only [List.length_nil]; omega) (Ev.cast (Ev.now _) (by rw [List.nil_append])))))
  | succ m ih =>
    intro i hi
    have hs := impl_HeldAt.held_snoc a l i (by omega)
    have hin := impl_HeldAt.keyIn l hall i (by omega)
    have nx := ih (i + 1) (by omega)
    rw [hs] at nx
    unfold impl_HeldAt.press at nx
    refine Ev.step (fun k => spec_HeldAt.l0.eq_2 _ _ _ _ _ k) (Ev.pos (by omega) (Ev.pos (by omega) (Ev.pos (by omega) ?_)))
    rw [w_succ (by omega)]
    by_cases h : (rd_T144 l (i : Int)).f0 ≤ a
    · rw [if_pos h] at nx
      exact Ev.pos h (Ev.bind (press_ev _ (impl_HeldAt.held_len a _) _ _ _ hin.1 hin.2) nx)
    · rw [if_neg h] at nx
      exact Ev.neg h nx
theorem both (l : List Pr) (a : Int) (hl : l.length ≤ maxLen) : Both (fun r : List Int × Bool => (r.1.length : Int) ≤ 1048576) (fun k => spec_HeldAt.f k l a) (fun k => impl_HeldAt.f k l a) := by
  have no : (([] : List Int).length : Int) ≤ 1048576 := by simp
  have es := ev_spec l hl
  have ei := ev_impl l hl
  have sT : Ev (fun k => spec_HeldAt.j0 k l a true) ([], false) := Ev.step (fun k => spec_HeldAt.j0.eq_2 _ _ _ k) (Ev.pos rfl (Ev.now _))
  unfold spec_HeldAt.f impl_HeldAt.f
  cases hok : evOk l with
  | false =>
    rw [hok] at es ei
    exact ⟨([], false), no, Ev.bind es (Ev.neg (by decide) sT), Ev.bind ei (Ev.neg (by decide) (Ev.now _))⟩
  | true =>
    rw [hok] at es ei
    unfold evOk at hok
    rw [Bool.and_eq_true, decide_eq_true_eq] at hok
    have hall : (l.all fun e => decide (0 ≤ e.f1) && decide (e.f1 ≤ 99)) = true := List.all_eq_true.2 (fun e he => by
      obtain ⟨i, hi, rfl⟩ := List.getElem_of_mem he
      have h := (allFrom_iff _ _ _).1 hok.1 i (by omega) (by omega)
      unfold evAt at h
      have e : rd_T144 l (i : Int) = l[i] := getD_get hi
      rw [e, Bool.and_eq_true] at h
      have h2 := h.2
      rw [Bool.and_eq_true] at h2
      exact h2.1)
    have ti : impl_isTime.f a = some (decide (0 ≤ a) && decide (a ≤ 100000)) := by unfold impl_isTime.f; rw [in_impl]; rfl
    cases ha : (decide (0 ≤ a) && decide (a ≤ 100000)) with
    | false =>
      refine ⟨([], false), no, Ev.bind es (Ev.pos rfl (Ev.const_bind (in_spec _ _ _) ?_)), Ev.bind ei (Ev.pos rfl (Ev.const_bind ti ?_))⟩
      · rw [ha]; exact sT
      · rw [ha]; exact Ev.neg (by decide) (Ev.now _)
    | true =>
      have hk := keys_len (impl_HeldAt.held a l) 100 0
      refine ⟨(impl_HeldAt.keys (impl_HeldAt.held a l) 100 0, true), by show ((impl_HeldAt.keys (impl_HeldAt.held a l) 100 0).length : Int) ≤ 1048576; omega, Ev.bind es (Ev.pos rfl (Ev.const_bind (in_spec _ _ _) ?_)), Ev.bind ei (Ev.pos rfl (Ev.const_bind ti ?_))⟩
      · rw [ha]
        refine Ev.step (fun k => spec_HeldAt.j0.eq_2 _ _ _ k) (Ev.neg (by decide) ?_)
        have h := held_spec l a hok.2 hall l.length 0 (by omega)
        have e0 : impl_HeldAt.keys (impl_HeldAt.held a (l.take 0)) 100 0 = [] := by
          rw [List.take_zero]
          unfold impl_HeldAt.held
          rw [List.foldl_nil]
          exact keys_none _ (fun t => by rw [List.getD_eq_getElem?_getD, List.getElem?_replicate]; split <;> rfl) _ _
        rw [e0] at h
        exact h
      · rw [ha]
        exact Ev.pos rfl (Ev.pos hall (Ev.now _))
theorem FnExactHeldAt : laws_FnExactHeldAt.Pure := by
  intro l a ⟨hl, _⟩ _
  refine Ev.rounds (r := true) ?_
  unfold laws_FnExactHeldAt.f
  refine Ev.const_bind (sz_press l (by omega) (by omega) hl) (Ev.ite (fun _ => Ev.now _) (fun h => ?_))
  have hn := (roomLeft_ok h).1
  have ht := to_press l hn
  have hm : (l.map asPress).length = l.length := List.length_map ..
  obtain ⟨⟨r0, r1⟩, hr, h1, h2⟩ := both (l.map asPress) a (by rw [hm]; exact hl)
  have hr : (r0.length : Int) ≤ 1048576 := hr
  have he := eq_ints r0 hr
  have hmk := mark_ints r0 (by omega)
  have hh := held_ints r0.length (by omega)
  obtain ⟨mr, hmr, mp⟩ := mark_press (l.map asPress) (by rw [hm]; exact hn)
  have hmr : mr.1 = 1 + 3 * ((l.map asPress).length : Int) := hmr
  refine Ev.bind ht (Ev.bind h1 (Ev.bind ht (Ev.bind h2 (Ev.bind he (Ev.pos rfl ?_)))))
  refine Ev.step (fun k => laws_FnExactHeldAt.j0.eq_2 _ _ _ _ _ _ _ _ k) (Ev.neg (by simp) (Ev.bind ht (Ev.bind (eq_press _ (by rw [hm]; exact hn)) (Ev.pos rfl (Ev.bind mp (Ev.neg (by omega) (Ev.bind he (Ev.pos rfl ?_))))))))
  refine Ev.step (fun k => laws_FnExactHeldAt.j1.eq_2 _ _ _ _ _ _ k) (Ev.neg (by simp) (Ev.bind hmk (Ev.bind hh (Ev.neg (by omega) (Ev.pos rfl (Ev.bind ht (Ev.bind h2 (Ev.bind he (Ev.pos rfl ?_)))))))))
  exact Ev.step (fun k => laws_FnExactHeldAt.j2.eq_2 _ _ _ k) (Ev.neg (by simp) (Ev.bind hh (Ev.neg (by omega) (Ev.pos rfl (Ev.now _)))))

end Go.Proofs.Ytjckjmhlodjmgaa.Pure

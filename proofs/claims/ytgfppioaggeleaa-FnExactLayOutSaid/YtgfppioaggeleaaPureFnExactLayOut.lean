/- LayOut: the pure statement of the law: every box is placed as in the reference, its children's parts shared alike. -/
import Derived.Test.YtgfppioaggeleaaXFnExactLayOutx15
import Derived.Test.YtgfppioaggeleaaXLibLayOut
namespace Go.Proofs.Ytgfppioaggeleaa.Pure
open Go.RowKit Go.Proofs.Ytgfppioaggeleaa.XFnExactLayOut Go.Proofs.YtgfppioaggeleaaW.PrintWords Go.Proofs.YtgfppioaggeleaaW.PrintLast Go.Proofs.YtgfppioaggeleaaW.PrintMore Go.Proofs.Ytgfppioaggeleaa.X
set_option linter.unusedVariables false
set_option linter.unusedSimpArgs false

theorem in_spec (a b c : Int) : spec_l1In.f a b c = some (decide (b ≤ a) && decide (a ≤ c)) := by
  unfold spec_l1In.f
  by_cases h : b ≤ a <;> simp [h]
theorem in_impl (a b c : Int) : impl_inRange.f a b c = some (decide (b ≤ a) && decide (a ≤ c)) := by
  unfold impl_inRange.f
  by_cases h : b ≤ a <;> simp [h]
def boxOk (i : Nat) (b : S74) : Bool :=
  (if i = 0 then b.f0 == -1 else (decide (0 ≤ b.f0) && decide (b.f0 ≤ (i : Int) - 1))) && ((decide (1 ≤ b.f1) && decide (b.f1 ≤ 2)) && ((decide (0 ≤ b.f2) && decide (b.f2 ≤ 10000)) && ((decide (0 ≤ b.f3) && decide (b.f3 ≤ 1000)) && (decide (0 ≤ b.f4) && decide (b.f4 ≤ 100)))))
def boxesOk (l : List S74) : Bool := (decide (1 ≤ l.length) && decide (l.length ≤ 40)) && allFrom (fun i => boxOk i (rd_T74 l (i : Int))) l.length 0
theorem boxes_spec_l (l : List S74) (hl : l.length ≤ maxLen) : ∀ m i : Nat, i + m = l.length → Ev (fun k => spec_GoodBoxes.l0 k l (l.length : Int) (i : Int)) (allFrom (fun i => boxOk i (rd_T74 l (i : Int))) m i) := by
  rw [maxLen_eq] at hl
  intro m
  induction m with
  | zero => exact fun i hi => Ev.step (fun k => spec_GoodBoxes.l0.eq_2 _ _ _ k) (Ev.neg (by omega) (Ev.now _))
  | succ m ih =>
    intro i hi
    refine Ev.step (fun k => spec_GoodBoxes.l0.eq_2 _ _ _ k) (Ev.pos (by omega) (Ev.pos (by omega) (Ev.pos (by omega) ?_)))
    simp only [in_spec, Option.bind_some]
    rw [w_succ (by omega), allFrom]
    by_cases h0 : i = 0
    · refine Ev.pos (by omega) (Ev.ite (fun hu => ?_) (fun hu => Ev.cast (Ev.now _) ?_))
      · refine Ev.neg (by omega) (Ev.cast (Ev.and (fun _ => Ev.and (fun _ => Ev.and (fun _ => Ev.and (fun _ => ih (i + 1) (by omega)))))) ?_)
        simp only [boxOk, if_pos h0, hu, beq_self_eq_true, Bool.true_and, Bool.and_assoc]
      · have hu' : ((rd_T74 l (i : Int)).f0 == -1) = false := beq_eq_false_iff_ne.2 hu
        simp only [boxOk, if_pos h0, hu', Bool.false_and]
    · refine Ev.neg (by omega) (Ev.pos (by omega) ?_)
      rw [w_pred (by omega)]
      refine Ev.cast (Ev.and (fun _ => Ev.and (fun _ => Ev.and (fun _ => Ev.and (fun _ => Ev.and (fun _ => ih (i + 1) (by omega))))))) ?_
      simp only [boxOk, if_neg h0, Bool.and_assoc]
theorem boxes_spec (l : List S74) (hl : l.length ≤ maxLen) : Ev (fun k => spec_GoodBoxes.f k l) (boxesOk l) := by
  have hj : ∀ b, Ev (fun k => spec_GoodBoxes.j0 k l b) (!b && allFrom (fun i => boxOk i (rd_T74 l (i : Int))) l.length 0) := fun b =>
    Ev.step (fun k => spec_GoodBoxes.j0.eq_2 _ _ k) (Ev.andn (fun _ => boxes_spec_l l hl l.length 0 (by omega)))
  unfold spec_GoodBoxes.f boxesOk
  refine Ev.ite (fun h => Ev.cast (hj _) ?_) (fun h => Ev.cast (hj _) ?_)
  · rw [decide_eq_false (show ¬ 1 ≤ l.length by omega)]; rfl
  · rw [decide_eq_true (show 1 ≤ l.length by omega), Bool.true_and]
    congr 1
    by_cases h2 : l.length ≤ 40
    · rw [decide_eq_true h2, decide_eq_false (by omega)]; rfl
    · rw [decide_eq_false h2, decide_eq_true (by omega)]; rfl
theorem boxes_impl (l : List S74) (hl : l.length ≤ maxLen) : Ev (fun k => impl_GoodBoxes.f k l) (boxesOk l) := by
  rw [maxLen_eq] at hl
  unfold impl_GoodBoxes.f boxesOk
  have key : ∀ m i : Nat, i + m = l.length → Ev (fun k => impl_GoodBoxes.l0 k l l (l.length : Int) (i : Int)) ((decide (1 ≤ l.length) && decide (l.length ≤ 40)) && allFrom (fun i => boxOk i (rd_T74 l (i : Int))) m i) := by
    intro m
    induction m with
    | zero =>
      intro i hi
      refine Ev.step (fun k => impl_GoodBoxes.l0.eq_2 _ _ _ _ k) (Ev.neg (by omega) (Ev.const_bind (in_impl _ _ _) (Ev.cast (Ev.now _) ?_)))
      rw [allFrom, Bool.and_true]
      congr 1 <;> exact decide_eq_decide.2 (by omega)
    | succ m ih =>
      intro i hi
      have hj : ∀ b y0 y1 y2 y3 y4, Ev (fun k => impl_GoodBoxes.j1 k l l (l.length : Int) (i : Int) b y0 y1 y2 y3 y4) (!b && ((decide (0 ≤ y2) && decide (y2 ≤ 10000)) && ((decide (0 ≤ y3) && decide (y3 ≤ 1000)) && ((decide (0 ≤ y4) && decide (y4 ≤ 100)) && ((decide (1 ≤ l.length) && decide (l.length ≤ 40)) && allFrom (fun i => boxOk i (rd_T74 l (i : Int))) m (i + 1)))))) := by
        intro b y0 y1 y2 y3 y4
        refine Ev.step (fun k => impl_GoodBoxes.j1.eq_2 _ _ _ _ _ _ _ _ _ _ k) (Ev.andn (fun _ => ?_))
        simp only [in_impl, Option.bind_some]
        rw [w_succ (by omega)]
        exact Ev.and (fun _ => Ev.and (fun _ => Ev.and (fun _ => ih (i + 1) (by omega))))
      refine Ev.step (fun k => impl_GoodBoxes.l0.eq_2 _ _ _ _ k) (Ev.pos (by omega) (Ev.pos (by omega) (Ev.pos (by omega) ?_)))
      simp only [in_impl, Option.bind_some]
      rw [allFrom]
      generalize hL : (decide (1 ≤ l.length) && decide (l.length ≤ 40)) = L
      rw [hL] at hj
      generalize allFrom (fun i => boxOk i (rd_T74 l (i : Int))) m (i + 1) = R at hj ⊢
      have sw : ∀ x : Bool, (L && (x && R)) = (x && (L && R)) := fun x => by rw [← Bool.and_assoc, Bool.and_comm L x, Bool.and_assoc]
      rw [sw]
      by_cases h0 : i = 0
      · refine Ev.pos (by omega) (Ev.ite (fun hu => ?_) (fun hu => Ev.cast (hj _ _ _ _ _ _) ?_))
        · refine Ev.neg (by omega) (Ev.cast (hj _ _ _ _ _ _) ?_)
          simp only [boxOk, if_pos h0, hu, beq_self_eq_true, Bool.true_and, Bool.and_assoc, Bool.not_not]
        · have hu' : ((rd_T74 l (i : Int)).f0 == -1) = false := beq_eq_false_iff_ne.2 hu
          simp only [boxOk, if_pos h0, hu', Bool.false_and, Bool.not_true]
      · refine Ev.neg (by omega) (Ev.pos (by omega) ?_)
        rw [w_pred (by omega)]
        simp only [boxOk, if_neg h0]
        cases hb : (decide (0 ≤ (rd_T74 l (i : Int)).f0) && decide ((rd_T74 l (i : Int)).f0 ≤ (i : Int) - 1)) with
        | true =>
          refine Ev.pos rfl (Ev.cast (hj _ _ _ _ _ _) ?_)
          simp only [Bool.true_and, Bool.and_assoc, Bool.not_not]
        | false =>
          refine Ev.neg (by decide) (Ev.cast (hj _ _ _ _ _ _) ?_)
          simp only [Bool.false_and, Bool.not_true]
  exact key l.length 0 (by omega)
/-! The stable sort of whole numbers by a captured comparison: a sorted list of the same numbers. -/
def remOf (R : Int) (G : List Int) (A x : Int) : Int := (R * rd G x) % A
/-- `x` comes ahead of `y`: its remainder is greater, or they are one and its number is smaller. -/
def bef (R : Int) (G : List Int) (A x y : Int) : Prop := remOf R G A y < remOf R G A x ∨ (remOf R G A x = remOf R G A y ∧ x < y)
structure Fine (R : Int) (G : List Int) (A : Int) : Prop where
  a0 : 0 < A
  a1 : A ≤ 1000000
  r0 : 0 ≤ R
  r1 : R ≤ 1000000
  hg : ∀ x ∈ G, 0 ≤ x ∧ x ≤ 1000
def InG (G L : List Int) : Prop := ∀ x ∈ L, 0 ≤ x ∧ x < (G.length : Int)
theorem bef_trans {R A x y z : Int} {G : List Int} (h : bef R G A x y) (k : bef R G A y z) : bef R G A x z := by
  unfold bef at *; omega
theorem bef_asymm {R A x y : Int} {G : List Int} (h : bef R G A x y) (k : bef R G A y x) : False := by
  unfold bef at *; omega
theorem bef_lt {R A x y : Int} {G : List Int} (h : x < y) : remOf R G A x < remOf R G A y ↔ bef R G A y x := by
  unfold bef; omega
theorem bef_not {R A x y : Int} {G : List Int} (h : x < y) (k : ¬ bef R G A y x) : bef R G A x y := by
  unfold bef at *; omega
theorem rd_mem {G : List Int} {x : Int} (h0 : 0 ≤ x) (h1 : x < (G.length : Int)) : rd G x ∈ G := by
  obtain ⟨n, rfl⟩ := Int.eq_ofNat_of_zero_le h0
  rw [rd_get (by omega)]; exact List.getElem_mem _
theorem prod_ok {R A : Int} {G : List Int} (F : Fine R G A) {x : Int} (h0 : 0 ≤ x) (h1 : x < (G.length : Int)) : 0 ≤ R * rd G x ∧ R * rd G x ≤ 1000000000 := by
  have hx := F.hg _ (rd_mem h0 h1)
  have r0 := F.r0; have r1 := F.r1
  refine ⟨Int.mul_nonneg r0 hx.1, ?_⟩
  calc R * rd G x ≤ 1000000 * 1000 := Int.mul_le_mul r1 hx.2 hx.1 (by omega)
    _ = 1000000000 := by omega
theorem cmp_ev {R A : Int} {G : List Int} (F : Fine R G A) {x y : Int} (hx : 0 ≤ x ∧ x < (G.length : Int)) (hy : 0 ≤ y ∧ y < (G.length : Int)) : ∃ t, impl_share_1_captured.f x y R G A = some t ∧ (t < 0 ↔ remOf R G A y < remOf R G A x) := by
  have px := prod_ok F hx.1 hx.2; have py := prod_ok F hy.1 hy.2; have ha := F.a0
  unfold impl_share_1_captured.f
  rw [if_pos hy.1, if_pos hy.2, if_neg (by omega), if_pos hx.1, if_pos hx.2, w64 (n := R * rd G y) (by omega) (by omega), w64 (n := R * rd G x) (by omega) (by omega), Int.tmod_eq_emod_of_nonneg px.1, Int.tmod_eq_emod_of_nonneg py.1]
  have e : ∀ a : Int, (a != a) = false := by simp
  simp only [cmp_Compare_int.f, cmp_isNaN_int.f, Option.bind_some, e, Bool.false_eq_true, if_false]
  unfold remOf
  by_cases h : R * rd G y % A < R * rd G x % A
  · rw [if_pos h]; exact ⟨_, rfl, by simp; exact h⟩
  · rw [if_neg h]; split
    · exact ⟨_, rfl, by simp; omega⟩
    · exact ⟨_, rfl, by simp; omega⟩
theorem rd_at {P Q : List Int} {a i : Int} (h : i = (P.length : Int)) : rd (P ++ a :: Q) i = a := by
  subst h; unfold rd; simp
theorem set_at {P Q : List Int} {a b i : Int} (h : i = (P.length : Int)) : (P ++ a :: Q).set i.toNat b = P ++ b :: Q := by
  subst h; simp
theorem rd_mid {P B Q : List Int} {t : Nat} (ht : t < B.length) {i : Int} (hi : i = ((P.length + t : Nat) : Int)) : rd (P ++ (B ++ Q)) i = B[t] := by
  subst hi; unfold rd
  rw [Int.toNat_natCast]
  simp [List.getD_eq_getElem?_getD, List.getElem?_append_right, List.getElem?_append_left ht, List.getElem?_eq_getElem ht]
theorem swapL {P M Q : List Int} {x y i j : Int} (hi : i = (P.length : Int)) (hj : j = ((P.length + 1 + M.length : Nat) : Int)) :
    ((P ++ x :: (M ++ y :: Q)).set i.toNat (rd (P ++ x :: (M ++ y :: Q)) j)).set j.toNat (rd (P ++ x :: (M ++ y :: Q)) i) = P ++ y :: (M ++ x :: Q) := by
  have e : ∀ a b : Int, P ++ a :: (M ++ b :: Q) = (P ++ a :: M) ++ b :: Q := by simp
  have hj' : ∀ a : Int, j = ((P ++ a :: M).length : Int) := by intro a; rw [hj]; simp; omega
  rw [rd_at hi, e x y, rd_at (hj' x), ← e x y, set_at hi, e y y, set_at (hj' y), ← e]
theorem swapR {P M Q : List Int} {x y i j : Int} (hi : i = (P.length : Int)) (hj : j = ((P.length + 1 + M.length : Nat) : Int)) :
    ((P ++ x :: (M ++ y :: Q)).set j.toNat (rd (P ++ x :: (M ++ y :: Q)) i)).set i.toNat (rd (P ++ x :: (M ++ y :: Q)) j) = P ++ y :: (M ++ x :: Q) := by
  have e : ∀ a b : Int, P ++ a :: (M ++ b :: Q) = (P ++ a :: M) ++ b :: Q := by simp
  have hj' : ∀ a : Int, j = ((P ++ a :: M).length : Int) := by intro a; rw [hj]; simp; omega
  rw [rd_at hi, e x y, rd_at (hj' x), set_at (hj' x), ← e x x, set_at hi]
/-- The swaps of two ranges of one length. -/
theorem swap_loop (R A : Int) (G P M Q : List Int) : ∀ (X Y Y1 X1 : List Int) (a b n i : Int), X.length = Y.length → X1.length = Y1.length → a = (P.length : Int) → b = ((P.length + Y1.length + X.length + M.length : Nat) : Int) → n = ((Y1.length + X.length : Nat) : Int) → i = (Y1.length : Int) → P.length + Y1.length + X.length + M.length + X1.length + Y.length ≤ 100000 →
    Ev (fun k => SWAP.l0 R G A k (P ++ Y1 ++ X ++ M ++ X1 ++ Y ++ Q) a b n i) (P ++ Y1 ++ Y ++ M ++ X1 ++ X ++ Q) := by
  intro X
  induction X with
  | nil =>
    intro Y Y1 X1 a b n i hl hl1 ha hb hn hi hs
    obtain rfl : Y = [] := List.eq_nil_of_length_eq_zero (by simpa using hl.symm)
    exact Ev.step (fun k => SWAP.l0.eq_2 R G A _ _ _ _ _ k) (Ev.neg (by rw [hn, hi]; simp) (Ev.now _))
  | cons x X ih =>
    intro Y Y1 X1 a b n i hl hl1 ha hb hn hi hs
    cases Y with
    | nil => cases hl
    | cons y Y =>
      simp only [List.length_cons] at hl hb hn hs
      have e : P ++ Y1 ++ (x :: X) ++ M ++ X1 ++ (y :: Y) ++ Q = (P ++ Y1) ++ x :: ((X ++ M ++ X1) ++ y :: (Y ++ Q)) := by simp
      have el : ((P ++ Y1 ++ (x :: X) ++ M ++ X1 ++ (y :: Y) ++ Q).length : Int) ≥ P.length + Y1.length + 1 + X.length + M.length + X1.length + 1 + Y.length := by simp; omega
      have e1 : wrap64 (b + i) = b + i := w64 (by omega) (by omega)
      have e2 : wrap64 (a + i) = a + i := w64 (by omega) (by omega)
      have e3 : wrap64 (i + 1) = i + 1 := w64 (by omega) (by omega)
      refine Ev.step (fun k => SWAP.l0.eq_2 R G A _ _ _ _ _ k) ?_
      simp only [e1, e2, e3]
      refine Ev.pos (by omega) (Ev.pos (by omega) (Ev.pos (by omega) (Ev.pos (by omega) (Ev.pos (by omega) ?_))))
      rw [e, swapL (P := P ++ Y1) (M := X ++ M ++ X1) (by simp; omega) (by simp; omega)]
      have h := ih Y (Y1 ++ [y]) (X1 ++ [x]) a b n (i + 1) (by omega) (by simp; omega) ha (by simp; omega) (by simp; omega) (by simp; omega) (by simp; omega)
      simpa using h
theorem swap_ev (R A : Int) (G P M Q X Y : List Int) (a b n : Int) (hl : X.length = Y.length) (ha : a = (P.length : Int)) (hb : b = ((P.length + X.length + M.length : Nat) : Int)) (hn : n = (X.length : Int)) (hs : P.length + X.length + M.length + Y.length ≤ 100000) :
    Ev (fun k => SWAP.f k (P ++ (X ++ (M ++ (Y ++ Q)))) a b n R G A) (P ++ (Y ++ (M ++ (X ++ Q)))) := by
  have h := swap_loop R A G P M Q X Y [] [] a b n 0 hl rfl ha (by simp; omega) (by simp; omega) rfl (by simp; omega)
  unfold SWAP.f
  simpa using h
theorem rot_loop (R A : Int) (G : List Int) : ∀ (s : Nat) (P U V Q : List Int) (m i j : Int), U.length + V.length ≤ s → 0 < U.length → 0 < V.length → i = (U.length : Int) → j = (V.length : Int) → m = ((P.length + U.length : Nat) : Int) → P.length + U.length + V.length ≤ 100000 →
    Ev (fun k => ROT.l0 R G A k (P ++ (U ++ (V ++ Q))) m i j) (P ++ (V ++ (U ++ Q))) := by
  intro s
  induction s with
  | zero => intro P U V Q m i j hs hu; omega
  | succ s ih =>
    intro P U V Q m i j hs hu hv hi hj hm ht
    have e1 : wrap64 (m - i) = m - i := w64 (by omega) (by omega)
    have e2 : wrap64 (m + j) = m + j := w64 (by omega) (by omega)
    have e3 : wrap64 (i - j) = i - j := w64 (by omega) (by omega)
    have e4 : wrap64 (j - i) = j - i := w64 (by omega) (by omega)
    have e5 : wrap64 (m + j - i) = m + j - i := w64 (by omega) (by omega)
    refine Ev.step (fun k => ROT.l0.eq_2 R G A _ _ _ _ k) ?_
    simp only [e1, e2, e3, e4, e5]
    refine Ev.ite (fun c => ?_) (fun c => Ev.ite (fun c2 => ?_) (fun c2 => ?_))
    · have h := swap_ev R A G P [] Q U V (m - i) m i (by omega) (by omega) (by simp; omega) (by omega) (by simp; omega)
      simp only [List.nil_append] at h
      exact Ev.bind h (Ev.now _)
    · obtain ⟨U1, U2, rfl, h1⟩ : ∃ U1 U2 : List Int, U = U1 ++ U2 ∧ U1.length = V.length := ⟨U.take V.length, U.drop V.length, (List.take_append_drop _ _).symm, by rw [List.length_take]; omega⟩
      simp only [List.length_append] at hs hu hi hm ht
      have h := swap_ev R A G P U2 Q U1 V (m - i) m j (by omega) (by omega) (by omega) (by omega) (by omega)
      simp only [List.append_assoc] at h ⊢
      refine Ev.bind h ?_
      have k := ih (P ++ V) U2 U1 Q m (i - j) j (by omega) (by omega) (by omega) (by omega) (by omega) (by simp; omega) (by simp; omega)
      simpa using k
    · obtain ⟨V1, V2, rfl, h1⟩ : ∃ V1 V2 : List Int, V = V1 ++ V2 ∧ V2.length = U.length := ⟨V.take (V.length - U.length), V.drop (V.length - U.length), (List.take_append_drop _ _).symm, by rw [List.length_drop]; omega⟩
      simp only [List.length_append] at hs hv hj ht
      have h := swap_ev R A G P V1 Q U V2 (m - i) (m + j - i) i (by omega) (by omega) (by omega) (by omega) (by omega)
      simp only [List.append_assoc] at h ⊢
      refine Ev.bind h ?_
      have k := ih P V2 V1 (U ++ Q) m i (j - i) (by omega) (by omega) (by omega) (by omega) (by omega) (by omega) (by omega)
      simpa using k
theorem rot_ev (R A : Int) (G P U V Q : List Int) (a m b : Int) (hu : 0 < U.length) (hv : 0 < V.length) (ha : a = (P.length : Int)) (hm : m = ((P.length + U.length : Nat) : Int)) (hb : b = ((P.length + U.length + V.length : Nat) : Int)) (ht : P.length + U.length + V.length ≤ 100000) :
    Ev (fun k => ROT.f k (P ++ (U ++ (V ++ Q))) a m b R G A) (P ++ (V ++ (U ++ Q))) := by
  unfold ROT.f
  have e1 : wrap64 (m - a) = m - a := w64 (by omega) (by omega)
  have e2 : wrap64 (b - m) = b - m := w64 (by omega) (by omega)
  simp only [e1, e2]
  exact rot_loop R A G _ P U V Q m _ _ (Nat.le_refl _) hu hv (by omega) (by omega) hm ht
/-! Insertion. -/
theorem ins_in {R A : Int} {G : List Int} (F : Fine R G A) (P T : List Int) (a b x8 x : Int) (ha : a = (P.length : Int)) : ∀ (n : Nat) (S1 S2 : List Int) (x9 : Int), S1.length = n → (S1 ++ S2).Pairwise (bef R G A) → (∀ y ∈ S2, bef R G A x y) → (∀ y ∈ S1 ++ S2, y < x) → InG G (x :: (S1 ++ S2)) → x9 = ((P.length + S1.length : Nat) : Int) → P.length + S1.length ≤ 100000 → 0 ≤ x8 → x8 ≤ 100000 →
    ∃ S, S.Perm (x :: (S1 ++ S2)) ∧ S.Pairwise (bef R G A) ∧ ∀ r, Ev (fun k => INS.l0 R G A k (P ++ (S ++ T)) a b (x8 + 1)) r → Ev (fun k => INS.l1 R G A k (P ++ (S1 ++ x :: (S2 ++ T))) a b x8 x9) r := by
  intro n
  induction n with
  | zero =>
    intro S1 S2 x9 hn hp hx hlt hg h9 hs h80 h81
    obtain rfl : S1 = [] := List.eq_nil_of_length_eq_zero hn
    refine ⟨x :: S2, by simp, List.pairwise_cons.2 ⟨hx, by simpa using hp⟩, fun r hr => ?_⟩
    refine Ev.step (fun k => INS.l1.eq_2 R G A _ _ _ _ _ k) (Ev.neg (by rw [h9, ha]; simp) ?_)
    rw [w64 (n := x8 + 1) (by omega) (by omega)]
    simpa using hr
  | succ n ih =>
    intro S1 S2 x9 hn hp hx hlt hg h9 hs h80 h81
    obtain ⟨S0, s, rfl⟩ : ∃ S0 s, S1 = S0 ++ [s] := by
      rcases List.eq_nil_or_concat S1 with rfl | ⟨S0, s, rfl⟩
      · cases hn
      · exact ⟨S0, s, by simp⟩
    simp only [List.length_append, List.length_cons, List.length_nil] at hn h9 hs
    have hxs : s < x := hlt s (by simp)
    have gx := hg x (by simp); have gs := hg s (by simp)
    obtain ⟨t, et, ht⟩ := cmp_ev F gx gs
    have e : P ++ (S0 ++ [s] ++ x :: (S2 ++ T)) = (P ++ S0) ++ s :: (([] : List Int) ++ x :: (S2 ++ T)) := by simp
    have e1 : wrap64 (x9 - 1) = x9 - 1 := w64 (by omega) (by omega)
    have r1 : rd (P ++ (S0 ++ [s] ++ x :: (S2 ++ T))) (x9 - 1) = s := by rw [e]; exact rd_at (by simp; omega)
    have r2 : rd (P ++ (S0 ++ [s] ++ x :: (S2 ++ T))) x9 = x := by
      rw [show P ++ (S0 ++ [s] ++ x :: (S2 ++ T)) = (P ++ S0 ++ [s]) ++ x :: (S2 ++ T) by simp]; exact rd_at (by simp; omega)
    have el : ((P ++ (S0 ++ [s] ++ x :: (S2 ++ T))).length : Int) ≥ P.length + S0.length + 2 := by simp; omega
    by_cases c : remOf R G A s < remOf R G A x
    · obtain ⟨S, hS, hS2, hS3⟩ := ih S0 (s :: S2) (x9 - 1) (by omega) (by simpa using hp) (by
        intro y hy
        rcases List.mem_cons.1 hy with rfl | hy
        · exact (bef_lt hxs).1 c
        · exact hx y hy) (by intro y hy; exact hlt y (by simpa using hy)) (by intro y hy; exact hg y (by simpa using hy)) (by omega) (by omega) h80 h81
      refine ⟨S, by simpa using hS, hS2, fun r hr => ?_⟩
      refine Ev.step (fun k => INS.l1.eq_2 R G A _ _ _ _ _ k) ?_
      simp only [e1, r1, r2]
      refine Ev.pos (by omega) (Ev.pos (by omega) (Ev.pos (by omega) (Ev.pos (by omega) (Ev.pos (by omega) (Ev.const_bind et (Ev.pos (ht.2 c) ?_))))))
      have sw := swapR (P := P ++ S0) (M := []) (Q := S2 ++ T) (x := s) (y := x) (i := x9 - 1) (j := x9) (by simp; omega) (by simp; omega)
      rw [← e, r1, r2] at sw
      rw [sw]
      simpa using hS3 r hr
    · have hb : bef R G A s x := bef_not hxs (fun h => c ((bef_lt hxs).2 h))
      have hp' := List.pairwise_append.1 hp
      refine ⟨S0 ++ [s] ++ x :: S2, by simpa using List.perm_middle (l₁ := S0 ++ [s]) (a := x) (l₂ := S2), ?_, fun r hr => ?_⟩
      · refine List.pairwise_append.2 ⟨hp'.1, List.pairwise_cons.2 ⟨hx, hp'.2.1⟩, ?_⟩
        intro y hy z hz
        rcases List.mem_cons.1 hz with rfl | hz
        · rcases List.mem_append.1 hy with hy | hy
          · exact bef_trans ((List.pairwise_append.1 hp'.1).2.2 y hy s (by simp)) hb
          · obtain rfl := List.mem_singleton.1 hy; exact hb
        · exact hp'.2.2 y hy z hz
      · refine Ev.step (fun k => INS.l1.eq_2 R G A _ _ _ _ _ k) ?_
        simp only [e1, r1, r2]
        refine Ev.pos (by omega) (Ev.pos (by omega) (Ev.pos (by omega) (Ev.pos (by omega) (Ev.pos (by omega) (Ev.const_bind et (Ev.neg (fun h => c (ht.1 h)) ?_))))))
        rw [w64 (n := x8 + 1) (by omega) (by omega)]
        simpa using hr
theorem ins_loop {R A : Int} {G : List Int} (F : Fine R G A) (P Q : List Int) (a b : Int) (ha : a = (P.length : Int)) : ∀ (T S : List Int) (x8 : Int), S.Pairwise (bef R G A) → T.Pairwise (· < ·) → (∀ x ∈ S, ∀ y ∈ T, x < y) → InG G (S ++ T) → x8 = ((P.length + S.length : Nat) : Int) → b = ((P.length + S.length + T.length : Nat) : Int) → P.length + S.length + T.length ≤ 100000 →
    ∃ Z, Z.Perm (S ++ T) ∧ Z.Pairwise (bef R G A) ∧ Ev (fun k => INS.l0 R G A k (P ++ (S ++ (T ++ Q))) a b x8) (P ++ (Z ++ Q)) := by
  intro T
  induction T with
  | nil =>
    intro S x8 hS hT hST hg h8 hb hs
    refine ⟨S, by simp, hS, ?_⟩
    refine Ev.step (fun k => INS.l0.eq_2 R G A _ _ _ _ k) (Ev.neg (by rw [h8, hb]; simp) (Ev.now _))
  | cons x T ih =>
    intro S x8 hS hT hST hg h8 hb hs
    simp only [List.length_cons] at hb hs
    obtain ⟨hx, hT'⟩ := List.pairwise_cons.1 hT
    obtain ⟨S', p1, p2, p3⟩ := ins_in F P (T ++ Q) a b x8 x ha S.length S [] x8 rfl (by simpa using hS) (by simp) (by intro y hy; exact hST y (by simpa using hy) x (by simp)) (by intro y hy; refine hg y ?_; simp at hy ⊢; rcases hy with hy | hy <;> simp [hy]) h8 (by omega) (by omega) (by omega)
    have hl : S'.length = S.length + 1 := by rw [p1.length_eq]; simp
    have hm : ∀ y, y ∈ S' ↔ y = x ∨ y ∈ S := by intro y; rw [p1.mem_iff]; simp
    obtain ⟨Z, q1, q2, q3⟩ := ih S' (x8 + 1) p2 hT' (by
      intro y hy z hz
      rcases (hm y).1 hy with rfl | hy
      · exact hx z hz
      · exact hST y hy z (by simp [hz])) (by
      intro y hy
      rcases List.mem_append.1 hy with hy | hy
      · rcases (hm y).1 hy with rfl | hy
        · exact hg _ (by simp)
        · exact hg _ (by simp [hy])
      · exact hg _ (by simp [hy])) (by omega) (by omega) (by omega)
    refine ⟨Z, q1.trans ?_, q2, ?_⟩
    · exact (p1.append_right T).trans (by simpa using (List.perm_middle (l₁ := S) (a := x) (l₂ := T)).symm)
    · refine Ev.step (fun k => INS.l0.eq_2 R G A _ _ _ _ k) (Ev.pos (by omega) ?_)
      simpa using p3 _ q3
theorem ins_ev {R A : Int} {G : List Int} (F : Fine R G A) (P T Q : List Int) (a b : Int) (ha : a = (P.length : Int)) (hT : T.Pairwise (· < ·)) (hg : InG G T) (hb : b = ((P.length + T.length : Nat) : Int)) (hs : P.length + T.length ≤ 100000) :
    ∃ Z, Z.Perm T ∧ Z.Pairwise (bef R G A) ∧ Ev (fun k => INS.f k (P ++ (T ++ Q)) a b R G A) (P ++ (Z ++ Q)) := by
  unfold INS.f
  rw [w64 (n := a + 1) (by omega) (by omega)]
  cases T with
  | nil => exact ⟨[], List.Perm.nil, List.Pairwise.nil, Ev.step (fun k => INS.l0.eq_2 R G A _ _ _ _ k) (Ev.neg (by rw [ha, hb]; simp; omega) (Ev.now _))⟩
  | cons x T =>
    obtain ⟨hx, hT'⟩ := List.pairwise_cons.1 hT
    simpa using ins_loop F P Q a b ha T [x] (a + 1) (by simp) hT' (by simpa using hx) hg (by simp; omega) (by simp at hb ⊢; omega) (by simp at hs ⊢; omega)
/-! The merge. -/
theorem u64_id {s : Int} (h0 : 0 ≤ s) (h1 : s ≤ 1000000) : IntKind.u64.wrap s = s := by
  show s % _ = s
  exact Int.emod_eq_of_lt h0 (by show s < 18446744073709551616; omega)
theorem mid_eq {s : Int} (h0 : 0 ≤ s) (h1 : s ≤ 1000000) : wrap64 (IntKind.u64.wrap (wrap64 s) / 2) = s / 2 := by
  rw [w64 (n := s) (by omega) (by omega), u64_id h0 h1, w64 (by omega) (by omega)]
theorem rd_g {P B Q : List Int} {t : Nat} (ht : t < B.length) {i : Int} (hi : i = ((P.length + t : Nat) : Int)) : rd (P ++ (B ++ Q)) i = B.getD t 0 := by
  rw [rd_mid ht hi]; simp [List.getD_eq_getElem?_getD, List.getElem?_eq_getElem ht]
theorem g_mem {B : List Int} {t : Nat} (ht : t < B.length) : B.getD t 0 ∈ B := by
  simp [List.getD_eq_getElem?_getD, List.getElem?_eq_getElem ht]
theorem pw_g {B : List Int} {r : Int → Int → Prop} (h : B.Pairwise r) {i j : Nat} (hij : i < j) (hj : j < B.length) : r (B.getD i 0) (B.getD j 0) := by
  have := List.pairwise_iff_getElem.1 h i j (by omega) hj hij
  simpa [List.getD_eq_getElem?_getD, List.getElem?_eq_getElem hj, List.getElem?_eq_getElem (show i < B.length by omega)] using this
theorem g_take {B : List Int} {e : Nat} {y : Int} (h : y ∈ B.take e) : ∃ t, t < e ∧ t < B.length ∧ B.getD t 0 = y := by
  obtain ⟨t, ht, rfl⟩ := List.getElem_of_mem h
  rw [List.length_take] at ht
  exact ⟨t, by omega, by omega, by simp [List.getD_eq_getElem?_getD, List.getElem?_eq_getElem (show t < B.length by omega)]⟩
theorem g_drop {B : List Int} {e : Nat} {y : Int} (h : y ∈ B.drop e) : ∃ t, e ≤ t ∧ t < B.length ∧ B.getD t 0 = y := by
  obtain ⟨t, ht, rfl⟩ := List.getElem_of_mem h
  rw [List.length_drop] at ht
  exact ⟨e + t, by omega, by omega, by simp [List.getD_eq_getElem?_getD, List.getElem?_eq_getElem (show e + t < B.length by omega)]⟩
theorem put_sorted {R A x : Int} {G B : List Int} {e : Nat} (hB : B.Pairwise (bef R G A)) (h0 : ∀ t, t < B.length → t < e → bef R G A (B.getD t 0) x) (h1 : ∀ t, t < B.length → e ≤ t → bef R G A x (B.getD t 0)) : (B.take e ++ x :: B.drop e).Pairwise (bef R G A) := by
  have hB' : (B.take e ++ B.drop e).Pairwise (bef R G A) := by rw [List.take_append_drop]; exact hB
  obtain ⟨p1, p2, p3⟩ := List.pairwise_append.1 hB'
  refine List.pairwise_append.2 ⟨p1, List.pairwise_cons.2 ⟨?_, p2⟩, ?_⟩
  · intro y hy; obtain ⟨t, a, b, rfl⟩ := g_drop hy; exact h1 t b a
  · intro y hy z hz
    rcases List.mem_cons.1 hz with rfl | hz
    · obtain ⟨t, a, b, rfl⟩ := g_take hy; exact h0 t b a
    · exact p3 y hy z hz
theorem move_right (R A : Int) (G : List Int) (x : Int) (Q : List Int) : ∀ (Y P : List Int) (i c : Int), c = (P.length : Int) → i = ((P.length + 1 + Y.length : Nat) : Int) → P.length + Y.length ≤ 100000 →
    Ev (fun k => SYM.l1 R G A k (P ++ x :: (Y ++ Q)) i c) (P ++ (Y ++ x :: Q)) := by
  intro Y
  induction Y with
  | nil =>
    intro P i c hc hi hs
    refine Ev.step (fun k => SYM.l1.eq_2 R G A _ _ _ k) (Ev.neg ?_ (Ev.now _))
    rw [w64 (n := i - 1) (by omega) (by omega)]; simp at hi; omega
  | cons y Y ih =>
    intro P i c hc hi hs
    simp only [List.length_cons] at hi hs
    have e1 := Aside0.mk (show wrap64 (i - 1) = i - 1 from w64 (by omega) (by omega))
    have e2 := Aside0.mk (show wrap64 (c + 1) = c + 1 from w64 (by omega) (by omega))
    have el : ((P ++ x :: (y :: Y ++ Q)).length : Int) ≥ P.length + 2 := by simp; omega
    refine Ev.step (fun k => SYM.l1.eq_2 R G A _ _ _ k) ?_
    simp only [e1.out, e2.out]
    refine Ev.pos (by omega) (Ev.pos (by omega) (Ev.pos (by omega) (Ev.pos (by omega) (Ev.pos (by omega) ?_))))
    have sw := swapL (P := P) (M := []) (Q := Y ++ Q) (x := x) (y := y) (i := c) (j := c + 1) hc (by simp; omega)
    simp only [List.nil_append] at sw
    rw [List.cons_append, sw]
    have h := ih (P ++ [y]) i (c + 1) (by simp; omega) (by simp; omega) (by simp; omega)
    simpa using h
theorem move_left (R A : Int) (G : List Int) (y : Int) : ∀ (n : Nat) (X P Q : List Int) (i c : Int), X.length = n → i = (P.length : Int) → c = ((P.length + X.length : Nat) : Int) → P.length + X.length ≤ 100000 →
    Ev (fun k => SYM.l3 R G A k (P ++ (X ++ y :: Q)) i c) (P ++ y :: (X ++ Q)) := by
  intro n
  induction n with
  | zero =>
    intro X P Q i c hn hi hc hs
    obtain rfl : X = [] := List.eq_nil_of_length_eq_zero hn
    exact Ev.step (fun k => SYM.l3.eq_2 R G A _ _ _ k) (Ev.neg (by rw [hi, hc]; simp) (Ev.now _))
  | succ n ih =>
    intro X P Q i c hn hi hc hs
    obtain ⟨S0, s, rfl⟩ : ∃ S0 s, X = S0 ++ [s] := by
      rcases List.eq_nil_or_concat X with rfl | ⟨S0, s, rfl⟩
      · cases hn
      · exact ⟨S0, s, by simp⟩
    simp only [List.length_append, List.length_cons, List.length_nil] at hn hc hs
    have e1 := Aside0.mk (show wrap64 (c - 1) = c - 1 from w64 (by omega) (by omega))
    have el : ((P ++ (S0 ++ [s] ++ y :: Q)).length : Int) ≥ P.length + S0.length + 2 := by simp; omega
    refine Ev.step (fun k => SYM.l3.eq_2 R G A _ _ _ k) ?_
    simp only [e1.out]
    refine Ev.pos (by omega) (Ev.pos (by omega) (Ev.pos (by omega) (Ev.pos (by omega) (Ev.pos (by omega) ?_))))
    have sw := swapR (P := P ++ S0) (M := []) (Q := Q) (x := s) (y := y) (i := c - 1) (j := c) (by simp; omega) (by simp; omega)
    have e : P ++ (S0 ++ [s] ++ y :: Q) = (P ++ S0) ++ s :: (([] : List Int) ++ y :: Q) := by simp
    rw [e, sw]
    have h := ih S0 P (s :: Q) i (c - 1) (by omega) hi (by omega) (by omega)
    simpa using h
theorem search0 {R A : Int} {G : List Int} (F : Fine R G A) (P B Q : List Int) (x a : Int) (ha : a = (P.length : Int)) (hB : B.Pairwise (bef R G A)) (hx : ∀ y ∈ B, x < y) (hg : InG G (x :: B)) (hs : P.length + B.length ≤ 100000) : ∀ (n p q : Nat) (i j : Int), q - p ≤ n → p ≤ q → q ≤ B.length → i = ((P.length + 1 + p : Nat) : Int) → j = ((P.length + 1 + q : Nat) : Int) → (∀ t, t < B.length → t < p → bef R G A (B.getD t 0) x) → (∀ t, t < B.length → q ≤ t → bef R G A x (B.getD t 0)) →
    ∃ e : Nat, e ≤ B.length ∧ (∀ t, t < B.length → t < e → bef R G A (B.getD t 0) x) ∧ (∀ t, t < B.length → e ≤ t → bef R G A x (B.getD t 0)) ∧ ∀ r, Ev (fun k => SYM.l1 R G A k (P ++ x :: (B ++ Q)) ((P.length + 1 + e : Nat) : Int) a) r → Ev (fun k => SYM.l0 R G A k (P ++ x :: (B ++ Q)) a i j) r := by
  intro n
  induction n with
  | zero =>
    intro p q i j hn hpq hq hi hj h0 h1
    obtain rfl : p = q := by omega
    exact ⟨p, hq, h0, h1, fun r hr => Ev.step (fun k => SYM.l0.eq_2 R G A _ _ _ _ k) (Ev.neg (by omega) (by rw [hi]; exact hr))⟩
  | succ n ih =>
    intro p q i j hn hpq hq hi hj h0 h1
    by_cases hlt : p < q
    · obtain ⟨h, hh⟩ : ∃ h : Nat, ((P.length + 1 + h : Nat) : Int) = (i + j) / 2 := ⟨((i + j) / 2 - P.length - 1).toNat, by omega⟩
      have hp : p ≤ h := by omega
      have hq' : h < q := by omega
      have e1 := Aside0.mk (show wrap64 (IntKind.u64.wrap (wrap64 (i + j)) / 2) = ((P.length + 1 + h : Nat) : Int) from (mid_eq (by omega) (by omega)).trans hh.symm)
      have e2 := Aside0.mk (show wrap64 (((P.length + 1 + h : Nat) : Int) + 1) = ((P.length + 1 + (h + 1) : Nat) : Int) from by rw [w64 (by omega) (by omega)]; omega)
      have r1 := Aside0.mk (show rd (P ++ x :: (B ++ Q)) ((P.length + 1 + h : Nat) : Int) = B.getD h 0 from by
        rw [show P ++ x :: (B ++ Q) = (P ++ [x]) ++ (B ++ Q) by simp]
        exact rd_g (by omega) (by simp))
      have r2 := Aside0.mk (show rd (P ++ x :: (B ++ Q)) a = x from rd_at ha)
      have hm := g_mem (B := B) (t := h) (by omega)
      obtain ⟨t, et, ht⟩ := cmp_ev F (hg _ (List.mem_cons_of_mem _ hm)) (hg x (by simp))
      have ht' := ht.trans (bef_lt (hx _ hm))
      have el : ((P ++ x :: (B ++ Q)).length : Int) ≥ P.length + 1 + B.length := by simp; omega
      by_cases c : bef R G A (B.getD h 0) x
      · obtain ⟨e, he, g0, g1, g2⟩ := ih (h + 1) q _ j (by omega) (by omega) hq rfl hj (by
          intro s hs1 hs2
          by_cases hsh : s = h
          · subst hsh; exact c
          · exact bef_trans (pw_g hB (show s < h by omega) (by omega)) c) h1
        refine ⟨e, he, g0, g1, fun r hr => ?_⟩
        refine Ev.step (fun k => SYM.l0.eq_2 R G A _ _ _ _ k) ?_
        simp only [e1.out, e2.out, r1.out, r2.out]
        exact Ev.pos (by omega) (Ev.pos (by omega) (Ev.pos (by omega) (Ev.pos (by omega) (Ev.pos (by omega) (Ev.const_bind et (Ev.pos (ht'.2 c) (g2 r hr)))))))
      · obtain ⟨e, he, g0, g1, g2⟩ := ih p h i _ (by omega) (by omega) (by omega) hi rfl h0 (by
          intro s hs1 hs2
          have cb := bef_not (hx _ hm) c
          by_cases hsh : s = h
          · subst hsh; exact cb
          · exact bef_trans cb (pw_g hB (show h < s by omega) (by omega)))
        refine ⟨e, he, g0, g1, fun r hr => ?_⟩
        refine Ev.step (fun k => SYM.l0.eq_2 R G A _ _ _ _ k) ?_
        simp only [e1.out, e2.out, r1.out, r2.out]
        exact Ev.pos (by omega) (Ev.pos (by omega) (Ev.pos (by omega) (Ev.pos (by omega) (Ev.pos (by omega) (Ev.const_bind et (Ev.neg (fun hc => c (ht'.1 hc)) (g2 r hr)))))))
    · obtain rfl : p = q := by omega
      exact ⟨p, hq, h0, h1, fun r hr => Ev.step (fun k => SYM.l0.eq_2 R G A _ _ _ _ k) (Ev.neg (by omega) (by rw [hi]; exact hr))⟩
theorem search2 {R A : Int} {G : List Int} (F : Fine R G A) (P B Q : List Int) (y m : Int) (hm' : m = ((P.length + B.length : Nat) : Int)) (hB : B.Pairwise (bef R G A)) (hx : ∀ x ∈ B, x < y) (hg : InG G (y :: B)) (hs : P.length + B.length ≤ 100000) : ∀ (n p q : Nat) (i j : Int), q - p ≤ n → p ≤ q → q ≤ B.length → i = ((P.length + p : Nat) : Int) → j = ((P.length + q : Nat) : Int) → (∀ t, t < B.length → t < p → bef R G A (B.getD t 0) y) → (∀ t, t < B.length → q ≤ t → bef R G A y (B.getD t 0)) →
    ∃ e : Nat, e ≤ B.length ∧ (∀ t, t < B.length → t < e → bef R G A (B.getD t 0) y) ∧ (∀ t, t < B.length → e ≤ t → bef R G A y (B.getD t 0)) ∧ ∀ r, Ev (fun k => SYM.l3 R G A k (P ++ (B ++ y :: Q)) ((P.length + e : Nat) : Int) m) r → Ev (fun k => SYM.l2 R G A k (P ++ (B ++ y :: Q)) m i j) r := by
  intro n
  induction n with
  | zero =>
    intro p q i j hn hpq hq hi hj h0 h1
    obtain rfl : p = q := by omega
    exact ⟨p, hq, h0, h1, fun r hr => Ev.step (fun k => SYM.l2.eq_2 R G A _ _ _ _ k) (Ev.neg (by omega) (by rw [hi]; exact hr))⟩
  | succ n ih =>
    intro p q i j hn hpq hq hi hj h0 h1
    by_cases hlt : p < q
    · obtain ⟨h, hh⟩ : ∃ h : Nat, ((P.length + h : Nat) : Int) = (i + j) / 2 := ⟨((i + j) / 2 - P.length).toNat, by omega⟩
      have hp : p ≤ h := by omega
      have hq' : h < q := by omega
      have e1 := Aside0.mk (show wrap64 (IntKind.u64.wrap (wrap64 (i + j)) / 2) = ((P.length + h : Nat) : Int) from (mid_eq (by omega) (by omega)).trans hh.symm)
      have e2 := Aside0.mk (show wrap64 (((P.length + h : Nat) : Int) + 1) = ((P.length + (h + 1) : Nat) : Int) from by rw [w64 (by omega) (by omega)]; omega)
      have r1 := Aside0.mk (show rd (P ++ (B ++ y :: Q)) ((P.length + h : Nat) : Int) = B.getD h 0 from rd_g (by omega) rfl)
      have r2 := Aside0.mk (show rd (P ++ (B ++ y :: Q)) m = y from by
        rw [show P ++ (B ++ y :: Q) = (P ++ B) ++ y :: Q by simp]
        exact rd_at (by simp; omega))
      have hm := g_mem (B := B) (t := h) (by omega)
      obtain ⟨t, et, ht⟩ := cmp_ev F (hg y (by simp)) (hg _ (List.mem_cons_of_mem _ hm))
      have ht' := ht.trans (bef_lt (hx _ hm))
      have el : ((P ++ (B ++ y :: Q)).length : Int) ≥ P.length + B.length + 1 := by simp; omega
      by_cases c : bef R G A y (B.getD h 0)
      · obtain ⟨e, he, g0, g1, g2⟩ := ih p h i _ (by omega) (by omega) (by omega) hi rfl h0 (by
          intro s hs1 hs2
          by_cases hsh : s = h
          · subst hsh; exact c
          · exact bef_trans c (pw_g hB (show h < s by omega) (by omega)))
        refine ⟨e, he, g0, g1, fun r hr => ?_⟩
        refine Ev.step (fun k => SYM.l2.eq_2 R G A _ _ _ _ k) ?_
        simp only [e1.out, e2.out, r1.out, r2.out]
        exact Ev.pos (by omega) (Ev.pos (by omega) (Ev.pos (by omega) (Ev.pos (by omega) (Ev.pos (by omega) (Ev.const_bind et (Ev.pos (ht'.2 c) (g2 r hr)))))))
      · obtain ⟨e, he, g0, g1, g2⟩ := ih (h + 1) q _ j (by omega) (by omega) hq rfl hj (by
          intro s hs1 hs2
          have cb := bef_not (hx _ hm) c
          by_cases hsh : s = h
          · subst hsh; exact cb
          · exact bef_trans (pw_g hB (show s < h by omega) (by omega)) cb) h1
        refine ⟨e, he, g0, g1, fun r hr => ?_⟩
        refine Ev.step (fun k => SYM.l2.eq_2 R G A _ _ _ _ k) ?_
        simp only [e1.out, e2.out, r1.out, r2.out]
        exact Ev.pos (by omega) (Ev.pos (by omega) (Ev.pos (by omega) (Ev.pos (by omega) (Ev.pos (by omega) (Ev.const_bind et (Ev.neg (fun hc => c (ht'.1 hc)) (g2 r hr)))))))
    · obtain rfl : p = q := by omega
      exact ⟨p, hq, h0, h1, fun r hr => Ev.step (fun k => SYM.l2.eq_2 R G A _ _ _ _ k) (Ev.neg (by omega) (by rw [hi]; exact hr))⟩
theorem search4 {R A : Int} {G : List Int} (F : Fine R G A) (P L V Q : List Int) (a m b md : Int) (hm0 : Nat) (s0 r0 : Nat) (ha : a = (P.length : Int)) (hm : m = ((P.length + L.length : Nat) : Int)) (hb : b = ((P.length + L.length + V.length : Nat) : Int)) (hmd : md = ((P.length + hm0 : Nat) : Int)) (hh : hm0 = (L.length + V.length) / 2)
    (hx : ∀ x ∈ L, ∀ y ∈ V, x < y) (hgL : InG G L) (hgV : InG G V) (hs : P.length + L.length + V.length ≤ 100000) (hs0 : hm0 < L.length ∧ s0 = hm0 - V.length ∧ V.length ≤ hm0 ∧ r0 = hm0 ∨ L.length ≤ hm0 ∧ s0 = 0 ∧ r0 = L.length) : ∀ (n p q : Nat) (i j : Int), q - p ≤ n → s0 ≤ p → p ≤ q → q ≤ r0 → i = ((P.length + p : Nat) : Int) → j = ((P.length + q : Nat) : Int) → (p = s0 ∨ bef R G A (L.getD (p - 1) 0) (V.getD (hm0 - p) 0)) → (q = r0 ∨ bef R G A (V.getD (hm0 - 1 - q) 0) (L.getD q 0)) →
    ∃ e : Nat, s0 ≤ e ∧ e ≤ r0 ∧ (e = s0 ∨ bef R G A (L.getD (e - 1) 0) (V.getD (hm0 - e) 0)) ∧ (e = r0 ∨ bef R G A (V.getD (hm0 - 1 - e) 0) (L.getD e 0)) ∧
      ∀ r, Ev (fun k => SYM.j6 R G A k (P ++ (L ++ (V ++ Q))) a m b md ((P.length + e : Nat) : Int) ((P.length + hm0 + L.length - e : Nat) : Int) (decide (e < L.length) && decide (e < hm0))) r → Ev (fun k => SYM.l4 R G A k (P ++ (L ++ (V ++ Q))) a m b md (md + m) i j (md + m - 1)) r := by
  have fin : ∀ (p : Nat) (i j : Int), s0 ≤ p → p ≤ r0 → i = ((P.length + p : Nat) : Int) → j = ((P.length + p : Nat) : Int) → ∀ r, Ev (fun k => SYM.j6 R G A k (P ++ (L ++ (V ++ Q))) a m b md ((P.length + p : Nat) : Int) ((P.length + hm0 + L.length - p : Nat) : Int) (decide (p < L.length) && decide (p < hm0))) r → Ev (fun k => SYM.l4 R G A k (P ++ (L ++ (V ++ Q))) a m b md (md + m) i j (md + m - 1)) r := by
    intro p i j h0 h1 hi hj r hr
    have e1 := Aside0.mk (show wrap64 (md + m - i) = ((P.length + hm0 + L.length - p : Nat) : Int) from by rw [w64 (by omega) (by omega)]; omega)
    refine Ev.step (fun k => SYM.l4.eq_2 R G A _ _ _ _ _ _ _ _ _ k) (Ev.neg (by omega) ?_)
    simp only [e1.out]
    by_cases c : p < L.length
    · refine Ev.pos (by omega) ?_
      rw [show decide (m < ((P.length + hm0 + L.length - p : Nat) : Int)) = (decide (p < L.length) && decide (p < hm0)) from by rw [Bool.eq_iff_iff]; simp; omega, hi]
      exact hr
    · refine Ev.neg (by omega) ?_
      rw [show (decide (p < L.length) && decide (p < hm0)) = false from by simp; omega] at hr
      rw [hi]; exact hr
  intro n
  induction n with
  | zero =>
    intro p q i j hn hs0' hpq hq hi hj h0 h1
    obtain rfl : p = q := by omega
    exact ⟨p, hs0', hq, h0, h1, fin p i j hs0' hq hi hj⟩
  | succ n ih =>
    intro p q i j hn hs0' hpq hq hi hj h0 h1
    by_cases hlt : p < q
    · obtain ⟨h, hh'⟩ : ∃ h : Nat, ((P.length + h : Nat) : Int) = (i + j) / 2 := ⟨((i + j) / 2 - P.length).toNat, by omega⟩
      have hp : p ≤ h := by omega
      have hq' : h < q := by omega
      have hL : h < L.length := by omega
      have hV : hm0 - 1 - h < V.length := by omega
      have hhm : h < hm0 := by omega
      have e1 := Aside0.mk (show wrap64 (IntKind.u64.wrap (wrap64 (i + j)) / 2) = ((P.length + h : Nat) : Int) from (mid_eq (by omega) (by omega)).trans hh'.symm)
      have e2 := Aside0.mk (show wrap64 (((P.length + h : Nat) : Int) + 1) = ((P.length + (h + 1) : Nat) : Int) from by rw [w64 (by omega) (by omega)]; omega)
      have e3 := Aside0.mk (show wrap64 (md + m - 1 - ((P.length + h : Nat) : Int)) = (((P ++ L).length + (hm0 - 1 - h) : Nat) : Int) from by rw [w64 (by omega) (by omega)]; simp; omega)
      have r1 := Aside0.mk (show rd (P ++ (L ++ (V ++ Q))) ((P.length + h : Nat) : Int) = L.getD h 0 from rd_g hL rfl)
      have r2 := Aside0.mk (show rd (P ++ (L ++ (V ++ Q))) (((P ++ L).length + (hm0 - 1 - h) : Nat) : Int) = V.getD (hm0 - 1 - h) 0 from by
        rw [show P ++ (L ++ (V ++ Q)) = (P ++ L) ++ (V ++ Q) by simp]
        exact rd_g hV rfl)
      have hl : L.getD h 0 ∈ L := g_mem hL
      have hv : V.getD (hm0 - 1 - h) 0 ∈ V := g_mem hV
      obtain ⟨t, et, ht⟩ := cmp_ev F (hgV _ hv) (hgL _ hl)
      have ht' := ht.trans (bef_lt (hx _ hl _ hv))
      have el : ((P ++ (L ++ (V ++ Q))).length : Int) ≥ P.length + L.length + V.length := by simp; omega
      have el2 : ((P ++ L).length + (hm0 - 1 - h) : Nat) = P.length + L.length + (hm0 - 1 - h) := by simp
      by_cases c : bef R G A (V.getD (hm0 - 1 - h) 0) (L.getD h 0)
      · obtain ⟨e, he, he2, g0, g1, g2⟩ := ih p h i _ (by omega) hs0' (by omega) (by omega) hi rfl h0 (.inr c)
        refine ⟨e, he, he2, g0, g1, fun r hr => ?_⟩
        refine Ev.step (fun k => SYM.l4.eq_2 R G A _ _ _ _ _ _ _ _ _ k) ?_
        simp only [e1.out, e2.out, e3.out, r1.out, r2.out]
        exact Ev.pos (by omega) (Ev.pos (by omega) (Ev.pos (by omega) (Ev.pos (by omega) (Ev.pos (by omega) (Ev.const_bind et (Ev.pos (ht'.2 c) (g2 r hr)))))))
      · have cb := bef_not (hx _ hl _ hv) c
        obtain ⟨e, he, he2, g0, g1, g2⟩ := ih (h + 1) q _ j (by omega) (by omega) (by omega) hq rfl hj (.inr (by
          rw [show h + 1 - 1 = h by omega, show hm0 - (h + 1) = hm0 - 1 - h by omega]; exact cb)) h1
        refine ⟨e, he, he2, g0, g1, fun r hr => ?_⟩
        refine Ev.step (fun k => SYM.l4.eq_2 R G A _ _ _ _ _ _ _ _ _ k) ?_
        simp only [e1.out, e2.out, e3.out, r1.out, r2.out]
        exact Ev.pos (by omega) (Ev.pos (by omega) (Ev.pos (by omega) (Ev.pos (by omega) (Ev.pos (by omega) (Ev.const_bind et (Ev.neg (fun hc => c (ht'.1 hc)) (g2 r hr)))))))
    · obtain rfl : p = q := by omega
      exact ⟨p, hs0', hq, h0, h1, fin p i j hs0' hq hi hj⟩
theorem le_last {R A : Int} {G B : List Int} (hB : B.Pairwise (bef R G A)) {i j : Nat} (h : i ≤ j) (hj : j < B.length) {z : Int} (k : bef R G A (B.getD j 0) z) : bef R G A (B.getD i 0) z := by
  by_cases e : i = j
  · subst e; exact k
  · exact bef_trans (pw_g hB (by omega) hj) k
theorem le_first {R A : Int} {G B : List Int} (hB : B.Pairwise (bef R G A)) {i j : Nat} (h : j ≤ i) (hi : i < B.length) {z : Int} (k : bef R G A z (B.getD j 0)) : bef R G A z (B.getD i 0) := by
  by_cases e : i = j
  · subst e; exact k
  · exact bef_trans k (pw_g hB (by omega) hi)
theorem InG.app {G X Y : List Int} (h : InG G X) (k : InG G Y) : InG G (X ++ Y) := by
  intro x hx
  rcases List.mem_append.1 hx with hx | hx
  · exact h x hx
  · exact k x hx
theorem sym_ev {R A : Int} {G : List Int} (F : Fine R G A) : ∀ (s : Nat) (P L V Q : List Int) (a m b : Int), L.length + V.length ≤ s → 0 < L.length → 0 < V.length → L.Pairwise (bef R G A) → V.Pairwise (bef R G A) → (∀ x ∈ L, ∀ y ∈ V, x < y) → InG G L → InG G V → a = (P.length : Int) → m = ((P.length + L.length : Nat) : Int) → b = ((P.length + L.length + V.length : Nat) : Int) → P.length + L.length + V.length ≤ 100000 →
    ∃ Z, Z.Perm (L ++ V) ∧ Z.Pairwise (bef R G A) ∧ Ev (fun k => SYM.f k (P ++ (L ++ (V ++ Q))) a m b R G A) (P ++ (Z ++ Q)) := by
  intro s
  induction s with
  | zero => intro P L V Q a m b hs hl; omega
  | succ s ih =>
    intro P L V Q a m b hs hl hv hL hV hx hgL hgV ha hm hb hn
    have w1 := Aside0.mk (show wrap64 (m - a) = m - a from w64 (by omega) (by omega))
    have w2 := Aside0.mk (show wrap64 (b - m) = b - m from w64 (by omega) (by omega))
    by_cases c1 : m - a = 1
    · -- one ahead of the rest
      obtain ⟨x, rfl⟩ : ∃ x, L = [x] := by
        match L, hl, hm with
        | [x], _, _ => exact ⟨x, rfl⟩
        | _ :: _ :: _, _, hm => simp at hm; omega
      obtain ⟨e, he, g0, g1, g2⟩ := search0 F P V Q x a ha hV (by intro y hy; exact hx x (by simp) y hy) (hgL.app hgV) (by simp at hn; omega) V.length 0 V.length m b (by omega) (by omega) (by omega) (by simp at hm ⊢; omega) (by simp at hb ⊢; omega) (by intro t _ h; omega) (by intro t h h'; omega)
      refine ⟨V.take e ++ x :: V.drop e, ?_, put_sorted hV g0 g1, ?_⟩
      · have := (List.perm_middle (l₁ := V.take e) (a := x) (l₂ := V.drop e))
        rw [List.take_append_drop] at this
        simpa using this
      · refine Ev.step (fun k => SYM.f.eq_2 _ _ _ _ _ _ _ k) ?_
        simp only [w1.out, w2.out]
        refine Ev.pos c1 ?_
        have h := g2 (P ++ (V.take e ++ x :: V.drop e ++ Q)) (by
          have h := move_right R A G x (V.drop e ++ Q) (V.take e) P ((P.length + 1 + e : Nat) : Int) a ha (by rw [List.length_take, Nat.min_eq_left he]) (by simp at hn ⊢; omega)
          have e1 : V.take e ++ (V.drop e ++ Q) = V ++ Q := by rw [← List.append_assoc, List.take_append_drop]
          rw [e1] at h
          simpa using h)
        simpa using h
    · by_cases c2 : b - m = 1
      · obtain ⟨y, rfl⟩ : ∃ y, V = [y] := by
          match V, hv, hb with
          | [y], _, _ => exact ⟨y, rfl⟩
          | _ :: _ :: _, _, hb => simp at hb; omega
        obtain ⟨e, he, g0, g1, g2⟩ := search2 F P L Q y m hm hL (by intro x hx'; exact hx x hx' y (by simp)) (by intro z hz; rcases List.mem_cons.1 hz with rfl | hz; exact hgV _ (by simp); exact hgL _ hz) (by omega) L.length 0 L.length a m (by omega) (by omega) (by omega) (by simp; omega) (by omega) (by intro t _ h; omega) (by intro t h h'; omega)
        refine ⟨L.take e ++ y :: L.drop e, ?_, put_sorted hL g0 g1, ?_⟩
        · have := (List.perm_middle (l₁ := L.take e) (a := y) (l₂ := L.drop e))
          rw [List.take_append_drop] at this
          exact this.trans (by simpa using (List.perm_append_comm (l₁ := [y]) (l₂ := L)))
        · refine Ev.step (fun k => SYM.f.eq_2 _ _ _ _ _ _ _ k) ?_
          simp only [w1.out, w2.out]
          refine Ev.neg c1 (Ev.pos c2 ?_)
          have h := g2 (P ++ (L.take e ++ y :: L.drop e ++ Q)) (by
            have h := move_left R A G y (L.drop e).length (L.drop e) (P ++ L.take e) Q ((P.length + e : Nat) : Int) m rfl (by rw [List.length_append, List.length_take, Nat.min_eq_left he]) (by rw [List.length_append, List.length_take, List.length_drop, Nat.min_eq_left he]; omega) (by rw [List.length_append, List.length_take, List.length_drop, Nat.min_eq_left he]; omega)
            have e1 : P ++ L.take e ++ (L.drop e ++ y :: Q) = P ++ (L ++ y :: Q) := by rw [List.append_assoc, ← List.append_assoc (L.take e), List.take_append_drop]
            rw [e1] at h
            simpa using h)
          simpa using h
      · -- the general case
        obtain ⟨hm0, hh⟩ : ∃ hm0 : Nat, hm0 = (L.length + V.length) / 2 := ⟨_, rfl⟩
        have md := Aside0.mk (show wrap64 (IntKind.u64.wrap (wrap64 (a + b)) / 2) = ((P.length + hm0 : Nat) : Int) from by rw [mid_eq (by omega) (by omega)]; omega)
        have w3 := Aside0.mk (show wrap64 (((P.length + hm0 : Nat) : Int) + m) = ((P.length + hm0 : Nat) : Int) + m from w64 (by omega) (by omega))
        have w4 := Aside0.mk (show wrap64 (((P.length + hm0 : Nat) : Int) + m - b) = ((P.length + hm0 : Nat) : Int) + m - b from w64 (by omega) (by omega))
        have w5 := Aside0.mk (show wrap64 (((P.length + hm0 : Nat) : Int) + m - 1) = ((P.length + hm0 : Nat) : Int) + m - 1 from w64 (by omega) (by omega))
        obtain ⟨s0, r0, hs0, hj4⟩ : ∃ s0 r0 : Nat, (hm0 < L.length ∧ s0 = hm0 - V.length ∧ V.length ≤ hm0 ∧ r0 = hm0 ∨ L.length ≤ hm0 ∧ s0 = 0 ∧ r0 = L.length) ∧ ∀ r, Ev (fun k => SYM.l4 R G A k (P ++ (L ++ (V ++ Q))) a m b ((P.length + hm0 : Nat) : Int) (((P.length + hm0 : Nat) : Int) + m) ((P.length + s0 : Nat) : Int) ((P.length + r0 : Nat) : Int) (((P.length + hm0 : Nat) : Int) + m - 1)) r → Ev (fun k => SYM.f k (P ++ (L ++ (V ++ Q))) a m b R G A) r := by
          by_cases c3 : hm0 < L.length
          · refine ⟨hm0 - V.length, hm0, .inl ⟨c3, rfl, by omega, rfl⟩, fun r hr => ?_⟩
            refine Ev.step (fun k => SYM.f.eq_2 _ _ _ _ _ _ _ k) ?_
            simp only [w1.out, w2.out, md.out, w3.out, w4.out]
            refine Ev.neg c1 (Ev.neg c2 (Ev.pos (by omega) (Ev.step (fun k => SYM.j4.eq_2 R G A _ _ _ _ _ _ _ _ k) ?_)))
            simp only [w5.out]
            rw [show ((P.length + hm0 : Nat) : Int) + m - b = ((P.length + (hm0 - V.length) : Nat) : Int) by omega]
            exact hr
          · refine ⟨0, L.length, .inr ⟨by omega, rfl, rfl⟩, fun r hr => ?_⟩
            refine Ev.step (fun k => SYM.f.eq_2 _ _ _ _ _ _ _ k) ?_
            simp only [w1.out, w2.out, md.out, w3.out, w4.out]
            refine Ev.neg c1 (Ev.neg c2 (Ev.neg (by omega) (Ev.step (fun k => SYM.j4.eq_2 R G A _ _ _ _ _ _ _ _ k) ?_)))
            simp only [w5.out]
            rw [ha, hm] at hr ⊢
            exact hr
        obtain ⟨e, he1, he2, g0, g1, g2⟩ := search4 F P L V Q a m b _ hm0 s0 r0 ha hm hb rfl hh hx hgL hgV hn hs0 (r0 - s0) s0 r0 _ _ (by omega) (by omega) (by omega) (by omega) rfl rfl (.inl rfl) (.inl rfl)
        have heL : e ≤ L.length := by omega
        have heV : hm0 - e ≤ V.length := by omega
        have hehm : e ≤ hm0 := by omega
        obtain ⟨L1, L2, eL, l1, l2⟩ : ∃ L1 L2 : List Int, L = L1 ++ L2 ∧ L1 = L.take e ∧ L2 = L.drop e := ⟨_, _, (List.take_append_drop _ _).symm, rfl, rfl⟩
        obtain ⟨V1, V2, eV, v1, v2⟩ : ∃ V1 V2 : List Int, V = V1 ++ V2 ∧ V1 = V.take (hm0 - e) ∧ V2 = V.drop (hm0 - e) := ⟨_, _, (List.take_append_drop _ _).symm, rfl, rfl⟩
        have nL1 : L1.length = e := by rw [l1, List.length_take]; omega
        have nL2 : L2.length = L.length - e := by rw [l2, List.length_drop]
        have nV1 : V1.length = hm0 - e := by rw [v1, List.length_take]; omega
        have nV2 : V2.length = V.length - (hm0 - e) := by rw [v2, List.length_drop]
        have sL := List.pairwise_append.1 (eL ▸ hL)
        have sV := List.pairwise_append.1 (eV ▸ hV)
        have mL1 : ∀ x ∈ L1, x ∈ L := fun x h => by rw [eL]; simp [h]
        have mL2 : ∀ x ∈ L2, x ∈ L := fun x h => by rw [eL]; simp [h]
        have mV1 : ∀ x ∈ V1, x ∈ V := fun x h => by rw [eV]; simp [h]
        have mV2 : ∀ x ∈ V2, x ∈ V := fun x h => by rw [eV]; simp [h]
        -- what comes ahead comes ahead
        have x12 : ∀ x ∈ L1, ∀ y ∈ V2, bef R G A x y := by
          intro x hx1 y hy1
          rw [l1] at hx1; rw [v2] at hy1
          obtain ⟨t, ht1, ht2, rfl⟩ := g_take hx1
          obtain ⟨u, hu1, hu2, rfl⟩ := g_drop hy1
          rcases g0 with g0 | g0
          · omega
          · exact le_first hV hu1 hu2 (le_last hL (show t ≤ e - 1 by omega) (by omega) g0)
        have x21 : ∀ x ∈ V1, ∀ y ∈ L2, bef R G A x y := by
          intro x hx1 y hy1
          rw [v1] at hx1; rw [l2] at hy1
          obtain ⟨t, ht1, ht2, rfl⟩ := g_take hx1
          obtain ⟨u, hu1, hu2, rfl⟩ := g_drop hy1
          rcases g1 with g1 | g1
          · omega
          · exact le_first hL hu1 hu2 (le_last hV (show t ≤ hm0 - 1 - e by omega) (by omega) g1)
        have st : ((P.length + e : Nat) : Int) = ((P.length + L1.length : Nat) : Int) := by rw [nL1]
        -- both halves
        obtain ⟨Z1, p1, q1, k1⟩ : ∃ Z1 : List Int, Z1.Perm (L1 ++ V1) ∧ Z1.Pairwise (bef R G A) ∧ ((0 < L1.length ∧ 0 < V1.length ∧ Ev (fun k => SYM.f k (P ++ (L1 ++ (V1 ++ (L2 ++ (V2 ++ Q))))) a ((P.length + e : Nat) : Int) ((P.length + hm0 : Nat) : Int) R G A) (P ++ (Z1 ++ (L2 ++ (V2 ++ Q))))) ∨ (¬ (0 < L1.length ∧ 0 < V1.length) ∧ Z1 = L1 ++ V1)) := by
          by_cases c : 0 < L1.length ∧ 0 < V1.length
          · obtain ⟨Z1, p1, q1, k1⟩ := ih P L1 V1 (L2 ++ (V2 ++ Q)) a ((P.length + e : Nat) : Int) ((P.length + hm0 : Nat) : Int) (by omega) c.1 c.2 sL.1 sV.1 (fun x hx1 y hy1 => hx x (mL1 x hx1) y (mV1 y hy1)) (fun x h => hgL x (mL1 x h)) (fun x h => hgV x (mV1 x h)) ha st (by omega) (by omega)
            exact ⟨Z1, p1, q1, .inl ⟨c.1, c.2, k1⟩⟩
          · refine ⟨L1 ++ V1, .refl _, ?_, .inr ⟨c, rfl⟩⟩
            by_cases c0 : L1.length = 0
            · rw [List.eq_nil_of_length_eq_zero c0]; exact sV.1
            · rw [List.eq_nil_of_length_eq_zero (l := V1) (by omega), List.append_nil]; exact sL.1
        have nZ1 : Z1.length = L1.length + V1.length := by rw [p1.length_eq, List.length_append]
        obtain ⟨Z2, p2, q2, k2⟩ : ∃ Z2 : List Int, Z2.Perm (L2 ++ V2) ∧ Z2.Pairwise (bef R G A) ∧ ((0 < L2.length ∧ 0 < V2.length ∧ Ev (fun k => SYM.f k (P ++ (Z1 ++ (L2 ++ (V2 ++ Q)))) ((P.length + hm0 : Nat) : Int) ((P.length + hm0 + L.length - e : Nat) : Int) b R G A) (P ++ (Z1 ++ (Z2 ++ Q)))) ∨ (¬ (0 < L2.length ∧ 0 < V2.length) ∧ Z2 = L2 ++ V2)) := by
          by_cases c : 0 < L2.length ∧ 0 < V2.length
          · obtain ⟨Z2, p2, q2, k2⟩ := ih (P ++ Z1) L2 V2 Q ((P.length + hm0 : Nat) : Int) ((P.length + hm0 + L.length - e : Nat) : Int) b (by omega) c.1 c.2 sL.2.1 sV.2.1 (fun x hx1 y hy1 => hx x (mL2 x hx1) y (mV2 y hy1)) (fun x h => hgL x (mL2 x h)) (fun x h => hgV x (mV2 x h)) (by rw [List.length_append]; omega) (by rw [List.length_append]; omega) (by rw [List.length_append]; omega) (by rw [List.length_append]; omega)
            exact ⟨Z2, p2, q2, .inl ⟨c.1, c.2, by simpa using k2⟩⟩
          · refine ⟨L2 ++ V2, .refl _, ?_, .inr ⟨c, rfl⟩⟩
            by_cases c0 : L2.length = 0
            · rw [List.eq_nil_of_length_eq_zero c0]; exact sV.2.1
            · rw [List.eq_nil_of_length_eq_zero (l := V2) (by omega), List.append_nil]; exact sL.2.1
        refine ⟨Z1 ++ Z2, ?_, ?_, ?_⟩
        · refine (p1.append p2).trans ?_
          rw [eL, eV, List.append_assoc, List.append_assoc]
          refine List.Perm.append_left L1 ?_
          rw [← List.append_assoc, ← List.append_assoc]
          exact List.perm_append_comm.append_right V2
        · refine List.pairwise_append.2 ⟨q1, q2, ?_⟩
          intro x hx1 y hy1
          rcases List.mem_append.1 (p1.mem_iff.1 hx1) with hx1 | hx1 <;> rcases List.mem_append.1 (p2.mem_iff.1 hy1) with hy1 | hy1
          · exact sL.2.2 x hx1 y hy1
          · exact x12 x hx1 y hy1
          · exact x21 x hx1 y hy1
          · exact sV.2.2 x hx1 y hy1
        · refine hj4 _ (g2 _ ?_)
          -- behind the turn
          have k7 : Ev (fun k => SYM.j7 R G A k (P ++ (L1 ++ (V1 ++ (L2 ++ (V2 ++ Q))))) a b ((P.length + hm0 : Nat) : Int) ((P.length + e : Nat) : Int) ((P.length + hm0 + L.length - e : Nat) : Int)) (P ++ (Z1 ++ (Z2 ++ Q))) := by
            have rest : ∀ g : Nat → Option (List Int), Ev g (P ++ (Z1 ++ (L2 ++ (V2 ++ Q)))) → Ev (fun k => (g k).bind fun t => (if ((P.length + hm0 : Nat) : Int) < ((P.length + hm0 + L.length - e : Nat) : Int) then (if ((P.length + hm0 + L.length - e : Nat) : Int) < b then ((SYM.f k t ((P.length + hm0 : Nat) : Int) ((P.length + hm0 + L.length - e : Nat) : Int) b R G A).bind fun u => (some u)) else (some t)) else (some t))) (P ++ (Z1 ++ (Z2 ++ Q))) := by
              intro g hg
              refine Ev.bind hg ?_
              rcases k2 with ⟨c1, c2, k2⟩ | ⟨c, rfl⟩
              · exact Ev.pos (by omega) (Ev.pos (by omega) (Ev.bind k2 (Ev.now _)))
              · have z : Ev (fun _ : Nat => some (P ++ (Z1 ++ (L2 ++ (V2 ++ Q))))) (P ++ (Z1 ++ (L2 ++ V2 ++ Q))) := (Ev.now _).cast (by simp)
                by_cases d : 0 < L2.length
                · exact Ev.pos (by omega) (Ev.neg (by omega) z)
                · exact Ev.neg (by omega) z
            refine Ev.step (fun k => SYM.j7.eq_2 R G A _ _ _ _ _ _ k) ?_
            rcases k1 with ⟨c1, c2, k1⟩ | ⟨c, rfl⟩
            · refine Ev.pos (by omega) (Ev.step (fun k => SYM.j8.eq_2 R G A _ _ _ _ _ _ _ k) (Ev.pos (by simp; omega) ?_))
              exact rest _ k1
            · have z : Ev (fun k => SYM.j8 R G A k (P ++ (L1 ++ (V1 ++ (L2 ++ (V2 ++ Q))))) a b ((P.length + hm0 : Nat) : Int) ((P.length + e : Nat) : Int) ((P.length + hm0 + L.length - e : Nat) : Int) false) (P ++ (L1 ++ V1 ++ (Z2 ++ Q))) := by
                refine Ev.step (fun k => SYM.j8.eq_2 R G A _ _ _ _ _ _ _ k) (Ev.neg (by simp) ?_)
                have h := rest (fun _ => some (P ++ (L1 ++ (V1 ++ (L2 ++ (V2 ++ Q)))))) ((Ev.now _).cast (by simp))
                simpa using h
              by_cases d : 0 < L1.length
              · refine Ev.pos (by omega) ?_
                rw [show decide (((P.length + e : Nat) : Int) < ((P.length + hm0 : Nat) : Int)) = false by simp; omega]
                exact z
              · exact Ev.neg (by omega) z
          rw [← List.append_assoc Z1] at k7
          refine Ev.step (fun k => SYM.j6.eq_2 R G A _ _ _ _ _ _ _ _ k) ?_
          by_cases c : e < L.length ∧ e < hm0
          · refine Ev.pos (by simp [c]) ?_
            have hr := rot_ev R A G (P ++ L1) L2 V1 (V2 ++ Q) ((P.length + e : Nat) : Int) m ((P.length + hm0 + L.length - e : Nat) : Int) (by omega) (by omega) (by rw [List.length_append]; omega) (by rw [List.length_append]; omega) (by rw [List.length_append]; omega) (by rw [List.length_append]; omega)
            have hr' : Ev (fun k => ROT.f k (P ++ (L ++ (V ++ Q))) ((P.length + e : Nat) : Int) m ((P.length + hm0 + L.length - e : Nat) : Int) R G A) (P ++ (L1 ++ (V1 ++ (L2 ++ (V2 ++ Q))))) := by
              have e0 : P ++ (L ++ (V ++ Q)) = (P ++ L1) ++ (L2 ++ (V1 ++ (V2 ++ Q))) := by rw [eL, eV]; simp
              rw [e0]; simpa only [List.append_assoc] using hr
            exact Ev.bind hr' k7
          · refine Ev.neg (by simp; omega) ?_
            have e0 : P ++ (L ++ (V ++ Q)) = P ++ (L1 ++ (V1 ++ (L2 ++ (V2 ++ Q)))) := by
              rw [eL, eV]
              by_cases d : L2.length = 0
              · rw [List.eq_nil_of_length_eq_zero d]; simp
              · rw [List.eq_nil_of_length_eq_zero (l := V1) (by omega)]; simp
            rw [e0]; exact k7
/-- Up to forty: runs of twenty, and one merge. -/
theorem stable_ev {R A : Int} {G : List Int} (F : Fine R G A) (l : List Int) (hl : l.length ≤ 40) (hp : l.Pairwise (· < ·)) (hg : InG G l) :
    ∃ Z, Z.Perm l ∧ Z.Pairwise (bef R G A) ∧ Ev (fun k => SORT.f k l R G A) Z := by
  obtain ⟨T1, T2, rfl, n1⟩ : ∃ T1 T2 : List Int, l = T1 ++ T2 ∧ (T1.length = 20 ∨ T1.length < 20 ∧ T2 = []) := by
    by_cases h : 20 ≤ l.length
    · exact ⟨l.take 20, l.drop 20, (List.take_append_drop _ _).symm, .inl (by rw [List.length_take]; omega)⟩
    · exact ⟨l, [], by simp, .inr ⟨by omega, rfl⟩⟩
  have sp := List.pairwise_append.1 hp
  have g1 : InG G T1 := fun x h => hg x (by simp [h])
  have g2 : InG G T2 := fun x h => hg x (by simp [h])
  rw [List.length_append] at hl
  obtain ⟨Z1, p1, q1, k1⟩ := ins_ev F [] T1 T2 0 (T1.length : Int) rfl sp.1 g1 (by simp) (by simp; omega)
  have z1 : Z1.length = T1.length := p1.length_eq
  suffices h : ∃ Z, Z.Perm (T1 ++ T2) ∧ Z.Pairwise (bef R G A) ∧ Ev (fun k => STB.f k (T1 ++ T2) ((T1 ++ T2).length : Int) R G A) Z by
    obtain ⟨Z, a, b, c⟩ := h
    exact ⟨Z, a, b, by unfold SORT.f; exact Ev.bind c (Ev.now _)⟩
  have w20 := Aside0.mk (show wrap64 ((20 : Int) + 20) = 40 from by rw [w64 (by omega) (by omega)]; rfl)
  have w40 := Aside0.mk (show wrap64 ((40 : Int) + 20) = 60 from by rw [w64 (by omega) (by omega)]; rfl)
  unfold STB.f
  rcases n1 with n1 | ⟨n1, rfl⟩
  · obtain ⟨Z2, p2, q2, k2⟩ := ins_ev F Z1 T2 [] 20 ((T1 ++ T2).length : Int) (by omega) sp.2.1 g2 (by rw [List.length_append]; omega) (by omega)
    have z2 : Z2.length = T2.length := p2.length_eq
    have en : ((T1 ++ T2).length : Int) = 20 + T2.length := by rw [List.length_append]; omega
    rw [n1] at k1
    simp only [List.nil_append] at k1
    simp only [List.append_nil] at k2
    have e1 : ∀ r, Ev (fun k => STB.l1 R G A k (Z1 ++ Z2) ((T1 ++ T2).length : Int) 20) r → Ev (fun k => STB.l0 R G A k (T1 ++ T2) ((T1 ++ T2).length : Int) 20 0 20) r := by
      intro r hr
      refine Ev.step (fun k => STB.l0.eq_2 _ _ _ _ _ _ _ _ k) (Ev.pos (by omega) (Ev.bind k1 ?_))
      simp only [w20.out]
      by_cases c : T2.length = 20
      · have e40 : ((T1 ++ T2).length : Int) = 40 := by omega
        rw [e40] at k2 hr ⊢
        refine Ev.step (fun k => STB.l0.eq_2 _ _ _ _ _ _ _ _ k) (Ev.pos (by omega) (Ev.bind k2 ?_))
        simp only [w40.out]
        obtain ⟨Z3, p3, q3, k3⟩ := ins_ev F (Z1 ++ Z2) [] [] 40 40 (by rw [List.length_append]; omega) List.Pairwise.nil (by intro x hx; cases hx) (by rw [List.length_append]; simp; omega) (by rw [List.length_append]; simp; omega)
        obtain rfl : Z3 = [] := p3.eq_nil
        simp only [List.append_nil] at k3
        exact Ev.step (fun k => STB.l0.eq_2 _ _ _ _ _ _ _ _ k) (Ev.neg (by omega) (Ev.bind k3 hr))
      · exact Ev.step (fun k => STB.l0.eq_2 _ _ _ _ _ _ _ _ k) (Ev.neg (by omega) (Ev.bind k2 hr))
    by_cases c : T2.length = 0
    · obtain rfl := List.eq_nil_of_length_eq_zero c
      obtain rfl : Z2 = [] := p2.eq_nil
      refine ⟨Z1, by simpa using p1, q1, e1 _ ?_⟩
      refine Ev.step (fun k => STB.l1.eq_2 _ _ _ _ _ _ k) (Ev.neg (by omega) ((Ev.now _).cast (by simp)))
    · obtain ⟨Z, p, q, k⟩ := sym_ev F _ [] Z1 Z2 [] 0 20 ((T1 ++ T2).length : Int) (Nat.le_refl _) (by omega) (by omega) q1 q2 (fun x hx y hy => sp.2.2 x (p1.mem_iff.1 hx) y (p2.mem_iff.1 hy)) (fun x h => g1 x (p1.mem_iff.1 h)) (fun x h => g2 x (p2.mem_iff.1 h)) rfl (by simp; omega) (by simp at en ⊢; omega) (by simp; omega)
      simp only [List.nil_append, List.append_nil] at k
      refine ⟨Z, p.trans (p1.append p2), q, e1 _ ?_⟩
      have w1 := Aside0.mk (show wrap64 ((2 : Int) * 20) = 40 from by rw [w64 (by omega) (by omega)]; rfl)
      have w2 := Aside0.mk (show wrap64 ((20 : Int) * 2) = 40 from by rw [w64 (by omega) (by omega)]; rfl)
      have w3 := Aside0.mk (show wrap64 ((0 : Int) + 20) = 20 from by rw [w64 (by omega) (by omega)]; rfl)
      have w4 := Aside0.mk (show wrap64 ((40 : Int) + 40) = 80 from by rw [w64 (by omega) (by omega)]; rfl)
      have w5 := Aside0.mk (show wrap64 ((40 : Int) + 20) = 60 from by rw [w64 (by omega) (by omega)]; rfl)
      have fin : Ev (fun k => STB.l1 R G A k Z ((T1 ++ T2).length : Int) 40) Z := Ev.step (fun k => STB.l1.eq_2 _ _ _ _ _ _ k) (Ev.neg (by omega) (Ev.now _))
      refine Ev.step (fun k => STB.l1.eq_2 _ _ _ _ _ _ k) (Ev.pos (by omega) (Ev.step (fun k => STB.l2.eq_2 _ _ _ _ _ _ _ _ k) ?_))
      simp only [w1.out, w2.out, w3.out, w4.out]
      refine Ev.ite (fun c40 => ?_) (fun c40 => Ev.pos (by omega) (Ev.bind k fin))
      have e40 : ((T1 ++ T2).length : Int) = 40 := by omega
      rw [e40] at k fin ⊢
      refine Ev.bind k (Ev.step (fun k => STB.l2.eq_2 _ _ _ _ _ _ _ _ k) (Ev.neg (by omega) ?_))
      simp only [w2.out, w5.out]
      exact Ev.neg (by omega) fin
  · refine ⟨Z1, by simpa using p1, q1, ?_⟩
    have en : ((T1 ++ []).length : Int) = T1.length := by simp
    rw [en]
    refine Ev.step (fun k => STB.l0.eq_2 _ _ _ _ _ _ _ _ k) (Ev.neg (by omega) ?_)
    simp only [List.append_nil, List.nil_append] at k1 ⊢
    exact Ev.bind k1 (Ev.step (fun k => STB.l1.eq_2 _ _ _ _ _ _ k) (Ev.neg (by omega) (Ev.now _)))
/-! What is shared. -/
def ups (n : Nat) : List Int := (List.range n).map fun (i : Nat) => (i : Int)
theorem ups_succ (n : Nat) : ups (n + 1) = ups n ++ [(n : Int)] := by unfold ups; rw [List.range_succ, List.map_append]; rfl
theorem ups_length (n : Nat) : (ups n).length = n := by simp [ups]
theorem ups_mem {n : Nat} {x : Int} : x ∈ ups n ↔ 0 ≤ x ∧ x < n := by
  unfold ups
  rw [List.mem_map]
  constructor
  · rintro ⟨i, hi, rfl⟩; rw [List.mem_range] at hi; omega
  · intro h; exact ⟨x.toNat, by rw [List.mem_range]; omega, by omega⟩
theorem ups_pw (n : Nat) : (ups n).Pairwise (· < ·) := by
  unfold ups
  refine List.Pairwise.map _ ?_ (List.pairwise_lt_range)
  intro a b h; omega
theorem sum_take {G : List Int} {i : Nat} (h : i < G.length) : (G.take (i + 1)).sum = (G.take i).sum + rd G (i : Int) := by
  rw [List.take_succ_eq_append_getElem h, List.sum_append, rd_get h]; simp
/-- Which are had: those ahead in the sorted list. -/
def Had (hd : List Bool) (Z : List Int) (t : Nat) : Prop := ∀ i : Nat, i < hd.length → (rdOf false hd (i : Int) = true ↔ (i : Int) ∈ Z.take t)
theorem find_best {R A : Int} {G : List Int} (F : Fine R G A) (O hd : List Bool) (out Z : List Int) (lf : Int) (t : Nat) (ht : t < Z.length) (hZ : Z.Pairwise (bef R G A)) (hm : ∀ x : Int, x ∈ Z ↔ 0 ≤ x ∧ x < (G.length : Int)) (hO : out.length = G.length) (hd1 : hd.length = G.length) (hn : G.length ≤ 1000) (hH : Had hd Z t) :
    ∀ (m i : Nat) (best : Int), i + m = G.length → (best = -1 ∧ (∀ j : Nat, j < i → (j : Int) ∈ Z.take t)) ∨ (0 ≤ best ∧ best < i ∧ best ∉ Z.take t ∧ ∀ j : Nat, j < i → (j : Int) ∉ Z.take t → (j : Int) = best ∨ bef R G A best j) →
      ∀ r, Ev (fun k => spec_l18Share.l2 k R G (out.set (Z[t]).toNat (wrap64 (rd out Z[t] + 1))) A (wrap64 (lf - 1)) (hd.set (Z[t]).toNat true)) r →
        Ev (fun k => spec_l18Share.l3 k R G out A lf hd best (G.length : Int) (i : Int)) r := by
  have hz := (hm Z[t]).1 (List.getElem_mem ht)
  have split : Z = Z.take t ++ Z[t] :: Z.drop (t + 1) := by rw [List.getElem_cons_drop, List.take_append_drop]
  have sp := List.pairwise_append.1 (split ▸ hZ)
  have spz := List.pairwise_cons.1 sp.2.1
  have zfree : Z[t] ∉ Z.take t := fun h => bef_asymm (sp.2.2 _ h _ List.mem_cons_self) (sp.2.2 _ h _ List.mem_cons_self)
  have zleast : ∀ x : Int, 0 ≤ x → x < (G.length : Int) → x ∉ Z.take t → x = Z[t] ∨ bef R G A Z[t] x := by
    intro x h0 h1 h2
    have hx := (hm x).2 ⟨h0, h1⟩
    rw [split] at hx
    rcases List.mem_append.1 hx with hx | hx
    · exact absurd hx h2
    · rcases List.mem_cons.1 hx with hx | hx
      · exact .inl hx
      · exact .inr (spz.1 _ hx)
  have a0 := F.a0
  intro m
  induction m with
  | zero =>
    intro i best him hb r hr
    obtain ⟨z, hz'⟩ := Int.eq_ofNat_of_zero_le hz.1
    have hbz : best = Z[t] := by
      rcases hb with ⟨_, hall⟩ | ⟨b0, b1, b2, b3⟩
      · exact absurd (hz' ▸ hall z (by omega)) zfree
      · rcases b3 z (by omega) (hz' ▸ zfree) with h | h
        · omega
        · rcases zleast best b0 (by omega) b2 with h' | h'
          · exact h'
          · exact absurd (hz' ▸ h) (fun h => bef_asymm h h')
    refine Ev.step (fun k => spec_l18Share.l3.eq_2 _ _ _ _ _ _ _ _ _ k) (Ev.neg (by omega) ?_)
    rw [hbz]
    exact Ev.pos hz.1 (Ev.pos (by omega) (Ev.pos (by omega) hr))
  | succ m ih =>
    intro i best him hb r hr
    have hi := hH i (by omega)
    refine Ev.step (fun k => spec_l18Share.l3.eq_2 _ _ _ _ _ _ _ _ _ k) (Ev.pos (by omega) (Ev.pos (by omega) (Ev.pos (by omega) ?_)))
    rw [w_succ (by omega)]
    have one : ∀ j : Nat, j < i + 1 → j < i ∨ j = i := fun j h => by omega
    by_cases c : (i : Int) ∈ Z.take t
    · refine Ev.pos (hi.2 c) (ih (i + 1) best (by omega) ?_ r hr)
      rcases hb with ⟨b, hall⟩ | ⟨b0, b1, b2, b3⟩
      · refine .inl ⟨b, fun j hj => ?_⟩
        rcases one j hj with h | rfl
        · exact hall j h
        · exact c
      · refine .inr ⟨b0, by omega, b2, fun j hj hjf => ?_⟩
        rcases one j hj with h | rfl
        · exact b3 j h hjf
        · exact absurd c hjf
    · refine Ev.neg (fun h => c (hi.1 h)) ?_
      rcases hb with ⟨b, hall⟩ | ⟨b0, b1, b2, b3⟩
      · refine Ev.pos (by omega) (ih (i + 1) (i : Int) (by omega) (.inr ⟨by omega, by omega, c, fun j hj hjf => ?_⟩) r hr)
        rcases one j hj with h | rfl
        · exact absurd (hall j h) hjf
        · exact .inl rfl
      · have pi := prod_ok F (x := (i : Int)) (by omega) (by omega)
        have pb := prod_ok F (x := best) b0 (by omega)
        refine Ev.neg (by omega) (Ev.pos (by omega) (Ev.neg (by omega) (Ev.pos b0 (Ev.pos (by omega) ?_))))
        rw [w64 (n := R * rd G (i : Int)) (by omega) (by omega), w64 (n := R * rd G best) (by omega) (by omega), Int.tmod_eq_emod_of_nonneg pi.1, Int.tmod_eq_emod_of_nonneg pb.1]
        refine Ev.ite (fun c2 => ih (i + 1) (i : Int) (by omega) (.inr ⟨by omega, by omega, c, fun j hj hjf => ?_⟩) r hr) (fun c2 => ih (i + 1) best (by omega) (.inr ⟨b0, by omega, b2, fun j hj hjf => ?_⟩) r hr)
        · have ib : bef R G A (i : Int) best := .inl c2
          rcases one j hj with h | rfl
          · rcases b3 j h hjf with h' | h'
            · rw [h']; exact .inr ib
            · exact .inr (bef_trans ib h')
          · exact .inl rfl
        · rcases one j hj with h | rfl
          · exact b3 j h hjf
          · refine .inr ?_
            unfold bef remOf; omega
theorem sets_had {hd : List Bool} {Z : List Int} {t : Nat} (ht : t < Z.length) (h0 : 0 ≤ Z[t]) (h1 : Z[t] < (hd.length : Int)) (h : Had hd Z t) : Had (hd.set (Z[t]).toNat true) Z (t + 1) := by
  intro i hi
  rw [List.length_set] at hi
  rw [List.take_succ_eq_append_getElem ht, List.mem_append, List.mem_singleton, rdOf_get (by rw [List.length_set]; exact hi), List.getElem_set]
  by_cases c : (Z[t]).toNat = i
  · rw [if_pos c]; simp; right; omega
  · rw [if_neg c, ← rdOf_get (d := false) hi, h i hi]
    constructor
    · exact .inl
    · rintro (h | h)
      · exact h
      · omega
/-- A list of `n` parts, none of them greater than `B`. -/
def Parts (n : Nat) (B : Int) (r : List Int) : Prop := r.length = n ∧ ∀ x ∈ r, 0 ≤ x ∧ x ≤ B
theorem spend {R A : Int} {G : List Int} (F : Fine R G A) (C : Int) (hC : C ≤ 2000000) (Z : List Int) (lf : Int) (hlf : lf ≤ 40) (hl : lf ≤ Z.length) (hZ : Z.Pairwise (bef R G A)) (hm : ∀ x : Int, x ∈ Z ↔ 0 ≤ x ∧ x < (G.length : Int)) (hn : G.length ≤ 40) (hz : Z.length ≤ 1000) :
    ∀ (m t : Nat) (out : List Int) (hd : List Bool), (t : Int) + m = lf → out.length = G.length → (∀ x ∈ out, 0 ≤ x ∧ x ≤ C + t) → hd.length = G.length → Had hd Z t → Both (Parts G.length (C + 40)) (fun k => spec_l18Share.l2 k R G out A (lf - t) hd) (fun k => impl_share.l2 k out (Z.take lf.toNat) ((Z.take lf.toNat).length : Int) (t : Int)) := by
  have hy : ((Z.take lf.toNat).length : Int) = if 0 ≤ lf then lf else 0 := by rw [List.length_take]; split <;> omega
  intro m
  induction m with
  | zero =>
    intro t out hd ht ho hb hh hH
    exact ⟨out, ⟨ho, fun x hx => by have := hb x hx; omega⟩, Ev.step (fun k => spec_l18Share.l2.eq_2 _ _ _ _ _ _ k) (Ev.neg (by omega) (Ev.now _)), Ev.step (fun k => impl_share.l2.eq_2 _ _ _ _ k) (Ev.neg (by rw [hy, if_pos (by omega)]; omega) (Ev.now _))⟩
  | succ m ih =>
    intro t out hd ht ho hb hh hH
    have htz : t < Z.length := by omega
    have hz := (hm Z[t]).1 (List.getElem_mem htz)
    have e : rd (Z.take lf.toNat) (t : Int) = Z[t] := by
      rw [rd_get (by rw [List.length_take]; omega)]; simp
    obtain ⟨r, hq, h1, h2⟩ := ih (t + 1) (out.set (Z[t]).toNat (wrap64 (rd out Z[t] + 1))) (hd.set (Z[t]).toNat true) (by omega) (by rw [List.length_set]; exact ho) (by
      intro x hx
      rcases List.mem_or_eq_of_mem_set hx with hx | rfl
      · have := hb x hx; omega
      · have := hb _ (rd_mem hz.1 (by omega : Z[t] < (out.length : Int)))
        rw [w64 (by omega) (by omega)]; omega) (by rw [List.length_set]; exact hh) (sets_had htz hz.1 (by omega) hH)
    rw [show lf - ((t + 1 : Nat) : Int) = lf - t - 1 by omega] at h1
    refine ⟨r, hq, ?_, ?_⟩
    · refine Ev.step (fun k => spec_l18Share.l2.eq_2 _ _ _ _ _ _ k) (Ev.pos (by omega) ?_)
      rw [ho]
      refine find_best F [] hd out Z (lf - t) t htz hZ hm ho hh (by omega) hH G.length 0 (-1) (by omega) (.inl ⟨rfl, fun j hj => by omega⟩) r ?_
      rw [w64 (n := lf - t - 1) (by omega) (by omega)]; exact h1
    · refine Ev.step (fun k => impl_share.l2.eq_2 _ _ _ _ k) (Ev.pos (by rw [hy, if_pos (by omega)]; omega) (Ev.pos (by omega) (Ev.pos (by rw [hy, if_pos (by omega)]; omega) ?_)))
      rw [e, w_succ (by omega)]
      exact Ev.pos hz.1 (Ev.pos (by omega) h2)
theorem le_sum : ∀ (G : List Int), (∀ x ∈ G, 0 ≤ x) → 0 ≤ G.sum ∧ ∀ x ∈ G, x ≤ G.sum
  | [], _ => ⟨by simp, by simp⟩
  | y :: G, h => by
    have ih := le_sum G (fun x hx => h x (by simp [hx]))
    have hy := h y (by simp)
    rw [List.sum_cons]
    refine ⟨by omega, fun x hx => ?_⟩
    rcases List.mem_cons.1 hx with rfl | hx
    · omega
    · have := ih.2 x hx; omega
theorem rd_set {l : List Int} {i j : Nat} {v : Int} (hj : j < l.length) : rd (l.set i v) (j : Int) = if i = j then v else rd l (j : Int) := by
  rw [rd_get (by rw [List.length_set]; exact hj), rd_get hj, List.getElem_set]
theorem grows {R A : Int} {G : List Int} (F : Fine R G A) (hA : A = G.sum) (hn : G.length ≤ 40) :
    ∀ (m i : Nat) (out : List Int) (s : Int) (rs : Int), i + m = G.length → out.length = G.length → 0 ≤ s → s ≤ 1000000000 * i → s * A + rs = R * (G.take i).sum → 0 ≤ rs → rs ≤ i * A → (∀ j : Nat, j < G.length → 0 ≤ rd out (j : Int) ∧ rd out (j : Int) ≤ 10000 + (if j < i then R else 0)) →
      Both (Parts G.length (10000 + R + 40)) (fun k => spec_l18Share.l1 k R G out A (R - s) (G.length : Int) (i : Int)) (fun k => impl_share.l1 k out (ups i) s G (G.length : Int) (i : Int) G R A) := by
  have a0 := F.a0; have r0 := F.r0; have r1 := F.r1; have a1 := F.a1
  intro m
  induction m with
  | zero =>
    intro i out s rs him ho hs0 hs1 he hr0 hr1 hb
    obtain rfl : i = G.length := by omega
    rw [List.take_length, ← hA] at he
    have hm : (R - s) * A = rs := by rw [Int.sub_mul]; omega
    have l0 : 0 ≤ R - s := by
      by_cases c : 0 ≤ R - s
      · exact c
      · have : (R - s) * A ≤ (-1) * A := Int.mul_le_mul_of_nonneg_right (by omega) (by omega)
        omega
    have l1 : R - s ≤ G.length := by
      by_cases c : R - s ≤ G.length
      · exact c
      · have h2 : ((G.length : Int) + 1) * A ≤ (R - s) * A := Int.mul_le_mul_of_nonneg_right (by omega) (by omega)
        rw [Int.add_mul] at h2; omega
    obtain ⟨Z, p, q, k⟩ := stable_ev F (ups G.length) (by rw [ups_length]; exact hn) (ups_pw _) (fun x hx => ups_mem.1 hx)
    have hZm : ∀ x : Int, x ∈ Z ↔ 0 ≤ x ∧ x < (G.length : Int) := fun x => p.mem_iff.trans ups_mem
    have hZl : Z.length = G.length := by rw [p.length_eq, ups_length]
    have b := spend F (10000 + R) (by omega) Z (R - s) (by omega) (by omega) q hZm hn (by omega) (R - s).toNat 0 out (List.replicate G.length false) (by omega) ho (by
      intro x hx
      obtain ⟨j, hj, rfl⟩ := List.getElem_of_mem hx
      have := hb j (by omega)
      rw [rd_get hj, if_pos (by omega)] at this; omega) (by simp) (by
      intro i hi
      rw [rdOf_get hi]; simp)
    rw [show R - s - ((0 : Nat) : Int) = R - s by omega] at b
    have w1 := Aside0.mk (show wrap64 (R - s) = R - s from w64 (by omega) (by omega))
    refine Both.step (fun k => spec_l18Share.l1.eq_2 _ _ _ _ _ _ _ k) (fun k => impl_share.l1.eq_2 _ _ _ _ _ _ _ _ _ k) (Both.neg (by omega) (by omega) ?_)
    rw [ho]
    obtain ⟨r, hq, h1, h2⟩ := b
    refine ⟨r, hq, Ev.pos (by omega) (Ev.pos (by omega) ?_), Ev.bind k ?_⟩
    · simpa using h1
    · simp only [w1.out]
      refine Ev.pos l0 (Ev.pos (by rw [ups_length]; omega) ?_)
      simpa using h2
  | succ m ih =>
    intro i out s rs him ho hs0 hs1 he hr0 hr1 hb
    have hi : i < G.length := by omega
    have pg := prod_ok F (x := (i : Int)) (by omega) (by omega)
    have q0 : 0 ≤ (R * rd G (i : Int)) / A := Int.ediv_nonneg pg.1 (by omega)
    have q1 : (R * rd G (i : Int)) / A ≤ 1000000000 := Int.le_trans (Int.ediv_le_self _ pg.1) pg.2
    have qe : (R * rd G (i : Int)) / A * A + (R * rd G (i : Int)) % A = R * rd G (i : Int) := Int.ediv_mul_add_emod _ _
    have qr0 : 0 ≤ (R * rd G (i : Int)) % A := Int.emod_nonneg _ (by omega)
    have qr1 : (R * rd G (i : Int)) % A < A := Int.emod_lt_of_pos _ a0
    have w1 := Aside0.mk (show wrap64 (R * rd G (i : Int)) = R * rd G (i : Int) from w64 (by omega) (by omega))
    have w2 := Aside0.mk (show wrap64 (Int.tdiv (R * rd G (i : Int)) A) = (R * rd G (i : Int)) / A from by rw [Int.tdiv_eq_ediv_of_nonneg pg.1, w64 (by omega) (by omega)])
    generalize hq : (R * rd G (i : Int)) / A = q at *
    have w3 := Aside0.mk (show wrap64 (R - s - q) = R - (s + q) from by rw [w64 (by omega) (by omega)]; omega)
    have w4 := Aside0.mk (show wrap64 (s + q) = s + q from w64 (by omega) (by omega))
    have qR : q ≤ R := by
      have hg : rd G (i : Int) ≤ A := by rw [hA]; exact (le_sum G (fun x hx => (F.hg x hx).1)).2 _ (rd_mem (by omega) (by omega))
      by_cases c : q ≤ R
      · exact c
      · have h1 : R * rd G (i : Int) ≤ R * A := Int.mul_le_mul_of_nonneg_left hg r0
        have h2 : (R + 1) * A ≤ q * A := Int.mul_le_mul_of_nonneg_right (by omega) (by omega)
        rw [Int.add_mul] at h2; omega
    have nx := ih (i + 1) (out.set i (wrap64 (rd out (i : Int) + q))) (s + q) (rs + (R * rd G (i : Int)) % A) (by omega) (by rw [List.length_set]; exact ho) (by omega) (by omega) (by
      rw [sum_take hi, Int.mul_add, Int.add_mul]; omega) (by omega) (by
      rw [show ((i + 1 : Nat) : Int) = (i : Int) + 1 by omega, Int.add_mul]; omega) (by
      intro j hj
      rw [rd_set (by omega)]
      have bj := hb j hj; have bi := hb i hi
      rw [if_neg (show ¬ i < i by omega)] at bi
      by_cases c : i = j
      · rw [if_pos c, if_pos (by omega), w64 (by omega) (by omega)]; omega
      · rw [if_neg c]
        by_cases c2 : j < i
        · rw [if_pos c2] at bj; rw [if_pos (by omega)]; exact bj
        · rw [if_neg c2] at bj; rw [if_neg (by omega)]; exact bj)
    rw [ups_succ] at nx
    refine Both.step (fun k => spec_l18Share.l1.eq_2 _ _ _ _ _ _ _ k) (fun k => impl_share.l1.eq_2 _ _ _ _ _ _ _ _ _ k) (Both.pos (by omega) (by omega) (Both.pos (by omega) (by omega) ?_))
    simp only [w1.out, w2.out, w3.out, w4.out, w_succ (show i < 9223372036854775807 by omega), Int.toNat_natCast]
    obtain ⟨r, hq', h1, h2⟩ := nx
    exact ⟨r, hq', Ev.pos (by omega) (Ev.pos (by omega) (Ev.neg (by omega) h1)), Ev.pos (by omega) (Ev.pos (by omega) (Ev.neg (by omega) (Ev.pos (by rw [ups_length]; omega) h2)))⟩
theorem sums (L G : List Int) (M : Int) (hM0 : 0 ≤ M) (hM : M ≤ 900000) (hn : G.length ≤ 40) (hl : L.length = G.length) (hL : ∀ x ∈ L, 0 ≤ x ∧ x ≤ 10000) (hG : ∀ x ∈ G, 0 ≤ x ∧ x ≤ 1000) :
    ∀ (m i : Nat) (room all : Int), i + m = G.length → all = (G.take i).sum → 0 ≤ all → all ≤ 1000 * i → room ≤ M → -10000 * (i : Int) ≤ room →
      Both (Parts G.length (10000 + M + 40)) (fun k => spec_l18Share.l0 k room L G L all (L.length : Int) (i : Int)) (fun k => impl_share.l0 k L L (L.length : Int) (i : Int) G room all) := by
  intro m
  induction m with
  | zero =>
    intro i room all him ha h0 h1 hr0 hr1
    obtain rfl : i = G.length := by omega
    rw [List.take_length] at ha
    have now : Both (Parts G.length (10000 + M + 40)) (fun k => spec_l18Share.j1 k room G L all true) (fun k => impl_share.j1 k L true G room all) :=
      Both.step (fun k => spec_l18Share.j1.eq_2 _ _ _ _ _ k) (fun k => impl_share.j1.eq_2 _ _ _ _ _ k) (Both.pos rfl rfl (Both.now L ⟨hl, fun x hx => by have := hL x hx; omega⟩))
    refine Both.step (fun k => spec_l18Share.l0.eq_2 _ _ _ _ _ _ _ k) (fun k => impl_share.l0.eq_2 _ _ _ _ _ _ _ k) (Both.neg (by omega) (by omega) (Both.ite (fun _ => now) (fun c => ?_)))
    by_cases z : all = 0
    · rw [z] at now ⊢; exact now
    · rw [show (all == 0) = false by simp [z]]
      refine Both.step (fun k => spec_l18Share.j1.eq_2 _ _ _ _ _ k) (fun k => impl_share.j1.eq_2 _ _ _ _ _ k) (Both.neg (by simp) (by simp) ?_)
      have g := grows (R := room) (A := all) (G := G) ⟨by omega, by omega, by omega, by omega, hG⟩ ha hn G.length 0 L 0 0 (by omega) hl (by omega) (by omega) (by simp) (by omega) (by simp) (by
        intro j hj
        have := hL _ (rd_mem (G := L) (x := (j : Int)) (by omega) (by omega))
        rw [if_neg (by omega)]; omega)
      rw [hl]
      refine Both.mono ?_ (fun r (hr : Parts G.length (10000 + room + 40) r) => (⟨hr.1, fun x hx => by have := hr.2 x hx; omega⟩ : Parts G.length (10000 + M + 40) r))
      simpa [ups] using g
  | succ m ih =>
    intro i room all him ha h0 h1 hr0 hr1
    have l1 := hL _ (rd_mem (G := L) (x := (i : Int)) (by omega) (by omega))
    have g1 := hG _ (rd_mem (G := G) (x := (i : Int)) (by omega) (by omega))
    have w1 := Aside0.mk (show wrap64 (room - rd L (i : Int)) = room - rd L (i : Int) from w64 (by omega) (by omega))
    have w2 := Aside0.mk (show wrap64 (all + rd G (i : Int)) = all + rd G (i : Int) from w64 (by omega) (by omega))
    have nx := ih (i + 1) (room - rd L (i : Int)) (all + rd G (i : Int)) (by omega) (by rw [sum_take (by omega), ha]) (by omega) (by omega) (by omega) (by omega)
    refine Both.step (fun k => spec_l18Share.l0.eq_2 _ _ _ _ _ _ _ k) (fun k => impl_share.l0.eq_2 _ _ _ _ _ _ _ k) (Both.pos (by omega) (by omega) (Both.pos (by omega) (by omega) (Both.pos (by omega) (by omega) (Both.pos (by omega) (by omega) ?_))))
    simp only [w1.out, w2.out, w_succ (show i < 9223372036854775807 by omega)]
    exact nx
theorem shares (L G : List Int) (room M : Int) (hM0 : 0 ≤ M) (hM : M ≤ 900000) (hn : G.length ≤ 40) (hl : L.length = G.length) (hL : ∀ x ∈ L, 0 ≤ x ∧ x ≤ 10000) (hG : ∀ x ∈ G, 0 ≤ x ∧ x ≤ 1000) (h0 : 0 ≤ room) (h1 : room ≤ M) : Both (Parts G.length (10000 + M + 40)) (fun k => spec_l18Share.f k room L G) (fun k => impl_share.f k room L G) := by
  have h := sums L G M hM0 hM hn hl hL hG G.length 0 room 0 (by omega) (by simp) (by omega) (by omega) h1 (by omega)
  unfold spec_l18Share.f impl_share.f slices_Clone_int_int.f
  simp only [Option.bind_some, List.length_nil, Nat.zero_add, List.nil_append]
  have c : L.length < 17592186044416 := by omega
  simp only [if_pos c, Option.bind_some]
  simpa using h
abbrev Bx := S74
abbrev Pl := S72
/-- How wide and high a box can be, by its number. -/
def top (j : Nat) : Int := 10000 + 10040 * j
def Fits (n : Nat) (out : List Pl) : Prop := out.length = n ∧ ∀ j : Nat, j < n → (0 ≤ (rd_T72 out (j : Int)).f2 ∧ (rd_T72 out (j : Int)).f2 ≤ top j) ∧ 0 ≤ (rd_T72 out (j : Int)).f3 ∧ (rd_T72 out (j : Int)).f3 ≤ top j
theorem rdP_set {l : List Pl} {i j : Nat} {v : Pl} (hj : j < l.length) : rd_T72 (l.set i v) (j : Int) = if i = j then v else rd_T72 l (j : Int) := by
  have h1 : rd_T72 (l.set i v) (j : Int) = _ := rdOf_get (d := z72) (by rw [List.length_set]; exact hj)
  have h2 : rd_T72 l (j : Int) = _ := rdOf_get (d := z72) hj
  rw [h1, h2, List.getElem_set]
theorem Fits.set {n : Nat} {out : List Pl} (h : Fits n out) {z : Int} {v : Pl} (z0 : 0 ≤ z) (h2 : 0 ≤ v.f2 ∧ v.f2 ≤ top z.toNat) (h3 : 0 ≤ v.f3 ∧ v.f3 ≤ top z.toNat) : Fits n (out.set z.toNat v) := by
  refine ⟨by rw [List.length_set]; exact h.1, fun j hj => ?_⟩
  rw [rdP_set (by have := h.1; omega)]
  by_cases c : z.toNat = j
  · rw [if_pos c, ← c]; exact ⟨h2, h3⟩
  · rw [if_neg c]; exact h.2 j hj
/-- A good box, by its number. -/
structure BxOk (i : Nat) (b : Bx) : Prop where
  up : i = 0 → b.f0 = -1
  up1 : 0 < i → 0 ≤ b.f0 ∧ b.f0 ≤ (i : Int) - 1
  lay : b.f1 = 1 ∨ b.f1 = 2
  least : 0 ≤ b.f2 ∧ b.f2 ≤ 10000
  grow : 0 ≤ b.f3 ∧ b.f3 ≤ 1000
  pad : 0 ≤ b.f4 ∧ b.f4 ≤ 100
theorem BxOk.of {i : Nat} {b : Bx} (h : boxOk i b = true) : BxOk i b := by
  unfold boxOk at h
  simp only [Bool.and_eq_true, decide_eq_true_eq] at h
  obtain ⟨h0, h1, h2, h3, h4⟩ := h
  refine ⟨fun e => ?_, fun e => ?_, by omega, h2, h3, h4⟩
  · rw [if_pos e] at h0; simpa using h0
  · rw [if_neg (by omega)] at h0; simpa using h0
abbrev Q2 : List Pl × Bool → Prop := fun r => r.1.length ≤ 40
structure Kids (n i : Nat) (K Le Gr : List Int) (j : Nat) : Prop where
  l1 : Le.length = K.length
  l2 : Gr.length = K.length
  l3 : K.length ≤ j
  kids : ∀ x ∈ K, (i : Int) < x ∧ x < n
  least : ∀ x ∈ Le, 0 ≤ x ∧ x ≤ 10000
  grow : ∀ x ∈ Gr, 0 ≤ x ∧ x ≤ 1000
/-- The children of a box, gathered. -/
theorem gather (L : List Bx) (hL : ∀ j : Nat, j < L.length → BxOk j (rd_T74 L (j : Int))) (hn : L.length ≤ 40) (out : List Pl) (i : Nat) (X Y W H b0 b1 b2 b3 b4 : Int)
    (fin : ∀ K Le Gr, Kids L.length i K Le Gr L.length → Both Q2 (fun k => spec_LayOut.l1 k L out i K Le Gr L L.length i L L.length (L.length : Int) b0 b1 b2 b3 b4) (fun k => impl_LayOut.l1 k L out i X Y W H K Le Gr L L.length i L L.length (L.length : Int) b0 b1 b2 b3 b4)) :
    ∀ (m j : Nat) (K Le Gr : List Int), j + m = L.length → Kids L.length i K Le Gr j → Both Q2 (fun k => spec_LayOut.l1 k L out i K Le Gr L L.length i L L.length (j : Int) b0 b1 b2 b3 b4) (fun k => impl_LayOut.l1 k L out i X Y W H K Le Gr L L.length i L L.length (j : Int) b0 b1 b2 b3 b4) := by
  intro m
  induction m with
  | zero =>
    intro j K Le Gr hj hk
    obtain rfl : j = L.length := by omega
    exact fin K Le Gr hk
  | succ m ih =>
    intro j K Le Gr hj hk
    have bk := hL j (by omega)
    have skip := ih (j + 1) K Le Gr (by omega) ⟨hk.l1, hk.l2, by have := hk.l3; omega, hk.kids, hk.least, hk.grow⟩
    have l3 := hk.l3; have l1 := hk.l1; have l2 := hk.l2
    refine Both.step (fun k => spec_LayOut.l1.eq_2 _ _ _ _ _ _ _ _ _ _ _ _ _ _ _ _ _ k) (fun k => impl_LayOut.l1.eq_2 _ _ _ _ _ _ _ _ _ _ _ _ _ _ _ _ _ _ _ _ _ k) (Both.pos (by omega) (by omega) (Both.pos (by omega) (by omega) (Both.pos (by omega) (by omega) ?_)))
    rw [w_succ (show j < 9223372036854775807 by omega)]
    by_cases c0 : j = 0
    · have u := bk.up c0
      exact Both.lneg (by omega) (Both.rneg (by rw [u]; omega) skip)
    · have u := bk.up1 (by omega)
      refine Both.lpos (by omega) (Both.ite (fun c => ?_) (fun _ => skip))
      have nx := ih (j + 1) (K ++ [(j : Int)]) (Le ++ [(rd_T74 L (j : Int)).f2]) (Gr ++ [(rd_T74 L (j : Int)).f3]) (by omega) ⟨by simp; omega, by simp; omega, by simp; omega, fun x hx => by
          rcases List.mem_append.1 hx with hx | hx
          · exact hk.kids x hx
          · obtain rfl := List.mem_singleton.1 hx; omega, fun x hx => by
          rcases List.mem_append.1 hx with hx | hx
          · exact hk.least x hx
          · obtain rfl := List.mem_singleton.1 hx; exact bk.least, fun x hx => by
          rcases List.mem_append.1 hx with hx | hx
          · exact hk.grow x hx
          · obtain rfl := List.mem_singleton.1 hx; exact bk.grow⟩
      refine Both.lpos (by omega) (Both.lpos (by omega) (Both.lpos (by omega) ?_))
      simp only [Option.bind_some, List.length_singleton]
      exact Both.rpos (by omega) (Both.rpos (by omega) (Both.rpos (by omega) nx))
theorem mx_least (a : Int) : spec_l18Least.f a = some (mx 0 a) := by
  unfold spec_l18Least.f mx
  by_cases h : a < 0
  · rw [if_pos h]; simp; omega
  · rw [if_neg h]; simp; omega
theorem mx_range {a B : Int} (hB : 0 ≤ B) (h : a ≤ B) : 0 ≤ mx 0 a ∧ mx 0 a ≤ B := by unfold mx; omega
section
/-- The children in a row. -/
theorem rowed (L : List Bx) (i : Nat) (K parts : List Int) (Le Gr : List Int) (hk : Kids L.length i K Le Gr L.length) (M : Int) (hM : M ≤ top i) (hp : Parts Gr.length (10000 + M + 40) parts) (y w h b0 b2 b3 b4 : Int) (hh : 0 ≤ h ∧ h ≤ top i) (hn : L.length ≤ 40)
    (nx : ∀ out, Fits L.length out → Both Q2 (fun k => spec_LayOut.l0 k L out L L.length ((i + 1 : Nat) : Int)) (fun k => impl_LayOut.l0 k L out L L.length ((i + 1 : Nat) : Int))) (hi : i < L.length) :
    ∀ (m t : Nat) (out : List Pl) (x : Int), t + m = parts.length → Fits L.length out → Both Q2 (fun k => spec_LayOut.l2 k L out K x y h L L.length i parts parts.length (t : Int)) (fun k => impl_LayOut.l2 k L out x y w h K L L.length i parts parts.length (t : Int) b0 1 b2 b3 b4) := by
  intro m
  induction m with
  | zero =>
    intro t out x ht hf
    have n := nx out hf
    rw [← w_succ (show i < 9223372036854775807 by omega)] at n
    exact Both.step (fun k => spec_LayOut.l2.eq_2 _ _ _ _ _ _ _ _ _ _ _ _ k) (fun k => impl_LayOut.l2.eq_2 _ _ _ _ _ _ _ _ _ _ _ _ _ _ _ _ _ _ k) (Both.neg (by omega) (by omega) n)
  | succ m ih =>
    intro t out x ht hf
    have l := hk.l2; have pl := hp.1; have ol := hf.1; have l3 := hk.l3
    have kz := hk.kids _ (rd_mem (G := K) (x := (t : Int)) (by omega) (by omega))
    have pz := hp.2 _ (rd_mem (G := parts) (x := (t : Int)) (by omega) (by omega))
    have tz : top i + 10040 ≤ top (rd K (t : Int)).toNat := by unfold top; omega
    refine Both.step (fun k => spec_LayOut.l2.eq_2 _ _ _ _ _ _ _ _ _ _ _ _ k) (fun k => impl_LayOut.l2.eq_2 _ _ _ _ _ _ _ _ _ _ _ _ _ _ _ _ _ _ k) (Both.pos (by omega) (by omega) (Both.pos (by omega) (by omega) (Both.pos (by omega) (by omega) (Both.rpos rfl (Both.pos (by omega) (by omega) (Both.pos (by omega) (by omega) (Both.pos (by omega) (by omega) ?_)))))))
    rw [w_succ (show t < 9223372036854775807 by omega)]
    exact ih (t + 1) _ _ (by omega) (hf.set (by omega) ⟨pz.1, by show rd parts (t : Int) ≤ _; omega⟩ ⟨hh.1, by show h ≤ _; omega⟩)
/-- The children in a column. -/
theorem columned (L : List Bx) (i : Nat) (K parts : List Int) (Le Gr : List Int) (hk : Kids L.length i K Le Gr L.length) (M : Int) (hM : M ≤ top i) (hp : Parts Gr.length (10000 + M + 40) parts) (x w h b0 b2 b3 b4 : Int) (hh : 0 ≤ w ∧ w ≤ top i) (hn : L.length ≤ 40)
    (nx : ∀ out, Fits L.length out → Both Q2 (fun k => spec_LayOut.l0 k L out L L.length ((i + 1 : Nat) : Int)) (fun k => impl_LayOut.l0 k L out L L.length ((i + 1 : Nat) : Int))) (hi : i < L.length) :
    ∀ (m t : Nat) (out : List Pl) (y : Int), t + m = parts.length → Fits L.length out → Both Q2 (fun k => spec_LayOut.l3 k L out K x y w L L.length i parts parts.length (t : Int)) (fun k => impl_LayOut.l2 k L out x y w h K L L.length i parts parts.length (t : Int) b0 2 b2 b3 b4) := by
  intro m
  induction m with
  | zero =>
    intro t out y ht hf
    have n := nx out hf
    rw [← w_succ (show i < 9223372036854775807 by omega)] at n
    exact Both.step (fun k => spec_LayOut.l3.eq_2 _ _ _ _ _ _ _ _ _ _ _ _ k) (fun k => impl_LayOut.l2.eq_2 _ _ _ _ _ _ _ _ _ _ _ _ _ _ _ _ _ _ k) (Both.neg (by omega) (by omega) n)
  | succ m ih =>
    intro t out y ht hf
    have l := hk.l2; have pl := hp.1; have ol := hf.1; have l3 := hk.l3
    have kz := hk.kids _ (rd_mem (G := K) (x := (t : Int)) (by omega) (by omega))
    have pz := hp.2 _ (rd_mem (G := parts) (x := (t : Int)) (by omega) (by omega))
    have tz : top i + 10040 ≤ top (rd K (t : Int)).toNat := by unfold top; omega
    refine Both.step (fun k => spec_LayOut.l3.eq_2 _ _ _ _ _ _ _ _ _ _ _ _ k) (fun k => impl_LayOut.l2.eq_2 _ _ _ _ _ _ _ _ _ _ _ _ _ _ _ _ _ _ k) (Both.pos (by omega) (by omega) (Both.pos (by omega) (by omega) (Both.pos (by omega) (by omega) (Both.rneg (by decide) (Both.pos (by omega) (by omega) (Both.pos (by omega) (by omega) (Both.pos (by omega) (by omega) ?_)))))))
    rw [w_succ (show t < 9223372036854775807 by omega)]
    exact ih (t + 1) _ _ (by omega) (hf.set (by omega) ⟨hh.1, by show w ≤ _; omega⟩ ⟨pz.1, by show rd parts (t : Int) ≤ _; omega⟩)
end
theorem lays (L : List Bx) (hL : ∀ j : Nat, j < L.length → BxOk j (rd_T74 L (j : Int))) (hn : L.length ≤ 40) : ∀ (m i : Nat) (out : List Pl), i + m = L.length → Fits L.length out → Both Q2 (fun k => spec_LayOut.l0 k L out L L.length (i : Int)) (fun k => impl_LayOut.l0 k L out L L.length (i : Int)) := by
  intro m
  induction m with
  | zero =>
    intro i out hi hf
    have := hf.1
    exact Both.step (fun k => spec_LayOut.l0.eq_2 _ _ _ _ _ k) (fun k => impl_LayOut.l0.eq_2 _ _ _ _ _ k) (Both.neg (by omega) (by omega) (Both.now _ (by show out.length ≤ 40; omega)))
  | succ m ih =>
    intro i out hi hf
    have ol := hf.1
    have bk := hL i (by omega)
    have fo := hf.2 i (by omega)
    have pd := bk.pad
    generalize hb : rd_T74 L (i : Int) = b at bk pd
    generalize ho : rd_T72 out (i : Int) = o at fo
    have tp : top i ≤ 900000 := by unfold top; omega
    have t0 : 0 ≤ top i := by unfold top; omega
    have w1 : wrap64 (2 * b.f4) = 2 * b.f4 := w64 (by omega) (by omega)
    have w2 : wrap64 (o.f2 - 2 * b.f4) = o.f2 - 2 * b.f4 := w64 (by omega) (by omega)
    have w3 : wrap64 (o.f3 - 2 * b.f4) = o.f3 - 2 * b.f4 := w64 (by omega) (by omega)
    have mw := mx_range (a := o.f2 - 2 * b.f4) t0 (by omega)
    have mh := mx_range (a := o.f3 - 2 * b.f4) t0 (by omega)
    refine Both.step (fun k => spec_LayOut.l0.eq_2 _ _ _ _ _ k) (fun k => impl_LayOut.l0.eq_2 _ _ _ _ _ k) (Both.pos (by omega) (by omega) (Both.pos (by omega) (by omega) (Both.pos (by omega) (by omega) (Both.rpos (by omega) ?_))))
    rw [hb, ho, w1, w2, w3]
    have nx := fun out hf => ih (i + 1) out (by omega) hf
    generalize hW : mx 0 (o.f2 - 2 * b.f4) = W at mw ⊢
    generalize hH : mx 0 (o.f3 - 2 * b.f4) = H at mh ⊢
    refine gather L hL hn out i _ _ W H b.f0 b.f1 b.f2 b.f3 b.f4 (fun K Le Gr hk => ?_) L.length 0 [] [] [] (by omega) ⟨rfl, rfl, by simp, by simp, by simp, by simp⟩
    have l1 := hk.l1; have l2 := hk.l2; have l3 := hk.l3
    refine Both.step (fun k => spec_LayOut.l1.eq_2 _ _ _ _ _ _ _ _ _ _ _ _ _ _ _ _ _ k) (fun k => impl_LayOut.l1.eq_2 _ _ _ _ _ _ _ _ _ _ _ _ _ _ _ _ _ _ _ _ _ k) (Both.neg (by omega) (by omega) (Both.lpos (by omega) (Both.lpos (by omega) ?_)))
    simp only [ho, w1, w2, w3, mx_least, Option.bind_some, hW, hH]
    rcases bk.lay with h | h
    · simp only [h]
      refine Both.lpos trivial (Both.rneg (by decide) (Both.rstep (fun k => impl_LayOut.j3.eq_2 _ _ _ _ _ _ _ _ _ _ _ _ _ _ _ _ _ _ k) ?_))
      exact Both.bind (shares Le Gr W (top i) t0 tp (by omega) (by omega) hk.least hk.grow mw.1 mw.2) (fun parts hp => rowed L i K parts Le Gr hk (top i) (Int.le_refl _) hp _ _ _ _ _ _ _ mh hn nx (by omega) parts.length 0 out _ (by omega) hf)
    · simp only [h]
      refine Both.lneg (by decide) (Both.rpos trivial (Both.rstep (fun k => impl_LayOut.j3.eq_2 _ _ _ _ _ _ _ _ _ _ _ _ _ _ _ _ _ _ k) ?_))
      exact Both.bind (shares Le Gr H (top i) t0 tp (by omega) (by omega) hk.least hk.grow mh.1 mh.2) (fun parts hp => columned L i K parts Le Gr hk (top i) (Int.le_refl _) hp _ _ _ _ _ _ _ mw hn nx (by omega) parts.length 0 out _ (by omega) hf)
theorem allFrom_get {p : Nat → Bool} : ∀ {m i : Nat}, allFrom p m i = true → ∀ j, i ≤ j → j < i + m → p j = true := fun {m i} h => (allFrom_iff p m i).1 h
theorem both (L : List Bx) (wide high : Int) (hl : L.length ≤ maxLen) : Both Q2 (fun k => spec_LayOut.f k L wide high) (fun k => impl_LayOut.f k L wide high) := by
  have no : Both Q2 (fun k => spec_LayOut.j0 k L wide high true) (fun k => impl_LayOut.j0 k L wide high true) :=
    Both.step (fun k => spec_LayOut.j0.eq_2 _ _ _ _ k) (fun k => impl_LayOut.j0.eq_2 _ _ _ _ k) (Both.pos rfl rfl (Both.now _ (by simp)))
  unfold spec_LayOut.f impl_LayOut.f
  refine Both.bind (P := fun b => b = boxesOk L) ⟨_, rfl, boxes_spec L hl, boxes_impl L hl⟩ (fun b hb => ?_)
  subst hb
  simp only [in_spec, in_impl, Option.bind_some]
  refine Both.ite (fun c0 => Both.ite (fun c1 => ?_) (fun _ => no)) (fun _ => no)
  cases c2 : (decide (0 ≤ high) && decide (high ≤ 10000)) with
  | false => exact no
  | true =>
    unfold boxesOk at c0
    simp only [Bool.and_eq_true, decide_eq_true_eq] at c0 c1 c2
    obtain ⟨⟨n0, n1⟩, hall⟩ := c0
    have hL : ∀ j : Nat, j < L.length → BxOk j (rd_T74 L (j : Int)) := fun j hj => BxOk.of (allFrom_get hall j (by omega) (by omega))
    refine Both.step (fun k => spec_LayOut.j0.eq_2 _ _ _ _ k) (fun k => impl_LayOut.j0.eq_2 _ _ _ _ k) (Both.neg (by simp) (by simp) (Both.pos (by omega) (by omega) (Both.pos (by omega) (by omega) ?_)))
    simp only [Option.bind_some]
    refine Both.pos (by simp; omega) (by simp; omega) ?_
    have h := lays L hL n1 L.length 0 ((List.replicate (L.length : Int).toNat z72).set (0 : Int).toNat (⟨0, 0, wide, high⟩ : Pl)) (by omega) ⟨by simp, fun j hj => by
      have e : rd_T72 ((List.replicate (L.length : Int).toNat z72).set (0 : Int).toNat (⟨0, 0, wide, high⟩ : Pl)) (j : Int) = if 0 = j then (⟨0, 0, wide, high⟩ : Pl) else z72 := by
        have h := rdP_set (l := List.replicate (L.length : Int).toNat z72) (i := 0) (v := (⟨0, 0, wide, high⟩ : Pl)) (j := j) (by simp; omega)
        have h2 : rd_T72 (List.replicate (L.length : Int).toNat z72) (j : Int) = _ := rdOf_get (d := z72) (by simp; omega)
        rw [h2] at h
        simpa using h
      rw [e]
      have t0 : 10000 ≤ top j := by unfold top; omega
      by_cases c : 0 = j
      · rw [if_pos c]; exact ⟨⟨c1.1, by show wide ≤ _; omega⟩, c2.1, by show high ≤ _; omega⟩
      · rw [if_neg c]; exact ⟨⟨Int.le_refl _, by show (0 : Int) ≤ _; omega⟩, Int.le_refl _, by show (0 : Int) ≤ _; omega⟩⟩
    exact h
/-! The law's own functions. -/
theorem rdP_self {X : List Pl} {i : Nat} {v : Pl} (h : i < X.length) : rd_T72 (X.set i v) (i : Int) = v := by rw [rdP_set h, if_pos rfl]
theorem rdB_self {X : List Bx} {i : Nat} {v : Bx} (h : i < X.length) : rd_T74 (X.set i v) (i : Int) = v := by
  have h1 : rd_T74 (X.set i v) (i : Int) = _ := rdOf_get (d := z74) (by rw [List.length_set]; exact h)
  rw [h1, List.getElem_set, if_pos rfl]
def mkP (j : Nat) : Pl := ⟨1 + 4 * (j : Int), 1 + 4 * (j : Int) + 1, 1 + 4 * (j : Int) + 1 + 1, 1 + 4 * (j : Int) + 1 + 1 + 1⟩
theorem mark_placed (n : Nat) (hn : n ≤ 1048576) : ∀ (m i : Nat) (X : List Pl), i + m = n → X.length = n → (∀ j : Nat, j < i → rd_T72 X (j : Int) = mkP j) →
    ∃ Y : List Pl, Y.length = n ∧ (∀ j : Nat, j < n → rd_T72 Y (j : Int) = mkP j) ∧ Ev (fun k => laws_markPlacedS.l0 k X (1 + 4 * (i : Int)) (i : Int)) (1 + 4 * (n : Int), Y) := by
  intro m
  induction m with
  | zero =>
    intro i X hi hX hm
    obtain rfl : i = n := by omega
    exact ⟨X, hX, hm, Ev.step (fun k => laws_markPlacedS.l0.eq_2 _ _ _ k) (Ev.neg (by omega) (Ev.now _))⟩
  | succ m ih =>
    intro i X hi hX hm
    have hi' : i < X.length := by omega
    obtain ⟨Y, y1, y2, y3⟩ := ih (i + 1) (X.set i (mkP i)) (by omega) (by rw [List.length_set]; exact hX) (fun j hj => by
      rw [rdP_set (by omega)]
      by_cases c : i = j
      · rw [if_pos c, c]
      · rw [if_neg c]; exact hm j (by omega))
    refine ⟨Y, y1, y2, Ev.step (fun k => laws_markPlacedS.l0.eq_2 _ _ _ k) (Ev.pos (by omega) (Ev.pos (by omega) ?_))⟩
    simp only [Option.bind_some, Int.toNat_natCast]
    rw [w64 (n := 1 + 4 * (i : Int) + 1) (by omega) (by omega), w64 (n := 1 + 4 * (i : Int) + 1 + 1) (by omega) (by omega), w64 (n := 1 + 4 * (i : Int) + 1 + 1 + 1) (by omega) (by omega), w64 (n := 1 + 4 * (i : Int) + 1 + 1 + 1 + 1) (by omega) (by omega), w_succ (by omega)]
    simp only [rdP_self hi', List.set_set]
    rw [show 1 + 4 * ((i + 1 : Nat) : Int) = 1 + 4 * (i : Int) + 1 + 1 + 1 + 1 by omega] at y3
    exact y3
theorem held_placed (n : Nat) (hn : n ≤ 1048576) (Y : List Pl) (hY : Y.length = n) (hm : ∀ j : Nat, j < n → rd_T72 Y (j : Int) = mkP j) : ∀ (m i : Nat), i + m = n → Ev (fun k => laws_heldPlacedS.l0 k Y (1 + 4 * (i : Int)) (i : Int)) (1 + 4 * (n : Int)) := by
  intro m
  induction m with
  | zero =>
    intro i hi
    obtain rfl : i = n := by omega
    exact Ev.step (fun k => laws_heldPlacedS.l0.eq_2 _ _ _ k) (Ev.neg (by omega) (Ev.now _))
  | succ m ih =>
    intro i hi
    have y3 := ih (i + 1) (by omega)
    refine Ev.step (fun k => laws_heldPlacedS.l0.eq_2 _ _ _ k) (Ev.pos (by omega) (Ev.pos (by omega) ?_))
    rw [hm i (by omega), w64 (n := 1 + 4 * (i : Int) + 1) (by omega) (by omega), w64 (n := 1 + 4 * (i : Int) + 1 + 1) (by omega) (by omega), w64 (n := 1 + 4 * (i : Int) + 1 + 1 + 1) (by omega) (by omega), w64 (n := 1 + 4 * (i : Int) + 1 + 1 + 1 + 1) (by omega) (by omega), w_succ (by omega)]
    rw [show 1 + 4 * ((i + 1 : Nat) : Int) = 1 + 4 * (i : Int) + 1 + 1 + 1 + 1 by omega] at y3
    exact Ev.pos rfl (Ev.pos rfl (Ev.pos rfl (Ev.pos rfl y3)))
theorem mark_boxes (n : Nat) (hn : n ≤ 1048576) : ∀ (m i : Nat) (X : List Bx), i + m = n → X.length = n → ∃ Y : List Bx, Ev (fun k => laws_markBoxS.l0 k X (1 + 5 * (i : Int)) (i : Int)) (1 + 5 * (n : Int), Y) := by
  intro m
  induction m with
  | zero =>
    intro i X hi hX
    obtain rfl : i = n := by omega
    exact ⟨X, Ev.step (fun k => laws_markBoxS.l0.eq_2 _ _ _ k) (Ev.neg (by omega) (Ev.now _))⟩
  | succ m ih =>
    intro i X hi hX
    have hi' : i < X.length := by omega
    obtain ⟨Y, y3⟩ := ih (i + 1) (X.set i (⟨1 + 5 * (i : Int), 1 + 5 * (i : Int) + 1, 1 + 5 * (i : Int) + 1 + 1, 1 + 5 * (i : Int) + 1 + 1 + 1, 1 + 5 * (i : Int) + 1 + 1 + 1 + 1⟩ : Bx)) (by omega) (by rw [List.length_set]; exact hX)
    refine ⟨Y, Ev.step (fun k => laws_markBoxS.l0.eq_2 _ _ _ k) (Ev.pos (by omega) (Ev.pos (by omega) ?_))⟩
    simp only [Option.bind_some, Int.toNat_natCast]
    rw [w64 (n := 1 + 5 * (i : Int) + 1) (by omega) (by omega), w64 (n := 1 + 5 * (i : Int) + 1 + 1) (by omega) (by omega), w64 (n := 1 + 5 * (i : Int) + 1 + 1 + 1) (by omega) (by omega), w64 (n := 1 + 5 * (i : Int) + 1 + 1 + 1 + 1) (by omega) (by omega), w64 (n := 1 + 5 * (i : Int) + 1 + 1 + 1 + 1 + 1) (by omega) (by omega), w_succ (by omega)]
    simp only [rdB_self hi', List.set_set]
    rw [show 1 + 5 * ((i + 1 : Nat) : Int) = 1 + 5 * (i : Int) + 1 + 1 + 1 + 1 + 1 by omega] at y3
    exact y3
theorem FnExactLayOut : laws_FnExactLayOut.Pure := by
  intro l wide high ⟨hl, _⟩ _ _
  refine Ev.rounds (r := true) ?_
  unfold laws_FnExactLayOut.f laws_szBoxS.f
  rw [maxLen_eq] at hl
  refine Ev.bind (a := (if (wrap64 (1048576 - (l.length : Int))) < 0 then -1 else wrap64 (1048576 - (l.length : Int)))) (Ev.mk fun _ => by split <;> rfl) (Ev.ite (fun _ => Ev.now _) (fun h => ?_))
  have hn : l.length ≤ 1048576 := by
    by_cases hc : l.length ≤ 1048576
    · exact hc
    · rw [w64 (by omega) (by omega), if_pos (by omega)] at h; omega
  have ht := toS_ev z74 (fun b : S77 => (⟨b.f0, b.f1, b.f2, b.f3, b.f4⟩ : Bx)) z77 laws_toBoxS.l0 (fun k x y i => laws_toBoxS.l0.eq_2 x y i k) l (by omega)
  have tl : Ev (fun k => laws_toBoxS.f k l) (l.map fun b : S77 => (⟨b.f0, b.f1, b.f2, b.f3, b.f4⟩ : Bx)) := by
    unfold laws_toBoxS.f
    exact Ev.pos (by omega) (Ev.pos (by omega) ht)
  generalize hxs : (l.map fun b : S77 => (⟨b.f0, b.f1, b.f2, b.f3, b.f4⟩ : Bx)) = xs at tl
  have hxn : xs.length ≤ 1048576 := by rw [← hxs, List.length_map]; exact hn
  have hxl : xs.length ≤ maxLen := by rw [maxLen_eq]; omega
  have ex : Ev (fun k => laws_eqBoxS.f k xs xs) true := by
    unfold laws_eqBoxS.f
    exact eqT_ev z74 (fun a b => laws_eqBox.f a.f0 a.f1 a.f2 a.f3 a.f4 b.f0 b.f1 b.f2 b.f3 b.f4) laws_eqBoxS.l0 (fun k x y i => laws_eqBoxS.l0.eq_2 x y i k) (fun a => by simp [laws_eqBox.f]) xs hxl
  obtain ⟨⟨r0, r1⟩, hr, h1, h2⟩ := both xs wide high hxl
  have hr : r0.length ≤ 40 := hr
  have he : Ev (fun k => laws_eqPlacedS.f k r0 r0) true := by
    unfold laws_eqPlacedS.f
    exact eqT_ev z72 (fun a b => laws_eqPlaced.f a.f0 a.f1 a.f2 a.f3 b.f0 b.f1 b.f2 b.f3) laws_eqPlacedS.l0 (fun k x y i => laws_eqPlacedS.l0.eq_2 x y i k) (fun a => by simp [laws_eqPlaced.f]) r0 (by rw [maxLen_eq]; omega)
  obtain ⟨M, mx'⟩ := mark_boxes xs.length hxn xs.length 0 xs (by omega) rfl
  have mx : Ev (fun k => laws_markBoxS.f k xs 1) (1 + 5 * (xs.length : Int), M) := mx'
  obtain ⟨Y, y1, y2, hm'⟩ := mark_placed r0.length (by omega) r0.length 0 r0 (by omega) rfl (fun j hj => by omega)
  have hm : Ev (fun k => laws_markPlacedS.f k r0 1) (1 + 4 * (r0.length : Int), Y) := hm'
  have hh : Ev (fun k => laws_heldPlacedS.f k Y 1) (1 + 4 * (r0.length : Int)) := held_placed r0.length (by omega) Y y1 y2 r0.length 0 (by omega)
  exact Ev.bind tl (Ev.bind h1 (Ev.bind tl (Ev.bind h2 (Ev.bind he (Ev.pos rfl (Ev.pos rfl (Ev.bind tl (Ev.bind ex (Ev.pos rfl (Ev.bind mx (Ev.pos (by show ¬ (1 + 5 * (xs.length : Int) < 0); omega) (Ev.bind he (Ev.pos rfl (Ev.pos rfl (Ev.bind hm (Ev.bind hh (Ev.pos (by omega) (Ev.pos rfl
    (Ev.bind tl (Ev.bind h2 (Ev.bind he (Ev.pos rfl (Ev.pos rfl (Ev.bind hh (Ev.pos (by omega) (Ev.pos rfl (Ev.now _)))))))))))))))))))))))))))

end Go.Proofs.Ytgfppioaggeleaa.Pure

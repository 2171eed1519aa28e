/- GoodCloud: the pure statement of the law: the program's answer is the reference's, for every cloud. -/
import Derived.Test.YtjckjmhlodjmgaaXFnExactGoodCloudx3
import Derived.Test.YtjckjmhlodjmgaaXLib
namespace Go.Proofs.Ytjckjmhlodjmgaa.Pure
open Go.RowKit Go.Proofs.Ytjckjmhlodjmgaa.XFnExactGoodCloud Go.Proofs.YtjckjmhlodjmgaaW.PrintWords Go.Proofs.YtjckjmhlodjmgaaW.PrintLast Go.Proofs.YtjckjmhlodjmgaaW.PrintMore Go.Proofs.Ytjckjmhlodjmgaa.X
set_option linter.unusedVariables false
set_option linter.unusedSimpArgs false

theorem in_spec (a b c : Int) : spec_l1In.f a b c = some (decide (b ≤ a) && decide (a ≤ c)) := by
  unfold spec_l1In.f
  by_cases h : b ≤ a <;> simp [h]
theorem in_impl (a b c : Int) : impl_inRange.f a b c = some (decide (b ≤ a) && decide (a ≤ c)) := by
  unfold impl_inRange.f
  by_cases h : b ≤ a <;> simp [h]
def fixedOk (a : Int) : Bool := decide (-1099511627776 ≤ a) && decide (a ≤ 1099511627776)
theorem fixed_spec (a : Int) : spec_GoodFixed.f a = some (fixedOk a) := by unfold spec_GoodFixed.f; rw [in_spec]; rfl
theorem fixed_impl (a : Int) : impl_GoodFixed.f a = some (fixedOk a) := by unfold impl_GoodFixed.f; rw [in_impl]; rfl
theorem seed_spec (s : Int) : spec_l1Seed.f s = some (decide (0 ≤ s) && decide (s ≤ 2147483647)) := by unfold spec_l1Seed.f; rw [in_spec]; rfl
theorem seed_impl (s : Int) : impl_isSeed.f s = some (decide (0 ≤ s) && decide (s ≤ 2147483647)) := by unfold impl_isSeed.f; rw [in_impl]; rfl
def sparkOk (b : S114) : Bool := fixedOk b.f0 && (fixedOk b.f1 && (fixedOk b.f2 && (fixedOk b.f3 && (decide (1 ≤ b.f4) && decide (b.f4 ≤ 200)))))
def cloudOk (a b : Int) (l : List S114) : Bool := (decide (0 ≤ a) && decide (a ≤ 2147483647)) && ((decide (0 ≤ b) && decide (b ≤ 200)) && (decide (l.length ≤ 60) && l.all sparkOk))
theorem cloud_spec (a b : Int) (l : List S114) (hl : l.length ≤ maxLen) : Ev (fun k => spec_GoodCloud.f k a b l) (cloudOk a b l) := by
  have h0 := all_ev z114 sparkOk spec_GoodCloud.l0 (fun k x n i => by rw [spec_GoodCloud.l0]; simp only [in_spec, fixed_spec, Option.bind_some, and_chain]; rfl) l hl
  have hj : ∀ z, Ev (fun k => spec_GoodCloud.j0 k z a b l) (!z && l.all sparkOk) := fun z => Ev.step (fun k => spec_GoodCloud.j0.eq_2 _ _ _ _ k) (Ev.andn (fun _ => h0))
  unfold spec_GoodCloud.f cloudOk
  simp only [in_spec, seed_spec, Option.bind_some]
  cases (decide (0 ≤ a) && decide (a ≤ 2147483647)) with
  | false => exact Ev.neg (by decide) (hj true)
  | true =>
    refine Ev.pos rfl ?_
    cases (decide (0 ≤ b) && decide (b ≤ 200)) with
    | false => exact Ev.neg (by decide) (hj true)
    | true =>
      refine Ev.pos rfl (Ev.cast (hj _) ?_)
      rw [Bool.true_and, Bool.true_and]
      congr 1
      by_cases h : l.length ≤ 60
      · rw [decide_eq_true h, decide_eq_false (by omega)]; rfl
      · rw [decide_eq_false h, decide_eq_true (by omega)]; rfl
theorem fixeds_impl (l : List Int) (hl : l.length ≤ maxLen) : Ev (fun k => impl_areFixed.f k l) (l.all fixedOk) :=
  all_ev (0 : Int) fixedOk impl_areFixed.l0 (fun k x n i => by rw [impl_areFixed.l0]; simp only [fixed_impl, Option.bind_some]; rfl) l hl
theorem cloud_impl (a b : Int) (l : List S114) (hl : l.length ≤ maxLen) : Ev (fun k => impl_GoodCloud.f k a b l) (cloudOk a b l) := by
  have hc : ∀ z : S114, Ev (fun k => impl_GoodCloud_1.f k z.f0 z.f1 z.f2 z.f3 z.f4) (!sparkOk z) := fun z => by
    unfold impl_GoodCloud_1.f sparkOk
    refine Ev.bind (fixeds_impl [z.f0, z.f1, z.f2, z.f3] (by rw [maxLen_eq]; simp)) ?_
    simp only [List.all_cons, List.all_nil, Bool.and_true, in_impl, Option.bind_some]
    cases h : (fixedOk z.f0 && (fixedOk z.f1 && (fixedOk z.f2 && fixedOk z.f3))) with
    | true =>
      simp only [Bool.and_eq_true] at h
      obtain ⟨h0, h1, h2, h3⟩ := h
      exact Ev.pos rfl (Ev.cast (Ev.now _) (by simp only [h0, h1, h2, h3, Bool.true_and]))
    | false =>
      refine Ev.neg (by decide) (Ev.cast (Ev.now _) ?_)
      have : (fixedOk z.f0 && (fixedOk z.f1 && (fixedOk z.f2 && (fixedOk z.f3 && (decide (1 ≤ z.f4) && decide (z.f4 ≤ 200)))))) = ((fixedOk z.f0 && (fixedOk z.f1 && (fixedOk z.f2 && fixedOk z.f3))) && (decide (1 ≤ z.f4) && decide (z.f4 ≤ 200))) := by simp only [Bool.and_assoc]
      rw [this, h]; rfl
  have h := contains_ev z114 (fun k z => impl_GoodCloud_1.f k z.f0 z.f1 z.f2 z.f3 z.f4) (fun z => !sparkOk z) slices_IndexFunc_impl_Spark_impl_Spark_at_impl_GoodCloud_1.l0 (fun k x n i => slices_IndexFunc_impl_Spark_impl_Spark_at_impl_GoodCloud_1.l0.eq_2 x n i k) l hl (fun z _ => hc z)
  unfold impl_GoodCloud.f cloudOk slices_ContainsFunc_impl_Spark_impl_Spark_at_impl_GoodCloud_1.f slices_IndexFunc_impl_Spark_impl_Spark_at_impl_GoodCloud_1.f
  simp only [in_impl, seed_impl, Option.bind_some]
  refine Ev.and (fun _ => Ev.and (fun _ => Ev.cast (Ev.andp (p := (l.length : Int) ≤ 60) (fun _ => Ev.bind h (Ev.cast (Ev.now _) (any_not _ l)))) ?_))
  congr 1
  exact decide_eq_decide.2 (by omega)
theorem FnExactGoodCloud : laws_FnExactGoodCloud.Pure := by
  intro a b l _ _ ⟨hl, _⟩
  refine Ev.rounds (r := true) ?_
  have hs : laws_szCloud.f a b l 1048576 = some (roomLeft l.length 1048576) := by
    unfold laws_szCloud.f laws_szSparkS.f
    rw [sz_left (by omega) (by omega) hl, Option.bind_some]
    exact room_again _ _
  unfold laws_FnExactGoodCloud.f
  refine Ev.const_bind hs (Ev.ite (fun _ => Ev.now _) (fun h => ?_))
  have hn := (roomLeft_ok h).1
  have ht := toS_ev z114 (fun b : S167 => (⟨b.f0, b.f1, b.f2, b.f3, b.f4⟩ : S114)) z167 laws_toSparkS.l0 (fun k x y i => laws_toSparkS.l0.eq_2 x y i k) l (by omega)
  have hT : Ev (fun k => laws_toCloud.f k a b l) (a, b, l.map fun b : S167 => (⟨b.f0, b.f1, b.f2, b.f3, b.f4⟩ : S114)) := by
    unfold laws_toCloud.f laws_toSparkS.f
    exact Ev.bind (Ev.pos (by omega) (Ev.pos (by omega) ht)) (Ev.now _)
  generalize hxs : (l.map fun b : S167 => (⟨b.f0, b.f1, b.f2, b.f3, b.f4⟩ : S114)) = xs at hT
  have hxl : xs.length ≤ maxLen := by rw [← hxs, List.length_map, maxLen_eq]; omega
  have he : Ev (fun k => laws_eqCloud.f k a b xs a b xs) true := by
    unfold laws_eqCloud.f laws_eqSparkS.f
    exact Ev.pos rfl (Ev.pos rfl (Ev.bind (eqT_ev z114 (fun a b => laws_eqSpark.f a.f0 a.f1 a.f2 a.f3 a.f4 b.f0 b.f1 b.f2 b.f3 b.f4) laws_eqSparkS.l0 (fun k x y i => laws_eqSparkS.l0.eq_2 x y i k) (fun a => by simp [laws_eqSpark.f]) xs hxl) (Ev.pos rfl (Ev.now _))))
  exact Ev.bind hT (Ev.bind (cloud_spec a b xs hxl) (Ev.bind hT (Ev.bind (cloud_impl a b xs hxl) (Ev.neg (by simp) (Ev.bind hT (Ev.bind he (Ev.pos rfl (Ev.now _))))))))

end Go.Proofs.Ytjckjmhlodjmgaa.Pure

/- PluralOf: the pure statement of the law: the program's plural is the reference's, for every language's name and number. -/
import Derived.Test.YthcmofhlljmccaaXFnExactPluralOfx1
import Derived.Test.YthcmofhlljmccaaXLib
namespace Go.Proofs.Ythcmofhlljmccaa.Pure
open Go.RowKit Go.Proofs.Ythcmofhlljmccaa.XFnExactPluralOf Go.Proofs.YthcmofhlljmccaaW.PrintWords Go.Proofs.YthcmofhlljmccaaW.PrintLast Go.Proofs.YthcmofhlljmccaaW.PrintMore Go.Proofs.Ythcmofhlljmccaa.X
set_option linter.unusedVariables false
set_option linter.unusedSimpArgs false

theorem in_spec (a b c : Int) : spec_l1In.f a b c = some (decide (b ≤ a) && decide (a ≤ c)) := by
  unfold spec_l1In.f
  by_cases h : b ≤ a <;> simp [h]
theorem in_impl (a b c : Int) : impl_inRange.f a b c = some (decide (b ≤ a) && decide (a ≤ c)) := by
  unfold impl_inRange.f
  by_cases h : b ≤ a <;> simp [h]
theorem slav (b c : Bool) : ∃ r, ((if b = true then (if c = true then some 4 else some 3) else some 4).bind fun t => some t) = some r ∧ ((if b = true then (if c = true then some 4 else some 3) else some 4).bind fun t : Int => some t) = some r := by cases b <;> cases c <;> exact ⟨_, rfl, rfl⟩
theorem FnExactPluralOf : laws_FnExactPluralOf.Pure := by
  intro s n hs hn
  unfold laws_FnExactPluralOf.f
  split
  · rfl
  · have hin := W hn
    have e : ∃ r, spec_PluralOf.f s n = some r ∧ impl_PluralOf.f s n = some r := by
      unfold spec_PluralOf.f impl_PluralOf.f spec_l19Slavic.f impl_isCount.f impl_slavic.f impl_arabic.f impl_one.f
      simp only [in_spec, in_impl, Option.bind_some]
      by_cases h0 : 0 ≤ n ∧ n ≤ 1000000000
      · have h1 : (decide (0 ≤ n) && decide (n ≤ 1000000000)) = true := by simp [h0]
        have t10 : Int.tmod n 10 = n % 10 := Int.tmod_eq_emod_of_nonneg h0.1
        have t100 : Int.tmod n 100 = n % 100 := Int.tmod_eq_emod_of_nonneg h0.1
        simp only [h1, if_true, t10, t100]
        by_cases l0 : s.toList = ([101, 110] : List UInt8)
        · rw [if_pos l0, if_pos l0]
          by_cases h : n = 1
          · subst h; exact ⟨_, rfl, rfl⟩
          · have h' : (n == 1) = false := beq_eq_false_iff_ne.2 h
            rw [if_neg h, h']; exact ⟨_, rfl, rfl⟩
        · rw [if_neg l0, if_neg l0]
          by_cases l1 : s.toList = ([102, 114] : List UInt8)
          · rw [if_pos l1, if_pos l1]
            by_cases h : n ≤ 1
            · rw [if_pos h, decide_eq_true h]; exact ⟨_, rfl, rfl⟩
            · rw [if_neg h, decide_eq_false h]; exact ⟨_, rfl, rfl⟩
          · rw [if_neg l1, if_neg l1]
            by_cases l2 : s.toList = ([106, 97] : List UInt8)
            · rw [if_pos l2, if_pos l2]
              exact ⟨_, rfl, rfl⟩
            · rw [if_neg l2, if_neg l2]
              by_cases l3 : s.toList = ([99, 115] : List UInt8)
              · rw [if_pos l3, if_pos l3]
                by_cases h : n = 1
                · subst h; exact ⟨_, rfl, rfl⟩
                · have h' : (n == 1) = false := beq_eq_false_iff_ne.2 h
                  rw [if_neg h, h']
                  by_cases h2 : (decide (2 ≤ n) && decide (n ≤ 4)) = true
                  · rw [if_pos h2, if_pos h2]; exact ⟨_, rfl, rfl⟩
                  · rw [if_neg h2, if_neg h2]; exact ⟨_, rfl, rfl⟩
              · rw [if_neg l3, if_neg l3]
                by_cases l4 : s.toList = ([112, 108] : List UInt8)
                · rw [if_pos l4, if_pos l4]
                  by_cases h : n = 1
                  · subst h; exact ⟨_, rfl, rfl⟩
                  · have h' : (n == 1) = false := beq_eq_false_iff_ne.2 h
                    rw [if_neg h, h', if_neg (show ¬ false = true by decide)]
                    exact slav _ _
                · rw [if_neg l4, if_neg l4]
                  by_cases l5 : s.toList = ([114, 117] : List UInt8)
                  · rw [if_pos l5, if_pos l5]
                    by_cases ha : n % 10 = 1
                    · rw [if_pos ha, if_pos ha]
                      by_cases hb : n % 100 = 11
                      · have hb' : (n % 100 != 11) = false := bne_eq_false_iff_eq.2 hb
                        rw [if_pos hb, hb', if_neg (show ¬ false = true by decide)]
                        exact slav _ _
                      · have hb' : (n % 100 != 11) = true := bne_iff_ne.2 hb
                        rw [if_neg hb, hb']
                        exact ⟨_, rfl, rfl⟩
                    · rw [if_neg ha, if_neg ha, if_neg (show ¬ false = true by decide)]
                      exact slav _ _
                  · rw [if_neg l5, if_neg l5]
                    by_cases l6 : s.toList = ([97, 114] : List UInt8)
                    · rw [if_pos l6, if_pos l6]
                      by_cases ha : n = 1
                      · rw [if_pos ha, if_pos ha]; exact ⟨_, rfl, rfl⟩
                      · rw [if_neg ha, if_neg ha]
                        by_cases hb : n = 2
                        · rw [if_pos hb, if_pos hb]; exact ⟨_, rfl, rfl⟩
                        · rw [if_neg hb, if_neg hb]
                          by_cases hc : (decide (3 ≤ n % 100) && decide (n % 100 ≤ 10)) = true
                          · rw [if_pos hc, if_pos hc]; exact ⟨_, rfl, rfl⟩
                          · rw [if_neg hc, if_neg hc]
                            by_cases hd : n % 100 > 10
                            · rw [if_pos hd, if_pos (by simp; omega)]; exact ⟨_, rfl, rfl⟩
                            · rw [if_neg hd, if_neg (by simp; omega)]; exact ⟨_, rfl, rfl⟩
                    · rw [if_neg l6, if_neg l6]
                      exact ⟨_, rfl, rfl⟩
      · have h1 : (decide (0 ≤ n) && decide (n ≤ 1000000000)) = false := by simp; omega
        rw [h1]
        exact ⟨_, rfl, rfl⟩
    obtain ⟨r, e1, e2⟩ := e
    rw [e1, e2]
    simp

end Go.Proofs.Ythcmofhlljmccaa.Pure

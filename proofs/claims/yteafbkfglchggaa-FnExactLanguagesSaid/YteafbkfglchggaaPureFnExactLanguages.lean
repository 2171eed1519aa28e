/- Languages: the pure statement of the law: the program's list is the reference's. -/
import Derived.Test.YteafbkfglchggaaXFnExactLanguagesx1
import Derived.Test.YteafbkfglchggaaXLib
namespace Go.Proofs.Yteafbkfglchggaa.Pure
open Go.RowKit Go.Proofs.Yteafbkfglchggaa.XFnExactLanguages Go.Proofs.YteafbkfglchggaaW.PrintWords Go.Proofs.YteafbkfglchggaaW.PrintLast Go.Proofs.Yteafbkfglchggaa.X

theorem FnExactLanguages : laws_FnExactLanguages.Pure := by
  unfold laws_FnExactLanguages.Pure
  obtain ⟨put, hT⟩ := markText_ev laws_markText.l0 (fun k x s => laws_markText.l0.eq_2 x s k)
  generalize hl : (([(⟨#[97, 114]⟩ : ByteArray), (⟨#[99, 115]⟩ : ByteArray), (⟨#[101, 110]⟩ : ByteArray), (⟨#[102, 114]⟩ : ByteArray), (⟨#[106, 97]⟩ : ByteArray), (⟨#[112, 108]⟩ : ByteArray), (⟨#[114, 117]⟩ : ByteArray)] : List ByteArray)) = xs
  have hn : xs.length = 7 := by rw [← hl]; rfl
  have e1 : spec_Languages.f = some xs := by rw [← hl]; rfl
  have e2 : impl_Languages.f = some xs := by rw [← hl]; rfl
  have hq : Ev (fun k => laws_eqStringS.f k xs xs) true := eqS_ev (fun s : ByteArray => s.toList) ByteArray.empty laws_eqStringS.l0 (fun k x y i => laws_eqStringS.l0.eq_2 x y i k) xs (by rw [hn, maxLen_eq]; omega)
  have hm := mark_ev laws_markText.f put laws_markStringS.l0 (fun k x c i => laws_markStringS.l0.eq_2 x c i k) hT 1 (by omega) xs (by rw [hn]; omega)
  have hh := held_ev (fun s : ByteArray => s.toList) ByteArray.empty laws_markText.f put laws_heldStringS.l0 (fun k x c i => laws_heldStringS.l0.eq_2 x c i k) hT xs.length 1 (by omega) (by rw [hn]; omega)
  refine Ev.rounds (r := true) ?_
  unfold laws_FnExactLanguages.f
  refine Ev.const_bind e1 (Ev.const_bind e2 (Ev.bind hq (Ev.pos rfl (Ev.bind hm (Ev.bind hh (Ev.neg (by rw [hn]; omega) (Ev.pos rfl (Ev.const_bind e2 (Ev.bind hq (Ev.pos rfl (Ev.bind hh (Ev.neg (by rw [hn]; omega) (Ev.pos rfl (Ev.now _))))))))))))))

end Go.Proofs.Yteafbkfglchggaa.Pure

/- What the Go functions that this law comes to compute, each walked; written by a program of this session. -/
import Derived.Test.YtpfddgchlllkpaaXMark
import Derived.Test.YtpfddgchlllkpaaXFnExactFalseLettersx0
import Derived.Test.YtpfddgchlllkpaaXFnExactFalseLettersx1
namespace Go.Proofs.Ytpfddgchlllkpaa.XFnExactFalseLetters
open Go.RowKit Go.Proofs.YtpfddgchlllkpaaW.PrintWords Go.Proofs.YtpfddgchlllkpaaW.PrintLast Go.Proofs.YtpfddgchlllkpaaW.PrintMore
attribute [local go_sem] str_geq max2_int min2_int max_two min_two max_three min_three max_four min_four   -- for this text's walks alone
set_option linter.unusedVariables false
set_option linter.unusedSimpArgs false

/-! ### spec_FalseLetters: function 28 -/
/-! letters turned, what stands between braces kept: the bytes are a row of the call's own with a conversion's mark -/
def spec_FalseLetters.turn (c : Int) : Int := if 97 ≤ c ∧ c ≤ 122 then 97 + (c - 97 + 13) % 26 else if 65 ≤ c ∧ c ≤ 90 then 65 + (c - 65 + 13) % 26 else c
def spec_FalseLetters.endAt (X : List Int) : Nat → Nat → Nat
  | 0, e => e
  | n + 1, e => if X.getD e 0 = 125 then e else spec_FalseLetters.endAt X n (e + 1)
def spec_FalseLetters.out (X : List Int) : Nat → Nat → List Int
  | 0, _ => []
  | n + 1, p => if p < X.length then (if X.getD p 0 = 123 ∧ spec_FalseLetters.endAt X (X.length - p) p < X.length then (X.drop p).take (spec_FalseLetters.endAt X (X.length - p) p + 1 - p) ++ spec_FalseLetters.out X n (spec_FalseLetters.endAt X (X.length - p) p + 1) else spec_FalseLetters.turn (X.getD p 0) :: spec_FalseLetters.out X n (p + 1)) else []
def spec_FalseLetters.f (k : Nat) (a0 : ByteArray) : Option (ByteArray × Bool) := if 200 < a0.size then some (⟨#[]⟩, false) else (spec_RunesOf.f k a0).bind fun t => if (t.1.any fun c => decide (c = 65533)) = true then some (⟨#[]⟩, false) else some (⟨#[91]⟩ ++ strOfNums (spec_FalseLetters.out (bytesOf a0) a0.size 0) ++ ⟨#[93]⟩, true)
theorem spec_FalseLetters.mono : ∀ a0 k, LeO (spec_FalseLetters.f k a0) (spec_FalseLetters.f (k + 1) a0) := by
  intro a0 k
  unfold spec_FalseLetters.f
  exact LeO.ite (LeO.refl _) (LeO.bind (spec_RunesOf.mono _ _) (fun _ => LeO.refl _))
theorem spec_FalseLetters.any_hit (R : List Int) (i : Nat) (hi : i < R.length) (h : R.getD i 0 = 65533) : (R.any fun c => decide (c = 65533)) = true := by
  rw [List.any_eq_true]
  refine ⟨R[i], List.getElem_mem hi, decide_eq_true ?_⟩
  rw [← h, List.getD_eq_getElem?_getD, List.getElem?_eq_getElem hi]
  rfl
theorem spec_FalseLetters.any_none (R : List Int) (h : ∀ j, j < R.length → R.getD j 0 ≠ 65533) : (R.any fun c => decide (c = 65533)) = false := by
  rw [List.any_eq_false]
  intro c hc
  obtain ⟨j, hj, rfl⟩ := List.getElem_of_mem hc
  have := h j hj
  rw [List.getD_eq_getElem?_getD, List.getElem?_eq_getElem hj] at this
  simpa using this
def spec_FalseLetters.cells (L : List Int) (T : Array Value) : Array Value := (L.map (Value.int .u8)).toArray ++ T
theorem spec_FalseLetters.row (s : ByteArray) (cap : Nat) : bytesRow s cap = spec_FalseLetters.cells (bytesOf s) (Array.replicate (cap - s.size) (.int .u8 0)) := by
  unfold bytesRow spec_FalseLetters.cells bytesOf
  congr 1
  apply Array.ext'
  simp
theorem spec_FalseLetters.blkf_set {w : World} {g : Nat} {t : TypeId} {cs : Array Value} {fr : Nat × Nat} (h : w.heap[g]? = some (.cells cs t fr)) (i : Nat) (u : Value) : (w.setCell ⟨g, i, none⟩ u).heap[g]? = some (.cells (cs.setIfInBounds i u) t fr) := by
  simp [World.setCell, Array.getElem?_modify, h]
theorem spec_FalseLetters.blkf_frozen {w : World} {g : Nat} {t : TypeId} {cs : Array Value} {a b : Nat} (h : w.heap[g]? = some (.cells cs t (a, b))) (i : Nat) (hi : i < a) : w.frozen? ⟨g, i, none⟩ = false := by
  simp [World.frozen?, h]
  omega
theorem spec_FalseLetters.cell_at {w : World} {g : Nat} {t : TypeId} {L : List Int} {T : Array Value} {fr : Nat × Nat} (h : w.heap[g]? = some (.cells (spec_FalseLetters.cells L T) t fr)) (i : Nat) (hi : i < L.length) : w.cell? ⟨g, i, none⟩ = some (.int .u8 (L.getD i 0)) := by
  rw [cell_of_row w g i _ t fr h]
  unfold spec_FalseLetters.cells
  rw [Array.getElem?_append_left (by simpa using hi)]
  simp [List.getD_eq_getElem?_getD, hi]
theorem spec_FalseLetters.set_at (L : List Int) (T : Array Value) (i : Nat) (c : Int) (hi : i < L.length) : (spec_FalseLetters.cells L T).setIfInBounds i (.int .u8 c) = spec_FalseLetters.cells (L.set i c) T := by
  unfold spec_FalseLetters.cells
  apply Array.ext'
  simp [List.map_set, List.set_append, hi]
theorem spec_FalseLetters.drop_get {L X : List Int} {p : Nat} (h : L.drop p = X.drop p) (j : Nat) (hj : p ≤ j) : L.getD j 0 = X.getD j 0 := by
  have e1 : L[j]? = (L.drop p)[j - p]? := by rw [List.getElem?_drop]; congr 1; omega
  have e2 : X[j]? = (X.drop p)[j - p]? := by rw [List.getElem?_drop]; congr 1; omega
  rw [List.getD_eq_getElem?_getD, List.getD_eq_getElem?_getD, e1, e2, h]
theorem spec_FalseLetters.drop_more {L X : List Int} {p : Nat} (h : L.drop p = X.drop p) (q : Nat) (hq : p ≤ q) : L.drop q = X.drop q := by
  have e : q = p + (q - p) := by omega
  rw [e, ← List.drop_drop, ← List.drop_drop, h]
theorem spec_FalseLetters.take_more {L X : List Int} {p : Nat} (h : L.drop p = X.drop p) (q : Nat) (hq : p ≤ q) : L.take q = L.take p ++ (X.drop p).take (q - p) := by
  have e : q = p + (q - p) := by omega
  conv => lhs; rw [e, List.take_add, h]
theorem spec_FalseLetters.set_take (L : List Int) (p : Nat) (c : Int) (hp : p < L.length) : (L.set p c).take (p + 1) = L.take p ++ [c] := by
  rw [List.take_set, List.take_succ_eq_append_getElem hp, List.set_append, if_neg (by simp; omega)]
  simp [Nat.min_eq_left (Nat.le_of_lt hp)]
theorem spec_FalseLetters.set_drop (L : List Int) (p : Nat) (c : Int) : (L.set p c).drop (p + 1) = L.drop (p + 1) := by
  rw [List.drop_set_of_lt (by omega)]
theorem spec_FalseLetters.get_take (L : List Int) (p : Nat) (hp : p < L.length) : L.take (p + 1) = L.take p ++ [L.getD p 0] := by
  rw [List.take_succ_eq_append_getElem hp, List.getD_eq_getElem?_getD, List.getElem?_eq_getElem hp]
  rfl
set_option maxHeartbeats 8000000 in
set_option maxRecDepth 100000 in
theorem spec_FalseLetters.calls (k : Nat) (a0 : ByteArray) (r1 : ByteArray) (r2 : Bool) (w : World) (h : spec_FalseLetters.f k a0 = some (r1, r2)) :
    Calls Try.prog 28 #[.string a0] w fun e w' => e = .returned (.tuple #[.string r1, .bool r2]) ∧ Below w.heap.size w w' := by
  unfold spec_FalseLetters.f at h
  split at h
  · rename_i hbig
    simp only [Option.some.injEq, Prod.mk.injEq] at h
    obtain ⟨rfl, rfl⟩ := h
    have c0 : decide ((200 : Int) < (a0.size : Int)) = true := decide_eq_true (by omega)
    go_enter Try.func28, Try.ntmps28
    go_wp2_with (fail "x")
    go_ret2
    exact ⟨rfl, Below.refl _ _⟩
  · rename_i hsmall
    obtain ⟨⟨R, b⟩, ht, h⟩ := Option.bind_eq_some_iff.mp h
    have HT := Aside0.mk ht
    have H := Aside0.mk h
    clear ht h
    have c0 : decide ((200 : Int) < (a0.size : Int)) = false := decide_eq_false (by omega)
    go_enter Try.func28, Try.ntmps28
    go_wp2_with (go_at_call 23; refine (spec_RunesOf.calls k a0 R b _ HT.out).mono ?_; rintro e w1 ⟨v17, rfl, ho, hb1⟩; obtain ⟨A1, c1, rfl, hc1, hr1⟩ := Kd.R_reads ho; have HR := Aside0.mk hr1; have HB := Aside0.mk hb1; clear hr1 hb1 ho)
    have H2 := H
    clear h H
    have hgi : w.heap.size ≤ w1.heap.size := below_size HB.out
    have HGI := Aside0.mk hgi
    clear hgi
    have hmaxR := Kd.C_max HR.out
    have HM := Aside0.mk hmaxR
    clear hmaxR
    go_loopg [22] R.length (fun kq v22 w' => ∃ (x : Int) (i : Nat), v22 = .int .i64 x ∧ Aside0 (x = (i : Int)) ∧ Aside0 (i + kq = R.length) ∧ Aside0 (∀ j, j < i → R.getD j 0 ≠ 65533) ∧ w' = w1)
    case atStart => exact ⟨0, 0, rfl, ⟨rfl⟩, ⟨by omega⟩, ⟨fun j hj => by omega⟩, rfl⟩
    case round =>
      obtain ⟨x, i, rfl, HX, HK, HN, rfl⟩ := hrel
      have hmax := HM.out
      have hX := HX.out
      have hK := HK.out
      by_cases hi : i < R.length
      · obtain ⟨k2, rfl⟩ : ∃ k2, gk = k2 + 1 := ⟨gk - 1, by omega⟩
        obtain ⟨ad, e0, hx0⟩ := Kd.at_int HR.out x (by omega) (by omega)
        cases e0
        have p0 := eq_true (show 0 ≤ x by omega)
        have q0 := eq_true (show x < (R.length : Int) by omega)
        have cb : decide (x < (R.length : Int)) = true := decide_eq_true (by omega)
        have hwj : wrap64 (x + 1) = ((i + 1 : Nat) : Int) := by unfold wrap64; omega
        have hrd : rd R x = R.getD i 0 := by rw [hX]; rfl
        by_cases hit : rd R x = 65533
        · have cb2 : (rd R x == 65533) = true := by rw [hit]; rfl
          have hAny := spec_FalseLetters.any_hit R i hi (hrd.symm.trans hit)
          have hh := H2.out
          rw [if_pos hAny] at hh
          simp only [Option.some.injEq, Prod.mk.injEq] at hh
          obtain ⟨rfl, rfl⟩ := hh
          clear hAny hrd hit hX hK hmax
          go_wp2_with (fail "x")
          go_ret2
          exact ⟨rfl, HB.out⟩
        · have cb2 : (rd R x == 65533) = false := beq_false_of_ne hit
          have HN2 : Aside0 (∀ j, j < i + 1 → R.getD j 0 ≠ 65533) := ⟨fun j hj => by
            by_cases q : j < i
            · exact HN.out j q
            · obtain rfl : j = i := by omega
              exact fun e => hit (hrd.trans e)⟩
          clear hrd hit hX hmax HN
          go_wp2_with (fail "x")
          go_roundg k2
          case measure => omega
          case rel => exact ⟨_, i + 1, rfl, ⟨by first | exact hwj | omega⟩, ⟨by omega⟩, HN2, rfl⟩
      · have cb : decide (x < (R.length : Int)) = false := decide_eq_false (by omega)
        have hAny := spec_FalseLetters.any_none R (fun j hj => HN.out j (by omega))
        have hh := H2.out
        rw [if_neg (by rw [hAny]; decide)] at hh
        simp only [Option.some.injEq, Prod.mk.injEq] at hh
        obtain ⟨rfl, rfl⟩ := hh
        clear hAny hX hK hmax HN H2
        obtain ⟨cap, hcap⟩ : ∃ c, c = grownCap wr a0.size 0 5 := ⟨_, rfl⟩
        have hcv := run_bytes_of_string (P := Try.prog) wr 9 79 5 a0 Try.underlying9 Try.underlying79 Try.underlying5
        rw [← hcap, spec_FalseLetters.row] at hcv
        clear hcap
        generalize hT : Array.replicate (cap - a0.size) (Value.int .u8 0) = T at hcv
        generalize hF : (spec_FalseLetters.cells (bytesOf a0) T).size = F at hcv
        have hFa : a0.size ≤ F := by rw [← hF]; simp [spec_FalseLetters.cells, bytesOf_length]
        have HFA := Aside0.mk hFa
        clear hT hF hFa HR hc1 HM HX HK hi
        generalize hX0 : bytesOf a0 = X at hcv ⊢
        have hXl : X.length = a0.size := by rw [← hX0, bytesOf_length]
        have HXL := Aside0.mk hXl
        have HXB : Aside0 (∀ j, 0 ≤ X.getD j 0 ∧ X.getD j 0 ≤ 255) := ⟨fun j => by
          rw [← hX0]
          have h := bt_range a0 (j : Int)
          rw [← rd_bytesOf] at h
          exact h⟩
        have HX0 := Aside0.mk hX0
        clear hX0 hXl
        go_wp2_with (simp only [hcv])
        generalize hgb : wr.heap.size = gb at HGI ⊢
        have HGB := Aside0.mk hgb
        clear hgb hcv
        go_loopg [9] a0.size (fun kq v9 w' => ∃ (y : Int) (p : Nat) (L : List Int), v9 = .int .i64 y ∧ Aside0 (y = (p : Int)) ∧ Aside0 (a0.size ≤ p + kq) ∧ Aside0 (p ≤ a0.size) ∧ Aside0 (L.length = a0.size) ∧ Aside0 (L.drop p = X.drop p) ∧ Aside0 (L.take p ++ spec_FalseLetters.out X kq p = spec_FalseLetters.out X a0.size 0) ∧ Aside0 (w'.heap[gb]? = some (.cells (spec_FalseLetters.cells L T) 5 (F, F + 1))) ∧ Aside0 (Below w.heap.size w w'))
        case atStart => exact ⟨0, 0, X, rfl, ⟨rfl⟩, ⟨by omega⟩, ⟨by omega⟩, ⟨HXL.out⟩, ⟨rfl⟩, ⟨rfl⟩, ⟨by rw [← HGB.out]; exact blk_drew (blk_new _ _)⟩, ⟨(HB.out.alloc (by rw [HGB.out]; exact HGI.out) _).drew⟩⟩
        case round =>
          clear HB HGB
          obtain ⟨y, p, L, rfl, HY, HK, HP, HL, HD, HO, BK, HB⟩ := hrel
          have hY := HY.out
          by_cases hp : p < a0.size
          · obtain ⟨k2, rfl⟩ : ∃ k2, gk = k2 + 1 := ⟨gk - 1, by have := HK.out; omega⟩
            have HPL := Aside0.mk hp
            have p0 := eq_true (show 0 ≤ y by omega)
            have q0 := eq_true (show y < (a0.size : Int) by omega)
            have cb1 : decide (y < (a0.size : Int)) = true := decide_eq_true (by omega)
            have hc := spec_FalseLetters.cell_at BK.out p (by rw [HL.out]; exact hp)
            have hf := spec_FalseLetters.blkf_frozen BK.out p (by have := HFA.out; omega)
            have hwj : wrap64 (y + 1) = ((p + 1 : Nat) : Int) := by unfold wrap64; omega
            rw [spec_FalseLetters.drop_get HD.out p (Nat.le_refl _)] at hc
            obtain ⟨hb0, hb1⟩ := HXB.out p
            obtain ⟨c, hcX⟩ : ∃ c, c = X.getD p 0 := ⟨_, rfl⟩
            rw [← hcX] at hc hb0 hb1
            have HCX := Aside0.mk hcX
            rw [show p = y.toNat by omega] at hc hf
            clear hcX hp hY
            by_cases h123 : c = 123
            · have cb2 : (c == 123) = true := by rw [h123]; rfl
              have H123 := Aside0.mk h123
              clear h123 hb0 hb1 hwj
              go_wp2_with (fail "x")
              have hgk : a0.size - p + p = a0.size := by have := HPL.out; omega
              have HGK := Aside0.mk hgk
              clear hgk hf hc
              go_loopg [11] (a0.size - p) (fun kq v11 w' => ∃ (z : Int) (e : Nat), v11 = .int .i64 z ∧ Aside0 (z = (e : Int)) ∧ Aside0 (e + kq = a0.size) ∧ Aside0 (p ≤ e) ∧ Aside0 (spec_FalseLetters.endAt X kq e = spec_FalseLetters.endAt X (a0.size - p) p) ∧ Aside0 (w'.heap[gb]? = some (.cells (spec_FalseLetters.cells L T) 5 (F, F + 1))) ∧ Aside0 (Below w.heap.size w w'))
              case atStart => exact ⟨y, p, rfl, HY, ⟨by have := HGK.out; omega⟩, ⟨Nat.le_refl _⟩, ⟨rfl⟩, BK, HB⟩
              case round =>
                clear HB BK
                obtain ⟨z, e, rfl, HZ, HE, HPE, HEN, BK, HB⟩ := hrel
                have hZ := HZ.out
                by_cases he : e < a0.size
                · obtain ⟨k3, rfl⟩ : ∃ k3, gk = k3 + 1 := ⟨gk - 1, by have := HE.out; omega⟩
                  have HEL := Aside0.mk he
                  have p1 := eq_true (show 0 ≤ z by omega)
                  have q1 := eq_true (show z < (a0.size : Int) by omega)
                  have cb3 : decide (z < (a0.size : Int)) = true := decide_eq_true (by omega)
                  have hc := spec_FalseLetters.cell_at BK.out e (by rw [HL.out]; exact he)
                  rw [spec_FalseLetters.drop_get HD.out e HPE.out] at hc
                  have hwj : wrap64 (z + 1) = ((e + 1 : Nat) : Int) := by unfold wrap64; omega
                  obtain ⟨d, hdX⟩ : ∃ d, d = X.getD e 0 := ⟨_, rfl⟩
                  rw [← hdX] at hc
                  rw [show e = z.toNat by omega] at hc
                  by_cases h125 : d = 125
                  · have cb4 : (d == 125) = true := by rw [h125]; rfl
                    have cb5 : (d != 125) = false := by rw [h125]; rfl
                    have hen : spec_FalseLetters.endAt X (a0.size - p) p = e := by
                      rw [← HEN.out, spec_FalseLetters.endAt, if_pos (hdX.symm.trans h125)]
                    have ho := HO.out
                    rw [spec_FalseLetters.out, if_pos (by rw [HXL.out]; exact HPL.out), HXL.out, hen, if_pos ⟨HCX.out.symm.trans H123.out, he⟩, ← List.append_assoc, show e + 1 - p = e + 1 - p from rfl, ← spec_FalseLetters.take_more HD.out (e + 1) (by have := HPE.out; omega)] at ho
                    have HO2 := Aside0.mk ho
                    clear ho hen h125 hdX he hZ
                    go_wp2_with (fail "x")
                    go_roundg k2
                    case measure => omega
                    case rel => exact ⟨_, e + 1, L, rfl, ⟨by first | exact hwj | omega⟩, ⟨by have := HK.out; have := HPE.out; omega⟩, ⟨by have := HEL.out; omega⟩, HL, ⟨spec_FalseLetters.drop_more HD.out _ (by have := HPE.out; omega)⟩, HO2, BK, HB⟩
                  · have cb4 : (d == 125) = false := beq_false_of_ne h125
                    have cb5 : (d != 125) = true := by simp [bne, cb4]
                    have hen := HEN.out
                    rw [spec_FalseLetters.endAt, if_neg (by rw [← hdX]; exact h125)] at hen
                    have HEN2 := Aside0.mk hen
                    clear hen h125 hdX he hZ HEN
                    go_wp2_with (fail "x")
                    go_roundg k3
                    case measure => omega
                    case rel => exact ⟨_, e + 1, rfl, ⟨by first | exact hwj | omega⟩, ⟨by have := HE.out; omega⟩, ⟨by have := HPE.out; omega⟩, HEN2, BK, HB⟩
                · have cb3 : decide (z < (a0.size : Int)) = false := decide_eq_false (by omega)
                  have hk0 : gk = 0 := by have := HE.out; omega
                  subst hk0
                  have hen : spec_FalseLetters.endAt X (a0.size - p) p = e := by rw [← HEN.out, spec_FalseLetters.endAt]
                  have ho := HO.out
                  rw [spec_FalseLetters.out, if_pos (by rw [HXL.out]; exact HPL.out), HXL.out, hen, if_neg (fun q => he q.2), ← HCX.out, H123.out] at ho
                  have ht : spec_FalseLetters.turn 123 = L.getD p 0 := by
                    rw [spec_FalseLetters.drop_get HD.out p (Nat.le_refl _), ← HCX.out, H123.out]
                    rfl
                  rw [ht, ← List.singleton_append, ← List.append_assoc, ← spec_FalseLetters.get_take L p (by rw [HL.out]; exact HPL.out)] at ho
                  have HO2 := Aside0.mk ho
                  have hwj : wrap64 (y + 1) = ((p + 1 : Nat) : Int) := by have := HY.out; have := HPL.out; unfold wrap64; omega
                  clear ho hen ht he hZ
                  go_wp2_with (fail "x")
                  go_roundg k2
                  case measure => omega
                  case rel => exact ⟨_, p + 1, L, rfl, ⟨by first | exact hwj | omega⟩, ⟨by have := HK.out; omega⟩, ⟨by have := HPL.out; omega⟩, HL, ⟨spec_FalseLetters.drop_more HD.out _ (by omega)⟩, HO2, BK, HB⟩
            · have cb2 : (c == 123) = false := beq_false_of_ne h123
              have ho := HO.out
              rw [spec_FalseLetters.out, if_pos (by rw [HXL.out]; exact HPL.out), if_neg (fun q => h123 (HCX.out.trans q.1)), ← HCX.out] at ho
              have HYP : Aside0 (p = y.toNat) := ⟨by have := HY.out; omega⟩
              by_cases hlow : 97 ≤ c ∧ c ≤ 122
              · obtain ⟨h97, h122⟩ := hlow
                rw [spec_FalseLetters.turn, if_pos ⟨h97, h122⟩] at ho
                have HO2 := Aside0.mk ho
                clear ho
                go_wp2_with (fail "x")
                all_goals
                  go_roundg k2
                  case measure => omega
                  case rel => exact ⟨_, p + 1, L.set p (97 + (c - 97 + 13) % 26), rfl, ⟨by first | exact hwj | omega⟩, ⟨by have := HK.out; omega⟩, ⟨by have := HPL.out; omega⟩, ⟨by rw [List.length_set]; exact HL.out⟩, ⟨by rw [spec_FalseLetters.set_drop]; exact spec_FalseLetters.drop_more HD.out _ (by omega)⟩, ⟨by rw [spec_FalseLetters.set_take _ _ _ (by rw [HL.out]; exact HPL.out), List.append_assoc]; exact HO2.out⟩, ⟨by rw [← spec_FalseLetters.set_at L T p _ (by rw [HL.out]; exact HPL.out), HYP.out]; exact spec_FalseLetters.blkf_set BK.out _ _⟩, ⟨below_set HB.out HGI.out⟩⟩
              · by_cases hup : 65 ≤ c ∧ c ≤ 90
                · obtain ⟨h65, h90⟩ := hup
                  rw [spec_FalseLetters.turn, if_neg hlow, if_pos ⟨h65, h90⟩] at ho
                  have HO2 := Aside0.mk ho
                  clear ho hlow
                  go_wp2_with (fail "x")
                  all_goals
                    go_roundg k2
                    case measure => omega
                    case rel => exact ⟨_, p + 1, L.set p (65 + (c - 65 + 13) % 26), rfl, ⟨by first | exact hwj | omega⟩, ⟨by have := HK.out; omega⟩, ⟨by have := HPL.out; omega⟩, ⟨by rw [List.length_set]; exact HL.out⟩, ⟨by rw [spec_FalseLetters.set_drop]; exact spec_FalseLetters.drop_more HD.out _ (by omega)⟩, ⟨by rw [spec_FalseLetters.set_take _ _ _ (by rw [HL.out]; exact HPL.out), List.append_assoc]; exact HO2.out⟩, ⟨by rw [← spec_FalseLetters.set_at L T p _ (by rw [HL.out]; exact HPL.out), HYP.out]; exact spec_FalseLetters.blkf_set BK.out _ _⟩, ⟨below_set HB.out HGI.out⟩⟩
                · rw [spec_FalseLetters.turn, if_neg hlow, if_neg hup] at ho
                  have hcL : c = L.getD p 0 := HCX.out.trans (spec_FalseLetters.drop_get HD.out p (Nat.le_refl _)).symm
                  rw [← List.singleton_append, ← List.append_assoc, hcL, ← spec_FalseLetters.get_take L p (by rw [HL.out]; exact HPL.out)] at ho
                  have HO2 := Aside0.mk ho
                  have HLO := Aside0.mk hlow
                  have HUP := Aside0.mk hup
                  clear ho hlow hup hcL
                  go_wp2_with (fail "x")
                  all_goals
                    first
                    | (exfalso; have := HLO.out; have := HUP.out; omega)
                    | (go_roundg k2; (case measure => omega); (case rel => exact ⟨_, p + 1, L, rfl, ⟨by first | exact hwj | omega⟩, ⟨by have := HK.out; omega⟩, ⟨by have := HPL.out; omega⟩, HL, ⟨spec_FalseLetters.drop_more HD.out _ (by omega)⟩, HO2, BK, HB⟩))
          · have cb1 : decide (y < (a0.size : Int)) = false := decide_eq_false (by omega)
            have hpe : p = a0.size := by have := HP.out; omega
            have hs := run_convert_bytes_arg (P := Try.prog) (w := wr) 79 5 Try.underlying79 Try.underlying5 gb 0 a0.size cap L HL.out (fun i hi => by rw [Nat.zero_add]; exact spec_FalseLetters.cell_at BK.out i (by rw [HL.out]; exact hi)) 9 Try.underlying9
            have ho := HO.out
            subst hpe
            have hnil : spec_FalseLetters.out X gk a0.size = [] := by
              cases gk with
              | zero => rfl
              | succ n => rw [spec_FalseLetters.out, if_neg (by rw [HXL.out]; omega)]
            rw [hnil, List.append_nil, List.take_of_length_le (by rw [HL.out]; exact Nat.le_refl _)] at ho
            have HO2 := Aside0.mk ho
            clear ho hnil hY hp
            have hz : (strOfNums L).size = a0.size := (strOfNums_size L).trans HL.out
            have z1 := eq_false (show ¬ 9223372036854775807 < 1 + (strOfNums L).size by rw [hz]; omega)
            have z2 := eq_false (show ¬ 9223372036854775807 < 1 + (strOfNums L).size + 1 by rw [hz]; omega)
            clear hz
            go_wp2_with (simp only [hs])
            go_ret2
            exact ⟨by rw [HX0.out, ← HO2.out]; rfl, HB.out⟩

/-! ### impl_runesOf: function 54 -/
/-! the runes of a text: the iterator's block is one of the call's own -/
def impl_runesOf.runes (s : ByteArray) : Nat → Nat → List Int
  | 0, _ => []
  | n + 1, p => if p < s.size then ((Utf8.decode s p).1 : Int) :: impl_runesOf.runes s n (p + (Utf8.decode s p).2) else []
def impl_runesOf.f (a0 : ByteArray) : Option (List Int) := if a0.size < 1099511627776 then some (impl_runesOf.runes a0 a0.size 0) else none
def impl_runesOf.setIter (w : World) (g : Nat) (s : ByteArray) (p : Nat) : World := { w with heap := w.heap.setIfInBounds g (.stringIter s p) }
theorem impl_runesOf.next_run {P : Program} {w : World} {g : Nat} {s : ByteArray} {p : Nat} (ty : TypeId) (h : w.heap[g]? = some (.stringIter s p)) (hp : p < s.size) :
    (Instr.next (.pointer (some ⟨g, 0, none⟩)) true ty).run P w = .ok (.tuple #[.bool true, .int .i64 p, .int .i32 (Utf8.decode s p).1]) (impl_runesOf.setIter w g s (p + (Utf8.decode s p).2)) := by
  simp only [Instr.next, getObj, setObj, Sem.run_bind, Sem.run, h, Result.andThen, hp, if_true]
  simp [goInt, Sem.run, h, impl_runesOf.setIter]
theorem impl_runesOf.next_end {P : Program} {w : World} {g : Nat} {s : ByteArray} {p : Nat} (ty : TypeId) (h : w.heap[g]? = some (.stringIter s p)) (hp : ¬ p < s.size) :
    (Instr.next (.pointer (some ⟨g, 0, none⟩)) true ty).run P w = .ok (.tuple #[.bool false]) w := by
  simp [Instr.next, getObj, Sem.run, h, hp]
theorem impl_runesOf.range_run {P : Program} (w : World) (t : TypeId) (s : ByteArray) (h : P.underlying t = some .string) :
    (Instr.range t (.string s)).run P w = .ok (.pointer (some ⟨w.heap.size, 0, none⟩)) (w.alloc (.stringIter s 0)) := by
  simp [Instr.range, run_underlying h]
theorem impl_runesOf.set_at {w : World} {g : Nat} {s : ByteArray} {p : Nat} (h : w.heap[g]? = some (.stringIter s p)) (q : Nat) : (impl_runesOf.setIter w g s q).heap[g]? = some (.stringIter s q) := by
  simp [impl_runesOf.setIter, blk_lt h]
theorem impl_runesOf.set_size (w : World) (g : Nat) (s : ByteArray) (q : Nat) : (impl_runesOf.setIter w g s q).heap.size = w.heap.size := by simp [impl_runesOf.setIter]
theorem impl_runesOf.set_far {w : World} {g k : Nat} (s : ByteArray) (q : Nat) (hk : k ≠ g) : (impl_runesOf.setIter w g s q).heap[k]? = w.heap[k]? := by
  simp [impl_runesOf.setIter, Array.getElem?_setIfInBounds, Ne.symm hk]
theorem impl_runesOf.set_below {w0 w : World} {B g : Nat} {s : ByteArray} (h : Below B w0 w) (hg : B ≤ g) (q : Nat) : Below B w0 (impl_runesOf.setIter w g s q) :=
  h.trans ⟨rfl, rfl, rfl, by rw [impl_runesOf.set_size]; exact Nat.le_refl _, fun k hk => impl_runesOf.set_far _ _ (by omega)⟩
theorem impl_runesOf.set_row {α : Type} {d : Kd α} {e base : Nat} {ok : Nat → Prop} {w : World} {v : Value} {xs : List α} {g : Nat} {s : ByteArray} {p : Nat} (h : d.R e w base ok v xs) (hg : w.heap[g]? = some (.stringIter s p)) (q : Nat) : d.R e (impl_runesOf.setIter w g s q) base ok v xs := by
  refine Kd.R_mono (Kd.R_step (Kd.R_bound h) (fun k hk _ => impl_runesOf.set_far _ _ (fun he => ?_))) (fun _ hk => hk.1)
  obtain ⟨_, _, _, q', _, cells, hc⟩ := hk
  rw [he, hg] at hc
  cases hc
theorem impl_runesOf.far_row {α : Type} {d : Kd α} {e base : Nat} {ok : Nat → Prop} {w : World} {v : Value} {xs : List α} {g : Nat} {s : ByteArray} {p : Nat} (h : d.R e w base ok v xs) (hg : w.heap[g]? = some (.stringIter s p)) : some g ≠ v.ownBlock := by
  intro he
  obtain ⟨_, _, _, q', _, cells, hc⟩ := (Kd.R_bound h).1 g he.symm
  rw [hg] at hc
  cases hc
theorem impl_runesOf.decode_small (s : ByteArray) (p : Nat) : (Utf8.decode s p).1 ≤ 1114111 ∧ 1 ≤ (Utf8.decode s p).2 := by
  have hb : ∀ k, (s.get! k).toNat < 256 := fun k => UInt8.toNat_lt _
  have e0 := hb (p + 0)
  have e1 := hb (p + 1)
  have e2 := hb (p + 2)
  have e3 := hb (p + 3)
  unfold Utf8.decode
  simp only [Utf8.runeError]
  repeat' split
  all_goals first | (simp only; omega) | skip
  all_goals
    rename_i hv
    simp only [Utf8.valid, Bool.and_eq_true, Bool.or_eq_true, decide_eq_true_eq] at hv
    simp only
    omega
theorem impl_runesOf.runes_end (s : ByteArray) (n p : Nat) (h : ¬ p < s.size) : impl_runesOf.runes s n p = [] := by
  cases n with
  | zero => rfl
  | succ n => rw [impl_runesOf.runes, if_neg h]
set_option maxHeartbeats 8000000 in
set_option maxRecDepth 100000 in
theorem impl_runesOf.calls (a0 : ByteArray) (r : List Int) (w : World) (h : impl_runesOf.f a0 = some r) :
    Calls Try.prog 54 #[.string a0] w fun e w' => ∃ v0_ : Value, e = .returned v0_ ∧ Kd.R (Kd.int .i64) 3 w' w.heap.size (fun _ => True) v0_ r ∧ Below w.heap.size w w' := by
  unfold impl_runesOf.f at h
  split at h
  case isFalse => cases h
  rename_i hsz
  obtain rfl := Option.some.inj h
  have hrange := impl_runesOf.range_run (P := Try.prog)
  go_enter Try.func54, Try.ntmps54
  go_wp2_with ((with_reducible refine gate_dst (N := 6) rfl ?_); refine Kd.R_lit (Kd.int .i64) _ 3 ?hg (N := 6) ?hd (xs := ([] : List Int)) (inner := []) (ok := fun _ => True) (okp := fun _ => True) ?hr ?hp (fun _ hk => hk) trivial (Below.refl _ _) (Nat.le_refl _) (by simp) ?_; (case hd => rfl); (case hg => rfl); (case hr => first | (go_simp; done) | (go_simp; rfl)); (case hp => exact (Reps.none _ _)); intro v6 w3 ho hb3 hg_ hnew_; clear hg_ hnew_; have HO := Aside0.mk ho; have HB := Aside0.mk hb3; clear ho hb3)
  have hgi : w.heap.size ≤ w3.heap.size := below_size HB.out
  have HGI := Aside0.mk hgi
  clear hgi hrange
  go_loopg [3] a0.size (fun kq v3 w' => ∃ (p : Nat) (o : List Int), Aside0 (o ++ impl_runesOf.runes a0 kq p = impl_runesOf.runes a0 a0.size 0) ∧ Aside0 (a0.size ≤ p + kq) ∧ Aside0 (o.length ≤ p) ∧ Aside0 (Kd.R (Kd.int .i64) 3 w' w.heap.size (fun _ => True) v3 o) ∧ Aside0 (w'.heap[w3.heap.size]? = some (.stringIter a0 p)) ∧ Aside0 (Below w.heap.size w w'))
  case atStart => exact ⟨0, [], ⟨rfl⟩, ⟨by omega⟩, ⟨Nat.le_refl _⟩, ⟨Kd.R_alloc HO.out _⟩, ⟨blk_new _ _⟩, ⟨HB.out.alloc HGI.out _⟩⟩
  case round =>
    clear HO HB
    obtain ⟨p, o, HE, HK, HL, HO, BK, HB⟩ := hrel
    by_cases hp : p < a0.size
    · obtain ⟨k2, rfl⟩ : ∃ k2, gk = k2 + 1 := ⟨gk - 1, by have := HK.out; omega⟩
      have hnx := fun ty => impl_runesOf.next_run (P := Try.prog) ty BK.out hp
      have hE := HE.out
      rw [impl_runesOf.runes, if_pos hp] at hE
      obtain ⟨hc, hw1⟩ := impl_runesOf.decode_small a0 p
      generalize hdc : Utf8.decode a0 p = cw at hnx hE hc hw1
      clear hdc
      obtain ⟨c, wd⟩ := cw
      simp only at hnx hE hc hw1
      have HE2 := Aside0.mk hE
      have HW1 := Aside0.mk hw1
      have HP := Aside0.mk hp
      have hq : (0 : Int) ≤ (c : Int) ∧ (c : Int) ≤ 1114111 := by omega
      generalize hci : (c : Int) = ci at *
      have HO2 := Aside0.mk (impl_runesOf.set_row HO.out BK.out (p + wd))
      have BK2 := Aside0.mk (impl_runesOf.set_at BK.out (p + wd))
      have HB2 := Aside0.mk (impl_runesOf.set_below (s := a0) HB.out HGI.out (p + wd))
      clear hE hw1 hp hc HO BK HB hci
      go_wp2_with ((with_reducible refine gate_builtin (b := .append) (xs := #[.tmp 12, .tmp 15]) rfl ?_); at_builtin; refine Kd.R_append (Kd.int .i64) (w0 := w) w.heap.size rfl (.tmp 12) (.tmp 15) 42 3 (.int .i64 0) 8 rfl Try.underlying42 info3 rfl (by decide) (by omega) u3 o ci [.int .i64 ci] (fun _ => True) (fun _ => False) rfl rfl ?aP (fun _ hk => hk.elim) ?aF ?aO ?aB ?aS ?aL ?_; (case aP => exact rfl); (case aB => exact HB2.out); (case aF => exact (fun _ _ => trivial)); (case aO => exact HO2.out); (case aS => exact (below_size HB2.out)); (case aL => have := HL.out; have := HP.out; omega); intro v16 w5 ho hb hg hat; have n2_ := Aside0.mk hb; have n3_ := Aside0.mk ho; have n4_ := Aside0.mk (blk_grown BK2.out hg (impl_runesOf.far_row HO2.out BK2.out)); clear HB2 HO2 BK2; have HB := n2_; have HO := n3_; have BK := n4_; clear n2_ n3_ n4_; clear ho hb hg hat)
      go_roundg k2
      case measure => omega
      case rel => exact ⟨p + wd, o ++ [ci], ⟨by rw [List.append_assoc]; exact HE2.out⟩, ⟨by have := HK.out; have := HW1.out; omega⟩, ⟨by have := HL.out; have := HW1.out; rw [List.length_append, List.length_singleton]; omega⟩, ⟨HO.out⟩, ⟨BK.out⟩, ⟨HB.out⟩⟩
    · have hnx := fun ty => impl_runesOf.next_end (P := Try.prog) ty BK.out hp
      have hE := HE.out
      rw [impl_runesOf.runes_end _ _ _ hp, List.append_nil] at hE
      have HE2 := Aside0.mk hE
      clear hE HE hp
      go_wp2_with (fail "x")
      go_ret
      rw [← HE2.out]
      exact ⟨_, rfl, HO.out, HB.out⟩

/-! ### slices_Index_int_int: function 79 -/
def slices_Index_int_int.l0 : Nat → List Int → Int → Int → Int → Option (Int)
 | 0, _, _, _, _ => none
 | k + 1, x0, x1, x7, x8 => if x8 < x7 then (if 0 ≤ x8 then (if x8 < (x0.length : Int) then (if x1 = (rd x0 x8) then (some x8) else (slices_Index_int_int.l0 k x0 x1 x7 (wrap64 (x8 + 1)))) else (none)) else (none)) else (some (-1))
def slices_Index_int_int.f (k : Nat) (l0 : List Int) (a1 : Int) : Option (Int) := slices_Index_int_int.l0 k l0 a1 (l0.length : Int) 0
theorem slices_Index_int_int.mono_l : ∀ k, (∀ y0 y1 y2 y3, LeO (slices_Index_int_int.l0 k y0 y1 y2 y3) (slices_Index_int_int.l0 (k + 1) y0 y1 y2 y3))
 | 0 => fun _ _ _ _ r h => by simp [slices_Index_int_int.l0] at h
 | k + 1 => by
  have ih0 := slices_Index_int_int.mono_l k
  ·intro y0 y1 y2 y3
   unfold slices_Index_int_int.l0
   repeat' first
   | (with_reducible exact ih0 _ _ _ _)
   | (with_reducible exact LeO.refl _)
   | (with_reducible exact LeO.none _)
   | (with_reducible refine LeO.ite ?_ ?_)
   | (with_reducible refine LeO.bind ?_ (fun _ => ?_))
   | exact ih0 _ _ _ _
   | exact LeO.none _
   | refine LeO.ite ?_ ?_
   | refine LeO.bind ?_ (fun _ => ?_)
theorem slices_Index_int_int.mono : ∀ a0 a1 k, LeO (slices_Index_int_int.f k a0 a1) (slices_Index_int_int.f (k + 1) a0 a1) := by
 intro a0 a1 k
 have ih0 := slices_Index_int_int.mono_l k
 unfold slices_Index_int_int.f
 repeat' first
   | (with_reducible exact ih0 _ _ _ _)
   | (with_reducible exact LeO.refl _)
   | (with_reducible exact LeO.none _)
   | (with_reducible refine LeO.ite ?_ ?_)
   | (with_reducible refine LeO.bind ?_ (fun _ => ?_))
   | exact ih0 _ _ _ _
   | exact LeO.none _
   | refine LeO.ite ?_ ?_
   | refine LeO.bind ?_ (fun _ => ?_)
set_option maxHeartbeats 8000000 in
set_option maxRecDepth 100000 in
theorem slices_Index_int_int.calls (k : Nat) (A0 : Option Addr) (c0 : Nat) (l0 : List Int) (a1 : Int) (r : Int) (w : World) (hr0 : Kd.C (Kd.int .i64) w A0 l0.length l0) (hc0 : l0.length ≤ c0) (h : slices_Index_int_int.f k l0 a1 = some r) :
  Calls Try.prog 79 #[.slice A0 l0.length c0, .int .i64 a1] w fun e w' => e = .returned (.int .i64 r) ∧ Drawn0 w w' := by
 have HR0 := Aside0.mk hr0
 have HC0 := Aside0.mk hc0
 clear hr0 hc0
 have H : (slices_Index_int_int.l0 k l0 a1 (l0.length : Int) 0) = some r := h
 clear h
 have H' := Aside0.mk H
 clear H
 go_enter Try.func79, Try.ntmps79
 go_wp2
 go_loopg [8] k (fun kq v8 w' => ∃ (x8_1 : Int), v8 = .int .i64 x8_1 ∧ Aside0 (slices_Index_int_int.l0 kq l0 a1 (l0.length : Int) x8_1 = some r) ∧ Aside0 (kq ≤ k) ∧ Drawn0 w w')
 case atStart => exact ⟨(0), (by first | rfl | (simp; done) | (simp [*]; done) | (simp [wrap64]; done)), H', ⟨Nat.le_refl _⟩, by repeat (first | exact Drawn0.refl _ | apply Drawn0.step)⟩
 case round =>
  clear H'
  try clear p2
  obtain ⟨x8_1, rfl, HA, HK1, ⟨m1, rfl⟩⟩ := hrel
  cases gk with
  | zero => exact absurd HA.out (by simp [slices_Index_int_int.l0])
  | succ k1 =>
   have H := HA.out
   clear HA
   simp only [slices_Index_int_int.l0] at H
   by_cases c3 : x8_1 < (l0.length : Int)
   ·rw [if_pos c3] at H
    have c3b0 : decide (x8_1 < (l0.length : Int)) = true := decide_eq_true c3
    clear c3
    by_cases c4 : 0 ≤ x8_1
    ·rw [if_pos c4] at H
     have c4b0 : decide (0 ≤ x8_1) = true := decide_eq_true c4
     clear c4
     by_cases c5 : x8_1 < (l0.length : Int)
     ·rw [if_pos c5] at H
      have c5b0 : decide (x8_1 < (l0.length : Int)) = true := decide_eq_true c5
      clear c5
      by_cases c6 : a1 = (rd l0 x8_1)
      ·rw [if_pos c6] at H
       have c6b0 : (a1 == (rd l0 x8_1)) = true := beq_iff_eq.mpr c6
       have c6b1 : (a1 != (rd l0 x8_1)) = false := bne_eq_false_iff_eq.mpr c6
       clear c6
       obtain rfl := Option.some.inj H
       have p109 : 0 ≤ (x8_1 : Int) := of_decide_eq_true (by first | (with_reducible assumption) | assumption)
       have q109 : x8_1 < (l0.length : Int) := of_decide_eq_true (by first | (with_reducible assumption) | assumption)
       obtain ⟨ad109, e109, hx109_0⟩ := Kd.at_int HR0.out x8_1 p109 q109
       cases e109
       replace p109 := eq_true p109
       replace q109 := eq_true q109
       go_wp2
       go_ret
       exact ⟨by first | rfl | (simp; done) | (simp [*]; done), by repeat (first | exact Drawn0.refl _ | apply Drawn0.step)⟩
      ·rw [if_neg c6] at H
       have c6b0 : (a1 == (rd l0 x8_1)) = false := beq_eq_false_iff_ne.mpr c6
       have c6b1 : (a1 != (rd l0 x8_1)) = true := bne_iff_ne.mpr c6
       have H' := Aside0.mk H
       clear H
       have p109 : 0 ≤ (x8_1 : Int) := of_decide_eq_true (by first | (with_reducible assumption) | assumption)
       have q109 : x8_1 < (l0.length : Int) := of_decide_eq_true (by first | (with_reducible assumption) | assumption)
       obtain ⟨ad109, e109, hx109_0⟩ := Kd.at_int HR0.out x8_1 p109 q109
       cases e109
       replace p109 := eq_true p109
       replace q109 := eq_true q109
       go_wp2
       go_roundg k1
       case measure => have := HK1.out; omega
       case rel => exact ⟨(wrap64 (x8_1 + 1)), (by first | rfl | (simp; done) | (simp [*]; done) | (simp [wrap64]; done)), H', ⟨by have := HK1.out; omega⟩, by repeat (first | exact Drawn0.refl _ | apply Drawn0.step)⟩
     ·rw [if_neg c5] at H
      exact absurd H (by simp)
    ·rw [if_neg c4] at H
     exact absurd H (by simp)
   ·rw [if_neg c3] at H
    have c3b0 : decide (x8_1 < (l0.length : Int)) = false := decide_eq_false c3
    clear c3
    obtain rfl := Option.some.inj H
    go_wp2
    go_ret
    exact ⟨by first | rfl | (simp; done) | (simp [*]; done), by repeat (first | exact Drawn0.refl _ | apply Drawn0.step)⟩

/-! ### slices_Contains_int_int: function 55 -/
def slices_Contains_int_int.f (k : Nat) (l0 : List Int) (a1 : Int) : Option (Bool) := (slices_Index_int_int.f k l0 a1).bind fun t110 => (some (decide (t110 ≥ 0)))
theorem slices_Contains_int_int.mono : ∀ a0 a1 k, LeO (slices_Contains_int_int.f k a0 a1) (slices_Contains_int_int.f (k + 1) a0 a1) := by
 intro a0 a1 k
 unfold slices_Contains_int_int.f
 repeat' first
   | (with_reducible exact slices_Index_int_int.mono _ _ _)
   | (with_reducible exact LeO.refl _)
   | (with_reducible exact LeO.none _)
   | (with_reducible refine LeO.ite ?_ ?_)
   | (with_reducible refine LeO.bind ?_ (fun _ => ?_))
   | exact slices_Index_int_int.mono _ _ _
   | exact LeO.none _
   | refine LeO.ite ?_ ?_
   | refine LeO.bind ?_ (fun _ => ?_)
set_option maxHeartbeats 8000000 in
set_option maxRecDepth 100000 in
theorem slices_Contains_int_int.calls (k : Nat) (A0 : Option Addr) (c0 : Nat) (l0 : List Int) (a1 : Int) (r : Bool) (w : World) (hr0 : Kd.C (Kd.int .i64) w A0 l0.length l0) (hc0 : l0.length ≤ c0) (h : slices_Contains_int_int.f k l0 a1 = some r) :
  Calls Try.prog 55 #[.slice A0 l0.length c0, .int .i64 a1] w fun e w' => e = .returned (.bool r) ∧ Drawn0 w w' := by
 have HR0 := Aside0.mk hr0
 have HC0 := Aside0.mk hc0
 clear hr0 hc0
 have H : ((slices_Index_int_int.f k l0 a1).bind fun t110 => (some (decide (t110 ≥ 0)))) = some r := h
 clear h
 obtain ⟨t110, A30, H⟩ := bE_ H
 have A3 := Aside0.mk A30
 clear A30
 obtain rfl := Option.some.inj H
 go_enter Try.func55, Try.ntmps55
 go_wp2_with (first | ((with_reducible refine gate_callee (f := 79) rfl ?_); refine goesL_ (some 7) rfl rfl Try.func79 (by kernel_rfl) rfl #[.slice A0 l0.length c0, .int .i64 a1] rfl (by (try simp only [List.map_toArray, List.map_cons, List.map_nil]); first | done | rfl | (simp only [List.length_drop, List.length_take]; rfl)) ?_; (with_reducible refine (slices_Index_int_int.calls k _ _ l0 a1 t110 _ ?side1 ?side2 A3.out).mono ?_); (case side1 => repeat (first | exact HR0.out | (with_reducible refine Kd.C_alloc ?_ _) | (with_reducible refine Kd.C_drewN ?_ _) | (with_reducible refine Kd.C_drew ?_))); (case side2 => exact HC0.out); rintro e w' ⟨rfl, ⟨nd, rfl⟩⟩; refine ⟨_, rfl, ?_⟩))
 go_ret
 exact ⟨by first | rfl | (simp; done) | (simp [*]; done), by repeat (first | exact Drawn0.refl _ | apply Drawn0.step)⟩

-- NOT PRINTED: function 98 (bytealg_IndexByteString)

/-! ### stringslite_IndexByte: function 80 -/
/-! internal/bytealg.IndexByteString has no body: its entry in the model's table is run -/
def stringslite_IndexByte.f (a0 : ByteArray) (a1 : Int) : Option Int := some (firstIdx a0 a1.toNat.toUInt8)
theorem stringslite_IndexByte.ext (s : ByteArray) (c : Int) (w : World) : (callFunc 98 #[.string s, .int .u8 c]).run Try.prog w = .ok (.value (.int .i64 (firstIdx s c.toNat.toUInt8))) w := by
  rw [run_callFunc_extern Try.func98 (by kernel_rfl) (by kernel_rfl) (by kernel_rfl) (e := Extern.BytealgIndexByte.indexByte) (by kernel_rfl), run_indexByte_string]
  rfl
set_option maxRecDepth 100000 in
theorem stringslite_IndexByte.calls (a0 : ByteArray) (a1 : Int) (r : Int) (w : World) (h : stringslite_IndexByte.f a0 a1 = some r) :
    Calls Try.prog 80 #[.string a0, .int .u8 a1] w fun e w' => e = .returned (.int .i64 r) ∧ Drawn0 w w' := by
  obtain rfl := Option.some.inj h
  have hx := stringslite_IndexByte.ext a0 a1
  go_enter Try.func80, Try.ntmps80
  go_wp2_with (simp only [hx])
  go_ret
  exact ⟨rfl, 0, rfl⟩

/-! ### strings_IndexByte: function 56 -/
def strings_IndexByte.f (a0 : ByteArray) (a1 : Int) : Option (Int) := (stringslite_IndexByte.f a0 a1).bind fun t111 => (some t111)
set_option maxHeartbeats 8000000 in
set_option maxRecDepth 100000 in
theorem strings_IndexByte.calls (a0 : ByteArray) (a1 : Int) (r : Int) (w : World) (h : strings_IndexByte.f a0 a1 = some r) :
  Calls Try.prog 56 #[.string a0, .int .u8 a1] w fun e w' => e = .returned (.int .i64 r) ∧ Drawn0 w w' := by
 have H : ((stringslite_IndexByte.f a0 a1).bind fun t111 => (some t111)) = some r := h
 clear h
 obtain ⟨t111, A30, H⟩ := bE_ H
 have A3 := Aside0.mk A30
 clear A30
 obtain rfl := Option.some.inj H
 go_enter Try.func56, Try.ntmps56
 go_wp2_with (first | ((with_reducible refine gate_callee (f := 80) rfl ?_); refine goesL_ (some 7) rfl rfl Try.func80 (by kernel_rfl) rfl #[.string a0, .int .u8 a1] rfl (by (try simp only [List.map_toArray, List.map_cons, List.map_nil]); first | done | rfl | (simp only [List.length_drop, List.length_take]; rfl)) ?_; (with_reducible refine (stringslite_IndexByte.calls a0 a1 t111 _ A3.out).mono ?_); rintro e w' ⟨rfl, ⟨nd, rfl⟩⟩; refine ⟨_, rfl, ?_⟩))
 go_ret
 exact ⟨by first | rfl | (simp; done) | (simp [*]; done), by repeat (first | exact Drawn0.refl _ | apply Drawn0.step)⟩

/-! ### impl_turnedLetter: function 57 -/
def impl_turnedLetter.j0 : Nat → Int → Bool → Option (Int)
 | 0, _, _ => none
 | k + 1, x0, x3 => if x3 = true then (some (97 + (((((x0 - 97) % 256) + 13) % 256) % 26))) else (if x0 ≥ 65 then (if x0 ≤ 90 then (some (65 + (((((x0 - 65) % 256) + 13) % 256) % 26))) else (some x0)) else (some x0))
def impl_turnedLetter.f (k : Nat) (a0 : Int) : Option (Int) := if a0 ≥ 97 then (impl_turnedLetter.j0 k a0 (decide (a0 ≤ 122))) else (impl_turnedLetter.j0 k a0 false)
theorem impl_turnedLetter.mono_l : ∀ k, (∀ y0 y1, LeO (impl_turnedLetter.j0 k y0 y1) (impl_turnedLetter.j0 (k + 1) y0 y1))
 | 0 => fun _ _ r h => by simp [impl_turnedLetter.j0] at h
 | k + 1 => by
  have ih0 := impl_turnedLetter.mono_l k
  ·intro y0 y1
   unfold impl_turnedLetter.j0
   repeat' first
   | (with_reducible exact ih0 _ _)
   | (with_reducible exact LeO.refl _)
   | (with_reducible exact LeO.none _)
   | (with_reducible refine LeO.ite ?_ ?_)
   | (with_reducible refine LeO.bind ?_ (fun _ => ?_))
   | exact ih0 _ _
   | exact LeO.none _
   | refine LeO.ite ?_ ?_
   | refine LeO.bind ?_ (fun _ => ?_)
theorem impl_turnedLetter.mono : ∀ a0 k, LeO (impl_turnedLetter.f k a0) (impl_turnedLetter.f (k + 1) a0) := by
 intro a0 k
 have ih0 := impl_turnedLetter.mono_l k
 unfold impl_turnedLetter.f
 repeat' first
   | (with_reducible exact ih0 _ _)
   | (with_reducible exact LeO.refl _)
   | (with_reducible exact LeO.none _)
   | (with_reducible refine LeO.ite ?_ ?_)
   | (with_reducible refine LeO.bind ?_ (fun _ => ?_))
   | exact ih0 _ _
   | exact LeO.none _
   | refine LeO.ite ?_ ?_
   | refine LeO.bind ?_ (fun _ => ?_)
set_option maxHeartbeats 8000000 in
set_option maxRecDepth 100000 in
theorem impl_turnedLetter.calls (k : Nat) (a0 : Int) (r : Int) (w : World) (h : impl_turnedLetter.f k a0 = some r) :
  Calls Try.prog 57 #[.int .u8 a0] w fun e w' => e = .returned (.int .u8 r) ∧ Drawn0 w w' := by
 have H : (if a0 ≥ 97 then (impl_turnedLetter.j0 k a0 (decide (a0 ≤ 122))) else (impl_turnedLetter.j0 k a0 false)) = some r := h
 clear h
 have HC2 := Aside0.mk H
 clear H
 go_enter Try.func57, Try.ntmps57
 go_upto_region 1 with (fail)
 go_cut [3] (fun v3 wc => ∃ (kq : Nat) (x3_1 : Bool), v3 = .bool x3_1 ∧ Aside0 (impl_turnedLetter.j0 kq a0 x3_1 = some r) ∧ Aside0 (kq ≤ k) ∧ Drawn0 w wc)
 case first =>
  have H := HC2.out
  clear HC2
  by_cases c3 : a0 ≥ 97
  ·rw [if_pos c3] at H
   have c3b0 : decide (97 ≤ a0) = true := decide_eq_true c3
   clear c3
   (first | rw [c3b0] | (simp only [i64_w, i32_w]; rw [c3b0]) | skip)
   have H' := Aside0.mk H
   clear H
   go_wp2
   go_meet
   case rel => exact ⟨_, (decide (a0 ≤ 122)), (by first | rfl | (simp; done) | (simp [*]; done) | (simp [wrap64]; done)), H', ⟨by first | omega | exact Nat.le_refl _⟩, by repeat (first | exact Drawn0.refl _ | apply Drawn0.step)⟩
  ·rw [if_neg c3] at H
   have c3b0 : decide (97 ≤ a0) = false := decide_eq_false c3
   clear c3
   (first | rw [c3b0] | (simp only [i64_w, i32_w]; rw [c3b0]) | skip)
   have H' := Aside0.mk H
   clear H
   go_wp2
   go_meet
   case rel => exact ⟨_, (false), (by first | rfl | (simp; done) | (simp [*]; done) | (simp [wrap64]; done)), H', ⟨by first | omega | exact Nat.le_refl _⟩, by repeat (first | exact Drawn0.refl _ | apply Drawn0.step)⟩
 case rest =>
  clear HC2
  try clear p2
  try clear c3
  try clear c3b0
  obtain ⟨kq, x3_1, rfl, HA, HJ1, ⟨mc1, rfl⟩⟩ := hcut
  cases kq with
  | zero => exact absurd HA.out (by simp [impl_turnedLetter.j0])
  | succ kj1 =>
   have H := HA.out
   clear HA
   simp only [impl_turnedLetter.j0] at H
   by_cases c4 : x3_1 = true
   ·subst c4
    replace H := it_ H rfl
    obtain rfl := Option.some.inj H
    go_wp2
    go_ret
    exact ⟨by first | rfl | (simp; done) | (simp [*]; done), by repeat (first | exact Drawn0.refl _ | apply Drawn0.step)⟩
   ·replace c4 := Bool.eq_false_iff.mpr c4
    subst c4
    replace H := if_ H Bool.false_ne_true
    by_cases c5 : a0 ≥ 65
    ·rw [if_pos c5] at H
     have c5b0 : decide (65 ≤ a0) = true := decide_eq_true c5
     clear c5
     by_cases c6 : a0 ≤ 90
     ·rw [if_pos c6] at H
      have c6b0 : decide (a0 ≤ 90) = true := decide_eq_true c6
      clear c6
      obtain rfl := Option.some.inj H
      go_wp2
      go_ret
      exact ⟨by first | rfl | (simp; done) | (simp [*]; done), by repeat (first | exact Drawn0.refl _ | apply Drawn0.step)⟩
     ·rw [if_neg c6] at H
      have c6b0 : decide (a0 ≤ 90) = false := decide_eq_false c6
      clear c6
      obtain rfl := Option.some.inj H
      go_wp2
      go_ret
      exact ⟨by first | rfl | (simp; done) | (simp [*]; done), by repeat (first | exact Drawn0.refl _ | apply Drawn0.step)⟩
    ·rw [if_neg c5] at H
     have c5b0 : decide (65 ≤ a0) = false := decide_eq_false c5
     clear c5
     obtain rfl := Option.some.inj H
     go_wp2
     go_ret
     exact ⟨by first | rfl | (simp; done) | (simp [*]; done), by repeat (first | exact Drawn0.refl _ | apply Drawn0.step)⟩

end Go.Proofs.Ytpfddgchlllkpaa.XFnExactFalseLetters

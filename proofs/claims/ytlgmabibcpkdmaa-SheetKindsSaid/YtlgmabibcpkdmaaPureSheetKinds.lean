/- SheetKinds in plain form. -/
import Derived.Test.YtlgmabibcpkdmaaPAllx11
import Derived.Test.YtlgmabibcpkdmaaC4
namespace Go.Proofs.Ytlgmabibcpkdmaa.PAll
open Go.RowKit Go.Proofs.YtlgmabibcpkdmaaW.PrintWords Go.Proofs.YtlgmabibcpkdmaaW.PrintLast Go.Proofs.YtlgmabibcpkdmaaW.PrintMore
set_option linter.unusedSimpArgs false
set_option linter.unusedVariables false

theorem fb_zeros (n : Nat) : fb (strOfNums (List.replicate n 0)) = none ∨ fb (strOfNums (List.replicate n 0)) = some 0 := by
  unfold fb
  rw [bytesOf_strOf (okB_rep n)]
  cases n with
  | zero => exact .inl rfl
  | succ n => exact .inr rfl
theorem kind_zeros (n : Nat) (hn : n ≤ 1000) (k : Nat) (hk : 600 ≤ k) : sheet_Kind.f k (strOfNums (List.replicate n 0)) = some 0 := by
  obtain ⟨s, c, l, _, _, _, e4, h1, h2, h3⟩ := page_ex (strOfNums (List.replicate n 0)) (by rw [strOfNums_size, List.length_replicate]; omega)
  rw [e4 k hk]
  cases hs : s.2 with
  | true => rcases fb_zeros n with h | h <;> rw [h1 hs] at h <;> cases h
  | false =>
    cases hc : c.2 with
    | true => rcases fb_zeros n with h | h <;> rw [h2 hc] at h <;> cases h
    | false =>
      cases hl : l.2.2 with
      | true => rcases fb_zeros n with h | h <;> rw [h3 hl] at h <;> cases h
      | false => rfl
theorem kinds_step (k : Nat) (x1 z : ByteArray) (v u : Int) (L : List Bool) (n i j : Int) (h0 : 0 ≤ i) (h1 : i < (L.length : Int)) (h2 : i < n) (h3 : i < 100) (hj : j = i + 1) (hv : (if rdOf false L i = true then wrap64 (v + 1) else v) = u) : maquettelaw15_SheetKinds.l0 (k + 2) x1 z v L n i = maquettelaw15_SheetKinds.l0 k x1 z u L n j := by
  subst hj hv
  simp only [maquettelaw15_SheetKinds.l0, maquettelaw15_SheetKinds.j2]
  rw [if_pos h2, if_pos h0, if_pos h1, show wrap64 (i + 1) = i + 1 from by unfold wrap64; omega]
  split <;> rfl
theorem kinds_loop (k : Nat) (x1 z : ByteArray) (x y w : Bool) : maquettelaw15_SheetKinds.l0 (k + 7) x1 z 0 [x, y, w] (([x, y, w] : List Bool).length : Int) 0 = maquettelaw15_SheetKinds.l0 (k + 1) x1 z ((if x = true then 1 else 0) + (if y = true then 1 else 0) + (if w = true then 1 else 0)) [x, y, w] 3 3 := by
  rw [show (([x, y, w] : List Bool).length : Int) = 3 from rfl]
  have e0 : rdOf false [x, y, w] 0 = x := rfl
  have e1 : rdOf false [x, y, w] 1 = y := rfl
  have e2 : rdOf false [x, y, w] 2 = w := rfl
  rw [kinds_step (k + 5) x1 z 0 (if x = true then 1 else 0) _ 3 0 1 (by decide) (by show (0 : Int) < 3; decide) (by decide) (by decide) (by decide) (by rw [e0]; cases x <;> first | rfl | (unfold wrap64; decide)),
    kinds_step (k + 3) x1 z _ ((if x = true then 1 else 0) + (if y = true then 1 else 0)) _ 3 1 2 (by decide) (by show (1 : Int) < 3; decide) (by decide) (by decide) (by decide) (by rw [e1]; cases x <;> cases y <;> first | rfl | (unfold wrap64; decide)),
    kinds_step (k + 1) x1 z _ ((if x = true then 1 else 0) + (if y = true then 1 else 0) + (if w = true then 1 else 0)) _ 3 2 3 (by decide) (by show (2 : Int) < 3; decide) (by decide) (by decide) (by decide) (by rw [e2]; cases x <;> cases y <;> cases w <;> first | rfl | (unfold wrap64; decide))]
theorem kinds_k (a0 : Int) (a1 : ByteArray) : maquettelaw15_SheetKinds.f 2000 a0 a1 = some true := by
  have hj : maquettelaw15_SheetKinds.j0 (1999 + 1) a0 a1 true = some true := by
    simp only [maquettelaw15_SheetKinds.j0, if_true]
    rw [alive_k _ (by decide)]; rfl
  unfold maquettelaw15_SheetKinds.f
  by_cases h1 : a0 < 0
  · rw [if_pos h1]; exact hj
  rw [if_neg h1]
  by_cases h2 : a0 > 300
  · rw [if_pos h2]; exact hj
  rw [if_neg h2]
  by_cases h3 : (a1.size : Int) > 200
  · rw [if_pos h3]; exact hj
  rw [if_neg h3, alive_k _ (by decide), Option.bind_some]
  show maquettelaw15_SheetKinds.j0 (1999 + 1) a0 a1 (!true) = some true
  simp only [maquettelaw15_SheetKinds.j0, Bool.not_true, Bool.false_eq_true, if_false]
  rw [if_pos (by omega), if_pos (by omega)]
  obtain ⟨s, c, l, e1, e2, e3, e4, g1, g2, g3⟩ := page_ex a1 (by omega)
  rw [e1 _ (by decide), Option.bind_some, e2 _ (by decide), Option.bind_some, e3 _ (by decide), Option.bind_some, Option.bind_some]
  show maquettelaw15_SheetKinds.l0 (1992 + 7) a1 (strOfNums (List.replicate a0.toNat 0)) 0 [s.2, c.2, l.2.2] (([s.2, c.2, l.2.2] : List Bool).length : Int) 0 = some true
  rw [kinds_loop]
  simp only [maquettelaw15_SheetKinds.l0]
  rw [if_neg (by decide), kind_zeros _ (by omega) _ (by decide), Option.bind_some, if_pos rfl, e4 _ (by decide)]
  cases hs : s.2 with
  | true =>
    have f := g1 hs
    have hc : c.2 = false := by
      cases hh : c.2 with
      | false => rfl
      | true => have := g2 hh; rw [f] at this; cases this
    have hl : l.2.2 = false := by
      cases hh : l.2.2 with
      | false => rfl
      | true => have := g3 hh; rw [f] at this; cases this
    rw [hc, hl]; rfl
  | false =>
    cases hc : c.2 with
    | true =>
      have f := g2 hc
      have hl : l.2.2 = false := by
        cases hh : l.2.2 with
        | false => rfl
        | true => have := g3 hh; rw [f] at this; cases this
      rw [hl]; rfl
    | false =>
      cases hl : l.2.2 with
      | true => rfl
      | false => rfl
end Go.Proofs.Ytlgmabibcpkdmaa.PAll
namespace Go.Proofs.Ytlgmabibcpkdmaa.Pure
open Go.RowKit Go.Proofs.Ytlgmabibcpkdmaa.PAll
theorem SheetKinds : maquettelaw15_SheetKinds.Pure := fun a0 a1 _ _ => ⟨2000, kinds_k a0 a1⟩
end Go.Proofs.Ytlgmabibcpkdmaa.Pure

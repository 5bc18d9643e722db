/- ShelfAgain, plain. -/
import Derived.Test.YtpeeojbhfebcdaaQ1
import Derived.Test.YtpeeojbhfebcdaaQ2
namespace Go.Proofs.Ytpeeojbhfebcdaa.V
open Go.RowKit Go.Proofs.YtpeeojbhfebcdaaW.PrintWords Go.Proofs.YtpeeojbhfebcdaaW.PrintLast Go.Proofs.YtpeeojbhfebcdaaW.PrintMore Go.Proofs.YtpeeojbhfebcdaaM
open Go.Proofs.Ytpeeojbhfebcdaa.PAll
set_option linter.unusedVariables false
set_option linter.unusedSimpArgs false

def cnt (S : PS) : Nat := S.out.length + S.free.length
theorem putS_cnt (S : PS) (b : ByteArray) (is : Bool) : cnt (putS S b is) = cnt S := by
  unfold putS
  by_cases h0 : S.e = 0
  · rw [if_pos h0]
    cases is with
    | false => rfl
    | true =>
      rw [if_pos rfl]
      cases hk : S.known b with
      | some n => rfl
      | none =>
        cases hf : S.free with
        | nil => unfold cnt; rw [hf]
        | cons n fr => unfold cnt; rw [hf]; simp; omega
  · rw [if_neg h0]
theorem chainF_cnt (l : List ByteArray) (S : PS) : cnt (chainF l S).2 = cnt S := by
  induction l with
  | nil => rfl
  | cons x l ih => rw [chainF_cons]; exact (putS_cnt _ _ _).trans ih
theorem chainsF_cnt : ∀ (l : List R2) (S : PS), cnt (chainsF l S).2 = cnt S
  | [], S => rfl
  | r :: t, S => by
    rw [chainsF_cons]
    split
    · exact (chainsF_cnt t _).trans (chainF_cnt _ _)
    · exact chainsF_cnt t _
theorem slotsF_cnt : ∀ (l : List (List C4)) (S : PS), cnt (slotsF l S).2 = cnt S
  | [], S => rfl
  | x :: t, S => by
    rw [slotsF_cons]
    split
    · exact (slotsF_cnt t _).trans (putS_cnt _ _ _)
    · exact slotsF_cnt t _
theorem planZ_cnt (l hv : List R2) (fr : List Int) : cnt (planZ l hv fr).2 = fr.length := by
  refine (putS_cnt _ _ _).trans ((slotsF_cnt _ _).trans ((chainsF_cnt _ _).trans ?_))
  show ([] : List R2).length + fr.length = _
  simp
theorem planE_len (l hv : List R2) (fr : List Int) : (planE l hv fr).1.length ≤ fr.length := by
  by_cases h : (planE l hv fr).2.2 = 0
  · obtain ⟨_, _, _, _, h5⟩ := planE_ok h
    have := planZ_cnt l hv fr
    rw [h5]
    unfold cnt at this
    show (planZ l hv fr).2.out.length ≤ _
    omega
  · rw [(planE_no h).1]; exact Nat.zero_le _
theorem planE_out {l hv : List R2} {fr : List Int} : ∀ x ∈ (planE l hv fr).1, x.2.size ≤ 128 := by
  by_cases h : (planE l hv fr).2.2 = 0
  · obtain ⟨h1, h2, h3, h4, h5⟩ := planE_ok h
    obtain ⟨g1, g2⟩ := mayE_pg h2
    have hok := planZ_ok (l := l) (fun x hx => g1 x.1 (List.mem_map_of_mem hx)) g2
    rw [h5]
    exact fun x hx => (hok.2 x hx).2
  · rw [(planE_no h).1]; intro x hx; cases hx
theorem again_l0 (l : List S45) (hl : l.length ≤ 9000) (d : Nat) : ∀ (k i : Nat), 198 - i = d → i ≤ 198 → d + 300 < k → maquettelaw16_ShelfAgain.l0 k l (pgs i) ((i : Int) + 2) = some true := by
  induction d with
  | zero =>
    intro k i hd hi hk
    obtain ⟨k, rfl⟩ : ∃ m, k = m + 1 := ⟨k - 1, by omega⟩
    obtain rfl : i = 198 := by omega
    unfold maquettelaw16_ShelfAgain.l0
    rw [if_neg (by omega), plan_f l [] (pgs 198) hl (by simp) (by rw [pgs_length]; omega) (by intro x hx; cases hx), Option.bind_some]
    obtain ⟨A, hA⟩ : ∃ A, A = planE (tR l) [] (pgs 198) := ⟨_, rfl⟩
    rw [show tW ([] : List S28) = [] from rfl, ← hA]
    by_cases he : A.2.2 = 0
    · have h2 := plan_again (l := tR l) (fr := pgs 198) (by rw [← hA]; exact he)
      rw [← hA] at h2
      have hlen := planE_len (tR l) [] (pgs 198)
      rw [← hA, pgs_length] at hlen
      have hout := planE_out (l := tR l) (hv := []) (fr := pgs 198)
      rw [← hA] at hout
      show (if A.2.2 = 0 then ((shelf_Plan.f l (fW A.1) ([] : List Int)).bind fun bt188 => (if bt188.2.2 = 0 then (if (bt188.1.length : Int) = 0 then (if bt188.2.1 = A.2.1 then ((shelf_Need.f k l).bind fun t193 => (maquettelaw16_ShelfAgain.j2 k (t193 == ((fW A.1).length : Int)))) else (maquettelaw16_ShelfAgain.j2 k false)) else (maquettelaw16_ShelfAgain.j2 k false)) else (maquettelaw16_ShelfAgain.j2 k false))) else (some (((fW A.1).length : Int) == 0))) = some true
      rw [if_pos he, plan_f l (fW A.1) [] hl (by simp; omega) (by simp) (by
        intro x hx
        obtain ⟨y, hy, rfl⟩ := List.mem_map.1 hx
        have := hout y hy
        show y.2.size ≤ _
        omega), Option.bind_some, tW_fW, h2]
      show (if (0 : Int) = 0 then (if (((fW []).length : Nat) : Int) = 0 then (if A.2.1 = A.2.1 then ((shelf_Need.f k l).bind fun t193 => (maquettelaw16_ShelfAgain.j2 k (t193 == ((fW A.1).length : Int)))) else (maquettelaw16_ShelfAgain.j2 k false)) else (maquettelaw16_ShelfAgain.j2 k false)) else (maquettelaw16_ShelfAgain.j2 k false)) = some true
      rw [if_pos (show (0 : Int) = 0 from rfl), if_pos (show (((fW []).length : Nat) : Int) = 0 from rfl), if_pos (show A.2.1 = A.2.1 from rfl), need_f l hl k (by omega), Option.bind_some]
      have hN : ((needE (tR l) : Int) == ((fW A.1).length : Int)) = true := by
        unfold needE
        rw [← hA]
        simp
      rw [hN]
      obtain ⟨k, rfl⟩ : ∃ m, k = m + 1 := ⟨k - 1, by omega⟩
      rfl
    · have h2 := (planE_no (l := tR l) (hv := []) (fr := pgs 198) (by rw [← hA]; exact he)).1
      rw [← hA] at h2
      show (if A.2.2 = 0 then _ else (some (((fW A.1).length : Int) == 0))) = some true
      rw [if_neg he, h2]
      rfl
  | succ d ih =>
    intro k i hd hi hk
    obtain ⟨k, rfl⟩ : ∃ m, k = m + 1 := ⟨k - 1, by omega⟩
    unfold maquettelaw16_ShelfAgain.l0
    rw [if_pos (by omega), if_pos (by rw [pgs_length]; omega), ← pgs_snoc, show wrap64 ((i : Int) + 2 + 1) = ((i + 1 : Nat) : Int) + 2 from by unfold wrap64; omega]
    exact ih k (i + 1) (by omega) (by omega) (by omega)
theorem again_j0 (k : Nat) (l : List S45) (b : Bool) : maquettelaw16_ShelfAgain.j0 (k + 1) l b = (if b = true then ((maquettelaw16_alive.f k).bind fun t179 => (some t179)) else (maquettelaw16_ShelfAgain.l0 k l ([] : List Int) 2)) := by
  simp only [maquettelaw16_ShelfAgain.j0]
theorem again_pure (l : List S45) (hl : l.length ≤ 9223372036854775807) : ∃ k, maquettelaw16_ShelfAgain.f k l = some true := by
  refine ⟨l.length + 1001, ?_⟩
  obtain ⟨b, hb, hb2⟩ := few_f l hl (l.length + 1001) (by omega)
  unfold maquettelaw16_ShelfAgain.f
  rw [hb, Option.bind_some]
  cases b with
  | true =>
    rw [if_pos rfl, alive_f _ (by omega), Option.bind_some]
    show maquettelaw16_ShelfAgain.j0 (l.length + 1000 + 1) l false = some true
    rw [again_j0, if_neg (by decide)]
    exact again_l0 l (by have := hb2 rfl; omega) 198 (l.length + 1000) 0 (by omega) (by omega) (by omega)
  | false =>
    rw [if_neg (by decide)]
    show maquettelaw16_ShelfAgain.j0 (l.length + 1000 + 1) l true = some true
    rw [again_j0, if_pos rfl, alive_f _ (by omega)]
    rfl
end Go.Proofs.Ytpeeojbhfebcdaa.V

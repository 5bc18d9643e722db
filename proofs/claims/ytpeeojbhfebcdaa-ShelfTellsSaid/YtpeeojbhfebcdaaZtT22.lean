/- Of the texts that the row stands on, what it needs (part 22), put together by a program of this session. -/
import Derived.Test.YtpeeojbhfebcdaaZtT20
import Derived.Test.YtpeeojbhfebcdaaZtT21
namespace Go.Proofs.Ytpeeojbhfebcdaa.PRf
open Go.RowKit Go.Proofs.YtpeeojbhfebcdaaW.PrintWords Go.Proofs.YtpeeojbhfebcdaaW.PrintLast Go.Proofs.YtpeeojbhfebcdaaW.PrintMore
open Go.Proofs.Ytpeeojbhfebcdaa.V (byI byL byL_length byL_snoc byI_plain strOf_bytesOf strOf_append okK okP okR ahK idxV idxB idxB_snoc idxB_length idxA lfT lfV lfB lfB_snoc lfA lfT_length okR_size all_at fullA fullA_k zer pad pad_length bytesOf_len chL chL_length chOk chA R2 C4 S2 kR kC kS atR atC atS zR zC zS leafE indexE C_iso C_iso_mk R_iso R_iso_mk)
set_option linter.unusedSimpArgs false
set_option linter.unusedVariables false
def kyC (l : List C4) (i : Int) : Int := (atC l i.toNat).1
def szC (l : List C4) (i : Int) : Int := (atC l i.toNat).2.1
def pgC (l : List C4) (i : Int) : Int := (atC l i.toNat).2.2.1
def btC (l : List C4) (i : Int) : ByteArray := (atC l i.toNat).2.2.2
def lbC (l : List C4) (j : Nat) : List Int := lfB (kyC l) (szC l) (pgC l) (btC l) l.length j
def leafOk (l : List C4) : Bool := decide (l.length ≤ 128) && (lfV (kyC l) (szC l) (pgC l) (btC l) l.length && decide ((lbC l l.length).length ≤ 128))
def leafR (l : List C4) : ByteArray × Bool := if leafOk l = true then (strOfNums (pad (lbC l l.length)), true) else (⟨#[]⟩, false)
theorem leafE_is (l : List C4) : leafE l = leafR l := by
 unfold leafR leafOk leafE lfA
 show (if l.length ≤ 128 then (if lfV (kyC l) (szC l) (pgC l) (btC l) l.length = true then fullA (strOfNums (lbC l l.length)) else (⟨#[]⟩, false)) else (⟨#[]⟩, false)) = _
 by_cases h : l.length ≤ 128
 ·rw [if_pos h, decide_eq_true h, Bool.true_and]
  cases h2 : lfV (kyC l) (szC l) (pgC l) (btC l) l.length with
  | true =>
   rw [if_pos rfl, fullA_k, Bool.true_and]
   by_cases h3 : (lbC l l.length).length ≤ 128
   ·rw [if_pos h3, decide_eq_true h3]; rfl
   ·rw [if_neg h3, decide_eq_false h3]; rfl
  | false => rfl
 ·rw [if_neg h, decide_eq_false h]; rfl
def stC (l : List C4) (j : Nat) : Bool := okK (kyC l j) (ahK (kyC l) j) && okR (szC l j) (pgC l j) (btC l j)
theorem leafOk_iff (l : List C4) : leafOk l = true ↔ l.length ≤ 128 ∧ (∀ j, j < l.length → stC l j = true) ∧ (lbC l l.length).length ≤ 128 := by
  unfold leafOk lfV
  rw [Bool.and_eq_true, Bool.and_eq_true, decide_eq_true_eq, decide_eq_true_eq, all_at]
  rfl
theorem lbC_snoc (l : List C4) (j : Nat) : lbC l (j + 1) = lbC l j ++ (byL (kyC l j) 4 4 ++ (byL (szC l j) 2 2 ++ (bytesOf (btC l j) ++ lfT (szC l j) (pgC l j)))) := lfB_snoc _ _ _ _ _ _
theorem lbC_len (l : List C4) (j : Nat) (h : ∀ i, i < j → stC l i = true) : 2 + 6 * j ≤ (lbC l j).length ∧ (lbC l j).length ≤ 2 + 32 * j := by
 induction j with
 | zero => exact ⟨Nat.le_refl _, Nat.le_refl _⟩
 | succ j ih =>
  have ih := ih fun i hi => h i (by omega)
  have hs := h j (by omega)
  unfold stC at hs
  rw [Bool.and_eq_true] at hs
  have h1 := okR_size hs.2
  have h2 := lfT_length (szC l j) (pgC l j)
  rw [lbC_snoc]
  simp only [List.length_append, byL_length, bytesOf_len]
  omega
def fstC (l : List C4) (j : Nat) : Bool := okK (kyC l j) (ahK (kyC l) j) && (decide (0 ≤ szC l j) && decide (szC l j ≤ 900))
theorem fstC_of {l : List C4} {j : Nat} (h : stC l j = true) : fstC l j = true := by
  unfold stC at h
  unfold fstC
  rw [Bool.and_eq_true] at h ⊢
  refine ⟨h.1, ?_⟩
  have h2 := h.2
  unfold okR at h2
  rw [Bool.and_eq_true, decide_eq_true_eq, decide_eq_true_eq]
  split at h2
  · simp at h2; omega
  · simp at h2; omega
theorem rleaf_step (l : List C4) (s : ByteArray) (k j : Nat) (hj : j < l.length) (hl : l.length ≤ 1000) (hp : ∀ i : Nat, i < j → okK (kyC l i) (ahK (kyC l) i) = true) :
  maquetteref13_Leaf.l0 (k + 1) (l.map toCe) s (j : Int) = maquetteref13_Leaf.j1 k (l.map toCe) s (j : Int) (!(fstC l j)) (kyC l j) (szC l j) (pgC l j) (btC l j) := by
 have hk := key_ahead (kyC l) j hp
 simp only [maquetteref13_Leaf.l0, List.length_map, rd85_map, rkey_f, Option.bind_some]
 unfold fstC
 rw [hk, if_pos (by omega), if_pos (by omega)]
 obtain ⟨J, hJ⟩ : ∃ J, J = fun b => maquetteref13_Leaf.j1 k (l.map toCe) s (j : Int) b (kyC l j) (szC l j) (pgC l j) (btC l j) := ⟨_, rfl⟩
 have hJ' : ∀ b, maquetteref13_Leaf.j1 k (l.map toCe) s (j : Int) b (toCe (atC l ((j : Int)).toNat)).f0 (toCe (atC l ((j : Int)).toNat)).f1 (toCe (atC l ((j : Int)).toNat)).f2 (toCe (atC l ((j : Int)).toNat)).f3 = J b := fun b => by rw [hJ]; rfl
 have hJ2 : ∀ b, maquetteref13_Leaf.j1 k (l.map toCe) s (j : Int) b (kyC l j) (szC l j) (pgC l j) (btC l j) = J b := fun b => by rw [hJ]
 have hz : (if szC l j < 0 then J true else J (decide (szC l j > 900))) = J (!(decide (0 ≤ szC l j) && decide (szC l j ≤ 900))) := by
  by_cases h1 : szC l j < 0
  ·rw [if_pos h1, decide_eq_false (show ¬ 0 ≤ szC l j by omega)]; rfl
  ·rw [if_neg h1, decide_eq_true (show 0 ≤ szC l j by omega)]
   by_cases h2 : szC l j > 900
   ·rw [decide_eq_true h2, decide_eq_false (show ¬ szC l j ≤ 900 by omega)]; rfl
   ·rw [decide_eq_false h2, decide_eq_true (show szC l j ≤ 900 by omega)]; rfl
 simp only [hJ']
 rw [hJ2]
 show (if okQ (kyC l j) = true then (if (j : Int) > 0 then (if 0 ≤ wrap64 ((j : Int) - 1) then (if wrap64 ((j : Int) - 1) < (l.length : Int) then (if kyC l (wrap64 ((j : Int) - 1)) ≥ kyC l j then J true else (if szC l j < 0 then J true else J (decide (szC l j > 900)))) else none) else none) else (if szC l j < 0 then J true else J (decide (szC l j > 900)))) else J true) = _
 rw [hz]
 cases h1 : okQ (kyC l j) with
 | false => rfl
 | true =>
  rw [if_pos rfl]
  by_cases h3 : (j : Int) > 0
  ·have hw : wrap64 ((j : Int) - 1) = (j : Int) - 1 := wrap64_id (by omega) (by omega)
   rw [if_pos h3, hw, if_pos (by omega), if_pos (by omega), decide_eq_true h3]
   by_cases h4 : kyC l ((j : Int) - 1) ≥ kyC l j
   ·rw [if_pos h4, decide_eq_true h4]; rfl
   ·rw [if_neg h4, decide_eq_false h4]; rfl
  ·rw [if_neg h3, decide_eq_false h3]; rfl
theorem rleaf_j1 (l : List C4) (k j : Nat) (hk : 6 ≤ k) (hj : j < l.length) (hl : l.length ≤ 200) (h : stC l j = true) (hp : ∀ i, i < j → stC l i = true) :
  maquetteref13_Leaf.j1 (k + 1) (l.map toCe) (strOfNums (lbC l j)) (j : Int) false (kyC l j) (szC l j) (pgC l j) (btC l j) = maquetteref13_Leaf.l0 k (l.map toCe) (strOfNums (lbC l (j + 1))) ((j + 1 : Nat) : Int) := by
 have hb := (lbC_len l j hp).2
 have hs := h
 unfold stC at hs
 rw [Bool.and_eq_true] at hs
 have hR := hs.2
 have hsz := okR_size hR
 have hw : wrap64 ((j : Int) + 1) = ((j + 1 : Nat) : Int) := by rw [wrap64_id (by omega) (by omega)]; omega
 simp only [maquetteref13_Leaf.j1]
 rw [if_neg (by decide), big_k _ 4 (by decide) 4 rfl k (by omega), Option.bind_some, if_pos (by rw [strOfNums_size, strOfNums_size, byL_length]; omega),
  big_k _ 2 (by decide) 2 rfl k (by omega), Option.bind_some, if_pos (by rw [ByteArray.size_append, strOfNums_size, strOfNums_size, strOfNums_size, byL_length, byL_length]; omega), lbC_snoc, hw]
 unfold okR at hR
 by_cases h2 : szC l j ≤ 24
 ·rw [if_pos h2] at hR
  simp at hR
  rw [if_pos h2, if_pos hR.2, if_pos hR.1, if_pos (by rw [ByteArray.size_append, ByteArray.size_append, strOfNums_size, strOfNums_size, strOfNums_size, byL_length, byL_length]; omega)]
  rw [show lfT (szC l j) (pgC l j) = [] by unfold lfT; rw [if_neg (by omega)], List.append_nil]
  conv => lhs; rw [← strOf_bytesOf (btC l j)]
  rw [strOf_append, strOf_append, strOf_append, List.append_assoc, List.append_assoc]
 ·rw [if_neg h2] at hR
  simp at hR
  rw [if_neg h2, rpage_f, Option.bind_some, if_pos hR.2.2, hR.2.1, if_pos (toList_nil_iff.2 rfl), big_k _ 2 (by decide) 2 rfl k (by omega), Option.bind_some,
   if_pos (by rw [ByteArray.size_append, ByteArray.size_append, strOfNums_size, strOfNums_size, strOfNums_size, strOfNums_size, byL_length, byL_length, byL_length]; omega)]
  rw [show lfT (szC l j) (pgC l j) = byL (pgC l j) 2 2 by unfold lfT; rw [if_pos (by omega)], show bytesOf (⟨#[]⟩ : ByteArray) = [] from rfl, List.nil_append]
  rw [strOf_append, strOf_append, strOf_append, List.append_assoc, List.append_assoc]
theorem rleaf_bad (l : List C4) (s : ByteArray) (x : Int) (k j : Nat) (hk : 6 ≤ k) (hs2 : s.size ≤ 100000) (h : okR (szC l j) (pgC l j) (btC l j) = false) (h9 : szC l j ≤ 900) :
  maquetteref13_Leaf.j1 (k + 1) (l.map toCe) s x false (kyC l j) (szC l j) (pgC l j) (btC l j) = some (⟨#[]⟩, false) := by
 simp only [maquetteref13_Leaf.j1]
 rw [if_neg (by decide), big_k _ 4 (by decide) 4 rfl k (by omega), Option.bind_some, if_pos (by rw [strOfNums_size, byL_length]; omega),
  big_k _ 2 (by decide) 2 rfl k (by omega), Option.bind_some, if_pos (by rw [ByteArray.size_append, strOfNums_size, strOfNums_size, byL_length, byL_length]; omega)]
 unfold okR at h
 by_cases h2 : szC l j ≤ 24
 ·rw [if_pos h2] at h ⊢
  by_cases h3 : pgC l j = 0
  ·rw [if_pos h3, if_neg]
   intro h4
   rw [decide_eq_true h4, h3] at h
   cases h
  ·rw [if_neg h3]
 ·rw [if_neg h2] at h ⊢
  rw [decide_eq_true h9, Bool.true_and] at h
  rw [rpage_f, Option.bind_some]
  cases h3 : okP (pgC l j) with
  | false => rw [if_neg (by decide)]
  | true =>
   rw [if_pos rfl, if_neg]
   intro h4
   have : btC l j = ⟨#[]⟩ := by
    have h5 := toList_nil_iff.1 h4
    cases hb : btC l j with
    | mk d => rw [hb] at h5; congr 1; exact Array.size_eq_zero_iff.1 h5
   rw [this, h3] at h
   cases h
theorem rleaf_loop (l : List C4) (hl : l.length ≤ 200) (d : Nat) : ∀ (k j : Nat), l.length - j = d → j ≤ l.length → 2 * d + 8 < k → (∀ i : Nat, i < j → stC l i = true) →
  maquetteref13_Leaf.l0 k (l.map toCe) (strOfNums (lbC l j)) (j : Int) = some (leafR l) := by
 induction d with
 | zero =>
  intro k j hd hj hk hp
  obtain ⟨k, rfl⟩ : ∃ m, k = m + 1 := ⟨k - 1, by omega⟩
  have e : j = l.length := by omega
  subst e
  have hlen := lbC_len l _ hp
  simp only [maquetteref13_Leaf.l0]
  rw [if_neg (by rw [List.length_map]; omega), strOfNums_size]
  unfold leafR
  by_cases h : (lbC l l.length).length ≤ 128
  ·rw [if_neg (by omega), fill_k _ h, Option.bind_some, if_pos ((leafOk_iff l).2 ⟨by omega, hp, h⟩)]
  ·rw [if_pos (by omega), if_neg (fun h2 => h ((leafOk_iff l).1 h2).2.2)]
 | succ d ih =>
  intro k j hd hj hk hp
  obtain ⟨k, rfl⟩ : ∃ m, k = m + 2 := ⟨k - 2, by omega⟩
  have hb := (lbC_len l j hp).2
  rw [rleaf_step l _ (k + 1) j (by omega) (by omega) (fun i hi => by have := hp i hi; unfold stC at this; rw [Bool.and_eq_true] at this; exact this.1)]
  cases h : stC l j with
  | false =>
   have hno : leafR l = (⟨#[]⟩, false) := by
    unfold leafR
    rw [if_neg (fun h2 => by have := ((leafOk_iff l).1 h2).2.1 j (by omega); rw [h] at this; cases this)]
   rw [hno]
   cases h2 : fstC l j with
   | false =>
    show maquetteref13_Leaf.j1 (k + 1) (l.map toCe) _ (j : Int) true _ _ _ _ = _
    simp only [maquetteref13_Leaf.j1]
    rw [if_pos trivial]
   | true =>
    unfold fstC at h2
    rw [Bool.and_eq_true, Bool.and_eq_true, decide_eq_true_eq, decide_eq_true_eq] at h2
    unfold stC at h
    rw [h2.1, Bool.true_and] at h
    exact rleaf_bad l _ _ k j (by omega) (by rw [strOfNums_size]; omega) h h2.2.2
  | true =>
   rw [fstC_of h]
   show maquetteref13_Leaf.j1 (k + 1) (l.map toCe) _ (j : Int) false _ _ _ _ = _
   rw [rleaf_j1 l k j (by omega) (by omega) hl h hp]
   refine ih k (j + 1) (by omega) (by omega) (by omega) (fun i hi => ?_)
   by_cases hi2 : i = j
   ·rw [hi2]; exact h
   ·exact hp i (by omega)
theorem rleaf_k (l : List C4) (k : Nat) (hk : 420 ≤ k) : maquetteref13_Leaf.f k (l.map toCe) = some (leafE l) := by
 rw [leafE_is]
 unfold maquetteref13_Leaf.f
 rw [List.length_map]
 by_cases h : l.length ≤ 200
 ·rw [if_neg (by omega), big_k _ 1 (by decide) 1 rfl k (by omega), Option.bind_some, if_pos (by rw [strOfNums_size, byL_length]; decide), lit76, strOf_append]
  have := rleaf_loop l h l.length k 0 (by omega) (by omega) (by omega) (fun i hi => by omega)
  rw [show lbC l 0 = [76] ++ byL (l.length : Int) 1 1 by rw [byL1]; rfl] at this
  exact this
 ·rw [if_pos (by omega)]
  unfold leafR
  rw [if_neg (fun h2 => by have := ((leafOk_iff l).1 h2).1; omega)]
end Go.Proofs.Ytpeeojbhfebcdaa.PRf


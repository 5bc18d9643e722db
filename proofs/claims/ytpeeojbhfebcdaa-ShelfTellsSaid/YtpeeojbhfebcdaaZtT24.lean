/- Of the texts that the row stands on, what it needs (part 24), put together by a program of this session. -/
import Derived.Test.YtpeeojbhfebcdaaZtT20
import Derived.Test.YtpeeojbhfebcdaaZtT23
import Derived.Test.YtpeeojbhfebcdaaZtT18
namespace Go.Proofs.Ytpeeojbhfebcdaa.PRf
open Go.RowKit Go.Proofs.YtpeeojbhfebcdaaW.PrintWords Go.Proofs.YtpeeojbhfebcdaaW.PrintLast Go.Proofs.YtpeeojbhfebcdaaW.PrintMore
open Go.Proofs.Ytpeeojbhfebcdaa
open Go.Proofs.Ytpeeojbhfebcdaa.V (byI byL byL_length byL_snoc byI_plain strOf_bytesOf strOf_append okK okP okR ahK idxV idxB idxB_snoc idxB_length idxA lfT lfV lfB lfB_snoc lfA lfT_length okR_size all_at fullA fullA_k zer pad pad_length bytesOf_len chL chL_length chOk chA R2 C4 S2 kR kC kS atR atC atS zR zC zS leafE indexE C_iso C_iso_mk R_iso R_iso_mk)
set_option linter.unusedSimpArgs false
set_option linter.unusedVariables false
theorem okQ_true {x : Int} : okQ x = true ↔ 0 ≤ x ∧ x ≤ 2147483647 := by unfold okQ; simp
theorem atR_at {l : List R2} {i : Nat} (h : i < l.length) : atR l i = l[i] := by unfold atR; rw [List.getD, List.getElem?_eq_getElem h]; rfl
theorem rr_loop (l : List R2) (hl : l.length ≤ 1000000) (d : Nat) : ∀ (k i : Nat) (a : Int), l.length - i = d → i ≤ l.length → d < k → (i = 0 ∧ a = -1 ∨ 0 < i ∧ a = (atR l (i - 1)).1 ∧ 0 ≤ a) →
  maquetteref13_RecordsRight.l0 k (l.map toRec) (i : Int) = some (V.rightF a (l.drop i)) := by
 induction d with
 | zero =>
  intro k i a hd hi hk ha
  obtain ⟨k, rfl⟩ : ∃ m, k = m + 1 := ⟨k - 1, by omega⟩
  simp only [maquetteref13_RecordsRight.l0, List.length_map]
  rw [if_neg (by omega), List.drop_of_length_le (by omega)]; rfl
 | succ d ih =>
  intro k i a hd hi hk ha
  obtain ⟨k, rfl⟩ : ∃ m, k = m + 1 := ⟨k - 1, by omega⟩
  have hlt : i < l.length := by omega
  have hw : wrap64 ((i : Int) + 1) = ((i + 1 : Nat) : Int) := by rw [wrap64_id (by omega) (by omega)]; omega
  obtain ⟨x, hx⟩ : ∃ x, x = l[i] := ⟨_, rfl⟩
  have hx2 : atR l i = x := by rw [atR_at hlt, hx]
  have hnext := ih k (i + 1) x.1 (by omega) (by omega) (by omega)
  simp only [maquetteref13_RecordsRight.l0, List.length_map, rd84_map, rkey_f, Option.bind_some, Int.toNat_natCast, hx2, hw]
  rw [if_pos (by omega), if_pos (by omega), List.drop_eq_getElem_cons hlt, ← hx]
  show (if okQ x.1 = true then (if (x.2.size : Int) > 900 then some false else (if (i : Int) > 0 then (if 0 ≤ wrap64 ((i : Int) - 1) then (if wrap64 ((i : Int) - 1) < (l.length : Int) then (if (atR l (wrap64 ((i : Int) - 1)).toNat).1 ≥ x.1 then some false else maquetteref13_RecordsRight.l0 k (l.map toRec) ((i + 1 : Nat) : Int)) else none) else none) else maquetteref13_RecordsRight.l0 k (l.map toRec) ((i + 1 : Nat) : Int))) else some false)
   = some (decide (a < x.1) && (decide (x.1 ≤ 2147483647) && (decide (x.2.size ≤ 900) && V.rightF x.1 (l.drop (i + 1)))))
  cases hq : okQ x.1 with
  | false =>
   rw [if_neg (by decide)]
   have hn : ¬ (a < x.1 ∧ x.1 ≤ 2147483647) := by
    intro h
    have : okQ x.1 = true := okQ_true.2 ⟨by rcases ha with h2 | h2 <;> omega, h.2⟩
    rw [hq] at this; cases this
   by_cases h1 : a < x.1
   ·rw [decide_eq_true h1, decide_eq_false (fun h2 => hn ⟨h1, h2⟩)]; rfl
   ·rw [decide_eq_false h1]; rfl
  | true =>
   obtain ⟨q0, q1⟩ := okQ_true.1 hq
   rw [if_pos rfl, decide_eq_true q1, Bool.true_and]
   by_cases h9 : (x.2.size : Int) > 900
   ·rw [if_pos h9, decide_eq_false (show ¬ x.2.size ≤ 900 by omega)]; simp
   ·rw [if_neg h9, decide_eq_true (show x.2.size ≤ 900 by omega), Bool.true_and]
    rcases ha with ⟨h0, rfl⟩ | ⟨h0, h1, h2⟩
    ·subst h0
     rw [if_neg (by decide), decide_eq_true (show -1 < x.1 by omega), Bool.true_and]
     exact hnext (.inr ⟨by omega, by show x.1 = (atR l 0).1; rw [hx2], q0⟩)
    ·have hw2 : wrap64 ((i : Int) - 1) = ((i - 1 : Nat) : Int) := by rw [wrap64_id (by omega) (by omega)]; omega
     rw [if_pos (by omega), hw2, if_pos (by omega), if_pos (by omega), Int.toNat_natCast, ← h1]
     by_cases h3 : a ≥ x.1
     ·rw [if_pos h3, decide_eq_false (by omega)]; rfl
     ·rw [if_neg h3, decide_eq_true (by omega), Bool.true_and]
      exact hnext (.inr ⟨by omega, by rw [show i + 1 - 1 = i by omega, hx2], q0⟩)
theorem rright_k (l : List R2) (hl : l.length ≤ 1000000) (k : Nat) (hk : l.length < k) : maquetteref13_RecordsRight.f k (l.map toRec) = some (V.rightF (-1) l) := by
  unfold maquetteref13_RecordsRight.f
  exact rr_loop l hl l.length k 0 (-1) (by omega) (by omega) hk (.inl ⟨rfl, rfl⟩)
def frA (fr : List Int) (i : Nat) : Int := fr.getD i 0
theorem rd_frA (fr : List Int) (i : Nat) : rd fr (i : Int) = frA fr i := by unfold rd frA; rw [Int.toNat_natCast]
theorem pg_l3 (fr : List Int) (hf : fr.length ≤ 1000000) (i : Nat) (hi : i < fr.length) (d : Nat) : ∀ (k j : Nat), i - j = d → j ≤ i → ((∀ m, j ≤ m → m < i → frA fr m ≠ frA fr i) → maquetteref13_pages.l3 (k + d + 1) fr (i : Int) (j : Int) = maquetteref13_pages.l2 k fr ((i + 1 : Nat) : Int)) ∧ (¬ (∀ m, j ≤ m → m < i → frA fr m ≠ frA fr i) → maquetteref13_pages.l3 (k + d + 1) fr (i : Int) (j : Int) = some false) := by
 induction d with
 | zero =>
  intro k j hd hj
  have hw : wrap64 ((i : Int) + 1) = ((i + 1 : Nat) : Int) := by rw [wrap64_id (by omega) (by omega)]; omega
  refine ⟨fun _ => ?_, fun h => absurd (fun m h1 h2 => by omega) h⟩
  simp only [maquetteref13_pages.l3]
  rw [if_neg (by omega), hw]
 | succ d ih =>
  intro k j hd hj
  have hw : wrap64 ((j : Int) + 1) = ((j + 1 : Nat) : Int) := by rw [wrap64_id (by omega) (by omega)]; omega
  rw [show k + (d + 1) + 1 = (k + d + 1) + 1 by omega]
  have h1 := ih k (j + 1) (by omega) (by omega)
  have e : maquetteref13_pages.l3 ((k + d + 1) + 1) fr (i : Int) (j : Int) = if frA fr j = frA fr i then some false else maquetteref13_pages.l3 (k + d + 1) fr (i : Int) ((j + 1 : Nat) : Int) := by
   simp only [maquetteref13_pages.l3]
   rw [if_pos (by omega), if_pos (by omega), if_pos (by omega), if_pos (by omega), if_pos (by omega), rd_frA, rd_frA, hw]
  rw [e]
  by_cases h : frA fr j = frA fr i
  ·rw [if_pos h]
   exact ⟨fun h2 => absurd h (h2 j (Nat.le_refl _) (by omega)), fun _ => rfl⟩
  ·rw [if_neg h]
   refine ⟨fun h2 => h1.1 fun m h3 h4 => h2 m (by omega) h4, fun h2 => h1.2 fun h3 => h2 fun m h4 h5 => ?_⟩
   by_cases h6 : m = j
   ·rw [h6]; exact h
   ·exact h3 m (by omega) h5
def frG (fr : List Int) (i : Nat) : Prop := okP (frA fr i) = true ∧ ∀ m, m < i → frA fr m ≠ frA fr i
theorem pg_l2 (fr : List Int) (hf : fr.length ≤ 1000000) (d : Nat) : ∀ (i : Nat), fr.length - i = d → i ≤ fr.length → ∃ k0 b, (∀ k, k0 ≤ k → maquetteref13_pages.l2 k fr (i : Int) = some b) ∧ (b = true ↔ ∀ m, i ≤ m → m < fr.length → frG fr m) := by
 induction d with
 | zero =>
  intro i hd hi
  refine ⟨1, true, fun k hk => ?_, fun _ m h1 h2 => by omega, fun _ => rfl⟩
  obtain ⟨k, rfl⟩ : ∃ m, k = m + 1 := ⟨k - 1, by omega⟩
  simp only [maquetteref13_pages.l2]
  rw [if_neg (by omega)]
 | succ d ih =>
  intro i hd hi
  have hlt : i < fr.length := by omega
  obtain ⟨k0, b, h1, h2⟩ := ih (i + 1) (by omega) (by omega)
  have step : ∀ k, maquetteref13_pages.l2 (k + i + 2) fr (i : Int) = if okP (frA fr i) = true then maquetteref13_pages.l3 (k + i + 1) fr (i : Int) 0 else some false := by
   intro k
   rw [show k + i + 2 = (k + i + 1) + 1 by omega]
   simp only [maquetteref13_pages.l2]
   rw [if_pos (by omega), if_pos (by omega), rd_frA, rpage_f, Option.bind_some]
  have st3 : ∀ k, _ := fun k => pg_l3 fr hf i hlt i k 0 (by omega) (by omega)
  by_cases hg : frG fr i
  ·refine ⟨k0 + i + 2, b, fun k hk => ?_, ?_⟩
   ·obtain ⟨k, rfl⟩ : ∃ m, k = m + i + 2 := ⟨k - i - 2, by omega⟩
    rw [step, if_pos hg.1]
    exact ((st3 k).1 (fun m _ h => hg.2 m h)).trans (h1 k (by omega))
   ·rw [h2]
    constructor
    ·intro h m h3 h4
     by_cases h5 : m = i
     ·rw [h5]; exact hg
     ·exact h m (by omega) h4
    ·intro h m h3 h4; exact h m (by omega) h4
  ·refine ⟨i + 2, false, fun k hk => ?_, (fun h => by cases h), fun h => absurd (h i (Nat.le_refl _) hlt) hg⟩
   obtain ⟨k, rfl⟩ : ∃ m, k = m + i + 2 := ⟨k - i - 2, by omega⟩
   rw [step]
   split
   ·rename_i ho
    exact (st3 k).2 (fun h => hg ⟨ho, fun m hm => h m (Nat.zero_le _) hm⟩)
   ·rfl
theorem pg_l1 (hv : List R2) (fr : List Int) (hh : hv.length ≤ 1000000) (hf : fr.length ≤ 1000000) (i : Nat) (hi : i < hv.length) (d : Nat) : ∀ (k j : Nat), fr.length - j = d → j ≤ fr.length → ((∀ m, j ≤ m → m < fr.length → frA fr m ≠ (atR hv i).1) → maquetteref13_pages.l1 (k + d + 1) (hv.map toWr) fr (i : Int) (j : Int) = maquetteref13_pages.l0 k (hv.map toWr) fr ((i + 1 : Nat) : Int)) ∧ (¬ (∀ m, j ≤ m → m < fr.length → frA fr m ≠ (atR hv i).1) → maquetteref13_pages.l1 (k + d + 1) (hv.map toWr) fr (i : Int) (j : Int) = some false) := by
 induction d with
 | zero =>
  intro k j hd hj
  have hw : wrap64 ((i : Int) + 1) = ((i + 1 : Nat) : Int) := by rw [wrap64_id (by omega) (by omega)]; omega
  refine ⟨fun _ => ?_, fun h => absurd (fun m h1 h2 => by omega) h⟩
  simp only [maquetteref13_pages.l1]
  rw [if_neg (by omega), hw]
 | succ d ih =>
  intro k j hd hj
  have hw : wrap64 ((j : Int) + 1) = ((j + 1 : Nat) : Int) := by rw [wrap64_id (by omega) (by omega)]; omega
  rw [show k + (d + 1) + 1 = (k + d + 1) + 1 by omega]
  have h1 := ih k (j + 1) (by omega) (by omega)
  have e : maquetteref13_pages.l1 ((k + d + 1) + 1) (hv.map toWr) fr (i : Int) (j : Int) = if frA fr j = (atR hv i).1 then some false else maquetteref13_pages.l1 (k + d + 1) (hv.map toWr) fr (i : Int) ((j + 1 : Nat) : Int) := by
   simp only [maquetteref13_pages.l1, List.length_map, rd91_map, Int.toNat_natCast]
   rw [if_pos (by omega), if_pos (by omega), if_pos (by omega), if_pos (by omega), rd_frA, hw]
   rfl
  rw [e]
  by_cases h : frA fr j = (atR hv i).1
  ·rw [if_pos h]
   exact ⟨fun h2 => absurd h (h2 j (Nat.le_refl _) (by omega)), fun _ => rfl⟩
  ·rw [if_neg h]
   refine ⟨fun h2 => h1.1 fun m h3 h4 => h2 m (by omega) h4, fun h2 => h1.2 fun h3 => h2 fun m h4 h5 => ?_⟩
   by_cases h6 : m = j
   ·rw [h6]; exact h
   ·exact h3 m (by omega) h5
def hvG (hv : List R2) (fr : List Int) (i : Nat) : Prop := okP (atR hv i).1 = true ∧ ∀ m, m < fr.length → frA fr m ≠ (atR hv i).1
theorem pg_l0 (hv : List R2) (fr : List Int) (hh : hv.length ≤ 1000000) (hf : fr.length ≤ 1000000) (d : Nat) : ∀ (i : Nat), hv.length - i = d → i ≤ hv.length → ∃ k0 b, (∀ k, k0 ≤ k → maquetteref13_pages.l0 k (hv.map toWr) fr (i : Int) = some b) ∧ (b = true ↔ (∀ m, i ≤ m → m < hv.length → hvG hv fr m) ∧ ∀ m, m < fr.length → frG fr m) := by
 induction d with
 | zero =>
  intro i hd hi
  obtain ⟨k0, b, h1, h2⟩ := pg_l2 fr hf fr.length 0 (by omega) (by omega)
  refine ⟨k0 + 1, b, fun k hk => ?_, ?_⟩
  ·obtain ⟨k, rfl⟩ : ∃ m, k = m + 1 := ⟨k - 1, by omega⟩
   simp only [maquetteref13_pages.l0, List.length_map]
   rw [if_neg (by omega)]
   exact h1 k (by omega)
  ·rw [h2]
   exact ⟨fun h => ⟨fun m h3 h4 => by omega, fun m hm => h m (Nat.zero_le _) hm⟩, fun h m _ hm => h.2 m hm⟩
 | succ d ih =>
  intro i hd hi
  have hlt : i < hv.length := by omega
  obtain ⟨k0, b, h1, h2⟩ := ih (i + 1) (by omega) (by omega)
  have step : ∀ k, maquetteref13_pages.l0 (k + fr.length + 2) (hv.map toWr) fr (i : Int) = if okP (atR hv i).1 = true then maquetteref13_pages.l1 (k + fr.length + 1) (hv.map toWr) fr (i : Int) 0 else some false := by
   intro k
   rw [show k + fr.length + 2 = (k + fr.length + 1) + 1 by omega]
   simp only [maquetteref13_pages.l0, List.length_map, rd91_map, Int.toNat_natCast, rpage_f, Option.bind_some]
   rw [if_pos (by omega), if_pos (by omega)]
   rfl
  have st1 : ∀ k, _ := fun k => pg_l1 hv fr hh hf i hlt fr.length k 0 (by omega) (by omega)
  by_cases hg : hvG hv fr i
  ·refine ⟨k0 + fr.length + 2, b, fun k hk => ?_, ?_⟩
   ·obtain ⟨k, rfl⟩ : ∃ m, k = m + fr.length + 2 := ⟨k - fr.length - 2, by omega⟩
    rw [step, if_pos hg.1]
    exact ((st1 k).1 (fun m _ h => hg.2 m h)).trans (h1 k (by omega))
   ·rw [h2]
    constructor
    ·intro h
     refine ⟨fun m h3 h4 => ?_, h.2⟩
     by_cases h5 : m = i
     ·rw [h5]; exact hg
     ·exact h.1 m (by omega) h4
    ·intro h; exact ⟨fun m h3 h4 => h.1 m (by omega) h4, h.2⟩
  ·refine ⟨fr.length + 2, false, fun k hk => ?_, (fun h => by cases h), fun h => absurd (h.1 i (Nat.le_refl _) hlt) hg⟩
   obtain ⟨k, rfl⟩ : ∃ m, k = m + fr.length + 2 := ⟨k - fr.length - 2, by omega⟩
   rw [step]
   split
   ·rename_i ho
    exact (st1 k).2 (fun h => hg ⟨ho, fun m hm => h m (Nat.zero_le _) hm⟩)
   ·rfl
theorem bad_ok (x : Int) : V.badP x = !okP x := by
 unfold V.badP okP
 by_cases h : x < 2
 ·rw [decide_eq_true h, decide_eq_false (show ¬ 2 ≤ x by omega)]; rfl
 ·rw [decide_eq_false h, decide_eq_true (show 2 ≤ x by omega)]
  by_cases h2 : 200 ≤ x
  ·rw [decide_eq_true h2, decide_eq_false (show ¬ x < 200 by omega)]; rfl
  ·rw [decide_eq_false h2, decide_eq_true (show x < 200 by omega)]; rfl
theorem frA_mem {fr : List Int} {x : Int} : x ∈ fr ↔ ∃ m, m < fr.length ∧ frA fr m = x := by
 constructor
 ·intro h
  obtain ⟨m, hm, rfl⟩ := List.getElem_of_mem h
  exact ⟨m, hm, by unfold frA; rw [List.getD, List.getElem?_eq_getElem hm]; rfl⟩
 ·rintro ⟨m, hm, rfl⟩
  have : frA fr m = fr[m] := by unfold frA; rw [List.getD, List.getElem?_eq_getElem hm]; rfl
  rw [this]; exact List.getElem_mem hm
theorem frA_take {fr : List Int} {x : Int} {i : Nat} (hi : i ≤ fr.length) : x ∈ fr.take i ↔ ∃ m, m < i ∧ frA fr m = x := by
 rw [frA_mem, List.length_take, Nat.min_eq_left hi]
 constructor
 ·rintro ⟨m, hm, h⟩
  refine ⟨m, hm, ?_⟩
  rw [← h]; unfold frA; simp only [List.getD, List.getElem?_take]; rw [if_pos hm]
 ·rintro ⟨m, hm, h⟩
  refine ⟨m, hm, ?_⟩
  rw [← h]; unfold frA; simp only [List.getD, List.getElem?_take]; rw [if_pos hm]
theorem atR_mem {l : List R2} {x : R2} : x ∈ l ↔ ∃ m, m < l.length ∧ atR l m = x := by
 constructor
 ·intro h
  obtain ⟨m, hm, rfl⟩ := List.getElem_of_mem h
  exact ⟨m, hm, atR_at hm⟩
 ·rintro ⟨m, hm, rfl⟩
  rw [atR_at hm]; exact List.getElem_mem hm
theorem mayE_iff (hv : List R2) (fr : List Int) : V.mayE (hv.map (·.1)) fr = true ↔ (∀ m, m < hv.length → hvG hv fr m) ∧ ∀ m, m < fr.length → frG fr m := by
 unfold V.mayE V.frOk
 rw [Bool.and_eq_true, Bool.not_eq_true', List.all_eq_true, List.any_eq_false]
 constructor
 ·rintro ⟨h1, h2⟩
  have hok : ∀ x ∈ hv.map (·.1) ++ fr, okP x = true := fun x hx => by have := h2 x hx; rw [bad_ok] at this; simpa using this
  have h1' : ∀ i, i < fr.length → frA fr i ∉ hv.map (·.1) ∧ frA fr i ∉ fr.take i := fun i hi => by
   have := h1 i (List.mem_range.2 hi)
   simp only [Bool.and_eq_true, Bool.not_eq_true', decide_eq_false_iff_not] at this
   exact this
  refine ⟨fun m hm => ⟨hok _ (List.mem_append_left _ (List.mem_map.2 ⟨_, atR_mem.2 ⟨m, hm, rfl⟩, rfl⟩)), fun j hj he => ?_⟩, fun m hm => ⟨hok _ (List.mem_append_right _ (frA_mem.2 ⟨m, hm, rfl⟩)), fun j hj he => ?_⟩⟩
  ·exact (h1' j hj).1 (by rw [he]; exact List.mem_map.2 ⟨_, atR_mem.2 ⟨m, hm, rfl⟩, rfl⟩)
  ·exact (h1' m hm).2 ((frA_take (by omega)).2 ⟨j, hj, he⟩)
 ·rintro ⟨h1, h2⟩
  refine ⟨fun i hi => ?_, fun x hx => ?_⟩
  ·have hi := List.mem_range.1 hi
   have a1 : frA fr i ∉ hv.map (·.1) := fun h => by
    obtain ⟨y, hy, he⟩ := List.mem_map.1 h
    obtain ⟨m, hm, rfl⟩ := atR_mem.1 hy
    exact (h1 m hm).2 i hi he.symm
   have a2 : frA fr i ∉ fr.take i := fun h => by
    obtain ⟨m, hm, he⟩ := (frA_take (by omega)).1 h
    exact (h2 i hi).2 m hm he
   simp only [Bool.and_eq_true, Bool.not_eq_true', decide_eq_false_iff_not]
   exact ⟨a1, a2⟩
  ·rw [bad_ok]
   have : okP x = true := by
    rcases List.mem_append.1 hx with h | h
    ·obtain ⟨y, hy, rfl⟩ := List.mem_map.1 h
     obtain ⟨m, hm, rfl⟩ := atR_mem.1 hy
     exact (h1 m hm).1
    ·obtain ⟨m, hm, rfl⟩ := frA_mem.1 h
     exact (h2 m hm).1
   rw [this]; decide
theorem rpages_k (hv : List R2) (fr : List Int) (hh : hv.length ≤ 1000000) (hf : fr.length ≤ 1000000) : ∃ k, maquetteref13_pages.f k (hv.map toWr) fr = some (V.mayE (hv.map (·.1)) fr) := by
  obtain ⟨k0, b, h1, h2⟩ := pg_l0 hv fr hh hf hv.length 0 (by omega) (by omega)
  refine ⟨k0, ?_⟩
  unfold maquetteref13_pages.f
  rw [show (0 : Int) = ((0 : Nat) : Int) from rfl, h1 k0 (Nat.le_refl _)]
  congr 1
  rw [Bool.eq_iff_iff, h2, mayE_iff]
  exact ⟨fun h => ⟨fun m hm => h.1 m (Nat.zero_le _) hm, h.2⟩, fun h => ⟨fun m _ hm => h.1 m hm, h.2⟩⟩
end Go.Proofs.Ytpeeojbhfebcdaa.PRf


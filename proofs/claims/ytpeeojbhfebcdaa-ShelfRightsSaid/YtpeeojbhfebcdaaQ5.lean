/- Plan over fewer free pages. (Plain.) -/
import Derived.Test.YtpeeojbhfebcdaaQ3
import Derived.Test.YtpeeojbhfebcdaaQ4
namespace Go.Proofs.Ytpeeojbhfebcdaa.V
open Go.RowKit Go.Proofs.YtpeeojbhfebcdaaW.PrintWords Go.Proofs.YtpeeojbhfebcdaaW.PrintLast Go.Proofs.YtpeeojbhfebcdaaW.PrintMore Go.Proofs.YtpeeojbhfebcdaaM
open Go.Proofs.Ytpeeojbhfebcdaa.PAll
set_option linter.unusedVariables false
set_option linter.unusedSimpArgs false

/-- two plans that go alike so far, the second with fewer pages (m of them in all) -/
def Lk (m : Nat) (S T : PS) : Prop := T.known = S.known ∧ T.out = S.out ∧ T.e = S.e ∧ (∃ r, S.free = T.free ++ r) ∧ S.out.length + T.free.length = m
/-- the second had too few -/
def Rk (m : Nat) (S T : PS) : Prop := T.e ≠ 0 ∧ (S.e = 0 → m < S.out.length)
theorem put_some {S : PS} {b : ByteArray} {n : Int} (he : S.e = 0) (hk : S.known b = some n) : putS S b true = S ∧ putN S b true = n := by
  unfold putS putN
  rw [if_pos he, if_pos rfl, hk, if_pos he, if_pos rfl]
  exact ⟨rfl, rfl⟩
theorem put_cons {S : PS} {b : ByteArray} {n : Int} {fr : List Int} (he : S.e = 0) (hk : S.known b = none) (hf : S.free = n :: fr) : putS S b true = { S with known := upd S.known b n, free := fr, out := S.out ++ [(n, b)] } ∧ putN S b true = n := by
  unfold putS putN
  rw [if_pos he, if_pos rfl, hk, hf, if_pos he, if_pos rfl]
  exact ⟨rfl, rfl⟩
theorem put_nil {S : PS} {b : ByteArray} (he : S.e = 0) (hk : S.known b = none) (hf : S.free = []) : putS S b true = { S with e := 8 } := by
  unfold putS
  rw [if_pos he, if_pos rfl, hk, hf]
theorem putS_stuck {T : PS} (h : T.e ≠ 0) (b : ByteArray) (is : Bool) : putS T b is = T := by unfold putS; rw [if_neg h]
theorem put_rk {m : Nat} {S T : PS} (h : Rk m S T) (b b2 : ByteArray) (is is2 : Bool) : Rk m (putS S b is) (putS T b2 is2) := by
  rw [putS_stuck h.1]
  refine ⟨h.1, fun he => ?_⟩
  have h1 := h.2 (putS_e he)
  have h2 := putS_grow S b is
  omega
theorem put_lk {m : Nat} {S T : PS} (h : Lk m S T) (b : ByteArray) (is : Bool) : (Lk m (putS S b is) (putS T b is) ∧ putN S b is = putN T b is) ∨ Rk m (putS S b is) (putS T b is) := by
  obtain ⟨sk, sf, so, se⟩ := S
  obtain ⟨tk, tf, to_, te⟩ := T
  obtain ⟨h1, h2, h3, ⟨r, h4⟩, h5⟩ := h
  simp only at h1 h2 h3 h4 h5
  subst h1 h2 h3 h4
  by_cases he : te = 0
  · subst he
    cases is with
    | false =>
      refine .inl ⟨?_, ?_⟩
      · unfold putS
        rw [if_pos rfl, if_pos rfl, if_neg (by decide), if_neg (by decide)]
        exact ⟨rfl, rfl, rfl, ⟨r, rfl⟩, h5⟩
      · unfold putN
        rw [if_pos rfl, if_pos rfl]
        rfl
    | true =>
      cases hk : tk b with
      | some n =>
        rw [(put_some (S := ⟨tk, tf ++ r, to_, 0⟩) rfl hk).1, (put_some (S := ⟨tk, tf ++ r, to_, 0⟩) rfl hk).2, (put_some (S := ⟨tk, tf, to_, 0⟩) rfl hk).1, (put_some (S := ⟨tk, tf, to_, 0⟩) rfl hk).2]
        exact .inl ⟨⟨rfl, rfl, rfl, ⟨r, rfl⟩, h5⟩, rfl⟩
      | none =>
        cases tf with
        | cons n fr =>
          rw [(put_cons (S := ⟨tk, n :: fr ++ r, to_, 0⟩) (fr := fr ++ r) rfl hk rfl).1, (put_cons (S := ⟨tk, n :: fr ++ r, to_, 0⟩) (fr := fr ++ r) rfl hk rfl).2, (put_cons (S := ⟨tk, n :: fr, to_, 0⟩) rfl hk rfl).1, (put_cons (S := ⟨tk, n :: fr, to_, 0⟩) rfl hk rfl).2]
          refine .inl ⟨⟨rfl, rfl, rfl, ⟨r, rfl⟩, ?_⟩, rfl⟩
          show (to_ ++ [(n, b)]).length + fr.length = m
          rw [List.length_append]
          rw [List.length_cons] at h5
          simp; omega
        | nil =>
          rw [(put_nil (S := ⟨tk, [], to_, 0⟩) rfl hk rfl)]
          refine .inr ⟨by show ¬ (8 : Int) = 0; decide, ?_⟩
          intro h0
          cases r with
          | nil =>
            rw [(put_nil (S := ⟨tk, [] ++ [], to_, 0⟩) rfl hk rfl)] at h0
            exact absurd h0 (by show ¬ (8 : Int) = 0; decide)
          | cons n fr =>
            rw [(put_cons (S := ⟨tk, [] ++ n :: fr, to_, 0⟩) (fr := fr) rfl hk rfl).1]
            show m < (to_ ++ [(n, b)]).length
            rw [List.length_append]
            simp at h5 ⊢; omega
  · refine .inl ⟨?_, ?_⟩
    · rw [putS_stuck he, putS_stuck he]
      exact ⟨rfl, rfl, rfl, ⟨r, rfl⟩, h5⟩
    · unfold putN
      rw [if_neg he, if_neg he]
theorem chain_rk (l : List ByteArray) {m : Nat} {S T : PS} (h : Rk m S T) : Rk m (chainF l S).2 (chainF l T).2 := by
  induction l with
  | nil => exact h
  | cons x l ih => rw [chainF_cons, chainF_cons]; exact put_rk ih _ _ _ _
theorem chain_lk (l : List ByteArray) {m : Nat} {S T : PS} (h : Lk m S T) : (Lk m (chainF l S).2 (chainF l T).2 ∧ (chainF l S).1 = (chainF l T).1) ∨ Rk m (chainF l S).2 (chainF l T).2 := by
  induction l with
  | nil => exact .inl ⟨h, rfl⟩
  | cons x l ih =>
    rw [chainF_cons, chainF_cons]
    rcases ih with ⟨ih, e⟩ | ih
    · rw [e]; exact put_lk ih _ _
    · exact .inr (put_rk ih _ _ _ _)
theorem chains_rk : ∀ (l : List R2) {m : Nat} {S T : PS}, Rk m S T → Rk m (chainsF l S).2 (chainsF l T).2
  | [], _, _, _, h => h
  | r :: t, m, S, T, h => by
    rw [chainsF_cons, chainsF_cons]
    split
    · exact chains_rk t (chain_rk _ h)
    · exact chains_rk t h
theorem chains_lk : ∀ (l : List R2) {m : Nat} {S T : PS}, Lk m S T → (Lk m (chainsF l S).2 (chainsF l T).2 ∧ (chainsF l S).1 = (chainsF l T).1) ∨ Rk m (chainsF l S).2 (chainsF l T).2
  | [], _, _, _, h => .inl ⟨h, rfl⟩
  | r :: t, m, S, T, h => by
    rw [chainsF_cons, chainsF_cons]
    split
    · rcases chain_lk (pieces r.2) h with ⟨h1, e⟩ | h1
      · rcases chains_lk t h1 with ⟨h2, e2⟩ | h2
        · refine .inl ⟨h2, ?_⟩
          show _ :: _ = _ :: _
          rw [e, e2]
        · exact .inr h2
      · exact .inr (chains_rk t h1)
    · rcases chains_lk t h with ⟨h2, e2⟩ | h2
      · refine .inl ⟨h2, ?_⟩
        show _ :: _ = _ :: _
        rw [e2]
      · exact .inr h2
theorem slots_grow : ∀ (l : List (List C4)) (S : PS), S.out.length ≤ (slotsF l S).2.out.length
  | [], S => Nat.le_refl _
  | x :: t, S => by
    rw [slotsF_cons]
    split
    · exact Nat.le_trans (putS_grow S _ _) (slots_grow t _)
    · exact slots_grow t S
theorem slots_stuck : ∀ (l : List (List C4)) {T : PS}, T.e ≠ 0 → (slotsF l T).2 = T
  | [], T, _ => rfl
  | x :: t, T, h => by rw [slotsF_cons, if_neg h]; exact slots_stuck t h
theorem slots_rk (l l2 : List (List C4)) {m : Nat} {S T : PS} (h : Rk m S T) : Rk m (slotsF l S).2 (slotsF l2 T).2 := by
  rw [slots_stuck l2 h.1]
  refine ⟨h.1, fun he => ?_⟩
  have h1 := h.2 (slotsF_e he)
  have h2 := slots_grow l S
  omega
theorem slots_lk : ∀ (l : List (List C4)) {m : Nat} {S T : PS}, Lk m S T → (Lk m (slotsF l S).2 (slotsF l T).2 ∧ (slotsF l S).1 = (slotsF l T).1) ∨ Rk m (slotsF l S).2 (slotsF l T).2
  | [], _, _, _, h => .inl ⟨h, rfl⟩
  | x :: t, m, S, T, h => by
    rw [slotsF_cons, slotsF_cons, show T.e = S.e from h.2.2.1]
    split
    · rcases put_lk h (leafE x).1 (leafE x).2 with ⟨h1, e⟩ | h1
      · rcases slots_lk t h1 with ⟨h2, e2⟩ | h2
        · refine .inl ⟨h2, ?_⟩
          show _ :: _ = _ :: _
          rw [e, e2]
        · exact .inr h2
      · exact .inr (slots_rk t t h1)
    · exact slots_lk t h
theorem pgs_split {m : Nat} (h : m ≤ 198) : ∃ r, pgs 198 = pgs m ++ r := ⟨(pgs 198).drop m, by
  have h1 : pgs m = (pgs 198).take m := by
    unfold pgs
    rw [← List.map_take, List.take_range, Nat.min_eq_left h]
  rw [h1, List.take_append_drop]⟩
theorem pgs_at {m i : Nat} (h : i < m) : (pgs m).getD i 0 = (i : Int) + 2 := by unfold pgs; simp [List.getD, h]
theorem pgs_mem {m : Nat} {x : Int} : x ∈ pgs m ↔ 2 ≤ x ∧ x < (m : Int) + 2 := by
  unfold pgs
  rw [List.mem_map]
  constructor
  · rintro ⟨i, hi, rfl⟩
    rw [List.mem_range] at hi
    omega
  · rintro ⟨h1, h2⟩
    exact ⟨(x - 2).toNat, by rw [List.mem_range]; omega, by omega⟩
theorem pgs_take {m i : Nat} (h : i ≤ m) : (pgs m).take i = pgs i := by
  unfold pgs
  rw [← List.map_take, List.take_range, Nat.min_eq_left h]
theorem pgs_may {m : Nat} (h : m ≤ 198) : mayE [] (pgs m) = true := by
  unfold mayE frOk
  rw [Bool.and_eq_true]
  constructor
  · rw [List.all_eq_true]
    intro i hi
    rw [List.mem_range, pgs_length] at hi
    rw [pgs_at hi, pgs_take (Nat.le_of_lt hi)]
    simp only [Bool.and_eq_true, Bool.not_eq_true', decide_eq_false_iff_not]
    refine ⟨by simp, fun hm => ?_⟩
    have := pgs_mem.1 hm
    omega
  · rw [Bool.not_eq_true', List.nil_append, List.any_eq_false]
    intro x hx
    have := pgs_mem.1 hx
    unfold badP
    simp only [Bool.or_eq_true, decide_eq_true_eq]
    omega
/-- a page that may not be asked for -/
theorem bad_may {m : Nat} {x : Int} (h : ¬ ((m : Int) + 2 ≤ x ∧ x < 200)) : mayE [] (pgs m ++ [x]) = false := by
  by_cases h2 : x < 2 ∨ 200 ≤ x
  · unfold mayE
    have : (([] : List Int) ++ (pgs m ++ [x])).any badP = true := by
      rw [List.any_eq_true]
      refine ⟨x, by simp, ?_⟩
      unfold badP
      simp only [Bool.or_eq_true, decide_eq_true_eq]
      omega
    rw [this]
    simp
  · unfold mayE
    have : frOk [] (pgs m ++ [x]) (pgs m ++ [x]).length = false := by
      unfold frOk
      rw [List.all_eq_false]
      refine ⟨m, by rw [List.mem_range, List.length_append, pgs_length]; simp, ?_⟩
      have e1 : (pgs m ++ [x]).getD m 0 = x := by
        rw [List.getD_eq_getElem?_getD, List.getElem?_append_right (by rw [pgs_length]; exact Nat.le_refl _), pgs_length, Nat.sub_self]; rfl
      have e2 : (pgs m ++ [x]).take m = pgs m := by
        have := List.take_left (l₁ := pgs m) (l₂ := [x])
        rwa [pgs_length] at this
      rw [e1, e2, decide_eq_true (p := x ∈ pgs m) (pgs_mem.2 (by omega))]
      simp
    rw [this]
    rfl
theorem planE_err (l hv : List R2) (fr : List Int) : (planE l hv fr).2.2 = 0 ∨ (planE l hv fr).2.2 = 8 ∨ (planE l hv fr).2.2 = 9 ∨ (planE l hv fr).2.2 = 12 := by
  have hp : ∀ (S : PS) b is, S.e = 0 ∨ S.e = 8 ∨ S.e = 9 → (putS S b is).e = 0 ∨ (putS S b is).e = 8 ∨ (putS S b is).e = 9 := by
    intro S b is h
    unfold putS
    repeat' split
    all_goals first | exact h | exact .inr (.inl rfl) | exact .inr (.inr rfl)
  have hc : ∀ (l : List ByteArray) (S : PS), S.e = 0 ∨ S.e = 8 ∨ S.e = 9 → (chainF l S).2.e = 0 ∨ (chainF l S).2.e = 8 ∨ (chainF l S).2.e = 9 := by
    intro l S h
    induction l with
    | nil => exact h
    | cons x l ih => rw [chainF_cons]; exact hp _ _ _ ih
  have hcs : ∀ (l : List R2) (S : PS), S.e = 0 ∨ S.e = 8 ∨ S.e = 9 → (chainsF l S).2.e = 0 ∨ (chainsF l S).2.e = 8 ∨ (chainsF l S).2.e = 9 := by
    intro l
    induction l with
    | nil => intro S h; exact h
    | cons x l ih =>
      intro S h
      rw [chainsF_cons]
      split
      · exact ih _ (hc _ _ h)
      · exact ih _ h
  have hs : ∀ (l : List (List C4)) (S : PS), S.e = 0 ∨ S.e = 8 ∨ S.e = 9 → (slotsF l S).2.e = 0 ∨ (slotsF l S).2.e = 8 ∨ (slotsF l S).2.e = 9 := by
    intro l
    induction l with
    | nil => intro S h; exact h
    | cons x l ih =>
      intro S h
      rw [slotsF_cons]
      split
      · exact ih _ (hp _ _ _ h)
      · exact ih _ h
  have hz : (planZ l hv fr).2.e = 0 ∨ (planZ l hv fr).2.e = 8 ∨ (planZ l hv fr).2.e = 9 := hp _ _ _ (hs _ _ (hcs _ _ (.inl rfl)))
  unfold planE
  split
  · split
    · exact .inr (.inr (.inr rfl))
    · split
      · exact .inl rfl
      · rcases hz with h | h | h
        · exact .inl h
        · exact .inr (.inl h)
        · exact .inr (.inr (.inl h))
  · exact .inr (.inr (.inl rfl))
/-- few pages are enough if there are as many as are needed, and not else -/
theorem plan_few {l : List R2} {m : Nat} (hm : m ≤ 198) (hn : 0 < needE l) : (planE l [] (pgs m)).2.2 = 0 ↔ needE l ≤ m := by
  have h0 : (planE l [] (pgs 198)).2.2 = 0 := by
    by_cases h : (planE l [] (pgs 198)).2.2 = 0
    · exact h
    · exfalso
      unfold needE at hn
      rw [(planE_no h).1] at hn
      exact absurd hn (by decide)
  obtain ⟨a1, a2, a3, a4, a5⟩ := planE_ok h0
  have hne : needE l = (planZ l [] (pgs 198)).2.out.length := by unfold needE; rw [a5]
  obtain ⟨r, hr⟩ := pgs_split hm
  have hsim : (Lk m (planZ l [] (pgs 198)).2 (planZ l [] (pgs m)).2) ∨ Rk m (planZ l [] (pgs 198)).2 (planZ l [] (pgs m)).2 := by
    have h1 : Lk m (⟨knF [], pgs 198, [], 0⟩ : PS) ⟨knF [], pgs m, [], 0⟩ := ⟨rfl, rfl, rfl, ⟨r, hr⟩, by show 0 + (pgs m).length = m; rw [pgs_length]; omega⟩
    rcases chains_lk l h1 with ⟨h2, e2⟩ | h2
    · have h3 := slots_lk (lvs [] (planC l [] (pgs 198))) h2
      have e3 : planC l [] (pgs m) = planC l [] (pgs 198) := e2.symm
      rcases h3 with ⟨h3, e4⟩ | h3
      · have e5 : (planT l [] (pgs m)).1 = (planT l [] (pgs 198)).1 := by
          unfold planT planS
          rw [e3]
          exact e4.symm
        have h4 : Lk m (planT l [] (pgs 198)).2 (planT l [] (pgs m)).2 := by
          unfold planT planS
          rw [e3]
          exact h3
        unfold planZ
        rw [e5]
        rcases put_lk h4 (indexE (planT l [] (pgs 198)).1).1 (indexE (planT l [] (pgs 198)).1).2 with ⟨h5, _⟩ | h5
        · exact .inl h5
        · exact .inr h5
      · refine .inr (put_rk (S := (planT l [] (pgs 198)).2) (T := (planT l [] (pgs m)).2) ?_ _ _ _ _)
        unfold planT planS
        rw [e3]
        exact h3
    · exact .inr (put_rk (slots_rk _ _ h2) _ _ _ _)
  have hA : (rightF (-1) l && mayE (List.map (fun x => x.1) ([] : List R2)) (pgs m)) = true := by
    rw [List.map_nil, a1, pgs_may hm]; rfl
  rw [hne]
  unfold planE
  rw [if_pos hA, if_neg a3]
  rcases hsim with h | h
  · have he : (planZ l [] (pgs m)).2.e = 0 := h.2.2.1.trans a4
    rw [if_pos he]
    have := h.2.2.2.2
    exact ⟨fun _ => by omega, fun _ => rfl⟩
  · rw [if_neg h.1]
    have := h.2 a4
    exact ⟨fun h9 => absurd h9 h.1, fun h9 => by omega⟩
theorem plan_bad {l : List R2} {m : Nat} {x : Int} (h : ¬ ((m : Int) + 2 ≤ x ∧ x < 200)) : (planE l [] (pgs m ++ [x])).2.2 = 9 := by
  unfold planE
  rw [if_neg]
  rw [List.map_nil, bad_may h, Bool.and_false]
  decide
end Go.Proofs.Ytpeeojbhfebcdaa.V

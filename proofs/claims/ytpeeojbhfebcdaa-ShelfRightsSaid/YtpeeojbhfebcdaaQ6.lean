/- Plan: what may be laid out is laid out, if there are pages enough. (Plain.) -/
import Derived.Test.YtpeeojbhfebcdaaQ5
namespace Go.Proofs.Ytpeeojbhfebcdaa.V
open Go.RowKit Go.Proofs.YtpeeojbhfebcdaaW.PrintWords Go.Proofs.YtpeeojbhfebcdaaW.PrintLast Go.Proofs.YtpeeojbhfebcdaaW.PrintMore Go.Proofs.YtpeeojbhfebcdaaM
set_option linter.unusedVariables false
set_option linter.unusedSimpArgs false

/-! ### a leaf has room, or not, whatever its pages are -/
def shC (x : C4) : Int × Int × ByteArray × Bool := (x.1, x.2.1, x.2.2.2, okR x.2.1 x.2.2.1 x.2.2.2)
theorem shC_at {l m : List C4} (h : l.map shC = m.map shC) (i : Nat) : shC (atC l i) = shC (atC m i) := by
  have := congrArg (fun z => z[i]?) h
  simp only [List.getElem?_map] at this
  unfold atC
  rw [List.getD_eq_getElem?_getD, List.getD_eq_getElem?_getD]
  have e : ∀ z : Option C4, shC (z.getD zC) = (z.map shC).getD (shC zC) := fun z => by cases z <;> rfl
  rw [e, e, this]
theorem fullA_two (s : ByteArray) : (fullA s).2 = decide (s.size ≤ 128) := by
  unfold fullA
  split
  · rw [decide_eq_true (by assumption)]
  · rw [decide_eq_false (by assumption)]
theorem lfT_len (s p : Int) : (lfT s p).length = if 24 < s then 2 else 0 := by
  unfold lfT
  split
  · rw [byL_length]
  · rfl
theorem leafE_same {l m : List C4} (h : l.map shC = m.map shC) : (leafE l).2 = (leafE m).2 := by
  have hl : l.length = m.length := by have := congrArg List.length h; simpa using this
  have ha := fun i => shC_at h i
  have a1 : ∀ i, (atC l i).1 = (atC m i).1 := fun i => congrArg (·.1) (ha i)
  have a2 : ∀ i, (atC l i).2.1 = (atC m i).2.1 := fun i => congrArg (·.2.1) (ha i)
  have a3 : ∀ i, (atC l i).2.2.2 = (atC m i).2.2.2 := fun i => congrArg (·.2.2.1) (ha i)
  have a4 : ∀ i, okR (atC l i).2.1 (atC l i).2.2.1 (atC l i).2.2.2 = okR (atC m i).2.1 (atC m i).2.2.1 (atC m i).2.2.2 := fun i => congrArg (·.2.2.2) (ha i)
  have hv : lfV (fun i => (atC l i.toNat).1) (fun i => (atC l i.toNat).2.1) (fun i => (atC l i.toNat).2.2.1) (fun i => (atC l i.toNat).2.2.2) m.length = lfV (fun i => (atC m i.toNat).1) (fun i => (atC m i.toNat).2.1) (fun i => (atC m i.toNat).2.2.1) (fun i => (atC m i.toNat).2.2.2) m.length := by
    unfold lfV ahK
    congr 1
    funext j
    simp only [a1, a4]
  have hb : (lfB (fun i => (atC l i.toNat).1) (fun i => (atC l i.toNat).2.1) (fun i => (atC l i.toNat).2.2.1) (fun i => (atC l i.toNat).2.2.2) m.length m.length).length = (lfB (fun i => (atC m i.toNat).1) (fun i => (atC m i.toNat).2.1) (fun i => (atC m i.toNat).2.2.1) (fun i => (atC m i.toNat).2.2.2) m.length m.length).length := by
    unfold lfB
    rw [List.length_append, List.length_append, List.length_flatten, List.length_flatten, List.map_map, List.map_map]
    congr 2
    apply List.map_congr_left
    intro j _
    simp only [Function.comp, List.length_append, byL_length, bytesOf_len, lfT_len, a2, a3]
  unfold leafE lfA
  rw [hl, hv]
  split
  · split
    · rw [fullA_two, fullA_two, strOfNums_size, strOfNums_size, hb]
    · rfl
  · rfl
theorem lvs_same : ∀ (r s cur cus : List C4), r.map shC = s.map shC → cur.map shC = cus.map shC → (lvs cur r).length = (lvs cus s).length
  | [], [], cur, cus, _, h => by
    unfold lvs
    cases cur <;> cases cus
    · rfl
    · cases h
    · cases h
    · rfl
  | [], _ :: _, _, _, h, _ => by cases h
  | _ :: _, [], _, _, h, _ => by cases h
  | x :: r, y :: s, cur, cus, h, h2 => by
    rw [List.map_cons, List.map_cons] at h
    injection h with hx hr
    have h3 : (cur ++ [x]).map shC = (cus ++ [y]).map shC := by rw [List.map_append, List.map_append, h2]; show _ ++ [shC x] = _ ++ [shC y]; rw [hx]
    unfold lvs
    rw [leafE_same h3]
    split
    · exact lvs_same r s _ _ hr h3
    · rw [List.length_cons, List.length_cons, lvs_same r s [x] [y] hr (by show [shC x] = [shC y]; rw [hx])]
/-- each leaf has room -/
theorem lvs_leaf : ∀ (r cur : List C4), (∀ x ∈ r, cellOk x) → (cur = [] ∨ (leafE cur).2 = true) → ∀ y ∈ lvs cur r, (leafE y).2 = true
  | [], cur, _, h, y, hy => by
    unfold lvs at hy
    cases cur with
    | nil => cases hy
    | cons a t =>
      rw [List.mem_singleton] at hy
      rw [hy]
      rcases h with h | h
      · cases h
      · exact h
  | c :: r, cur, hok, h, y, hy => by
    have hr : ∀ x ∈ r, cellOk x := fun x hx => hok x (List.mem_cons_of_mem _ hx)
    have h1 := leaf_one (hok c List.mem_cons_self)
    unfold lvs at hy
    split at hy
    · rename_i hn
      exact lvs_leaf r _ hr (.inr hn) y hy
    · rename_i hn
      rcases List.mem_cons.1 hy with rfl | hy
      · rcases h with rfl | h
        · exact absurd h1 hn
        · exact h
      · exact lvs_leaf r [c] hr (.inr h1) y hy
/-! ### the index -/
def kinS : Int → List S2 → Prop
  | _, [] => True
  | lo, x :: t => lo < x.1 ∧ x.1 ≤ 2147483647 ∧ okP x.2 = true ∧ kinS x.1 t
theorem kinS_at : ∀ (l : List S2) (lo : Int), kinS lo l → ∀ j, j < l.length → (if j = 0 then lo else (atS l (j - 1)).1) < (atS l j).1 ∧ (atS l j).1 ≤ 2147483647 ∧ okP (atS l j).2 = true
  | [], _, _, j, hj => by simp at hj
  | x :: t, lo, h, 0, _ => ⟨h.1, h.2.1, h.2.2.1⟩
  | x :: t, lo, h, j + 1, hj => by
    have := kinS_at t x.1 h.2.2.2 j (by simp at hj; omega)
    rw [if_neg (by omega)]
    refine ⟨?_, this.2⟩
    have h1 := this.1
    cases j with
    | zero => exact h1
    | succ j => exact h1
theorem index_ok {l : List S2} (h : kinS (-1) l) (hl : l.length ≤ 21) : (indexE l).2 = true := by
  unfold indexE idxA
  have hv : idxV (fun i => (atS l i.toNat).1) (fun i => (atS l i.toNat).2) l.length = true := by
    unfold idxV ahK
    rw [all_at]
    intro j hj
    obtain ⟨h1, h2, h3⟩ := kinS_at l (-1) h j hj
    simp only [Int.toNat_natCast]
    rw [h3, Bool.and_true]
    unfold okK
    rw [Bool.and_eq_true, decide_eq_true_eq, decide_eq_true_eq]
    refine ⟨?_, h2⟩
    by_cases hj0 : j = 0
    · subst hj0; exact h1
    · rw [if_neg hj0] at h1
      rw [if_neg (by omega), show ((j : Int) - 1).toNat = j - 1 by omega]
      exact h1
  rw [if_pos hl, if_pos hv, fullA_two, strOfNums_size]
  have : (idxB (fun i => (atS l i.toNat).1) (fun i => (atS l i.toNat).2) l.length l.length).length ≤ 128 := by
    unfold idxB
    rw [List.length_append, List.length_flatten, List.map_map]
    have h6 : (List.range l.length).map (List.length ∘ fun (i : Nat) => byL (atS l (i : Int).toNat).1 4 4 ++ byL (atS l (i : Int).toNat).2 2 2) = (List.range l.length).map fun _ => 6 := by
      apply List.map_congr_left
      intro j _
      simp [byL_length]
    rw [h6, List.map_const', List.sum_replicate_nat, List.length_range]
    simp
    omega
  rw [decide_eq_true this]
/-! ### so many puts, so many pages -/
/-- f pages were free; k times something was put -/
def Gd (f k : Nat) (S : PS) : Prop := PgOk S ∧ ((S.e = 0 ∧ f ≤ S.free.length + k) ∨ (S.e = 8 ∧ f ≤ k))
theorem Gd.e {f k : Nat} {S : PS} (h : Gd f k S) : S.e = 0 ∨ S.e = 8 := h.2.imp (·.1) (·.1)
theorem Gd.put {f k : Nat} {S : PS} (h : Gd f k S) (b : ByteArray) (is : Bool) (hi : S.e = 0 → is = true) : Gd f (k + 1) (putS S b is) := by
  refine ⟨putS_pg h.1 b is, ?_⟩
  rcases h.2 with ⟨h1, h2⟩ | ⟨h1, h2⟩
  · obtain rfl := hi h1
    cases hk : S.known b with
    | some n => rw [(put_some h1 hk).1]; exact .inl ⟨h1, by omega⟩
    | none =>
      cases hf : S.free with
      | nil =>
        rw [put_nil h1 hk hf]
        rw [hf] at h2
        exact .inr ⟨rfl, by simp at h2; omega⟩
      | cons n fr =>
        rw [(put_cons h1 hk hf).1]
        rw [hf] at h2
        exact .inl ⟨h1, by simp at h2 ⊢; omega⟩
  · rw [putS_stuck (by rw [h1]; decide)]
    exact .inr ⟨h1, by omega⟩
theorem chA_ok {nx : Int} {x : ByteArray} (h1 : nx = 0 ∨ okP nx = true) (h2 : 1 ≤ x.size) (h3 : x.size ≤ 120) : (chA nx x).2 = true := by
  have : chOk nx x = true := by
    unfold chOk
    rcases h1 with rfl | h1
    · simp; omega
    · rw [h1]; simp; omega
  unfold chA
  rw [if_pos this]
theorem Gd.chain : ∀ (l : List ByteArray) {f k : Nat} {S : PS}, Gd f k S → (∀ x ∈ l, 1 ≤ x.size ∧ x.size ≤ 120) → Gd f (k + l.length) (chainF l S).2 ∧ ((chainF l S).2.e = 0 → (chainF l S).1 = 0 ∨ okP (chainF l S).1 = true)
  | [], f, k, S, h, _ => ⟨h, fun _ => .inl rfl⟩
  | x :: t, f, k, S, h, hx => by
    obtain ⟨h1, h2⟩ := Gd.chain t h (fun y hy => hx y (List.mem_cons_of_mem _ hy))
    obtain ⟨x1, x2⟩ := hx x List.mem_cons_self
    rw [chainF_cons]
    have hi : (chainF t S).2.e = 0 → (chA (chainF t S).1 x).2 = true := fun he => chA_ok (h2 he) x1 x2
    exact ⟨h1.put _ _ hi, fun he => .inr (putN_pg h1.1 _ _ he)⟩
theorem pieces_few {b : ByteArray} (h : b.size ≤ 900) : (pieces b).length ≤ 8 := by
  have := piecesF_len b.size b
  unfold pieces
  omega
theorem Gd.mono {f k j : Nat} {S : PS} (h : Gd f k S) (hk : k ≤ j) : Gd f j S := ⟨h.1, h.2.imp (fun h => ⟨h.1, by omega⟩) (fun h => ⟨h.1, by omega⟩)⟩
theorem Gd.chains : ∀ (l : List R2) {f k : Nat} {S : PS}, Gd f k S → (∀ r ∈ l, r.2.size ≤ 900) → Gd f (k + 8 * l.length) (chainsF l S).2
  | [], f, k, S, h, _ => h
  | r :: t, f, k, S, h, hr => by
    rw [chainsF_cons, List.length_cons]
    have h1 := hr r List.mem_cons_self
    have ht := fun y hy => hr y (List.mem_cons_of_mem _ hy)
    split
    · have h2 := (Gd.chain (pieces r.2) h (fun x hx => piecesF_size _ _ x hx)).1
      have h3 := Gd.chains t (h2.mono (show _ ≤ k + 8 by have := pieces_few h1; omega)) ht
      exact h3.mono (by omega)
    · exact (Gd.chains t h ht).mono (by omega)
theorem Gd.slots : ∀ (L : List (List C4)) {f k : Nat} {S : PS} {lo : Int}, Gd f k S → (∀ y ∈ L, (leafE y).2 = true) → asc lo L → Gd f (k + L.length) (slotsF L S).2 ∧ ((slotsF L S).2.e = 0 → kinS lo (slotsF L S).1 ∧ (slotsF L S).1.length = L.length)
  | [], f, k, S, lo, h, _, _ => ⟨h, fun _ => ⟨trivial, rfl⟩⟩
  | x :: t, f, k, S, lo, h, hy, ha => by
    obtain ⟨c, r, rfl, hc1, hc2, ha⟩ := ha
    have ht := fun y h => hy y (List.mem_cons_of_mem _ h)
    have hx := hy _ List.mem_cons_self
    rw [slotsF_cons, List.length_cons]
    split
    · rename_i he
      obtain ⟨h1, h2⟩ := Gd.slots t (h.put (leafE (c :: r)).1 (leafE (c :: r)).2 (fun _ => hx)) ht ha
      refine ⟨h1.mono (by omega), fun hz => ?_⟩
      obtain ⟨h3, h4⟩ := h2 hz
      refine ⟨⟨hc1, hc2, putN_pg h.1 _ _ (slotsF_e hz), h3⟩, ?_⟩
      show (slotsF t _).1.length + 1 = _
      rw [h4]
    · rename_i he
      obtain ⟨h1, h2⟩ := Gd.slots t h ht ha
      exact ⟨h1.mono (by omega), fun hz => absurd (slotsF_e hz) he⟩
/-- all that may be told of a plan's end -/
theorem plan_end {l hv : List R2} {fr : List Int} (h1 : rightF (-1) l = true) (h2 : mayE (hv.map (·.1)) fr = true) (h3 : ¬ 21 < (lvs [] (l.map (cellE · 2))).length) :
    Gd fr.length (8 * l.length + (lvs [] (l.map (cellE · 2))).length + 1) (planZ l hv fr).2 := by
  obtain ⟨pv, pf⟩ := mayE_pg h2
  have hpv : ∀ x ∈ hv, okP x.1 = true := fun x hx => pv _ (List.mem_map_of_mem hx)
  have hr := rightF_mem l (-1) (by omega) h1
  have g0 : Gd fr.length 0 (⟨knF hv, fr, [], 0⟩ : PS) := ⟨⟨knF_pg hpv, pf⟩, .inl ⟨rfl, Nat.le_refl _⟩⟩
  have g1 : Gd fr.length (8 * l.length) (planS l hv fr) := (Gd.chains l g0 (fun r h => (hr r h).2.2)).mono (by omega)
  rcases g1.e with he | he
  · have hok : ∀ x ∈ planC l hv fr, cellOk x := chainsF_ok l ⟨knF hv, fr, [], 0⟩ ⟨knF_pg hpv, pf⟩ hr he
    have hsh : (planC l hv fr).map shC = (l.map (cellE · 2)).map shC := by
      have H : ∀ (l : List R2) (S : PS), (∀ r ∈ l, -1 < r.1 ∧ r.1 ≤ 2147483647 ∧ r.2.size ≤ 900) → (∀ x ∈ (chainsF l S).1, cellOk x) → (chainsF l S).1.map shC = (l.map (cellE · 2)).map shC := by
        intro l
        induction l with
        | nil => intro S _ _; rfl
        | cons r t ih =>
          intro S hr hx
          have hc : ∀ p, cellOk (cellE r p) → shC (cellE r p) = shC (cellE r 2) := by
            intro p hp
            have hr1 := hr r List.mem_cons_self
            have h2 := cellE_ok (p := 2) hr1.1 hr1.2.1 hr1.2.2 (fun _ => by decide)
            have e1 : okR (cellE r p).2.1 (cellE r p).2.2.1 (cellE r p).2.2.2 = true := hp.2
            have e2 : okR (cellE r 2).2.1 (cellE r 2).2.2.1 (cellE r 2).2.2.2 = true := h2.2
            unfold shC
            rw [e1, e2]
            unfold cellE
            split <;> rfl
          rw [chainsF_cons] at hx ⊢
          split
          · rename_i h24
            rw [if_pos h24] at hx
            rw [List.map_cons, List.map_cons, List.map_cons, hc _ (hx _ List.mem_cons_self), ih _ (fun y hy => hr y (List.mem_cons_of_mem _ hy)) (fun y hy => hx y (List.mem_cons_of_mem _ hy))]
          · rename_i h24
            rw [if_neg h24] at hx
            rw [List.map_cons, List.map_cons, List.map_cons, ih _ (fun y hy => hr y (List.mem_cons_of_mem _ hy)) (fun y hy => hx y (List.mem_cons_of_mem _ hy))]
      exact H l _ hr hok
    have hlen := lvs_same (planC l hv fr) (l.map (cellE · 2)) [] [] hsh rfl
    obtain ⟨g2, g3⟩ := Gd.slots (lvs [] (planC l hv fr)) (lo := -1) g1 (lvs_leaf _ _ hok (.inl rfl)) (lvs_asc _ [] (-1) hok (chainsF_kin l _ (-1) h1))
    rw [hlen] at g2
    have g4 : Gd fr.length (8 * l.length + (lvs [] (l.map (cellE · 2))).length) (planT l hv fr).2 := g2
    refine g4.put _ _ (fun hz => ?_)
    obtain ⟨g5, g6⟩ := g3 hz
    refine index_ok g5 ?_
    rw [show (planT l hv fr).1.length = (lvs [] (planC l hv fr)).length from g6, hlen]
    omega
  · have h8 : ∀ (L : List (List C4)) (S : PS), S.e = 8 → (slotsF L S).2 = S := fun L S h => slots_stuck L (by rw [h]; decide)
    have e1 : (planT l hv fr).2 = planS l hv fr := h8 _ _ he
    have e2 : (planZ l hv fr).2 = planS l hv fr := by
      unfold planZ
      rw [e1]
      exact putS_stuck (by rw [he]; decide) _ _
    rw [e2]
    exact g1.mono (by omega)
/-- with pages enough, it is done -/
theorem plan_fits {l hv : List R2} {fr : List Int} (h1 : rightF (-1) l = true) (h2 : mayE (hv.map (·.1)) fr = true) (h3 : ¬ 21 < (lvs [] (l.map (cellE · 2))).length) (h4 : 8 * l.length + 22 < fr.length) : (planE l hv fr).2.2 = 0 := by
  have hg := plan_end h1 h2 h3
  have he : (planZ l hv fr).2.e = 0 := by
    rcases hg.2 with h | h
    · exact h.1
    · omega
  unfold planE
  have hA : (rightF (-1) l && mayE (List.map (fun x => x.1) hv) fr) = true := by rw [h1, h2]; rfl
  rw [if_pos hA, if_neg h3, if_pos he]
theorem planE_right {l hv : List R2} {fr : List Int} (h1 : rightF (-1) l = false) : planE l hv fr = ([], 0, 9) := by
  unfold planE
  rw [h1, if_neg (by simp)]
end Go.Proofs.Ytpeeojbhfebcdaa.V

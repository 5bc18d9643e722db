/- How many pages a plan writes. (Plain.) -/
import Derived.Test.YtpeeojbhfebcdaaQ2
namespace Go.Proofs.Ytpeeojbhfebcdaa.V
open Go.RowKit Go.Proofs.YtpeeojbhfebcdaaW.PrintWords Go.Proofs.YtpeeojbhfebcdaaW.PrintLast Go.Proofs.YtpeeojbhfebcdaaW.PrintMore Go.Proofs.YtpeeojbhfebcdaaM
set_option linter.unusedVariables false
set_option linter.unusedSimpArgs false

/-- the first key of a leaf's page -/
def kyOf (b : ByteArray) : Int := rdV (((bytesOf b).drop 2).take 4)
theorem chA_fb {nx : Int} {x : ByteArray} (h : (chA nx x).2 = true) : fb (chA nx x).1 = some 67 := by
  unfold chA at h ⊢
  split
  · exact fb_pad (x := 67) (t := (byL nx 2 2 ++ ([(x.size : Int) % 256] ++ bytesOf x))) (okB_chL nx x)
  · rename_i h2; rw [if_neg h2] at h; cases h
theorem fb_head {x : Int} {l : List Int} (h : okB l) (hx : l.head? = some x) : fb (strOfNums (pad l)) = some x := by
  cases l with
  | nil => cases hx
  | cons y t =>
    injection hx with hx
    subst hx
    exact fb_pad h
theorem okB_flat {α : Type} (f : α → List Int) (l : List α) (h : ∀ x, okB (f x)) : okB ((l.map f).flatten) := by
  intro x hx
  rw [List.mem_flatten] at hx
  obtain ⟨y, hy, hxy⟩ := hx
  obtain ⟨z, _, rfl⟩ := List.mem_map.1 hy
  exact h z x hxy
theorem okB_two (a n : Int) (h0 : 0 ≤ a) (h1 : a < 256) : okB [a, n % 256] := by
  intro x hx
  simp only [List.mem_cons, List.not_mem_nil, or_false] at hx
  omega
theorem okB_lfT (a b : Int) : okB (lfT a b) := by
  unfold lfT
  split
  · exact okB_byL _ _ _
  · intro x hx; cases hx
theorem okB_lfB (Ky Sz Pg : Int → Int) (Bt : Int → ByteArray) (n j : Nat) : okB (lfB Ky Sz Pg Bt n j) := by
  unfold lfB
  exact okB_append.2 ⟨okB_two 76 n (by decide) (by decide), okB_flat _ _ fun i => okB_append.2 ⟨okB_byL _ _ _, okB_append.2 ⟨okB_byL _ _ _, okB_append.2 ⟨okB_bytesOf _, okB_lfT _ _⟩⟩⟩⟩
theorem okB_idxB (Ky Pg : Int → Int) (n j : Nat) : okB (idxB Ky Pg n j) := by
  unfold idxB
  exact okB_append.2 ⟨okB_two 73 n (by decide) (by decide), okB_flat _ _ fun i => okB_append.2 ⟨okB_byL _ _ _, okB_byL _ _ _⟩⟩
theorem fullA_pad {l : List Int} (h : (fullA (strOfNums l)).2 = true) : (fullA (strOfNums l)).1 = strOfNums (pad l) := by
  rw [fullA_k] at h ⊢
  split
  · rfl
  · rename_i h2; rw [if_neg h2] at h; cases h
theorem leafE_fb {l : List C4} (h : (leafE l).2 = true) : fb (leafE l).1 = some 76 := by
  unfold leafE lfA at h ⊢
  split
  · rename_i h1
    rw [if_pos h1] at h
    split
    · rename_i h2
      rw [if_pos h2] at h
      rw [fullA_pad h]
      exact fb_head (okB_lfB _ _ _ _ _ _) rfl
    · rename_i h2; rw [if_neg h2] at h; cases h
  · rename_i h1; rw [if_neg h1] at h; cases h
theorem leafE_key {c : C4} {r : List C4} (h : (leafE (c :: r)).2 = true) (h0 : 0 ≤ c.1) (hm : c.1 ≤ 2147483647) : kyOf (leafE (c :: r)).1 = c.1 := by
  unfold leafE lfA at h ⊢
  by_cases h1 : (c :: r).length ≤ 128
  · rw [if_pos h1] at h ⊢
    split
    · rename_i h2
      rw [if_pos h2] at h
      rw [fullA_pad h]
      unfold kyOf
      rw [bytesOf_strOf (okB_pad (okB_lfB _ _ _ _ _ _))]
      have hr : List.range (c :: r).length = 0 :: (List.range r.length).map Nat.succ := by rw [List.length_cons, List.range_succ_eq_map]
      unfold pad lfB
      rw [hr, List.map_cons, List.flatten_cons, List.append_assoc, List.append_assoc]
      show rdV (((byL c.1 4 4 ++ _) ++ _).take 4) = c.1
      rw [List.append_assoc, List.take_append_of_le_length (by rw [byL_length]; omega), List.take_of_length_le (by rw [byL_length]; omega)]
      exact rdV4 h0 (by omega)
    · rename_i h2; rw [if_neg h2] at h; cases h
  · rw [if_neg h1] at h; cases h
theorem indexE_fb {l : List S2} (h : (indexE l).2 = true) : fb (indexE l).1 = some 73 := by
  unfold indexE idxA at h ⊢
  split
  · rename_i h1
    rw [if_pos h1] at h
    split
    · rename_i h2
      rw [if_pos h2] at h
      rw [fullA_pad h]
      exact fb_head (okB_idxB _ _ _ _) rfl
    · rename_i h2; rw [if_neg h2] at h; cases h
  · rename_i h1; rw [if_neg h1] at h; cases h
theorem putS_is {S : PS} {b : ByteArray} {is : Bool} (h : (putS S b is).e = 0) : is = true := by
  cases is with
  | true => rfl
  | false =>
    have h0 := putS_e h
    unfold putS at h
    rw [if_pos h0] at h
    exact absurd h (by show ¬ ((9 : Int) = 0); decide)
/-- a page that is not known is written -/
theorem putS_new {S : PS} {b : ByteArray} {is : Bool} (h : (putS S b is).e = 0) (hk : S.known b = none) : (putS S b is).out.length = S.out.length + 1 ∧ ∃ n, (putS S b is).known = upd S.known b n := by
  have h0 := putS_e h
  obtain rfl := putS_is h
  unfold putS at h ⊢
  rw [if_pos h0] at h ⊢
  rw [if_pos rfl] at h ⊢
  rw [hk] at h ⊢
  cases hf : S.free with
  | nil => rw [hf] at h; exact absurd h (by show ¬ ((8 : Int) = 0); decide)
  | cons n fr => exact ⟨by simp, n, rfl⟩
theorem putS_mem {S : PS} {b x : ByteArray} {is : Bool} (h : (putS S b is).known x ≠ none) : S.known x ≠ none ∨ (x = b ∧ is = true) := by
  unfold putS at h
  by_cases h0 : S.e = 0
  · rw [if_pos h0] at h
    cases is with
    | false => exact .inl h
    | true =>
      rw [if_pos rfl] at h
      cases hk : S.known b with
      | some n => rw [hk] at h; exact .inl h
      | none =>
        rw [hk] at h
        cases hf : S.free with
        | nil => rw [hf] at h; exact .inl h
        | cons n fr =>
          rw [hf] at h
          change upd S.known b n x ≠ none at h
          by_cases e : x = b
          · exact .inr ⟨e, rfl⟩
          · rw [upd_ne _ _ e] at h; exact .inl h
  · rw [if_neg h0] at h; exact .inl h
/-- what is known is of chains -/
def PC (S : PS) : Prop := ∀ b, S.known b ≠ none → fb b = some 67
theorem chainF_pc (l : List ByteArray) {S : PS} (h : PC S) : PC (chainF l S).2 := by
  induction l with
  | nil => exact h
  | cons x l ih =>
    rw [chainF_cons]
    intro b hb
    rcases putS_mem hb with hb | ⟨rfl, h2⟩
    · exact ih b hb
    · exact chA_fb h2
theorem chainsF_pc : ∀ (l : List R2) {S : PS}, PC S → PC (chainsF l S).2
  | [], S, h => h
  | r :: t, S, h => by
    rw [chainsF_cons]
    split
    · exact chainsF_pc t (chainF_pc _ h)
    · exact chainsF_pc t h
/-- keys that rise -/
def kin : Int → List C4 → Prop
  | _, [] => True
  | lo, x :: t => lo < x.1 ∧ x.1 ≤ 2147483647 ∧ kin x.1 t
theorem kin_low : ∀ {l : List C4} {a b : Int}, a ≤ b → kin b l → kin a l
  | [], _, _, _, _ => trivial
  | x :: t, a, b, h, hk => ⟨by have := hk.1; omega, hk.2⟩
theorem kin_drop : ∀ {a b : List C4} {lo : Int}, kin lo (a ++ b) → kin lo b
  | [], b, lo, h => h
  | x :: a, b, lo, h => by
    have h2 : kin x.1 (a ++ b) := h.2.2
    exact kin_low (by have : lo < x.1 := h.1; omega) (kin_drop h2)
theorem chainsF_kin : ∀ (l : List R2) (S : PS) (a : Int), rightF a l = true → kin a (chainsF l S).1
  | [], S, a, _ => trivial
  | r :: t, S, a, h => by
    unfold rightF at h
    simp only [Bool.and_eq_true, decide_eq_true_eq] at h
    obtain ⟨h1, h2, h3, h4⟩ := h
    have hc : ∀ p, (cellE r p).1 = r.1 := fun p => by unfold cellE; split <;> rfl
    rw [chainsF_cons]
    split
    · exact ⟨by rw [hc]; exact h1, by rw [hc]; exact h2, by rw [hc]; exact chainsF_kin t _ _ h4⟩
    · exact ⟨by rw [hc]; exact h1, by rw [hc]; exact h2, by rw [hc]; exact chainsF_kin t _ _ h4⟩
def asc : Int → List (List C4) → Prop
  | _, [] => True
  | lo, x :: t => ∃ c r, x = c :: r ∧ lo < c.1 ∧ c.1 ≤ 2147483647 ∧ asc c.1 t
theorem lvs_asc : ∀ (r cur : List C4) (lo : Int), (∀ x ∈ r, cellOk x) → kin lo (cur ++ r) → asc lo (lvs cur r)
  | [], [], lo, _, _ => trivial
  | [], c :: t, lo, _, h => ⟨c, t, rfl, h.1, h.2.1, trivial⟩
  | c :: r, cur, lo, hok, h => by
    have hr : ∀ x ∈ r, cellOk x := fun x hx => hok x (List.mem_cons_of_mem _ hx)
    unfold lvs
    split
    · exact lvs_asc r _ lo hr (by rw [List.append_assoc]; exact h)
    · rename_i hn
      cases cur with
      | nil => exact absurd (leaf_one (hok c List.mem_cons_self)) hn
      | cons c0 t =>
        refine ⟨c0, t, rfl, h.1, h.2.1, lvs_asc r [c] c0.1 hr ?_⟩
        exact kin_drop (a := t) (b := [c] ++ r) h.2.2
def PL (S : PS) (lo : Int) : Prop := ∀ b, S.known b ≠ none → fb b = some 67 ∨ (fb b = some 76 ∧ kyOf b ≤ lo)
theorem slots_count : ∀ (l : List (List C4)) (S : PS) (lo : Int), -1 ≤ lo → PL S lo → asc lo l → (slotsF l S).2.e = 0 → (slotsF l S).2.out.length = S.out.length + l.length ∧ ∀ b, (slotsF l S).2.known b ≠ none → fb b = some 67 ∨ fb b = some 76
  | [], S, lo, _, h, _, _ => ⟨rfl, fun b hb => (h b hb).imp id (fun h => h.1)⟩
  | x :: t, S, lo, hlo, h, ha, he => by
    obtain ⟨c, r, rfl, hc1, hc2, ha⟩ := ha
    have h0 := slotsF_e he
    rw [slotsF_cons, if_pos h0] at he ⊢
    change (slotsF t (putS S (leafE (c :: r)).1 (leafE (c :: r)).2)).2.e = 0 at he
    have h1 := slotsF_e he
    have hi := putS_is h1
    have hky := leafE_key hi (by omega) hc2
    have hfb := leafE_fb hi
    have hn : S.known (leafE (c :: r)).1 = none := by
      cases hk : S.known (leafE (c :: r)).1 with
      | none => rfl
      | some n =>
        exfalso
        rcases h _ (by rw [hk]; exact Option.some_ne_none _) with h2 | ⟨_, h2⟩
        · rw [hfb] at h2; injection h2 with h2; exact absurd h2 (by decide)
        · rw [hky] at h2; omega
    obtain ⟨g1, n, g2⟩ := putS_new h1 hn
    obtain ⟨k1, k2⟩ := slots_count t (putS S (leafE (c :: r)).1 (leafE (c :: r)).2) c.1 (by omega) (by
      intro b hb
      rcases putS_mem hb with hb | ⟨rfl, _⟩
      · rcases h b hb with h2 | ⟨h2, h3⟩
        · exact .inl h2
        · exact .inr ⟨h2, by omega⟩
      · exact .inr ⟨hfb, by rw [hky]; exact Int.le_refl _⟩) ha he
    refine ⟨?_, k2⟩
    show (slotsF t (putS S (leafE (c :: r)).1 (leafE (c :: r)).2)).2.out.length = _
    rw [k1, g1, List.length_cons]; omega
theorem plan_count {l : List R2} {fr : List Int} (h : (planE l [] fr).2.2 = 0) : (planE l [] fr).1.length = (planS l [] fr).out.length + (lvs [] (planC l [] fr)).length + 1 := by
  obtain ⟨h1, h2, h3, h4, h5⟩ := planE_ok h
  have hT : (planT l [] fr).2.e = 0 := putS_e h4
  have hS : (planS l [] fr).e = 0 := slotsF_e hT
  have hpc : PC (planS l [] fr) := chainsF_pc l (S := ⟨knF [], fr, [], 0⟩) (fun b hb => absurd rfl hb)
  have hok := chainsF_ok l ⟨knF [], fr, [], 0⟩ ⟨knF_pg (fun x hx => by cases hx), (mayE_pg h2).2⟩ (rightF_mem l (-1) (by omega) h1) hS
  have hasc := lvs_asc (planC l [] fr) [] (-1) hok (chainsF_kin l _ (-1) h1)
  obtain ⟨g1, g2⟩ := slots_count (lvs [] (planC l [] fr)) (planS l [] fr) (-1) (by omega) (fun b hb => .inl (hpc b hb)) hasc hT
  have hi := putS_is h4
  have hn : (planT l [] fr).2.known (indexE (planT l [] fr).1).1 = none := by
    cases hk : (planT l [] fr).2.known (indexE (planT l [] fr).1).1 with
    | none => rfl
    | some n =>
      exfalso
      have hf := indexE_fb hi
      rcases g2 _ (show (slotsF (lvs [] (planC l [] fr)) (planS l [] fr)).2.known (indexE (planT l [] fr).1).1 ≠ none by
        show (planT l [] fr).2.known _ ≠ none
        rw [hk]; exact Option.some_ne_none _) with h2 | h2
      · rw [hf] at h2; injection h2 with h2; exact absurd h2 (by decide)
      · rw [hf] at h2; injection h2 with h2; exact absurd h2 (by decide)
  have g3 := (putS_new h4 hn).1
  rw [h5]
  show (planZ l [] fr).2.out.length = _
  have g4 : (planZ l [] fr).2.out.length = (planT l [] fr).2.out.length + 1 := g3
  have g5 : (planT l [] fr).2.out.length = (planS l [] fr).out.length + (lvs [] (planC l [] fr)).length := g1
  omega
/-! ### one record more -/
theorem chainsF_append : ∀ (l m : List R2) (S : PS), chainsF (l ++ m) S = ((chainsF l S).1 ++ (chainsF m (chainsF l S).2).1, (chainsF m (chainsF l S).2).2)
  | [], m, S => rfl
  | r :: t, m, S => by
    rw [List.cons_append, chainsF_cons, chainsF_cons, chainsF_append t m, chainsF_append t m]
    split <;> rfl
theorem putS_grow (S : PS) (b : ByteArray) (is : Bool) : S.out.length ≤ (putS S b is).out.length := by
  unfold putS
  by_cases h0 : S.e = 0
  · rw [if_pos h0]
    cases is with
    | false => exact Nat.le_refl _
    | true =>
      rw [if_pos rfl]
      cases hk : S.known b with
      | some n => exact Nat.le_refl _
      | none =>
        cases hf : S.free with
        | nil => exact Nat.le_refl _
        | cons n fr => simp
  · rw [if_neg h0]; exact Nat.le_refl _
theorem chainF_grow (l : List ByteArray) (S : PS) : S.out.length ≤ (chainF l S).2.out.length := by
  induction l with
  | nil => exact Nat.le_refl _
  | cons x l ih => rw [chainF_cons]; exact Nat.le_trans ih (putS_grow _ _ _)
theorem chainsF_grow : ∀ (l : List R2) (S : PS), S.out.length ≤ (chainsF l S).2.out.length
  | [], S => Nat.le_refl _
  | r :: t, S => by
    rw [chainsF_cons]
    split
    · exact Nat.le_trans (chainF_grow _ _) (chainsF_grow t _)
    · exact chainsF_grow t _
theorem lvs_more : ∀ (r cur a : List C4), (lvs cur r).length ≤ (lvs cur (r ++ a)).length
  | [], cur, [] => Nat.le_refl _
  | [], cur, c :: a => by
    rw [List.nil_append]
    cases cur with
    | nil => exact Nat.zero_le _
    | cons x t =>
      show 1 ≤ _
      have hp : ∀ (r cur : List C4), cur ≠ [] → 1 ≤ (lvs cur r).length := by
        intro r
        induction r with
        | nil => intro cur h; cases cur with
          | nil => exact absurd rfl h
          | cons _ _ => exact Nat.le_refl _
        | cons c r ih =>
          intro cur h
          unfold lvs
          split
          · exact ih _ (by simp)
          · rw [List.length_cons]; omega
      exact hp _ _ (List.cons_ne_nil _ _)
  | c :: r, cur, a => by
    rw [List.cons_append]
    unfold lvs
    split
    · exact lvs_more r _ a
    · rw [List.length_cons, List.length_cons]; have := lvs_more r [c] a; omega
theorem plan_more {l m : List R2} {fr : List Int} (h : (planE l [] fr).2.2 = 0) (h2 : (planE (l ++ m) [] fr).2.2 = 0) : (planE l [] fr).1.length ≤ (planE (l ++ m) [] fr).1.length := by
  rw [plan_count h, plan_count h2]
  unfold planS planC
  rw [chainsF_append]
  have := chainsF_grow m (chainsF l ⟨knF [], fr, [], 0⟩).2
  have := lvs_more (chainsF l ⟨knF [], fr, [], 0⟩).1 [] (chainsF m (chainsF l ⟨knF [], fr, [], 0⟩).2).1
  show _ ≤ (chainsF m (chainsF l ⟨knF [], fr, [], 0⟩).2).2.out.length + (lvs [] ((chainsF l ⟨knF [], fr, [], 0⟩).1 ++ (chainsF m (chainsF l ⟨knF [], fr, [], 0⟩).2).1)).length + 1
  omega
end Go.Proofs.Ytpeeojbhfebcdaa.V

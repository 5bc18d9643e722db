/- The same records over their own pages: nothing is written. (Plain.) -/
import Derived.Test.YtpeeojbhfebcdaaP6
namespace Go.Proofs.Ytpeeojbhfebcdaa.V
open Go.RowKit Go.Proofs.YtpeeojbhfebcdaaW.PrintWords Go.Proofs.YtpeeojbhfebcdaaW.PrintLast Go.Proofs.YtpeeojbhfebcdaaW.PrintMore Go.Proofs.YtpeeojbhfebcdaaM
set_option linter.unusedVariables false
set_option linter.unusedSimpArgs false

/-- what f knows, g knows -/
def Ext (f g : ByteArray → Option Int) : Prop := ∀ b n, f b = some n → g b = some n
theorem Ext.refl (f : ByteArray → Option Int) : Ext f f := fun _ _ h => h
theorem Ext.trans {f g h : ByteArray → Option Int} (a : Ext f g) (b : Ext g h) : Ext f h := fun x n k => b x n (a x n k)
theorem Ext.upd {f : ByteArray → Option Int} {b : ByteArray} {n : Int} (h : f b = none) : Ext f (upd f b n) := fun x m hx => by
  by_cases e : x = b
  · rw [e, h] at hx; cases hx
  · rw [upd_ne _ _ e]; exact hx
theorem putS_ext (S : PS) (b : ByteArray) (is : Bool) : Ext S.known (putS S b is).known := by
  unfold putS
  by_cases h : S.e = 0
  · rw [if_pos h]
    cases is with
    | false => exact Ext.refl _
    | true =>
      rw [if_pos rfl]
      cases hk : S.known b with
      | some n => exact Ext.refl _
      | none =>
        cases hf : S.free with
        | nil => exact Ext.refl _
        | cons n fr => exact Ext.upd hk
  · rw [if_neg h]; exact Ext.refl _
theorem chainF_ext (l : List ByteArray) (S : PS) : Ext S.known (chainF l S).2.known := by
  induction l with
  | nil => exact Ext.refl _
  | cons x l ih => rw [chainF_cons]; exact ih.trans (putS_ext _ _ _)
theorem chainsF_ext : ∀ (l : List R2) (S : PS), Ext S.known (chainsF l S).2.known
  | [], S => Ext.refl _
  | r :: t, S => by
    rw [chainsF_cons]
    split
    · exact (chainF_ext _ _).trans (chainsF_ext t _)
    · exact chainsF_ext t _
theorem slotsF_ext : ∀ (l : List (List C4)) (S : PS), Ext S.known (slotsF l S).2.known
  | [], S => Ext.refl _
  | x :: t, S => by
    rw [slotsF_cons]
    split
    · exact (putS_ext _ _ _).trans (slotsF_ext t _)
    · exact slotsF_ext t _
/-- put again -/
theorem put_again {S : PS} {b : ByteArray} {is : Bool} (he : (putS S b is).e = 0) {f : ByteArray → Option Int} (hf : Ext (putS S b is).known f) (fr : List Int) (o : List R2) :
    putN ⟨f, fr, o, 0⟩ b is = putN S b is ∧ putS ⟨f, fr, o, 0⟩ b is = ⟨f, fr, o, 0⟩ := by
  have h0 := putS_e he
  unfold putS at he hf
  unfold putN putS
  rw [if_pos h0] at he hf ⊢
  cases is with
  | false => exact absurd he (by show ¬ ((9 : Int) = 0); decide)
  | true =>
    rw [if_pos rfl] at he hf ⊢
    cases hn : S.known b with
    | some n =>
      rw [hn] at hf
      have := hf b n hn
      simp only [this]
      refine ⟨?_, ?_⟩ <;> first | trivial | rfl
    | none =>
      rw [hn] at he hf
      cases hfr : S.free with
      | nil => rw [hfr] at he; exact absurd he (by show ¬ ((8 : Int) = 0); decide)
      | cons n fr =>
        rw [hfr] at hf
        have := hf b n (upd_same _ _ _)
        simp only [this]
        refine ⟨?_, ?_⟩ <;> first | trivial | rfl
theorem chain_again {l : List ByteArray} {S : PS} (he : (chainF l S).2.e = 0) {f : ByteArray → Option Int} (hf : Ext (chainF l S).2.known f) (fr : List Int) (o : List R2) :
    chainF l ⟨f, fr, o, 0⟩ = ((chainF l S).1, ⟨f, fr, o, 0⟩) := by
  induction l with
  | nil => rfl
  | cons x l ih =>
    rw [chainF_cons] at he hf
    rw [chainF_cons, chainF_cons]
    have h1 := ih (putS_e he) ((putS_ext _ _ _).trans hf)
    rw [h1]
    obtain ⟨h2, h3⟩ := put_again he hf fr o
    rw [h2, h3]
theorem chains_again : ∀ {l : List R2} {S : PS}, (chainsF l S).2.e = 0 → ∀ {f : ByteArray → Option Int}, Ext (chainsF l S).2.known f → ∀ (fr : List Int) (o : List R2), chainsF l ⟨f, fr, o, 0⟩ = ((chainsF l S).1, ⟨f, fr, o, 0⟩)
  | [], S, _, f, _, fr, o => rfl
  | r :: t, S, he, f, hf, fr, o => by
    rw [chainsF_cons] at he hf ⊢
    rw [chainsF_cons]
    by_cases h : 24 < r.2.size
    · rw [if_pos h] at he hf ⊢
      rw [if_pos h, chain_again (chainsF_e he) ((chainsF_ext _ _).trans hf) fr o, chains_again he hf fr o]
    · rw [if_neg h] at he hf ⊢
      rw [if_neg h, chains_again he hf fr o]
theorem slots_again : ∀ {l : List (List C4)} {S : PS}, (slotsF l S).2.e = 0 → ∀ {f : ByteArray → Option Int}, Ext (slotsF l S).2.known f → ∀ (fr : List Int) (o : List R2), slotsF l ⟨f, fr, o, 0⟩ = ((slotsF l S).1, ⟨f, fr, o, 0⟩)
  | [], S, _, f, _, fr, o => rfl
  | x :: t, S, he, f, hf, fr, o => by
    have h0 := slotsF_e he
    rw [slotsF_cons x t S, if_pos h0] at he hf ⊢
    rw [slotsF_cons x t ⟨f, fr, o, 0⟩, if_pos (show (⟨f, fr, o, 0⟩ : PS).e = 0 from rfl)]
    obtain ⟨h2, h3⟩ := put_again (slotsF_e he) ((slotsF_ext _ _).trans hf) fr o
    rw [h2, h3, slots_again he hf fr o]
/-- what is known is what was written -/
def KnOut (hv : List R2) (S : PS) : Prop := S.known = knF (hv ++ S.out)
theorem putS_kn {hv : List R2} {S : PS} (h : KnOut hv S) (b : ByteArray) (is : Bool) : KnOut hv (putS S b is) := by
  unfold putS
  by_cases h0 : S.e = 0
  · rw [if_pos h0]
    cases is with
    | false => exact h
    | true =>
      rw [if_pos rfl]
      cases hk : S.known b with
      | some n => exact h
      | none =>
        cases hf : S.free with
        | nil => exact h
        | cons n fr =>
          show upd S.known b n = knF (hv ++ (S.out ++ [(n, b)]))
          unfold KnOut at h
          rw [← List.append_assoc]
          unfold knF at h ⊢
          rw [List.foldl_append, ← h]
          show _ = knS S.known (n, b)
          unfold knS
          simp only [hk]
  · rw [if_neg h0]; exact h
theorem chainF_kn {hv : List R2} (l : List ByteArray) {S : PS} (h : KnOut hv S) : KnOut hv (chainF l S).2 := by
  induction l with
  | nil => exact h
  | cons x l ih => rw [chainF_cons]; exact putS_kn ih _ _
theorem chainsF_kn {hv : List R2} : ∀ (l : List R2) {S : PS}, KnOut hv S → KnOut hv (chainsF l S).2
  | [], S, h => h
  | r :: t, S, h => by
    rw [chainsF_cons]
    split
    · exact chainsF_kn t (chainF_kn _ h)
    · exact chainsF_kn t h
theorem slotsF_kn {hv : List R2} : ∀ (l : List (List C4)) {S : PS}, KnOut hv S → KnOut hv (slotsF l S).2
  | [], S, h => h
  | x :: t, S, h => by
    rw [slotsF_cons]
    split
    · exact slotsF_kn t (putS_kn h _ _)
    · exact slotsF_kn t h
/-- pages that are written are pages -/
def OutOk (S : PS) : Prop := PgOk S ∧ ∀ x ∈ S.out, okP x.1 = true ∧ x.2.size ≤ 128
theorem putS_ok {S : PS} (h : OutOk S) {b : ByteArray} (hb : b.size ≤ 128) (is : Bool) : OutOk (putS S b is) := by
  refine ⟨putS_pg h.1 b is, ?_⟩
  unfold putS
  by_cases h0 : S.e = 0
  · rw [if_pos h0]
    cases is with
    | false => exact h.2
    | true =>
      rw [if_pos rfl]
      cases hk : S.known b with
      | some n => exact h.2
      | none =>
        cases hf : S.free with
        | nil => exact h.2
        | cons n fr =>
          intro x hx
          rcases List.mem_append.1 hx with hx | hx
          · exact h.2 x hx
          · rw [List.mem_singleton] at hx
            subst hx
            exact ⟨h.1.2 n (by rw [hf]; exact List.mem_cons_self), hb⟩
  · rw [if_neg h0]; exact h.2
theorem chainF_ok2 (l : List ByteArray) {S : PS} (h : OutOk S) : OutOk (chainF l S).2 := by
  induction l with
  | nil => exact h
  | cons x l ih => rw [chainF_cons]; exact putS_ok ih (chA_size _ _) _
theorem chainsF_ok2 : ∀ (l : List R2) {S : PS}, OutOk S → OutOk (chainsF l S).2
  | [], S, h => h
  | r :: t, S, h => by
    rw [chainsF_cons]
    split
    · exact chainsF_ok2 t (chainF_ok2 _ h)
    · exact chainsF_ok2 t h
theorem slotsF_ok2 : ∀ (l : List (List C4)) {S : PS}, OutOk S → OutOk (slotsF l S).2
  | [], S, h => h
  | x :: t, S, h => by
    rw [slotsF_cons]
    split
    · exact slotsF_ok2 t (putS_ok h (leafE_size _) _)
    · exact slotsF_ok2 t h
theorem planZ_ok {l hv : List R2} {fr : List Int} (h1 : ∀ x ∈ hv, okP x.1 = true) (h2 : ∀ x ∈ fr, okP x = true) : OutOk (planZ l hv fr).2 :=
  putS_ok (slotsF_ok2 _ (chainsF_ok2 _ ⟨⟨knF_pg h1, h2⟩, fun x hx => by cases hx⟩)) (indexE_size _) _
theorem planZ_kn (l hv : List R2) (fr : List Int) : KnOut hv (planZ l hv fr).2 :=
  putS_kn (slotsF_kn _ (chainsF_kn (S := ⟨knF hv, fr, [], 0⟩) _ (show knF hv = knF (hv ++ []) by rw [List.append_nil]))) _ _
theorem planE_ok {l hv : List R2} {fr : List Int} (h : (planE l hv fr).2.2 = 0) : rightF (-1) l = true ∧ mayE (hv.map (·.1)) fr = true ∧ ¬ 21 < (lvs [] (l.map (cellE · 2))).length ∧ (planZ l hv fr).2.e = 0 ∧ planE l hv fr = ((planZ l hv fr).2.out, (planZ l hv fr).1, 0) := by
  unfold planE at h ⊢
  by_cases h1 : (rightF (-1) l && mayE (hv.map (·.1)) fr) = true
  · rw [if_pos h1] at h ⊢
    rw [Bool.and_eq_true] at h1
    by_cases h2 : 21 < (lvs [] (l.map (cellE · 2))).length
    · rw [if_pos h2] at h; exact absurd h (by decide)
    · rw [if_neg h2] at h ⊢
      by_cases h3 : (planZ l hv fr).2.e = 0
      · rw [if_pos h3]; exact ⟨h1.1, h1.2, h2, h3, rfl⟩
      · rw [if_neg h3] at h; exact absurd h h3
  · rw [if_neg h1] at h; exact absurd h (by decide)
theorem planE_no {l hv : List R2} {fr : List Int} (h : (planE l hv fr).2.2 ≠ 0) : (planE l hv fr).1 = [] ∧ (planE l hv fr).2.1 = 0 := by
  unfold planE at h ⊢
  split
  · rename_i h1
    rw [if_pos h1] at h
    split
    · exact ⟨rfl, rfl⟩
    · rename_i h2
      rw [if_neg h2] at h
      split
      · rename_i h3; rw [if_pos h3] at h; exact absurd rfl h
      · exact ⟨rfl, rfl⟩
  · exact ⟨rfl, rfl⟩
theorem planE_may {l hv : List R2} {fr : List Int} (h : (planE l hv fr).2.2 = 0) : mayE ((planE l hv fr).1.map (·.1)) [] = true := by
  obtain ⟨h1, h2, h3, h4, h5⟩ := planE_ok h
  obtain ⟨g1, g2⟩ := mayE_pg h2
  have hok := planZ_ok (l := l) (fun x hx => g1 x.1 (List.mem_map_of_mem hx)) g2
  rw [h5]
  unfold mayE
  rw [List.append_nil]
  have : (((planZ l hv fr).2.out.map (·.1)).any badP) = false := by
    rw [List.any_eq_false]
    intro n hn
    obtain ⟨x, hx, rfl⟩ := List.mem_map.1 hn
    have := (hok.2 x hx).1
    unfold okP at this
    unfold badP
    simp at this ⊢
    omega
  show (true && !(((planZ l hv fr).2.out.map (·.1)).any badP)) = true
  rw [this]; rfl
theorem plan_again {l : List R2} {fr : List Int} (h : (planE l [] fr).2.2 = 0) : planE l (planE l [] fr).1 [] = ([], (planE l [] fr).2.1, 0) := by
  have hm := planE_may h
  obtain ⟨h1, h2, h3, h4, h5⟩ := planE_ok h
  have hk : (planZ l [] fr).2.known = knF (planE l [] fr).1 := by
    have := planZ_kn l [] fr
    unfold KnOut at this
    rw [this, h5, List.nil_append]
  have hT : (planT l [] fr).2.e = 0 := putS_e h4
  have hS : (planS l [] fr).e = 0 := slotsF_e hT
  have xZ : Ext (planZ l [] fr).2.known (knF (planE l [] fr).1) := by rw [hk]; exact Ext.refl _
  have xT : Ext (planT l [] fr).2.known (knF (planE l [] fr).1) := (putS_ext _ _ _).trans xZ
  have xS : Ext (planS l [] fr).known (knF (planE l [] fr).1) := (slotsF_ext _ _).trans xT
  have eC := chains_again (l := l) (S := ⟨knF [], fr, [], 0⟩) hS xS [] []
  have eT := slots_again (l := lvs [] (planC l [] fr)) (S := planS l [] fr) hT xT [] []
  have eZ := put_again (S := (planT l [] fr).2) (b := (indexE (planT l [] fr).1).1) (is := (indexE (planT l [] fr).1).2) h4 xZ [] []
  obtain ⟨a, ha⟩ : ∃ a, a = (planE l [] fr).1 := ⟨_, rfl⟩
  rw [← ha] at hm eC eT eZ ⊢
  have rC : planC l a [] = planC l [] fr := by unfold planC; rw [eC]
  have rS : planS l a [] = ⟨knF a, [], [], 0⟩ := by unfold planS; rw [eC]
  have rT : planT l a [] = ((planT l [] fr).1, ⟨knF a, [], [], 0⟩) := by unfold planT; rw [rC, rS]; exact eT
  have rZ : planZ l a [] = ((planZ l [] fr).1, ⟨knF a, [], [], 0⟩) := by
    show (putN (planT l a []).2 (indexE (planT l a []).1).1 (indexE (planT l a []).1).2, putS (planT l a []).2 (indexE (planT l a []).1).1 (indexE (planT l a []).1).2) = _
    rw [rT]
    exact Prod.ext eZ.1 eZ.2
  have e2 : (planE l [] fr).2.1 = (planZ l [] fr).1 := by rw [h5]
  obtain ⟨rt, hrt⟩ : ∃ rt, rt = (planE l [] fr).2.1 := ⟨_, rfl⟩
  rw [← hrt] at e2 ⊢
  clear hrt
  unfold planE
  rw [if_pos (by rw [h1, hm]; rfl), if_neg h3, rZ]
  show (if (0 : Int) = 0 then _ else _) = _
  rw [if_pos rfl]
  show ([], (planZ l [] fr).1, 0) = _
  rw [← e2]
end Go.Proofs.Ytpeeojbhfebcdaa.V

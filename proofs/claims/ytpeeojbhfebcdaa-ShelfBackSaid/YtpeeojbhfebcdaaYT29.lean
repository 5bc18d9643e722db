/- Of the texts that the row stands on, what it needs (part 29), put together by a program of this session. -/
import Derived.Test.YtpeeojbhfebcdaaYT28
import Derived.Test.YtpeeojbhfebcdaaYT24
import Derived.Test.YtpeeojbhfebcdaaYT25
section
namespace Go.Proofs.Ytpeeojbhfebcdaa.V
open Go.RowKit Go.Proofs.YtpeeojbhfebcdaaW.PrintWords Go.Proofs.YtpeeojbhfebcdaaW.PrintLast Go.Proofs.YtpeeojbhfebcdaaW.PrintMore Go.Proofs.YtpeeojbhfebcdaaM
open Go.Proofs.Ytpeeojbhfebcdaa.PAll
set_option linter.unusedVariables false
set_option linter.unusedSimpArgs false
def pgs (n : Nat) : List Int := (List.range n).map fun (i : Nat) => (i : Int) + 2
theorem pgs_length (n : Nat) : (pgs n).length = n := by unfold pgs; simp
theorem pgs_snoc (n : Nat) : pgs (n + 1) = pgs n ++ [(n : Int) + 2] := by unfold pgs; rw [List.range_succ, List.map_append]; rfl
abbrev tR (l : List S45) : List R2 := l.map fun x => (x.f0, x.f1)
abbrev tW (l : List S28) : List R2 := l.map fun x => (x.f0, x.f1)
abbrev fW (l : List R2) : List S28 := l.map fun x => (⟨x.1, x.2⟩ : S28)
theorem plan_f (l : List S45) (h : List S28) (f : List Int) (h1 : l.length ≤ 9000) (h2 : h.length ≤ 10000) (h3 : f.length ≤ 10000) (h4 : ∀ x ∈ h, x.f1.size ≤ 1000000) :
    shelf_Plan.f l h f = some (fW (planE (tR l) (tW h) f).1, (planE (tR l) (tW h) f).2.1, (planE (tR l) (tW h) f).2.2) := by
  unfold shelf_Plan.f
  rw [if_pos ⟨h1, h2, h3, List.all_eq_true.2 fun x hx => decide_eq_true (h4 x hx)⟩]
theorem need_l0 (l : List S45) (hl : l.length ≤ 9000) (d : Nat) : ∀ (k i : Nat), 198 - i = d → i ≤ 198 → d < k → shelf_Need.l0 k l (pgs i) ((i : Int) + 2) = some ((planE (tR l) [] (pgs 198)).1.length : Int) := by
  induction d with
  | zero =>
    intro k i hd hi hk
    obtain ⟨k, rfl⟩ : ∃ m, k = m + 1 := ⟨k - 1, by omega⟩
    obtain rfl : i = 198 := by omega
    unfold shelf_Need.l0
    rw [if_neg (by omega), plan_f l [] (pgs 198) hl (by simp) (by rw [pgs_length]; omega) (by intro x hx; cases hx), Option.bind_some]
    simp only [fW, List.length_map]
    rfl
  | succ d ih =>
    intro k i hd hi hk
    obtain ⟨k, rfl⟩ : ∃ m, k = m + 1 := ⟨k - 1, by omega⟩
    unfold shelf_Need.l0
    rw [if_pos (by omega), if_pos (by rw [pgs_length]; omega), ← pgs_snoc, show wrap64 ((i : Int) + 2 + 1) = ((i + 1 : Nat) : Int) + 2 from by unfold wrap64; omega]
    exact ih k (i + 1) (by omega) (by omega) (by omega)
def needE (l : List R2) : Nat := (planE l [] (pgs 198)).1.length
theorem need_f (l : List S45) (hl : l.length ≤ 9000) (k : Nat) (hk : 199 ≤ k) : shelf_Need.f k l = some (needE (tR l) : Int) := by
  unfold shelf_Need.f
  exact need_l0 l hl 198 k 0 (by omega) (by omega) (by omega)
theorem alive1 : (planE [(1, ⟨#[97, 98, 99]⟩)] [] [4, 5, 6]).2 = (5, 0) := by decide +kernel
theorem alive2 : (planE [(1, ⟨#[97, 98, 99]⟩)] [] [4, 5, 6]).1.map (·.1) = [4, 5] := by decide +kernel
theorem alive3 : needE [(1, ⟨#[97, 98, 99]⟩)] = 2 := by decide +kernel
theorem two_of {α : Type} : ∀ (o : List α), o.length = 2 → ∃ a b, o = [a, b]
  | [a, b], _ => ⟨a, b, rfl⟩
  | [], h => by simp at h
  | [_], h => by simp at h
  | _ :: _ :: _ :: _, h => by simp at h
set_option maxRecDepth 100000 in
theorem alive_f (k : Nat) (hk : 200 ≤ k) : maquettelaw16_alive.f k = some true := by
  obtain ⟨k, rfl⟩ : ∃ m, k = m + 1 := ⟨k - 1, by omega⟩
  unfold maquettelaw16_alive.f
  rw [plan_f _ _ _ (by decide) (by decide) (by decide) (by intro x hx; cases hx), Option.bind_some]
  have h2 := alive2
  have h1 := alive1
  have h3 := need_f [(⟨1, ⟨#[97, 98, 99]⟩⟩ : S45)] (by decide) (k + 1) (by omega)
  rw [show tR [(⟨1, ⟨#[97, 98, 99]⟩⟩ : S45)] = [(1, ⟨#[97, 98, 99]⟩)] from rfl] at h3 ⊢
  rw [alive3] at h3
  rw [show tW ([] : List S28) = [] from rfl, h1]
  obtain ⟨o, ho⟩ : ∃ o, o = (planE [(1, ⟨#[97, 98, 99]⟩)] [] [4, 5, 6]).1 := ⟨_, rfl⟩
  rw [← ho] at h2 ⊢
  clear ho h1
  have hlen : o.length = 2 := by have := congrArg List.length h2; simpa using this
  obtain ⟨a, b, rfl⟩ : ∃ a b, o = [a, b] := two_of _ hlen
  · clear hlen
    simp only [List.map_cons, List.map_nil, List.cons.injEq, and_true] at h2
    obtain ⟨e1, e2⟩ := h2
    show (if (0 : Int) = 0 then (if ((fW [a, b]).length : Int) = 2 then (if (5 : Int) = 5 then (if 0 < ((fW [a, b]).length : Int) then (if a.1 = 4 then (if 1 < ((fW [a, b]).length : Int) then (if b.1 = 5 then ((shelf_Need.f (k + 1) [(⟨1, ⟨#[97, 98, 99]⟩⟩ : S45)]).bind fun t163 => (maquettelaw16_alive.j0 (k + 1) (t163 == 2))) else (maquettelaw16_alive.j0 (k + 1) false)) else (none)) else (maquettelaw16_alive.j0 (k + 1) false)) else (none)) else (maquettelaw16_alive.j0 (k + 1) false)) else (maquettelaw16_alive.j0 (k + 1) false)) else (maquettelaw16_alive.j0 (k + 1) false)) = some true
    rw [if_pos (show (0 : Int) = 0 from rfl), if_pos (show ((fW [a, b]).length : Int) = 2 from rfl), if_pos (show (5 : Int) = 5 from rfl), if_pos (show 0 < ((fW [a, b]).length : Int) from by show (0 : Int) < 2; decide), if_pos e1, if_pos (show 1 < ((fW [a, b]).length : Int) from by show (1 : Int) < 2; decide), if_pos e2, h3]
    rfl
theorem few_l0 (l : List S45) (hl : l.length ≤ 9223372036854775807) (d : Nat) : ∀ (k i : Nat) (acc : Int), l.length - i = d → i ≤ l.length → d < k → ∃ b, maquettelaw16_Few.l0 k l acc (l.length : Int) (i : Int) = some b ∧ (b = true → l.length ≤ 120) := by
  induction d with
  | zero =>
    intro k i acc hd hi hk
    obtain ⟨k, rfl⟩ : ∃ m, k = m + 1 := ⟨k - 1, by omega⟩
    unfold maquettelaw16_Few.l0
    rw [if_neg (by omega)]
    by_cases h : (l.length : Int) ≤ 120
    · rw [if_pos h]; exact ⟨_, rfl, fun _ => by omega⟩
    · rw [if_neg h]; exact ⟨_, rfl, fun h => by cases h⟩
  | succ d ih =>
    intro k i acc hd hi hk
    obtain ⟨k, rfl⟩ : ∃ m, k = m + 1 := ⟨k - 1, by omega⟩
    unfold maquettelaw16_Few.l0
    rw [if_pos (by omega), if_pos (by omega), if_pos (by omega), show wrap64 ((i : Int) + 1) = ((i + 1 : Nat) : Int) from by unfold wrap64; omega]
    exact ih k (i + 1) _ (by omega) (by omega) (by omega)
theorem few_f (l : List S45) (hl : l.length ≤ 9223372036854775807) (k : Nat) (hk : l.length < k) : ∃ b, maquettelaw16_Few.f k l = some b ∧ (b = true → l.length ≤ 120) := by
  unfold maquettelaw16_Few.f
  exact few_l0 l hl l.length k 0 0 (by omega) (by omega) (by omega)
end Go.Proofs.Ytpeeojbhfebcdaa.V
end
section
namespace Go.Proofs.Ytpeeojbhfebcdaa.V
open Go.RowKit Go.Proofs.YtpeeojbhfebcdaaW.PrintWords Go.Proofs.YtpeeojbhfebcdaaW.PrintLast Go.Proofs.YtpeeojbhfebcdaaW.PrintMore Go.Proofs.YtpeeojbhfebcdaaM
set_option linter.unusedVariables false
set_option linter.unusedSimpArgs false
def Ext (f g : ByteArray → Option Int) : Prop := ∀ b n, f b = some n → g b = some n
theorem Ext.refl (f : ByteArray → Option Int) : Ext f f := fun _ _ h => h
theorem Ext.trans {f g h : ByteArray → Option Int} (a : Ext f g) (b : Ext g h) : Ext f h := fun x n k => b x n (a x n k)
theorem Ext.upd {f : ByteArray → Option Int} {b : ByteArray} {n : Int} (h : f b = none) : Ext f (upd f b n) := fun x m hx => by
  by_cases e : x = b
  · rw [e, h] at hx; cases hx
  · rw [upd_ne _ _ e]; exact hx
theorem putS_ext (S : PS) (b : ByteArray) (is : Bool) : Ext S.known (putS S b is).known := by
  unfold putS
  by_cases h : S.e = 0
  · rw [if_pos h]
    cases is with
    | false => exact Ext.refl _
    | true =>
      rw [if_pos rfl]
      cases hk : S.known b with
      | some n => exact Ext.refl _
      | none =>
        cases hf : S.free with
        | nil => exact Ext.refl _
        | cons n fr => exact Ext.upd hk
  · rw [if_neg h]; exact Ext.refl _
theorem chainF_ext (l : List ByteArray) (S : PS) : Ext S.known (chainF l S).2.known := by
  induction l with
  | nil => exact Ext.refl _
  | cons x l ih => rw [chainF_cons]; exact ih.trans (putS_ext _ _ _)
theorem chainsF_ext : ∀ (l : List R2) (S : PS), Ext S.known (chainsF l S).2.known
  | [], S => Ext.refl _
  | r :: t, S => by
    rw [chainsF_cons]
    split
    · exact (chainF_ext _ _).trans (chainsF_ext t _)
    · exact chainsF_ext t _
theorem slotsF_ext : ∀ (l : List (List C4)) (S : PS), Ext S.known (slotsF l S).2.known
  | [], S => Ext.refl _
  | x :: t, S => by
    rw [slotsF_cons]
    split
    · exact (putS_ext _ _ _).trans (slotsF_ext t _)
    · exact slotsF_ext t _
def KnOut (hv : List R2) (S : PS) : Prop := S.known = knF (hv ++ S.out)
theorem putS_kn {hv : List R2} {S : PS} (h : KnOut hv S) (b : ByteArray) (is : Bool) : KnOut hv (putS S b is) := by
  unfold putS
  by_cases h0 : S.e = 0
  · rw [if_pos h0]
    cases is with
    | false => exact h
    | true =>
      rw [if_pos rfl]
      cases hk : S.known b with
      | some n => exact h
      | none =>
        cases hf : S.free with
        | nil => exact h
        | cons n fr =>
          show upd S.known b n = knF (hv ++ (S.out ++ [(n, b)]))
          unfold KnOut at h
          rw [← List.append_assoc]
          unfold knF at h ⊢
          rw [List.foldl_append, ← h]
          show _ = knS S.known (n, b)
          unfold knS
          simp only [hk]
  · rw [if_neg h0]; exact h
theorem chainF_kn {hv : List R2} (l : List ByteArray) {S : PS} (h : KnOut hv S) : KnOut hv (chainF l S).2 := by
  induction l with
  | nil => exact h
  | cons x l ih => rw [chainF_cons]; exact putS_kn ih _ _
theorem chainsF_kn {hv : List R2} : ∀ (l : List R2) {S : PS}, KnOut hv S → KnOut hv (chainsF l S).2
  | [], S, h => h
  | r :: t, S, h => by
    rw [chainsF_cons]
    split
    · exact chainsF_kn t (chainF_kn _ h)
    · exact chainsF_kn t h
theorem slotsF_kn {hv : List R2} : ∀ (l : List (List C4)) {S : PS}, KnOut hv S → KnOut hv (slotsF l S).2
  | [], S, h => h
  | x :: t, S, h => by
    rw [slotsF_cons]
    split
    · exact slotsF_kn t (putS_kn h _ _)
    · exact slotsF_kn t h
def OutOk (S : PS) : Prop := PgOk S ∧ ∀ x ∈ S.out, okP x.1 = true ∧ x.2.size ≤ 128
theorem putS_ok {S : PS} (h : OutOk S) {b : ByteArray} (hb : b.size ≤ 128) (is : Bool) : OutOk (putS S b is) := by
  refine ⟨putS_pg h.1 b is, ?_⟩
  unfold putS
  by_cases h0 : S.e = 0
  · rw [if_pos h0]
    cases is with
    | false => exact h.2
    | true =>
      rw [if_pos rfl]
      cases hk : S.known b with
      | some n => exact h.2
      | none =>
        cases hf : S.free with
        | nil => exact h.2
        | cons n fr =>
          intro x hx
          rcases List.mem_append.1 hx with hx | hx
          · exact h.2 x hx
          · rw [List.mem_singleton] at hx
            subst hx
            exact ⟨h.1.2 n (by rw [hf]; exact List.mem_cons_self), hb⟩
  · rw [if_neg h0]; exact h.2
theorem chainF_ok2 (l : List ByteArray) {S : PS} (h : OutOk S) : OutOk (chainF l S).2 := by
  induction l with
  | nil => exact h
  | cons x l ih => rw [chainF_cons]; exact putS_ok ih (chA_size _ _) _
theorem chainsF_ok2 : ∀ (l : List R2) {S : PS}, OutOk S → OutOk (chainsF l S).2
  | [], S, h => h
  | r :: t, S, h => by
    rw [chainsF_cons]
    split
    · exact chainsF_ok2 t (chainF_ok2 _ h)
    · exact chainsF_ok2 t h
theorem slotsF_ok2 : ∀ (l : List (List C4)) {S : PS}, OutOk S → OutOk (slotsF l S).2
  | [], S, h => h
  | x :: t, S, h => by
    rw [slotsF_cons]
    split
    · exact slotsF_ok2 t (putS_ok h (leafE_size _) _)
    · exact slotsF_ok2 t h
theorem planZ_ok {l hv : List R2} {fr : List Int} (h1 : ∀ x ∈ hv, okP x.1 = true) (h2 : ∀ x ∈ fr, okP x = true) : OutOk (planZ l hv fr).2 :=
  putS_ok (slotsF_ok2 _ (chainsF_ok2 _ ⟨⟨knF_pg h1, h2⟩, fun x hx => by cases hx⟩)) (indexE_size _) _
theorem planZ_kn (l hv : List R2) (fr : List Int) : KnOut hv (planZ l hv fr).2 :=
  putS_kn (slotsF_kn _ (chainsF_kn (S := ⟨knF hv, fr, [], 0⟩) _ (show knF hv = knF (hv ++ []) by rw [List.append_nil]))) _ _
theorem planE_ok {l hv : List R2} {fr : List Int} (h : (planE l hv fr).2.2 = 0) : rightF (-1) l = true ∧ mayE (hv.map (·.1)) fr = true ∧ ¬ 21 < (lvs [] (l.map (cellE · 2))).length ∧ (planZ l hv fr).2.e = 0 ∧ planE l hv fr = ((planZ l hv fr).2.out, (planZ l hv fr).1, 0) := by
  unfold planE at h ⊢
  by_cases h1 : (rightF (-1) l && mayE (hv.map (·.1)) fr) = true
  · rw [if_pos h1] at h ⊢
    rw [Bool.and_eq_true] at h1
    by_cases h2 : 21 < (lvs [] (l.map (cellE · 2))).length
    · rw [if_pos h2] at h; exact absurd h (by decide)
    · rw [if_neg h2] at h ⊢
      by_cases h3 : (planZ l hv fr).2.e = 0
      · rw [if_pos h3]; exact ⟨h1.1, h1.2, h2, h3, rfl⟩
      · rw [if_neg h3] at h; exact absurd h h3
  · rw [if_neg h1] at h; exact absurd h (by decide)
theorem planE_no {l hv : List R2} {fr : List Int} (h : (planE l hv fr).2.2 ≠ 0) : (planE l hv fr).1 = [] ∧ (planE l hv fr).2.1 = 0 := by
  unfold planE at h ⊢
  split
  · rename_i h1
    rw [if_pos h1] at h
    split
    · exact ⟨rfl, rfl⟩
    · rename_i h2
      rw [if_neg h2] at h
      split
      · rename_i h3; rw [if_pos h3] at h; exact absurd rfl h
      · exact ⟨rfl, rfl⟩
  · exact ⟨rfl, rfl⟩
end Go.Proofs.Ytpeeojbhfebcdaa.V
end
section
namespace Go.Proofs.Ytpeeojbhfebcdaa.V
open Go.RowKit Go.Proofs.YtpeeojbhfebcdaaW.PrintWords Go.Proofs.YtpeeojbhfebcdaaW.PrintLast Go.Proofs.YtpeeojbhfebcdaaW.PrintMore Go.Proofs.YtpeeojbhfebcdaaM
open Go.Proofs.Ytpeeojbhfebcdaa.PAll
set_option linter.unusedVariables false
set_option linter.unusedSimpArgs false
def cnt (S : PS) : Nat := S.out.length + S.free.length
theorem putS_cnt (S : PS) (b : ByteArray) (is : Bool) : cnt (putS S b is) = cnt S := by
  unfold putS
  by_cases h0 : S.e = 0
  · rw [if_pos h0]
    cases is with
    | false => rfl
    | true =>
      rw [if_pos rfl]
      cases hk : S.known b with
      | some n => rfl
      | none =>
        cases hf : S.free with
        | nil => unfold cnt; rw [hf]
        | cons n fr => unfold cnt; rw [hf]; simp; omega
  · rw [if_neg h0]
theorem chainF_cnt (l : List ByteArray) (S : PS) : cnt (chainF l S).2 = cnt S := by
  induction l with
  | nil => rfl
  | cons x l ih => rw [chainF_cons]; exact (putS_cnt _ _ _).trans ih
theorem chainsF_cnt : ∀ (l : List R2) (S : PS), cnt (chainsF l S).2 = cnt S
  | [], S => rfl
  | r :: t, S => by
    rw [chainsF_cons]
    split
    · exact (chainsF_cnt t _).trans (chainF_cnt _ _)
    · exact chainsF_cnt t _
theorem slotsF_cnt : ∀ (l : List (List C4)) (S : PS), cnt (slotsF l S).2 = cnt S
  | [], S => rfl
  | x :: t, S => by
    rw [slotsF_cons]
    split
    · exact (slotsF_cnt t _).trans (putS_cnt _ _ _)
    · exact slotsF_cnt t _
theorem planZ_cnt (l hv : List R2) (fr : List Int) : cnt (planZ l hv fr).2 = fr.length := by
  refine (putS_cnt _ _ _).trans ((slotsF_cnt _ _).trans ((chainsF_cnt _ _).trans ?_))
  show ([] : List R2).length + fr.length = _
  simp
theorem planE_len (l hv : List R2) (fr : List Int) : (planE l hv fr).1.length ≤ fr.length := by
  by_cases h : (planE l hv fr).2.2 = 0
  · obtain ⟨_, _, _, _, h5⟩ := planE_ok h
    have := planZ_cnt l hv fr
    rw [h5]
    unfold cnt at this
    show (planZ l hv fr).2.out.length ≤ _
    omega
  · rw [(planE_no h).1]; exact Nat.zero_le _
end Go.Proofs.Ytpeeojbhfebcdaa.V
end
section
namespace Go.Proofs.Ytpeeojbhfebcdaa.V
open Go.RowKit Go.Proofs.YtpeeojbhfebcdaaW.PrintWords Go.Proofs.YtpeeojbhfebcdaaW.PrintLast Go.Proofs.YtpeeojbhfebcdaaW.PrintMore Go.Proofs.YtpeeojbhfebcdaaM
set_option linter.unusedVariables false
set_option linter.unusedSimpArgs false
theorem fullA_pad {l : List Int} (h : (fullA (strOfNums l)).2 = true) : (fullA (strOfNums l)).1 = strOfNums (pad l) := by
  rw [fullA_k] at h ⊢
  split
  · rfl
  · rename_i h2; rw [if_neg h2] at h; cases h
theorem putS_is {S : PS} {b : ByteArray} {is : Bool} (h : (putS S b is).e = 0) : is = true := by
  cases is with
  | true => rfl
  | false =>
    have h0 := putS_e h
    unfold putS at h
    rw [if_pos h0] at h
    exact absurd h (by show ¬ ((9 : Int) = 0); decide)
theorem putS_mem {S : PS} {b x : ByteArray} {is : Bool} (h : (putS S b is).known x ≠ none) : S.known x ≠ none ∨ (x = b ∧ is = true) := by
  unfold putS at h
  by_cases h0 : S.e = 0
  · rw [if_pos h0] at h
    cases is with
    | false => exact .inl h
    | true =>
      rw [if_pos rfl] at h
      cases hk : S.known b with
      | some n => rw [hk] at h; exact .inl h
      | none =>
        rw [hk] at h
        cases hf : S.free with
        | nil => rw [hf] at h; exact .inl h
        | cons n fr =>
          rw [hf] at h
          change upd S.known b n x ≠ none at h
          by_cases e : x = b
          · exact .inr ⟨e, rfl⟩
          · rw [upd_ne _ _ e] at h; exact .inl h
  · rw [if_neg h0] at h; exact .inl h
def asc : Int → List (List C4) → Prop
  | _, [] => True
  | lo, x :: t => ∃ c r, x = c :: r ∧ lo < c.1 ∧ c.1 ≤ 2147483647 ∧ asc c.1 t
end Go.Proofs.Ytpeeojbhfebcdaa.V
end
section
namespace Go.Proofs.Ytpeeojbhfebcdaa.V
open Go.RowKit Go.Proofs.YtpeeojbhfebcdaaW.PrintWords Go.Proofs.YtpeeojbhfebcdaaW.PrintLast Go.Proofs.YtpeeojbhfebcdaaW.PrintMore Go.Proofs.YtpeeojbhfebcdaaM
open Go.Proofs.Ytpeeojbhfebcdaa.PAll
set_option linter.unusedVariables false
set_option linter.unusedSimpArgs false
theorem put_some {S : PS} {b : ByteArray} {n : Int} (he : S.e = 0) (hk : S.known b = some n) : putS S b true = S ∧ putN S b true = n := by
  unfold putS putN
  rw [if_pos he, if_pos rfl, hk, if_pos he, if_pos rfl]
  exact ⟨rfl, rfl⟩
theorem put_cons {S : PS} {b : ByteArray} {n : Int} {fr : List Int} (he : S.e = 0) (hk : S.known b = none) (hf : S.free = n :: fr) : putS S b true = { S with known := upd S.known b n, free := fr, out := S.out ++ [(n, b)] } ∧ putN S b true = n := by
  unfold putS putN
  rw [if_pos he, if_pos rfl, hk, hf, if_pos he, if_pos rfl]
  exact ⟨rfl, rfl⟩
theorem put_nil {S : PS} {b : ByteArray} (he : S.e = 0) (hk : S.known b = none) (hf : S.free = []) : putS S b true = { S with e := 8 } := by
  unfold putS
  rw [if_pos he, if_pos rfl, hk, hf]
theorem putS_stuck {T : PS} (h : T.e ≠ 0) (b : ByteArray) (is : Bool) : putS T b is = T := by unfold putS; rw [if_neg h]
end Go.Proofs.Ytpeeojbhfebcdaa.V
end
section
namespace Go.Proofs.Ytpeeojbhfebcdaa.V
open Go.RowKit Go.Proofs.YtpeeojbhfebcdaaW.PrintWords Go.Proofs.YtpeeojbhfebcdaaW.PrintLast Go.Proofs.YtpeeojbhfebcdaaW.PrintMore Go.Proofs.YtpeeojbhfebcdaaM
set_option linter.unusedVariables false
set_option linter.unusedSimpArgs false
theorem fullA_two (s : ByteArray) : (fullA s).2 = decide (s.size ≤ 128) := by
  unfold fullA
  split
  · rw [decide_eq_true (by assumption)]
  · rw [decide_eq_false (by assumption)]
def kinS : Int → List S2 → Prop
  | _, [] => True
  | lo, x :: t => lo < x.1 ∧ x.1 ≤ 2147483647 ∧ okP x.2 = true ∧ kinS x.1 t
def Gd (f k : Nat) (S : PS) : Prop := PgOk S ∧ ((S.e = 0 ∧ f ≤ S.free.length + k) ∨ (S.e = 8 ∧ f ≤ k))
theorem Gd.e {f k : Nat} {S : PS} (h : Gd f k S) : S.e = 0 ∨ S.e = 8 := h.2.imp (·.1) (·.1)
theorem Gd.put {f k : Nat} {S : PS} (h : Gd f k S) (b : ByteArray) (is : Bool) (hi : S.e = 0 → is = true) : Gd f (k + 1) (putS S b is) := by
  refine ⟨putS_pg h.1 b is, ?_⟩
  rcases h.2 with ⟨h1, h2⟩ | ⟨h1, h2⟩
  · obtain rfl := hi h1
    cases hk : S.known b with
    | some n => rw [(put_some h1 hk).1]; exact .inl ⟨h1, by omega⟩
    | none =>
      cases hf : S.free with
      | nil =>
        rw [put_nil h1 hk hf]
        rw [hf] at h2
        exact .inr ⟨rfl, by simp at h2; omega⟩
      | cons n fr =>
        rw [(put_cons h1 hk hf).1]
        rw [hf] at h2
        exact .inl ⟨h1, by simp at h2 ⊢; omega⟩
  · rw [putS_stuck (by rw [h1]; decide)]
    exact .inr ⟨h1, by omega⟩
theorem chA_ok {nx : Int} {x : ByteArray} (h1 : nx = 0 ∨ okP nx = true) (h2 : 1 ≤ x.size) (h3 : x.size ≤ 120) : (chA nx x).2 = true := by
  have : chOk nx x = true := by
    unfold chOk
    rcases h1 with rfl | h1
    · simp; omega
    · rw [h1]; simp; omega
  unfold chA
  rw [if_pos this]
theorem Gd.chain : ∀ (l : List ByteArray) {f k : Nat} {S : PS}, Gd f k S → (∀ x ∈ l, 1 ≤ x.size ∧ x.size ≤ 120) → Gd f (k + l.length) (chainF l S).2 ∧ ((chainF l S).2.e = 0 → (chainF l S).1 = 0 ∨ okP (chainF l S).1 = true)
  | [], f, k, S, h, _ => ⟨h, fun _ => .inl rfl⟩
  | x :: t, f, k, S, h, hx => by
    obtain ⟨h1, h2⟩ := Gd.chain t h (fun y hy => hx y (List.mem_cons_of_mem _ hy))
    obtain ⟨x1, x2⟩ := hx x List.mem_cons_self
    rw [chainF_cons]
    have hi : (chainF t S).2.e = 0 → (chA (chainF t S).1 x).2 = true := fun he => chA_ok (h2 he) x1 x2
    exact ⟨h1.put _ _ hi, fun he => .inr (putN_pg h1.1 _ _ he)⟩
theorem pieces_few {b : ByteArray} (h : b.size ≤ 900) : (pieces b).length ≤ 8 := by
  have := piecesF_len b.size b
  unfold pieces
  omega
theorem Gd.mono {f k j : Nat} {S : PS} (h : Gd f k S) (hk : k ≤ j) : Gd f j S := ⟨h.1, h.2.imp (fun h => ⟨h.1, by omega⟩) (fun h => ⟨h.1, by omega⟩)⟩
theorem Gd.chains : ∀ (l : List R2) {f k : Nat} {S : PS}, Gd f k S → (∀ r ∈ l, r.2.size ≤ 900) → Gd f (k + 8 * l.length) (chainsF l S).2
  | [], f, k, S, h, _ => h
  | r :: t, f, k, S, h, hr => by
    rw [chainsF_cons, List.length_cons]
    have h1 := hr r List.mem_cons_self
    have ht := fun y hy => hr y (List.mem_cons_of_mem _ hy)
    split
    · have h2 := (Gd.chain (pieces r.2) h (fun x hx => piecesF_size _ _ x hx)).1
      have h3 := Gd.chains t (h2.mono (show _ ≤ k + 8 by have := pieces_few h1; omega)) ht
      exact h3.mono (by omega)
    · exact (Gd.chains t h ht).mono (by omega)
theorem Gd.slots : ∀ (L : List (List C4)) {f k : Nat} {S : PS} {lo : Int}, Gd f k S → (∀ y ∈ L, (leafE y).2 = true) → asc lo L → Gd f (k + L.length) (slotsF L S).2 ∧ ((slotsF L S).2.e = 0 → kinS lo (slotsF L S).1 ∧ (slotsF L S).1.length = L.length)
  | [], f, k, S, lo, h, _, _ => ⟨h, fun _ => ⟨trivial, rfl⟩⟩
  | x :: t, f, k, S, lo, h, hy, ha => by
    obtain ⟨c, r, rfl, hc1, hc2, ha⟩ := ha
    have ht := fun y h => hy y (List.mem_cons_of_mem _ h)
    have hx := hy _ List.mem_cons_self
    rw [slotsF_cons, List.length_cons]
    split
    · rename_i he
      obtain ⟨h1, h2⟩ := Gd.slots t (h.put (leafE (c :: r)).1 (leafE (c :: r)).2 (fun _ => hx)) ht ha
      refine ⟨h1.mono (by omega), fun hz => ?_⟩
      obtain ⟨h3, h4⟩ := h2 hz
      refine ⟨⟨hc1, hc2, putN_pg h.1 _ _ (slotsF_e hz), h3⟩, ?_⟩
      show (slotsF t _).1.length + 1 = _
      rw [h4]
    · rename_i he
      obtain ⟨h1, h2⟩ := Gd.slots t h ht ha
      exact ⟨h1.mono (by omega), fun hz => absurd (slotsF_e hz) he⟩
end Go.Proofs.Ytpeeojbhfebcdaa.V
end
section
namespace Go.Proofs.Ytpeeojbhfebcdaa.V
open Go.RowKit Go.Proofs.YtpeeojbhfebcdaaW.PrintWords Go.Proofs.YtpeeojbhfebcdaaW.PrintLast Go.Proofs.YtpeeojbhfebcdaaW.PrintMore Go.Proofs.YtpeeojbhfebcdaaM
set_option linter.unusedVariables false
set_option linter.unusedSimpArgs false
def Con (ld : Ld) (S : FS) : Prop := ∀ n b, S.pages n = some b → ld n = (b, 0)
def Seen (S S' : FS) (P : Int → ByteArray → Prop) : Prop := ∀ n b, S'.pages n = some b ↔ S.pages n = some b ∨ P n b
def Went (ld : Ld) (S S' : FS) (P : Int → ByteArray → Prop) : Prop := S'.e = 0 ∧ S'.out = S.out ∧ Con ld S' ∧ Seen S S' P
theorem Seen.trans {A B C : FS} {P Q : Int → ByteArray → Prop} (h : Seen A B P) (h2 : Seen B C Q) : Seen A C (fun n b => P n b ∨ Q n b) := fun n b => by rw [h2 n b, h n b, or_assoc]
theorem Seen.refl (S : FS) : Seen S S (fun _ _ => False) := fun n b => by simp
theorem Went.trans {ld : Ld} {A B C : FS} {P Q : Int → ByteArray → Prop} (h : Went ld A B P) (h2 : Went ld B C Q) : Went ld A C (fun n b => P n b ∨ Q n b) := ⟨h2.1, h2.2.1.trans h.2.1, h2.2.2.1, h.2.2.2.trans h2.2.2.2⟩
theorem Went.congr {ld : Ld} {A B : FS} {P Q : Int → ByteArray → Prop} (h : Went ld A B P) (hp : ∀ n b, P n b ↔ Q n b) : Went ld A B Q := ⟨h.1, h.2.1, h.2.2.1, fun n b => by rw [h.2.2.2 n b, hp]⟩
theorem fPage_good {ld : Ld} {S : FS} {n : Int} {b : ByteArray} (hl : ld n = (b, 0)) (he : S.e = 0) (hc : Con ld S) : (fPage ld S n).1 = b ∧ Went ld S (fPage ld S n).2 (fun m c => m = n ∧ c = b) := by
  unfold fPage
  cases hp : S.pages n with
  | some c =>
    have := hc n c hp
    rw [hl] at this
    injection this with this
    subst this
    refine ⟨rfl, he, rfl, hc, fun m x => ⟨.inl, fun h => h.elim id ?_⟩⟩
    rintro ⟨rfl, rfl⟩
    exact hp
  | none =>
    show (if S.e = 0 then _ else _ : ByteArray × FS).1 = b ∧ Went ld S (if S.e = 0 then _ else _ : ByteArray × FS).2 _
    rw [if_pos he, if_pos (by rw [hl]), hl]
    refine ⟨rfl, he, rfl, fun m x hx => ?_, fun m x => ?_⟩
    · change upd S.pages n b m = some x at hx
      by_cases e : m = n
      · rw [e, upd_same] at hx
        injection hx with hx
        rw [e, ← hx]; exact hl
      · rw [upd_ne _ _ e] at hx
        exact hc m x hx
    · show upd S.pages n b m = some x ↔ _
      by_cases e : m = n
      · rw [e, upd_same, hp]
        constructor
        · intro h; injection h with h; exact .inr ⟨rfl, h.symm⟩
        · rintro (h | ⟨_, h⟩)
          · cases h
          · rw [h]
      · rw [upd_ne _ _ e]
        constructor
        · exact .inl
        · rintro (h | ⟨h, _⟩)
          · exact h
          · exact absurd h e
theorem put_known {S : PS} {b : ByteArray} {is : Bool} (h : (putS S b is).e = 0) : (putS S b is).known b = some (putN S b is) := by
  obtain rfl := putS_is h
  have h0 := putS_e h
  cases hk : S.known b with
  | some n => rw [(put_some h0 hk).1, (put_some h0 hk).2]; exact hk
  | none =>
    cases hf : S.free with
    | nil => rw [put_nil h0 hk hf] at h; exact absurd h (by show ¬ (8 : Int) = 0; decide)
    | cons n fr => rw [(put_cons h0 hk hf).1, (put_cons h0 hk hf).2]; exact upd_same _ _ _
def chainB : List ByteArray → PS → List ByteArray
  | [], _ => []
  | x :: t, S => (chA (chainF t S).1 x).1 :: chainB t S
def LdK (ld : Ld) (K : ByteArray → Option Int) : Prop := ∀ b n, K b = some n → ld n = (b, 0)
def okPcs : List ByteArray → Nat → Prop
  | [], s => s = 0
  | x :: t, s => 0 < s ∧ x.size = min s 120 ∧ okPcs t (s - min s 120)
theorem okPcs_pieces (n : Nat) : ∀ b : ByteArray, b.size ≤ n → okPcs (piecesF n b) b.size := by
  induction n with
  | zero => intro b h; show b.size = 0; omega
  | succ n ih =>
    intro b h
    unfold piecesF
    split
    · rename_i h0; exact h0
    · rename_i h0
      refine ⟨by omega, by rw [ByteArray.size_extract]; omega, ?_⟩
      have := ih (b.extract (min b.size 120) b.size) (by rw [ByteArray.size_extract]; omega)
      rw [ByteArray.size_extract] at this
      rw [show b.size - min b.size 120 = min b.size b.size - min b.size 120 by omega]
      exact this
def cat : List ByteArray → ByteArray
  | [] => ⟨#[]⟩
  | x :: t => x ++ cat t
theorem cat_pieces (n : Nat) : ∀ b : ByteArray, b.size ≤ n → cat (piecesF n b) = b := by
  induction n with
  | zero =>
    intro b h
    have : b.size = 0 := by omega
    exact (ByteArray.size_eq_zero_iff.1 this).symm
  | succ n ih =>
    intro b h
    unfold piecesF
    split
    · rename_i h0
      exact (ByteArray.size_eq_zero_iff.1 h0).symm
    · rename_i h0
      show b.extract 0 (min b.size 120) ++ cat (piecesF n (b.extract (min b.size 120) b.size)) = b
      rw [ih _ (by rw [ByteArray.size_extract]; omega), ByteArray.extract_append_extract]
      simp
theorem linkE_back {nx : Int} {x : ByteArray} (h : (chA nx x).2 = true) : linkE (chA nx x).1 = (nx, x, true) := by
  have hc : chOk nx x = true := by
    cases hc : chOk nx x with
    | true => rfl
    | false => unfold chA at h; rw [hc, if_neg (by decide)] at h; cases h
  have e : (chA nx x).1 = strOfNums (pad (chL nx x)) := by unfold chA; rw [if_pos hc]
  rw [e]
  unfold linkE
  rw [PRd.link_back hc 12 (Nat.le_refl _)]
  rfl
theorem ba_append_assoc (a b c : ByteArray) : a ++ b ++ c = a ++ (b ++ c) := ByteArray.append_assoc
theorem chain_read {ld : Ld} {K : ByteArray → Option Int} (hK : LdK ld K) : ∀ (l : List ByteArray) (T : PS) (s k : Nat) (S : FS) (o : ByteArray), PgOk T → (chainF l T).2.e = 0 → Ext (chainF l T).2.known K → okPcs l s → l.length < k → S.e = 0 → Con ld S →
    (fChain k ld S (chainF l T).1 (s : Int) o).1 = o ++ cat l ∧ Went ld S (fChain k ld S (chainF l T).1 (s : Int) o).2 (fun n b => b ∈ chainB l T ∧ K b = some n)
  | [], T, s, k, S, o, hT, he, hx, hs, hk, h0, hc => by
    obtain ⟨k, rfl⟩ : ∃ m, k = m + 1 := ⟨k - 1, by omega⟩
    obtain rfl : s = 0 := hs
    rw [show fChain (k + 1) ld S (chainF [] T).1 ((0 : Nat) : Int) o = (o, S) from if_neg (fun h => absurd h.2 (by decide))]
    refine ⟨by show o = o ++ ⟨#[]⟩; exact (ByteArray.append_empty).symm, h0, rfl, hc, fun n b => ?_⟩
    constructor
    · exact .inl
    · rintro (h | ⟨h, _⟩)
      · exact h
      · cases h
  | x :: t, T, s, k, S, o, hT, he, hx, ⟨hs0, hs1, hs2⟩, hk, h0, hc => by
    obtain ⟨k, rfl⟩ : ∃ m, k = m + 1 := ⟨k - 1, by simp at hk; omega⟩
    rw [chainF_cons] at he hx ⊢
    have hkn := put_known he
    have hi := putS_is he
    have he1 := putS_e he
    have hK1 := hx _ _ hkn
    have hl := hK _ _ hK1
    obtain ⟨g1, g2⟩ := fPage_good hl h0 hc
    have hlk := linkE_back hi
    show (fChain (k + 1) ld S (putN (chainF t T).2 (chA (chainF t T).1 x).1 (chA (chainF t T).1 x).2) (s : Int) o).1 = _ ∧ Went ld S (fChain (k + 1) ld S (putN (chainF t T).2 (chA (chainF t T).1 x).1 (chA (chainF t T).1 x).2) (s : Int) o).2 _
    generalize hp : putN (chainF t T).2 (chA (chainF t T).1 x).1 (chA (chainF t T).1 x).2 = p at *
    have hnx : (chainF t T).1 = 0 ↔ s - min s 120 = 0 := by
      cases t with
      | nil => exact ⟨fun _ => hs2, fun _ => rfl⟩
      | cons y u =>
        have h9 : okP (chainF (y :: u) T).1 = true := by
          rw [chainF_cons] at he1 ⊢
          exact putN_pg (chainF_pg u hT) _ _ he1
        have h8 := PRd.okP_range h9
        have h7 := hs2.1
        constructor
        · intro h; omega
        · intro h; omega
    have hbad : badL (s : Int) ((chainF t T).1, x, true) = false := by
      unfold badL
      have e1 : (x.size : Int) = min (s : Int) 120 := by omega
      have e2 : ((chainF t T).1 == 0) = ((s : Int) - min (s : Int) 120 == 0) := by
        rw [Bool.eq_iff_iff, beq_iff_eq, beq_iff_eq, hnx]; omega
      show (!true || (((x.size : Int) != min (s : Int) 120) || (((chainF t T).1 == 0) != ((s : Int) - min (s : Int) 120 == 0)))) = false
      rw [e1, e2]; simp
    have hstep : fStep ld S p (s : Int) = (fPage ld S p).2 := by
      unfold fStep
      rw [g1, hlk, hbad, if_neg (by decide)]
    rw [show fChain (k + 1) ld S p (s : Int) o = fChain k ld (fStep ld S p (s : Int)) (linkE (fPage ld S p).1).1 ((s : Int) - min (s : Int) 120) (o ++ (linkE (fPage ld S p).1).2.1) from if_pos ⟨h0, by omega⟩]
    rw [hstep, g1, hlk, show (s : Int) - min (s : Int) 120 = ((s - min s 120 : Nat) : Int) by omega]
    have hx1 : Ext (chainF t T).2.known K := (putS_ext _ _ _).trans hx
    obtain ⟨r1, r2⟩ := chain_read hK t T (s - min s 120) k (fPage ld S p).2 (o ++ x) hT he1 hx1 hs2 (by simp at hk; omega) g2.1 g2.2.2.1
    refine ⟨?_, ?_⟩
    · rw [r1, ba_append_assoc]; rfl
    · refine (g2.trans r2).congr (fun n b => ?_)
      show _ ↔ b ∈ (chA (chainF t T).1 x).1 :: chainB t T ∧ K b = some n
      rw [List.mem_cons]
      constructor
      · rintro (⟨rfl, rfl⟩ | ⟨h1, h2⟩)
        · exact ⟨.inl rfl, hK1⟩
        · exact ⟨.inr h1, h2⟩
      · rintro ⟨h1 | h1, h2⟩
        · subst h1
          rw [hK1] at h2
          injection h2 with h2
          exact .inl ⟨h2.symm, rfl⟩
        · exact .inr ⟨h1, h2⟩
end Go.Proofs.Ytpeeojbhfebcdaa.V
end
section
namespace Go.Proofs.Ytpeeojbhfebcdaa.V
open Go.RowKit Go.Proofs.YtpeeojbhfebcdaaW.PrintWords Go.Proofs.YtpeeojbhfebcdaaW.PrintLast Go.Proofs.YtpeeojbhfebcdaaW.PrintMore Go.Proofs.YtpeeojbhfebcdaaM
set_option linter.unusedVariables false
set_option linter.unusedSimpArgs false
theorem T61 : ∀ q, q ∈ 61 :: kC.E → q ≠ 45 ∧ q ≠ 104 := by intro q hq; simp [kC, Kd.pair, Kd.int, Kd.string, Kd.scalar] at hq; omega
def FindR (w0 w : World) (g m : Nat) (L : Value) (S : FS) (w' : World) : Prop := (∃ v, IsFind w0 w' g m L v S) ∧ Kf w w' g
set_option maxHeartbeats 8000000 in
set_option maxRecDepth 100000 in
theorem fleaf_any {w0 w : World} {g m : Nat} {L v : Value} {ld : Ld} {S : FS} (HL : LdOk w0 L ld) (hs : LdSmall ld) (h : IsFind w0 w g m L v S) (hf : FOk S) (ho : S.out.length ≤ 100000) (kk pp : Int) (hp : wfI pp) :
    Calls Try.prog 46 #[.pointer (some ⟨g, 0, none⟩), .agg #[.int .i64 kk, .int .i64 pp]] w fun e w' => e = .returned (.tuple #[]) ∧ FindR w0 w g m L (fLeaf ld S (kk, pp)) w' := by
  have HLD := Aside0.mk HL
  have HSM := Aside0.mk hs
  have HF := Aside0.mk (h.step (below_alloc (Below.refl w.heap.size w) (.cells #[.int .i64 kk, .int .i64 pp] 76)))
  have HK := Aside0.mk (Kf.below (below_alloc (Below.refl w.heap.size w) (.cells #[.int .i64 kk, .int .i64 pp] 76)) g)
  have hP := page_any HL HF.out pp hp
  have hO := fPage_ok hs hf pp
  have hout := fPage_out ld S pp
  have hfl : fLeaf ld S (kk, pp) = if ((cellsE (fPage ld S pp).1).2 && okHd (cellsE (fPage ld S pp).1).1 kk) = true then fCells ld (cellsE (fPage ld S pp).1).1 (fPage ld S pp).2 else fForm (fPage ld S pp).2 := rfl
  obtain ⟨b, hb⟩ : ∃ b, b = (fPage ld S pp).1 := ⟨_, rfl⟩
  obtain ⟨S1, hS1⟩ : ∃ S1, S1 = (fPage ld S pp).2 := ⟨_, rfl⟩
  rw [← hb] at hP hO hfl
  rw [← hS1] at hP hO hfl hout
  rw [hfl]
  have hC := fun W => cells_any b W
  have hok := cellsE_ok b
  obtain ⟨cl, hcl⟩ : ∃ cl, cl = (cellsE b).1 := ⟨_, rfl⟩
  obtain ⟨is, his⟩ : ∃ is, is = (cellsE b).2 := ⟨_, rfl⟩
  rw [← hcl, ← his] at hC hok ⊢
  have HP := Aside0.mk hP
  have HC := Aside0.mk hC
  have HOK := Aside0.mk hok
  have HO := Aside0.mk (And.intro hO.1 (show S1.out.length ≤ 100000 by rw [hout]; exact ho))
  have HLT := Aside0.mk (show g < w.heap.size from by have := h.1; exact blk_lt this)
  obtain ⟨R, hR⟩ : ∃ R, R = (if (is && okHd cl kk) = true then fCells ld cl S1 else fForm S1) := ⟨_, rfl⟩
  rw [← hR]
  have HR := Aside0.mk hR
  clear HL hs h hf ho hp hP hO hout hfl hb hS1 hC hok hcl his hR
  go_enter Try.func46, Try.ntmps46
  go_upto_region 2 with (first
    | (go_at_call 44; (with_reducible refine (HP.out).mono ?_); rintro e w1 ⟨rfl, hf1, hk1⟩; have HF1 := Aside0.mk hf1; have hk9 := hk1.kf HF.out.2.2.2.1; have HK1 := Aside0.mk (HK.out.trans hk9); have hbx := hk9.2 w.heap.size #[.int .i64 kk, .int .i64 pp] 76 (by decide) (by have := HLT.out; omega) (MapKept.heap_alloc w _).1; clear hk9; have HX1 := Aside0.mk hbx; clear hf1 hk1 hbx HF HK HP)
    | (go_at_call 73; (with_reducible refine (HC.out _).mono ?_); rintro e w2 ⟨v0, rfl, hR2, hb2⟩; have HF2 := Aside0.mk (HF1.out.step hb2); have HK2 := Aside0.mk (HK1.out.trans (Kf.below hb2 g)); have HX2 := Aside0.mk ((hb2.block _ (blk_lt HX1.out)).trans HX1.out); have HR2 := Aside0.mk (Kd.R_lower hR2 (Nat.le_trans HF1.out.2.2.2.2.2.size (Nat.le_refl _))); clear hb2 hR2 HF1 HK1 HX1))
  obtain ⟨A, c, hv0⟩ := Kd.R_slice HR2.out
  subst hv0
  obtain ⟨n, hn⟩ : ∃ n, n = cl.length := ⟨_, rfl⟩
  have HN := Aside0.mk hn
  have hC2 := (Kd.R_reads' HR2.out).2.2
  rw [← hn] at hC2
  have hlen := HOK.out.1
  rw [← hn] at hlen
  rw [← hn] at HR2 ⊢
  have HC2 := Aside0.mk hC2
  have z0 : w2.cell? ⟨w.heap.size, 0, none⟩ = some (.int .i64 kk) := (blk_cell HX2.out 0).trans rfl
  obtain ⟨bd, hbd⟩ : ∃ bd, bd = !(is && okHd cl kk) := ⟨_, rfl⟩
  have HBD := Aside0.mk hbd
  clear hn hC2 hbd HC HLT
  go_cut [33] (fun v33 wc => v33 = .bool bd ∧ Aside0 (Below w2.heap.size w2 wc))
  case first =>
    have hbd := HBD.out
    cases is
    case false =>
      subst hbd
      clear z0
      go_quiet (fail)
      all_goals
        go_wp2
        go_meet
        exact ⟨rfl, ⟨by repeat (first | (with_reducible first | exact Below.refl _ _ | apply below_alloc | apply pw_below_drewN | apply below_drew1) | exact Below.refl _ _)⟩⟩
    case true =>
      by_cases h0 : n = 0
      · have e0 : cl = [] := List.eq_nil_of_length_eq_zero (by rw [← HN.out]; exact h0)
        rw [e0] at hbd
        change bd = true at hbd
        subst hbd
        have q1 : ((n : Int) == 0) = true := by simpa using h0
        have q2 : (n == 0) = true := by simpa using h0
        clear z0 h0 e0
        go_quiet (fail)
        all_goals
          go_wp2
          go_meet
          exact ⟨rfl, ⟨by repeat (first | (with_reducible first | exact Below.refl _ _ | apply below_alloc | apply pw_below_drewN | apply below_drew1) | exact Below.refl _ _)⟩⟩
      · obtain ⟨x, r, e0⟩ : ∃ x r, cl = x :: r := by
          cases hc : cl with
          | nil => exact absurd (by rw [HN.out, hc]; rfl) h0
          | cons x r => exact ⟨x, r, rfl⟩
        obtain ⟨ad, ea, x0, _⟩ := at_C HC2.out 0 (by omega)
        have e2 : (atC cl 0).1 = x.1 := by rw [e0]; rfl
        rw [e2] at x0
        have e3 : ad.add (0 * 4) = ad := by simp [Addr.add]
        rw [e3] at x0
        rw [e0] at hbd
        change bd = !(decide (x.1 = kk)) at hbd
        have q1 : ((n : Int) == 0) = false := by simpa using h0
        have q2 : (n == 0) = false := by simpa using h0
        have q3 : ((0 : Int) < (n : Int)) = True := eq_true (by omega)
        have q4 : (0 < n) = True := eq_true (by omega)
        have x1 : w2.cell? (ad.add 0) = some (.int .i64 x.1) := by rw [show ad.add 0 = ad by simp [Addr.add]]; exact x0
        subst ea
        have hq : (x.1 != kk) = bd := by rw [hbd]; by_cases h : x.1 = kk <;> simp [h]
        obtain ⟨xk, hxk⟩ : ∃ xk, xk = x.1 := ⟨_, rfl⟩
        rw [← hxk] at x0 x1 hq
        clear h0 e0 e2 e3 hbd hxk
        go_quiet (fail)
        all_goals
          go_wp2
          go_meet
          exact ⟨rfl, ⟨by repeat (first | (with_reducible first | exact Below.refl _ _ | apply below_alloc | apply pw_below_drewN | apply below_drew1) | exact Below.refl _ _)⟩⟩
  case rest =>
    obtain ⟨rfl, HB3⟩ := hcut
    have HF3 := Aside0.mk (HF2.out.step HB3.out)
    have HK3 := Aside0.mk (HK2.out.trans (Kf.below HB3.out g))
    have HR3 := Aside0.mk (Kd.R_below HR2.out HB3.out)
    have hbd := HBD.out
    have hR := HR.out
    clear HF2 HK2 HR2 HBD HX2 z0 HC2 HB3
    cases bd
    case true =>
      have hR2 : R = fForm S1 := by
        rw [hR, if_neg]
        intro h; rw [h] at hbd; exact absurd hbd (by decide)
      subst hR2
      clear hbd hR HR
      go_wp2_with (first | (go_at_call 45; (with_reducible refine (form_any HF3.out).mono ?_); rintro e w3 ⟨rfl, hf3, hk3⟩; have HF4 := Aside0.mk hf3; have HK4 := Aside0.mk (HK3.out.trans (hk3.kf HF3.out.2.2.2.1)); clear hf3 hk3))
      exact bodyPost_ret (v := .tuple #[]) (by simp [results, Try.results46, go_sem]) rfl ⟨rfl, ⟨_, HF4.out⟩, HK4.out⟩
    case false =>
      have hR2 : fCells ld cl S1 = R := by
        rw [hR, if_pos]
        cases h : (is && okHd cl kk) with
        | true => rfl
        | false => rw [h] at hbd; exact absurd hbd (by decide)
      have HRR := Aside0.mk hR2
      clear hbd hR HR hR2
      go_wp2_with (fail)
      go_loopg [38] n (fun kq v38 w' => ∃ (i : Nat) (v' : Value) (S' : FS), v38 = .int .i64 i ∧ Aside0 (i + kq = n) ∧ Aside0 (FOk S') ∧ Aside0 (S'.out.length + n ≤ 100128 + i) ∧ Aside0 (fCells ld (cl.drop i) S' = R) ∧ Aside0 (kC.R 61 w' w0.heap.size (fun _ => True) (.slice A n c) cl) ∧ Aside0 (IsFind w0 w' g m L v' S') ∧ Aside0 (Kf w w' g))
      case atStart => exact ⟨0, _, _, rfl, ⟨by omega⟩, ⟨HO.out.1⟩, ⟨by have := HO.out.2; omega⟩, HRR, HR3, HF3, HK3⟩
      case round =>
        clear HRR HR3 HF3 HK3 HO
        obtain ⟨i, v', S', rfl, HI, HO, HL, HRR, HR3, HF3, HK3⟩ := hrel
        cases gk with
        | zero =>
          have hi : i = n := by have := HI.out; omega
          subst hi
          have d1 : decide ((i : Int) < (i : Int)) = false := decide_eq_false (by omega)
          have d2 : decide (i < i) = false := decide_eq_false (by omega)
          have hR := HRR.out
          rw [List.drop_of_length_le (by have := HN.out; omega)] at hR
          change S' = R at hR
          subst hR
          go_wp2_with (fail)
          refine Go.Great.bodyPost_end0 rfl rfl ?_
          exact ⟨rfl, ⟨_, HF3.out⟩, HK3.out⟩
        | succ gk =>
          have hi : i < n := by have := HI.out; omega
          have d1 : decide ((i : Int) < (n : Int)) = true := decide_eq_true (by omega)
          have d2 : decide (i < n) = true := decide_eq_true hi
          have d3 : (i < n) = True := eq_true hi
          have d4 : ((i : Int) < (n : Int)) = True := eq_true (by omega)
          have d5 : (0 ≤ (i : Int)) = True := eq_true (by omega)
          have hil : i < cl.length := by have := HN.out; omega
          have hdr : cl.drop i = atC cl i :: cl.drop (i + 1) := by
            rw [List.drop_eq_getElem_cons hil]
            congr 1
            unfold atC
            rw [List.getD_eq_getElem?_getD, List.getElem?_eq_getElem hil]; rfl
          obtain ⟨ad, ea, x0, x1, x2, x3⟩ := at_C (Kd.R_reads' HR3.out).2.2 i (by rw [← (Kd.R_reads' HR3.out).1]; exact hi)
          have hgood := HOK.out.2.1 (atC cl i) (by
            unfold atC
            rw [List.getD_eq_getElem?_getD, List.getElem?_eq_getElem hil]
            exact List.getElem_mem hil)
          have hR := HRR.out
          rw [hdr] at hR
          obtain ⟨⟨k, sz, pg, by_⟩, hx⟩ : ∃ x, x = atC cl i := ⟨_, rfl⟩
          rw [← hx] at x0 x1 x2 x3 hgood hR
          have HG := Aside0.mk hgood
          have HR1 := Aside0.mk hR
          subst ea
          clear hgood hR hx hdr hil HRR
          simp only [] at x0 x1 x2 x3
          go_upto_region 7 with (fail)
          obtain ⟨w4, hw4⟩ : ∃ w4, w4 = wr.alloc (.cells #[.int .i64 k, .int .i64 sz, .int .i64 pg, .string by_] 61) := ⟨_, rfl⟩
          have HBA := Aside0.mk (below_alloc (Below.refl wr.heap.size wr) (.cells #[.int .i64 k, .int .i64 sz, .int .i64 pg, .string by_] 61))
          rw [← hw4] at HBA ⊢
          have HX4 := Aside0.mk (show w4.heap[wr.heap.size]? = some (.cells #[.int .i64 k, .int .i64 sz, .int .i64 pg, .string by_] 61 (0, 0)) from by rw [hw4]; exact (MapKept.heap_alloc wr _).1)
          have HF4 := Aside0.mk (HF3.out.step HBA.out)
          have HK4 := Aside0.mk (HK3.out.trans (Kf.below HBA.out g))
          have HR4 := Aside0.mk (Kd.R_below HR3.out HBA.out)
          have HGQ := Aside0.mk (show g ≠ wr.heap.size from by have := blk_lt HF3.out.1; omega)
          obtain ⟨q, hq⟩ : ∃ q, q = wr.heap.size := ⟨_, rfl⟩
          rw [← hq] at HX4 HGQ ⊢
          have HQ := Aside0.mk hq
          clear hw4 x0 x1 x2 x3 HF3 HK3 HR3 hq HBA
          obtain ⟨B, d, hv⟩ := Kd.R_slice HF4.out.2.2.2.2.1
          subst hv
          obtain ⟨on, hon⟩ : ∃ on, on = S'.out.length := ⟨_, rfl⟩
          have HON := Aside0.mk hon
          rw [← hon] at HF4
          have hol : on ≤ 100128 := by have := HL.out; omega
          obtain ⟨c0, c1, c2, c3⟩ := cell104 HF4.out.1
          obtain ⟨y0, y1, y2, y3⟩ : w4.cell? ⟨q, 0, none⟩ = some (.int .i64 k) ∧ w4.cell? ⟨q, 1, none⟩ = some (.int .i64 sz) ∧ w4.cell? ⟨q, 2, none⟩ = some (.int .i64 pg) ∧ w4.cell? ⟨q, 3, none⟩ = some (.string by_) := ⟨(blk_cell HX4.out 0).trans rfl, (blk_cell HX4.out 1).trans rfl, (blk_cell HX4.out 2).trans rfl, (blk_cell HX4.out 3).trans rfl⟩
          obtain ⟨lv, hlv⟩ : ∃ lv : Int, lv = (on : Int) - 1 := ⟨_, rfl⟩
          have HLV := Aside0.mk hlv
          clear hon hlv
          go_cut [8] (fun v8 wc => v8 = .int .i64 lv ∧ wc = w4)
          case first =>
            go_wp2_with (fail)
            go_meet
            exact ⟨by first | (rw [HLV.out]; done) | (rw [HLV.out]; rfl) | simp [HLV.out], rfl⟩
          case rest =>
            obtain ⟨rfl, rfl⟩ := hcut
            obtain ⟨bl, hbl⟩ : ∃ bl, bl = lastGe S'.out k := ⟨_, rfl⟩
            have HBL := Aside0.mk hbl
            clear hbl
            go_upto_region 8 with (fail)
            go_cut [62] (fun v62 wx => v62 = .bool bl ∧ Aside0 (Below wc.heap.size wc wx))
            case first =>
              by_cases h0 : on = 0
              · have hl1 : lv = -1 := by rw [HLV.out, h0]; rfl
                have hb0 : bl = false := by
                  have hnil : S'.out = [] := List.eq_nil_of_length_eq_zero (by rw [← HON.out]; exact h0)
                  rw [HBL.out, hnil]; rfl
                subst hl1 hb0
                clear h0 c0 c1 c3
                go_quiet (fail)
                all_goals
                  go_wp2
                  go_meet
                  exact ⟨rfl, ⟨by repeat (first | (with_reducible first | exact Below.refl _ _ | apply below_alloc | apply pw_below_drewN | apply below_drew1) | exact Below.refl _ _)⟩⟩
              · obtain ⟨j, hj⟩ : ∃ j, on = j + 1 := ⟨on - 1, by omega⟩
                have hl1 : lv = (j : Int) := by rw [HLV.out]; omega
                have hC := (Kd.R_reads' HF4.out.2.2.2.2.1).2.2
                obtain ⟨bd, eb, u0, _⟩ := at_R hC j (by have := HON.out; omega)
                have hlast : S'.out.getLast? = some (atR S'.out j) := by
                  have : j = S'.out.length - 1 := by have := HON.out; omega
                  rw [List.getLast?_eq_getElem?, ← this]
                  unfold atR
                  rw [List.getD_eq_getElem?_getD, List.getElem?_eq_getElem (by have := HON.out; omega)]; rfl
                have hb1 : bl = decide (k ≤ (atR S'.out j).1) := by rw [HBL.out]; unfold lastGe; rw [hlast]
                obtain ⟨lk, hlk⟩ : ∃ lk, lk = (atR S'.out j).1 := ⟨_, rfl⟩
                rw [← hlk] at u0 hb1
                have q1 : decide (lk ≥ k) = bl := hb1.symm
                have q2 : ((j : Int) < (on : Int)) = True := eq_true (by omega)
                have q3 : (j < on) = True := eq_true (by omega)
                subst hl1
                subst eb
                clear h0 hj hC hlast hb1 hlk c0 c1 c3
                go_quiet (fail)
                all_goals
                  go_wp2
                  go_meet
                  exact ⟨rfl, ⟨by repeat (first | (with_reducible first | exact Below.refl _ _ | apply below_alloc | apply pw_below_drewN | apply below_drew1) | exact Below.refl _ _)⟩⟩
            case rest =>
              obtain ⟨rfl, HB5⟩ := hcut
              have HX5 := Aside0.mk ((HB5.out.block _ (blk_lt HX4.out)).trans HX4.out)
              have HF5 := Aside0.mk (HF4.out.step HB5.out)
              have HK5 := Aside0.mk (HK4.out.trans (Kf.below HB5.out g))
              have HR5 := Aside0.mk (Kd.R_below HR4.out HB5.out)
              have hQ5 : q < wc.heap.size := blk_lt HX5.out
              have hqw : wr.heap.size ≤ q := by have := HQ.out; omega
              clear HX4 HF4 HK4 HR4 y0 y1 y2 y3 c0 c1 c2 c3 HLV
              have hR1 := HR1.out
              cases bl
              case true =>
                rw [show fCells ld ((k, sz, pg, by_) :: cl.drop (i + 1)) S' = fForm S' from if_pos HBL.out.symm] at hR1
                subst hR1
                clear HR1 HBL
                go_wp2_with (first | (go_at_call 45; (with_reducible refine (form_any HF5.out).mono ?_); rintro e w6 ⟨rfl, hf3, hk3⟩; have HF6 := Aside0.mk hf3; have HK6 := Aside0.mk (HK5.out.trans (hk3.kf HF5.out.2.2.2.1)); clear hf3 hk3))
                exact bodyPost_ret (v := .tuple #[]) (by simp [results, Try.results46, go_sem]) rfl ⟨rfl, ⟨_, HF6.out⟩, HK6.out⟩
              case false =>
                rw [show fCells ld ((k, sz, pg, by_) :: cl.drop (i + 1)) S' = fCells ld (cl.drop (i + 1)) { (fCell ld S' (k, sz, pg, by_)).2 with out := S'.out ++ [(k, (fCell ld S' (k, sz, pg, by_)).1)] } from if_neg (by rw [show lastGe S'.out (k, sz, pg, by_).1 = false from HBL.out.symm]; decide)] at hR1
                have HR2 := Aside0.mk hR1
                clear hR1 HR1 HBL
                obtain ⟨y0, y1, y2, y3⟩ : wc.cell? ⟨q, 0, none⟩ = some (.int .i64 k) ∧ wc.cell? ⟨q, 1, none⟩ = some (.int .i64 sz) ∧ wc.cell? ⟨q, 2, none⟩ = some (.int .i64 pg) ∧ wc.cell? ⟨q, 3, none⟩ = some (.string by_) := ⟨(blk_cell HX5.out 0).trans rfl, (blk_cell HX5.out 1).trans rfl, (blk_cell HX5.out 2).trans rfl, (blk_cell HX5.out 3).trans rfl⟩
                go_upto_region 11 with (fail)
                obtain ⟨w6, hw6⟩ : ∃ w6, w6 = wc.alloc (.cells #[.int .i64 k, .string by_] 45) := ⟨_, rfl⟩
                have HBA := Aside0.mk (below_alloc (Below.refl wc.heap.size wc) (.cells #[.int .i64 k, .string by_] 45))
                rw [← hw6] at HBA ⊢
                have HP6 := Aside0.mk (show w6.heap[wc.heap.size]? = some (.cells #[.int .i64 k, .string by_] 45 (0, 0)) from by rw [hw6]; exact (MapKept.heap_alloc wc _).1)
                have HX6 := Aside0.mk ((HBA.out.block _ (blk_lt HX5.out)).trans HX5.out)
                have HF6 := Aside0.mk (HF5.out.step HBA.out)
                have HK6 := Aside0.mk (HK5.out.trans (Kf.below HBA.out g))
                have HR6 := Aside0.mk (Kd.R_below HR5.out HBA.out)
                have hown : (Value.slice B on d).ownBlock ≠ some wc.heap.size := by
                  intro e
                  obtain ⟨cs, hc⟩ := Kd.R_typed HF5.out.2.2.2.2.1 wc.heap.size e
                  have := blk_lt hc
                  omega
                have HGP := Aside0.mk (And.intro hown (And.intro (show w0.heap.size ≤ wc.heap.size from HF5.out.2.2.2.2.2.size) (show wc.heap.size ≠ g ∧ wc.heap.size ≠ q from ⟨by have := blk_lt HF5.out.1; omega, by omega⟩)))
                obtain ⟨p, hp⟩ : ∃ p, p = wc.heap.size := ⟨_, rfl⟩
                rw [← hp] at HP6 HGP ⊢
                clear hw6 y0 y1 y2 y3 HF5 HK5 HR5 hp HBA HX5 hQ5 hown
                obtain ⟨y0, y1, y2, y3⟩ : w6.cell? ⟨q, 0, none⟩ = some (.int .i64 k) ∧ w6.cell? ⟨q, 1, none⟩ = some (.int .i64 sz) ∧ w6.cell? ⟨q, 2, none⟩ = some (.int .i64 pg) ∧ w6.cell? ⟨q, 3, none⟩ = some (.string by_) := ⟨(blk_cell HX6.out 0).trans rfl, (blk_cell HX6.out 1).trans rfl, (blk_cell HX6.out 2).trans rfl, (blk_cell HX6.out 3).trans rfl⟩
                obtain ⟨bts, hbts⟩ : ∃ b, b = (fCell ld S' (k, sz, pg, by_)).1 := ⟨_, rfl⟩
                obtain ⟨S7, hS7⟩ : ∃ b, b = (fCell ld S' (k, sz, pg, by_)).2 := ⟨_, rfl⟩
                have hO7 := fCell_ok HSM.out HO.out (k, sz, pg, by_)
                have ho7 := fCell_out ld S' (k, sz, pg, by_)
                rw [← hbts, ← hS7] at HR2
                rw [← hS7] at hO7 ho7
                have HO7 := Aside0.mk (And.intro hO7 ho7)
                have HBT := Aside0.mk (And.intro hbts hS7)
                clear hO7 ho7 hbts hS7
                obtain ⟨tb, htb⟩ : ∃ tb, tb = decide (24 < sz) := ⟨_, rfl⟩
                have q1 : decide (sz > 24) = tb := htb.symm
                have HTB := Aside0.mk htb
                clear htb
                go_upto_if 72 with (fail)
                clear q1
                go_cut [9] (fun v9 wx => v9 = .pointer (some ⟨p, 0, none⟩) ∧ Aside0 (IsFind w0 wx g m L (.slice B on d) S7) ∧ Aside0 (Kf w wx g) ∧ Aside0 (kC.R 61 wx w0.heap.size (fun _ => True) (.slice (some ad) n c) cl) ∧ Aside0 (wx.heap[p]? = some (.cells #[.int .i64 k, .string bts] 45 (0, 0))))
                case first =>
                  cases tb
                  case true =>
                    have h24 : 24 < sz := of_decide_eq_true HTB.out.symm
                    have HCH := Aside0.mk (fchain_any HLD.out HSM.out HF6.out HO.out pg sz HG.out.2.2 HG.out.2.1 HG.out.1)
                    have e7 : fCell ld S' (k, sz, pg, by_) = fChain 1000 ld S' pg sz ⟨#[]⟩ := if_pos h24
                    rw [e7] at HBT
                    rw [← HBT.out.1, ← HBT.out.2] at HCH
                    clear h24 e7
                    go_wp2_with (fail)
                    with_reducible refine (HCH.out).mono ?_
                    rintro e w7 ⟨rfl, hf7, hk7⟩
                    have HF7 := Aside0.mk hf7
                    have hk9 := hk7.kf HF6.out.2.2.2.1
                    have HK7 := Aside0.mk (HK6.out.trans hk9)
                    have HR7 := Aside0.mk (hk9.R HF6.out.1 HR6.out T61)
                    have hp7 := (hk7.2 p (blk_lt HP6.out) HGP.out.2.2.1 (fun e => pg_ne HF6.out.2.2.2.1 HP6.out e.symm)).trans HP6.out
                    have HP7 := Aside0.mk hp7
                    have pf1 := blk_frozen hp7 1
                    have pc1 : w7.cell? ⟨p, 1, none⟩ = some (.string by_) := (blk_cell hp7 1).trans rfl
                    clear hf7 hk7 hk9 hp7
                    go_wp2_with (fail)
                    go_meet
                    exact ⟨rfl, ⟨HF7.out.setR HP7.out HGP.out.1 HGP.out.2.1 1 _⟩, ⟨HK7.out.trans (Kf.setR HP7.out)⟩, ⟨Kd.R_set HR7.out HP7.out (by intro q hq; simp [kC, Kd.pair, Kd.int, Kd.string, Kd.scalar] at hq; omega) 1 _⟩, ⟨by simpa using blk_set HP7.out 1 (.string bts)⟩⟩
                  case false =>
                    have h24 : ¬ 24 < sz := of_decide_eq_false HTB.out.symm
                    have e7 : fCell ld S' (k, sz, pg, by_) = (by_, S') := if_neg h24
                    rw [e7] at HBT
                    obtain ⟨e8, e9⟩ := HBT.out
                    change bts = by_ at e8
                    change S7 = S' at e9
                    subst e8 e9
                    clear h24 e7 HBT
                    go_wp2_with (fail)
                    go_meet
                    exact ⟨rfl, HF6, HK6, HR6, HP6⟩
                case rest =>
                  obtain ⟨rfl, HF8, HK8, HR8, HP8⟩ := hcut
                  clear HF6 HK6 HR6 HP6 HX6 y0 y1 y2 y3 HTB HBT
                  obtain ⟨c0, c1, c2, c3⟩ := cell104 HF8.out.1
                  have f2 := blk_frozen HF8.out.1 2
                  have p0 : wc.cell? ⟨p, 0, none⟩ = some (.int .i64 k) := (blk_cell HP8.out 0).trans rfl
                  have p1 : wc.cell? ⟨p, 1, none⟩ = some (.string bts) := (blk_cell HP8.out 1).trans rfl
                  go_upto_region 13 with (fail)
                  obtain ⟨o7, ho7⟩ : ∃ o, o = S7.out := ⟨_, rfl⟩
                  have HO8 := Aside0.mk ho7
                  have hlen8 : o7.length = on := by rw [ho7, HO7.out.2]; exact HON.out.symm
                  have HL8 := Aside0.mk hlen8
                  have HRW := Aside0.mk (show kR.R 45 wc w0.heap.size (fun _ => True) (.slice B on d) o7 from by rw [ho7]; exact HF8.out.2.2.2.2.1)
                  have HBB := Aside0.mk HF8.out.2.2.2.2.2
                  clear ho7 hlen8
                  have HCB := Aside0.mk (MapKept.heap_alloc wc (.cells #[.int .i64 k, .string bts] 45)).1
                  have HBL := Aside0.mk (below_drew1 (below_alloc (Below.refl wc.heap.size wc) (.cells #[.int .i64 k, .string bts] 45)))
                  have HCA := Aside0.mk (show kR.C (wc.alloc (.cells #[.int .i64 k, .string bts] 45)).drew (some ⟨wc.heap.size, 0, none⟩) 1 [(k, bts)] from by
                    exact Kd.C_drew (C_block (d := kR) (xs := [(k, bts)]) HCB.out ((Reps.none _ _).snoc (kR_mk _ (k, bts)) rfl) (by show 1 ≤ 9223372036854775807; omega)))
                  have HRA := Aside0.mk (show kR.R 45 (wc.alloc (.cells #[.int .i64 k, .string bts] 45)).drew w0.heap.size (fun _ => True) (.slice B on d) o7 from by exact Kd.R_drew (Kd.R_alloc HRW.out _))
                  have HBA := Aside0.mk (show Below w0.heap.size w0 (wc.alloc (.cells #[.int .i64 k, .string bts] 45)).drew from by exact below_drew1 (below_alloc HBB.out _))
                  have HGA := Aside0.mk (show ((wc.alloc (.cells #[.int .i64 k, .string bts] 45)).drew).heap[g]? = some (.cells #[L, .map (some m), .slice B on d, .int .i64 S7.e] 104 (0, 0)) from by exact (HBL.out.block _ (blk_lt HF8.out.1)).trans HF8.out.1)
                  have HMA := Aside0.mk (show IsPg (wc.alloc (.cells #[.int .i64 k, .string bts] 45)).drew m S7.pages from by exact HF8.out.2.2.2.1.at (HBL.out.block _ HF8.out.2.2.2.1.lt))
                  have HKA := Aside0.mk (show Kf w (wc.alloc (.cells #[.int .i64 k, .string bts] 45)).drew g from by exact HK8.out.trans (Kf.below HBL.out g))
                  have HRC := Aside0.mk (show kC.R 61 (wc.alloc (.cells #[.int .i64 k, .string bts] 45)).drew w0.heap.size (fun _ => True) (.slice (some ad) n c) cl from by exact Kd.R_below HR8.out HBL.out)
                  have ca2 := (cell104 (((below_alloc (Below.refl wc.heap.size wc) (.cells #[.int .i64 k, .string bts] 45)).block _ (blk_lt HF8.out.1)).trans HF8.out.1)).2.2.1
                  go_region_law (refine Kd.R_append_rows_step kR (Rr := kR.K (wc.alloc (.cells #[.int .i64 k, .string bts] 45)).drew) w0.heap.size rfl (.tmp 84) (.tmp 86) 22 45 (.agg #[(.int .i64 0), (.string ⟨#[]⟩)]) 24 rfl Try.underlying22 info45 rfl (by decide) (by omega) (.slice B on d) o7 [(k, bts)] (some ⟨wc.heap.size, 0, none⟩) 1 1 (fun _ => True) (fun _ => False) rfl rfl HRA.out HCA.out (fun x cs hx => by rw [kR_open hx]; exact kR_mkM _ _ _ _) (fun _ hk => hk.elim) (fun _ _ => trivial) HBA.out HBA.out.size (by have := HL8.out; omega) ?_; intro v3 w3 ho_ hb_ hg_ hat_; obtain ⟨A3, d3, e3⟩ := Kd.R_slice ho_; obtain ⟨l3, hl3⟩ : ∃ l3 : Nat, l3 = (o7 ++ [(k, bts)]).length := ⟨_, rfl⟩; rw [← hl3] at e3; clear hl3; subst e3; have E3 := Aside0.mk ho_; have E4 := Aside0.mk hb_; have E5 := Aside0.mk hg_; have K3 := Aside0.mk ((hg_.block g (blk_lt HGA.out) (Kd.R_ne HRA.out HGA.out (by decide))).trans HGA.out); have z2 := (cell104 K3.out).2.2.1; have zf2 := blk_frozen K3.out 2; clear ho_ hb_ hg_ hat_)
                  all_goals
                    go_wp2
                    go_roundg gk
                    case measure => omega
                    case rel =>
                      have hS : IsFind w0 (w3.setCell ⟨g, 2, none⟩ (.slice A3 l3 d3)) g m L (.slice A3 l3 d3) { S7 with out := o7 ++ [(k, bts)] } :=
                        ⟨by simpa using blk_set K3.out 2 (.slice A3 l3 d3), HF8.out.2.1, HF8.out.2.2.1, (HMA.out.at (E5.out.block m HMA.out.lt (pg_ne_row HRA.out HMA.out))).at (Below.heap_setCell _ _ _ m (pg_ne (HMA.out.at (E5.out.block m HMA.out.lt (pg_ne_row HRA.out HMA.out))) K3.out)), Kd.R_set E3.out K3.out (by intro q hq; simp [kR, Kd.pair, Kd.int, Kd.string, Kd.scalar] at hq; omega) 2 _, below_set E4.out HF8.out.2.1⟩
                      refine ⟨i + 1, _, _, by first | rfl | go_num, ⟨by have := HI.out; omega⟩, ?_, ?_, ?_, ?_, ⟨hS⟩, ⟨HKA.out.trans ((Kf.row HRA.out E5.out).trans Kf.set)⟩⟩
                      · exact ⟨fun a b h => HO7.out.1 a b h⟩
                      · exact ⟨by show (o7 ++ [(k, bts)]).length + n ≤ _; rw [List.length_append, HL8.out]; have := HL.out; have := HON.out; simp; omega⟩
                      · have := HR2.out
                        rw [HO8.out, HO7.out.2]
                        exact ⟨this⟩
                      · exact ⟨Kd.R_set (Kd.R_over HRC.out HRA.out (fun q hq => (T61 q hq).1) E5.out) K3.out (fun q hq => (T61 q hq).2) 2 _⟩
end Go.Proofs.Ytpeeojbhfebcdaa.V
end

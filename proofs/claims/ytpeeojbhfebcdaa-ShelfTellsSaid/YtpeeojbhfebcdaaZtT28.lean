/- Of the texts that the row stands on, what it needs (part 28), put together by a program of this session. -/
import Derived.Test.YtpeeojbhfebcdaaZtT27
import Derived.Test.YtpeeojbhfebcdaaZtT15
import Derived.Test.YtpeeojbhfebcdaaZtT22
import Derived.Test.YtpeeojbhfebcdaaZtT24
section
namespace Go.Proofs.Ytpeeojbhfebcdaa.V
open Go.RowKit Go.Proofs.YtpeeojbhfebcdaaW.PrintWords Go.Proofs.YtpeeojbhfebcdaaW.PrintLast Go.Proofs.YtpeeojbhfebcdaaW.PrintMore Go.Proofs.YtpeeojbhfebcdaaM
open Go.Proofs.Ytpeeojbhfebcdaa.PAll
set_option linter.unusedVariables false
set_option linter.unusedSimpArgs false
def pgs (n : Nat) : List Int := (List.range n).map fun (i : Nat) => (i : Int) + 2
theorem pgs_length (n : Nat) : (pgs n).length = n := by unfold pgs; simp
theorem pgs_snoc (n : Nat) : pgs (n + 1) = pgs n ++ [(n : Int) + 2] := by unfold pgs; rw [List.range_succ, List.map_append]; rfl
abbrev tR (l : List S45) : List R2 := l.map fun x => (x.f0, x.f1)
abbrev tW (l : List S28) : List R2 := l.map fun x => (x.f0, x.f1)
abbrev fW (l : List R2) : List S28 := l.map fun x => (⟨x.1, x.2⟩ : S28)
theorem plan_f (l : List S45) (h : List S28) (f : List Int) (h1 : l.length ≤ 9000) (h2 : h.length ≤ 10000) (h3 : f.length ≤ 10000) (h4 : ∀ x ∈ h, x.f1.size ≤ 1000000) :
  shelf_Plan.f l h f = some (fW (planE (tR l) (tW h) f).1, (planE (tR l) (tW h) f).2.1, (planE (tR l) (tW h) f).2.2) := by
 unfold shelf_Plan.f
 rw [if_pos ⟨h1, h2, h3, List.all_eq_true.2 fun x hx => decide_eq_true (h4 x hx)⟩]
theorem need_l0 (l : List S45) (hl : l.length ≤ 9000) (d : Nat) : ∀ (k i : Nat), 198 - i = d → i ≤ 198 → d < k → shelf_Need.l0 k l (pgs i) ((i : Int) + 2) = some ((planE (tR l) [] (pgs 198)).1.length : Int) := by
 induction d with
 | zero =>
  intro k i hd hi hk
  obtain ⟨k, rfl⟩ : ∃ m, k = m + 1 := ⟨k - 1, by omega⟩
  obtain rfl : i = 198 := by omega
  unfold shelf_Need.l0
  rw [if_neg (by omega), plan_f l [] (pgs 198) hl (by simp) (by rw [pgs_length]; omega) (by intro x hx; cases hx), Option.bind_some]
  simp only [fW, List.length_map]
  rfl
 | succ d ih =>
  intro k i hd hi hk
  obtain ⟨k, rfl⟩ : ∃ m, k = m + 1 := ⟨k - 1, by omega⟩
  unfold shelf_Need.l0
  rw [if_pos (by omega), if_pos (by rw [pgs_length]; omega), ← pgs_snoc, show wrap64 ((i : Int) + 2 + 1) = ((i + 1 : Nat) : Int) + 2 from by unfold wrap64; omega]
  exact ih k (i + 1) (by omega) (by omega) (by omega)
def needE (l : List R2) : Nat := (planE l [] (pgs 198)).1.length
theorem need_f (l : List S45) (hl : l.length ≤ 9000) (k : Nat) (hk : 199 ≤ k) : shelf_Need.f k l = some (needE (tR l) : Int) := by
  unfold shelf_Need.f
  exact need_l0 l hl 198 k 0 (by omega) (by omega) (by omega)
theorem alive1 : (planE [(1, ⟨#[97, 98, 99]⟩)] [] [4, 5, 6]).2 = (5, 0) := by decide +kernel
theorem alive2 : (planE [(1, ⟨#[97, 98, 99]⟩)] [] [4, 5, 6]).1.map (·.1) = [4, 5] := by decide +kernel
theorem alive3 : needE [(1, ⟨#[97, 98, 99]⟩)] = 2 := by decide +kernel
theorem two_of {α : Type} : ∀ (o : List α), o.length = 2 → ∃ a b, o = [a, b]
  | [a, b], _ => ⟨a, b, rfl⟩
  | [], h => by simp at h
  | [_], h => by simp at h
  | _ :: _ :: _ :: _, h => by simp at h
set_option maxRecDepth 100000 in
theorem alive_f (k : Nat) (hk : 200 ≤ k) : maquettelaw16_alive.f k = some true := by
 obtain ⟨k, rfl⟩ : ∃ m, k = m + 1 := ⟨k - 1, by omega⟩
 unfold maquettelaw16_alive.f
 rw [plan_f _ _ _ (by decide) (by decide) (by decide) (by intro x hx; cases hx), Option.bind_some]
 have h2 := alive2
 have h1 := alive1
 have h3 := need_f [(⟨1, ⟨#[97, 98, 99]⟩⟩ : S45)] (by decide) (k + 1) (by omega)
 rw [show tR [(⟨1, ⟨#[97, 98, 99]⟩⟩ : S45)] = [(1, ⟨#[97, 98, 99]⟩)] from rfl] at h3 ⊢
 rw [alive3] at h3
 rw [show tW ([] : List S28) = [] from rfl, h1]
 obtain ⟨o, ho⟩ : ∃ o, o = (planE [(1, ⟨#[97, 98, 99]⟩)] [] [4, 5, 6]).1 := ⟨_, rfl⟩
 rw [← ho] at h2 ⊢
 clear ho h1
 have hlen : o.length = 2 := by have := congrArg List.length h2; simpa using this
 obtain ⟨a, b, rfl⟩ : ∃ a b, o = [a, b] := two_of _ hlen
 ·clear hlen
  simp only [List.map_cons, List.map_nil, List.cons.injEq, and_true] at h2
  obtain ⟨e1, e2⟩ := h2
  show (if (0 : Int) = 0 then (if ((fW [a, b]).length : Int) = 2 then (if (5 : Int) = 5 then (if 0 < ((fW [a, b]).length : Int) then (if a.1 = 4 then (if 1 < ((fW [a, b]).length : Int) then (if b.1 = 5 then ((shelf_Need.f (k + 1) [(⟨1, ⟨#[97, 98, 99]⟩⟩ : S45)]).bind fun t163 => (maquettelaw16_alive.j0 (k + 1) (t163 == 2))) else (maquettelaw16_alive.j0 (k + 1) false)) else (none)) else (maquettelaw16_alive.j0 (k + 1) false)) else (none)) else (maquettelaw16_alive.j0 (k + 1) false)) else (maquettelaw16_alive.j0 (k + 1) false)) else (maquettelaw16_alive.j0 (k + 1) false)) = some true
  rw [if_pos (show (0 : Int) = 0 from rfl), if_pos (show ((fW [a, b]).length : Int) = 2 from rfl), if_pos (show (5 : Int) = 5 from rfl), if_pos (show 0 < ((fW [a, b]).length : Int) from by show (0 : Int) < 2; decide), if_pos e1, if_pos (show 1 < ((fW [a, b]).length : Int) from by show (1 : Int) < 2; decide), if_pos e2, h3]
  rfl
theorem few_l0 (l : List S45) (hl : l.length ≤ 9223372036854775807) (d : Nat) : ∀ (k i : Nat) (acc : Int), l.length - i = d → i ≤ l.length → d < k → ∃ b, maquettelaw16_Few.l0 k l acc (l.length : Int) (i : Int) = some b ∧ (b = true → l.length ≤ 120) := by
 induction d with
 | zero =>
  intro k i acc hd hi hk
  obtain ⟨k, rfl⟩ : ∃ m, k = m + 1 := ⟨k - 1, by omega⟩
  unfold maquettelaw16_Few.l0
  rw [if_neg (by omega)]
  by_cases h : (l.length : Int) ≤ 120
  ·rw [if_pos h]; exact ⟨_, rfl, fun _ => by omega⟩
  ·rw [if_neg h]; exact ⟨_, rfl, fun h => by cases h⟩
 | succ d ih =>
  intro k i acc hd hi hk
  obtain ⟨k, rfl⟩ : ∃ m, k = m + 1 := ⟨k - 1, by omega⟩
  unfold maquettelaw16_Few.l0
  rw [if_pos (by omega), if_pos (by omega), if_pos (by omega), show wrap64 ((i : Int) + 1) = ((i + 1 : Nat) : Int) from by unfold wrap64; omega]
  exact ih k (i + 1) _ (by omega) (by omega) (by omega)
theorem few_f (l : List S45) (hl : l.length ≤ 9223372036854775807) (k : Nat) (hk : l.length < k) : ∃ b, maquettelaw16_Few.f k l = some b ∧ (b = true → l.length ≤ 120) := by
  unfold maquettelaw16_Few.f
  exact few_l0 l hl l.length k 0 0 (by omega) (by omega) (by omega)
end Go.Proofs.Ytpeeojbhfebcdaa.V
end
section
namespace Go.Proofs.Ytpeeojbhfebcdaa.V
open Go.RowKit Go.Proofs.YtpeeojbhfebcdaaW.PrintWords Go.Proofs.YtpeeojbhfebcdaaW.PrintLast Go.Proofs.YtpeeojbhfebcdaaW.PrintMore Go.Proofs.YtpeeojbhfebcdaaM
set_option linter.unusedVariables false
set_option linter.unusedSimpArgs false
def Ext (f g : ByteArray → Option Int) : Prop := ∀ b n, f b = some n → g b = some n
theorem Ext.refl (f : ByteArray → Option Int) : Ext f f := fun _ _ h => h
theorem Ext.trans {f g h : ByteArray → Option Int} (a : Ext f g) (b : Ext g h) : Ext f h := fun x n k => b x n (a x n k)
theorem Ext.upd {f : ByteArray → Option Int} {b : ByteArray} {n : Int} (h : f b = none) : Ext f (upd f b n) := fun x m hx => by
  by_cases e : x = b
  · rw [e, h] at hx; cases hx
  · rw [upd_ne _ _ e]; exact hx
def KnOut (hv : List R2) (S : PS) : Prop := S.known = knF (hv ++ S.out)
theorem putS_kn {hv : List R2} {S : PS} (h : KnOut hv S) (b : ByteArray) (is : Bool) : KnOut hv (putS S b is) := by
 unfold putS
 by_cases h0 : S.e = 0
 ·rw [if_pos h0]
  cases is with
  | false => exact h
  | true =>
   rw [if_pos rfl]
   cases hk : S.known b with
   | some n => exact h
   | none =>
    cases hf : S.free with
    | nil => exact h
    | cons n fr =>
     show upd S.known b n = knF (hv ++ (S.out ++ [(n, b)]))
     unfold KnOut at h
     rw [← List.append_assoc]
     unfold knF at h ⊢
     rw [List.foldl_append, ← h]
     show _ = knS S.known (n, b)
     unfold knS
     simp only [hk]
 ·rw [if_neg h0]; exact h
theorem chainF_kn {hv : List R2} (l : List ByteArray) {S : PS} (h : KnOut hv S) : KnOut hv (chainF l S).2 := by
  induction l with
  | nil => exact h
  | cons x l ih => rw [chainF_cons]; exact putS_kn ih _ _
theorem chainsF_kn {hv : List R2} : ∀ (l : List R2) {S : PS}, KnOut hv S → KnOut hv (chainsF l S).2
 | [], S, h => h
 | r :: t, S, h => by
  rw [chainsF_cons]
  split
  ·exact chainsF_kn t (chainF_kn _ h)
  ·exact chainsF_kn t h
theorem slotsF_kn {hv : List R2} : ∀ (l : List (List C4)) {S : PS}, KnOut hv S → KnOut hv (slotsF l S).2
 | [], S, h => h
 | x :: t, S, h => by
  rw [slotsF_cons]
  split
  ·exact slotsF_kn t (putS_kn h _ _)
  ·exact slotsF_kn t h
theorem planE_ok {l hv : List R2} {fr : List Int} (h : (planE l hv fr).2.2 = 0) : rightF (-1) l = true ∧ mayE (hv.map (·.1)) fr = true ∧ ¬ 21 < (lvs [] (l.map (cellE · 2))).length ∧ (planZ l hv fr).2.e = 0 ∧ planE l hv fr = ((planZ l hv fr).2.out, (planZ l hv fr).1, 0) := by
 unfold planE at h ⊢
 by_cases h1 : (rightF (-1) l && mayE (hv.map (·.1)) fr) = true
 ·rw [if_pos h1] at h ⊢
  rw [Bool.and_eq_true] at h1
  by_cases h2 : 21 < (lvs [] (l.map (cellE · 2))).length
  ·rw [if_pos h2] at h; exact absurd h (by decide)
  ·rw [if_neg h2] at h ⊢
   by_cases h3 : (planZ l hv fr).2.e = 0
   ·rw [if_pos h3]; exact ⟨h1.1, h1.2, h2, h3, rfl⟩
   ·rw [if_neg h3] at h; exact absurd h h3
 ·rw [if_neg h1] at h; exact absurd h (by decide)
theorem planE_no {l hv : List R2} {fr : List Int} (h : (planE l hv fr).2.2 ≠ 0) : (planE l hv fr).1 = [] ∧ (planE l hv fr).2.1 = 0 := by
 unfold planE at h ⊢
 split
 ·rename_i h1
  rw [if_pos h1] at h
  split
  ·exact ⟨rfl, rfl⟩
  ·rename_i h2
   rw [if_neg h2] at h
   split
   ·rename_i h3; rw [if_pos h3] at h; exact absurd rfl h
   ·exact ⟨rfl, rfl⟩
 ·exact ⟨rfl, rfl⟩
end Go.Proofs.Ytpeeojbhfebcdaa.V
end
section
namespace Go.Proofs.Ytpeeojbhfebcdaa.V
open Go.RowKit Go.Proofs.YtpeeojbhfebcdaaW.PrintWords Go.Proofs.YtpeeojbhfebcdaaW.PrintLast Go.Proofs.YtpeeojbhfebcdaaW.PrintMore Go.Proofs.YtpeeojbhfebcdaaM
open Go.Proofs.Ytpeeojbhfebcdaa.PAll
set_option linter.unusedVariables false
set_option linter.unusedSimpArgs false
def cnt (S : PS) : Nat := S.out.length + S.free.length
theorem putS_cnt (S : PS) (b : ByteArray) (is : Bool) : cnt (putS S b is) = cnt S := by
 unfold putS
 by_cases h0 : S.e = 0
 ·rw [if_pos h0]
  cases is with
  | false => rfl
  | true =>
   rw [if_pos rfl]
   cases hk : S.known b with
   | some n => rfl
   | none =>
    cases hf : S.free with
    | nil => unfold cnt; rw [hf]
    | cons n fr => unfold cnt; rw [hf]; simp; omega
 ·rw [if_neg h0]
theorem chainF_cnt (l : List ByteArray) (S : PS) : cnt (chainF l S).2 = cnt S := by
  induction l with
  | nil => rfl
  | cons x l ih => rw [chainF_cons]; exact (putS_cnt _ _ _).trans ih
theorem chainsF_cnt : ∀ (l : List R2) (S : PS), cnt (chainsF l S).2 = cnt S
 | [], S => rfl
 | r :: t, S => by
  rw [chainsF_cons]
  split
  ·exact (chainsF_cnt t _).trans (chainF_cnt _ _)
  ·exact chainsF_cnt t _
theorem slotsF_cnt : ∀ (l : List (List C4)) (S : PS), cnt (slotsF l S).2 = cnt S
 | [], S => rfl
 | x :: t, S => by
  rw [slotsF_cons]
  split
  ·exact (slotsF_cnt t _).trans (putS_cnt _ _ _)
  ·exact slotsF_cnt t _
theorem planZ_cnt (l hv : List R2) (fr : List Int) : cnt (planZ l hv fr).2 = fr.length := by
  refine (putS_cnt _ _ _).trans ((slotsF_cnt _ _).trans ((chainsF_cnt _ _).trans ?_))
  show ([] : List R2).length + fr.length = _
  simp
theorem planE_len (l hv : List R2) (fr : List Int) : (planE l hv fr).1.length ≤ fr.length := by
 by_cases h : (planE l hv fr).2.2 = 0
 ·obtain ⟨_, _, _, _, h5⟩ := planE_ok h
  have := planZ_cnt l hv fr
  rw [h5]
  unfold cnt at this
  show (planZ l hv fr).2.out.length ≤ _
  omega
 ·rw [(planE_no h).1]; exact Nat.zero_le _
end Go.Proofs.Ytpeeojbhfebcdaa.V
end
section
namespace Go.Proofs.Ytpeeojbhfebcdaa.V
open Go.RowKit Go.Proofs.YtpeeojbhfebcdaaW.PrintWords Go.Proofs.YtpeeojbhfebcdaaW.PrintLast Go.Proofs.YtpeeojbhfebcdaaW.PrintMore Go.Proofs.YtpeeojbhfebcdaaM
set_option linter.unusedVariables false
set_option linter.unusedSimpArgs false
def kin : Int → List C4 → Prop
  | _, [] => True
  | lo, x :: t => lo < x.1 ∧ x.1 ≤ 2147483647 ∧ kin x.1 t
theorem kin_low : ∀ {l : List C4} {a b : Int}, a ≤ b → kin b l → kin a l
  | [], _, _, _, _ => trivial
  | x :: t, a, b, h, hk => ⟨by have := hk.1; omega, hk.2⟩
theorem kin_drop : ∀ {a b : List C4} {lo : Int}, kin lo (a ++ b) → kin lo b
 | [], b, lo, h => h
 | x :: a, b, lo, h => by
  have h2 : kin x.1 (a ++ b) := h.2.2
  exact kin_low (by have : lo < x.1 := h.1; omega) (kin_drop h2)
theorem chainsF_kin : ∀ (l : List R2) (S : PS) (a : Int), rightF a l = true → kin a (chainsF l S).1
 | [], S, a, _ => trivial
 | r :: t, S, a, h => by
  unfold rightF at h
  simp only [Bool.and_eq_true, decide_eq_true_eq] at h
  obtain ⟨h1, h2, h3, h4⟩ := h
  have hc : ∀ p, (cellE r p).1 = r.1 := fun p => by unfold cellE; split <;> rfl
  rw [chainsF_cons]
  split
  ·exact ⟨by rw [hc]; exact h1, by rw [hc]; exact h2, by rw [hc]; exact chainsF_kin t _ _ h4⟩
  ·exact ⟨by rw [hc]; exact h1, by rw [hc]; exact h2, by rw [hc]; exact chainsF_kin t _ _ h4⟩
def asc : Int → List (List C4) → Prop
  | _, [] => True
  | lo, x :: t => ∃ c r, x = c :: r ∧ lo < c.1 ∧ c.1 ≤ 2147483647 ∧ asc c.1 t
theorem lvs_asc : ∀ (r cur : List C4) (lo : Int), (∀ x ∈ r, cellOk x) → kin lo (cur ++ r) → asc lo (lvs cur r)
 | [], [], lo, _, _ => trivial
 | [], c :: t, lo, _, h => ⟨c, t, rfl, h.1, h.2.1, trivial⟩
 | c :: r, cur, lo, hok, h => by
  have hr : ∀ x ∈ r, cellOk x := fun x hx => hok x (List.mem_cons_of_mem _ hx)
  unfold lvs
  split
  ·exact lvs_asc r _ lo hr (by rw [List.append_assoc]; exact h)
  ·rename_i hn
   cases cur with
   | nil => exact absurd (leaf_one (hok c List.mem_cons_self)) hn
   | cons c0 t =>
    refine ⟨c0, t, rfl, h.1, h.2.1, lvs_asc r [c] c0.1 hr ?_⟩
    exact kin_drop (a := t) (b := [c] ++ r) h.2.2
theorem chainsF_append : ∀ (l m : List R2) (S : PS), chainsF (l ++ m) S = ((chainsF l S).1 ++ (chainsF m (chainsF l S).2).1, (chainsF m (chainsF l S).2).2)
 | [], m, S => rfl
 | r :: t, m, S => by
  rw [List.cons_append, chainsF_cons, chainsF_cons, chainsF_append t m, chainsF_append t m]
  split <;> rfl
end Go.Proofs.Ytpeeojbhfebcdaa.V
end
section
namespace Go.Proofs.Ytpeeojbhfebcdaa.V
open Go.RowKit Go.Proofs.YtpeeojbhfebcdaaW.PrintWords Go.Proofs.YtpeeojbhfebcdaaW.PrintLast Go.Proofs.YtpeeojbhfebcdaaW.PrintMore Go.Proofs.YtpeeojbhfebcdaaM
open Go.Proofs.Ytpeeojbhfebcdaa.PAll
set_option linter.unusedVariables false
set_option linter.unusedSimpArgs false
theorem put_some {S : PS} {b : ByteArray} {n : Int} (he : S.e = 0) (hk : S.known b = some n) : putS S b true = S ∧ putN S b true = n := by
  unfold putS putN
  rw [if_pos he, if_pos rfl, hk, if_pos he, if_pos rfl]
  exact ⟨rfl, rfl⟩
theorem put_cons {S : PS} {b : ByteArray} {n : Int} {fr : List Int} (he : S.e = 0) (hk : S.known b = none) (hf : S.free = n :: fr) : putS S b true = { S with known := upd S.known b n, free := fr, out := S.out ++ [(n, b)] } ∧ putN S b true = n := by
  unfold putS putN
  rw [if_pos he, if_pos rfl, hk, hf, if_pos he, if_pos rfl]
  exact ⟨rfl, rfl⟩
theorem put_nil {S : PS} {b : ByteArray} (he : S.e = 0) (hk : S.known b = none) (hf : S.free = []) : putS S b true = { S with e := 8 } := by
  unfold putS
  rw [if_pos he, if_pos rfl, hk, hf]
theorem putS_stuck {T : PS} (h : T.e ≠ 0) (b : ByteArray) (is : Bool) : putS T b is = T := by unfold putS; rw [if_neg h]
theorem slots_stuck : ∀ (l : List (List C4)) {T : PS}, T.e ≠ 0 → (slotsF l T).2 = T
  | [], T, _ => rfl
  | x :: t, T, h => by rw [slotsF_cons, if_neg h]; exact slots_stuck t h
end Go.Proofs.Ytpeeojbhfebcdaa.V
end
section
namespace Go.Proofs.Ytpeeojbhfebcdaa.V
open Go.RowKit Go.Proofs.YtpeeojbhfebcdaaW.PrintWords Go.Proofs.YtpeeojbhfebcdaaW.PrintLast Go.Proofs.YtpeeojbhfebcdaaW.PrintMore Go.Proofs.YtpeeojbhfebcdaaM
set_option linter.unusedVariables false
set_option linter.unusedSimpArgs false
def shC (x : C4) : Int × Int × ByteArray × Bool := (x.1, x.2.1, x.2.2.2, okR x.2.1 x.2.2.1 x.2.2.2)
theorem shC_at {l m : List C4} (h : l.map shC = m.map shC) (i : Nat) : shC (atC l i) = shC (atC m i) := by
  have := congrArg (fun z => z[i]?) h
  simp only [List.getElem?_map] at this
  unfold atC
  rw [List.getD_eq_getElem?_getD, List.getD_eq_getElem?_getD]
  have e : ∀ z : Option C4, shC (z.getD zC) = (z.map shC).getD (shC zC) := fun z => by cases z <;> rfl
  rw [e, e, this]
theorem fullA_two (s : ByteArray) : (fullA s).2 = decide (s.size ≤ 128) := by
  unfold fullA
  split
  · rw [decide_eq_true (by assumption)]
  · rw [decide_eq_false (by assumption)]
theorem lfT_len (s p : Int) : (lfT s p).length = if 24 < s then 2 else 0 := by
  unfold lfT
  split
  · rw [byL_length]
  · rfl
theorem leafE_same {l m : List C4} (h : l.map shC = m.map shC) : (leafE l).2 = (leafE m).2 := by
 have hl : l.length = m.length := by have := congrArg List.length h; simpa using this
 have ha := fun i => shC_at h i
 have a1 : ∀ i, (atC l i).1 = (atC m i).1 := fun i => congrArg (·.1) (ha i)
 have a2 : ∀ i, (atC l i).2.1 = (atC m i).2.1 := fun i => congrArg (·.2.1) (ha i)
 have a3 : ∀ i, (atC l i).2.2.2 = (atC m i).2.2.2 := fun i => congrArg (·.2.2.1) (ha i)
 have a4 : ∀ i, okR (atC l i).2.1 (atC l i).2.2.1 (atC l i).2.2.2 = okR (atC m i).2.1 (atC m i).2.2.1 (atC m i).2.2.2 := fun i => congrArg (·.2.2.2) (ha i)
 have hv : lfV (fun i => (atC l i.toNat).1) (fun i => (atC l i.toNat).2.1) (fun i => (atC l i.toNat).2.2.1) (fun i => (atC l i.toNat).2.2.2) m.length = lfV (fun i => (atC m i.toNat).1) (fun i => (atC m i.toNat).2.1) (fun i => (atC m i.toNat).2.2.1) (fun i => (atC m i.toNat).2.2.2) m.length := by
  unfold lfV ahK
  congr 1
  funext j
  simp only [a1, a4]
 have hb : (lfB (fun i => (atC l i.toNat).1) (fun i => (atC l i.toNat).2.1) (fun i => (atC l i.toNat).2.2.1) (fun i => (atC l i.toNat).2.2.2) m.length m.length).length = (lfB (fun i => (atC m i.toNat).1) (fun i => (atC m i.toNat).2.1) (fun i => (atC m i.toNat).2.2.1) (fun i => (atC m i.toNat).2.2.2) m.length m.length).length := by
  unfold lfB
  rw [List.length_append, List.length_append, List.length_flatten, List.length_flatten, List.map_map, List.map_map]
  congr 2
  apply List.map_congr_left
  intro j _
  simp only [Function.comp, List.length_append, byL_length, bytesOf_len, lfT_len, a2, a3]
 unfold leafE lfA
 rw [hl, hv]
 split
 ·split
  ·rw [fullA_two, fullA_two, strOfNums_size, strOfNums_size, hb]
  ·rfl
 ·rfl
theorem lvs_same : ∀ (r s cur cus : List C4), r.map shC = s.map shC → cur.map shC = cus.map shC → (lvs cur r).length = (lvs cus s).length
 | [], [], cur, cus, _, h => by
  unfold lvs
  cases cur <;> cases cus
  ·rfl
  ·cases h
  ·cases h
  ·rfl
 | [], _ :: _, _, _, h, _ => by cases h
 | _ :: _, [], _, _, h, _ => by cases h
 | x :: r, y :: s, cur, cus, h, h2 => by
  rw [List.map_cons, List.map_cons] at h
  injection h with hx hr
  have h3 : (cur ++ [x]).map shC = (cus ++ [y]).map shC := by rw [List.map_append, List.map_append, h2]; show _ ++ [shC x] = _ ++ [shC y]; rw [hx]
  unfold lvs
  rw [leafE_same h3]
  split
  ·exact lvs_same r s _ _ hr h3
  ·rw [List.length_cons, List.length_cons, lvs_same r s [x] [y] hr (by show [shC x] = [shC y]; rw [hx])]
theorem lvs_leaf : ∀ (r cur : List C4), (∀ x ∈ r, cellOk x) → (cur = [] ∨ (leafE cur).2 = true) → ∀ y ∈ lvs cur r, (leafE y).2 = true
 | [], cur, _, h, y, hy => by
  unfold lvs at hy
  cases cur with
  | nil => cases hy
  | cons a t =>
   rw [List.mem_singleton] at hy
   rw [hy]
   rcases h with h | h
   ·cases h
   ·exact h
 | c :: r, cur, hok, h, y, hy => by
  have hr : ∀ x ∈ r, cellOk x := fun x hx => hok x (List.mem_cons_of_mem _ hx)
  have h1 := leaf_one (hok c List.mem_cons_self)
  unfold lvs at hy
  split at hy
  ·rename_i hn
   exact lvs_leaf r _ hr (.inr hn) y hy
  ·rename_i hn
   rcases List.mem_cons.1 hy with rfl | hy
   ·rcases h with rfl | h
    ·exact absurd h1 hn
    ·exact h
   ·exact lvs_leaf r [c] hr (.inr h1) y hy
def kinS : Int → List S2 → Prop
  | _, [] => True
  | lo, x :: t => lo < x.1 ∧ x.1 ≤ 2147483647 ∧ okP x.2 = true ∧ kinS x.1 t
theorem kinS_at : ∀ (l : List S2) (lo : Int), kinS lo l → ∀ j, j < l.length → (if j = 0 then lo else (atS l (j - 1)).1) < (atS l j).1 ∧ (atS l j).1 ≤ 2147483647 ∧ okP (atS l j).2 = true
 | [], _, _, j, hj => by simp at hj
 | x :: t, lo, h, 0, _ => ⟨h.1, h.2.1, h.2.2.1⟩
 | x :: t, lo, h, j + 1, hj => by
  have := kinS_at t x.1 h.2.2.2 j (by simp at hj; omega)
  rw [if_neg (by omega)]
  refine ⟨?_, this.2⟩
  have h1 := this.1
  cases j with
  | zero => exact h1
  | succ j => exact h1
theorem index_ok {l : List S2} (h : kinS (-1) l) (hl : l.length ≤ 21) : (indexE l).2 = true := by
 unfold indexE idxA
 have hv : idxV (fun i => (atS l i.toNat).1) (fun i => (atS l i.toNat).2) l.length = true := by
  unfold idxV ahK
  rw [all_at]
  intro j hj
  obtain ⟨h1, h2, h3⟩ := kinS_at l (-1) h j hj
  simp only [Int.toNat_natCast]
  rw [h3, Bool.and_true]
  unfold okK
  rw [Bool.and_eq_true, decide_eq_true_eq, decide_eq_true_eq]
  refine ⟨?_, h2⟩
  by_cases hj0 : j = 0
  ·subst hj0; exact h1
  ·rw [if_neg hj0] at h1
   rw [if_neg (by omega), show ((j : Int) - 1).toNat = j - 1 by omega]
   exact h1
 rw [if_pos hl, if_pos hv, fullA_two, strOfNums_size]
 have : (idxB (fun i => (atS l i.toNat).1) (fun i => (atS l i.toNat).2) l.length l.length).length ≤ 128 := by
  unfold idxB
  rw [List.length_append, List.length_flatten, List.map_map]
  have h6 : (List.range l.length).map (List.length ∘ fun (i : Nat) => byL (atS l (i : Int).toNat).1 4 4 ++ byL (atS l (i : Int).toNat).2 2 2) = (List.range l.length).map fun _ => 6 := by
   apply List.map_congr_left
   intro j _
   simp [byL_length]
  rw [h6, List.map_const', List.sum_replicate_nat, List.length_range]
  simp
  omega
 rw [decide_eq_true this]
def Gd (f k : Nat) (S : PS) : Prop := PgOk S ∧ ((S.e = 0 ∧ f ≤ S.free.length + k) ∨ (S.e = 8 ∧ f ≤ k))
theorem Gd.e {f k : Nat} {S : PS} (h : Gd f k S) : S.e = 0 ∨ S.e = 8 := h.2.imp (·.1) (·.1)
theorem Gd.put {f k : Nat} {S : PS} (h : Gd f k S) (b : ByteArray) (is : Bool) (hi : S.e = 0 → is = true) : Gd f (k + 1) (putS S b is) := by
 refine ⟨putS_pg h.1 b is, ?_⟩
 rcases h.2 with ⟨h1, h2⟩ | ⟨h1, h2⟩
 ·obtain rfl := hi h1
  cases hk : S.known b with
  | some n => rw [(put_some h1 hk).1]; exact .inl ⟨h1, by omega⟩
  | none =>
   cases hf : S.free with
   | nil =>
    rw [put_nil h1 hk hf]
    rw [hf] at h2
    exact .inr ⟨rfl, by simp at h2; omega⟩
   | cons n fr =>
    rw [(put_cons h1 hk hf).1]
    rw [hf] at h2
    exact .inl ⟨h1, by simp at h2 ⊢; omega⟩
 ·rw [putS_stuck (by rw [h1]; decide)]
  exact .inr ⟨h1, by omega⟩
theorem chA_ok {nx : Int} {x : ByteArray} (h1 : nx = 0 ∨ okP nx = true) (h2 : 1 ≤ x.size) (h3 : x.size ≤ 120) : (chA nx x).2 = true := by
 have : chOk nx x = true := by
  unfold chOk
  rcases h1 with rfl | h1
  ·simp; omega
  ·rw [h1]; simp; omega
 unfold chA
 rw [if_pos this]
theorem Gd.chain : ∀ (l : List ByteArray) {f k : Nat} {S : PS}, Gd f k S → (∀ x ∈ l, 1 ≤ x.size ∧ x.size ≤ 120) → Gd f (k + l.length) (chainF l S).2 ∧ ((chainF l S).2.e = 0 → (chainF l S).1 = 0 ∨ okP (chainF l S).1 = true)
 | [], f, k, S, h, _ => ⟨h, fun _ => .inl rfl⟩
 | x :: t, f, k, S, h, hx => by
  obtain ⟨h1, h2⟩ := Gd.chain t h (fun y hy => hx y (List.mem_cons_of_mem _ hy))
  obtain ⟨x1, x2⟩ := hx x List.mem_cons_self
  rw [chainF_cons]
  have hi : (chainF t S).2.e = 0 → (chA (chainF t S).1 x).2 = true := fun he => chA_ok (h2 he) x1 x2
  exact ⟨h1.put _ _ hi, fun he => .inr (putN_pg h1.1 _ _ he)⟩
theorem pieces_few {b : ByteArray} (h : b.size ≤ 900) : (pieces b).length ≤ 8 := by
  have := piecesF_len b.size b
  unfold pieces
  omega
theorem Gd.mono {f k j : Nat} {S : PS} (h : Gd f k S) (hk : k ≤ j) : Gd f j S := ⟨h.1, h.2.imp (fun h => ⟨h.1, by omega⟩) (fun h => ⟨h.1, by omega⟩)⟩
theorem Gd.chains : ∀ (l : List R2) {f k : Nat} {S : PS}, Gd f k S → (∀ r ∈ l, r.2.size ≤ 900) → Gd f (k + 8 * l.length) (chainsF l S).2
 | [], f, k, S, h, _ => h
 | r :: t, f, k, S, h, hr => by
  rw [chainsF_cons, List.length_cons]
  have h1 := hr r List.mem_cons_self
  have ht := fun y hy => hr y (List.mem_cons_of_mem _ hy)
  split
  ·have h2 := (Gd.chain (pieces r.2) h (fun x hx => piecesF_size _ _ x hx)).1
   have h3 := Gd.chains t (h2.mono (show _ ≤ k + 8 by have := pieces_few h1; omega)) ht
   exact h3.mono (by omega)
  ·exact (Gd.chains t h ht).mono (by omega)
theorem Gd.slots : ∀ (L : List (List C4)) {f k : Nat} {S : PS} {lo : Int}, Gd f k S → (∀ y ∈ L, (leafE y).2 = true) → asc lo L → Gd f (k + L.length) (slotsF L S).2 ∧ ((slotsF L S).2.e = 0 → kinS lo (slotsF L S).1 ∧ (slotsF L S).1.length = L.length)
 | [], f, k, S, lo, h, _, _ => ⟨h, fun _ => ⟨trivial, rfl⟩⟩
 | x :: t, f, k, S, lo, h, hy, ha => by
  obtain ⟨c, r, rfl, hc1, hc2, ha⟩ := ha
  have ht := fun y h => hy y (List.mem_cons_of_mem _ h)
  have hx := hy _ List.mem_cons_self
  rw [slotsF_cons, List.length_cons]
  split
  ·rename_i he
   obtain ⟨h1, h2⟩ := Gd.slots t (h.put (leafE (c :: r)).1 (leafE (c :: r)).2 (fun _ => hx)) ht ha
   refine ⟨h1.mono (by omega), fun hz => ?_⟩
   obtain ⟨h3, h4⟩ := h2 hz
   refine ⟨⟨hc1, hc2, putN_pg h.1 _ _ (slotsF_e hz), h3⟩, ?_⟩
   show (slotsF t _).1.length + 1 = _
   rw [h4]
  ·rename_i he
   obtain ⟨h1, h2⟩ := Gd.slots t h ht ha
   exact ⟨h1.mono (by omega), fun hz => absurd (slotsF_e hz) he⟩
theorem plan_end {l hv : List R2} {fr : List Int} (h1 : rightF (-1) l = true) (h2 : mayE (hv.map (·.1)) fr = true) (h3 : ¬ 21 < (lvs [] (l.map (cellE · 2))).length) :
  Gd fr.length (8 * l.length + (lvs [] (l.map (cellE · 2))).length + 1) (planZ l hv fr).2 := by
 obtain ⟨pv, pf⟩ := mayE_pg h2
 have hpv : ∀ x ∈ hv, okP x.1 = true := fun x hx => pv _ (List.mem_map_of_mem hx)
 have hr := rightF_mem l (-1) (by omega) h1
 have g0 : Gd fr.length 0 (⟨knF hv, fr, [], 0⟩ : PS) := ⟨⟨knF_pg hpv, pf⟩, .inl ⟨rfl, Nat.le_refl _⟩⟩
 have g1 : Gd fr.length (8 * l.length) (planS l hv fr) := (Gd.chains l g0 (fun r h => (hr r h).2.2)).mono (by omega)
 rcases g1.e with he | he
 ·have hok : ∀ x ∈ planC l hv fr, cellOk x := chainsF_ok l ⟨knF hv, fr, [], 0⟩ ⟨knF_pg hpv, pf⟩ hr he
  have hsh : (planC l hv fr).map shC = (l.map (cellE · 2)).map shC := by
   have H : ∀ (l : List R2) (S : PS), (∀ r ∈ l, -1 < r.1 ∧ r.1 ≤ 2147483647 ∧ r.2.size ≤ 900) → (∀ x ∈ (chainsF l S).1, cellOk x) → (chainsF l S).1.map shC = (l.map (cellE · 2)).map shC := by
    intro l
    induction l with
    | nil => intro S _ _; rfl
    | cons r t ih =>
     intro S hr hx
     have hc : ∀ p, cellOk (cellE r p) → shC (cellE r p) = shC (cellE r 2) := by
      intro p hp
      have hr1 := hr r List.mem_cons_self
      have h2 := cellE_ok (p := 2) hr1.1 hr1.2.1 hr1.2.2 (fun _ => by decide)
      have e1 : okR (cellE r p).2.1 (cellE r p).2.2.1 (cellE r p).2.2.2 = true := hp.2
      have e2 : okR (cellE r 2).2.1 (cellE r 2).2.2.1 (cellE r 2).2.2.2 = true := h2.2
      unfold shC
      rw [e1, e2]
      unfold cellE
      split <;> rfl
     rw [chainsF_cons] at hx ⊢
     split
     ·rename_i h24
      rw [if_pos h24] at hx
      rw [List.map_cons, List.map_cons, List.map_cons, hc _ (hx _ List.mem_cons_self), ih _ (fun y hy => hr y (List.mem_cons_of_mem _ hy)) (fun y hy => hx y (List.mem_cons_of_mem _ hy))]
     ·rename_i h24
      rw [if_neg h24] at hx
      rw [List.map_cons, List.map_cons, List.map_cons, ih _ (fun y hy => hr y (List.mem_cons_of_mem _ hy)) (fun y hy => hx y (List.mem_cons_of_mem _ hy))]
   exact H l _ hr hok
  have hlen := lvs_same (planC l hv fr) (l.map (cellE · 2)) [] [] hsh rfl
  obtain ⟨g2, g3⟩ := Gd.slots (lvs [] (planC l hv fr)) (lo := -1) g1 (lvs_leaf _ _ hok (.inl rfl)) (lvs_asc _ [] (-1) hok (chainsF_kin l _ (-1) h1))
  rw [hlen] at g2
  have g4 : Gd fr.length (8 * l.length + (lvs [] (l.map (cellE · 2))).length) (planT l hv fr).2 := g2
  refine g4.put _ _ (fun hz => ?_)
  obtain ⟨g5, g6⟩ := g3 hz
  refine index_ok g5 ?_
  rw [show (planT l hv fr).1.length = (lvs [] (planC l hv fr)).length from g6, hlen]
  omega
 ·have h8 : ∀ (L : List (List C4)) (S : PS), S.e = 8 → (slotsF L S).2 = S := fun L S h => slots_stuck L (by rw [h]; decide)
  have e1 : (planT l hv fr).2 = planS l hv fr := h8 _ _ he
  have e2 : (planZ l hv fr).2 = planS l hv fr := by
   unfold planZ
   rw [e1]
   exact putS_stuck (by rw [he]; decide) _ _
  rw [e2]
  exact g1.mono (by omega)
end Go.Proofs.Ytpeeojbhfebcdaa.V
end
section
namespace Go.Proofs.Ytpeeojbhfebcdaa.PRf
open Go.RowKit Go.Proofs.YtpeeojbhfebcdaaW.PrintWords Go.Proofs.YtpeeojbhfebcdaaW.PrintLast Go.Proofs.YtpeeojbhfebcdaaW.PrintMore
open Go.Proofs.Ytpeeojbhfebcdaa
open Go.Proofs.Ytpeeojbhfebcdaa.V (byI byL byL_length byL_snoc byI_plain strOf_bytesOf strOf_append okK okP okR ahK idxV idxB idxB_snoc idxB_length idxA lfT lfV lfB lfB_snoc lfA lfT_length okR_size all_at fullA fullA_k zer pad pad_length bytesOf_len chL chL_length chOk chA R2 C4 S2 kR kC kS atR atC atS zR zC zS leafE indexE C_iso C_iso_mk R_iso R_iso_mk)
set_option linter.unusedSimpArgs false
set_option linter.unusedVariables false
def szE (x : C4) : Nat := 6 + x.2.2.2.size + (lfT x.2.1 x.2.2.1).length
def tot (l : List C4) : Nat := (l.map szE).sum
theorem atC_at {l : List C4} {i : Nat} (h : i < l.length) : atC l i = l[i] := by unfold atC; rw [List.getD, List.getElem?_eq_getElem h]; rfl
theorem lbC_tot (l : List C4) (j : Nat) (hj : j ≤ l.length) : (lbC l j).length = 2 + tot (l.take j) := by
 induction j with
 | zero => rfl
 | succ j ih =>
  have hlt : j < l.length := by omega
  rw [lbC_snoc, List.take_succ_eq_append_getElem hlt]
  unfold tot
  rw [List.map_append, List.sum_append]
  simp only [List.length_append, byL_length, bytesOf_len, List.map_cons, List.map_nil, List.sum_cons, List.sum_nil]
  have e : kyC l j = l[j].1 ∧ szC l j = l[j].2.1 ∧ pgC l j = l[j].2.2.1 ∧ btC l j = l[j].2.2.2 := by
   unfold kyC szC pgC btC
   rw [Int.toNat_natCast, atC_at hlt]; exact ⟨rfl, rfl, rfl, rfl⟩
  rw [e.2.1, e.2.2.1, e.2.2.2, ih (by omega)]
  unfold tot szE
  omega
theorem kin_at : ∀ (l : List C4) (lo : Int), V.kin lo l → ∀ j, j < l.length → (if j = 0 then lo else (atC l (j - 1)).1) < (atC l j).1 ∧ (atC l j).1 ≤ 2147483647
 | [], _, _, j, hj => by simp at hj
 | x :: t, lo, h, 0, hj => ⟨h.1, h.2.1⟩
 | x :: t, lo, h, j + 1, hj => by
  have := kin_at t x.1 h.2.2 j (by simpa using hj)
  rw [if_neg (by omega)]
  show (atC (x :: t) j).1 < (atC t j).1 ∧ _
  cases j with
  | zero => rw [if_pos rfl] at this; exact this
  | succ j => rw [if_neg (by omega)] at this; exact this
theorem fits_tot {l : List C4} (h : V.kin (-1) l) (ho : ∀ x ∈ l, V.cellOk x) : (leafE l).2 = decide (2 + tot l ≤ 128) := by
 have hst : ∀ j, j < l.length → stC l j = true := by
  intro j hj
  have hk := kin_at l (-1) h j hj
  have hc := ho _ (List.getElem_mem hj)
  unfold stC
  have e : kyC l j = l[j].1 ∧ szC l j = l[j].2.1 ∧ pgC l j = l[j].2.2.1 ∧ btC l j = l[j].2.2.2 := by
   unfold kyC szC pgC btC
   rw [Int.toNat_natCast, atC_at hj]; exact ⟨rfl, rfl, rfl, rfl⟩
  rw [Bool.and_eq_true]
  refine ⟨?_, by rw [e.2.1, e.2.2.1, e.2.2.2]; exact hc.2⟩
  unfold okK ahK kyC
  rw [Bool.and_eq_true, decide_eq_true_eq, decide_eq_true_eq, Int.toNat_natCast]
  refine ⟨?_, hk.2⟩
  by_cases h0 : j = 0
  ·subst h0
   rw [if_pos rfl] at hk
   rw [if_pos (show ((0 : Nat) : Int) = 0 from rfl)]; exact hk.1
  ·rw [if_neg h0] at hk
   rw [if_neg (by omega), show ((j : Int) - 1).toNat = j - 1 by omega]; exact hk.1
 have hl := lbC_len l l.length hst
 have ht := lbC_tot l l.length (Nat.le_refl _)
 rw [List.take_length] at ht
 rw [leafE_is, ← ht]
 unfold leafR
 by_cases h2 : (lbC l l.length).length ≤ 128
 ·rw [if_pos ((leafOk_iff l).2 ⟨by omega, hst, h2⟩), decide_eq_true h2]
 ·rw [if_neg (fun h3 => h2 ((leafOk_iff l).1 h3).2.2), decide_eq_false h2]
theorem szE_cell (r : R2) (h : r.2.size ≤ 900) : szE (V.cellE r 2) = if r.2.size ≤ 24 then 6 + r.2.size else 8 := by
 unfold szE V.cellE
 by_cases h1 : r.2.size ≤ 24
 ·rw [if_pos h1, if_pos h1]
  show 6 + r.2.size + (lfT (r.2.size : Int) 0).length = _
  unfold lfT; rw [if_neg (by omega)]; rfl
 ·rw [if_neg h1, if_neg h1]
  show 6 + (⟨#[]⟩ : ByteArray).size + (lfT (r.2.size : Int) 2).length = 8
  unfold lfT; rw [if_pos (by omega), byL_length]; rfl
theorem cells_kin : ∀ (l : List R2) (a : Int), -1 ≤ a → V.rightF a l = true → V.kin a (l.map (V.cellE · 2))
 | [], _, _, _ => trivial
 | x :: t, a, ha, h => by
  unfold V.rightF at h
  simp only [Bool.and_eq_true, decide_eq_true_eq] at h
  have e : (V.cellE x 2).1 = x.1 := by unfold V.cellE; split <;> rfl
  refine ⟨by rw [e]; exact h.1, by rw [e]; exact h.2.1, ?_⟩
  rw [e]
  exact cells_kin t x.1 (by omega) h.2.2.2
theorem kin_left : ∀ {a b : List C4} {lo : Int}, V.kin lo (a ++ b) → V.kin lo a
  | [], _, _, _ => trivial
  | x :: t, b, lo, h => ⟨h.1, h.2.1, kin_left h.2.2⟩
theorem lv_body (L : List R2) (k N : Nat) (R : Int) (i : Nat) (x : R2) (z : Nat) (hx : atR L i = x) (hlt : i < L.length) (hL : L.length ≤ 1000000) (hz : z = if x.2.size ≤ 24 then 6 + x.2.size else 8) (hNr : N ≤ 1000001) (hRr : 0 ≤ R ∧ R ≤ 126) :
  maquetteref13_leaves.l0 (k + 1) (L.map toRec) (N : Int) R (i : Int) = if (z : Int) > R then maquetteref13_leaves.l0 k (L.map toRec) ((N + 1 : Nat) : Int) ((126 - z : Nat) : Int) ((i + 1 : Nat) : Int) else maquetteref13_leaves.l0 k (L.map toRec) (N : Int) (R - (z : Int)) ((i + 1 : Nat) : Int) := by
 have hwi : wrap64 ((i : Int) + 1) = ((i + 1 : Nat) : Int) := by rw [wrap64_id (by omega) (by omega)]; omega
 have hwn : wrap64 ((N : Int) + 1) = ((N + 1 : Nat) : Int) := by rw [wrap64_id (by omega) (by omega)]; omega
 have c1 : (i : Int) < (L.length : Int) := by omega
 have c2 : 0 ≤ (i : Int) := by omega
 simp only [maquetteref13_leaves.l0, List.length_map, rd84_map, Int.toNat_natCast, hx, hwi, hwn]
 rw [if_pos c1, if_pos c2]
 show (if (x.2.size : Int) ≤ 24 then (if wrap64 (6 + (x.2.size : Int)) > R then maquetteref13_leaves.l0 k (L.map toRec) ((N + 1 : Nat) : Int) (wrap64 (126 - wrap64 (6 + (x.2.size : Int)))) ((i + 1 : Nat) : Int) else maquetteref13_leaves.l0 k (L.map toRec) (N : Int) (wrap64 (R - wrap64 (6 + (x.2.size : Int)))) ((i + 1 : Nat) : Int)) else (if 8 > R then maquetteref13_leaves.l0 k (L.map toRec) ((N + 1 : Nat) : Int) (126 - 8) ((i + 1 : Nat) : Int) else maquetteref13_leaves.l0 k (L.map toRec) (N : Int) (wrap64 (R - 8)) ((i + 1 : Nat) : Int))) = _
 clear c1 c2 hwi hwn hx hlt hL hNr
 obtain ⟨sz, hsz⟩ : ∃ s, s = x.2.size := ⟨_, rfl⟩
 rw [← hsz] at hz ⊢
 clear hsz
 by_cases h24 : sz ≤ 24
 ·rw [if_pos h24] at hz
  have e6 : wrap64 (6 + (sz : Int)) = (z : Int) := by rw [wrap64_id (by omega) (by omega)]; omega
  have e126 : wrap64 (126 - (z : Int)) = ((126 - z : Nat) : Int) := by rw [wrap64_id (by omega) (by omega)]; omega
  rw [if_pos (by omega), e6, e126]
  by_cases hc : (z : Int) > R
  ·rw [if_pos hc, if_pos hc]
  ·rw [if_neg hc, if_neg hc, wrap64_id (by omega) (by omega)]
 ·rw [if_neg h24] at hz
  subst hz
  rw [if_neg (by omega)]
  by_cases hc : (8 : Int) > R
  ·rw [if_pos hc, if_pos (show ((8 : Nat) : Int) > R from hc)]; rfl
  ·rw [if_neg hc, if_neg (show ¬ ((8 : Nat) : Int) > R from hc), wrap64_id (by omega) (by omega)]; rfl
theorem r_rng (cur : List C4) : 0 ≤ (if cur = [] then (0 : Int) else ((126 - tot cur : Nat) : Int)) ∧ (if cur = [] then (0 : Int) else ((126 - tot cur : Nat) : Int)) ≤ 126 := by
  generalize tot cur = t
  split
  · exact ⟨by decide, by decide⟩
  · exact ⟨by omega, by omega⟩
theorem n_rng (cur : List C4) (n i : Nat) (hn : n ≤ i) (hi : i ≤ 1000000) : n + (if cur = [] then 0 else 1) ≤ 1000001 := by
  split <;> omega
set_option maxHeartbeats 1000000 in
theorem leaves_l (L : List R2) (hL : L.length ≤ 1000000) : ∀ (r : List R2) (i : Nat) (cur : List C4) (n k : Nat), L.drop i = r → i + r.length = L.length → n ≤ i → r.length < k →
  V.kin (-1) (cur ++ r.map (V.cellE · 2)) → (∀ x ∈ cur ++ r.map (V.cellE · 2), V.cellOk x) → (∀ x ∈ r, x.2.size ≤ 900) → 2 + tot cur ≤ 128 →
  maquetteref13_leaves.l0 k (L.map toRec) ((n + (if cur = [] then 0 else 1) : Nat) : Int) (if cur = [] then 0 else ((126 - tot cur : Nat) : Int)) (i : Int) = some (((n + (V.lvs cur (r.map (V.cellE · 2))).length : Nat) : Int))
 | [], i, cur, n, k, hd, hi, hn, hk, h1, h2, h3, h4 => by
  obtain ⟨k, rfl⟩ : ∃ m, k = m + 1 := ⟨k - 1, by omega⟩
  have hi2 : i = L.length := by simpa using hi
  simp only [maquetteref13_leaves.l0, List.length_map]
  rw [if_neg (by omega)]
  cases cur with
  | nil => rfl
  | cons x t => rfl
 | x :: t, i, cur, n, k, hd, hi, hn, hk, h1, h2, h3, h4 => by
  rw [List.length_cons] at hi hk
  obtain ⟨k, rfl⟩ : ∃ m, k = m + 1 := ⟨k - 1, by omega⟩
  have hlt : i < L.length := by omega
  have hx : atR L i = x := by
   have := List.drop_eq_getElem_cons hlt
   rw [hd] at this
   injection this with e1 e2
   rw [atR_at hlt, ← e1]
  have hd2 : L.drop (i + 1) = t := by
   have := List.drop_eq_getElem_cons hlt
   rw [hd] at this
   injection this with e1 e2
   exact e2.symm
  have hsx := h3 x (List.mem_cons_self ..)
  have hz := szE_cell x hsx
  obtain ⟨z, hz2⟩ : ∃ z : Nat, z = szE (V.cellE x 2) := ⟨_, rfl⟩
  have hzr : 6 ≤ z ∧ z ≤ 30 := by rw [hz2, hz]; split <;> omega
  have hwi : wrap64 ((i : Int) + 1) = ((i + 1 : Nat) : Int) := by rw [wrap64_id (by omega) (by omega)]; omega
  have hbody := lv_body L k (n + (if cur = [] then 0 else 1)) (if cur = [] then 0 else ((126 - tot cur : Nat) : Int)) i x z hx hlt hL (by rw [hz2, hz]) (n_rng cur n i hn (Nat.le_trans (Nat.le_of_lt hlt) hL)) (r_rng cur)
  rw [hbody, List.map_cons]
  have htc : ∀ c : List C4, tot (c ++ [V.cellE x 2]) = tot c + z := by
   intro c; unfold tot; rw [List.map_append, List.sum_append, hz2]; simp
  rw [List.map_cons] at h1 h2
  have e0 : cur ++ V.cellE x 2 :: t.map (V.cellE · 2) = (cur ++ [V.cellE x 2]) ++ t.map (V.cellE · 2) := by rw [List.append_assoc]; rfl
  rw [e0] at h1 h2
  have hfit := fits_tot (kin_left h1) (fun y hy => h2 y (List.mem_append_left _ hy))
  rw [htc] at hfit
  have h3t : ∀ y ∈ t, y.2.size ≤ 900 := fun y hy => h3 y (List.mem_cons_of_mem _ hy)
  have h1d : V.kin (-1) ([V.cellE x 2] ++ t.map (V.cellE · 2)) := by
   rw [List.append_assoc] at h1
   exact V.kin_drop h1
  have h2d : ∀ y ∈ [V.cellE x 2] ++ t.map (V.cellE · 2), V.cellOk y := fun y hy => h2 y (by rw [List.append_assoc]; exact List.mem_append_right _ hy)
  have hne : cur ++ [V.cellE x 2] ≠ [] := by simp
  unfold V.lvs
  cases cur with
  | nil =>
   rw [if_pos rfl, if_pos rfl, if_pos (by omega)]
   have hf : (leafE ([] ++ [V.cellE x 2])).2 = true := by rw [hfit]; exact decide_eq_true (by show 2 + (tot [] + z) ≤ 128; show 2 + (0 + z) ≤ 128; omega)
   rw [if_pos hf]
   have := leaves_l L hL t (i + 1) ([] ++ [V.cellE x 2]) n k hd2 (by omega) (by omega) (by omega) h1 h2 h3t (by rw [htc]; show 2 + (0 + z) ≤ 128; omega)
   rw [if_neg hne, if_neg hne, htc] at this
   rw [show tot [] + z = z by show 0 + z = z; omega] at this
   exact this
  | cons y c =>
   have hyc : ¬ (y :: c : List C4) = [] := by simp
   rw [if_neg hyc, if_neg hyc]
   by_cases hf : 2 + (tot (y :: c) + z) ≤ 128
   ·have hf2 : (leafE (y :: c ++ [V.cellE x 2])).2 = true := by rw [hfit]; exact decide_eq_true hf
    rw [if_neg (by omega), if_pos hf2]
    have := leaves_l L hL t (i + 1) (y :: c ++ [V.cellE x 2]) n k hd2 (by omega) (by omega) (by omega) h1 h2 h3t (by rw [htc]; exact hf)
    rw [if_neg hne, if_neg hne, htc] at this
    rw [show ((126 - tot (y :: c) : Nat) : Int) - (z : Int) = ((126 - (tot (y :: c) + z) : Nat) : Int) by omega]
    exact this
   ·have hf2 : ¬ (leafE (y :: c ++ [V.cellE x 2])).2 = true := by rw [hfit, decide_eq_false hf]; decide
    rw [if_pos (by omega), if_neg hf2]
    have := leaves_l L hL t (i + 1) [V.cellE x 2] (n + 1) k hd2 (by omega) (by omega) (by omega) h1d h2d h3t (by have := htc []; rw [List.nil_append] at this; rw [this]; show 2 + (0 + z) ≤ 128; omega)
    rw [if_neg (by simp), if_neg (by simp)] at this
    have e1 : tot [V.cellE x 2] = z := by have := htc []; rw [List.nil_append] at this; rw [this]; show 0 + z = z; omega
    rw [e1] at this
    rw [List.length_cons, show n + ((V.lvs [V.cellE x 2] (t.map (V.cellE · 2))).length + 1) = n + 1 + (V.lvs [V.cellE x 2] (t.map (V.cellE · 2))).length by omega]
    exact this
theorem rleaves_k (l : List R2) (hl : l.length ≤ 1000000) (h : V.rightF (-1) l = true) (k : Nat) (hk : l.length < k) : maquetteref13_leaves.f k (l.map toRec) = some (((V.lvs [] (l.map (V.cellE · 2))).length : Nat) : Int) := by
 have hr := V.rightF_mem l (-1) (by omega) h
 unfold maquetteref13_leaves.f
 have := leaves_l l hl l 0 [] 0 k rfl (by omega) (by omega) hk (cells_kin l (-1) (by omega) h) (fun y hy => by
  rw [List.nil_append] at hy
  obtain ⟨r, hr2, rfl⟩ := List.mem_map.1 hy
  have := hr r hr2
  exact V.cellE_ok this.1 this.2.1 this.2.2 (fun _ => by decide)) (fun r hr2 => (hr r hr2).2.2) (by decide)
 rw [if_pos rfl, if_pos rfl] at this
 rw [show 0 + (V.lvs [] (l.map (V.cellE · 2))).length = (V.lvs [] (l.map (V.cellE · 2))).length by omega] at this
 exact this
end Go.Proofs.Ytpeeojbhfebcdaa.PRf
end
section
namespace Go.Proofs.Ytpeeojbhfebcdaa.PRf
open Go.RowKit Go.Proofs.YtpeeojbhfebcdaaW.PrintWords Go.Proofs.YtpeeojbhfebcdaaW.PrintLast Go.Proofs.YtpeeojbhfebcdaaW.PrintMore
open Go.Proofs.Ytpeeojbhfebcdaa
open Go.Proofs.YtpeeojbhfebcdaaM
open Go.Proofs.Ytpeeojbhfebcdaa.V (byI byL byL_length byL_snoc byI_plain strOf_bytesOf strOf_append okK okP okR ahK idxV idxB idxB_snoc idxB_length idxA lfT lfV lfB lfB_snoc lfA lfT_length okR_size all_at fullA fullA_k zer pad pad_length bytesOf_len chL chL_length chOk chA R2 C4 S2 kR kC kS atR atC atS zR zC zS leafE indexE C_iso C_iso_mk R_iso R_iso_mk at_R kR_mkM PS putN putS knF knS KnOut wfS put_some put_cons put_nil)
set_option linter.unusedSimpArgs false
set_option linter.unusedVariables false
def IsD (w0 w : World) (g : Nat) (hv : List R2) (S : PS) (fl : Bool) : Prop :=
  ∃ B d A c v, w.heap[g]? = some (.cells #[.slice B hv.length d, v, .slice A S.free.length c, .bool fl] 82 (0, 0)) ∧ w0.heap.size ≤ g ∧ Kd.C kR w0 B hv.length hv ∧ hv.length ≤ d ∧ Kd.C (Kd.int .i64) w0 A S.free.length S.free ∧ S.free.length ≤ c ∧ kR.R 91 w w0.heap.size (fun _ => True) v S.out ∧ Below w0.heap.size w0 w
def Kw (w w1 : World) (g : Nat) : Prop := w.heap.size ≤ w1.heap.size ∧ ∀ k c t, t ≠ 91 → k ≠ g → w.heap[k]? = some (.cells c t (0, 0)) → w1.heap[k]? = some (.cells c t (0, 0))
theorem Kw.refl (w : World) (g : Nat) : Kw w w g := ⟨Nat.le_refl _, fun _ _ _ _ _ h => h⟩
theorem Kw.trans {a b c : World} {g : Nat} (h : Kw a b g) (h2 : Kw b c g) : Kw a c g := ⟨Nat.le_trans h.1 h2.1, fun k x t ht hk hb => h2.2 k x t ht hk (h.2 k x t ht hk hb)⟩
theorem Kw.below {w w1 : World} (h : Below w.heap.size w w1) (g : Nat) : Kw w w1 g := ⟨h.size, fun k c t _ _ hb => (h.block k (blk_lt hb)).trans hb⟩
theorem Kw.set {w : World} {g j : Nat} {v : Value} : Kw w (w.setCell ⟨g, j, none⟩ v) g := ⟨by simp [World.setCell], fun k c t _ hk hb => (Below.heap_setCell w ⟨g, j, none⟩ v k hk).trans hb⟩
theorem Kw.row {w w1 : World} {g b : Nat} {ok : Nat → Prop} {v : Value} {xs : List R2} (hr : kR.R 91 w b ok v xs) (h : w.grownBy w1 v.ownBlock) : Kw w w1 g := ⟨h.size, fun k c t ht _ hb => (h.block k (blk_lt hb) (Kd.R_ne hr hb (Ne.symm ht))).trans hb⟩
theorem Kw.R {α : Type} {d : Kd α} {e : Nat} {w w1 : World} {g base : Nat} {ok : Nat → Prop} {v : Value} {xs : List α} {cs : Array Value} (h : Kw w w1 g) (hg : w.heap[g]? = some (.cells cs 82 (0, 0))) (hr : d.R e w base ok v xs) (ht : ∀ q, q ∈ e :: d.E → q ≠ 91 ∧ q ≠ 82) : d.R e w1 base ok v xs :=
 Kd.R_mono (Kd.R_move (Kd.R_bound hr) (fun k hk => by
  obtain ⟨_, _, _, q, hq, cells, hc⟩ := hk
  have hkg : k ≠ g := by
   rintro rfl
   rw [hc] at hg
   injection hg with hg
   injection hg with _ hg
   exact (ht q hq).2 hg
  rw [h.2 k cells q (ht q hq).1 hkg hc, hc])) (fun _ h => h.1)
theorem cell82 {w : World} {g : Nat} {a b c d : Value} (h : w.heap[g]? = some (.cells #[a, b, c, d] 82 (0, 0))) :
  w.cell? ⟨g, 0, none⟩ = some a ∧ w.cell? ⟨g, 1, none⟩ = some b ∧ w.cell? ⟨g, 2, none⟩ = some c ∧ w.cell? ⟨g, 3, none⟩ = some d :=
 ⟨(blk_cell h 0).trans rfl, (blk_cell h 1).trans rfl, (blk_cell h 2).trans rfl, (blk_cell h 3).trans rfl⟩
theorem IsD.blk {w0 w : World} {g : Nat} {hv : List R2} {S : PS} {fl : Bool} (h : IsD w0 w g hv S fl) : ∃ cs, w.heap[g]? = some (.cells cs 82 (0, 0)) := by
  obtain ⟨_, _, _, _, _, h1, _⟩ := h
  exact ⟨_, h1⟩
theorem IsD.bel {w0 w : World} {g : Nat} {hv : List R2} {S : PS} {fl : Bool} (h : IsD w0 w g hv S fl) : Below w0.heap.size w0 w := by
  obtain ⟨_, _, _, _, _, _, _, _, _, _, _, _, h1⟩ := h
  exact h1
theorem knF_go (b : ByteArray) : ∀ (l : List R2) (k : ByteArray → Option Int), (l.foldl knS k) b = match k b with | some n => some n | none => (l.find? (fun x => decide (x.2 = b))).map (·.1)
 | [], k => by cases h : k b <;> simp [h]
 | x :: t, k => by
  rw [List.foldl_cons, knF_go b t]
  unfold knS
  cases hx : k x.2 with
  | some m =>
   simp only []
   by_cases he : x.2 = b
   ·rw [← he, hx]
   ·cases hb : k b with
    | some n => rfl
    | none => simp only [List.find?_cons, decide_eq_false he]
  | none =>
   simp only [upd]
   by_cases he : x.2 = b
   ·subst he
    rw [if_pos rfl, hx]
    simp only [List.find?_cons, decide_eq_true_eq, decide_true]
    rfl
   ·rw [if_neg (fun h => he h.symm)]
    cases hb : k b with
    | some n => rfl
    | none => simp only [List.find?_cons, decide_eq_false he]
theorem knF_find (l : List R2) (b : ByteArray) : knF l b = (l.find? (fun x => decide (x.2 = b))).map (·.1) := knF_go b l _
theorem find_at : ∀ (l : List R2) (b : ByteArray) (i : Nat), i < l.length → (∀ j, j < i → (atR l j).2 ≠ b) → (atR l i).2 = b → (l.find? (fun x => decide (x.2 = b))).map (·.1) = some (atR l i).1
 | x :: t, b, 0, _, _, h => by
  have h : x.2 = b := h
  rw [List.find?_cons, decide_eq_true h]; rfl
 | x :: t, b, i + 1, hi, hn, h => by
  have h0 : x.2 ≠ b := hn 0 (by omega)
  rw [List.find?_cons, decide_eq_false h0]
  exact find_at t b i (by simpa using hi) (fun j hj => hn (j + 1) (by omega)) h
theorem find_no (l : List R2) (b : ByteArray) (h : ∀ j, j < l.length → (atR l j).2 ≠ b) : l.find? (fun x => decide (x.2 = b)) = none := by
  rw [List.find?_eq_none]
  intro x hx
  obtain ⟨j, hj, rfl⟩ := atR_mem.1 hx
  simpa using h j hj
theorem kn_have {hv out : List R2} {b : ByteArray} {i : Nat} (hi : i < hv.length) (hn : ∀ j, j < i → (atR hv j).2 ≠ b) (h : (atR hv i).2 = b) : knF (hv ++ out) b = some (atR hv i).1 := by
  rw [knF_find, List.find?_append]
  have := find_at hv b i hi hn h
  cases hf : hv.find? (fun x => decide (x.2 = b)) with
  | none => rw [hf] at this; cases this
  | some y => rw [hf] at this; exact this
theorem kn_out {hv out : List R2} {b : ByteArray} {i : Nat} (hh : ∀ j, j < hv.length → (atR hv j).2 ≠ b) (hi : i < out.length) (hn : ∀ j, j < i → (atR out j).2 ≠ b) (h : (atR out i).2 = b) : knF (hv ++ out) b = some (atR out i).1 := by
  rw [knF_find, List.find?_append, find_no hv b hh]
  exact find_at out b i hi hn h
theorem kn_none {hv out : List R2} {b : ByteArray} (hh : ∀ j, j < hv.length → (atR hv j).2 ≠ b) (hn : ∀ j, j < out.length → (atR out j).2 ≠ b) : knF (hv ++ out) b = none := by
  rw [knF_find, List.find?_append, find_no hv b hh, find_no out b hn]; rfl
set_option maxHeartbeats 16000000 in
set_option maxRecDepth 100000 in
theorem rpage_any {w0 w : World} {g : Nat} {hv : List R2} {S : PS} (h : IsD w0 w g hv S false) (hk : KnOut hv S) (he : S.e = 0) (b : ByteArray) (ho : S.out.length ≤ 100000) (hh : hv.length ≤ 100000) :
  Calls Try.prog 36 #[.pointer (some ⟨g, 0, none⟩), .string b] w fun e w' => ∃ n, e = .returned (.int .i64 n) ∧ (((putS S b true).e = 0 ∧ n = putN S b true ∧ IsD w0 w' g hv (putS S b true) false) ∨ ((putS S b true).e ≠ 0 ∧ IsD w0 w' g hv S true)) ∧ Kw w w' g := by
 have hP := Aside0.mk h
 obtain ⟨B, d, A, c, v, h1, h2, h3, h4, h5, h6, h7, h8⟩ := h
 obtain ⟨c0, c1, c2, c3⟩ := cell82 h1
 obtain ⟨D, f, rfl⟩ := Kd.R_slice h7
 have hrd := Kd.R_reads' h7
 have H1 := Aside0.mk h1
 have H2 := Aside0.mk h2
 have H3 := Aside0.mk h3
 have H4 := Aside0.mk h4
 have H5 := Aside0.mk h5
 have H6 := Aside0.mk h6
 have H7 := Aside0.mk h7
 have H8 := Aside0.mk h8
 have HRD := Aside0.mk (And.intro hrd.2.2 hrd.2.1)
 have HK := Aside0.mk hk
 have HE := Aside0.mk he
 have HO := Aside0.mk ho
 have HH := Aside0.mk hh
 clear h1 h2 h3 h4 h5 h6 h7 h8 hrd hk he ho hh
 go_enter Try.func36, Try.ntmps36
 go_wp2_with (fail)
 go_loopg [5] hv.length (fun kq v5 W => ∃ i : Int, v5 = .int .i64 i ∧ Aside0 (0 ≤ i ∧ i + kq = hv.length) ∧ Aside0 (∀ j, j < i.toNat → (atR hv j).2 ≠ b) ∧ W = w)
 case atStart => exact ⟨0, rfl, ⟨by omega⟩, ⟨fun j hj => by simp at hj⟩, rfl⟩
 case round =>
  obtain ⟨i, rfl, HI, HN, hw⟩ := hrel
  subst hw
  cases gk with
  | succ gk =>
   have hi : 0 ≤ i ∧ i < (hv.length : Int) := by have := HI.out; omega
   have d0 : decide (i < (hv.length : Int)) = true := decide_eq_true hi.2
   obtain ⟨ad, e, hx0, hx1⟩ := at_R H3.out i.toNat (by omega)
   cases e
   replace hx0 := (H8.out.cell (World.block_lt_of_cell? w0 _ hx0)).trans hx0
   replace hx1 := (H8.out.cell (World.block_lt_of_cell? w0 _ hx1)).trans hx1
   have p0 : (0 ≤ i) = True := eq_true hi.1
   have p1 : (i < (hv.length : Int)) = True := eq_true hi.2
   obtain ⟨x, hx⟩ : ∃ x, x = atR hv i.toNat := ⟨_, rfl⟩
   have HX := Aside0.mk hx
   rw [← hx] at hx0 hx1
   obtain ⟨x0, x1⟩ := x
   simp only [] at hx0 hx1
   clear hx
   by_cases hq : x1 = b
   ·have q1 : (x1.toList == b.toList) = true := by rw [hq]; exact beq_self_eq_true _
    have HQ := Aside0.mk hq
    have HIL := Aside0.mk hi
    clear hq hi
    go_wp2
    go_ret
    have hkn : S.known b = some x0 := by
     rw [HK.out]
     have := kn_have (hv := hv) (out := S.out) (b := b) (i := i.toNat) (by have := HIL.out; omega) HN.out (by rw [← HX.out]; exact HQ.out)
     rw [this, ← HX.out]
    have hp := put_some HE.out hkn
    exact ⟨x0, rfl, .inl ⟨by rw [hp.1]; exact HE.out, hp.2.symm, by rw [hp.1]; exact hP.out⟩, Kw.refl _ _⟩
   ·have q1 : (x1.toList == b.toList) = false := by
     rw [beq_eq_false_iff_ne]; intro h2; apply hq
     rw [ByteArray.toList_eq, ByteArray.toList_eq] at h2
     cases x1; cases b; congr 1; exact Array.toList_inj.1 h2
    have HQ := Aside0.mk hq
    clear hq hi
    go_wp2
    go_roundg gk
    case measure => omega
    case rel => exact ⟨wrap64 (i + 1), by first | rfl | (simp; done) | (simp [*]; done), ⟨by have := HI.out; have := of_eq_true p1; have := HH.out; rw [wrap64_id (by omega) (by omega)]; omega⟩, ⟨by
     have h9 := HI.out; have h8 := of_eq_true p1; have h7 := HH.out
     rw [wrap64_id (by omega) (by omega)]
     intro j hj
     by_cases hji : j = i.toNat
     ·rw [hji, ← HX.out]; exact HQ.out
     ·exact HN.out j (by omega)⟩, rfl⟩
  | zero =>
   have hi : i = (hv.length : Int) := by have := HI.out; omega
   subst hi
   have d0 : decide ((hv.length : Int) < (hv.length : Int)) = false := decide_eq_false (by omega)
   have d0b : decide (hv.length < hv.length) = false := decide_eq_false (by omega)
   have HN1 := Aside0.mk (show ∀ j, j < hv.length → (atR hv j).2 ≠ b from fun j hj => HN.out j (by rw [Int.toNat_natCast]; exact hj))
   clear HN HI
   go_wp2_with (fail)
   go_loopg [6] S.out.length (fun kq v6 W => ∃ i : Int, v6 = .int .i64 i ∧ Aside0 (0 ≤ i ∧ i + kq = S.out.length) ∧ Aside0 (∀ j, j < i.toNat → (atR S.out j).2 ≠ b) ∧ W = wr)
   case atStart => exact ⟨0, rfl, ⟨by omega⟩, ⟨fun j hj => by simp at hj⟩, rfl⟩
   case round =>
    clear d0 d0b
    obtain ⟨i, rfl, HI, HN, hw⟩ := hrel
    subst hw
    cases gk with
    | succ gk =>
     have hi : 0 ≤ i ∧ i < (S.out.length : Int) := by have := HI.out; omega
     have d0 : decide (i < (S.out.length : Int)) = true := decide_eq_true hi.2
     obtain ⟨ad, e, hx0, hx1⟩ := at_R HRD.out.1 i.toNat (by omega)
     cases e
     have p0 : (0 ≤ i) = True := eq_true hi.1
     have p1 : (i < (S.out.length : Int)) = True := eq_true hi.2
     obtain ⟨x, hx⟩ : ∃ x, x = atR S.out i.toNat := ⟨_, rfl⟩
     have HX := Aside0.mk hx
     rw [← hx] at hx0 hx1
     obtain ⟨x0, x1⟩ := x
     simp only [] at hx0 hx1
     clear hx
     by_cases hq : x1 = b
     ·have q1 : (x1.toList == b.toList) = true := by rw [hq]; exact beq_self_eq_true _
      have HQ := Aside0.mk hq
      have HIL := Aside0.mk hi
      clear hq hi
      go_wp2
      go_ret
      have hkn : S.known b = some x0 := by
       rw [HK.out]
       have := kn_out (hv := hv) (out := S.out) (b := b) (i := i.toNat) HN1.out (by have := HIL.out; omega) HN.out (by rw [← HX.out]; exact HQ.out)
       rw [this, ← HX.out]
      have hp := put_some HE.out hkn
      exact ⟨x0, rfl, .inl ⟨by rw [hp.1]; exact HE.out, hp.2.symm, by rw [hp.1]; exact hP.out⟩, Kw.refl _ _⟩
     ·have q1 : (x1.toList == b.toList) = false := by
       rw [beq_eq_false_iff_ne]; intro h2; apply hq
       rw [ByteArray.toList_eq, ByteArray.toList_eq] at h2
       cases x1; cases b; congr 1; exact Array.toList_inj.1 h2
      have HQ := Aside0.mk hq
      clear hq hi
      go_wp2
      go_roundg gk
      case measure => omega
      case rel => exact ⟨wrap64 (i + 1), by first | rfl | (simp; done) | (simp [*]; done), ⟨by have := HI.out; have := of_eq_true p1; have := HO.out; rw [wrap64_id (by omega) (by omega)]; omega⟩, ⟨by
       have h9 := HI.out; have h8 := of_eq_true p1; have h7 := HO.out
       rw [wrap64_id (by omega) (by omega)]
       intro j hj
       by_cases hji : j = i.toNat
       ·rw [hji, ← HX.out]; exact HQ.out
       ·exact HN.out j (by omega)⟩, rfl⟩
    | zero =>
     have hi : i = (S.out.length : Int) := by have := HI.out; omega
     subst hi
     have d0 : decide ((S.out.length : Int) < (S.out.length : Int)) = false := decide_eq_false (by omega)
     have d0b : decide (S.out.length < S.out.length) = false := decide_eq_false (by omega)
     have hkn : S.known b = none := by
      rw [HK.out]
      exact kn_none HN1.out (fun j hj => HN.out j (by rw [Int.toNat_natCast]; exact hj))
     have HKN := Aside0.mk hkn
     clear HN HI hkn
     by_cases hf : S.free.length = 0
     ·have hf2 : S.free = [] := List.eq_nil_of_length_eq_zero hf
      have d5 : ((S.free.length : Int) == 0) = true := by rw [hf]; rfl
      have d5b : (S.free.length == 0) = true := by rw [hf]; rfl
      have HF := Aside0.mk hf2
      have f3 := blk_frozen H1.out 3
      clear hf hf2
      go_wp2
      go_ret
      have e2 : (putS S b true).e ≠ 0 := by rw [put_nil HE.out HKN.out HF.out]; show (8 : Int) ≠ 0; decide
      exact ⟨2, rfl, .inr ⟨e2, ⟨B, d, A, c, _, by simpa using blk_set H1.out 3 (.bool true), H2.out, H3.out, H4.out, H5.out, H6.out, Kd.R_set H7.out H1.out (by intro q hq; simp [kR, Kd.pair, Kd.int, Kd.string, Kd.scalar] at hq; omega) 3 _, below_set H8.out H2.out⟩⟩, Kw.set⟩
     ·obtain ⟨n, fr, hf2⟩ := V.len0 (Nat.pos_of_ne_zero hf)
      have hp := put_cons HE.out HKN.out hf2
      have HP2 := Aside0.mk hp
      have HF2 := Aside0.mk hf2
      have h5 := H5.out
      have h6 := H6.out
      rw [hf2] at h5 h6 c2
      have h1 := H1.out
      rw [hf2] at h1
      clear H1 H5 H6 hf hp HKN hP
      change wr.cell? ⟨g, 2, none⟩ = some (.slice A (fr.length + 1) c) at c2
      change wr.heap[g]? = some (.cells #[.slice B hv.length d, .slice D S.out.length f, .slice A (fr.length + 1) c, .bool false] 82 (0, 0)) at h1
      have H1 := Aside0.mk h1
      obtain ⟨i3, hi3, hz3⟩ := Option.map_eq_some_iff.1 info3
      have hsz3 : i3.size = 1 := by simp only [Prod.mk.injEq] at hz3; exact hz3.2.1
      obtain ⟨ad, rfl, hx0⟩ := Kd.at_int h5 0 (by omega) (by simp)
      have hx1 : wr.cell? ad = some (.int .i64 n) := by
       have e0 : ad.add (0 : Int).toNat = ad := by simp [Addr.add]
       rw [e0] at hx0
       exact (H8.out.cell (World.block_lt_of_cell? w0 _ hx0)).trans hx0
      change fr.length + 1 ≤ c at h6
      obtain ⟨A', hcut, hread, hcap⟩ := print_drop_of (P := Try.prog) (Value.int .i64) (0 : Int) 24 3 .i64 Try.underlying24 hi3 hsz3 (some ad) c (n :: fr) 1 (by omega) (by simp; omega) (by simpa using h6)
      change ∀ W, (Instr.slice 24 (.slice (some ad) (fr.length + 1) c) (some (.int .i64 1)) none none).run Try.prog W = .ok (.slice A' fr.length (c - 1)) W at hcut
      change fr.length ≤ c - 1 at hcap
      have hC' : Kd.C (Kd.int .i64) w0 A' fr.length fr := by
       have := hread w0 (Kd.reads_of_C (d := (0 : Int)) h5)
       exact Kd.C_of_reads this
      have HC' := Aside0.mk hC'
      have HCAP := Aside0.mk hcap
      obtain ⟨nf, hnf⟩ : ∃ nf, nf = fr.length := ⟨_, rfl⟩
      have HNF := Aside0.mk hnf
      rw [← hnf] at hcut c2
      have hnm : nf + 1 ≤ 9223372036854775807 := by
       have h9 : fr.length + 1 ≤ 9223372036854775807 := h5.2.1
       rw [hnf]; exact h9
      have d5 : (0 < nf + 1) = True := eq_true (by omega)
      have d6 : ((0 : Int) < (nf : Int) + 1) = True := eq_true (by omega)
      have d7 : ((nf : Int) + 1 == 0) = false := by simp; omega
      have d8 : (nf + 1 == 0) = false := by simp
      have f2 := blk_frozen h1 2
      clear h1 h5 h6 hx0 hread hC' hcap hi3 hz3 hsz3 hnf hf2
      go_upto_region 16 with (fail)
      obtain ⟨w1, hw1⟩ : ∃ w1, w1 = wr.setCell ⟨g, 2, none⟩ (.slice A' nf (c - 1)) := ⟨_, rfl⟩
      rw [← hw1]
      have K1 := Aside0.mk (show w1.heap[g]? = some (.cells #[.slice B hv.length d, .slice D S.out.length f, .slice A' nf (c - 1), .bool false] 82 (0, 0)) from by rw [hw1]; simpa using blk_set H1.out 2 (.slice A' nf (c - 1)))
      have R1 := Aside0.mk (show kR.R 91 w1 w0.heap.size (fun _ => True) (.slice D S.out.length f) S.out from by rw [hw1]; exact Kd.R_set H7.out H1.out (by intro q hq; simp [kR, Kd.pair, Kd.int, Kd.string, Kd.scalar] at hq; omega) 2 _)
      have B1 := Aside0.mk (show Below w0.heap.size w0 w1 from by rw [hw1]; exact below_set H8.out H2.out)
      have W1 := Aside0.mk (show Kw wr w1 g from by rw [hw1]; exact Kw.set)
      obtain ⟨e0, e1, e2, e3⟩ := cell82 K1.out
      clear hw1 c0 c1 c2 c3 f2 d5 d6 d7 d8 hcut hx1
      go_wp2_with (first
       | ((with_reducible refine gate_builtin (b := .append) (xs := #[.tmp 89, .tmp 93]) rfl ?_); at_builtin; go_must (refine Kd.R_append kR w0.heap.size rfl (.tmp 89) (.tmp 93) 32 91 (.agg #[(.int .i64 0), (.string ⟨#[]⟩)]) 24 rfl Try.underlying32 info91 rfl (by decide) (by omega) _ S.out (n, b) [.int .i64 n, .string b] (fun k => True) (fun _ => False) rfl rfl (kR_mkM _ _ _ (n, b)) (fun _ hk => hk.elim) (fun _ _ => trivial) (Kd.R_mono R1.out (fun _ _ => trivial)) B1.out B1.out.size (by have := HO.out; omega) ?_); intro v3 w3 ho_ hb_ hg_ hat_; obtain ⟨A3, d3, e3⟩ := Kd.R_slice ho_; obtain ⟨l3, hl3⟩ : ∃ l3 : Nat, l3 = (S.out ++ [(n, b)]).length := ⟨_, rfl⟩; rw [← hl3] at e3; clear hl3; subst e3; have R3 := Aside0.mk ho_; have B3 := Aside0.mk hb_; have K3 := Aside0.mk ((hg_.block g (blk_lt K1.out) (Kd.R_ne R1.out K1.out (by decide))).trans K1.out); have W3 := Aside0.mk (W1.out.trans (Kw.row R1.out hg_)); have z2 := (cell82 K3.out).2.1; have zf2 := blk_frozen K3.out 1; clear ho_ hb_ hg_ hat_))
      go_ret
      refine ⟨n, rfl, .inl ⟨by rw [HP2.out.1]; exact HE.out, HP2.out.2.symm, ?_⟩, W3.out.trans Kw.set⟩
      rw [HP2.out.1]
      exact ⟨B, d, A', c - 1, .slice A3 l3 d3, by show _ = some (Obj.cells #[_, _, .slice A' fr.length (c - 1), _] 82 (0, 0)); rw [← HNF.out]; simpa using blk_set K3.out 1 (.slice A3 l3 d3), H2.out, H3.out, H4.out, HC'.out, HCAP.out, Kd.R_set R3.out K3.out (by intro q hq; simp [kR, Kd.pair, Kd.int, Kd.string, Kd.scalar] at hq; omega) 1 _, below_set B3.out H2.out⟩
end Go.Proofs.Ytpeeojbhfebcdaa.PRf
end


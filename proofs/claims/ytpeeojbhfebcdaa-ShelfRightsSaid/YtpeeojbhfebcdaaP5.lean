/- Plan, plain: what it computes; what of it stands beside the walk. -/
import Derived.Test.YtpeeojbhfebcdaaP4
namespace Go.Proofs.Ytpeeojbhfebcdaa.V
open Go.RowKit Go.Proofs.YtpeeojbhfebcdaaW.PrintWords Go.Proofs.YtpeeojbhfebcdaaW.PrintLast Go.Proofs.YtpeeojbhfebcdaaW.PrintMore Go.Proofs.YtpeeojbhfebcdaaM
set_option linter.unusedVariables false
set_option linter.unusedSimpArgs false

def rightF : Int → List R2 → Bool
  | _, [] => true
  | a, r :: t => decide (a < r.1) && (decide (r.1 ≤ 2147483647) && (decide (r.2.size ≤ 900) && rightF r.1 t))
def toS45 (r : R2) : PShelfMore.S45 := ⟨r.1, r.2⟩
theorem right_l0 (d : Nat) : ∀ (l : List R2) (a : Int) (i k : Nat), l.length ≤ 1000000 → l.length - i = d → i ≤ l.length → d < k → PShelfMore.shelf_Right.l0 k a (l.map toS45) (l.length : Int) (i : Int) = some (rightF a (l.drop i)) := by
  induction d with
  | zero =>
    intro l a i k hl hd hi hk
    obtain ⟨k, rfl⟩ : ∃ m, k = m + 1 := ⟨k - 1, by omega⟩
    simp only [PShelfMore.shelf_Right.l0]
    rw [if_neg (by omega), List.drop_of_length_le (by omega)]
    rfl
  | succ d ih =>
    intro l a i k hl hd hi hk
    obtain ⟨k, rfl⟩ : ∃ m, k = m + 1 := ⟨k - 1, by omega⟩
    have hi2 : i < l.length := by omega
    have hrd : PShelfMore.rd_T45 (l.map toS45) (i : Int) = toS45 l[i] := by unfold PShelfMore.rd_T45; simp [hi2]
    have h2 := ih l l[i].1 (i + 1) k hl (by omega) (by omega) (by omega)
    simp only [PShelfMore.shelf_Right.l0]
    rw [if_pos (by omega), if_pos (by omega), if_pos (by rw [List.length_map]; omega), hrd, List.drop_eq_getElem_cons hi2]
    rw [show wrap64 ((i : Int) + 1) = ((i + 1 : Nat) : Int) from by unfold wrap64; omega]
    change (if l[i].1 ≤ a then some false else if l[i].1 > 2147483647 then some false else if (l[i].2.size : Int) > 900 then some false else PShelfMore.shelf_Right.l0 k l[i].1 (l.map toS45) (l.length : Int) ((i + 1 : Nat) : Int)) = some (decide (a < l[i].1) && (decide (l[i].1 ≤ 2147483647) && (decide (l[i].2.size ≤ 900) && rightF l[i].1 (l.drop (i + 1)))))
    rw [h2]
    by_cases c1 : l[i].1 ≤ a
    · rw [if_pos c1, decide_eq_false (by omega)]; rfl
    · rw [if_neg c1, decide_eq_true (by omega)]
      by_cases c2 : l[i].1 > 2147483647
      · rw [if_pos c2, decide_eq_false (by omega)]; rfl
      · rw [if_neg c2, decide_eq_true (by omega)]
        by_cases c3 : (l[i].2.size : Int) > 900
        · rw [if_pos c3, decide_eq_false (by omega)]; rfl
        · rw [if_neg c3, decide_eq_true (by omega)]; rfl
theorem rightF_f (l : List R2) (hl : l.length ≤ 1000000) : PShelfMore.shelf_Right.f (l.length + 1) (l.map toS45) = some (rightF (-1) l) := by
  unfold PShelfMore.shelf_Right.f
  rw [List.length_map]
  exact right_l0 l.length l (-1) 0 (l.length + 1) hl (by omega) (by omega) (by omega)
theorem map_S45 (l : List R2) : (l.map toS45).map (fun x : PShelfMore.S45 => (x.f0, x.f1)) = l := by
  rw [List.map_map]
  conv => rhs; rw [← List.map_id l]
  rfl
theorem C_S45 {w : World} {A : Option Addr} {n : Nat} {l : List R2} (h : Kd.C kR w A n l) : Kd.C PShelfMore.k45 w A n (l.map toS45) :=
  C_iso_mk (f := fun x : PShelfMore.S45 => (x.f0, x.f1)) (by rw [map_S45]; exact h)
theorem right_any (A : Option Addr) (c : Nat) (l : List R2) (w : World) (h : Kd.C kR w A l.length l) (hc : l.length ≤ c) (hl : l.length ≤ 1000000) :
    Calls Try.prog 18 #[.slice A l.length c] w fun e w' => e = .returned (.bool (rightF (-1) l)) ∧ Below w.heap.size w w' := by
  have := PShelfMore.shelf_Right.calls (l.length + 1) A c (l.map toS45) _ w (by rw [List.length_map]; exact C_S45 h) (by rw [List.length_map]; exact hc) (rightF_f l hl)
  rw [List.length_map] at this
  exact this
def cellE (r : R2) (p : Int) : C4 := if r.2.size ≤ 24 then (r.1, (r.2.size : Int), 0, r.2) else (r.1, (r.2.size : Int), p, ⟨#[]⟩)
theorem cell_any (r : R2) (p : Int) (w : World) : Calls Try.prog 27 #[.agg #[.int .i64 r.1, .string r.2], .int .i64 p] w fun e w' => e = .returned (.agg #[.int .i64 (cellE r p).1, .int .i64 (cellE r p).2.1, .int .i64 (cellE r p).2.2.1, .string (cellE r p).2.2.2]) ∧ Below w.heap.size w w' :=
  PShelfMore.shelf_cell.calls r.1 r.2 p _ _ _ _ w (by
    unfold PShelfMore.shelf_cell.f cellE
    by_cases h : r.2.size ≤ 24
    · rw [if_pos (by omega), if_pos h]
    · rw [if_neg (by omega), if_neg h])
/-- pages that are there -/
def knS (k : ByteArray → Option Int) (x : R2) : ByteArray → Option Int := match k x.2 with | some _ => k | none => upd k x.2 x.1
def knF (l : List R2) : ByteArray → Option Int := l.foldl knS (fun _ => none)
def chainsF : List R2 → PS → List C4 × PS
  | [], S => ([], S)
  | r :: t, S => if 24 < r.2.size then (cellE r (chainF (pieces r.2) S).1 :: (chainsF t (chainF (pieces r.2) S).2).1, (chainsF t (chainF (pieces r.2) S).2).2) else (cellE r 2 :: (chainsF t S).1, (chainsF t S).2)
def slotsF : List (List C4) → PS → List S2 × PS
  | [], S => ([], S)
  | x :: t, S => if S.e = 0 then (((atC x 0).1, putN S (leafE x).1 (leafE x).2) :: (slotsF t (putS S (leafE x).1 (leafE x).2)).1, (slotsF t (putS S (leafE x).1 (leafE x).2)).2) else slotsF t S
def planS (l hv : List R2) (fr : List Int) : PS := (chainsF l ⟨knF hv, fr, [], 0⟩).2
def planC (l hv : List R2) (fr : List Int) : List C4 := (chainsF l ⟨knF hv, fr, [], 0⟩).1
def planT (l hv : List R2) (fr : List Int) : List S2 × PS := slotsF (lvs [] (planC l hv fr)) (planS l hv fr)
def planZ (l hv : List R2) (fr : List Int) : Int × PS := (putN (planT l hv fr).2 (indexE (planT l hv fr).1).1 (indexE (planT l hv fr).1).2, putS (planT l hv fr).2 (indexE (planT l hv fr).1).1 (indexE (planT l hv fr).1).2)
def planE (l hv : List R2) (fr : List Int) : List R2 × Int × Int :=
  if (rightF (-1) l && mayE (hv.map (·.1)) fr) = true then
    (if 21 < (lvs [] (l.map (cellE · 2))).length then ([], 0, 12)
     else if (planZ l hv fr).2.e = 0 then ((planZ l hv fr).2.out, (planZ l hv fr).1, 0) else ([], 0, (planZ l hv fr).2.e))
  else ([], 0, 9)

theorem piecesF_len (n : Nat) : ∀ b : ByteArray, (piecesF n b).length * 120 ≤ b.size + 119 := by
  induction n with
  | zero => intro b; simp [piecesF]
  | succ n ih =>
    intro b
    unfold piecesF
    split
    · simp
    · rw [List.length_cons]
      have := ih (b.extract (min b.size 120) b.size)
      rw [ByteArray.size_extract] at this
      omega
theorem rightF_mem : ∀ (l : List R2) (a : Int), -1 ≤ a → rightF a l = true → ∀ r ∈ l, -1 < r.1 ∧ r.1 ≤ 2147483647 ∧ r.2.size ≤ 900
  | [], _, _, _, r, h => by cases h
  | x :: t, a, ha, h, r, hm => by
    unfold rightF at h
    simp only [Bool.and_eq_true, decide_eq_true_eq] at h
    obtain ⟨h1, h2, h3, h4⟩ := h
    rcases List.mem_cons.1 hm with rfl | hm
    · exact ⟨by omega, h2, h3⟩
    · exact rightF_mem t x.1 (by omega) h4 r hm
/-- what is known, and what is free, are pages -/
def PgOk (S : PS) : Prop := (∀ b n, S.known b = some n → okP n = true) ∧ ∀ n ∈ S.free, okP n = true
theorem putS_pg {S : PS} (h : PgOk S) (b : ByteArray) (is : Bool) : PgOk (putS S b is) := by
  unfold putS
  split
  · split
    · split
      · exact h
      · split
        · exact h
        · rename_i n fr hf
          refine ⟨fun b2 m hm => ?_, fun m hm => h.2 m (by rw [hf]; exact List.mem_cons_of_mem _ hm)⟩
          by_cases e : b2 = b
          · change upd S.known b n b2 = some m at hm
            rw [e, upd_same] at hm
            injection hm with hm
            rw [← hm]; exact h.2 n (by rw [hf]; exact List.mem_cons_self)
          · change upd S.known b n b2 = some m at hm
            rw [upd_ne _ _ e] at hm
            exact h.1 _ _ hm
    · exact h
  · exact h
theorem putS_e {S : PS} {b : ByteArray} {is : Bool} (h : (putS S b is).e = 0) : S.e = 0 := by
  by_cases e : S.e = 0
  · exact e
  · unfold putS at h; rw [if_neg e] at h; exact h
theorem putN_pg {S : PS} (h : PgOk S) (b : ByteArray) (is : Bool) (he : (putS S b is).e = 0) : okP (putN S b is) = true := by
  have h0 := putS_e he
  unfold putS at he
  unfold putN
  rw [if_pos h0] at he ⊢
  cases is with
  | false => exact absurd he (by show ¬ ((9 : Int) = 0); decide)
  | true =>
    rw [if_pos rfl] at he ⊢
    cases hn : S.known b with
    | some n => exact h.1 _ _ hn
    | none =>
      rw [hn] at he
      cases hf : S.free with
      | nil => rw [hf] at he; exact absurd he (by show ¬ ((8 : Int) = 0); decide)
      | cons n fr => exact h.2 n (by rw [hf]; exact List.mem_cons_self)
theorem chainF_pg (l : List ByteArray) {S : PS} (h : PgOk S) : PgOk (chainF l S).2 := by
  induction l with
  | nil => exact h
  | cons x l ih => rw [chainF_cons]; exact putS_pg ih _ _
theorem chainF_e {l : List ByteArray} {S : PS} (h : (chainF l S).2.e = 0) : S.e = 0 := by
  induction l with
  | nil => exact h
  | cons x l ih => rw [chainF_cons] at h; exact ih (putS_e h)
theorem chainsF_e : ∀ {l : List R2} {S : PS}, (chainsF l S).2.e = 0 → S.e = 0
  | [], S, h => h
  | r :: t, S, h => by
    unfold chainsF at h
    split at h
    · exact chainF_e (chainsF_e h)
    · exact chainsF_e h
theorem slotsF_e : ∀ {l : List (List C4)} {S : PS}, (slotsF l S).2.e = 0 → S.e = 0
  | [], S, h => h
  | r :: t, S, h => by
    by_cases e : S.e = 0
    · exact e
    · unfold slotsF at h; rw [if_neg e] at h; exact slotsF_e h
theorem chainsF_out : ∀ (l : List R2) (S : PS), (∀ r ∈ l, r.2.size ≤ 900) → (chainsF l S).2.out.length ≤ S.out.length + 8 * l.length
  | [], S, _ => by simp [chainsF]
  | r :: t, S, h => by
    have h1 := h r List.mem_cons_self
    have h2 := piecesF_len r.2.size r.2
    have h3 := chainF_out (pieces r.2) S
    unfold pieces at h3
    unfold chainsF
    rw [List.length_cons]
    split
    · have := chainsF_out t (chainF (pieces r.2) S).2 (fun x hx => h x (List.mem_cons_of_mem _ hx))
      unfold pieces at this ⊢
      show (chainsF t (chainF (piecesF r.2.size r.2) S).2).2.out.length ≤ _
      omega
    · have := chainsF_out t S (fun x hx => h x (List.mem_cons_of_mem _ hx))
      show (chainsF t S).2.out.length ≤ _
      omega
theorem chainsF_length : ∀ (l : List R2) (S : PS), (chainsF l S).1.length = l.length
  | [], _ => rfl
  | r :: t, S => by
    unfold chainsF
    split <;> simp [chainsF_length t]
theorem slotsF_out : ∀ (l : List (List C4)) (S : PS), (slotsF l S).2.out.length ≤ S.out.length + l.length
  | [], S => Nat.le_refl _
  | x :: t, S => by
    unfold slotsF
    rw [List.length_cons]
    split
    · have := slotsF_out t (putS S (leafE x).1 (leafE x).2)
      have := putS_out S (leafE x).1 (leafE x).2
      show (slotsF t (putS S (leafE x).1 (leafE x).2)).2.out.length ≤ _
      omega
    · have := slotsF_out t S; omega
def cellOk (x : C4) : Prop := okK x.1 (-1) = true ∧ okR x.2.1 x.2.2.1 x.2.2.2 = true
theorem cellE_ok {r : R2} {p : Int} (h1 : -1 < r.1) (h2 : r.1 ≤ 2147483647) (h3 : r.2.size ≤ 900) (hp : 24 < r.2.size → okP p = true) : cellOk (cellE r p) := by
  unfold cellOk cellE
  by_cases h : r.2.size ≤ 24
  · rw [if_pos h]
    refine ⟨by unfold okK; simp; omega, ?_⟩
    unfold okR
    rw [if_pos (show (r.2.size : Int) ≤ 24 by omega)]
    simp
  · rw [if_neg h]
    refine ⟨by unfold okK; simp; omega, ?_⟩
    unfold okR
    rw [if_neg (show ¬ (r.2.size : Int) ≤ 24 by omega), hp (by omega)]
    simp; omega
theorem chainsF_ok : ∀ (l : List R2) (S : PS), PgOk S → (∀ r ∈ l, -1 < r.1 ∧ r.1 ≤ 2147483647 ∧ r.2.size ≤ 900) → (chainsF l S).2.e = 0 → ∀ x ∈ (chainsF l S).1, cellOk x
  | [], S, _, _, _, x, hx => by cases hx
  | r :: t, S, hS, h, he, x, hx => by
    have h1 := h r List.mem_cons_self
    have ht : ∀ y ∈ t, -1 < y.1 ∧ y.1 ≤ 2147483647 ∧ y.2.size ≤ 900 := fun y hy => h y (List.mem_cons_of_mem _ hy)
    unfold chainsF at he hx
    split at he
    · rename_i h24
      rw [if_pos h24] at hx
      rcases List.mem_cons.1 hx with rfl | hx
      · refine cellE_ok h1.1 h1.2.1 h1.2.2 (fun _ => ?_)
        have he2 := chainsF_e he
        cases hp : pieces r.2 with
        | nil =>
          have h5 := piecesF_len r.2.size r.2
          unfold pieces at hp
          exfalso
          obtain ⟨k, hk⟩ : ∃ k, r.2.size = k + 1 := ⟨r.2.size - 1, by omega⟩
          rw [hk] at hp
          unfold piecesF at hp
          rw [if_neg (by omega)] at hp
          cases hp
        | cons y ys =>
          rw [hp, chainF_cons] at he2
          rw [chainF_cons]
          exact putN_pg (chainF_pg ys hS) _ _ he2
      · exact chainsF_ok t _ (chainF_pg _ hS) ht he x hx
    · rename_i h24
      rw [if_neg h24] at hx
      rcases List.mem_cons.1 hx with rfl | hx
      · exact cellE_ok h1.1 h1.2.1 h1.2.2 (fun h => absurd h h24)
      · exact chainsF_ok t _ hS ht he x hx
theorem leaf_one {x : C4} (h : cellOk x) : (leafE [x]).2 = true := by
  unfold leafE lfA
  have hv : lfV (fun i => (atC [x] i.toNat).1) (fun i => (atC [x] i.toNat).2.1) (fun i => (atC [x] i.toNat).2.2.1) (fun i => (atC [x] i.toNat).2.2.2) [x].length = true := by
    unfold lfV
    rw [all_at]
    intro j hj
    have : j = 0 := by simpa using hj
    subst this
    show (okK x.1 (-1) && okR x.2.1 x.2.2.1 x.2.2.2) = true
    rw [h.1, h.2]; rfl
  rw [if_pos (by simp), if_pos hv]
  unfold fullA
  rw [if_pos]
  rw [strOfNums_size]
  have h2 := okR_size h.2
  have hb : lfB (fun i => (atC [x] i.toNat).1) (fun i => (atC [x] i.toNat).2.1) (fun i => (atC [x] i.toNat).2.2.1) (fun i => (atC [x] i.toNat).2.2.2) [x].length [x].length = [76, 1 % 256] ++ (byL x.1 4 4 ++ (byL x.2.1 2 2 ++ (bytesOf x.2.2.2 ++ lfT x.2.1 x.2.2.1))) := by
    unfold lfB
    show _ ++ (List.flatten [_]) = _
    rw [List.flatten_cons, List.flatten_nil, List.append_nil]
    rfl
  rw [hb]
  simp only [List.length_append, byL_length, bytesOf_len, List.length_cons, List.length_nil]
  have := lfT_length x.2.1 x.2.2.1
  omega
theorem lvs_full : ∀ (r cur : List C4), (∀ x ∈ r, cellOk x) → ∀ y ∈ lvs cur r, y ≠ []
  | [], cur, _, y, hy => by
    unfold lvs at hy
    cases cur with
    | nil => cases hy
    | cons a t => rw [List.mem_singleton] at hy; rw [hy]; exact List.cons_ne_nil _ _
  | c :: r, cur, h, y, hy => by
    unfold lvs at hy
    have hr : ∀ x ∈ r, cellOk x := fun x hx => h x (List.mem_cons_of_mem _ hx)
    split at hy
    · exact lvs_full r _ hr y hy
    · rename_i hn
      rcases List.mem_cons.1 hy with rfl | hy
      · rintro rfl
        exact hn (leaf_one (h c List.mem_cons_self))
      · exact lvs_full r _ hr y hy
theorem knF_pg {l : List R2} (h : ∀ x ∈ l, okP x.1 = true) : ∀ b n, knF l b = some n → okP n = true := by
  unfold knF
  suffices H : ∀ (l : List R2) (k : ByteArray → Option Int), (∀ x ∈ l, okP x.1 = true) → (∀ b n, k b = some n → okP n = true) → ∀ b n, l.foldl knS k b = some n → okP n = true from H l _ h (fun _ _ h => by cases h)
  intro l
  induction l with
  | nil => intro k _ h; exact h
  | cons x t ih =>
    intro k hl hk
    refine ih _ (fun y hy => hl y (List.mem_cons_of_mem _ hy)) ?_
    intro b n hb
    unfold knS at hb
    cases hx : k x.2 with
    | some m => rw [hx] at hb; exact hk _ _ hb
    | none =>
      rw [hx] at hb
      change upd k x.2 x.1 b = some n at hb
      by_cases e : b = x.2
      · rw [e, upd_same] at hb; injection hb with hb; rw [← hb]; exact hl x List.mem_cons_self
      · rw [upd_ne _ _ e] at hb; exact hk _ _ hb
theorem mayE_pg {hv fr : List Int} (h : mayE hv fr = true) : (∀ x ∈ hv, okP x = true) ∧ ∀ x ∈ fr, okP x = true := by
  unfold mayE at h
  rw [Bool.and_eq_true, Bool.not_eq_true'] at h
  have h2 : ∀ x ∈ hv ++ fr, badP x = false := by
    intro x hx
    cases hb : badP x with
    | false => rfl
    | true => exact absurd (List.any_eq_true.2 ⟨x, hx, hb⟩) (by rw [h.2]; decide)
  have h3 : ∀ x ∈ hv ++ fr, okP x = true := fun x hx => by
    have := h2 x hx
    unfold badP at this
    unfold okP
    simp at this ⊢
    omega
  exact ⟨fun x hx => h3 x (List.mem_append_left _ hx), fun x hx => h3 x (List.mem_append_right _ hx)⟩

/-- rows of cells are as they were -/
def K61 (w w1 : World) : Prop := ∀ (k : Nat) (c : Array Value), w.heap[k]? = some (Obj.cells c 61 (0, 0)) → w1.heap[k]? = some (Obj.cells c 61 (0, 0))
theorem K61.refl (w : World) : K61 w w := fun _ _ h => h
theorem K61.trans {a b c : World} (h : K61 a b) (h2 : K61 b c) : K61 a c := fun k x hk => h2 k x (h k x hk)
theorem K61.below {w w1 : World} (h : Below w.heap.size w w1) : K61 w w1 := fun k c hk => (h.block k (blk_lt hk)).trans hk
theorem K61.kw {w w1 : World} {g : Nat} {cs : Array Value} (h : Kw w w1 g) (hg : w.heap[g]? = some (.cells cs 68 (0, 0))) : K61 w w1 := fun k c hk => h.2 k c 61 (by decide) (by
  rintro rfl; rw [hg] at hk; injection hk with hk; injection hk with _ hk; exact absurd hk (by decide)) hk
theorem K61.row {α : Type} {d : Kd α} {e b : Nat} {w w1 : World} {ok : Nat → Prop} {v : Value} {xs : List α} (hr : d.R e w b ok v xs) (he : e ≠ 61) (hg : w.grownBy w1 v.ownBlock) : K61 w w1 := fun k c hk => (hg.block k (blk_lt hk) (Kd.R_ne hr hk he)).trans hk
theorem C_mv {α : Type} {d : Kd α} {w w' : World} (hK : ∀ x c, d.K w x c → d.K w' x c) (hm : ∀ a u, w.cell? a = some u → w'.cell? a = some u) {A : Option Addr} {n : Nat} {xs : List α} (h : Kd.C d w A n xs) : Kd.C d w' A n xs := by
  obtain ⟨h1, h2, h3⟩ := h
  refine ⟨h1, h2, fun hp => ?_⟩
  obtain ⟨ad, e, hc⟩ := h3 hp
  refine ⟨ad, e, fun j p hj => ?_⟩
  obtain ⟨c, k1, k2, k3⟩ := hc j p hj
  exact ⟨c, k1, hK _ _ k2, fun i u hu => hm _ _ (k3 i u hu)⟩
theorem kC_all (w w' : World) (x : C4) (c : List Value) (h : kC.K w x c) : kC.K w' x c := by
  obtain rfl := kC_open h
  exact kC_mk w' x
theorem cell_blk {w w' : World} {a : Addr} (h : w'.heap[a.block]? = w.heap[a.block]?) : w'.cell? a = w.cell? a := by
  unfold World.cell?
  rw [h]
/-- the world of one row alone -/
def onlyW (w : World) (b : Nat) (o : Obj) : World := { w with heap := (Array.replicate b (Obj.cells #[] 0 (0, 0))).push o }
theorem onlyW_at (w : World) (b : Nat) (o : Obj) : (onlyW w b o).heap[b]? = some o := by
  unfold onlyW
  simp only [Array.getElem?_push, Array.size_replicate, if_pos]
theorem onlyW_blk {w : World} {b : Nat} {o : Obj} {a : Addr} {u : Value} (h : (onlyW w b o).cell? a = some u) : a.block = b := by
  rcases Nat.lt_trichotomy a.block b with h1 | h1 | h1
  · exfalso
    have : (onlyW w b o).heap[a.block]? = some (Obj.cells #[] 0 (0, 0)) := by
      unfold onlyW
      simp [Array.getElem?_push, h1]; omega
    unfold World.cell? at h
    rw [this] at h
    simp at h
  · exact h1
  · exfalso
    have : (onlyW w b o).heap[a.block]? = none := by
      unfold onlyW
      simp; omega
    unfold World.cell? at h
    rw [this] at h
    cases h
/-- a row of cells, and a world that has nothing else -/
theorem cells_only {w : World} {base : Nat} {ok : Nat → Prop} {v : Value} {xs : List C4} (h : kC.R 61 w base ok v xs) : ∃ A c Wf, v = .slice A xs.length c ∧ xs.length ≤ c ∧ Kd.C kC w A xs.length xs ∧ Kd.C kC Wf A xs.length xs ∧ ∀ w1, K61 w w1 → ∀ a u, Wf.cell? a = some u → w1.cell? a = some u := by
  obtain ⟨A, c, rfl, hc, hC⟩ := Kd.R_reads h
  by_cases hp : 0 < xs.length
  · obtain ⟨g, cap, e, _, _, cells, hb⟩ := Kd.R_form h hp
    injection e with e1 e2 e3
    subst e1 e3
    refine ⟨_, _, onlyW w g (Obj.cells cells 61 (0, 0)), rfl, hc, hC, ?_, fun w1 hk a u hu => ?_⟩
    · obtain ⟨h1, h2, h3⟩ := hC
      refine ⟨h1, h2, fun hp => ?_⟩
      obtain ⟨ad, e, hcc⟩ := h3 hp
      injection e with e
      subst e
      refine ⟨_, rfl, fun j p hj => ?_⟩
      obtain ⟨c, k1, k2, k3⟩ := hcc j p hj
      exact ⟨c, k1, kC_all _ _ _ _ k2, fun i u hu => by
        rw [cell_blk (w := w)]
        · exact k3 i u hu
        · rw [show ((⟨g, 0, none⟩ : Addr).add (j * kC.sz + i)).block = g from by unfold Addr.add; split <;> rfl, onlyW_at, hb]⟩
    · have := onlyW_blk hu
      rw [cell_blk (w := onlyW w g (Obj.cells cells 61 (0, 0)))]
      · exact hu
      · rw [this, hk g cells hb, onlyW_at]
  · refine ⟨_, _, { w with heap := #[] }, rfl, hc, hC, ⟨rfl, hC.2.1, fun h => absurd h hp⟩, fun w1 _ a u hu => ?_⟩
    unfold World.cell? at hu
    simp at hu
theorem R_map {α : Type} {d : Kd α} {e b m : Nat} {w w1 : World} {ok : Nat → Prop} {v : Value} {xs : List α} {f : ByteArray → Option Int} (h : d.R e w b ok v xs) (hm : IsKn w m f) (hg : w.grownBy w1 (some m)) : d.R e w1 b ok v xs :=
  Kd.R_mono (Kd.R_grown (ok := fun k => ok k ∧ k ≠ m) (Kd.R_mono (Kd.R_bound h) (fun k hk => ⟨hk.1, fun e => by
    obtain ⟨_, _, _, q, hq, cells, hc⟩ := hk
    obtain ⟨es, cl, h1, _⟩ := hm
    rw [e, h1] at hc; cases hc⟩)) hg (fun k hk e => hk.2 (by injection e))) (fun _ h => h.1)
theorem IsPlan.mapped {w0 w w1 : World} {g m : Nat} {S : PS} {k : ByteArray → Option Int} (h : IsPlan w0 w g m S) (hm : IsKn w1 m k) (hg : w.grownBy w1 (some m)) : IsPlan w0 w1 g m { S with known := k } := by
  obtain ⟨A, c, v, h1, h2, h3, h4, h5, h6, h7, h8⟩ := h
  have hgm : some g ≠ some m := fun e => map_ne h4 h1 (by injection e with e; exact e.symm)
  exact ⟨A, c, v, (hg.block g (blk_lt h1) hgm).trans h1, h2, h3, hm, h5, h6, R_map h7 h4 hg, pw_below_grown h8 _ h8.size hg (by rintro k e; injection e with e; rw [← e]; exact h3)⟩
theorem IsPlan.kn {w0 w : World} {g m : Nat} {S : PS} (h : IsPlan w0 w g m S) : IsKn w m S.known := by
  obtain ⟨A, c, v, h1, h2, h3, h4, h5, h6, h7, h8⟩ := h
  exact h4
theorem IsPlan.cells {w0 w : World} {g m : Nat} {S : PS} (h : IsPlan w0 w g m S) : ∃ A c v, w.cell? ⟨g, 0, none⟩ = some (.map (some m)) ∧ w.cell? ⟨g, 1, none⟩ = some (.slice A S.free.length c) ∧ w.cell? ⟨g, 2, none⟩ = some v ∧ w.cell? ⟨g, 3, none⟩ = some (.int .i64 S.e) ∧ kR.R 28 w w0.heap.size (fun _ => True) v S.out := by
  obtain ⟨A, c, v, h1, h2, h3, h4, h5, h6, h7, h8⟩ := h
  obtain ⟨c0, c1, c2, c3⟩ := cell68 h1
  exact ⟨A, c, v, c0, c1, c2, c3, h7⟩
theorem slotsF_cons (x : List C4) (t : List (List C4)) (S : PS) : slotsF (x :: t) S = if S.e = 0 then (((atC x 0).1, putN S (leafE x).1 (leafE x).2) :: (slotsF t (putS S (leafE x).1 (leafE x).2)).1, (slotsF t (putS S (leafE x).1 (leafE x).2)).2) else slotsF t S := rfl
theorem chainsF_cons (r : R2) (t : List R2) (S : PS) : chainsF (r :: t) S = if 24 < r.2.size then (cellE r (chainF (pieces r.2) S).1 :: (chainsF t (chainF (pieces r.2) S).2).1, (chainsF t (chainF (pieces r.2) S).2).2) else (cellE r 2 :: (chainsF t S).1, (chainsF t S).2) := rfl
theorem addr0 (g k : Nat) : (⟨g, 0, none⟩ : Addr).add k = ⟨g, k, none⟩ := by
  unfold Addr.add
  split <;> simp_all
end Go.Proofs.Ytpeeojbhfebcdaa.V

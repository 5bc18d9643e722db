/- Of the texts that the row stands on, what it needs (part 32), put together by a program of this session. -/
import Derived.Test.YtdhaoaehboonpaaGreatZcT31
import Derived.Test.YtdhaoaehboonpaaGreatZcT16
import Derived.WalkKit
import Derived.ProofKit
import Derived.OpenShut
import Derived.ChangeOld
import Derived.ChangeSlices
import Derived.Below
import Derived.SizedLaws
import Derived.DataReads
import Derived.DataElems
import Derived.Test.YtdhaoaehboonpaaGreatZcT18
import Derived.Test.YtdhaoaehboonpaaGreatZcT13
section
namespace Go.Proofs.YtdhaoaehboonpaaGreat.V
open Go.RowKit Go.Proofs.YtdhaoaehboonpaaGreatW.PrintWords Go.Proofs.YtdhaoaehboonpaaGreatW.PrintLast Go.Proofs.YtdhaoaehboonpaaGreatW.PrintMore Go.Proofs.YtdhaoaehboonpaaGreatM
set_option linter.unusedVariables false
set_option linter.unusedSimpArgs false
def Ups (S T : FS) : Prop := (∀ n b, S.pages n = some b → T.pages n = some b) ∧ (T.e = 0 → S.e = 0)
theorem Ups.refl (S : FS) : Ups S S := ⟨fun _ _ h => h, fun h => h⟩
theorem Ups.trans {A B C : FS} (h : Ups A B) (h2 : Ups B C) : Ups A C := ⟨fun n b hn => h2.1 n b (h.1 n b hn), fun he => h.2 (h2.2 he)⟩
theorem Ups.form (S : FS) : Ups S (fForm S) := by
  unfold fForm
  split
  · exact ⟨fun _ _ h => h, fun h => by cases h⟩
  · exact Ups.refl _
theorem Ups.out {S T : FS} (h : Ups S T) (o : List R2) : Ups S { T with out := o } := h
theorem Ups.page (ld : Ld) (S : FS) (n : Int) : Ups S (fPage ld S n).2 := by
  unfold fPage
  cases hp : S.pages n with
  | some b => exact Ups.refl _
  | none =>
    show Ups S (if S.e = 0 then _ else _ : ByteArray × FS).2
    by_cases he : S.e = 0
    · rw [if_pos he]
      by_cases h2 : (ld n).2 = 0
      · rw [if_pos h2]
        refine ⟨fun m b hm => ?_, fun _ => he⟩
        show upd S.pages n (ld n).1 m = some b
        rw [upd_ne _ _ (fun e => by rw [e, hp] at hm; cases hm)]; exact hm
      · rw [if_neg h2]
        exact ⟨fun _ _ h => h, fun _ => he⟩
    · rw [if_neg he]; exact Ups.refl _
theorem Ups.step (ld : Ld) (S : FS) (n z : Int) : Ups S (fStep ld S n z) := by
  unfold fStep
  split
  · exact (Ups.page ld S n).trans (Ups.form _)
  · exact Ups.page ld S n
theorem Ups.chain (ld : Ld) : ∀ (k : Nat) (S : FS) (n z : Int) (o : ByteArray), Ups S (fChain k ld S n z o).2
  | 0, S, _, _, _ => Ups.refl S
  | k + 1, S, n, z, o => by
    show Ups S (if S.e = 0 ∧ 0 < z then _ else _ : ByteArray × FS).2
    split
    · exact (Ups.step ld S n z).trans (Ups.chain ld k _ _ _ _)
    · exact Ups.refl S
theorem Ups.cell (ld : Ld) (S : FS) (c : C4) : Ups S (fCell ld S c).2 := by
  unfold fCell
  split
  · exact Ups.chain ld _ _ _ _ _
  · exact Ups.refl S
theorem Ups.cells (ld : Ld) : ∀ (l : List C4) (S : FS), Ups S (fCells ld l S)
  | [], S => Ups.refl S
  | c :: r, S => by
    show Ups S (if lastGe S.out c.1 = true then fForm S else _)
    split
    · exact Ups.form S
    · exact (((Ups.cell ld S c).out _).trans (Ups.cells ld r _))
theorem Ups.leaf (ld : Ld) (S : FS) (s : S2) : Ups S (fLeaf ld S s) := by
  unfold fLeaf
  split
  · exact (Ups.page ld S s.2).trans (Ups.cells ld _ _)
  · exact (Ups.page ld S s.2).trans (Ups.form _)
theorem Ups.slots (ld : Ld) : ∀ (l : List S2) (S : FS), Ups S (fSlots ld l S)
  | [], S => Ups.refl S
  | s :: t, S => by
    show Ups S (fSlots ld t (if S.e = 0 then fLeaf ld S s else S))
    refine Ups.trans ?_ (Ups.slots ld t _)
    split
    · exact Ups.leaf ld S s
    · exact Ups.refl S
theorem Ups.idx (ld : Ld) (root : Int) : Ups (fPage ld fS0 root).2 (fIdx ld root) := by
  unfold fIdx
  split
  · exact Ups.refl _
  · exact Ups.form _
theorem Con.form {ld : Ld} {S : FS} (h : Con ld S) : Con ld (fForm S) := by unfold fForm; split <;> exact h
theorem Con.page {ld : Ld} {S : FS} (h : Con ld S) (n : Int) : Con ld (fPage ld S n).2 := by
  unfold fPage
  cases hp : S.pages n with
  | some b => exact h
  | none =>
    show Con ld (if S.e = 0 then _ else _ : ByteArray × FS).2
    split
    · split
      · rename_i h2
        intro m b hm
        change upd S.pages n (ld n).1 m = some b at hm
        by_cases e : m = n
        · subst e
          rw [upd_same] at hm
          injection hm with hm
          rw [← hm, ← h2]
        · rw [upd_ne _ _ e] at hm
          exact h m b hm
      · exact h
    · exact h
theorem Con.step {ld : Ld} {S : FS} (h : Con ld S) (n z : Int) : Con ld (fStep ld S n z) := by
  unfold fStep
  split
  · exact (h.page n).form
  · exact h.page n
theorem Con.chain {ld : Ld} : ∀ (k : Nat) {S : FS} (n z : Int) (o : ByteArray), Con ld S → Con ld (fChain k ld S n z o).2
  | 0, S, _, _, _, h => h
  | k + 1, S, n, z, o, h => by
    show Con ld (if S.e = 0 ∧ 0 < z then _ else _ : ByteArray × FS).2
    split
    · exact Con.chain k _ _ _ (h.step n z)
    · exact h
theorem Con.cell {ld : Ld} {S : FS} (h : Con ld S) (c : C4) : Con ld (fCell ld S c).2 := by
  unfold fCell
  split
  · exact Con.chain _ _ _ _ h
  · exact h
theorem Con.cells {ld : Ld} : ∀ (l : List C4) {S : FS}, Con ld S → Con ld (fCells ld l S)
  | [], S, h => h
  | c :: r, S, h => by
    show Con ld (if lastGe S.out c.1 = true then fForm S else _)
    split
    · exact h.form
    · exact Con.cells r (S := { (fCell ld S c).2 with out := _ }) (h.cell c)
theorem Con.leaf {ld : Ld} {S : FS} (h : Con ld S) (s : S2) : Con ld (fLeaf ld S s) := by
  unfold fLeaf
  split
  · exact Con.cells _ (h.page s.2)
  · exact (h.page s.2).form
theorem Con.slots {ld : Ld} : ∀ (l : List S2) {S : FS}, Con ld S → Con ld (fSlots ld l S)
  | [], S, h => h
  | s :: t, S, h => by
    show Con ld (fSlots ld t (if S.e = 0 then fLeaf ld S s else S))
    refine Con.slots t ?_
    split
    · exact h.leaf s
    · exact h
theorem read_con (ld : Ld) (root : Int) : Con ld (fRead ld root) := by
  unfold fRead
  refine Con.slots _ ?_
  have h0 : Con ld fS0 := fun n b h => by cases h
  unfold fIdx
  split
  · exact h0.page root
  · exact (h0.page root).form
section
variable {ld ld' : Ld} {F : FS} (he : F.e = 0) (ha : ∀ n b, F.pages n = some b → ld' n = (b, 0))
include he ha
theorem loc_page {S : FS} {n : Int} (hu : Ups (fPage ld S n).2 F) : fPage ld' S n = fPage ld S n := by
  unfold fPage at hu ⊢
  cases hp : S.pages n with
  | some b => rfl
  | none =>
    rw [hp] at hu
    change Ups (if S.e = 0 then (if (ld n).2 = 0 then ((ld n).1, { S with pages := upd S.pages n (ld n).1 }) else ((ld n).1, { S with e := (ld n).2 })) else (⟨#[]⟩, S) : ByteArray × FS).2 F at hu
    show (if S.e = 0 then _ else _ : ByteArray × FS) = (if S.e = 0 then _ else _ : ByteArray × FS)
    by_cases h0 : S.e = 0
    · rw [if_pos h0] at hu
      rw [if_pos h0, if_pos h0]
      by_cases h2 : (ld n).2 = 0
      · rw [if_pos h2] at hu
        have h3 := ha n (ld n).1 (hu.1 n (ld n).1 (upd_same _ _ _))
        rw [h3, if_pos rfl, if_pos h2]
      · rw [if_neg h2] at hu
        exact absurd (hu.2 he) h2
    · rw [if_neg h0, if_neg h0]
theorem loc_step {S : FS} {n z : Int} (hu : Ups (fStep ld S n z) F) : fStep ld' S n z = fStep ld S n z ∧ fPage ld' S n = fPage ld S n := by
  have hp : Ups (fPage ld S n).2 F := by
    unfold fStep at hu
    split at hu
    · exact (Ups.form _).trans hu
    · exact hu
  have e := loc_page he ha hp
  exact ⟨by unfold fStep; rw [e], e⟩
theorem loc_chain : ∀ (k : Nat) {S : FS} {n z : Int} {o : ByteArray}, Ups (fChain k ld S n z o).2 F → fChain k ld' S n z o = fChain k ld S n z o
  | 0, _, _, _, _, _ => rfl
  | k + 1, S, n, z, o, hu => by
    change Ups (if S.e = 0 ∧ 0 < z then fChain k ld (fStep ld S n z) (linkE (fPage ld S n).1).1 (z - min z 120) (o ++ (linkE (fPage ld S n).1).2.1) else (o, S) : ByteArray × FS).2 F at hu
    show (if S.e = 0 ∧ 0 < z then fChain k ld' (fStep ld' S n z) (linkE (fPage ld' S n).1).1 (z - min z 120) (o ++ (linkE (fPage ld' S n).1).2.1) else (o, S) : ByteArray × FS) = (if S.e = 0 ∧ 0 < z then fChain k ld (fStep ld S n z) (linkE (fPage ld S n).1).1 (z - min z 120) (o ++ (linkE (fPage ld S n).1).2.1) else (o, S) : ByteArray × FS)
    by_cases hc : S.e = 0 ∧ 0 < z
    · rw [if_pos hc] at hu
      rw [if_pos hc, if_pos hc]
      obtain ⟨e1, e2⟩ := loc_step he ha ((Ups.chain ld k _ _ _ _).trans hu)
      rw [e1, e2]
      exact loc_chain k hu
    · rw [if_neg hc, if_neg hc]
theorem loc_cell {S : FS} {c : C4} (hu : Ups (fCell ld S c).2 F) : fCell ld' S c = fCell ld S c := by
  unfold fCell at hu ⊢
  split at hu
  · rename_i h
    rw [if_pos h, if_pos h]
    exact loc_chain he ha _ hu
  · rename_i h
    rw [if_neg h, if_neg h]
theorem loc_cells : ∀ (l : List C4) {S : FS}, Ups (fCells ld l S) F → fCells ld' l S = fCells ld l S
  | [], _, _ => rfl
  | c :: r, S, hu => by
    change Ups (if lastGe S.out c.1 = true then fForm S else fCells ld r { (fCell ld S c).2 with out := S.out ++ [(c.1, (fCell ld S c).1)] }) F at hu
    show (if lastGe S.out c.1 = true then fForm S else fCells ld' r { (fCell ld' S c).2 with out := S.out ++ [(c.1, (fCell ld' S c).1)] }) = (if lastGe S.out c.1 = true then fForm S else fCells ld r { (fCell ld S c).2 with out := S.out ++ [(c.1, (fCell ld S c).1)] })
    by_cases h : lastGe S.out c.1 = true
    · rw [if_pos h, if_pos h]
    · rw [if_neg h] at hu
      rw [if_neg h, if_neg h]
      have h1 : Ups (fCell ld S c).2 F := Ups.trans (B := { (fCell ld S c).2 with out := S.out ++ [(c.1, (fCell ld S c).1)] }) ((Ups.refl _).out _) ((Ups.cells ld r _).trans hu)
      rw [loc_cell he ha h1]
      exact loc_cells r hu
theorem loc_leaf {S : FS} {s : S2} (hu : Ups (fLeaf ld S s) F) : fLeaf ld' S s = fLeaf ld S s := by
  have hp : Ups (fPage ld S s.2).2 F := by
    unfold fLeaf at hu
    split at hu
    · exact (Ups.cells ld _ _).trans hu
    · exact (Ups.form _).trans hu
  have e := loc_page he ha hp
  unfold fLeaf at hu ⊢
  rw [e]
  split at hu
  · rename_i h
    rw [if_pos h, if_pos h]
    exact loc_cells he ha _ hu
  · rename_i h
    rw [if_neg h, if_neg h]
theorem loc_slots : ∀ (l : List S2) {S : FS}, Ups (fSlots ld l S) F → fSlots ld' l S = fSlots ld l S
  | [], _, _ => rfl
  | s :: t, S, hu => by
    change Ups (fSlots ld t (if S.e = 0 then fLeaf ld S s else S)) F at hu
    show fSlots ld' t (if S.e = 0 then fLeaf ld' S s else S) = fSlots ld t (if S.e = 0 then fLeaf ld S s else S)
    have h1 := (Ups.slots ld t _).trans hu
    by_cases h : S.e = 0
    · rw [if_pos h] at hu h1
      rw [if_pos h, if_pos h, loc_leaf he ha h1]
      exact loc_slots t hu
    · rw [if_neg h] at hu
      rw [if_neg h, if_neg h]
      exact loc_slots t hu
end
theorem read_local {ld ld' : Ld} {root : Int} (he : (fRead ld root).e = 0) (ha : ∀ n b, (fRead ld root).pages n = some b → ld' n = (b, 0)) : fRead ld' root = fRead ld root := by
  have h1 : Ups (fIdx ld root) (fRead ld root) := Ups.slots ld _ _
  have h2 : Ups (fPage ld fS0 root).2 (fRead ld root) := (Ups.idx ld root).trans h1
  have e := loc_page (S := fS0) (n := root) he ha h2
  have e2 : fIdx ld' root = fIdx ld root := by unfold fIdx; rw [e]
  have h3 := loc_slots (ld := ld) (ld' := ld') he ha (slotsE (fPage ld fS0 root).1).1 (S := fIdx ld root) (Ups.refl _)
  show fSlots ld' (slotsE (fPage ld' fS0 root).1).1 (fIdx ld' root) = _
  rw [e, e2]
  exact h3
theorem sorted_ext : ∀ {xs ys : List R2}, (xs.Pairwise fun p q => p.1 < q.1) → (ys.Pairwise fun p q => p.1 < q.1) → (∀ n b, (n, b) ∈ xs ↔ (n, b) ∈ ys) → xs = ys
  | [], [], _, _, _ => rfl
  | [], y :: ys, _, _, h => absurd ((h y.1 y.2).2 List.mem_cons_self) (List.not_mem_nil)
  | x :: xs, [], _, _, h => absurd ((h x.1 x.2).1 List.mem_cons_self) (List.not_mem_nil)
  | x :: xs, y :: ys, hx, hy, h => by
    obtain ⟨x1, x2⟩ := List.pairwise_cons.1 hx
    obtain ⟨y1, y2⟩ := List.pairwise_cons.1 hy
    have hxy : x = y := by
      rcases List.mem_cons.1 ((h x.1 x.2).1 List.mem_cons_self) with e | e
      · exact e
      · rcases List.mem_cons.1 ((h y.1 y.2).2 List.mem_cons_self) with e2 | e2
        · exact e2.symm
        · have a := y1 _ e
          have b := x1 _ e2
          exact absurd a (by show ¬ y.1 < x.1; have b : x.1 < y.1 := b; omega)
    subst hxy
    congr 1
    refine sorted_ext x2 y2 (fun n b => ?_)
    have h1 := h n b
    rw [List.mem_cons, List.mem_cons] at h1
    constructor
    · intro hm
      rcases h1.1 (.inr hm) with e | e
      · have := x1 _ hm; rw [← e] at this; exact absurd this (Int.lt_irrefl _)
      · exact e
    · intro hm
      rcases h1.2 (.inr hm) with e | e
      · have := y1 _ hm; rw [← e] at this; exact absurd this (Int.lt_irrefl _)
      · exact e
theorem pages_ext {S T : FS} {xs ys : List R2} (hx : PagesOf S xs) (hy : PagesOf T ys) (h : S.pages = T.pages) : xs = ys :=
  sorted_ext hx.1 hy.1 (fun n b => by rw [hx.2, hy.2, h])
end Go.Proofs.YtdhaoaehboonpaaGreat.V
end
section
namespace Go.Proofs.YtdhaoaehboonpaaGreat.V
open Go.RowKit Go.Proofs.YtdhaoaehboonpaaGreatW.PrintWords Go.Proofs.YtdhaoaehboonpaaGreatW.PrintLast Go.Proofs.YtdhaoaehboonpaaGreatW.PrintMore Go.Proofs.YtdhaoaehboonpaaGreatM
set_option linter.unusedVariables false
set_option linter.unusedSimpArgs false
def ldF (sf : List ByteArray) : Ld := fun n => if 0 ≤ n ∧ n < sf.length then (sf.getD n.toNat ⟨#[]⟩, 0) else (⟨#[]⟩, 6)
theorem ldF_at {sf : List ByteArray} {n : Int} {b : ByteArray} (h : sf[n.toNat]? = some b) (h0 : 0 ≤ n) : ldF sf n = (b, 0) := by
  have hl := (List.getElem?_eq_some_iff.1 h).1
  unfold ldF
  rw [if_pos ⟨h0, by omega⟩, List.getD_eq_getElem?_getD, h]; rfl
theorem ldF_ok {sf : List ByteArray} {n : Int} {b : ByteArray} (h : ldF sf n = (b, 0)) : 0 ≤ n ∧ n < sf.length ∧ sf[n.toNat]? = some b := by
  unfold ldF at h
  by_cases hc : 0 ≤ n ∧ n < sf.length
  · rw [if_pos hc] at h
    have h1 := (Prod.mk.inj h).1
    rw [List.getD_eq_getElem?_getD, List.getElem?_eq_getElem (show n.toNat < sf.length by omega)] at h1
    exact ⟨hc.1, hc.2, by rw [List.getElem?_eq_getElem (show n.toNat < sf.length by omega), ← h1]; rfl⟩
  · rw [if_neg hc] at h; cases (Prod.mk.inj h).2
theorem ldP_eq {S : VP.PS} (h1 : S.halted = false) (h2 : S.last = fun _ => none) : ldP S = ldF S.safe := by
  funext n
  unfold ldP VP.loadE ldF VP.mayE
  rw [h1, h2]
  simp only [Bool.false_eq_true, if_false]
  by_cases hn : n < 0
  · rw [if_pos hn, if_neg (by decide), if_neg (by omega)]
  · by_cases hl : (S.safe.length : Int) ≤ n
    · rw [if_neg hn, if_pos hl, if_neg (by decide), if_neg (by omega)]
    · rw [if_neg hn, if_neg hl, if_pos rfl, if_pos ⟨by omega, by omega⟩]; rfl
structure Tree (sf : List ByteArray) (root : Int) (recs live : List R2) : Prop where
  ok : (fRead (ldF sf) root).e = 0
  out : (fRead (ldF sf) root).out = recs
  pages : PagesOf (fRead (ldF sf) root) live
section
variable {sf sf' : List ByteArray} {root : Int} {recs live : List R2}
theorem Tree.mem (h : Tree sf root recs live) {x : R2} (hx : x ∈ live) : 0 ≤ x.1 ∧ x.1 < sf.length ∧ sf[x.1.toNat]? = some x.2 :=
  ldF_ok (read_con (ldF sf) root x.1 x.2 ((h.pages.2 x.1 x.2).1 hx))
theorem Tree.stable (h : Tree sf root recs live) (hs : ∀ x ∈ live, sf'[x.1.toNat]? = some x.2) : Tree sf' root recs live := by
  have e := read_local (ld := ldF sf) (ld' := ldF sf') h.ok (fun n b hn => by
    have hx := (h.pages.2 n b).2 hn
    exact ldF_at (hs _ hx) (h.mem hx).1)
  exact ⟨by rw [e]; exact h.ok, by rw [e]; exact h.out, by rw [e]; exact h.pages⟩
theorem Tree.apart (h : Tree sf root recs live) : live.Pairwise fun p q => p.1 ≠ q.1 := h.pages.1.imp (fun h e => by omega)
end
structure Disk (S : VP.PS) (N : Nat) (gen root : Int) (recs live : List R2) : Prop where
  pg : VP.pagesOk S
  len : S.safe.length = N
  n8 : 8 ≤ N
  n200 : N ≤ 200
  ok : Cr.okC gen root N = true
  crown : S.safe[(gen % 2).toNat]? = some (Cr.encB gen root N)
  other : ∀ b, S.safe[(1 - gen % 2).toNat]? = some b → Cr.isC b = true → Cr.gG b < gen
  tree : Tree S.safe root recs live
  low : ∀ x ∈ live, 2 ≤ x.1 ∧ x.1 < N
  far : ∀ p ∈ S.afl, 2 ≤ p.f0 ∧ ∀ y ∈ live, y.1 ≠ p.f0
  cont : ∀ x ∈ live, ∀ y ∈ live, x.2 = y.2 → x.1 = y.1
section
variable {S : VP.PS} {N : Nat} {gen root : Int} {recs live : List R2}
theorem Disk.live_len (h : Disk S N gen root recs live) : live.length ≤ N - 2 := by
  have h1 := nodup_le (N - 2) (live.map (·.1)) (by
    unfold List.Nodup
    rw [List.pairwise_map]
    exact h.tree.apart) (fun x hx => by
    obtain ⟨y, hy, rfl⟩ := List.mem_map.1 hx
    have := h.low y hy
    have := h.n8
    omega)
  rwa [List.length_map] at h1
theorem Disk.bytes (h : Disk S N gen root recs live) : ∀ x ∈ live, x.2.size = 128 := fun x hx =>
  h.pg.1 _ (List.mem_of_getElem? (h.tree.mem hx).2.2)
theorem load_at (hh : S.halted = false) (hl : S.last = fun _ => none) {n : Int} {b : ByteArray} (h0 : 0 ≤ n) (h : S.safe[n.toNat]? = some b) : VP.loadE S n = (b, 0) := by
  have := congrFun (ldP_eq hh hl) n
  rw [ldF_at h h0] at this
  exact this
theorem Disk.pick (h : Disk S N gen root recs live) (hh : S.halted = false) (hl : S.last = fun _ => none) : pkS S = (gen, root, (N : Int), gen % 2, true) ∧ (VP.loadE S 0).2 = 0 ∧ (VP.loadE S 1).2 = 0 := by
  obtain ⟨b0, hb0⟩ : ∃ b, S.safe[0]? = some b := ⟨_, List.getElem?_eq_getElem (by rw [h.len]; have := h.n8; omega)⟩
  obtain ⟨b1, hb1⟩ : ∃ b, S.safe[1]? = some b := ⟨_, List.getElem?_eq_getElem (by rw [h.len]; have := h.n8; omega)⟩
  have e0 := load_at hh hl (n := 0) (by decide) hb0
  have e1 := load_at hh hl (n := 1) (by decide) hb1
  refine ⟨?_, by rw [e0], by rw [e1]⟩
  unfold pkS
  rw [e0, e1]
  show Cr.pickA b0 b1 = _
  have hc := h.crown
  have ho := h.other
  rcases (by omega : gen % 2 = 0 ∨ gen % 2 = 1) with hg | hg
  · rw [hg] at hc ho
    have hc : S.safe[0]? = _ := hc
    rw [hb0] at hc
    injection hc with hc
    subst hc
    have ho := ho b1 hb1
    unfold Cr.pickA
    rw [if_pos ⟨Cr.isC_encB h.ok, fun hb => by rw [Cr.gG_enc h.ok]; have := ho hb; omega⟩, Cr.gG_enc h.ok, Cr.gR_enc h.ok, Cr.gP_enc h.ok, hg]
  · rw [hg] at hc ho
    have hc : S.safe[1]? = _ := hc
    rw [hb1] at hc
    injection hc with hc
    subst hc
    have ho := ho b0 hb0
    unfold Cr.pickA
    rw [if_neg (fun hn => by
      have h1 := hn.2 (Cr.isC_encB h.ok)
      rw [Cr.gG_enc h.ok] at h1
      have := ho hn.1
      omega), if_pos (Cr.isC_encB h.ok), Cr.gG_enc h.ok, Cr.gR_enc h.ok, Cr.gP_enc h.ok, hg]
theorem Disk.small (h : Disk S N gen root recs live) (hh : S.halted = false) (hl : S.last = fun _ => none) : LdSmall (ldP S) := by
  rw [ldP_eq hh hl]
  intro n
  unfold ldF
  split
  · show (S.safe.getD n.toNat ⟨#[]⟩).size ≤ 1000000
    rw [List.getD_eq_getElem?_getD]
    cases hs : S.safe[n.toNat]? with
    | none => show (0 : Nat) ≤ 1000000; decide
    | some b => show b.size ≤ 1000000; rw [h.pg.1 b (List.mem_of_getElem? hs)]; decide
  · show (0 : Nat) ≤ 1000000; decide
theorem Disk.opE (h : Disk S N gen root recs live) (hh : S.halted = false) (hl : S.last = fun _ => none) : opE S = 0 := by
  obtain ⟨e1, e2, e3⟩ := h.pick hh hl
  unfold V.opE
  rw [if_pos e2, if_pos e3, e1, if_pos ⟨rfl, by rw [h.len]⟩, ldP_eq hh hl]
  exact h.tree.ok
theorem failed_other (S : VP.PS) (cl : List Int) (n : Nat) (h : ∀ p ∈ S.afl, p.f0.toNat ≠ n) : ∀ i, i ≤ S.afl.length → (VP.failed S cl i).1[n]? = S.safe[n]?
  | 0, _ => rfl
  | i + 1, hi => by
    unfold VP.failed
    split
    · show ((VP.failed S cl i).1.set _ _)[n]? = _
      rw [List.getElem?_set_ne (h _ (VP.rd65_mem (by omega))), failed_other S cl n h i (by omega)]
    · exact failed_other S cl n h i (by omega)
theorem Disk.fail (h : Disk S N gen root recs live) (cl : List Int) : Disk (VP.faS S cl) N gen root recs live := by
  have hsame : ∀ n : Nat, (∀ p ∈ S.afl, p.f0.toNat ≠ n) → (VP.faS S cl).safe[n]? = S.safe[n]? := fun n hn => failed_other S cl n hn _ (Nat.le_refl _)
  have hlow : ∀ n : Nat, n < 2 → ∀ p ∈ S.afl, p.f0.toNat ≠ n := fun n hn p hp => by have := (h.far p hp).1; omega
  refine ⟨⟨VP.failed_size h.pg cl _ (Nat.le_refl _), fun p hp => by simp [VP.faS] at hp⟩, (VP.failed_length _ _ _).trans h.len, h.n8, h.n200, h.ok, ?_, ?_, ?_, h.low, fun p hp => by simp [VP.faS] at hp, h.cont⟩
  · rw [hsame _ (hlow _ (by omega))]; exact h.crown
  · intro b hb
    rw [hsame _ (hlow _ (by omega))] at hb
    exact h.other b hb
  · refine h.tree.stable (fun x hx => ?_)
    rw [hsame _ (fun p hp e => (h.far p hp).2 x hx (by have := (h.far p hp).1; have := (h.low x hx).1; omega))]
    exact (h.tree.mem hx).2.2
theorem Disk.halt (h : Disk S N gen root recs live) (n : Int) : Disk (VP.haltE S n) N gen root recs live := by
  unfold VP.haltE
  split
  · exact h
  · exact ⟨h.pg, h.len, h.n8, h.n200, h.ok, h.crown, h.other, h.tree, h.low, h.far, h.cont⟩
end
theorem storeG {S : VP.PS} {N : Nat} (hh : S.halted = false) (hN : S.safe.length = N) {n : Int} {b : ByteArray} (h0 : 0 ≤ n) (h1 : n < N) (hb : b.size = 128) :
    (VP.storeE S n b = 0 ∧ (VP.storeS S n b).halted = false ∧ (VP.storeS S n b).safe = S.safe ∧ (VP.storeS S n b).afl = S.afl ++ [⟨n, b⟩]) ∨ (VP.storeE S n b = 7 ∧ VP.storeS S n b = { S with halted := true }) := by
  have hm : VP.mayE S n = 0 := by
    unfold VP.mayE
    rw [hh, if_neg (by decide), if_neg (by omega), if_neg (by rw [hN]; omega)]
  unfold VP.storeE VP.storeS
  rw [if_pos hm, if_pos hm, if_pos hb, if_pos hb]
  by_cases hc : S.halts = true ∧ S.after = 0
  · rw [if_pos hc.1, if_pos hc.2, if_pos hc]
    exact .inr ⟨rfl, rfl⟩
  · rw [if_neg hc]
    refine .inl ⟨?_, hh, rfl, rfl⟩
    by_cases h2 : S.halts = true
    · rw [if_pos h2, if_neg (fun e => hc ⟨h2, e⟩)]
    · rw [if_neg h2]
def toAf (l : List R2) : List VP.S116 := l.map fun x => ⟨x.1, x.2⟩
theorem wrG {N : Nat} : ∀ (l : List R2) {S : VP.PS}, S.halted = false → S.safe.length = N → (∀ x ∈ l, goodW N x) →
    (wrE S l = 0 ∧ (wrS S l).halted = false ∧ (wrS S l).safe = S.safe ∧ (wrS S l).afl = S.afl ++ toAf l) ∨ (wrE S l = 7 ∧ (wrS S l).halted = true ∧ (wrS S l).safe = S.safe ∧ ∃ k, k < l.length ∧ (wrS S l).afl = S.afl ++ toAf (l.take k))
  | [], S, h, _, _ => .inl ⟨rfl, h, rfl, (List.append_nil _).symm⟩
  | x :: t, S, h, hN, hg => by
    obtain ⟨⟨g1, g2⟩, g3⟩ := hg x List.mem_cons_self
    rcases storeG h hN g1 g2 g3 with ⟨e1, e2, e3, e4⟩ | ⟨e1, e2⟩
    · have f1 : wrE S (x :: t) = wrE (VP.storeS S x.1 x.2) t := by show (if _ then _ else _) = _; rw [if_pos e1]
      have f2 : wrS S (x :: t) = wrS (VP.storeS S x.1 x.2) t := by show (if _ then _ else _) = _; rw [if_pos e1]
      rw [f1, f2]
      rcases wrG t e2 (by rw [e3]; exact hN) (fun y hy => hg y (List.mem_cons_of_mem _ hy)) with ⟨a1, a2, a3, a4⟩ | ⟨a1, a2, a3, k, hk, a4⟩
      · exact .inl ⟨a1, a2, a3.trans e3, by rw [a4, e4, List.append_assoc]; rfl⟩
      · exact .inr ⟨a1, a2, a3.trans e3, k + 1, by rw [List.length_cons]; omega, by rw [a4, e4, List.append_assoc]; rfl⟩
    · have f1 : wrE S (x :: t) = VP.storeE S x.1 x.2 := by show (if _ then _ else _) = _; rw [if_neg (by rw [e1]; decide)]
      have f2 : wrS S (x :: t) = VP.storeS S x.1 x.2 := by show (if _ then _ else _) = _; rw [if_neg (by rw [e1]; decide)]
      rw [f1, f2, e2]
      exact .inr ⟨e1, rfl, rfl, 0, by rw [List.length_cons]; omega, (List.append_nil _).symm⟩
theorem writeG {S : VP.PS} {N : Nat} {l : List R2} {g r p : Int} (hh : S.halted = false) (hN : S.safe.length = N) (ha : S.afl = []) (hp : VP.pagesOk S) (hN2 : 2 ≤ N) (hg : ∀ x ∈ l, goodW N x) :
    (writeE S l g r p = 0 ∧ (writeS S l g r p).halted = false ∧ (writeS S l g r p).safe = (putL S.safe l).set (g % 2).toNat (Cr.encB g r p) ∧ (writeS S l g r p).afl = [] ∧ (writeS S l g r p).last = fun _ => none) ∨
    (writeE S l g r p = 7 ∧ (writeS S l g r p).halted = true ∧ (writeS S l g r p).safe = S.safe ∧ ∃ k, (writeS S l g r p).afl = toAf (l.take k)) ∨
    (writeE S l g r p = 7 ∧ (writeS S l g r p).halted = true ∧ (writeS S l g r p).safe = putL S.safe l ∧ (writeS S l g r p).afl = []) := by
  unfold writeE writeS
  rcases wrG l hh hN hg with ⟨a1, a2, a3, a4⟩ | ⟨a1, a2, a3, k, _, a4⟩
  · rw [ha, List.nil_append] at a4
    have hs : (VP.seS (wrS S l)).safe = putL S.safe l := by rw [seS_safe a4, a3]
    have hsl : (VP.seS (wrS S l)).safe.length = N := by rw [hs, putL_len]; exact hN
    rw [if_pos a1, if_pos a1]
    rcases storeG (S := VP.seS (wrS S l)) (n := g % 2) (b := Cr.encB g r p) a2 hsl (by omega) (by omega) (Cr.encB_size _ _ _) with ⟨e1, e2, e3, e4⟩ | ⟨e1, e2⟩
    · rw [if_pos e1]
      refine .inl ⟨e1, e2, ?_, rfl, rfl⟩
      rw [seS_safe (l := [(g % 2, Cr.encB g r p)]) (by rw [e4]; rfl), e3, hs]
      rfl
    · rw [if_neg (by rw [e1]; decide), e2]
      exact .inr (.inr ⟨e1, rfl, hs, rfl⟩)
  · rw [ha, List.nil_append] at a4
    rw [if_neg (by rw [a1]; decide), if_neg (by rw [a1]; decide)]
    exact .inr (.inl ⟨a1, a2, a3, k, a4⟩)
end Go.Proofs.YtdhaoaehboonpaaGreat.V
end
section
namespace Go.Proofs.YtdhaoaehboonpaaGreat.V
open Go.RowKit Go.Proofs.YtdhaoaehboonpaaGreatW.PrintWords Go.Proofs.YtdhaoaehboonpaaGreatW.PrintLast Go.Proofs.YtdhaoaehboonpaaGreatW.PrintMore Go.Proofs.YtdhaoaehboonpaaGreatM
set_option linter.unusedVariables false
set_option linter.unusedSimpArgs false
structure VOk (V : VS) (m : Nat) : Prop where
  disk : Disk V.P V.pages V.gen V.root V.recs V.live
  pages : V.pages = m + 2
  halted : V.P.halted = false
  last : V.P.last = fun _ => none
  afl : V.P.afl = []
  dead : V.dead = false
theorem VOk.can {V : VS} {m : Nat} (h : VOk V m) (hg : V.gen < 4611686018427387904) : CanSave V m := by
  have h8 := h.disk.n8
  have h2 := h.disk.n200
  have hp := h.pages
  have hl := h.disk.live_len
  obtain ⟨g1, _⟩ := Cr.okC_iff.1 h.disk.ok
  exact ⟨hp, by omega, by omega, ⟨h.halted, h.disk.pg⟩, h.afl, by omega, h.disk.bytes, by omega, hg⟩
theorem putL_size : ∀ (l : List R2) (sf : List ByteArray), (∀ b ∈ sf, b.size = 128) → (∀ x ∈ l, x.2.size = 128) → ∀ b ∈ putL sf l, b.size = 128
  | [], sf, h, _ => h
  | x :: t, sf, h, hl => putL_size t (sf.set x.1.toNat x.2) (fun b hb => by
      rcases List.mem_or_eq_of_mem_set hb with hb | rfl
      · exact h b hb
      · exact hl x List.mem_cons_self) (fun y hy => hl y (List.mem_cons_of_mem _ hy))
section
variable {V : VS} {m : Nat} {l : List R2}
theorem sv_new (h : VOk V m) (hp : (svP V m l).2.2 = 0) : ∀ x ∈ (svP V m l).1, goodW V.pages x ∧ 2 ≤ x.1 ∧ ∀ y ∈ V.live, y.1 ≠ x.1 := fun x hx => by
  have h1 := freeL_mem.1 (plan_out hp x hx)
  have h2 := plan_good (n := V.pages) hp (fun y hy => by
    have := freeL_mem.1 hy
    have h3 := h.pages
    refine ⟨this.1.1, ?_⟩
    rw [h3]; have := this.1.2; show y < ((m + 2 : Nat) : Int); omega) x hx
  exact ⟨h2.1, h2.2, h1.2⟩
theorem sv_apart (h : VOk V m) (hp : (svP V m l).2.2 = 0) : (V.live ++ (svP V m l).1).Pairwise fun p q => p.1 ≠ q.1 := by
  rw [List.pairwise_append]
  exact ⟨h.disk.tree.apart, plan_apart hp (freeL_nodup _ _), fun x hx y hy => (sv_new h hp y hy).2.2 x hx⟩
theorem sv_known (hp : (svP V m l).2.2 = 0) {b : ByteArray} {n : Int} (hk : (planZ l V.live (freeL m V.live)).2.known b = some n) : (n, b) ∈ V.live ++ (svP V m l).1 := by
  have hk2 : (planZ l V.live (freeL m V.live)).2.known = knF (V.live ++ (planZ l V.live (freeL m V.live)).2.out) := planZ_kn l _ _
  rw [hk2] at hk
  have h1 := knF_mem _ _ _ hk
  have h2 : (svP V m l).1 = (planZ l V.live (freeL m V.live)).2.out := by
    show (planE l V.live (freeL m V.live)).1 = _
    rw [(planE_ok hp).2.2.2.2]
  rw [h2]; exact h1
theorem sv_read (hp : (svP V m l).2.2 = 0) {ld : Ld} (hld : ∀ x ∈ V.live ++ (svP V m l).1, ld x.1 = (x.2, 0)) :
    (fRead ld (svP V m l).2.1).e = 0 ∧ (fRead ld (svP V m l).2.1).out = l ∧ ∀ n b, (fRead ld (svP V m l).2.1).pages n = some b ↔ (b ∈ planB l V.live (freeL m V.live) ∧ (planZ l V.live (freeL m V.live)).2.known b = some n) :=
  plan_read hp (fun b n hk => hld _ (sv_known hp hk))
theorem sv_back (h : VOk V m) (hp : (svP V m l).2.2 = 0) : (fRead (ldA (V.live ++ (svP V m l).1)) (svP V m l).2.1).e = 0 ∧ (fRead (ldA (V.live ++ (svP V m l).1)) (svP V m l).2.1).out = l := by
  obtain ⟨a, b, _⟩ := sv_read hp (ld := ldA (V.live ++ (svP V m l).1)) (fun x hx => ldA_at (sv_apart h hp) hx)
  exact ⟨a, b⟩
theorem plan_errs (hp : (svP V m l).2.2 ≠ 0) : (svP V m l).2.2 = 8 ∨ (svP V m l).2.2 = 9 ∨ (svP V m l).2.2 = 12 := (planE_err l V.live (freeL m V.live)).resolve_left hp
theorem save_ways {e : Int} {V' : VS} (h : VOk V m) (hg : V.gen < 4611686018427387904) (hs : SaveR V m l e V') :
    ((svP V m l).2.2 = e ∧ (e = 8 ∨ e = 9 ∨ e = 12) ∧ V' = V) ∨
    (e = 7 ∧ (svP V m l).2.2 = 0 ∧ svE V m l = 7 ∧ V' = { V with P := svS V m l, dead := true } ∧ Disk V'.P V'.pages V'.gen V'.root V'.recs V'.live ∧ V'.P.halted = true) ∨
    (e = 0 ∧ (svP V m l).2.2 = 0 ∧ VOk V' m ∧ V'.gen = V.gen + 1 ∧ V'.recs = l ∧ V'.root = (svP V m l).2.1 ∧ V'.pages = V.pages ∧ V'.P = svS V m l ∧ svE V m l = 0 ∧ (∀ n b, (n, b) ∈ V'.live ↔ (b ∈ planB l V.live (freeL m V.live) ∧ (planZ l V.live (freeL m V.live)).2.known b = some n))) := by
  have hd := h.disk
  have h8 := hd.n8
  have h200 := hd.n200
  rcases hs with ⟨h1, rfl, rfl⟩ | ⟨h1, h2, rfl, rfl⟩ | ⟨h1, h2, rfl, ys, hy, rfl⟩
  · exact .inl ⟨rfl, plan_errs h1, rfl⟩
  · refine .inr (.inl ?_)
    have hnew := sv_new h h1
    have hW := writeG (g := V.gen + 1) (r := (svP V m l).2.1) (p := V.pages) h.halted hd.len h.afl hd.pg (by omega) (fun x hx => (hnew x hx).1)
    have e1 : svE V m l = writeE V.P (svP V m l).1 (V.gen + 1) (svP V m l).2.1 V.pages := rfl
    have e2 : svS V m l = writeS V.P (svP V m l).1 (V.gen + 1) (svP V m l).2.1 V.pages := rfl
    rw [← e1, ← e2] at hW
    have key : svE V m l = 7 ∧ (svS V m l).halted = true ∧ ((svS V m l).safe = V.P.safe ∨ (svS V m l).safe = putL V.P.safe (svP V m l).1) ∧ ∃ k, (svS V m l).afl = toAf ((svP V m l).1.take k) := by
      rcases hW with ⟨a, _⟩ | ⟨a1, a2, a3, a4⟩ | ⟨a1, a2, a3, a4⟩
      · exact absurd a h2
      · exact ⟨a1, a2, .inl a3, a4⟩
      · exact ⟨a1, a2, .inr a3, 0, a4⟩
    obtain ⟨k1, k2, k3, kk, k4⟩ := key
    refine ⟨k1, h1, k1, rfl, ?_, k2⟩
    have hsame : ∀ n : Nat, (∀ x ∈ (svP V m l).1, x.1.toNat ≠ n) → (svS V m l).safe[n]? = V.P.safe[n]? := fun n hn => by
      rcases k3 with k3 | k3
      · rw [k3]
      · rw [k3]; exact putL_other _ _ _ hn
    have hafl : ∀ p ∈ (svS V m l).afl, ∃ x ∈ (svP V m l).1, p = ⟨x.1, x.2⟩ := fun p hp => by
      rw [k4] at hp
      obtain ⟨x, hx, rfl⟩ := List.mem_map.1 hp
      exact ⟨x, List.mem_of_mem_take hx, rfl⟩
    have hlen : (svS V m l).safe.length = V.pages := by
      rcases k3 with k3 | k3
      · rw [k3]; exact hd.len
      · rw [k3, putL_len]; exact hd.len
    have hlow : ∀ n : Nat, n < 2 → ∀ x ∈ (svP V m l).1, x.1.toNat ≠ n := fun n hn x hx => by have := (hnew x hx).2.1; omega
    refine ⟨⟨?_, fun p hp => ?_⟩, hlen, h8, h200, hd.ok, ?_, ?_, ?_, hd.low, fun p hp => ?_, hd.cont⟩
    · rcases k3 with k3 | k3
      · show ∀ b ∈ (svS V m l).safe, _
        rw [k3]; exact hd.pg.1
      · show ∀ b ∈ (svS V m l).safe, _
        rw [k3]; exact putL_size _ _ hd.pg.1 (fun x hx => (hnew x hx).1.2)
    · obtain ⟨x, hx, rfl⟩ := hafl p hp
      have := (hnew x hx).1
      exact ⟨⟨this.1.1, by show x.1 < (((svS V m l).safe.length : Nat) : Int); rw [hlen]; exact this.1.2⟩, this.2⟩
    · show (svS V m l).safe[(V.gen % 2).toNat]? = _
      rw [hsame _ (hlow _ (by omega))]; exact hd.crown
    · intro b hb
      have hb : (svS V m l).safe[(1 - V.gen % 2).toNat]? = some b := hb
      rw [hsame _ (hlow _ (by omega))] at hb
      exact hd.other b hb
    · refine hd.tree.stable (fun x hx => ?_)
      show (svS V m l).safe[x.1.toNat]? = _
      rw [hsame _ (fun y hy e => (hnew y hy).2.2 x hx (by have := (hnew y hy).2.1; have := (hd.low x hx).1; omega))]
      exact (hd.tree.mem hx).2.2
    · obtain ⟨x, hx, rfl⟩ := hafl p hp
      exact ⟨(hnew x hx).2.1, fun y hy => (hnew x hx).2.2 y hy⟩
  · refine .inr (.inr ?_)
    have hnew := sv_new h h1
    have hap := sv_apart h h1
    have hW := writeG (g := V.gen + 1) (r := (svP V m l).2.1) (p := V.pages) h.halted hd.len h.afl hd.pg (by omega) (fun x hx => (hnew x hx).1)
    have e1 : svE V m l = writeE V.P (svP V m l).1 (V.gen + 1) (svP V m l).2.1 V.pages := rfl
    have e2 : svS V m l = writeS V.P (svP V m l).1 (V.gen + 1) (svP V m l).2.1 V.pages := rfl
    rw [← e1, ← e2] at hW
    obtain ⟨a1, a2, a3, a4, a5⟩ : svE V m l = 0 ∧ (svS V m l).halted = false ∧ (svS V m l).safe = (putL V.P.safe (svP V m l).1).set ((V.gen + 1) % 2).toNat (Cr.encB (V.gen + 1) (svP V m l).2.1 V.pages) ∧ (svS V m l).afl = [] ∧ (svS V m l).last = fun _ => none := by
      rcases hW with hW | ⟨a1, _⟩ | ⟨a1, _⟩
      · exact hW
      · rw [a1] at h2; cases h2
      · rw [a1] at h2; cases h2
    have hok := root_ok (h.can hg) hd.low h1
    have hlen : (svS V m l).safe.length = V.pages := by rw [a3, List.length_set, putL_len]; exact hd.len
    have hpl : (putL V.P.safe (svP V m l).1).length = V.pages := by rw [putL_len]; exact hd.len
    have hpage : ∀ n : Nat, 2 ≤ n → (svS V m l).safe[n]? = (putL V.P.safe (svP V m l).1)[n]? := fun n hn => by rw [a3, List.getElem?_set_ne (by omega)]
    have hsafe : ∀ x ∈ V.live ++ (svP V m l).1, (svS V m l).safe[x.1.toNat]? = some x.2 ∧ 2 ≤ x.1 ∧ x.1 < V.pages := fun x hx => by
      rcases List.mem_append.1 hx with hx | hx
      · have hl := hd.low x hx
        refine ⟨?_, hl⟩
        rw [hpage _ (by omega), putL_other _ _ _ (fun y hy e => (hnew y hy).2.2 x hx (by have := (hnew y hy).2.1; omega))]
        exact (hd.tree.mem hx).2.2
      · have hl := hnew x hx
        refine ⟨?_, hl.2.1, hl.1.1.2⟩
        rw [hpage _ (by omega)]
        exact putL_at _ _ (List.pairwise_append.1 hap).2.1 (fun y hy => by rw [hd.len]; exact (hnew y hy).1.1) x hx
    obtain ⟨r1, r2, r3⟩ := sv_read h1 (ld := ldF (svS V m l).safe) (fun x hx => ldF_at (hsafe x hx).1 (by have := (hsafe x hx).2.1; omega))
    obtain ⟨q1, q2, q3⟩ := sv_read h1 (ld := ldA (V.live ++ (svP V m l).1)) (fun x hx => ldA_at hap hx)
    have hchar : ∀ n b, (n, b) ∈ ys ↔ (b ∈ planB l V.live (freeL m V.live) ∧ (planZ l V.live (freeL m V.live)).2.known b = some n) := fun n b => (hy.2 n b).trans (q3 n b)
    have hys : ∀ x ∈ ys, x ∈ V.live ++ (svP V m l).1 := fun x hx => sv_known h1 ((hchar x.1 x.2).1 hx).2
    refine ⟨rfl, h1, ⟨?_, h.pages, a2, a5, a4, h.dead⟩, rfl, rfl, rfl, rfl, rfl, h2, hchar⟩
    refine ⟨⟨?_, fun p hp => ?_⟩, hlen, h8, h200, hok, ?_, ?_, ⟨r1, r2, hy.1, fun n b => ?_⟩, fun x hx => (hsafe x (hys x hx)).2, fun p hp => ?_, fun x hx y hy2 e => ?_⟩
    · show ∀ b ∈ (svS V m l).safe, _
      rw [a3]
      intro b hb
      rcases List.mem_or_eq_of_mem_set hb with hb | rfl
      · exact putL_size _ _ hd.pg.1 (fun x hx => (hnew x hx).1.2) b hb
      · exact Cr.encB_size _ _ _
    · have hp : p ∈ (svS V m l).afl := hp
      rw [a4] at hp; cases hp
    · show (svS V m l).safe[((V.gen + 1) % 2).toNat]? = _
      rw [a3, List.getElem?_set_self (by rw [hpl]; omega)]
    · intro b hb hc
      have hb : (svS V m l).safe[(1 - (V.gen + 1) % 2).toNat]? = some b := hb
      have hidx : (1 - (V.gen + 1) % 2).toNat = (V.gen % 2).toNat := by omega
      rw [hidx, a3, List.getElem?_set_ne (by omega), putL_other _ _ _ (fun x hx => by have := (hnew x hx).2.1; omega), hd.crown] at hb
      injection hb with hb
      subst hb
      show Cr.gG _ < V.gen + 1
      rw [Cr.gG_enc hd.ok]; omega
    · exact (hchar n b).trans (r3 n b).symm
    · have hp : p ∈ (svS V m l).afl := hp
      rw [a4] at hp; cases hp
    · have k1 := ((hchar x.1 x.2).1 hx).2
      have k2 := ((hchar y.1 y.2).1 hy2).2
      rw [e, k2] at k1
      injection k1 with k1
      exact k1.symm
def opV (S : VP.PS) (N : Nat) (gen root : Int) (recs live : List R2) : VS := ⟨S, gen, root, N, recs, live, false⟩
theorem Disk.vok {S : VP.PS} {N : Nat} {gen root : Int} {recs live : List R2} (h : Disk S N gen root recs live) (hh : S.halted = false) (hl : S.last = fun _ => none) (ha : S.afl = []) (hN : N = m + 2) : VOk (opV S N gen root recs live) m :=
  ⟨h, hN, hh, hl, ha, rfl⟩
end
theorem open_disk {w0 w : World} {g : Nat} {S : VP.PS} {N : Nat} {gen root : Int} {recs live : List R2} (h : VP.IsQ w0 w g S) (hd : Disk S N gen root recs live) (hh : S.halted = false) (hl : S.last = fun _ => none) :
    Calls Tryz.prog 13 #[.pointer (some ⟨g, 0, none⟩)] w fun e w' => ∃ gv, e = .returned (.tuple #[.pointer (some ⟨gv, 0, none⟩), .int .i64 0]) ∧ IsV w0 w' gv g (opV S N gen root recs live) ∧ Below w.heap.size w w' := by
  refine (open_any h (hd.small hh hl)).mono ?_
  rintro e w' ⟨hr, hb⟩
  obtain ⟨hp, _, _⟩ := hd.pick hh hl
  rcases hr with ⟨h1, _⟩ | ⟨_, gv, lv, vv, ys, rfl, hx, hgv, hlv, hvv, hys⟩
  · exact absurd (hd.opE hh hl) h1
  · rw [hp] at hx hlv hys
    simp only [] at hx hlv hys
    rw [ldP_eq hh hl] at hlv hys
    rw [hd.tree.out] at hlv
    have e1 : ys = live := pages_ext hys hd.tree.pages rfl
    subst e1
    exact ⟨gv, rfl, ⟨h.below hb, lv, vv, hx, Nat.le_trans h.1.size hgv, Kd.R_lower hlv h.1.size, Kd.R_lower hvv h.1.size⟩, hb⟩
end Go.Proofs.YtdhaoaehboonpaaGreat.V
end
section
namespace Go.Proofs.YtdhaoaehboonpaaGreat.V
open Go.RowKit Go.Proofs.YtdhaoaehboonpaaGreatW.PrintWords Go.Proofs.YtdhaoaehboonpaaGreatW.PrintLast Go.Proofs.YtdhaoaehboonpaaGreatW.PrintMore Go.Proofs.YtdhaoaehboonpaaGreatM
set_option linter.unusedVariables false
set_option linter.unusedSimpArgs false
theorem pgs_sorted (m : Nat) : (pgs m).Pairwise (· < ·) := by
  unfold pgs
  rw [List.pairwise_map]
  exact List.pairwise_lt_range.imp (fun h => by omega)
theorem zero_crown : Cr.isC (VP.zer 128) = false := by decide +kernel
theorem fmt_disk {N : Nat} {l : List R2} (h8 : 8 ≤ N) (h200 : N ≤ 200) (hp : (planE l [] (pgs (N - 2))).2.2 = 0) :
    Disk (fmtS N l) N 1 (planE l [] (pgs (N - 2))).2.1 l (planE l [] (pgs (N - 2))).1 ∧ (fmtS N l).halted = false ∧ (fmtS N l).last = (fun _ => none) ∧ (fmtS N l).afl = [] ∧ (fmtS N l).halts = false := by
  have hgood := plan_good (n := N) hp (fun x hx => by have := pgs_mem.1 hx; omega)
  have hap := plan_apart hp (pgs_nodup (N - 2))
  obtain ⟨O, hO⟩ : ∃ O, O = (planE l [] (pgs (N - 2))).1 := ⟨_, rfl⟩
  obtain ⟨rt, hrt⟩ : ∃ r, r = (planE l [] (pgs (N - 2))).2.1 := ⟨_, rfl⟩
  have hw := write_ok (S := VP.newS N) (N := N) (l := O) (g := 1) (r := rt) (p := N) (newS_std N _) rfl rfl (by omega) (fun x hx => (hgood x (by rw [← hO]; exact hx)).1)
  have hfm : fmtS N l = writeS (VP.newS N) O 1 rt N := by unfold fmtS; rw [hO, hrt]
  rw [← hfm] at hw
  obtain ⟨w1, w2, w3, w4, w5, w6, w7⟩ := hw
  have hok := fmt_ok h8 h200 hp
  rw [← hO] at hgood hap
  rw [← hrt] at hok
  have hnew : (VP.newS N).safe = List.replicate N (VP.zer 128) := rfl
  have hpl : (putL (VP.newS N).safe O).length = N := by rw [putL_len, hnew, List.length_replicate]
  have hsafe : ∀ x ∈ O, (fmtS N l).safe[x.1.toNat]? = some x.2 ∧ 2 ≤ x.1 ∧ x.1 < N := fun x hx => by
    have hl := hgood x hx
    refine ⟨?_, hl.2, hl.1.1.2⟩
    rw [w3, List.getElem?_set_ne (by have := hl.2; omega)]
    exact putL_at _ _ hap (fun y hy => by rw [hnew, List.length_replicate]; exact (hgood y hy).1.1) x hx
  have hkn : ∀ b n, (planZ l [] (pgs (N - 2))).2.known b = some n → (n, b) ∈ O := fun b n hk => by
    have hk2 : (planZ l [] (pgs (N - 2))).2.known = knF ([] ++ (planZ l [] (pgs (N - 2))).2.out) := planZ_kn l _ _
    rw [hk2] at hk
    have h1 := knF_mem _ _ _ hk
    rw [hO, (planE_ok hp).2.2.2.2]; exact h1
  have hK : LdK (ldF (fmtS N l).safe) (planZ l [] (pgs (N - 2))).2.known := fun b n hk => ldF_at (hsafe _ (hkn b n hk)).1 (by have := (hsafe _ (hkn b n hk)).2.1; show (0 : Int) ≤ n; have h : (2 : Int) ≤ n := this; omega)
  obtain ⟨r1, r2, _⟩ := plan_read hp hK
  have r3 := plan_pages hp hK
  rw [← hrt] at r1 r2 r3
  rw [← hO] at r3
  have hsort : O.Pairwise fun p q => p.1 < q.1 := by
    have hz : O = (planZ l [] (pgs (N - 2))).2.out := by rw [hO, (planE_ok hp).2.2.2.2]
    have h1 := (plan_inv l [] (pgs (N - 2))).pages
    have h2 := pgs_sorted (N - 2)
    rw [← h1] at h2
    have h3 := (List.pairwise_append.1 h2).1
    rw [List.pairwise_map] at h3
    rw [hz]; exact h3
  rw [← hO, ← hrt]
  refine ⟨⟨w2.pages, w2.len, h8, h200, hok, ?_, ?_, ⟨r1, r2, hsort, fun n b => (r3 n b).symm⟩, fun x hx => (hsafe x hx).2, fun p hp => (by rw [w4] at hp; cases hp), fun x hx y hy e => ?_⟩, w2.halted, w5, w4, w6⟩
  · show (fmtS N l).safe[((1 : Int) % 2).toNat]? = _
    rw [w3]
    exact List.getElem?_set_self (by rw [hpl]; show (1 : Nat) < N; omega)
  · intro b hb hc
    have hb : (fmtS N l).safe[0]? = some b := hb
    rw [w3, List.getElem?_set_ne (by decide), putL_other _ _ _ (fun x hx => by have := (hgood x hx).2; omega), hnew, List.getElem?_replicate, if_pos (by omega)] at hb
    injection hb with hb
    subst hb
    rw [zero_crown] at hc; cases hc
  · have k1 := (plan_inv l [] (pgs (N - 2))).kn
    have hz : O = (planZ l [] (pgs (N - 2))).2.out := by rw [hO, (planE_ok hp).2.2.2.2]
    rw [hz] at hx hy
    have a := k1 x hx
    rw [e, k1 y hy] at a
    injection a with a
    exact a.symm
theorem freeL_count {m : Nat} {live : List R2} (h : ∀ x ∈ live, 2 ≤ x.1 ∧ x.1 < (m : Int) + 2) (hp : live.Pairwise fun p q => p.1 ≠ q.1) : (freeL m live).length + live.length = m := by
  have hn : (freeL m live ++ live.map (·.1)).Nodup := by
    rw [List.nodup_append]
    refine ⟨freeL_nodup m live, ?_, fun x hx y hy e => ?_⟩
    · unfold List.Nodup; rw [List.pairwise_map]; exact hp
    · obtain ⟨z, hz, rfl⟩ := List.mem_map.1 hy
      exact (freeL_mem.1 hx).2 z hz e.symm
  have h1 := nodup_len _ (pgs m) hn (fun x hx => by
    rw [pgs_mem]
    rcases List.mem_append.1 hx with hx | hx
    · exact (freeL_mem.1 hx).1
    · obtain ⟨z, hz, rfl⟩ := List.mem_map.1 hx; exact h z hz)
  have h2 := nodup_len (pgs m) (freeL m live ++ live.map (·.1)) (pgs_nodup m) (fun x hx => by
    rw [List.mem_append]
    by_cases hx2 : ∃ y ∈ live, y.1 = x
    · obtain ⟨y, hy, rfl⟩ := hx2
      exact .inr (List.mem_map_of_mem hy)
    · exact .inl (freeL_mem.2 ⟨pgs_mem.1 hx, fun y hy e => hx2 ⟨y, hy, e⟩⟩))
  rw [List.length_append, List.length_map, pgs_length] at h1 h2
  omega
theorem live_count {ys all : List R2} {B : List ByteArray} {K : ByteArray → Option Int} (hy : ys.Pairwise fun p q => p.1 ≠ q.1) (ha : all.Pairwise fun p q => p.1 ≠ q.1) (hc : ∀ n b, (n, b) ∈ ys ↔ (b ∈ B ∧ K b = some n)) (hK : ∀ b n, K b = some n → (n, b) ∈ all) :
    ys.length = (all.filter fun x => B.any (fun b => decide (b = x.2)) && decide (K x.2 = some x.1)).length := by
  have nd : ∀ {l : List R2}, (l.Pairwise fun p q => p.1 ≠ q.1) → l.Nodup := fun h => h.imp (fun h e => h (by rw [e]))
  refine Nat.le_antisymm (nodup_len _ _ (nd hy) (fun x hx => ?_)) (nodup_len _ _ ((nd ha).filter _) (fun x hx => ?_))
  · obtain ⟨h1, h2⟩ := (hc x.1 x.2).1 hx
    rw [List.mem_filter]
    have h3 : B.any (fun b => decide (b = x.2)) = true := List.any_eq_true.2 ⟨x.2, h1, decide_eq_true rfl⟩
    exact ⟨hK _ _ h2, by rw [h3, decide_eq_true h2]; rfl⟩
  · rw [List.mem_filter, Bool.and_eq_true, decide_eq_true_eq] at hx
    obtain ⟨b, hb, e⟩ := List.any_eq_true.1 hx.2.1
    have e := of_decide_eq_true e
    subst e
    exact (hc x.1 x.2).2 ⟨hb, hx.2.2⟩
theorem wr_nohalt {N : Nat} : ∀ (l : List R2) {S : VP.PS}, S.halted = false → S.halts = false → S.safe.length = N → (∀ x ∈ l, goodW N x) → wrE S l = 0 ∧ (wrS S l).halts = false
  | [], S, _, h, _, _ => ⟨rfl, h⟩
  | x :: t, S, h, hf, hN, hg => by
    obtain ⟨⟨g1, g2⟩, g3⟩ := hg x List.mem_cons_self
    have hm : VP.mayE S x.1 = 0 := by
      unfold VP.mayE
      rw [h, if_neg (by decide), if_neg (by omega), if_neg (by rw [hN]; omega)]
    have e1 : VP.storeE S x.1 x.2 = 0 := by unfold VP.storeE; rw [if_pos hm, if_pos g3, hf]; rfl
    have e2 : (VP.storeS S x.1 x.2).halts = false := by unfold VP.storeS; rw [if_pos hm, if_pos g3, if_neg (by rw [hf]; intro h; cases h.1)]; exact hf
    have f1 : wrE S (x :: t) = wrE (VP.storeS S x.1 x.2) t := by show (if _ then _ else _) = _; rw [if_pos e1]
    have f2 : wrS S (x :: t) = wrS (VP.storeS S x.1 x.2) t := by show (if _ then _ else _) = _; rw [if_pos e1]
    rw [f1, f2]
    rcases storeG h hN g1 g2 g3 with ⟨_, a2, a3, _⟩ | ⟨a1, _⟩
    · exact wr_nohalt t a2 e2 (by rw [a3]; exact hN) (fun y hy => hg y (List.mem_cons_of_mem _ hy))
    · rw [e1] at a1; cases a1
theorem sv_nohalt {V : VS} {m : Nat} {l : List R2} (h : VOk V m) (hf : V.P.halts = false) (hp : (svP V m l).2.2 = 0) : svE V m l = 0 ∧ (svS V m l).halts = false := by
  have hd := h.disk
  have hnew := sv_new h hp
  obtain ⟨a1, a2⟩ := wr_nohalt (svP V m l).1 h.halted hf hd.len (fun x hx => (hnew x hx).1)
  have a3 := wrG (svP V m l).1 h.halted hd.len (fun x hx => (hnew x hx).1)
  obtain ⟨_, b2, b3, b4⟩ := a3.resolve_right (fun h => by rw [a1] at h; cases h.1)
  have hsl : (VP.seS (wrS V.P (svP V m l).1)).safe.length = V.pages := (VP.settled_length _ _).trans (by rw [b3]; exact hd.len)
  have hm : VP.mayE (VP.seS (wrS V.P (svP V m l).1)) ((V.gen + 1) % 2) = 0 := by
    unfold VP.mayE
    rw [show (VP.seS (wrS V.P (svP V m l).1)).halted = false from b2, if_neg (by decide), if_neg (by omega), if_neg (by rw [hsl]; have := hd.n8; omega)]
  have hf2 : (VP.seS (wrS V.P (svP V m l).1)).halts = false := a2
  have e1 : VP.storeE (VP.seS (wrS V.P (svP V m l).1)) ((V.gen + 1) % 2) (Cr.encB (V.gen + 1) (svP V m l).2.1 V.pages) = 0 := by
    unfold VP.storeE; rw [if_pos hm, if_pos (Cr.encB_size _ _ _), hf2]; rfl
  constructor
  · unfold svE writeE
    rw [if_pos a1]; exact e1
  · unfold svS writeS
    rw [if_pos a1, if_pos e1]
    show (VP.storeS _ _ _).halts = false
    unfold VP.storeS; rw [if_pos hm, if_pos (Cr.encB_size _ _ _), if_neg (by rw [hf2]; intro h; cases h.1)]; exact hf2
end Go.Proofs.YtdhaoaehboonpaaGreat.V
end
section
namespace Go.Proofs.YtdhaoaehboonpaaGreat.V
open Go.RowKit Go.Proofs.YtdhaoaehboonpaaGreatW.PrintWords Go.Proofs.YtdhaoaehboonpaaGreatW.PrintLast Go.Proofs.YtdhaoaehboonpaaGreatW.PrintMore Go.Proofs.YtdhaoaehboonpaaGreatM
set_option linter.unusedVariables false
set_option linter.unusedSimpArgs false
def abc : ByteArray := ⟨#[97, 98, 99]⟩
def aP0 : List R2 × Int × Int := planE [] [] (pgs 6)
theorem al1 : aP0.2.2 = 0 := by decide +kernel
def aV0 : VS := opV (fmtS 8 []) 8 1 aP0.2.1 [] aP0.1
theorem al2 : (svP aV0 6 [(3, abc)]).2.2 = 0 := by decide +kernel
theorem al3 : ((aV0.live ++ (svP aV0 6 [(3, abc)]).1).filter fun x => (planB [(3, abc)] aV0.live (freeL 6 aV0.live)).any (fun b => decide (b = x.2)) && decide ((planZ [(3, abc)] aV0.live (freeL 6 aV0.live)).2.known x.2 = some x.1)).length = 2 := by decide +kernel
theorem aV0_ok : VOk aV0 6 ∧ aV0.P.halts = false := by
  obtain ⟨h1, h2, h3, h4, h5⟩ := fmt_disk (N := 8) (l := []) (by decide) (by decide) al1
  exact ⟨h1.vok h2 h3 h4 rfl, h5⟩
theorem al_save {e : Int} {V' : VS} (hs : SaveR aV0 6 [(3, abc)] e V') : e = 0 ∧ VOk V' 6 ∧ V'.gen = 2 ∧ V'.recs = [(3, abc)] ∧ V'.live.length = 2 ∧ V'.pages = 8 := by
  obtain ⟨h0, hf⟩ := aV0_ok
  have hn := sv_nohalt h0 hf al2
  rcases save_ways h0 (by decide) hs with ⟨h1, h2, _⟩ | ⟨_, _, h1, _⟩ | ⟨h1, h2, h3, h4, h5, h6, h7, h8, h9, h10⟩
  · rw [al2] at h1; rcases h2 with h2 | h2 | h2 <;> omega
  · rw [hn.1] at h1; cases h1
  · refine ⟨h1, h3, h4, h5, ?_, h7⟩
    rw [← al3]
    exact live_count h3.disk.tree.apart (sv_apart h0 al2) h10 (fun b n hk => sv_known al2 hk)
theorem one_rec {W : World} {q : Nat} {n : Int} {b : ByteArray} {t : TypeId} (h : W.heap[q]? = some (.cells #[.int .i64 n, .string b] t (0, 0))) : Kd.C kR W (some ⟨q, 0, none⟩) [(n, b)].length [(n, b)] :=
  C_block (d := kR) (xs := [(n, b)]) h ((Reps.none _ _).snoc (kR_mk _ (n, b)) rfl) (by show 1 ≤ 9223372036854775807; omega)
theorem format_law {w0 w : World} (hb : Below w0.heap.size w0 w) (N : Nat) (h8 : 8 ≤ N) (h200 : N ≤ 200) (A : Option Addr) (c : Nat) (l : List R2) (h : Kd.C kR w A l.length l) (hc : l.length ≤ c) (hl : l.length ≤ 9000) (hp : (planE l [] (pgs (N - 2))).2.2 = 0) :
    Calls Tryz.prog 12 #[.int .i64 (N : Int), .slice A l.length c] w fun e w' => ∃ g, e = .returned (.tuple #[.pointer (some ⟨g, 0, none⟩), .int .i64 0]) ∧ VP.IsQ w0 w' g (fmtS N l) ∧ Below w.heap.size w w' := by
  refine (format_any w N A c l h hc hl).mono ?_
  rintro e w' ⟨hf, hb2⟩
  rcases hf with ⟨h1, _⟩ | ⟨h1, h2, _⟩ | ⟨h1, h2, g, rfl, hq⟩
  · omega
  · rw [Int.toNat_natCast] at h2; exact absurd hp h2
  · rw [Int.toNat_natCast] at hq
    exact ⟨g, rfl, IsQ_lift hq hb, hb2⟩
theorem IsV.q {w0 w : World} {gv g : Nat} {V : VS} (h : IsV w0 w gv g V) : VP.IsQ w0 w g V.P := h.1
theorem fail_nil {w0 w : World} {g : Nat} {S : VP.PS} (h : VP.IsQ w0 w g S) (hp : VP.pagesOk S) (hl : S.afl.length ≤ 1000) :
    Calls Tryz.prog 21 #[.pointer (some ⟨g, 0, none⟩), .slice none 0 0] w fun e w' => e = .returned (.int .i64 0) ∧ VP.IsQ w0 w' g (VP.faS S []) ∧ VP.Others w w' := by
  have := q_failO h hp hl none 0 [] (fun W' _ => Kd.C_nil _ _)
  rw [VP.failed_nil] at this
  exact this
set_option maxHeartbeats 16000000 in
set_option maxRecDepth 100000 in
theorem alive_any (w : World) : Calls Tryz.prog 11 #[] w fun e w' => e = .returned (.bool true) ∧ Below w.heap.size w w' := by
  have HFM := Aside0.mk (show Calls Tryz.prog 12 #[.int .i64 8, .slice none 0 0] w fun e w' => ∃ g, e = .returned (.tuple #[.pointer (some ⟨g, 0, none⟩), .int .i64 0]) ∧ VP.IsQ w w' g (fmtS 8 []) ∧ Below w.heap.size w w' from format_law (Below.refl _ _) 8 (by decide) (by decide) none 0 [] (Kd.C_nil _ _) (Nat.le_refl _) (by decide) al1)
  obtain ⟨S0, hS0⟩ : ∃ S, S = fmtS 8 [] := ⟨_, rfl⟩
  have hd := fmt_disk (N := 8) (l := []) (by decide) (by decide) al1
  have HOP := Aside0.mk (fun (W : World) (g : Nat) (hq : VP.IsQ w W g (fmtS 8 [])) => open_disk hq hd.1 hd.2.1 hd.2.2.1)
  have hv0 : opV (fmtS 8 []) 8 1 (planE [] [] (pgs (8 - 2))).2.1 [] (planE [] [] (pgs (8 - 2))).1 = aV0 := rfl
  rw [hv0] at HOP
  rw [← hS0] at HFM HOP
  have HGEN := Aside0.mk (fun (W : World) (gv g : Nat) (V : VS) (h : IsV w W gv g V) => gen_any h)
  have HSV := Aside0.mk (fun (W : World) (gv g : Nat) (h : IsV w W gv g aV0) (q : Nat) (hq : W.heap[q]? = some (.cells #[.int .i64 3, .string ⟨#[97, 98, 99]⟩] 50 (0, 0))) => show Calls Tryz.prog 15 #[.pointer (some ⟨gv, 0, none⟩), .slice (some ⟨q, 0, none⟩) 1 1] W fun e w' => ∃ r V', e = .returned (.int .i64 r) ∧ SaveR aV0 6 [(3, abc)] r V' ∧ IsV w w' gv g V' ∧ OthersV W w' from save_any h rfl (aV0_ok.1.can (by decide)) aV0_ok.1.disk.low (some ⟨q, 0, none⟩) 1 [(3, abc)] (one_rec hq) (Nat.le_refl _) (by decide) (fun _ => sv_back aV0_ok.1 al2))
  have HAS := Aside0.mk (@al_save)
  obtain ⟨V0, hV0⟩ : ∃ V, V = aV0 := ⟨_, rfl⟩
  have HG0 := Aside0.mk (show V0.gen = 1 from by rw [hV0]; rfl)
  rw [← hV0] at HOP HSV HAS
  clear hd hv0 hV0 hS0
  go_enter Tryz.func11, Tryz.ntmps11
  go_upto_region 4 with (go_at_call 12; (with_reducible refine (HFM.out).mono ?_); rintro e w1 ⟨g, rfl, hq, hb⟩; have HQ1 := Aside0.mk hq; clear hq hb HFM)
  go_upto_region 5 with (go_at_call 13; (with_reducible refine (HOP.out _ _ HQ1.out).mono ?_); rintro e w2 ⟨gv, rfl, hv, hb⟩; have HV2 := Aside0.mk hv; clear hv hb HQ1 HOP)
  go_upto_region 7 with (first
    | (go_at_call 16; (with_reducible refine (HGEN.out _ _ _ _ HV2.out).mono ?_); rintro e w3 ⟨rfl, hb⟩; rw [HG0.out]; have HV3 := Aside0.mk (HV2.out.below hb); clear hb HV2)
    | (go_at_call 15; (with_reducible refine (HSV.out _ _ _ (HV3.out.below (below_alloc (Below.refl _ _) _)) _ (Cr.alloc_at rfl)).mono ?_); rintro e w4 ⟨r, V1, rfl, hs, hv, ho⟩; obtain ⟨rfl, hok, hg, hrec, hlv, hpg⟩ := HAS.out hs; have HV4 := Aside0.mk hv; have HOK := Aside0.mk hok; have HG1 := Aside0.mk hg; have HRC := Aside0.mk hrec; have HLV := Aside0.mk hlv; have HPG := Aside0.mk hpg; clear hs hv ho hok hg hrec hlv hpg HV3)
    | (go_at_call 16; (with_reducible refine (HGEN.out _ _ _ _ HV4.out).mono ?_); rintro e w5 ⟨rfl, hb⟩; rw [HG1.out]; have HV5 := Aside0.mk (HV4.out.below hb); clear hb HV4))
  have HRL := Aside0.mk (show V1.recs.length ≤ 1000000 from by rw [HRC.out]; decide)
  have HLL := Aside0.mk (show V1.live.length ≤ 1000000 from by rw [HLV.out]; decide)
  have HFL := Aside0.mk (show (freeL 6 V1.live).length = 4 from by
    have h1 := freeL_count (m := 6) (live := V1.live) (fun x hx => by have h2 := HOK.out.disk.low x hx; have h3 := HPG.out; rw [h3] at h2; exact ⟨h2.1, by have := h2.2; show x.1 < 8; omega⟩) HOK.out.disk.tree.apart
    have h2 := HLV.out
    omega)
  have HF := Aside0.mk (fun (W : World) (hq : VP.IsQ w W g V1.P) => fail_nil hq HOK.out.disk.pg (by rw [HOK.out.afl]; decide))
  go_upto_region 8 with (go_at_call 21; (with_reducible refine (HF.out _ HV5.out.q).mono ?_); rintro e w6 ⟨rfl, hq, ho⟩; have HQ6 := Aside0.mk hq; clear hq ho HV5)
  have HO := Aside0.mk (fun (W : World) (hq : VP.IsQ w W g (VP.faS V1.P [])) => open_disk hq (HOK.out.disk.fail []) rfl rfl)
  obtain ⟨V2, hV2⟩ : ∃ V, V = opV (VP.faS V1.P []) V1.pages V1.gen V1.root V1.recs V1.live := ⟨_, rfl⟩
  have r1 : V2.recs = [(3, abc)] := by rw [hV2]; exact HRC.out
  have r2 : V2.live.length = 2 := by rw [hV2]; exact HLV.out
  have r3 : (freeL 6 V2.live).length = 4 := by rw [hV2]; exact HFL.out
  have r4 : V2.pages = 6 + 2 := by rw [hV2]; exact HPG.out
  rw [← hV2] at HO
  have R1 := Aside0.mk r1
  have R2 := Aside0.mk r2
  have R3 := Aside0.mk r3
  have R4 := Aside0.mk r4
  have HRECS := Aside0.mk (fun (W : World) (gw : Nat) (h : IsV w W gw g V2) => records_any h (by rw [R1.out]; decide))
  have HLIVE := Aside0.mk (fun (W : World) (gw : Nat) (h : IsV w W gw g V2) => live_any h (by rw [R2.out]; decide))
  have HFREE := Aside0.mk (fun (W : World) (gw : Nat) (h : IsV w W gw g V2) => vfree_any h R4.out (by decide) (by rw [R2.out]; decide))
  rw [r1] at HRECS
  clear hV2 r1 r2 r3 r4
  go_upto_region 9 with (go_at_call 13; (with_reducible refine (HO.out _ HQ6.out).mono ?_); rintro e w7 ⟨gw, rfl, hv, hb⟩; have HV7 := Aside0.mk hv; clear hv hb HQ6)
  go_wp2_with (first
    | (go_at_call 18; (with_reducible refine (HRECS.out _ _ HV7.out).mono ?_); rintro e w8 ⟨v8, rfl, hr, hb⟩; obtain ⟨A8, c8, ev⟩ := Kd.R_slice hr; subst ev; have HV8 := Aside0.mk (HV7.out.below hb); clear hr hb HV7)
    | (go_at_call 18; (with_reducible refine (HRECS.out _ _ HV8.out).mono ?_); rintro e w9 ⟨v9, rfl, hr, hb⟩; obtain ⟨A9, c9, ev⟩ := Kd.R_slice hr; subst ev; have HV9 := Aside0.mk (HV8.out.below hb); obtain ⟨ad, ea, x0, x1⟩ := at_R (Kd.R_reads' hr).2.2 0 (by decide); subst ea; have x2 : w9.cell? ⟨ad.block, ad.off + 1, none⟩ = some (.string ⟨#[97, 98, 99]⟩) := (by simpa [Addr.add, atR, abc] using x1); clear hr hb HV8)
    | (go_at_call 22; (with_reducible refine (HLIVE.out _ _ HV9.out).mono ?_); rintro e w10 ⟨v10, rfl, hr, hb⟩; obtain ⟨A10, c10, ev⟩ := Kd.R_slice hr; rw [List.length_map, R2.out] at ev; subst ev; have HV10 := Aside0.mk (HV9.out.below hb); clear hr hb HV9 x0 x1 x2)
    | (go_at_call 23; (with_reducible refine (HFREE.out _ _ HV10.out).mono ?_); rintro e w11 ⟨v11, rfl, hr, hb⟩; obtain ⟨A11, c11, ev⟩ := Kd.R_slice hr; rw [R3.out] at ev; subst ev; have HV11 := Aside0.mk (HV10.out.below hb); clear hr hb HV10))
  go_ret
  exact ⟨rfl, HV11.out.1.1⟩
end Go.Proofs.YtdhaoaehboonpaaGreat.V
end
section
namespace Go.Proofs.YtdhaoaehboonpaaGreat.Th
open Go.ChangeShapes Go.WideShapes Go.ChangeAt Go.RowKit Go.Proofs.YtdhaoaehboonpaaGreatW.PrintWords
open Go.Proofs.YtdhaoaehboonpaaGreat.PSm (S50 k50 k50_mk)
set_option linter.unusedVariables false
set_option linter.unusedSimpArgs false
theorem listed {α : Type} {P : Nat → α → Prop} (n : Nat) (h : ∀ i, i < n → ∃ p, P i p) : ∃ l : List α, l.length = n ∧ ∀ i p, l[i]? = some p → P i p := by
  induction n with
  | zero => exact ⟨[], rfl, fun i p hi => by simp at hi⟩
  | succ n ih =>
    obtain ⟨l, hl, hp⟩ := ih (fun i hi => h i (by omega))
    obtain ⟨p, hpn⟩ := h n (by omega)
    refine ⟨l ++ [p], by rw [List.length_append, hl]; rfl, fun i q hq => ?_⟩
    by_cases hi : i < l.length
    · rw [List.getElem?_append_left hi] at hq; exact hp i q hq
    · rw [List.getElem?_append_right (by omega)] at hq
      by_cases h0 : i - l.length = 0
      · rw [h0] at hq
        simp at hq
        subst hq
        have : i = n := by omega
        rw [this]; exact hpn
      · rw [List.getElem?_eq_none (by simp; omega)] at hq; cases hq
theorem list2 {cs : List Value} (h : cs.length = 2) : ∃ c0 c1, cs = [c0, c1] := by
  match cs, h with
  | [c0, c1], _ => exact ⟨c0, c1, rfl⟩
section
variable {H : Type} {enc : TypeId × Value → H} {W : World} {base : Nat} {spare : Nat → Bool} {held : Bool}
theorem cells3 : Tryz.prog.cellsOf 3 = 1 := by kernel_rfl
theorem cells9 : Tryz.prog.cellsOf 9 = 1 := by kernel_rfl
theorem cells22 : Tryz.prog.cellsOf 31 = 1 := by kernel_rfl
theorem cells45 : Tryz.prog.cellsOf 50 = 2 := by kernel_rfl
theorem int_of {t : TypeId} {n : Nat} {c : Value} {y : Option (DataW H × List MemPlace)} (ht : Tryz.prog.underlying t = some (.int .i64)) (h : DataW.trod enc Tryz.prog W base spare held n t [c] = y) (hy : y.isSome = true) : ∃ a : Int, c = .int .i64 a ∧ (Lit.int .i64 a).wf = true := by
  obtain ⟨x, rfl⟩ := Option.isSome_iff_exists.1 hy
  obtain ⟨a, hc, _, hw⟩ := DataW.trod_int ht h
  simp at hc
  exact ⟨a, hc, hw⟩
theorem cell_of {n : Nat} {cs : List Value} {y : Option (DataW H × List MemPlace)} (h : DataW.trod enc Tryz.prog W base spare held n 50 cs = y) (hy : y.isSome = true) : ∃ x : S50, cs = [.int .i64 x.f0, .string x.f1] ∧ x.f1.size ≤ maxLen := by
  obtain ⟨x, rfl⟩ := Option.isSome_iff_exists.1 hy
  obtain ⟨xs, m, _, _, hcl, hlen, hx⟩ := DataW.trod_struct Tryz.underlying50 h
  obtain ⟨c0, c1, rfl⟩ := list2 (hcl.trans cells45)
  have h0 := hx 0 _ rfl
  change DataW.trod enc Tryz.prog W base spare held m 3 (([c0, c1].drop 0).take (Tryz.prog.cellsOf 3)) = xs[0]? at h0
  rw [cells3] at h0
  have h3 := hx 1 _ rfl
  change DataW.trod enc Tryz.prog W base spare held m 9 (([c0, c1].drop 1).take (Tryz.prog.cellsOf 9)) = xs[1]? at h3
  rw [cells9] at h3
  have hl : xs.length = 2 := hlen
  simp only [List.drop_zero, List.drop_succ_cons, List.take_succ_cons, List.take_zero] at h0 h3
  obtain ⟨a0, rfl, _⟩ := int_of Tryz.underlying3 h0 (by simp [hl])
  obtain ⟨z3, e3⟩ := Option.isSome_iff_exists.1 (show xs[1]?.isSome = true by simp [hl])
  obtain ⟨s3, g3, hs3⟩ := DataW.trod_string Tryz.underlying9 (h3.trans e3)
  simp at g3
  subst g3
  exact ⟨⟨a0, s3⟩, rfl, by first | exact hs3.2 | exact hs3 | exact hs3.1⟩
theorem cells_of {n : Nat} {c : Value} {y : Option (DataW H × List MemPlace)} (h : DataW.trod enc Tryz.prog W base spare held n 31 [c] = y) (hy : y.isSome = true) : ∃ (A : Option Addr) (cp : Nat) (l : List S50), c = .slice A l.length cp ∧ Kd.C k50 W A l.length l ∧ l.length ≤ cp ∧ l.length ≤ maxLen ∧ ∀ x ∈ l, x.f1.size ≤ maxLen := by
  obtain ⟨x, rfl⟩ := Option.isSome_iff_exists.1 hy
  rcases DataW.trod_slice Tryz.underlying31 h with ⟨hcs, _⟩ | ⟨a, len, cap, elems, rest, m, _, hcs, _, hb, hl, hm, hlen, hel, _⟩
  · simp at hcs
    subst hcs
    exact ⟨none, 0, [], rfl, ⟨rfl, by decide, fun h => absurd h (by decide)⟩, Nat.le_refl _, by decide, fun x hx => by cases hx⟩
  · simp at hcs
    subst hcs
    rw [cells45] at hel
    obtain ⟨l, hll, hp⟩ := listed (P := fun i (p : S50) => p.f1.size ≤ maxLen ∧ ∀ j u, [(.int .i64 p.f0 : Value), .string p.f1][j]? = some u → W.cell? (a.add (i * 2 + j)) = some u) len (fun i hi => by
      have h1 := hel i hi
      have h2 : elems[i]?.isSome = true := by rw [List.getElem?_eq_getElem (by omega)]; rfl
      rw [← h1] at h2
      rcases hc : W.cells? base (a.add (i * 2)) 2 with _ | cs
      · rw [hc] at h2; simp at h2
      · rw [hc, Option.bind_some] at h2
        obtain ⟨p, rfl, hps⟩ := cell_of rfl h2
        refine ⟨p, hps, fun j u hu => ?_⟩
        have h3 := (World.cells?_some hc)
        have hj : j < 2 := by
          rcases Nat.lt_or_ge j 2 with h | h
          · exact h
          · rw [List.getElem?_eq_none (by simpa using h)] at hu; cases hu
        have h4 := h3.2.2 j hj
        rw [hu] at h4
        rw [← h4]
        exact congrArg W.cell? (Addr.add_add a (i * 2) j).symm)
    exact ⟨some a, cap, l, by rw [hll], ⟨rfl, by rw [hll]; exact Nat.le_trans hl hm, fun _ => ⟨a, rfl, fun j p hj => ⟨_, rfl, k50_mk W p, fun i u hu => (hp j p hj).2 i u hu⟩⟩⟩, by rw [hll]; exact hl, by rw [hll]; exact Nat.le_trans hl hm,
      fun x hx => by obtain ⟨j, hj, rfl⟩ := List.getElem_of_mem hx; exact (hp j _ (List.getElem?_eq_getElem hj)).1⟩
set_option maxRecDepth 100000 in
theorem cells_open {r : Reach} {b0 : Nat} {v : Value} {d : DataW H} {p : List MemPlace} (hv : Value.okWide Tryz.prog W r b0 31 v) (h : DataW.Trod enc Tryz.prog W base spare held 31 v d p) :
    ∃ (A : Option Addr) (c : Nat) (l : List S50), v = .slice A l.length c ∧ Kd.C k50 W A l.length l ∧ l.length ≤ c ∧ l.length ≤ maxLen ∧ ∀ x ∈ l, x.f1.size ≤ maxLen := by
  obtain ⟨a, len, cap, rfl⟩ := okWide_slice (P := Tryz.prog) (w := W) (r := r) (base := b0) (v := v) Tryz.underlying31 hv
  obtain ⟨fuel, hf⟩ := h
  exact cells_of (y := some (d, p)) hf rfl
end
end Go.Proofs.YtdhaoaehboonpaaGreat.Th
end
section
namespace Go.Proofs.YtdhaoaehboonpaaGreat.V
open Go.RowKit Go.Proofs.YtdhaoaehboonpaaGreatW.PrintWords Go.Proofs.YtdhaoaehboonpaaGreatW.PrintLast Go.Proofs.YtdhaoaehboonpaaGreatW.PrintMore
set_option linter.unusedVariables false
set_option linter.unusedSimpArgs false
def to84 (x : R2) : PSm.S109 := ⟨x.1, x.2⟩
def to45 (x : R2) : PSm.S50 := ⟨x.1, x.2⟩
theorem rd84 (l : List R2) (i : Int) : PSm.rd_T109 (l.map to84) i = to84 (atR l i.toNat) := by
  unfold PSm.rd_T109 atR
  rw [List.getD_eq_getElem?_getD, List.getD_eq_getElem?_getD, List.getElem?_map]
  cases l[i.toNat]? <;> rfl
theorem rd45 (l : List R2) (i : Int) : PSm.rd_T50 (l.map to45) i = to45 (atR l i.toNat) := by
  unfold PSm.rd_T50 atR
  rw [List.getD_eq_getElem?_getD, List.getD_eq_getElem?_getD, List.getElem?_map]
  cases l[i.toNat]? <;> rfl
theorem map45 (l : List R2) : (l.map to45).map (fun x : PSm.S50 => (x.f0, x.f1)) = l := by
  rw [List.map_map]
  conv => rhs; rw [← List.map_id l]
  rfl
theorem map84 (l : List R2) : (l.map to84).map (fun x : PSm.S109 => (x.f0, x.f1)) = l := by
  rw [List.map_map]
  conv => rhs; rw [← List.map_id l]
  rfl
theorem recs_l0 (l : List R2) (hl : l.length ≤ 1000000) (d : Nat) : ∀ (k i : Nat), l.length - i = d → i ≤ l.length → d < k → PSm.maquettelaw16_Records.l0 k ((l.take i).map to84) (l.map to45) (l.length : Int) (i : Int) = some (l.map to84) := by
  induction d with
  | zero =>
    intro k i hd hi hk
    obtain ⟨k, rfl⟩ : ∃ m, k = m + 1 := ⟨k - 1, by omega⟩
    simp only [PSm.maquettelaw16_Records.l0]
    rw [if_neg (by omega), List.take_of_length_le (by omega)]
  | succ d ih =>
    intro k i hd hi hk
    obtain ⟨k, rfl⟩ : ∃ m, k = m + 1 := ⟨k - 1, by omega⟩
    have hi2 : i < l.length := by omega
    simp only [PSm.maquettelaw16_Records.l0]
    rw [if_pos (by omega), if_pos (by omega), if_pos (by rw [List.length_map]; omega), if_pos (by rw [List.length_map, List.length_take]; omega), rd45]
    rw [show wrap64 ((i : Int) + 1) = ((i + 1 : Nat) : Int) from by unfold wrap64; omega]
    have e : (l.take i).map to84 ++ [(⟨(to45 (atR l (i : Int).toNat)).f0, (to45 (atR l (i : Int).toNat)).f1⟩ : PSm.S109)] = (l.take (i + 1)).map to84 := by
      rw [List.take_succ_eq_append_getElem hi2, List.map_append]
      congr 2
      unfold atR
      rw [Int.toNat_natCast, List.getD_eq_getElem?_getD, List.getElem?_eq_getElem hi2]; rfl
    rw [e]
    exact ih k (i + 1) (by omega) (by omega) (by omega)
theorem recs_f (l : List R2) (hl : l.length ≤ 1000000) (k : Nat) (hk : l.length < k) : PSm.maquettelaw16_Records.f k (l.map to45) = some (l.map to84) := by
  unfold PSm.maquettelaw16_Records.f
  rw [List.length_map]
  exact recs_l0 l hl l.length k 0 (by omega) (by omega) hk
theorem same_l0 (s m : List R2) (hs : s.length ≤ 1000000) (d : Nat) : ∀ (k i : Nat), s.length - i = d → i ≤ s.length → i ≤ m.length → d < k → PSm.maquettelaw16_SameRecords.l0 k (m.map to84) (s.map to84) (s.length : Int) (i : Int) = some (decide (s.drop i = m.drop i)) := by
  induction d with
  | zero =>
    intro k i hd hi hm hk
    obtain ⟨k, rfl⟩ : ∃ m, k = m + 1 := ⟨k - 1, by omega⟩
    simp only [PSm.maquettelaw16_SameRecords.l0]
    rw [if_neg (by omega), List.drop_of_length_le (show s.length ≤ i by omega)]
    congr 1
    rw [Bool.eq_iff_iff, beq_iff_eq, decide_eq_true_eq, List.length_map, List.length_map]
    constructor
    · intro h; exact (List.drop_of_length_le (by omega)).symm
    · intro h
      have := congrArg List.length h
      rw [List.length_drop] at this
      simp at this; omega
  | succ d ih =>
    intro k i hd hi hm hk
    obtain ⟨k, rfl⟩ : ∃ m, k = m + 1 := ⟨k - 1, by omega⟩
    have hi2 : i < s.length := by omega
    simp only [PSm.maquettelaw16_SameRecords.l0]
    rw [if_pos (by omega)]
    by_cases hml : m.length ≤ i
    · rw [if_pos (by rw [List.length_map]; omega), decide_eq_false]
      rw [List.drop_of_length_le hml, List.drop_eq_getElem_cons hi2]
      exact List.cons_ne_nil _ _
    · have hm2 : i < m.length := by omega
      rw [if_neg (by rw [List.length_map]; omega), if_pos (by omega), if_pos (by rw [List.length_map]; omega), if_pos (by rw [List.length_map]; omega), rd84, rd84, Int.toNat_natCast]
      have es : atR s i = s[i] := by unfold atR; rw [List.getD_eq_getElem?_getD, List.getElem?_eq_getElem hi2]; rfl
      have em : atR m i = m[i] := by unfold atR; rw [List.getD_eq_getElem?_getD, List.getElem?_eq_getElem hm2]; rfl
      rw [es, em, show wrap64 ((i : Int) + 1) = ((i + 1 : Nat) : Int) from by unfold wrap64; omega, ih k (i + 1) (by omega) (by omega) (by omega) (by omega)]
      rw [List.drop_eq_getElem_cons hi2, List.drop_eq_getElem_cons hm2]
      show (if (!(s[i].1 == m[i].1) || !(s[i].2.toList == m[i].2.toList)) = true then some false else _) = _
      have ht : (s[i].2.toList == m[i].2.toList) = decide (s[i].2 = m[i].2) := by
        have := toList_ne (a := s[i].2) (b := m[i].2)
        rw [bne] at this
        have h2 := congrArg (!·) this
        simpa using h2
      rw [ht]
      by_cases h1 : s[i].1 = m[i].1
      · by_cases h2 : s[i].2 = m[i].2
        · rw [if_neg (by rw [h1, h2]; simp)]
          congr 1
          rw [decide_eq_decide]
          constructor
          · intro h; rw [h, Prod.ext h1 h2]
          · intro h; injection h
        · rw [if_pos (by rw [decide_eq_false h2]; simp), decide_eq_false]
          intro h
          injection h with h _
          exact h2 (by rw [h])
      · rw [if_pos (by rw [beq_eq_false_iff_ne.2 h1]; rfl), decide_eq_false]
        intro h
        injection h with h _
        exact h1 (by rw [h])
theorem same_f (s m : List R2) (hs : s.length ≤ 1000000) (k : Nat) (hk : s.length < k) : PSm.maquettelaw16_SameRecords.f k (s.map to45) (m.map to84) = some (decide (s = m)) := by
  unfold PSm.maquettelaw16_SameRecords.f
  rw [recs_f s hs k hk, Option.bind_some, List.length_map]
  exact same_l0 s m hs s.length k 0 (by omega) (by omega) (by omega) hk
theorem recs_any (A : Option Addr) (c : Nat) (l : List R2) (w : World) (h : Kd.C kR w A l.length l) (hc : l.length ≤ c) (hl : l.length ≤ 1000000) :
    Calls Tryz.prog 19 #[.slice A l.length c] w fun e w' => ∃ v : Value, e = .returned v ∧ kR.R 109 w' w.heap.size (fun _ => True) v l ∧ Below w.heap.size w w' := by
  have H := PSm.maquettelaw16_Records.calls (l.length + 1) A c (l.map to45) _ w (by rw [List.length_map]; exact C_iso_mk (f := fun x : PSm.S50 => (x.f0, x.f1)) (by rw [map45]; exact h)) (by rw [List.length_map]; exact hc) (recs_f l hl (l.length + 1) (by omega))
  rw [List.length_map] at H
  refine H.mono ?_
  rintro e w' ⟨v, rfl, hR, hb⟩
  have := R_iso (f := fun x : PSm.S109 => (x.f0, x.f1)) hR
  rw [map84] at this
  exact ⟨v, rfl, this, hb⟩
theorem same_any (A : Option Addr) (c : Nat) (l : List R2) (B : Option Addr) (d : Nat) (m : List R2) (w : World) (h : Kd.C kR w A l.length l) (hc : l.length ≤ c) (hl : l.length ≤ 1000000) (h2 : Kd.C kR w B m.length m) (hd : m.length ≤ d) :
    Calls Tryz.prog 17 #[.slice A l.length c, .slice B m.length d] w fun e w' => e = .returned (.bool (decide (l = m))) ∧ Below w.heap.size w w' := by
  have H := PSm.maquettelaw16_SameRecords.calls (l.length + 1) A c (l.map to45) B d (m.map to84) _ w (by rw [List.length_map]; exact C_iso_mk (f := fun x : PSm.S50 => (x.f0, x.f1)) (by rw [map45]; exact h)) (by rw [List.length_map]; exact hc) (by rw [List.length_map]; exact C_iso_mk (f := fun x : PSm.S109 => (x.f0, x.f1)) (by rw [map84]; exact h2)) (by rw [List.length_map]; exact hd) (same_f l m hl (l.length + 1) (by omega))
  rw [List.length_map, List.length_map] at H
  exact H
end Go.Proofs.YtdhaoaehboonpaaGreat.V
end
section
namespace Go.Proofs.YtdhaoaehboonpaaGreat.V
open Go.RowKit Go.Proofs.YtdhaoaehboonpaaGreatW.PrintWords Go.Proofs.YtdhaoaehboonpaaGreatW.PrintLast Go.Proofs.YtdhaoaehboonpaaGreatW.PrintMore Go.Proofs.YtdhaoaehboonpaaGreatM
open Go.Proofs.YtdhaoaehboonpaaGreat.PSm (S50 k50 maquettelaw16_Few.l0 maquettelaw16_Few.f maquettelaw16_Few.calls maquettebook_SameInts.l0 maquettebook_SameInts.f maquettebook_SameInts.calls)
set_option linter.unusedVariables false
set_option linter.unusedSimpArgs false
theorem few_l0 (l : List S50) (hl : l.length ≤ 9223372036854775807) (d : Nat) : ∀ (k i : Nat) (acc : Int), l.length - i = d → i ≤ l.length → d < k → ∃ b, maquettelaw16_Few.l0 k l acc (l.length : Int) (i : Int) = some b ∧ (b = true → l.length ≤ 120) := by
  induction d with
  | zero =>
    intro k i acc hd hi hk
    obtain ⟨k, rfl⟩ : ∃ m, k = m + 1 := ⟨k - 1, by omega⟩
    unfold maquettelaw16_Few.l0
    rw [if_neg (by omega)]
    by_cases h : (l.length : Int) ≤ 120
    · rw [if_pos h]; exact ⟨_, rfl, fun _ => by omega⟩
    · rw [if_neg h]; exact ⟨_, rfl, fun h => by cases h⟩
  | succ d ih =>
    intro k i acc hd hi hk
    obtain ⟨k, rfl⟩ : ∃ m, k = m + 1 := ⟨k - 1, by omega⟩
    unfold maquettelaw16_Few.l0
    rw [if_pos (by omega), if_pos (by omega), if_pos (by omega), show wrap64 ((i : Int) + 1) = ((i + 1 : Nat) : Int) from by unfold wrap64; omega]
    exact ih k (i + 1) _ (by omega) (by omega) (by omega)
theorem few_f (l : List S50) (hl : l.length ≤ 9223372036854775807) (k : Nat) (hk : l.length < k) : ∃ b, maquettelaw16_Few.f k l = some b ∧ (b = true → l.length ≤ 120) := by
  unfold maquettelaw16_Few.f
  exact few_l0 l hl l.length k 0 0 (by omega) (by omega) (by omega)
theorem few_any (A : Option Addr) (c : Nat) (l : List S50) (w : World) (h : Kd.C k50 w A l.length l) (hc : l.length ≤ c) :
    ∃ b : Bool, (b = true → l.length ≤ 120) ∧ ∀ W, Below w.heap.size w W → Calls Tryz.prog 14 #[.slice A l.length c] W fun e w' => e = .returned (.bool b) ∧ Below W.heap.size W w' := by
  obtain ⟨b, hb, h1⟩ := few_f l h.2.1 (l.length + 1) (by omega)
  exact ⟨b, h1, fun W hW => (maquettelaw16_Few.calls (l.length + 1) A c l b W (Kd.C_below h hW) hc hb).mono fun _ _ ⟨he, hb⟩ => ⟨he, by first | exact hb | exact hb.below⟩⟩
theorem q_haltO {w0 w : World} {g : Nat} {S : VP.PS} (h : VP.IsQ w0 w g S) (n : Int) :
    Calls Tryz.prog 20 #[.pointer (some ⟨g, 0, none⟩), .int .i64 n] w fun e w' => e = .returned (.tuple #[]) ∧ VP.IsQ w0 w' g (VP.haltE S n) ∧ VP.Others w w' := by
  refine (VP.halt_any h.2.narrow n).mono ?_
  rintro e w' ⟨rfl, hi, hk, hb⟩
  refine ⟨rfl, ⟨h.1.trans (hb h.1.size), hi.mono (fun k hk => hk.1)⟩, VP.Others.of_kept (F := fun k => w0.heap.size ≤ k ∧ w0.heap.size ≤ k ∧ k < w.heap.size) ⟨hk.1, fun k h1 h2 => hk.2 k h1 (fun h3 => h2 ⟨⟨h3.1, h3.2.1, h3.2.2.1⟩, h3.2.2.2⟩)⟩⟩
theorem IsV.others {w0 w w' : World} {gv g : Nat} {V : VS} {P : VP.PS} (h : IsV w0 w gv g V) (hq : VP.IsQ w0 w' g P) (ho : VP.Others w w') : IsV w0 w' gv g { V with P := P } := by
  obtain ⟨_, lv, vv, h2, h3, h4, h5⟩ := h
  exact ⟨hq, lv, vv, OthersV_103 ho h2, h3, R_others h4 ho T50o, R_others h5 ho T106o⟩
theorem VOk.halt {V : VS} {m : Nat} (h : VOk V m) (n : Int) : VOk { V with P := VP.haltE V.P n } m := by
  have h1 : (VP.haltE V.P n).halted = false := by unfold VP.haltE; split <;> exact h.halted
  have h2 : (VP.haltE V.P n).last = fun _ => none := by unfold VP.haltE; split <;> exact h.last
  have h3 : (VP.haltE V.P n).afl = [] := by unfold VP.haltE; split <;> exact h.afl
  exact ⟨h.disk.halt n, h.pages, h1, h2, h3, h.dead⟩
end Go.Proofs.YtdhaoaehboonpaaGreat.V
end

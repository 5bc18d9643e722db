/- prune.Sorted: the places, by where boxes begin, and of the same the earlier first. -/
import Derived.Test.YtfblelkegebdiaaB0
import Derived.Test.YtfblelkegebdiaaK
import Derived.Test.YtfblelkegebdiaaZ10
import Derived.Deep.DeepMust
namespace Go.Proofs.Ytfblelkegebdiaa.V
open Go.Proofs Go.RowKit Go.Lib Go.Sort Go.Proofs.YtfblelkegebdiaaW.PrintWords Go.Proofs.YtfblelkegebdiaaW.PrintLast Go.Proofs.YtfblelkegebdiaaW.PrintMore
set_option linter.unusedVariables false
set_option linter.unusedSimpArgs false

theorem compare_swo {α : Type} (f : α → Int) : SWO (ltOf fun x y : α => Lib.compareInt (f x) (f y)) := by
  have lt : ∀ x y : α, ltOf (fun x y : α => Lib.compareInt (f x) (f y)) x y = decide (f x < f y) := by
    intro x y
    unfold ltOf Lib.compareInt
    by_cases h1 : f x < f y
    · simp [h1]
    · by_cases h2 : f y < f x <;> simp [h1, h2]
  exact { irrefl := fun x => by rw [lt]; simp, trans := fun x y z h1 h2 => by rw [lt] at *; simp at *; omega, ntrans := fun x y z h1 h2 => by rw [lt] at *; simp at *; omega }
/-- before: further to the left, or as far and told earlier -/
def ltS {n : Nat} (f : Fin n → Int) (x y : Fin n) : Bool := decide (f x < f y ∨ f x = f y ∧ x.val < y.val)
theorem ltS_ord {n : Nat} (f : Fin n → Int) : StOrd (fun x y : Fin n => Lib.compareInt (f x) (f y)) (ltS f) (fun x => x.val) := by
  have lt : ∀ x y : Fin n, ltOf (fun x y : Fin n => Lib.compareInt (f x) (f y)) x y = decide (f x < f y) := by
    intro x y
    unfold ltOf Lib.compareInt
    by_cases h1 : f x < f y
    · simp [h1]
    · by_cases h2 : f y < f x <;> simp [h1, h2]
  constructor
  · intro x y z h1 h2
    unfold ltS at *
    simp only [decide_eq_true_eq] at *
    omega
  · intro x y h
    rw [lt]
    unfold ltS
    by_cases h1 : f y < f x
    · simp [h1]
    · have h2 : ¬ (f y < f x ∨ f y = f x ∧ y.val < x.val) := by omega
      rw [decide_eq_false h1, decide_eq_false h2]
  · intro x y h h1
    unfold ltS at *
    simp only [decide_eq_true_eq, decide_eq_false_iff_not] at *
    omega
theorem cmp_le {α : Type} (f : α → Int) (x y : α) (h : ltOf (fun x y : α => Lib.compareInt (f x) (f y)) y x = false) : f x ≤ f y := by
  unfold ltOf Lib.compareInt at h
  by_cases h1 : f y < f x
  · simp [h1] at h
  · omega
/-- the numbers up to n, as whole numbers -/
def ups (n : Nat) : List Int := (List.range n).map fun i : Nat => (i : Int)
theorem ups_length (n : Nat) : (ups n).length = n := by unfold ups; simp
theorem ups_snoc (n : Nat) : ups n ++ [(n : Int)] = ups (n + 1) := by unfold ups; rw [List.range_succ, List.map_append]; rfl
/-- the places, as what is sorted -/
def encF (n : Nat) (i : Fin n) : Value := .int .i64 ((i.val : Nat) : Int)
theorem fins_map (n : Nat) : encs (Value.int .i64) (ups n) = (List.finRange n).map (encF n) := by
  unfold ups encs encF
  apply List.ext_getElem (by simp)
  intro i h1 h2
  simp
def numsOf (n : Nat) (d : List (Fin n)) : List Nat := d.map fun i => i.val
theorem nums_enc (n : Nat) (d : List (Fin n)) : d.map (encF n) = encs (Value.int .i64) ((numsOf n d).map fun i : Nat => (i : Int)) := by
  unfold numsOf encs encF
  rw [List.map_map, List.map_map]
  rfl
theorem nums_perm (n : Nat) [Inhabited (Fin n)] (d : Array (Fin n)) (h : PermIn 0 (List.finRange n).toArray.size (List.finRange n).toArray d) : (numsOf n d.toList).Perm (List.range n) := by
  have h2 := h.2.2
  have hs := h.1
  rw [show d.extract 0 (List.finRange n).toArray.size = d by rw [← hs]; exact Array.extract_size, show (List.finRange n).toArray.extract 0 (List.finRange n).toArray.size = (List.finRange n).toArray from Array.extract_size] at h2
  have h3 := h2.map (fun i : Fin n => i.val)
  have e : (List.finRange n).toArray.toList.map (fun i : Fin n => i.val) = List.range n := by
    apply List.ext_getElem (by simp)
    intro i h1 h2
    simp
  rw [e] at h3
  exact h3
/-- a world in which one row has turned, and others have come: the boxes are read as before -/
theorem edges_grown {w0 w W : World} {c g : Nat} {A : Option Addr} {cp : Nat} {l : List Bx} (hl : l.length < 4611686018427387904) (hr : Kd.C k28 w0 A l.length l) (hb : Below w0.heap.size w0 w) (hc : w.heap[c]? = some (.cells #[.slice A l.length cp] 22 (0, 0)))
    (hg : w.grownBy W (some g)) (hgc : c ≠ g) (hge : w0.heap.size ≤ g) : Edges W c l.length (fun i => (at_ l i).f0) where
  few := hl
  reads := fun h0 => by
    have hA : ∃ ad, A = some ad := by
      obtain ⟨ad, e, _⟩ := at_T28 hr 0 h0
      exact ⟨ad, e⟩
    obtain ⟨ad, rfl⟩ := hA
    refine ⟨ad, cp, ?_, fun i hi => ?_⟩
    · have h1 : W.heap[c]? = some (.cells #[.slice (some ad) l.length cp] 22 (0, 0)) := (hg.block c (blk_lt hc) (by intro e; injection e with e; exact hgc e)).trans hc
      exact blk_cell h1 0
    · obtain ⟨ad', e, h1, _⟩ := at_T28 hr i hi
      cases e
      have hlt := World.block_lt_of_cell? w0 _ h1
      have h2 : w.cell? (ad.add (i * 4)) = some (.int .i64 (at_ l i).f0) := (hb.cell hlt).trans h1
      exact (World.cell?_of_block (hg.block _ (World.block_lt_of_cell? w _ h2) (by intro e; injection e with e; omega))).trans h2

set_option maxHeartbeats 8000000 in
set_option maxRecDepth 100000 in
theorem sorted_full (w : World) (A : Option Addr) (cp : Nat) (l : List Bx) (hr : Kd.C k28 w A l.length l) (hc : l.length ≤ cp) (hl : l.length ≤ 1000000) :
    Calls Try.prog 10 #[.slice A l.length cp] w fun e w' => ∃ (v : Value) (d : List Nat), e = .returned v ∧ (Kd.int .i64).R 3 w' w.heap.size (fun k => w.heap.size ≤ k) v (d.map fun i : Nat => (i : Int)) ∧ d.Perm (List.range l.length) ∧ Below w.heap.size w w' ∧ (d.Pairwise fun a b => (at_ l a).f0 < (at_ l b).f0 ∨ (at_ l a).f0 = (at_ l b).f0 ∧ a < b) := by
  have HR := Aside0.mk hr
  have HL := Aside0.mk hl
  have HC := Aside0.mk hc
  obtain ⟨n, hn⟩ : ∃ n, n = l.length := ⟨_, rfl⟩
  have HN := Aside0.mk hn
  have hn1 : n ≤ 1000000 := by omega
  rw [← hn]
  clear hr hl hc hn
  go_enter Try.func10, Try.ntmps10
  go_wp2_with (fail)
  go_loopg [3, 7] n (fun kx v3 v7 wr => ∃ k : Nat, v7 = .int .i64 k ∧ Aside0 (k + kx = n) ∧ Aside0 ((Kd.int .i64).R 3 wr w.heap.size (fun k => w.heap.size ≤ k) v3 (ups k)) ∧ Aside0 (Below w.heap.size w wr) ∧ Aside0 (wr.heap[w.heap.size]? = some (.cells #[.slice A n cp] 22 (0, 0))) ∧ Aside0 (k = 0 → v3 = .slice none 0 0))
  case atStart => exact ⟨0, rfl, ⟨by omega⟩, ⟨Kd.R_nil _ _ _ _ _⟩, ⟨below_alloc (Below.refl _ _) _⟩, ⟨(MapKept.heap_alloc w _).1⟩, ⟨fun _ => rfl⟩⟩
  case round =>
    obtain ⟨k, rfl, HK, HO, HB, HX, HZ⟩ := hrel
    cases gk with
    | zero =>
      have hk : k = n := by have := HK.out; omega
      subst hk
      have d1 : decide ((k : Int) < (k : Int)) = false := decide_eq_false (by omega)
      have d2 : decide (k < k) = false := decide_eq_false (by omega)
      by_cases hz : k = 0
      · obtain rfl := HZ.out hz
        go_wp2_with (fail)
        with_reducible refine (sortStable_nil _ _).mono ?_
        rintro e w' ⟨rfl, rfl⟩
        go_wp2_with (fail)
        go_ret
        refine ⟨_, [], rfl, Kd.R_nil _ _ _ _ _, ?_, HB.out, List.Pairwise.nil⟩
        rw [hz]
        exact List.Perm.nil
      · obtain ⟨g, cap, e, hg, hlt, cells, hcell⟩ := Kd.R_form HO.out (by rw [ups_length]; omega)
        rw [ups_length] at e
        subst e
        haveI : Inhabited (Fin k) := ⟨⟨0, by omega⟩⟩
        have own := Kd.own_of_R HO.out
        rw [ups_length, fins_map] at own
        have hcg : w.heap.size ≠ g := by
          rintro rfl
          have h1 := HX.out
          rw [hcell] at h1
          injection h1 with h1
          injection h1 with _ h2
          exact absurd h2 (by decide)
        have hH : Holds (encF k) wr g 0 (List.finRange k).toArray := holds_of_own own rfl
        have R1 : Row1 (encF k) wr g 0 (List.finRange k).toArray := ⟨fun _ => rfl, hH, hlt⟩
        have eg : ∀ args w, (callFunc 24 args).run Try.prog w = .ok (.enter 24 args) w := enters_of Try.func24 (by kernel_rfl) rfl
        have hX := HX.out
        rw [HN.out] at hX
        have hcmp : CmpLays1 Try.prog 24 #[.pointer (some ⟨w.heap.size, 0, none⟩)] (encF k) (fun x y : Fin k => Lib.compareInt ((at_ l x.val).f0) ((at_ l y.val).f0)) g 0 (List.finRange k).toArray.size wr :=
          fun m os dk hs x y => (sorted_cmp _ w.heap.size l.length (fun i => (at_ l i).f0) (edges_grown (by have := HL.out; omega) HR.out HB.out hX (grownBy_sortedG dk) hcg hg) x.val y.val (by have := HN.out; have := x.2; omega) (by have := HN.out; have := y.2; omega)).mono fun _ _ ⟨he, q, hq⟩ => ⟨he, q, #[], by rw [hq]; exact (grow_empty _).symm⟩
        have hc := sortStable_s (encF k) _ _ _ (ltS_ord fun x : Fin k => (at_ l x.val).f0) (compare_swo fun x : Fin k => (at_ l x.val).f0) 24 _ g 0 cap (List.finRange k).toArray wr eg hcmp R1 (by simp; omega) (fun x hx => by have hx' : x < k := (by simpa using hx); rw [getElem!_pos _ x hx]; simp)
        rw [show (List.finRange k).toArray.size = k by simp] at hc
        have HC := Aside0.mk hc
        have OWN := Aside0.mk own
        have HG := Aside0.mk hg
        clear hc own hcmp R1 hH eg hX hcell hz
        go_wp2_with (fail)
        with_reducible refine (HC.out).mono ?_
        rintro e w' ⟨rfl, hsp⟩
        have SP1 := Aside0.mk hsp
        clear hsp
        go_wp2_with (fail)
        go_ret
        obtain ⟨d', hp, hso, m, os, rfl⟩ := SP1.out
        have hsz : d'.toList.length = k := by have := hp.1; simpa using this
        have ho := own_sorted (enc := encF k) (q := m) (os := os) (ts := d'.toList) OWN.out (by rw [hsz, Nat.mul_one])
        rw [Array.toArray_toList, nums_enc] at ho
        refine ⟨_, numsOf k d'.toList, rfl, Kd.R_of_own (by rw [List.length_map]; unfold numsOf; rw [List.length_map, hsz]; exact ho) (fun k hk => own_base ho k hk), ?_, ?_, ?_⟩
        · exact nums_perm k d' hp
        · exact pw_below_grown HB.out _ HB.out.size (grownBy_sortedG d') (by rintro q e; injection e with e; omega)
        · unfold numsOf
          rw [List.pairwise_map, List.pairwise_iff_getElem]
          intro i j hi hj hij
          have h1 := hso i j (Nat.zero_le _) hij (by rw [hsz] at hj; simpa using hj)
          have hi' : i < d'.size := by simpa using hi
          have hj' : j < d'.size := by simpa using hj
          rw [getElem!_pos d' i hi', getElem!_pos d' j hj'] at h1
          simp only [Array.getElem_toList]
          exact of_decide_eq_true h1
    | succ gk =>
      have hk : k < n := by have := HK.out; omega
      have d1 : decide ((k : Int) < (n : Int)) = true := decide_eq_true (by omega)
      have d2 : decide (k < n) = true := decide_eq_true (by omega)
      have hb0 : k ≤ 1000000 := by omega
      go_wp2_with (first
        | ((with_reducible refine gate_builtin (b := .append) (xs := #[.tmp 10, .tmp 12]) rfl ?_); at_builtin; go_must (refine Kd.R_append (Kd.int .i64) w.heap.size rfl (.tmp 10) (.tmp 12) 31 3 (.int .i64 0) 8 rfl Try.underlying31 info3 rfl (by decide) (by omega) u3 (ups k) ((k : Nat) : Int) [.int .i64 k] (fun k => w.heap.size ≤ k) (fun _ => False) rfl rfl (ki_mkM _ _ _ _) (fun _ hk => hk.elim) ?aF HO.out HB.out HB.out.size (by rw [ups_length]; omega) ?_); (case aF => exact fun k hk => Nat.le_trans HB.out.size hk); intro v5_ w5_ ho_ hb_ hg_ hat_; rw [ups_snoc] at ho_; have HO2 := Aside0.mk ho_; have HB2 := Aside0.mk hb_; have HX2 := Aside0.mk ((hg_.block _ (blk_lt HX.out) (Kd.R_ne HO.out HX.out (by decide))).trans HX.out); clear ho_ hb_ hg_ hat_))
      go_roundg gk
      case measure => omega
      case rel => exact ⟨k + 1, by first | rfl | go_num, ⟨by have := HK.out; omega⟩, HO2, HB2, HX2, ⟨fun h => absurd h (by omega)⟩⟩
theorem sorted_any (w : World) (A : Option Addr) (cp : Nat) (l : List Bx) (hr : Kd.C k28 w A l.length l) (hc : l.length ≤ cp) (hl : l.length ≤ 1000000) :
    Calls Try.prog 10 #[.slice A l.length cp] w fun e w' => ∃ (v : Value) (d : List Nat), e = .returned v ∧ (Kd.int .i64).R 3 w' w.heap.size (fun k => w.heap.size ≤ k) v (d.map fun i : Nat => (i : Int)) ∧ d.Perm (List.range l.length) ∧ Below w.heap.size w w' ∧ (l.length < 20 → d.Pairwise fun a b => (at_ l a).f0 ≤ (at_ l b).f0) :=
  (sorted_full w A cp l hr hc hl).mono fun _ _ ⟨v, d, h1, h2, h3, h4, h5⟩ => ⟨v, d, h1, h2, h3, h4, fun _ => h5.imp fun h => by omega⟩
end Go.Proofs.Ytfblelkegebdiaa.V

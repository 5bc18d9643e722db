/- Of the texts that the row stands on, what it needs (part 31), put together by a program of this session. -/
import Derived.Test.YtdhaoaehboonpaaGreatZcT13
import Derived.Test.YtdhaoaehboonpaaGreatZcT4
import Derived.Test.YtdhaoaehboonpaaGreatZcT30
import Derived.Sort.OwnSortedInts
import Derived.Shelf.SlSortCmp.WholeK
import Derived.WalkKit
import Derived.BigQuiet
import Derived.Deep.LoopGhost
import Derived.Sort.Grow
import Derived.Lib.Hide
import Derived.Lib.Small
import Derived.Deep.DeepMust
import Derived.Test.YtdhaoaehboonpaaGreatZcT29
import Derived.Test.YtdhaoaehboonpaaGreatZcT19
import Derived.Ground.SlgnProg
import Derived.Shelf.SlicesE.Clone
import Derived.StillTailTactics
section
namespace Go.Proofs.YtdhaoaehboonpaaGreat.V
open Go.Proofs Go.Shelf Go.RowKit Go.Lib Go.Sort Go.Proofs.YtdhaoaehboonpaaGreatW.PrintWords Go.Proofs.YtdhaoaehboonpaaGreatW.PrintLast Go.Proofs.YtdhaoaehboonpaaGreatW.PrintMore
set_option linter.unusedVariables false
set_option linter.unusedSimpArgs false
section
variable {α : Type} [Inhabited α]
theorem holds_of_own {enc : α → Value} {w : World} {g n cap base : Nat} {e : TypeId} {ss : List α} {k : Nat} {xs : List Value} (h : w.ownsRow base e k (.slice (some ⟨g, 0, none⟩) n cap) n xs) (hx : xs = ss.map enc) : Holds enc w g 0 ss.toArray := by
  subst hx
  rcases h.2 with ⟨h0, _⟩ | ⟨g', cap', cur, hv, hg, hb, hn, hcap, hsz, ht⟩
  · cases h0
  cases hv
  intro j hj
  have hj' : j < ss.length := by simpa using hj
  refine ⟨?_, by simp [World.frozen?, hb]⟩
  have hl := h.1
  rw [List.length_map] at hl
  have h1 : (cur.toList.take (n * k))[j]? = (ss.map enc)[j]? := by rw [ht]
  rw [List.getElem?_take_of_lt (by omega)] at h1
  simp only [World.cell?, hb, Nat.zero_add]
  simp only [Option.isSome_none, Bool.false_eq_true, if_false]
  rw [← Array.getElem?_toList, h1]
  simp [hj']
theorem heap_sortedG {enc : α → Value} {w : World} {g n : Nat} {os : Array Obj} {cur : Array Value} {e : TypeId} {fr : Nat × Nat} (d : Array α) (hb : w.heap[g]? = some (.cells cur e fr)) :
    (grow (putRow enc (Sort.ahead w n) g 0 d) os).heap[g]? = some (.cells (putCells enc 0 d cur) e fr) := by
  have hg : g < w.heap.size := (Array.getElem?_eq_some_iff.1 hb).1
  rw [heap_grow_old _ _ (by simpa using hg)]
  simp [putRow, mapBlock, Sort.ahead, Array.getElem?_modify, hb, onCells]
theorem grownBy_sortedG {enc : α → Value} {w : World} {g n : Nat} {os : Array Obj} (d : Array α) : w.grownBy (grow (putRow enc (Sort.ahead w n) g 0 d) os) (some g) := by
  refine ⟨rfl, rfl, rfl, by simp, fun k hk hne => ?_⟩
  rw [heap_grow_old _ _ (by simpa using hk)]
  have : g ≠ k := fun e => hne (by rw [e])
  simp [putRow, mapBlock, Sort.ahead, Array.getElem?_modify, this]
theorem take_putCellsG {enc : α → Value} (cur : Array Value) (ts : List α) (h : ts.length ≤ cur.size) : (putCells enc 0 ts.toArray cur).toList.take ts.length = ts.map enc := by
  apply List.ext_getElem?
  intro j
  by_cases hj : j < ts.length
  · rw [List.getElem?_take_of_lt hj, Array.getElem?_toList]
    simp [putCells, hj, show j < cur.size by omega]
  · rw [List.getElem?_take_eq_none (by omega), List.getElem?_eq_none (by simp; omega)]
theorem own_sorted {enc : α → Value} {w : World} {base g cap n q k : Nat} {e : TypeId} {os : Array Obj} {xs : List Value} {ts : List α} (h : w.ownsRow base e k (.slice (some ⟨g, 0, none⟩) n cap) n xs) (hl : ts.length = n * k) :
    (grow (putRow enc (Sort.ahead w q) g 0 ts.toArray) os).ownsRow base e k (.slice (some ⟨g, 0, none⟩) n cap) n (ts.map enc) := by
  rcases h.2 with ⟨h0, _⟩ | ⟨g', cap', cur, hv, hg, hb, hn, hcap, hsz, ht⟩
  · cases h0
  cases hv
  exact ⟨by rw [List.length_map]; exact hl, .inr ⟨g, cap, _, rfl, hg, heap_sortedG _ hb, hn, hcap, by simp [putCells, hsz], by rw [← hl]; exact take_putCellsG cur ts (by rw [hl, hsz]; exact Nat.mul_le_mul_right k hn)⟩⟩
end
theorem compare_int (x y : Int) (w : World) : Calls Tryz.prog 114 #[.int .i64 x, .int .i64 y] w fun e w' => e = .returned (.int .i64 (Lib.compareInt x y)) ∧ w' = w := Tryz.cmp_Compare_int x y w
theorem flat_get {α : Type} [Inhabited α] (enc : α → List Value) (k : Nat) (xs : List α) (t : Nat) : (flatK enc k xs.toArray).toList[t]? = if t < xs.length * k then some ((enc xs.toArray[t / k]!)[t % k]!) else none := by
  by_cases h : t < xs.length * k
  · rw [if_pos h]; simp [flatK, h]
  · rw [if_neg h]; simp [flatK]; omega
theorem reps_flat {α : Type} [Inhabited α] {enc : α → List Value} {k : Nat} (hk : ∀ x, (enc x).length = k) (h0 : 0 < k) {R : α → List Value → Prop} (hR : ∀ x c, R x c → c = enc x) {xs : List α} {cs : List Value} (h : Reps R k xs cs) : cs = (flatK enc k xs.toArray).toList := by
  apply List.ext_getElem?
  intro t
  rw [flat_get]
  by_cases ht : t < xs.length * k
  · rw [if_pos ht]
    have hj : t / k < xs.length := (Nat.div_lt_iff_lt_mul h0).2 ht
    have h1 := hR _ _ (h.2 (t / k) _ (List.getElem?_eq_getElem hj))
    have hm : t % k < k := Nat.mod_lt _ h0
    have h2 : ((cs.drop (t / k * k)).take k)[t % k]? = (enc xs[t / k])[t % k]? := by rw [h1]
    rw [List.getElem?_take_of_lt hm, List.getElem?_drop, show t / k * k + t % k = t from Nat.div_add_mod' t k] at h2
    rw [h2]
    simp [hj]
    rw [List.getElem?_eq_getElem (by rw [hk]; exact hm)]
    simp
  · rw [if_neg ht, List.getElem?_eq_none (by rw [h.1]; omega)]
theorem flat_reps {α : Type} [Inhabited α] {enc : α → List Value} {k : Nat} (hk : ∀ x, (enc x).length = k) (h0 : 0 < k) {R : α → List Value → Prop} (hR : ∀ x, R x (enc x)) (xs : List α) : Reps R k xs (flatK enc k xs.toArray).toList := by
  refine ⟨by simp, fun j p hj => ?_⟩
  obtain ⟨hj1, rfl⟩ := List.getElem?_eq_some_iff.1 hj
  have : ((flatK enc k xs.toArray).toList.drop (j * k)).take k = enc xs[j] := by
    apply List.ext_getElem?
    intro t
    by_cases ht : t < k
    · have hlt : j * k + t < xs.length * k := by
        have := Nat.mul_le_mul_right k (show j + 1 ≤ xs.length from hj1)
        rw [Nat.add_mul, Nat.one_mul] at this
        omega
      rw [List.getElem?_take_of_lt ht, List.getElem?_drop, flat_get, if_pos hlt]
      have e1 : (j * k + t) / k = j := (blk_iff k j _ h0).1 ⟨by omega, by omega⟩
      have e2 : (j * k + t) % k = t := by rw [Nat.mod_eq_sub_div_mul, e1]; omega
      rw [e1, e2, List.getElem?_eq_getElem (by rw [hk]; exact ht)]
      simp [hj1]
      simp [hk, ht]
    · rw [List.getElem?_take_eq_none (by omega), List.getElem?_eq_none (by rw [hk]; omega)]
  rw [this]
  exact hR _
instance : Inhabited R2 := ⟨(0, ⟨#[]⟩)⟩
def encR (x : R2) : List Value := [.int .i64 x.1, .string x.2]
def cfR (x y : R2) : Int := Lib.compareInt x.1 y.1
theorem ltR (x y : R2) : ltOf cfR x y = decide (x.1 < y.1) := by
  unfold ltOf cfR Lib.compareInt
  by_cases h1 : x.1 < y.1
  · simp [h1]
  · by_cases h2 : y.1 < x.1
    · simp [h1, h2]
    · simp [h1, h2]
theorem swoR : SWO (ltOf cfR) where
  irrefl x := by rw [ltR]; simp
  trans x y z h1 h2 := by rw [ltR, decide_eq_true_eq] at *; omega
  ntrans x y z h1 h2 := by rw [ltR, decide_eq_false_iff_not] at *; omega
theorem isAgg106 : ∀ w, (isAgg 106).run Tryz.prog w = .ok true w := fun w => by kernel_rfl
theorem sizeOf28 : ∀ w, (Go.sizeOf 106).run Tryz.prog w = .ok 2 w := fun w => by kernel_rfl
set_option maxHeartbeats 4000000 in
theorem closure48 (x y : R2) (W : World) : Calls Tryz.prog 113 #[.agg #[.int .i64 x.1, .string x.2], .agg #[.int .i64 y.1, .string y.2]] W fun e w' => e = .returned (.int .i64 (Lib.compareInt x.1 y.1)) ∧ ∃ q os', w' = grow (W.drewN q) os' := by
  have h0 := fun W' => compare_int x.1 y.1 W'
  obtain ⟨r0, hr0⟩ : ∃ r, r = Lib.compareInt x.1 y.1 := ⟨_, rfl⟩
  rw [← hr0] at h0 ⊢
  obtain ⟨x0, x1⟩ := x
  obtain ⟨y0, y1⟩ := y
  simp only [] at h0 ⊢
  clear hr0
  have H0 := Lib.hid h0
  clear h0
  go_enter Tryz.func113, Tryz.ntmps113
  go_wp2_with (fail)
  refine (H0.out _).mono ?_
  rintro e w' ⟨rfl, rfl⟩
  go_wp2
  go_ret
  exact ⟨rfl, 0, _, by rw [alloc_eq_grow, alloc_eq_grow, grow_grow]; rfl⟩
theorem cmpLays48 (blk off size : Nat) (w : World) : CmpLays Tryz.prog 113 #[] encR 2 cfR blk off size w :=
  fun _ _ _ _ x y => closure48 x y _
set_option maxHeartbeats 2000000 in
theorem insertionP_nil (f : Value) (w : World) : Calls Tryz.prog 182 #[.slice none 0 0, .int .i64 0, .int .i64 0, f] w fun e w' => e = .returned (.tuple #[]) ∧ w' = w := by
  go_enter Tryz.func182, Tryz.ntmps182
  go_wp2
  go_loopg [8] 0 (fun kq i wr => wr = w ∧ i = .int .i64 1)
  case atStart => exact ⟨rfl, rfl⟩
  case round =>
    obtain ⟨rfl, rfl⟩ := hrel
    go_wp2
    go_end0
    exact ⟨rfl, rfl⟩
set_option maxHeartbeats 2000000 in
set_option maxRecDepth 100000 in
theorem pdqP_nil (f : Value) (q : Int) (w : World) : Calls Tryz.prog 164 #[.slice none 0 0, .int .i64 0, .int .i64 0, .int .i64 q, f] w fun e w' => e = .returned (.tuple #[]) ∧ w' = w := by
  go_enter Tryz.func164, Tryz.ntmps164
  go_wp2
  refine wp_loop_rounds 1 ?_
  rw [rounds_succ]
  go_wp2_with (fail)
  with_reducible refine (insertionP_nil f _).mono ?_
  rintro e w' ⟨rfl, rfl⟩
  go_wp2
  refine bodyPost_ret (results_none rfl _ _ _) rfl ?_
  exact ⟨rfl, rfl⟩
theorem bits_zero (w : World) : Calls Tryz.prog 165 #[.int .u64 0] w fun e w' => e = .returned (.int .i64 (Lib.bitLen 0 : Nat)) ∧ w' = w := by
  have h := Any.bits_Len (SlLaysF0.n15.bits (P := Tryz.prog) (ρ := Tryz.sortW_ren) { Tryz.sortW with }) 0 w (by omega) (by omega)
  exact h
set_option maxHeartbeats 2000000 in
theorem sortP_nil (f : Value) (w : World) : Calls Tryz.prog 112 #[.slice none 0 0, f] w fun e w' => e = .returned (.tuple #[]) ∧ w' = w := by
  have h1 := Aside0.mk (bits_zero w)
  go_enter Tryz.func112, Tryz.ntmps112
  go_wp2_with (fail)
  with_reducible refine (h1.out).mono ?_
  rintro e w' ⟨rfl, rfl⟩
  go_wp2_with (fail)
  with_reducible refine (pdqP_nil f _ _).mono ?_
  rintro e w' ⟨rfl, rfl⟩
  go_wp2
  go_end0
  exact ⟨rfl, rfl⟩
set_option maxHeartbeats 2000000 in
theorem sort_writes {w : World} {base : Nat} {ok : Nat → Prop} {v : Value} {xs : List R2} (h : kR.R 106 w base ok v xs) (hn : xs = [] → v = .slice none 0 0) (hl : xs.length ≤ 1000000) :
    Calls Tryz.prog 112 #[v, .func (.func 113) #[] #[]] w fun e w' => e = .returned (.tuple #[]) ∧ ∃ ys : List R2, ys.Perm xs ∧ (ys.Pairwise fun p q => ¬ q.1 < p.1) ∧ kR.R 106 w' base ok v ys ∧ w.grownBy w' v.ownBlock := by
  by_cases hx : xs = []
  · obtain rfl := hn hx
    subst hx
    exact (sortP_nil _ w).mono fun _ _ ⟨he, hw⟩ => ⟨he, [], List.Perm.nil, List.Pairwise.nil, by rw [hw]; exact h, by rw [hw]; exact ⟨rfl, rfl, rfl, Nat.le_refl _, fun _ _ _ => rfl⟩⟩
  · obtain ⟨g, cap, rfl, hg, hlt, _⟩ := Kd.R_form h (List.length_pos_iff.2 hx)
    obtain ⟨hok, inner, own, reps⟩ := h
    have hin := reps_flat (enc := encR) (k := 2) (fun _ => rfl) (by decide) (fun x c hc => kR_openM hc) reps
    subst hin
    have hH : HoldsK encR 2 w g 0 xs.toArray := by
      have := holds_of_own (enc := (id : Value → Value)) (ss := (flatK encR 2 xs.toArray).toList) own (by simp)
      rw [Array.toArray_toList] at this
      exact this
    have eg : ∀ args w, (callFunc 113 args).run Tryz.prog w = .ok (.enter 113 args) w := enters_of Tryz.func113 (by kernel_rfl) rfl
    have hc := AnyQ.slices_SortFunc Tryz.sortW 2 isAgg106 sizeOf28 encR (fun _ => rfl) (fun x v hv => by simp [encR] at hv; rcases hv with rfl | rfl <;> rfl) cfR swoR 113 #[] g 0 cap xs.toArray w eg (cmpLays48 g 0 _ w) hH hlt (by simp; omega)
    rw [show xs.toArray.size = xs.length by simp] at hc
    refine hc.mono ?_
    rintro e w' ⟨he, d', n, os, hp, hs, rfl⟩
    have hsz : d'.toList.length = xs.length := by have := hp.1; simpa using this
    refine ⟨he, d'.toList, ?_, ?_, ?_, ?_⟩
    · have h2 := hp.2.2
      rw [show d'.extract 0 xs.length = d' by rw [← hsz]; simp, show xs.toArray.extract 0 xs.length = xs.toArray by simp] at h2
      exact h2
    · rw [List.pairwise_iff_getElem]
      intro i j hi hj hij
      have := hs i j (Nat.zero_le _) hij (by omega)
      rw [ltR, decide_eq_false_iff_not] at this
      have hi' : i < d'.size := by simpa using hi
      have hj' : j < d'.size := by simpa using hj
      rw [getElem!_pos d' i hi', getElem!_pos d' j hj'] at this
      exact this
    · have ho := own_sorted (enc := (id : Value → Value)) (q := n) (os := os) (ts := (flatK encR 2 d').toList) own (by
        show (flatK encR 2 d').toList.length = xs.length * 2
        rw [Array.length_toList, size_flatK, ← hsz, Array.length_toList])
      rw [Array.toArray_toList] at ho
      have hr := flat_reps (enc := encR) (k := 2) (fun _ => rfl) (by decide) (R := kR.M (sortWorldK encR 2 w g 0 n d' os) base (fun k => ok k ∧ some k ≠ (Value.slice (some ⟨g, 0, none⟩) xs.length cap).ownBlock)) (fun x => kR_mkM _ _ _ x) d'.toList
      rw [Array.toArray_toList] at hr
      refine ⟨hok, _, ?_, hr⟩
      rw [hsz]
      have e : (flatK encR 2 d').toList.map (id : Value → Value) = (flatK encR 2 d').toList := List.map_id _
      rw [e] at ho
      exact ho
    · exact grownBy_sortedG _
end Go.Proofs.YtdhaoaehboonpaaGreat.V
end
section
namespace Go.Proofs.YtdhaoaehboonpaaGreat.V
open Go.RowKit Go.Proofs.YtdhaoaehboonpaaGreatW.PrintWords Go.Proofs.YtdhaoaehboonpaaGreatW.PrintLast Go.Proofs.YtdhaoaehboonpaaGreatW.PrintMore Go.Proofs.YtdhaoaehboonpaaGreatM
set_option linter.unusedVariables false
set_option linter.unusedSimpArgs false
def slotsP (b : ByteArray) : List PRd.S165 × Bool := (PRd.sheet_Slots.f 300 b).getD ([], false)
def tS (l : List PRd.S165) : List S2 := l.map fun x => (x.f0, x.f1)
def slotsE (b : ByteArray) : List S2 × Bool := (tS (slotsP b).1, (slotsP b).2)
theorem slotsP_is (b : ByteArray) : PRd.sheet_Slots.f 300 b = some (slotsP b) ∧ ∃ bad l, slotsP b = PRd.slotsFin b bad l := by
  obtain ⟨bad, l, hk⟩ := PRd.slots_ex b
  have h1 := hk 300 (Nat.le_refl _)
  unfold slotsP
  rw [h1]
  exact ⟨rfl, bad, l, rfl⟩
theorem slotsE_ok (b : ByteArray) : (slotsE b).1.length ≤ 21 ∧ ∀ x ∈ (slotsE b).1, wfI x.2 := by
  obtain ⟨_, bad, l, e⟩ := slotsP_is b
  unfold slotsE
  rw [e]
  unfold PRd.slotsFin
  split
  · rename_i hc
    simp only [Bool.and_eq_true] at hc
    have h1 := hc.2.1
    unfold PRd.idxOk at h1
    simp only [Bool.and_eq_true, decide_eq_true_eq] at h1
    obtain ⟨h1, h2⟩ := h1
    refine ⟨by unfold tS; rw [List.length_map]; exact h1, fun x hx => ?_⟩
    unfold tS at hx
    obtain ⟨y, hy, rfl⟩ := List.mem_map.1 hx
    obtain ⟨j, hj, rfl⟩ := PRd.mem_rd41 hy
    unfold idxV at h2
    rw [all_at] at h2
    have h3 := h2 j hj
    simp only [Bool.and_eq_true] at h3
    have h5 := PRd.okP_range h3.2
    exact (show wfI (PRd.rd_T165 l j).f1 from wfI_small (by omega) (by omega))
  · exact ⟨by show 0 ≤ 21; decide, fun x hx => (List.not_mem_nil hx).elim⟩
theorem slots_any (b : ByteArray) (w : World) : Calls Tryz.prog 108 #[.string b] w fun e w' => ∃ v0 : Value, e = .returned (.tuple #[v0, .bool (slotsE b).2]) ∧ kS.R 165 w' w.heap.size (fun _ => True) v0 (slotsE b).1 ∧ Below w.heap.size w w' := by
  refine (PRd.sheet_Slots.calls 300 b _ _ w (slotsP_is b).1).mono ?_
  rintro e w' ⟨v, rfl, hR, hb⟩
  exact ⟨v, rfl, R_iso (f := fun x : PRd.S165 => (x.f0, x.f1)) hR, hb⟩
def fSlots (ld : Ld) : List S2 → FS → FS
  | [], S => S
  | s :: t, S => fSlots ld t (if S.e = 0 then fLeaf ld S s else S)
def fS0 : FS := ⟨fun _ => none, [], 0⟩
def fIdx (ld : Ld) (root : Int) : FS := if (slotsE (fPage ld fS0 root).1).2 = true then (fPage ld fS0 root).2 else fForm (fPage ld fS0 root).2
def fRead (ld : Ld) (root : Int) : FS := fSlots ld (slotsE (fPage ld fS0 root).1).1 (fIdx ld root)
theorem fS0_ok : FOk fS0 := fun n b h => by cases h
def PagesOf (S : FS) (ys : List R2) : Prop := (ys.Pairwise fun p q => p.1 < q.1) ∧ ∀ n b, (n, b) ∈ ys ↔ S.pages n = some b
def ReadR (base : Nat) (S : FS) (e : Ending) (w' : World) : Prop := ∃ v u ys, e = .returned (.tuple #[v, u, .int .i64 S.e]) ∧ kR.R 50 w' base (fun _ => True) v (if S.e = 0 then S.out else []) ∧ kR.R 106 w' base (fun _ => True) u ys ∧ (S.e = 0 → PagesOf S ys) ∧ (S.e ≠ 0 → ys = [])
theorem T76 : ∀ q, q ∈ 165 :: kS.E → q ≠ 50 ∧ q ≠ 176 := by intro q hq; simp [kS, Kd.pair, Kd.int, Kd.scalar] at hq; omega
def PgR (root : Int) (S : FS) : Prop := ∀ n b, S.pages n = some b → n = root ∨ (0 ≤ n ∧ n < 200)
theorem fForm_pg {root : Int} {S : FS} (h : PgR root S) : PgR root (fForm S) := by unfold fForm; split <;> exact h
theorem fPage_pg {root : Int} {ld : Ld} {S : FS} (h : PgR root S) {n : Int} (hn : n = root ∨ (0 ≤ n ∧ n < 200)) : PgR root (fPage ld S n).2 := by
  unfold fPage
  cases hp : S.pages n with
  | some b => exact h
  | none =>
    show PgR root (if S.e = 0 then _ else _ : ByteArray × FS).2
    split
    · split
      · intro k b hk
        by_cases e : k = n
        · rw [e]; exact hn
        · change upd S.pages n (ld n).1 k = some b at hk
          rw [upd_ne _ _ e] at hk
          exact h k b hk
      · exact h
    · exact h
theorem fChain_pg {root : Int} {ld : Ld} (hl : LdSmall ld) : ∀ (k : Nat) {S : FS} {n s : Int} (o : ByteArray), FOk S → PgR root S → (0 ≤ n ∧ n < 200) → PgR root (fChain k ld S n s o).2
  | 0, _, _, _, _, _, h, _ => h
  | k + 1, S, n, s, o, ho, h, hn => by
    unfold fChain
    split
    · have h1 := linkE_range (fPage ld S n).1 (fPage_ok hl ho n).2
      refine fChain_pg hl k _ (fStep_ok hl ho n s) ?_ ⟨h1.1, h1.2.1⟩
      unfold fStep
      split
      · exact fForm_pg (fPage_pg h (.inr hn))
      · exact fPage_pg h (.inr hn)
    · exact h
theorem cellsE_pg (b : ByteArray) : ∀ x ∈ (cellsE b).1, 24 < x.2.1 → 0 ≤ x.2.2.1 ∧ x.2.2.1 < 200 := by
  obtain ⟨_, bad, l, e⟩ := cellsP_is b
  unfold cellsE
  rw [e]
  unfold PRd.cellsFin
  split
  · rename_i hc
    simp only [Bool.and_eq_true] at hc
    have h1 := hc.2.1
    unfold PRd.leafOk at h1
    simp only [Bool.and_eq_true, decide_eq_true_eq] at h1
    obtain ⟨h1, h2, _⟩ := h1
    intro x hx h24
    unfold tC at hx
    obtain ⟨y, hy, rfl⟩ := List.mem_map.1 hx
    obtain ⟨j, hj, rfl⟩ := PRd.mem_rd52 hy
    unfold PRd.leafV lfV at h2
    rw [all_at] at h2
    have h3 := h2 j hj
    simp only [Bool.and_eq_true] at h3
    have h4 := h3.2
    unfold okR at h4
    rw [if_neg (show ¬ (PRd.rd_T151 l j).f1 ≤ 24 from by have h9 : 24 < (PRd.rd_T151 l j).f1 := h24; omega)] at h4
    simp only [Bool.and_eq_true, decide_eq_true_eq] at h4
    have h5 := PRd.okP_range h4.2.2
    exact (show 0 ≤ (PRd.rd_T151 l j).f2 ∧ (PRd.rd_T151 l j).f2 < 200 from ⟨by omega, by omega⟩)
  · exact fun x hx => (List.not_mem_nil hx).elim
theorem slotsE_pg (b : ByteArray) : ∀ x ∈ (slotsE b).1, 0 ≤ x.2 ∧ x.2 < 200 := by
  obtain ⟨_, bad, l, e⟩ := slotsP_is b
  unfold slotsE
  rw [e]
  unfold PRd.slotsFin
  split
  · rename_i hc
    simp only [Bool.and_eq_true] at hc
    have h1 := hc.2.1
    unfold PRd.idxOk at h1
    simp only [Bool.and_eq_true, decide_eq_true_eq] at h1
    obtain ⟨h1, h2⟩ := h1
    intro x hx
    unfold tS at hx
    obtain ⟨y, hy, rfl⟩ := List.mem_map.1 hx
    obtain ⟨j, hj, rfl⟩ := PRd.mem_rd41 hy
    unfold idxV at h2
    rw [all_at] at h2
    have h3 := h2 j hj
    simp only [Bool.and_eq_true] at h3
    have h5 := PRd.okP_range h3.2
    exact (show 0 ≤ (PRd.rd_T165 l j).f1 ∧ (PRd.rd_T165 l j).f1 < 200 from ⟨by omega, by omega⟩)
  · exact fun x hx => (List.not_mem_nil hx).elim
theorem fCells_pg {root : Int} {ld : Ld} (hl : LdSmall ld) : ∀ (l : List C4) {S : FS}, (∀ x ∈ l, 24 < x.2.1 → 0 ≤ x.2.2.1 ∧ x.2.2.1 < 200) → FOk S → PgR root S → PgR root (fCells ld l S)
  | [], _, _, _, h => h
  | c :: r, S, hx, ho, h => by
    unfold fCells
    split
    · exact fForm_pg h
    · have h1 : PgR root (fCell ld S c).2 := by
        unfold fCell
        split
        · rename_i h24
          exact fChain_pg hl _ _ ho h (hx c List.mem_cons_self h24)
        · exact h
      exact fCells_pg hl r (S := { (fCell ld S c).2 with out := S.out ++ [(c.1, (fCell ld S c).1)] }) (fun x h => hx x (List.mem_cons_of_mem _ h)) (fun n b hb => fCell_ok hl ho c n b hb) (fun n b hb => h1 n b hb)
theorem fLeaf_pg {root : Int} {ld : Ld} (hl : LdSmall ld) {S : FS} (ho : FOk S) (h : PgR root S) {s : S2} (hs : 0 ≤ s.2 ∧ s.2 < 200) : PgR root (fLeaf ld S s) := by
  unfold fLeaf
  split
  · exact fCells_pg hl _ (cellsE_pg _) (fPage_ok hl ho _).1 (fPage_pg h (.inr hs))
  · exact fForm_pg (fPage_pg h (.inr hs))
theorem fSlots_pg {root : Int} {ld : Ld} (hl : LdSmall ld) : ∀ (l : List S2) {S : FS}, (∀ x ∈ l, 0 ≤ x.2 ∧ x.2 < 200) → FOk S → PgR root S → PgR root (fSlots ld l S)
  | [], _, _, _, h => h
  | s :: t, S, hx, ho, h => by
    unfold fSlots
    have ht := fun x h => hx x (List.mem_cons_of_mem _ h)
    split
    · exact fSlots_pg hl t ht (fLeaf_ok hl ho s) (fLeaf_pg hl ho h (hx s List.mem_cons_self))
    · exact fSlots_pg hl t ht ho h
theorem fRead_pg {ld : Ld} (hl : LdSmall ld) (root : Int) : PgR root (fRead ld root) := by
  unfold fRead fIdx
  have h1 := fPage_pg (root := root) (ld := ld) (S := fS0) (fun n b h => by cases h) (n := root) (.inl rfl)
  have h2 := (fPage_ok hl fS0_ok root).1
  refine fSlots_pg hl _ (slotsE_pg _) ?_ ?_
  · split
    · exact h2
    · exact fForm_ok h2
  · split
    · exact h1
    · exact fForm_pg h1
theorem nodup_len {α : Type} [DecidableEq α] : ∀ (l s : List α), l.Nodup → (∀ x ∈ l, x ∈ s) → l.length ≤ s.length
  | [], s, _, _ => Nat.zero_le _
  | x :: t, s, h, hs => by
    obtain ⟨h1, h2⟩ := List.nodup_cons.1 h
    have := nodup_len t (s.erase x) h2 (fun y hy => (List.mem_erase_of_ne (fun e => h1 (by rw [← e]; exact hy))).2 (hs y (List.mem_cons_of_mem _ hy)))
    rw [List.length_erase_of_mem (hs x List.mem_cons_self)] at this
    have hp : 0 < s.length := List.length_pos_of_mem (hs x List.mem_cons_self)
    rw [List.length_cons]
    omega
theorem few_pages {root : Int} {S : FS} (h : PgR root S) {ys : List R2} (h1 : ys.Pairwise fun p q => p.1 ≠ q.1) (h2 : ∀ x ∈ ys, S.pages x.1 = some x.2) : ys.length ≤ 201 := by
  have := nodup_len (ys.map (·.1)) (root :: (List.range 200).map fun (i : Nat) => (i : Int)) (by
    unfold List.Nodup
    rw [List.pairwise_map]
    exact h1) (fun x hx => by
    obtain ⟨y, hy, rfl⟩ := List.mem_map.1 hx
    rcases h _ _ (h2 y hy) with e | e
    · rw [e]; exact List.mem_cons_self
    · refine List.mem_cons_of_mem _ (List.mem_map.2 ⟨y.1.toNat, List.mem_range.2 (by omega), by omega⟩))
  simpa using this
theorem R_iter {α : Type} {d : Kd α} {e b r : Nat} {w w1 : World} {ok : Nat → Prop} {v : Value} {xs : List α} {f : Int → Option ByteArray} {left : Int → Prop} {cnt m : Nat} (h : d.R e w b ok v xs) (hm : RngB (Value.int .i64) Value.string wfI w m r f left cnt) (hg : w.grownBy w1 (some r)) : d.R e w1 b ok v xs :=
  Kd.R_mono (Kd.R_grown (ok := fun k => ok k ∧ k ≠ r) (Kd.R_mono (Kd.R_bound h) (fun k hk => ⟨hk.1, fun e => by
    obtain ⟨_, _, _, q, hq, cells, hc⟩ := hk
    obtain ⟨_, _, _, _, _, _, _, _, _, _, h6, _⟩ := hm
    rw [e, h6] at hc; cases hc⟩)) hg (fun k hk e => hk.2 (by injection e))) (fun k hk => hk.1)
theorem iter_ne {w : World} {m r g : Nat} {f : Int → Option ByteArray} {left : Int → Prop} {cnt : Nat} {cs : Array Value} {t : TypeId} (hm : RngB (Value.int .i64) Value.string wfI w m r f left cnt) (hb : w.heap[g]? = some (.cells cs t (0, 0))) : some g ≠ some r := by
  intro e
  injection e with e
  subst e
  obtain ⟨_, _, _, _, _, _, _, _, _, _, h6, _⟩ := hm
  rw [hb] at h6; cases h6
theorem iter_ne_row {α : Type} {d : Kd α} {e b m r : Nat} {w : World} {o : Nat → Prop} {v : Value} {xs : List α} {f : Int → Option ByteArray} {left : Int → Prop} {cnt : Nat} (h : d.R e w b o v xs) (hm : RngB (Value.int .i64) Value.string wfI w m r f left cnt) : some r ≠ v.ownBlock ∧ some m ≠ v.ownBlock := by
  obtain ⟨es, _, _, _, _, h1, _, _, _, _, h6, _⟩ := hm
  refine ⟨fun hk => ?_, fun hk => ?_⟩
  · obtain ⟨c1, e1⟩ := Kd.R_typed h r hk.symm
    rw [e1] at h6; cases h6
  · obtain ⟨c1, e1⟩ := Kd.R_typed h m hk.symm
    rw [e1] at h1; cases h1
end Go.Proofs.YtdhaoaehboonpaaGreat.V
end
section
namespace Go.Proofs.YtdhaoaehboonpaaGreat.V
open Go.RowKit Go.Proofs.YtdhaoaehboonpaaGreatW.PrintWords Go.Proofs.YtdhaoaehboonpaaGreatW.PrintLast Go.Proofs.YtdhaoaehboonpaaGreatW.PrintMore Go.Proofs.YtdhaoaehboonpaaGreatM
set_option linter.unusedVariables false
set_option linter.unusedSimpArgs false
abbrev PP := Int → ByteArray → Prop
def CellRd (ld : Ld) (c : C4) (r : R2) (P : PP) : Prop := c.1 = r.1 ∧ ∀ S, S.e = 0 → Con ld S → (fCell ld S c).1 = r.2 ∧ Went ld S (fCell ld S c).2 P
def CellsRd (ld : Ld) : List C4 → List R2 → PP → Prop
  | [], [], P => ∀ n b, ¬ P n b
  | c :: cs, r :: rs, P => ∃ P1 P2, CellRd ld c r P1 ∧ CellsRd ld cs rs P2 ∧ ∀ n b, P n b ↔ P1 n b ∨ P2 n b
  | _, _, _ => False
def chainsB : List R2 → PS → List ByteArray
  | [], _ => []
  | r :: t, S => if 24 < r.2.size then chainB (pieces r.2) S ++ chainsB t (chainF (pieces r.2) S).2 else chainsB t S
theorem chainsB_cons (r : R2) (t : List R2) (S : PS) : chainsB (r :: t) S = if 24 < r.2.size then chainB (pieces r.2) S ++ chainsB t (chainF (pieces r.2) S).2 else chainsB t S := rfl
theorem chains_read {ld : Ld} {K : ByteArray → Option Int} (hK : LdK ld K) : ∀ (l : List R2) (T : PS), PgOk T → (∀ r ∈ l, r.2.size ≤ 900) → (chainsF l T).2.e = 0 → Ext (chainsF l T).2.known K → CellsRd ld (chainsF l T).1 l (fun n b => b ∈ chainsB l T ∧ K b = some n)
  | [], T, _, _, _, _ => fun n b h => (List.not_mem_nil h.1).elim
  | r :: t, T, hT, hr, he, hx => by
    have h1 := hr r List.mem_cons_self
    have ht := fun y hy => hr y (List.mem_cons_of_mem _ hy)
    rw [chainsF_cons] at he hx ⊢
    by_cases h24 : 24 < r.2.size
    · rw [if_pos h24] at he hx ⊢
      have he1 := chainsF_e he
      have hx1 : Ext (chainF (pieces r.2) T).2.known K := (chainsF_ext t _).trans hx
      refine ⟨fun n b => b ∈ chainB (pieces r.2) T ∧ K b = some n, fun n b => b ∈ chainsB t (chainF (pieces r.2) T).2 ∧ K b = some n, ⟨?_, fun S h0 hc => ?_⟩, chains_read hK t _ (chainF_pg _ hT) ht he hx, fun n b => ?_⟩
      · unfold cellE; split <;> rfl
      · have hc1 : cellE r (chainF (pieces r.2) T).1 = (r.1, (r.2.size : Int), (chainF (pieces r.2) T).1, ⟨#[]⟩) := by unfold cellE; rw [if_neg (by omega)]
        have hp := piecesF_len r.2.size r.2
        obtain ⟨g1, g2⟩ := chain_read hK (pieces r.2) T r.2.size 1000 S ⟨#[]⟩ hT he1 hx1 (okPcs_pieces _ _ (Nat.le_refl _)) (by unfold pieces; omega) h0 hc
        have e1 : fCell ld S (cellE r (chainF (pieces r.2) T).1) = fChain 1000 ld S (chainF (pieces r.2) T).1 (r.2.size : Int) ⟨#[]⟩ := by
          rw [hc1]
          unfold fCell
          rw [if_pos (by show (24 : Int) < (r.2.size : Int); omega)]
        rw [e1]
        refine ⟨?_, g2⟩
        rw [g1, show cat (pieces r.2) = r.2 from cat_pieces _ _ (Nat.le_refl _)]
        exact ByteArray.empty_append
      · show b ∈ chainsB (r :: t) T ∧ _ ↔ _
        rw [chainsB_cons, if_pos h24, List.mem_append]
        constructor
        · rintro ⟨h | h, h2⟩
          · exact .inl ⟨h, h2⟩
          · exact .inr ⟨h, h2⟩
        · rintro (⟨h, h2⟩ | ⟨h, h2⟩)
          · exact ⟨.inl h, h2⟩
          · exact ⟨.inr h, h2⟩
    · rw [if_neg h24] at he hx ⊢
      refine ⟨fun _ _ => False, fun n b => b ∈ chainsB t T ∧ K b = some n, ⟨?_, fun S h0 hc => ?_⟩, chains_read hK t _ hT ht he hx, fun n b => ?_⟩
      · unfold cellE; split <;> rfl
      · have hc1 : cellE r 2 = (r.1, (r.2.size : Int), 0, r.2) := by unfold cellE; rw [if_pos (by omega)]
        have e1 : fCell ld S (cellE r 2) = (r.2, S) := by
          rw [hc1]
          unfold fCell
          rw [if_neg (by show ¬ (24 : Int) < (r.2.size : Int); omega)]
        rw [e1]
        exact ⟨rfl, h0, rfl, hc, Seen.refl S⟩
      · show b ∈ chainsB (r :: t) T ∧ _ ↔ _
        rw [chainsB_cons, if_neg h24, false_or]
def Found (ld : Ld) (S S' : FS) (rs : List R2) (P : PP) : Prop := S'.e = 0 ∧ S'.out = S.out ++ rs ∧ Con ld S' ∧ Seen S S' P
def up (l : List R2) : Prop := l.Pairwise fun a b => a.1 < b.1
theorem lastGe_up {o : List R2} {c : R2} {t : List R2} (h : up (o ++ c :: t)) : lastGe o c.1 = false := by
  unfold lastGe
  cases hl : o.getLast? with
  | none => rfl
  | some r =>
    have hm : r ∈ o := List.mem_of_getLast? hl
    have := (List.pairwise_append.1 h).2.2 r hm c List.mem_cons_self
    show decide (c.1 ≤ r.1) = false
    exact decide_eq_false (by omega)
theorem cells_read {ld : Ld} : ∀ (cs : List C4) (rs : List R2) (P : PP) (S : FS), CellsRd ld cs rs P → S.e = 0 → Con ld S → up (S.out ++ rs) → Found ld S (fCells ld cs S) rs P
  | [], [], P, S, h, h0, hc, _ => ⟨h0, (List.append_nil _).symm, hc, fun n b => ⟨.inl, fun h2 => h2.elim id (fun h3 => absurd h3 (h n b))⟩⟩
  | c :: cs, r :: rs, P, S, h, h0, hc, hu => by
    obtain ⟨P1, P2, ⟨hk, hrd⟩, h2, hP⟩ := h
    obtain ⟨g1, g2, g3, g4, g5⟩ := hrd S h0 hc
    unfold fCells
    rw [if_neg (by rw [hk, lastGe_up hu]; decide), g1, hk]
    have hu2 : up ((S.out ++ [(r.1, r.2)]) ++ rs) := by rw [List.append_assoc]; exact hu
    obtain ⟨a1, a2, a3, a4⟩ := cells_read cs rs P2 { (fCell ld S c).2 with out := S.out ++ [(r.1, r.2)] } h2 g2 (fun n b hb => g4 n b hb) hu2
    refine ⟨a1, ?_, a3, fun n b => ?_⟩
    · rw [a2]
      show (S.out ++ [(r.1, r.2)]) ++ rs = S.out ++ r :: rs
      rw [List.append_assoc]; rfl
    · have e1 := a4 n b
      rw [e1]
      show (fCell ld S c).2.pages n = some b ∨ P2 n b ↔ _
      rw [g5 n b, hP n b, or_assoc]
  | [], _ :: _, _, _, h, _, _, _ => h.elim
  | _ :: _, [], _, _, h, _, _, _ => h.elim
theorem CellsRd.split {ld : Ld} : ∀ {a b : List C4} {rs : List R2} {P : PP}, CellsRd ld (a ++ b) rs P → ∃ r1 r2 P1 P2, rs = r1 ++ r2 ∧ CellsRd ld a r1 P1 ∧ CellsRd ld b r2 P2 ∧ ∀ n c, P n c ↔ P1 n c ∨ P2 n c
  | [], b, rs, P, h => ⟨[], rs, fun _ _ => False, P, rfl, fun _ _ h => h, h, fun n c => (false_or _).symm ▸ Iff.rfl⟩
  | c :: a, b, [], P, h => h.elim
  | c :: a, b, r :: rs, P, h => by
    obtain ⟨P1, P2, h1, h2, hP⟩ := h
    obtain ⟨r1, r2, Q1, Q2, e, k1, k2, hQ⟩ := CellsRd.split (a := a) h2
    refine ⟨r :: r1, r2, fun n c => P1 n c ∨ Q1 n c, Q2, by rw [e]; rfl, ⟨P1, Q1, h1, k1, fun _ _ => Iff.rfl⟩, k2, fun n c => ?_⟩
    rw [hP, hQ, or_assoc]
def LeavesRd (ld : Ld) : List (List C4) → List R2 → PP → Prop
  | [], rs, P => rs = [] ∧ ∀ n b, ¬ P n b
  | x :: t, rs, P => ∃ r1 r2 P1 P2, rs = r1 ++ r2 ∧ CellsRd ld x r1 P1 ∧ LeavesRd ld t r2 P2 ∧ ∀ n b, P n b ↔ P1 n b ∨ P2 n b
theorem lvs_read {ld : Ld} : ∀ (r cur : List C4) (rs : List R2) (P : PP), CellsRd ld (cur ++ r) rs P → LeavesRd ld (lvs cur r) rs P
  | [], cur, rs, P, h => by
    rw [List.append_nil] at h
    unfold lvs
    cases cur with
    | nil =>
      cases rs with
      | nil => exact ⟨rfl, h⟩
      | cons r rs => exact h.elim
    | cons a t => exact ⟨rs, [], P, fun _ _ => False, (List.append_nil _).symm, h, ⟨rfl, fun _ _ h => h⟩, fun n b => (or_false _).symm ▸ Iff.rfl⟩
  | c :: r, cur, rs, P, h => by
    unfold lvs
    split
    · exact lvs_read r _ rs P (by rw [List.append_assoc]; exact h)
    · obtain ⟨r1, r2, P1, P2, e, h1, h2, hP⟩ := CellsRd.split h
      exact ⟨r1, r2, P1, P2, e, h1, lvs_read r [c] r2 P2 h2, hP⟩
def toC (x : C4) : PRd.S151 := ⟨x.1, x.2.1, x.2.2.1, x.2.2.2⟩
def toS (x : S2) : PRd.S165 := ⟨x.1, x.2⟩
theorem rd61 (l : List C4) (i : Int) : PRd.rd_T151 (l.map toC) i = toC (atC l i.toNat) := by
  unfold PRd.rd_T151 atC
  rw [List.getD_eq_getElem?_getD, List.getD_eq_getElem?_getD, List.getElem?_map]
  cases l[i.toNat]? <;> rfl
theorem rd76 (l : List S2) (i : Int) : PRd.rd_T165 (l.map toS) i = toS (atS l i.toNat) := by
  unfold PRd.rd_T165 atS
  rw [List.getD_eq_getElem?_getD, List.getD_eq_getElem?_getD, List.getElem?_map]
  cases l[i.toNat]? <;> rfl
theorem leafE_is (l : List C4) : leafE l = PRd.leafR (l.map toC) := by
  have h := PRd.leaf_k (l.map toC)
  unfold PRd.sheet_Leaf.f at h
  injection h with h
  rw [← h]
  unfold leafE
  rw [List.length_map]
  simp only [rd61]
  rfl
theorem indexE_is (l : List S2) : indexE l = PRd.idxR (l.map toS) := by
  have h := PRd.index_k (l.map toS)
  unfold PRd.sheet_Index.f at h
  injection h with h
  rw [← h]
  unfold indexE
  rw [List.length_map]
  simp only [rd76]
  rfl
theorem cellsE_back {l : List C4} (h : (leafE l).2 = true) : cellsE (leafE l).1 = (l, true) := by
  rw [leafE_is] at h ⊢
  unfold PRd.leafR at h ⊢
  cases hk : PRd.leafOk (l.map toC) with
  | false => rw [hk, if_neg (by decide)] at h; cases h
  | true =>
    rw [if_pos rfl]
    unfold cellsE cellsP
    rw [PRd.cells_back hk 600 (Nat.le_refl _)]
    show (tC (l.map toC), true) = (l, true)
    unfold tC
    rw [List.map_map]
    congr 1
    conv => rhs; rw [← List.map_id l]
    rfl
theorem slotsE_back {l : List S2} (h : (indexE l).2 = true) : slotsE (indexE l).1 = (l, true) := by
  rw [indexE_is] at h ⊢
  unfold PRd.idxR at h ⊢
  cases hk : PRd.idxOk (l.map toS) with
  | false => rw [hk, if_neg (by decide)] at h; cases h
  | true =>
    rw [if_pos rfl]
    unfold slotsE slotsP
    rw [PRd.slots_back hk 300 (Nat.le_refl _)]
    show (tS (l.map toS), true) = (l, true)
    unfold tS
    rw [List.map_map]
    congr 1
    conv => rhs; rw [← List.map_id l]
    rfl
theorem leaves_read {ld : Ld} {K : ByteArray → Option Int} (hK : LdK ld K) : ∀ (L : List (List C4)) (T : PS) (rs : List R2) (P : PP) (S : FS), (∀ x ∈ L, x ≠ []) → (slotsF L T).2.e = 0 → Ext (slotsF L T).2.known K → LeavesRd ld L rs P → S.e = 0 → Con ld S → up (S.out ++ rs) →
    Found ld S (fSlots ld (slotsF L T).1 S) rs (fun n b => P n b ∨ (b ∈ L.map (fun x => (leafE x).1) ∧ K b = some n))
  | [], T, rs, P, S, _, _, _, ⟨h1, h2⟩, h0, hc, _ => by
    subst h1
    exact ⟨h0, (List.append_nil _).symm, hc, fun n b => ⟨.inl, fun h => h.elim id (fun h3 => h3.elim (fun h4 => absurd h4 (h2 n b)) (fun h4 => (List.not_mem_nil h4.1).elim))⟩⟩
  | x :: t, T, rs, P, S, hne, he, hx, ⟨r1, r2, P1, P2, e, h1, h2, hP⟩, h0, hc, hu => by
    have hT := slotsF_e he
    rw [slotsF_cons, if_pos hT] at he hx ⊢
    change (slotsF t (putS T (leafE x).1 (leafE x).2)).2.e = 0 at he
    change Ext (slotsF t (putS T (leafE x).1 (leafE x).2)).2.known K at hx
    have he1 := slotsF_e he
    have hi := putS_is he1
    have hkn := (slotsF_ext t _).trans hx _ _ (put_known he1)
    have hl := hK _ _ hkn
    obtain ⟨c, r, ex⟩ : ∃ c r, x = c :: r := by
      cases x with
      | nil => exact absurd rfl (hne [] List.mem_cons_self)
      | cons c r => exact ⟨c, r, rfl⟩
    generalize hp : putN T (leafE x).1 (leafE x).2 = p at *
    show Found ld S (fSlots ld (slotsF t (putS T (leafE x).1 (leafE x).2)).1 (if S.e = 0 then fLeaf ld S ((atC x 0).1, p) else S)) rs _
    rw [if_pos h0]
    obtain ⟨g1, g2⟩ := fPage_good hl h0 hc
    have hcb := cellsE_back hi
    have hfl : fLeaf ld S ((atC x 0).1, p) = fCells ld x (fPage ld S p).2 := by
      unfold fLeaf
      show (if ((cellsE (fPage ld S p).1).2 && okHd (cellsE (fPage ld S p).1).1 (atC x 0).1) = true then _ else _) = _
      rw [g1, hcb, if_pos]
      rw [ex]
      show (true && decide (c.1 = c.1)) = true
      simp
    rw [hfl]
    subst e
    obtain ⟨b1, b2, b3, b4⟩ := cells_read x r1 P1 (fPage ld S p).2 h1 g2.1 g2.2.2.1 (by
      rw [g2.2.1]
      rw [← List.append_assoc] at hu
      exact (List.pairwise_append.1 hu).1)
    rw [g2.2.1] at b2
    obtain ⟨a1, a2, a3, a4⟩ := leaves_read hK t (putS T (leafE x).1 (leafE x).2) r2 P2 (fCells ld x (fPage ld S p).2) (fun y hy => hne y (List.mem_cons_of_mem _ hy)) he hx h2 b1 b3 (by rw [b2, List.append_assoc]; exact hu)
    refine ⟨a1, by rw [a2, b2, List.append_assoc], a3, fun n b => ?_⟩
    rw [a4 n b, b4 n b, g2.2.2.2 n b]
    show ((S.pages n = some b ∨ (n = p ∧ b = (leafE x).1)) ∨ P1 n b) ∨ (P2 n b ∨ b ∈ t.map (fun x => (leafE x).1) ∧ K b = some n) ↔ S.pages n = some b ∨ (P n b ∨ b ∈ (x :: t).map (fun x => (leafE x).1) ∧ K b = some n)
    rw [hP n b, List.map_cons, List.mem_cons]
    constructor
    · rintro (((h | ⟨rfl, rfl⟩) | h) | (h | ⟨h, h9⟩))
      · exact .inl h
      · exact .inr (.inr ⟨.inl rfl, hkn⟩)
      · exact .inr (.inl (.inl h))
      · exact .inr (.inl (.inr h))
      · exact .inr (.inr ⟨.inr h, h9⟩)
    · rintro (h | (h | h) | ⟨h | h, h9⟩)
      · exact .inl (.inl (.inl h))
      · exact .inl (.inr h)
      · exact .inr (.inl h)
      · subst h
        rw [hkn] at h9
        injection h9 with h9
        exact .inl (.inl (.inr ⟨h9.symm, rfl⟩))
      · exact .inr (.inr ⟨h, h9⟩)
def planB (l hv : List R2) (fr : List Int) : List ByteArray := (indexE (planT l hv fr).1).1 :: ((lvs [] (planC l hv fr)).map (fun x => (leafE x).1) ++ chainsB l ⟨knF hv, fr, [], 0⟩)
theorem rightF_up : ∀ (l : List R2) (a : Int), rightF a l = true → up l ∧ ∀ r ∈ l, a < r.1
  | [], _, _ => ⟨List.Pairwise.nil, fun r h => (List.not_mem_nil h).elim⟩
  | x :: t, a, h => by
    unfold rightF at h
    simp only [Bool.and_eq_true, decide_eq_true_eq] at h
    obtain ⟨h1, h2⟩ := rightF_up t x.1 h.2.2.2
    refine ⟨List.Pairwise.cons (fun r hr => h2 r hr) h1, fun r hr => ?_⟩
    rcases List.mem_cons.1 hr with rfl | hr
    · exact h.1
    · have := h2 r hr; omega
theorem plan_read {l hv : List R2} {fr : List Int} {ld : Ld} (h : (planE l hv fr).2.2 = 0) (hK : LdK ld (planZ l hv fr).2.known) :
    (fRead ld (planE l hv fr).2.1).e = 0 ∧ (fRead ld (planE l hv fr).2.1).out = l ∧ ∀ n b, (fRead ld (planE l hv fr).2.1).pages n = some b ↔ (b ∈ planB l hv fr ∧ (planZ l hv fr).2.known b = some n) := by
  obtain ⟨h1, h2, h3, h4, h5⟩ := planE_ok h
  rw [h5]
  have hT : (planT l hv fr).2.e = 0 := putS_e h4
  have hS : (planS l hv fr).e = 0 := slotsF_e hT
  obtain ⟨pv, pf⟩ := mayE_pg h2
  have hpv : ∀ x ∈ hv, okP x.1 = true := fun x hx => pv _ (List.mem_map_of_mem hx)
  have hr := rightF_mem l (-1) (by omega) h1
  have hpg : PgOk (⟨knF hv, fr, [], 0⟩ : PS) := ⟨knF_pg hpv, pf⟩
  have hxT : Ext (planT l hv fr).2.known (planZ l hv fr).2.known := putS_ext _ _ _
  have hxS : Ext (planS l hv fr).known (planZ l hv fr).2.known := (slotsF_ext _ _).trans hxT
  have hcr := chains_read hK l ⟨knF hv, fr, [], 0⟩ hpg (fun r h => (hr r h).2.2) hS hxS
  have hlr := lvs_read (planC l hv fr) [] l _ hcr
  have hok : ∀ x ∈ planC l hv fr, cellOk x := chainsF_ok l ⟨knF hv, fr, [], 0⟩ hpg hr hS
  have hne : ∀ x ∈ lvs [] (planC l hv fr), x ≠ [] := lvs_full _ [] hok
  have hi := putS_is h4
  have hkn := put_known h4
  have hl := hK _ _ hkn
  show (fRead ld (planZ l hv fr).1).e = 0 ∧ (fRead ld (planZ l hv fr).1).out = l ∧ ∀ n b, (fRead ld (planZ l hv fr).1).pages n = some b ↔ _
  change ld (planZ l hv fr).1 = ((indexE (planT l hv fr).1).1, 0) at hl
  obtain ⟨g1, g2⟩ := fPage_good (S := fS0) hl rfl (fun n b h => by cases h)
  have hsb := slotsE_back hi
  have e0 : fRead ld (planZ l hv fr).1 = fSlots ld (planT l hv fr).1 (fPage ld fS0 (planZ l hv fr).1).2 := by
    unfold fRead fIdx
    rw [g1, hsb, if_pos rfl]
  rw [e0]
  obtain ⟨a1, a2, a3, a4⟩ := leaves_read hK (lvs [] (planC l hv fr)) (planS l hv fr) l _ (fPage ld fS0 (planZ l hv fr).1).2 hne hT hxT hlr g2.1 g2.2.2.1 (by rw [g2.2.1]; exact (rightF_up l (-1) h1).1)
  rw [g2.2.1] at a2
  refine ⟨a1, a2, fun n b => ?_⟩
  have e1 := a4 n b
  have e2 := g2.2.2.2 n b
  show (fSlots ld (slotsF (lvs [] (planC l hv fr)) (planS l hv fr)).1 (fPage ld fS0 (planZ l hv fr).1).2).pages n = some b ↔ _
  rw [e1, e2]
  unfold planB
  rw [List.mem_cons, List.mem_append]
  constructor
  · rintro ((h | ⟨rfl, rfl⟩) | (⟨h, h9⟩ | ⟨h, h9⟩))
    · cases h
    · exact ⟨.inl rfl, hkn⟩
    · exact ⟨.inr (.inr h), h9⟩
    · exact ⟨.inr (.inl h), h9⟩
  · rintro ⟨h | h | h, h9⟩
    · subst h
      have h8 : some (planZ l hv fr).1 = some n := hkn.symm.trans h9
      injection h8 with h8
      exact .inl (.inr ⟨h8.symm, rfl⟩)
    · exact .inr (.inr ⟨h, h9⟩)
    · exact .inr (.inl ⟨h, h9⟩)
end Go.Proofs.YtdhaoaehboonpaaGreat.V
end
section
namespace Go.Proofs.YtdhaoaehboonpaaGreat.V
open Go.RowKit Go.Proofs.YtdhaoaehboonpaaGreatW.PrintWords Go.Proofs.YtdhaoaehboonpaaGreatW.PrintLast Go.Proofs.YtdhaoaehboonpaaGreatW.PrintMore Go.Proofs.YtdhaoaehboonpaaGreatM
set_option linter.unusedVariables false
set_option linter.unusedSimpArgs false
structure PInv (hv : List R2) (fr : List Int) (S : PS) : Prop where
  kn : ∀ x ∈ S.out, S.known x.2 = some x.1
  apart : S.out.Pairwise fun x y => x.2 ≠ y.2
  pages : S.out.map (·.1) ++ S.free = fr
  old : ∀ y ∈ hv, S.known y.2 ≠ none
  new : ∀ x ∈ S.out, ∀ y ∈ hv, x.2 ≠ y.2
theorem PInv.put {hv : List R2} {fr : List Int} {S : PS} (h : PInv hv fr S) (b : ByteArray) (is : Bool) : PInv hv fr (putS S b is) := by
  by_cases he : S.e = 0
  · cases is with
    | false =>
      have : putS S b false = { S with e := 9 } := by unfold putS; rw [if_pos he]; rfl
      rw [this]
      exact ⟨h.kn, h.apart, h.pages, h.old, h.new⟩
    | true =>
      cases hk : S.known b with
      | some n => rw [(put_some he hk).1]; exact h
      | none =>
        cases hf : S.free with
        | nil => rw [put_nil he hk hf]; exact ⟨h.kn, h.apart, h.pages, h.old, h.new⟩
        | cons n f =>
          rw [(put_cons he hk hf).1]
          have hne : ∀ x ∈ S.out, x.2 ≠ b := fun x hx e => by have := h.kn x hx; rw [e, hk] at this; cases this
          have hno : ∀ y ∈ hv, y.2 ≠ b := fun y hy e => h.old y hy (by rw [e]; exact hk)
          refine ⟨fun x hx => ?_, ?_, ?_, fun y hy => ?_, fun x hx y hy => ?_⟩
          · show upd S.known b n x.2 = some x.1
            rcases List.mem_append.1 hx with hx | hx
            · rw [upd_ne _ _ (hne x hx)]; exact h.kn x hx
            · rw [List.mem_singleton] at hx
              rw [hx]; exact upd_same _ _ _
          · show (S.out ++ [(n, b)]).Pairwise _
            rw [List.pairwise_append]
            refine ⟨h.apart, List.pairwise_singleton _ _, fun x hx y hy => ?_⟩
            rw [List.mem_singleton] at hy
            rw [hy]; exact hne x hx
          · show (S.out ++ [(n, b)]).map (·.1) ++ f = fr
            have := h.pages
            rw [hf] at this
            rw [List.map_append, List.append_assoc]; exact this
          · show upd S.known b n y.2 ≠ none
            rw [upd_ne _ _ (hno y hy)]; exact h.old y hy
          · rcases List.mem_append.1 hx with hx | hx
            · exact h.new x hx y hy
            · rw [List.mem_singleton] at hx
              rw [hx]; exact fun e => hno y hy e.symm
  · rw [putS_stuck he]; exact h
theorem PInv.chain {hv : List R2} {fr : List Int} : ∀ (l : List ByteArray) {S : PS}, PInv hv fr S → PInv hv fr (chainF l S).2
  | [], _, h => h
  | x :: t, _, h => by rw [chainF_cons]; exact (PInv.chain t h).put _ _
theorem PInv.chains {hv : List R2} {fr : List Int} : ∀ (l : List R2) {S : PS}, PInv hv fr S → PInv hv fr (chainsF l S).2
  | [], _, h => h
  | x :: t, _, h => by
    rw [chainsF_cons]
    split
    · exact PInv.chains t (PInv.chain _ h)
    · exact PInv.chains t h
theorem PInv.slots {hv : List R2} {fr : List Int} : ∀ (l : List (List C4)) {S : PS}, PInv hv fr S → PInv hv fr (slotsF l S).2
  | [], _, h => h
  | x :: t, _, h => by
    rw [slotsF_cons]
    split
    · exact PInv.slots t (h.put _ _)
    · exact PInv.slots t h
theorem knF_old (hv : List R2) : ∀ y ∈ hv, knF hv y.2 ≠ none := by
  have H : ∀ (l : List R2) (k : ByteArray → Option Int) (b : ByteArray), (k b ≠ none ∨ ∃ y ∈ l, y.2 = b) → l.foldl knS k b ≠ none := by
    intro l
    induction l with
    | nil =>
      intro k b h
      rcases h with h | ⟨y, hy, _⟩
      · exact h
      · cases hy
    | cons x t ih =>
      intro k b h
      refine ih _ _ ?_
      by_cases hx : knS k x b ≠ none
      · exact .inl hx
      · have hx := Classical.not_not.1 hx
        refine .inr ?_
        rcases h with h | ⟨y, hy, e⟩
        · exfalso
          unfold knS at hx
          cases hk : k x.2 with
          | some n => rw [hk] at hx; exact h hx
          | none =>
            rw [hk] at hx
            change upd k x.2 x.1 b = none at hx
            by_cases e : b = x.2
            · rw [e, upd_same] at hx; cases hx
            · rw [upd_ne _ _ e] at hx; exact h hx
        · rcases List.mem_cons.1 hy with rfl | hy
          · exfalso
            unfold knS at hx
            cases hk : k y.2 with
            | some n => rw [hk] at hx; change k b = none at hx; rw [← e, hk] at hx; cases hx
            | none =>
              rw [hk] at hx
              change upd k y.2 y.1 b = none at hx
              rw [← e, upd_same] at hx; cases hx
          · exact ⟨y, hy, e⟩
  exact fun y hy => H hv _ _ (.inr ⟨y, hy, rfl⟩)
theorem plan_inv (l hv : List R2) (fr : List Int) : PInv hv fr (planZ l hv fr).2 := by
  have h0 : PInv hv fr (⟨knF hv, fr, [], 0⟩ : PS) := ⟨fun x hx => (List.not_mem_nil hx).elim, List.Pairwise.nil, rfl, knF_old hv, fun x hx => (List.not_mem_nil hx).elim⟩
  have h1 : PInv hv fr (planS l hv fr) := PInv.chains l h0
  have h2 : PInv hv fr (planT l hv fr).2 := PInv.slots _ h1
  exact h2.put _ _
theorem knF_mem (l : List R2) : ∀ b n, knF l b = some n → (n, b) ∈ l := by
  have H : ∀ (l : List R2) (k : ByteArray → Option Int) (b : ByteArray) (n : Int), l.foldl knS k b = some n → k b = some n ∨ (n, b) ∈ l := by
    intro l
    induction l with
    | nil => intro k b n h; exact .inl h
    | cons x t ih =>
      intro k b n h
      rcases ih _ _ _ h with h | h
      · unfold knS at h
        cases hk : k x.2 with
        | some m => rw [hk] at h; exact .inl h
        | none =>
          rw [hk] at h
          change upd k x.2 x.1 b = some n at h
          by_cases e : b = x.2
          · rw [e, upd_same] at h
            injection h with h
            refine .inr ?_
            rw [e, ← h]; exact List.mem_cons_self
          · rw [upd_ne _ _ e] at h; exact .inl h
      · exact .inr (List.mem_cons_of_mem _ h)
  intro b n h
  rcases H l _ b n h with h | h
  · cases h
  · exact h
theorem chainF_only : ∀ (l : List ByteArray) (S : PS) (b : ByteArray), (chainF l S).2.known b ≠ none → S.known b ≠ none ∨ b ∈ chainB l S
  | [], S, b, h => .inl h
  | x :: t, S, b, h => by
    rw [chainF_cons] at h
    rcases putS_mem h with h | ⟨rfl, _⟩
    · exact (chainF_only t S b h).imp id (fun h => List.mem_cons_of_mem _ h)
    · exact .inr List.mem_cons_self
theorem chainsF_only : ∀ (l : List R2) (S : PS) (b : ByteArray), (chainsF l S).2.known b ≠ none → S.known b ≠ none ∨ b ∈ chainsB l S
  | [], S, b, h => .inl h
  | r :: t, S, b, h => by
    rw [chainsF_cons] at h
    rw [chainsB_cons]
    split at h
    · rename_i h24
      rw [if_pos h24, List.mem_append]
      rcases chainsF_only t _ b h with h | h
      · exact (chainF_only _ _ _ h).imp id .inl
      · exact .inr (.inr h)
    · rename_i h24
      rw [if_neg h24]
      exact chainsF_only t _ b h
theorem slotsF_only : ∀ (L : List (List C4)) (S : PS) (b : ByteArray), (slotsF L S).2.known b ≠ none → S.known b ≠ none ∨ b ∈ L.map (fun x => (leafE x).1)
  | [], S, b, h => .inl h
  | x :: t, S, b, h => by
    rw [slotsF_cons] at h
    rw [List.map_cons, List.mem_cons]
    split at h
    · rcases slotsF_only t _ b h with h | h
      · rcases putS_mem h with h | ⟨rfl, _⟩
        · exact .inl h
        · exact .inr (.inl rfl)
      · exact .inr (.inr h)
    · exact (slotsF_only t _ b h).imp id .inr
theorem planB_only {l : List R2} {fr : List Int} {b : ByteArray} (h : (planZ l [] fr).2.known b ≠ none) : b ∈ planB l [] fr := by
  unfold planB
  rw [List.mem_cons, List.mem_append]
  rcases putS_mem (S := (planT l [] fr).2) h with h | ⟨rfl, _⟩
  · rcases slotsF_only _ _ _ (show (slotsF (lvs [] (planC l [] fr)) (planS l [] fr)).2.known b ≠ none from h) with h | h
    · rcases chainsF_only l ⟨knF [], fr, [], 0⟩ b h with h | h
      · exact absurd rfl h
      · exact .inr (.inr h)
    · exact .inr (.inl h)
  · exact .inl rfl
theorem plan_pages {l : List R2} {fr : List Int} {ld : Ld} (h : (planE l [] fr).2.2 = 0) (hK : LdK ld (planZ l [] fr).2.known) (n : Int) (b : ByteArray) :
    (fRead ld (planE l [] fr).2.1).pages n = some b ↔ (n, b) ∈ (planE l [] fr).1 := by
  have hp := plan_inv l [] fr
  rw [(plan_read h hK).2.2 n b, (planE_ok h).2.2.2.2]
  show _ ↔ (n, b) ∈ (planZ l [] fr).2.out
  have hkn : (planZ l [] fr).2.known = knF ([] ++ (planZ l [] fr).2.out) := planZ_kn l [] fr
  constructor
  · rintro ⟨_, h2⟩
    rw [hkn] at h2
    exact knF_mem _ _ _ h2
  · intro h2
    have h3 := hp.kn _ h2
    exact ⟨planB_only (by rw [h3]; exact Option.some_ne_none _), h3⟩
theorem out_apart {l hv : List R2} {fr : List Int} (hf : fr.Nodup) : (planZ l hv fr).2.out.Pairwise fun p q => p.1 ≠ q.1 := by
  have hp := (plan_inv l hv fr).pages
  rw [← hp] at hf
  have h1 := (List.nodup_append.1 hf).1
  unfold List.Nodup at h1
  rw [List.pairwise_map] at h1
  exact h1
end Go.Proofs.YtdhaoaehboonpaaGreat.V
end
section
namespace Go.Proofs.YtdhaoaehboonpaaGreat.V
open Go.RowKit Go.Proofs.YtdhaoaehboonpaaGreatW.PrintWords Go.Proofs.YtdhaoaehboonpaaGreatW.PrintLast Go.Proofs.YtdhaoaehboonpaaGreatW.PrintMore Go.Proofs.YtdhaoaehboonpaaGreatM
set_option linter.unusedVariables false
set_option linter.unusedSimpArgs false
def Full (S : PS) : Prop := ∀ x ∈ S.out, x.2.size = 128
theorem Full.put {S : PS} (h : Full S) {b : ByteArray} {is : Bool} (hb : is = true → b.size = 128) : Full (putS S b is) := by
  by_cases he : S.e = 0
  · cases is with
    | false =>
      have : putS S b false = { S with e := 9 } := by unfold putS; rw [if_pos he]; rfl
      rw [this]; exact h
    | true =>
      cases hk : S.known b with
      | some n => rw [(put_some he hk).1]; exact h
      | none =>
        cases hf : S.free with
        | nil => rw [put_nil he hk hf]; exact h
        | cons n f =>
          rw [(put_cons he hk hf).1]
          intro x hx
          rcases List.mem_append.1 hx with hx | hx
          · exact h x hx
          · rw [List.mem_singleton] at hx
            rw [hx]; exact hb rfl
  · rw [putS_stuck he]; exact h
theorem chA_full {nx : Int} {x : ByteArray} (h : (chA nx x).2 = true) : (chA nx x).1.size = 128 := by
  unfold chA at h ⊢
  split at h
  · rename_i hc
    rw [if_pos hc]
    refine strOf_pad_size ?_
    rw [chL_length]
    unfold chOk at hc
    simp only [Bool.and_eq_true, decide_eq_true_eq] at hc
    omega
  · cases h
theorem fullA_full {l : List Int} (h : (fullA (strOfNums l)).2 = true) : (fullA (strOfNums l)).1.size = 128 := by
  rw [fullA_pad h]
  rw [fullA_two, decide_eq_true_eq, strOfNums_size] at h
  exact strOf_pad_size h
theorem leafE_full {l : List C4} (h : (leafE l).2 = true) : (leafE l).1.size = 128 := by
  unfold leafE lfA at h ⊢
  split at h
  · rename_i h1
    rw [if_pos h1]
    split at h
    · rename_i h2
      rw [if_pos h2]
      exact fullA_full h
    · cases h
  · cases h
theorem indexE_full {l : List S2} (h : (indexE l).2 = true) : (indexE l).1.size = 128 := by
  unfold indexE idxA at h ⊢
  split at h
  · rename_i h1
    rw [if_pos h1]
    split at h
    · rename_i h2
      rw [if_pos h2]
      exact fullA_full h
    · cases h
  · cases h
theorem Full.chain : ∀ (l : List ByteArray) {S : PS}, Full S → Full (chainF l S).2
  | [], _, h => h
  | x :: t, _, h => by rw [chainF_cons]; exact (Full.chain t h).put chA_full
theorem Full.chains : ∀ (l : List R2) {S : PS}, Full S → Full (chainsF l S).2
  | [], _, h => h
  | x :: t, _, h => by
    rw [chainsF_cons]
    split
    · exact Full.chains t (Full.chain _ h)
    · exact Full.chains t h
theorem Full.slots : ∀ (l : List (List C4)) {S : PS}, Full S → Full (slotsF l S).2
  | [], _, h => h
  | x :: t, _, h => by
    rw [slotsF_cons]
    split
    · exact Full.slots t (h.put leafE_full)
    · exact Full.slots t h
theorem plan_full (l hv : List R2) (fr : List Int) : ∀ x ∈ (planE l hv fr).1, x.2.size = 128 := by
  by_cases h : (planE l hv fr).2.2 = 0
  · rw [(planE_ok h).2.2.2.2]
    have h1 : Full (planS l hv fr) := Full.chains l (S := ⟨knF hv, fr, [], 0⟩) (fun x hx => (List.not_mem_nil hx).elim)
    have h2 : Full (planT l hv fr).2 := Full.slots _ h1
    exact h2.put indexE_full
  · rw [(planE_no h).1]
    exact fun x hx => (List.not_mem_nil hx).elim
def ldP (S : VP.PS) : Ld := fun n => VP.loadE S n
end Go.Proofs.YtdhaoaehboonpaaGreat.V
end
section
namespace Go.Proofs.YtdhaoaehboonpaaGreat.V
open Go.RowKit Go.Proofs.YtdhaoaehboonpaaGreatW.PrintWords Go.Proofs.YtdhaoaehboonpaaGreatW.PrintLast Go.Proofs.YtdhaoaehboonpaaGreatW.PrintMore Go.Proofs.YtdhaoaehboonpaaGreatM
set_option linter.unusedVariables false
set_option linter.unusedSimpArgs false
set_option maxHeartbeats 8000000 in
set_option maxRecDepth 100000 in
theorem read_any {w : World} {L : Value} {ld : Ld} (HL : LdOk w L ld) (hs : LdSmall ld) (root : Int) (hr : wfI root) :
    Calls Tryz.prog 47 #[.int .i64 root, L] w fun e w' => ReadR w.heap.size (fRead ld root) e w' ∧ Below w.heap.size w w' := by
  have HLD := Aside0.mk HL
  have HSM := Aside0.mk hs
  obtain ⟨fk, bs, cs, hL, _⟩ := HL
  have hP := fun {w' g m v S} (h : IsFind w w' g m L v S) => page_any HLD.out h root hr
  have HP := Aside0.mk (fun (w' : World) (g m : Nat) (v : Value) (S : FS) (h : IsFind w w' g m L v S) => page_any HLD.out h root hr)
  obtain ⟨b, hb⟩ : ∃ b, b = (fPage ld fS0 root).1 := ⟨_, rfl⟩
  obtain ⟨S1, hS1⟩ : ∃ S1, S1 = (fPage ld fS0 root).2 := ⟨_, rfl⟩
  have hO1 := (fPage_ok hs fS0_ok root).1
  have ho1 := fPage_out ld fS0 root
  have hidx : fIdx ld root = if (slotsE b).2 = true then S1 else fForm S1 := by unfold fIdx; rw [← hb, ← hS1]
  have hrd : fRead ld root = fSlots ld (slotsE b).1 (fIdx ld root) := by unfold fRead; rw [← hb]
  have hP0 := Aside0.mk (fun (w' : World) (g m : Nat) (v : Value) (h : IsFind w w' g m L v fS0) => (show Calls Tryz.prog 109 #[.pointer (some ⟨g, 0, none⟩), .int .i64 root] w' fun e w'' => e = .returned (.string b) ∧ IsFind w w'' g m L v S1 ∧ Kq w' w'' g m from by rw [hb, hS1]; exact page_any HLD.out h root hr))
  have hC := fun W => slots_any b W
  have hok := slotsE_ok b
  obtain ⟨sl, hsl⟩ : ∃ sl, sl = (slotsE b).1 := ⟨_, rfl⟩
  obtain ⟨is, his⟩ : ∃ is, is = (slotsE b).2 := ⟨_, rfl⟩
  rw [← hsl, ← his] at hC
  rw [← hsl] at hok hrd
  rw [← his] at hidx
  rw [← hS1] at hO1 ho1
  obtain ⟨S2, hS2⟩ : ∃ S2, S2 = fIdx ld root := ⟨_, rfl⟩
  have hO2 : FOk S2 := by rw [hS2, hidx]; split; exact hO1; exact fForm_ok hO1
  have ho2 : S2.out = [] := by rw [hS2, hidx]; split; exact ho1; exact (fForm_out _).trans ho1
  rw [← hS2] at hidx hrd
  obtain ⟨R, hR⟩ : ∃ R, R = fRead ld root := ⟨_, rfl⟩
  rw [← hR] at hrd ⊢
  have HC := Aside0.mk hC
  have HOK := Aside0.mk hok
  have HPG := Aside0.mk (show PgR root R from by rw [hR]; exact fRead_pg hs root)
  have HID := Aside0.mk hidx
  have HRD := Aside0.mk hrd
  have HO2 := Aside0.mk (And.intro hO2 ho2)
  clear hs hr hP HP hb hS1 hO1 ho1 hidx hrd hC hok hsl his hS2 hO2 ho2 hR
  subst hL
  have hq : ∀ W, (binOp BinOp.eql 87 (Value.func (Fn.func fk) bs cs) Value.nilFunc).run Tryz.prog W = .ok (.bool false) W := fun W => by first | kernel_rfl | rfl
  have hmm := @run_makeMap Tryz.prog
  go_enter Tryz.func47, Tryz.ntmps47
  go_upto_region 4 with (fail)
  clear hmm hq
  have HB0 := Aside0.mk (Below.refl w.heap.size w)
  have HF0 := Aside0.mk (show IsFind w ((w.alloc (Obj.map #[] 0)).alloc (Obj.cells #[Value.func (Fn.func fk) bs cs, Value.map (some w.heap.size), Value.slice none 0 0, Value.int IntKind.i64 0] 176)) (w.heap.size + 1) w.heap.size (.func (.func fk) bs cs) (.slice none 0 0) fS0 from
    ⟨by
      have h1 := (MapKept.heap_alloc (w.alloc (Obj.map #[] 0)) (Obj.cells #[Value.func (Fn.func fk) bs cs, Value.map (some w.heap.size), Value.slice none 0 0, Value.int IntKind.i64 0] 176)).1
      rw [World.size_alloc] at h1
      exact h1, Nat.le_succ _, Nat.le_refl _, (IsMapB.made w).at ((below_alloc (Below.refl _ _) _).block _ (IsMapB.made (eK := Value.int .i64) (eV := Value.string) (wf := wfI) w).lt), Kd.R_nil _ _ _ _ _, below_alloc (below_alloc HB0.out _) _⟩)
  obtain ⟨w1, hw1⟩ : ∃ w1, w1 = ((w.alloc (Obj.map #[] 0)).alloc (Obj.cells #[Value.func (Fn.func fk) bs cs, Value.map (some w.heap.size), Value.slice none 0 0, Value.int IntKind.i64 0] 176)) := ⟨_, rfl⟩
  rw [← hw1] at HF0 ⊢
  obtain ⟨m, hm⟩ : ∃ m, m = w.heap.size := ⟨_, rfl⟩
  obtain ⟨g, hg⟩ : ∃ g, g = w.heap.size + 1 := ⟨_, rfl⟩
  rw [← hg, ← hm] at HF0
  rw [← hg] at ⊢
  clear hw1 hg hm HB0
  go_upto_region 5 with (first
    | (go_at_call 109; (with_reducible refine (hP0.out _ _ _ _ HF0.out).mono ?_); rintro e w2 ⟨rfl, hf1, hk1⟩; have HF1 := Aside0.mk hf1; clear hf1 hk1 HF0)
    | (go_at_call 108; (with_reducible refine (HC.out _).mono ?_); rintro e w3 ⟨u0, rfl, hR3, hb3⟩; have HR3 := Aside0.mk (Kd.R_lower hR3 HF1.out.2.2.2.2.2.size); have HF3 := Aside0.mk (HF1.out.step hb3); clear hR3 hb3 HF1))
  obtain ⟨n, hn⟩ : ∃ n, n = sl.length := ⟨_, rfl⟩
  have HN := Aside0.mk hn
  obtain ⟨A, c, hu0⟩ := Kd.R_slice HR3.out
  rw [← hn] at hu0
  subst hu0
  have hlen := HOK.out.1
  rw [← hn] at hlen
  clear hn hP0 HC
  go_upto_if 29 with (fail)
  go_cut [7] (fun v7 wx => v7 = .pointer (some ⟨g, 0, none⟩) ∧ Aside0 (IsFind w wx g m (.func (.func fk) bs cs) (.slice none 0 0) S2) ∧ Aside0 (kS.R 165 wx w.heap.size (fun _ => True) (.slice A n c) sl))
  case first =>
    have hid := HID.out
    cases is
    case false =>
      rw [if_neg (by decide)] at hid
      subst hid
      go_wp2_with (go_at_call 110; (with_reducible refine (form_any HF3.out).mono ?_); rintro e w4 ⟨rfl, hf3, hk3⟩; have HF4 := Aside0.mk hf3; have HR4 := Aside0.mk ((hk3.kf HF3.out.2.2.2.1).R HF3.out.1 HR3.out T76); clear hf3 hk3)
      go_meet
      exact ⟨rfl, HF4, HR4⟩
    case true =>
      rw [if_pos rfl] at hid
      subst hid
      go_wp2_with (fail)
      go_meet
      exact ⟨rfl, HF3, HR3⟩
  case rest =>
    obtain ⟨rfl, HF4, HR4⟩ := hcut
    clear HF3 HR3 HID
    go_wp2_with (fail)
    go_loopg [34] n (fun kq v34 w' => ∃ (i : Nat) (v' : Value) (S' : FS), v34 = .int .i64 i ∧ Aside0 (i + kq = n) ∧ Aside0 (FOk S') ∧ Aside0 (S'.out.length ≤ 128 * i) ∧ Aside0 (R = fSlots ld (sl.drop i) S') ∧ Aside0 (kS.R 165 w' w.heap.size (fun _ => True) (.slice A n c) sl) ∧ Aside0 (IsFind w w' g m (.func (.func fk) bs cs) v' S'))
    case atStart => exact ⟨0, _, _, rfl, ⟨by omega⟩, ⟨HO2.out.1⟩, ⟨by rw [HO2.out.2]; exact Nat.zero_le _⟩, HRD, HR4, HF4⟩
    case round =>
      clear HRD HR4 HF4 HO2
      obtain ⟨i, v', S', rfl, HI, HO, HL, HRR, HR4, HF4⟩ := hrel
      cases gk with
      | succ gk =>
        have hi : i < n := by have := HI.out; omega
        have d1 : decide ((i : Int) < (n : Int)) = true := decide_eq_true (by omega)
        have d2 : decide (i < n) = true := decide_eq_true hi
        have d3 : (i < n) = True := eq_true hi
        have d4 : ((i : Int) < (n : Int)) = True := eq_true (by omega)
        have d5 : (0 ≤ (i : Int)) = True := eq_true (by omega)
        have hil : i < sl.length := by have := HN.out; omega
        have hdr : sl.drop i = atS sl i :: sl.drop (i + 1) := by
          rw [List.drop_eq_getElem_cons hil]
          congr 1
          unfold atS
          rw [List.getD_eq_getElem?_getD, List.getElem?_eq_getElem hil]; rfl
        obtain ⟨ad, ea, x0, x1⟩ := at_S (Kd.R_reads' HR4.out).2.2 i (by have := (Kd.R_reads' HR4.out).1; omega)
        have hgood := HOK.out.2 (atS sl i) (by
          unfold atS
          rw [List.getD_eq_getElem?_getD, List.getElem?_eq_getElem hil]
          exact List.getElem_mem hil)
        have hR := HRR.out
        rw [hdr] at hR
        obtain ⟨⟨kk, pp⟩, hx⟩ : ∃ x, x = atS sl i := ⟨_, rfl⟩
        rw [← hx] at x0 x1 hgood hR
        have HG := Aside0.mk hgood
        have HR1 := Aside0.mk hR
        subst ea
        clear hgood hR hx hdr hil HRR
        simp only [] at x0 x1
        go_upto_region 10 with (fail)
        obtain ⟨w4, hw4⟩ : ∃ w4, w4 = wr.alloc (.cells #[.int .i64 kk, .int .i64 pp] 165) := ⟨_, rfl⟩
        have HBA := Aside0.mk (below_alloc (Below.refl wr.heap.size wr) (.cells #[.int .i64 kk, .int .i64 pp] 165))
        rw [← hw4] at HBA ⊢
        have HX4 := Aside0.mk (show w4.heap[wr.heap.size]? = some (.cells #[.int .i64 kk, .int .i64 pp] 165 (0, 0)) from by rw [hw4]; exact (MapKept.heap_alloc wr _).1)
        have HF5 := Aside0.mk (HF4.out.step HBA.out)
        have HR5 := Aside0.mk (Kd.R_below HR4.out HBA.out)
        obtain ⟨q, hq⟩ : ∃ q, q = wr.heap.size := ⟨_, rfl⟩
        rw [← hq] at HX4 ⊢
        clear hw4 x0 x1 HF4 HR4 hq HBA
        have y0 : w4.cell? ⟨q, 0, none⟩ = some (.int .i64 kk) := (blk_cell HX4.out 0).trans rfl
        have y1 : w4.cell? ⟨q, 1, none⟩ = some (.int .i64 pp) := (blk_cell HX4.out 1).trans rfl
        obtain ⟨c0, c1, c2, c3⟩ := cell104 HF5.out.1
        have hR1 := HR1.out
        by_cases he : S'.e = 0
        · have e1 : (S'.e == 0) = true := by simpa using he
          rw [show fSlots ld ((kk, pp) :: sl.drop (i + 1)) S' = fSlots ld (sl.drop (i + 1)) (fLeaf ld S' (kk, pp)) from by show fSlots ld _ (if S'.e = 0 then _ else _) = _; rw [if_pos he]] at hR1
          have HR2 := Aside0.mk hR1
          have hl6 : S'.out.length ≤ 100000 := by have := HL.out; omega
          have HLF := Aside0.mk (fleaf_any HLD.out HSM.out HF5.out HO.out hl6 kk pp HG.out)
          have HO6 := Aside0.mk (And.intro (fLeaf_ok HSM.out HO.out (kk, pp)) (show (fLeaf ld S' (kk, pp)).out.length ≤ 128 * (i + 1) from by have h1 := fLeaf_len ld S' (kk, pp); have h2 := HL.out; omega))
          clear he hR1 HR1 hl6
          go_wp2_with (fail)
          with_reducible refine (HLF.out).mono ?_
          rintro e w6 ⟨rfl, ⟨v6, hf6⟩, hk6⟩
          have HF6 := Aside0.mk hf6
          have HR6 := Aside0.mk (hk6.R HF5.out.1 HR5.out T76)
          clear hf6 hk6
          go_wp2_with (fail)
          go_roundg gk
          case measure => omega
          case rel => exact ⟨i + 1, _, _, by first | rfl | go_num, ⟨by have := HI.out; omega⟩, ⟨HO6.out.1⟩, ⟨HO6.out.2⟩, HR2, HR6, HF6⟩
        · have e1 : (S'.e == 0) = false := by simpa using he
          rw [show fSlots ld ((kk, pp) :: sl.drop (i + 1)) S' = fSlots ld (sl.drop (i + 1)) S' from by show fSlots ld _ (if S'.e = 0 then _ else _) = _; rw [if_neg he]] at hR1
          have HR2 := Aside0.mk hR1
          clear he hR1 HR1
          go_wp2_with (fail)
          go_roundg gk
          case measure => omega
          case rel => exact ⟨i + 1, _, _, by first | rfl | go_num, ⟨by have := HI.out; omega⟩, HO, ⟨by have := HL.out; omega⟩, HR2, HR5, HF5⟩
      | zero =>
        have hi : i = n := by have := HI.out; omega
        subst hi
        have d1 : decide ((i : Int) < (i : Int)) = false := decide_eq_false (by omega)
        have d2 : decide (i < i) = false := decide_eq_false (by omega)
        have hR := HRR.out
        rw [List.drop_of_length_le (by have := HN.out; omega)] at hR
        change R = S' at hR
        subst hR
        clear HRR HL HI HR4
        go_upto_region 13 with (fail)
        obtain ⟨k1, k2, k3, k4, k5, k6⟩ := HF4.out
        have K1 := Aside0.mk k1
        have K4 := Aside0.mk k4
        have K5 := Aside0.mk k5
        have K6 := Aside0.mk k6
        have K23 := Aside0.mk (And.intro k2 k3)
        obtain ⟨c0, c1, c2, c3⟩ := cell104 k1
        clear k1 k2 k3 k4 k5 k6 d1 d2
        by_cases he : R.e = 0
        · have e1 : (R.e != 0) = false := by simpa using he
          have HE := Aside0.mk he
          clear he
          go_wp2_with (at_range; go_must (refine wpList_range_b keysI rfl (.tmp 59) 111 rfl 9 Tryz.underlying111 rfl K4.out ?_); intro w5 cnt hrg hg5 hs5; have HRG := Aside0.mk hrg; have H5 := Aside0.mk hg5; have HS5 := Aside0.mk hs5; clear hrg hg5 hs5)
          go_frame
          obtain ⟨r, hr⟩ : ∃ r, r = wr.heap.size := ⟨_, rfl⟩
          rw [← hr] at HRG ⊢
          have G5 := Aside0.mk ((H5.out.block g (blk_lt K1.out) (by simp)).trans K1.out)
          have Q5 := Aside0.mk (Kd.R_grown K5.out H5.out (fun k _ => by simp))
          have B5 := Aside0.mk (pw_below_grown K6.out _ K6.out.size H5.out (by rintro k e; cases e))
          have HWR := Aside0.mk (show w.heap.size ≤ r from by rw [hr]; exact K6.out.size)
          clear hr HF4 K1 K5 K6 c0 c1 c2 c3 H5 HS5 e1
          go_loopg [12, 13, 14] cnt (fun kq v12 v13 v14 w' => ∃ (left : Int → Prop) (cn : Nat) (ys : List R2), Aside0 (cn ≤ kq) ∧ Aside0 (RngB (Value.int .i64) Value.string wfI w' m r R.pages left cn) ∧ Aside0 (kR.R 106 w' w.heap.size (fun _ => True) v12 ys) ∧ Aside0 (ys = [] → v12 = .slice none 0 0) ∧ Aside0 (ys.Pairwise fun p q => p.1 ≠ q.1) ∧ Aside0 (∀ a b, (a, b) ∈ ys ↔ (R.pages a = some b ∧ ¬ left a)) ∧ Aside0 (w'.heap[g]? = some (.cells #[Value.func (Fn.func fk) bs cs, .map (some m), v', .int .i64 R.e] 176 (0, 0))) ∧ Aside0 (kR.R 50 w' w.heap.size (fun _ => True) v' R.out) ∧ Aside0 (Below w.heap.size w w'))
          case atStart => exact ⟨_, _, [], ⟨Nat.le_refl _⟩, HRG, ⟨Kd.R_nil _ _ _ _ _⟩, ⟨fun _ => rfl⟩, ⟨List.Pairwise.nil⟩, ⟨fun a b => ⟨fun h => (List.not_mem_nil h).elim, fun h => absurd (by rw [h.1]; exact Option.some_ne_none _) h.2⟩⟩, G5, Q5, B5⟩
          case round =>
            clear HRG G5 Q5 B5 K4
            obtain ⟨left, cn, ys, HCN, HRG, HY, HNIL, HPW, HME, G5, Q5, B5⟩ := hrel
            go_wp2_with (at_next; refine wpList_next_b keysI rfl (.tmp 60) rfl rfl HRG.out ?_ ?_)
            case refine_1 =>
              intro _ hl
              have hl2 : ys.length ≤ 1000000 := by
                have := few_pages HPG.out HPW.out (fun x hx => ((HME.out x.1 x.2).1 hx).1)
                omega
              have HSW := Aside0.mk (sort_writes HY.out HNIL.out hl2)
              have HNL := Aside0.mk hl
              clear hl hl2
              go_wp2_with (fail)
              with_reducible refine (HSW.out).mono ?_
              rintro e w6 ⟨rfl, ys2, hp2, hs2, hR6, hg6⟩
              have HP2 := Aside0.mk hp2
              have HS2 := Aside0.mk hs2
              have HR6 := Aside0.mk hR6
              have HG6 := Aside0.mk hg6
              have K6 := Aside0.mk ((hg6.block g (blk_lt G5.out) (Kd.R_ne HY.out G5.out (by decide))).trans G5.out)
              have c2 := (cell104 K6.out).2.2.1
              clear hp2 hs2 hR6 hg6
              go_wp2_with (fail)
              go_ret3
              refine ⟨⟨v', u12, ys2, by rw [HE.out]; rfl, by rw [if_pos HE.out]; exact Kd.R_over Q5.out HY.out (by intro q hq; simp [kR, Kd.pair, Kd.int, Kd.string, Kd.scalar] at hq; omega) HG6.out, HR6.out, fun _ => ⟨?_, fun a b => ?_⟩, fun h => absurd HE.out h⟩, pw_below_grown B5.out _ B5.out.size HG6.out (fun k hk => Kd.R_base HY.out k hk)⟩
              · have h1 : ys2.Pairwise fun p q => p.1 ≠ q.1 := (HP2.out.pairwise_iff (fun h e => h e.symm)).2 HPW.out
                exact (h1.and HS2.out).imp (fun h => by have := h.1; have := h.2; omega)
              · rw [HP2.out.mem_iff, HME.out]
                exact ⟨fun h => h.1, fun h => ⟨h, HNL.out a⟩⟩
            case refine_2 =>
              intro n2 s2 w2 cnt2 hln hpg2 hrg2 hlt2 hg2 hs2 hen
              clear hs2
              have HLN := Aside0.mk hln
              have HPG2 := Aside0.mk hpg2
              have HRG2 := Aside0.mk hrg2
              have HLT := Aside0.mk hlt2
              have G2 := Aside0.mk ((hg2.block g (blk_lt G5.out) (iter_ne HRG.out G5.out)).trans G5.out)
              have Q2 := Aside0.mk (R_iter Q5.out HRG.out hg2)
              have HY2 := Aside0.mk (R_iter HY.out HRG.out hg2)
              have B2 := Aside0.mk (pw_below_grown B5.out _ B5.out.size hg2 (by rintro k e; injection e with e; rw [← e]; exact HWR.out))
              have hl2 : ys.length ≤ 201 := few_pages HPG.out HPW.out (fun x hx => ((HME.out x.1 x.2).1 hx).1)
              clear hln hpg2 hrg2 hlt2 hg2 HRG HY Q5 G5 B5
              cases gk with
              | zero => have := HLT.out; have := HCN.out; omega
              | succ gk =>
                go_wp2_with (first | ((with_reducible refine gate_builtin (b := .append) (xs := #[.tmp 66, .tmp 70]) rfl ?_); at_builtin; go_must (refine Kd.R_append kR w.heap.size rfl (.tmp 66) (.tmp 70) 91 106 (.agg #[(.int .i64 0), (.string ⟨#[]⟩)]) 24 rfl Tryz.underlying91 info106 rfl (by decide) (by omega) u12 ys (n2, s2) [.int .i64 n2, .string s2] (fun _ => True) (fun _ => False) rfl rfl (kR_mkM _ _ _ (n2, s2)) (fun _ hk => hk.elim) (fun _ _ => trivial) HY2.out B2.out B2.out.size (by omega) ?_); intro v3 w3 ho_ hb_ hg_ hat_; have R3 := Aside0.mk ho_; have B3 := Aside0.mk hb_; have G3 := Aside0.mk hg_; clear ho_ hb_ hg_ hat_))
                go_roundg gk
                case measure => omega
                case rel =>
                  obtain ⟨i1, i2⟩ := iter_ne_row HY2.out HRG2.out
                  refine ⟨_, cnt2, ys ++ [(n2, s2)], ⟨by have := HLT.out; have := HCN.out; omega⟩, ⟨HRG2.out.kept G3.out i2 i1⟩, R3, ⟨fun h => absurd h (by simp)⟩, ⟨?_⟩, ⟨fun a b => ?_⟩, ⟨(G3.out.block g (blk_lt G2.out) (Kd.R_ne HY2.out G2.out (by decide))).trans G2.out⟩, ⟨Kd.R_over Q2.out HY2.out (by intro q hq; simp [kR, Kd.pair, Kd.int, Kd.string, Kd.scalar] at hq; omega) G3.out⟩, B3⟩
                  · rw [List.pairwise_append]
                    refine ⟨HPW.out, List.pairwise_singleton _ _, fun x hx y hy => ?_⟩
                    rw [List.mem_singleton] at hy
                    subst hy
                    intro e
                    have := ((HME.out x.1 x.2).1 hx).2
                    rw [e] at this
                    exact this HLN.out
                  · rw [List.mem_append, List.mem_singleton, HME.out]
                    constructor
                    · rintro (⟨h1, h2⟩ | h)
                      · exact ⟨h1, fun h => h2 h.1⟩
                      · injection h with h1 h2
                        subst h1 h2
                        exact ⟨HPG2.out, fun h => h.2 rfl⟩
                    · rintro ⟨h1, h2⟩
                      by_cases e : a = n2
                      · subst e
                        refine .inr ?_
                        have := HPG2.out
                        rw [h1] at this
                        injection this with this
                        rw [this]
                      · exact .inl ⟨h1, fun h => h2 ⟨h, e⟩⟩
        · have e1 : (R.e != 0) = true := by simpa using he
          have HE := Aside0.mk he
          clear he
          go_wp2_with (fail)
          go_quiet (fail)
          all_goals
            go_wp2
            go_ret3
            exact ⟨⟨_, _, [], rfl, by rw [if_neg HE.out]; exact Kd.R_nil _ _ _ _ _, Kd.R_nil _ _ _ _ _, fun h => absurd h HE.out, fun _ => rfl⟩, by repeat (first | (with_reducible first | exact K6.out | apply below_alloc | apply pw_below_drewN | apply below_drew1) | exact K6.out)⟩
end Go.Proofs.YtdhaoaehboonpaaGreat.V
end
section
namespace Go.Proofs.YtdhaoaehboonpaaGreat.V
open Go.RowKit Go.Proofs.YtdhaoaehboonpaaGreatW.PrintWords Go.Proofs.YtdhaoaehboonpaaGreatW.PrintLast Go.Proofs.YtdhaoaehboonpaaGreatW.PrintMore Go.Proofs.YtdhaoaehboonpaaGreatM
set_option linter.unusedVariables false
set_option linter.unusedSimpArgs false
theorem ldOk_plat {w0 W : World} {g : Nat} {S : VP.PS} (h : VP.IsQ w0 W g S) : LdOk W (.func (.func 39) #[.pointer (some ⟨g, 0, none⟩)] #[]) (ldP S) :=
  ⟨39, _, _, rfl, enters_of Tryz.func39 (by kernel_rfl) rfl, fun W' n hn hb => VP.load_any (h.below hb).2 n hn⟩
def pkS (S : VP.PS) : Int × Int × Int × Int × Bool := Cr.pickA (VP.loadE S 0).1 (VP.loadE S 1).1
def opE (S : VP.PS) : Int :=
  if (VP.loadE S 0).2 = 0 then (if (VP.loadE S 1).2 = 0 then (if (pkS S).2.2.2.2 = true ∧ (pkS S).2.2.1 = (S.safe.length : Int) then (fRead (ldP S) (pkS S).2.1).e else 5) else (VP.loadE S 1).2) else (VP.loadE S 0).2
theorem pk_root (a b : ByteArray) : wfI (Cr.pickA a b).2.1 := by
  unfold Cr.pickA
  split
  · rename_i h
    obtain ⟨_, _, h1, h2, h3, h4⟩ := Cr.okC_iff.1 (Cr.isC_enc h.1).1
    exact wfI_small (by show -9223372036854775808 ≤ Cr.gR a; omega) (by show Cr.gR a ≤ 9223372036854775807; omega)
  · split
    · rename_i h
      obtain ⟨_, _, h1, h2, h3, h4⟩ := Cr.okC_iff.1 (Cr.isC_enc h).1
      exact wfI_small (by show -9223372036854775808 ≤ Cr.gR b; omega) (by show Cr.gR b ≤ 9223372036854775807; omega)
    · exact wfI_small (by decide) (by decide)
def OpenR (w : World) (g : Nat) (S : VP.PS) (e : Ending) (w' : World) : Prop :=
  (opE S ≠ 0 ∧ e = .returned (.tuple #[.pointer none, .int .i64 (opE S)])) ∨
  (opE S = 0 ∧ ∃ gv lv vv ys, e = .returned (.tuple #[.pointer (some ⟨gv, 0, none⟩), .int .i64 0]) ∧
    w'.heap[gv]? = some (.cells #[.pointer (some ⟨g, 0, none⟩), .int .i64 (pkS S).1, .int .i64 (pkS S).2.1, .int .i64 (pkS S).2.2.1, lv, vv, .bool false] 103 (0, 0)) ∧ w.heap.size ≤ gv ∧
    kR.R 50 w' w.heap.size (fun _ => True) lv (fRead (ldP S) (pkS S).2.1).out ∧ kR.R 106 w' w.heap.size (fun _ => True) vv ys ∧ PagesOf (fRead (ldP S) (pkS S).2.1) ys)
set_option maxHeartbeats 8000000 in
set_option maxRecDepth 100000 in
theorem open_any {w0 w : World} {g : Nat} {S : VP.PS} (h : VP.IsQ w0 w g S) (hs : LdSmall (ldP S)) :
    Calls Tryz.prog 13 #[.pointer (some ⟨g, 0, none⟩)] w fun e w' => OpenR w g S e w' ∧ Below w.heap.size w w' := by
  have HQ := Aside0.mk h
  have HB := Aside0.mk (Below.refl w.heap.size w)
  have HL0 := Aside0.mk (fun (W : World) (hb : Below w.heap.size w W) => VP.load_any (h.below hb).2 0 (by decide))
  have HL1 := Aside0.mk (fun (W : World) (hb : Below w.heap.size w W) => VP.load_any (h.below hb).2 1 (by decide))
  have hop : opE S = if (VP.loadE S 0).2 = 0 then (if (VP.loadE S 1).2 = 0 then (if (pkS S).2.2.2.2 = true ∧ (pkS S).2.2.1 = (S.safe.length : Int) then (fRead (ldP S) (pkS S).2.1).e else 5) else (VP.loadE S 1).2) else (VP.loadE S 0).2 := rfl
  have hpk : pkS S = Cr.pickA (VP.loadE S 0).1 (VP.loadE S 1).1 := rfl
  have hwr := pk_root (VP.loadE S 0).1 (VP.loadE S 1).1
  rw [← hpk] at hwr
  have HPK := Aside0.mk (fun (W : World) => Cr.pick_any (VP.loadE S 0).1 (VP.loadE S 1).1 W)
  rw [← hpk] at HPK
  have HPG := Aside0.mk (fun (W : World) (hb : Below w.heap.size w W) => VP.pages_any (h.below hb).2)
  have HRD := Aside0.mk (fun (W : World) (hb : Below w.heap.size w W) => read_any (ldOk_plat (h.below hb)) hs (pkS S).2.1 hwr)
  obtain ⟨⟨a1, a2⟩, ha⟩ : ∃ a, a = VP.loadE S 0 := ⟨_, rfl⟩
  obtain ⟨⟨b1, b2⟩, hb⟩ : ∃ a, a = VP.loadE S 1 := ⟨_, rfl⟩
  rw [← ha, ← hb] at hop HPK
  rw [← ha] at HL0
  rw [← hb] at HL1
  obtain ⟨N, hN⟩ : ∃ N, N = S.safe.length := ⟨_, rfl⟩
  rw [← hN] at hop HPG
  have hOR : ∀ e w', OpenR w g S e w' ↔ ((opE S ≠ 0 ∧ e = .returned (.tuple #[.pointer none, .int .i64 (opE S)])) ∨
  (opE S = 0 ∧ ∃ gv lv vv ys, e = .returned (.tuple #[.pointer (some ⟨gv, 0, none⟩), .int .i64 0]) ∧
    w'.heap[gv]? = some (.cells #[.pointer (some ⟨g, 0, none⟩), .int .i64 (pkS S).1, .int .i64 (pkS S).2.1, .int .i64 (pkS S).2.2.1, lv, vv, .bool false] 103 (0, 0)) ∧ w.heap.size ≤ gv ∧
    kR.R 50 w' w.heap.size (fun _ => True) lv (fRead (ldP S) (pkS S).2.1).out ∧ kR.R 106 w' w.heap.size (fun _ => True) vv ys ∧ PagesOf (fRead (ldP S) (pkS S).2.1) ys)) := fun e w' => Iff.rfl
  obtain ⟨OR, hORd⟩ : ∃ OR, OR = OpenR w g S := ⟨_, rfl⟩
  rw [← hORd] at hOR ⊢
  obtain ⟨E, hE⟩ : ∃ E, E = opE S := ⟨_, rfl⟩
  obtain ⟨⟨p1, p2, p3, p4, p5⟩, hp⟩ : ∃ p, p = pkS S := ⟨_, rfl⟩
  rw [← hE] at hop hOR
  rw [← hp] at hop hOR HPK HRD
  obtain ⟨R, hR⟩ : ∃ R, R = fRead (ldP S) p2 := ⟨_, rfl⟩
  simp only [] at hop hOR HPK HRD HL0 HL1
  rw [← hR] at hop hOR HRD
  have HOP := Aside0.mk hop
  have HOR := Aside0.mk hOR
  clear h hs hop hpk hwr ha hb hN hORd hE hp hR hOR
  go_enter Tryz.func13, Tryz.ntmps13
  by_cases ha : a2 = 0
  · subst ha
    have h1 := HOP.out
    rw [if_pos rfl] at h1
    have HOP1 := Aside0.mk h1
    clear h1 HOP
    go_upto_region 6 with (go_at_call 39; (with_reducible refine (HL0.out _ HB.out).mono ?_); rintro e w1 ⟨rfl, hb⟩; have HB1 := Aside0.mk (below_step HB.out hb); clear hb HB)
    by_cases hb : b2 = 0
    · subst hb
      have h1 := HOP1.out
      rw [if_pos rfl] at h1
      have HOP2 := Aside0.mk h1
      clear h1 HOP1
      go_upto_region 9 with (go_at_call 39; (with_reducible refine (HL1.out _ HB1.out).mono ?_); rintro e w2 ⟨rfl, hb⟩; have HB2 := Aside0.mk (below_step HB1.out hb); clear hb HB1)
      go_upto_region 10 with (go_at_call 46; (with_reducible refine (HPK.out _).mono ?_); rintro e w3 ⟨rfl, hb⟩; have HB3 := Aside0.mk (below_step HB2.out hb); clear hb HB2)
      obtain ⟨wA, hwA⟩ : ∃ wA, wA = w3.alloc (.cells #[.int .i64 p1, .int .i64 p2, .int .i64 p3] 97) := ⟨_, rfl⟩
      have HX := Aside0.mk (show wA.heap[w3.heap.size]? = some (.cells #[.int .i64 p1, .int .i64 p2, .int .i64 p3] 97 (0, 0)) from by rw [hwA]; exact Cr.alloc_at rfl)
      have HBA := Aside0.mk (show Below w.heap.size w wA from by rw [hwA]; exact below_alloc HB3.out _)
      rw [← hwA]
      obtain ⟨gc, hgc⟩ : ∃ gc, gc = w3.heap.size := ⟨_, rfl⟩
      rw [← hgc] at HX ⊢
      clear hwA hgc HB3
      cases p5 with
      | false =>
        have HE := Aside0.mk (show E = 5 from by rw [HOP2.out, if_neg (by rintro ⟨h, _⟩; cases h)])
        clear HOP2
        go_quiet (fail)
        go_wp2
        go_ret2
        exact ⟨(HOR.out _ _).2 (.inl ⟨by rw [HE.out]; decide, by rw [HE.out]; rfl⟩), by repeat (first | (with_reducible first | exact HBA.out | apply below_alloc | apply pw_below_drewN | apply below_drew1) | exact HBA.out)⟩
      | true =>
        have y2 := (blk_cell HX.out 2).trans rfl
        have step : ∀ (P : Prop), P → P := fun _ h => h
        by_cases hN : p3 = (N : Int)
        · have h1 := HOP2.out
          rw [if_pos ⟨rfl, hN⟩] at h1
          have HOP3 := Aside0.mk h1
          subst hN
          have q1 : ((N : Int) != (N : Int)) = false := by simp
          clear h1 HOP2 step
          go_region_held3 (fun W' => W'.cell? ⟨gc, 2, none⟩ = some (.int .i64 (N : Int))) (go_keep) (first
            | (go_at_call 26; go_must (with_reducible refine (HPG.out _ (by repeat (first | (with_reducible first | exact HBA.out | apply below_alloc | apply pw_below_drewN | apply below_drew1) | exact HBA.out))).mono ?_); rintro e w4 ⟨rfl, hb⟩; have n0_ := Aside0.mk (below_step (by repeat (first | (with_reducible first | exact HBA.out | apply below_alloc | apply pw_below_drewN | apply below_drew1) | exact HBA.out)) hb); have n1_ := Aside0.mk ((hb.block _ (blk_lt HX.out)).trans HX.out); clear hb HBA HX; have HBA := n0_; have HX := n1_; clear n0_ n1_; have z2 := (blk_cell HX.out 2).trans rfl))
          have z1 := (blk_cell HX.out 1).trans rfl
          go_upto_region 13 with (go_at_call 47; (with_reducible refine (HRD.out _ HBA.out).mono ?_); rintro e w5 ⟨⟨v, u, ys, rfl, hv, hu, hpo, _⟩, hb⟩; have HB5 := Aside0.mk (below_step HBA.out hb); have HX5 := Aside0.mk ((hb.block _ (blk_lt HX.out)).trans HX.out); have HV := Aside0.mk (Kd.R_lower hv HBA.out.size); have HU := Aside0.mk (Kd.R_lower hu HBA.out.size); have HPO := Aside0.mk hpo; clear hb hv hu hpo HBA HX)
          clear z1
          obtain ⟨x0, x1, x2, _, _, _⟩ := Cr.cell3 HX5.out
          by_cases he : R.e = 0
          · have q2 : (R.e != 0) = false := by simpa using he
            have HE := Aside0.mk (show E = 0 from by rw [HOP3.out, he])
            have hv := HV.out
            rw [if_pos he] at hv
            have HV2 := Aside0.mk hv
            have HPO2 := Aside0.mk (HPO.out he)
            obtain ⟨A1, c1, e1⟩ := Kd.R_slice HV2.out
            obtain ⟨A2, c2, e2⟩ := Kd.R_slice HU.out
            subst e1 e2
            clear hv he HV HPO HOP3
            go_wp2
            go_ret2
            refine ⟨(HOR.out _ _).2 (.inr ⟨HE.out, w5.heap.size, _, _, ys, rfl, Cr.alloc_at rfl, HB5.out.size, Kd.R_alloc HV2.out _, Kd.R_alloc HU.out _, HPO2.out⟩), below_alloc HB5.out _⟩
          · have q2 : (R.e != 0) = true := by simpa using he
            have HE := Aside0.mk HOP3.out
            have HNE := Aside0.mk he
            clear he HOP3
            go_wp2
            go_ret2
            exact ⟨(HOR.out _ _).2 (.inl ⟨by rw [HE.out]; exact HNE.out, by rw [HE.out]; rfl⟩), HB5.out⟩
        · have HE := Aside0.mk (show E = 5 from by rw [HOP2.out, if_neg (fun h => hN h.2)])
          have q1 : (p3 != (N : Int)) = true := by simpa using hN
          clear HOP2 step hN
          go_region_held3 (fun W' => W'.cell? ⟨gc, 2, none⟩ = some (.int .i64 p3)) (go_keep) (first
            | (go_at_call 26; go_must (with_reducible refine (HPG.out _ (by repeat (first | (with_reducible first | exact HBA.out | apply below_alloc | apply pw_below_drewN | apply below_drew1) | exact HBA.out))).mono ?_); rintro e w4 ⟨rfl, hb⟩; have n0_ := Aside0.mk (below_step (by repeat (first | (with_reducible first | exact HBA.out | apply below_alloc | apply pw_below_drewN | apply below_drew1) | exact HBA.out)) hb); have n1_ := Aside0.mk ((hb.block _ (blk_lt HX.out)).trans HX.out); clear hb HBA HX; have HBA := n0_; have HX := n1_; clear n0_ n1_; have z2 := (blk_cell HX.out 2).trans rfl))
          all_goals
            go_wp2
            go_ret2
            exact ⟨(HOR.out _ _).2 (.inl ⟨by rw [HE.out]; decide, by rw [HE.out]; rfl⟩), by repeat (first | (with_reducible first | exact HBA.out | apply below_alloc | apply pw_below_drewN | apply below_drew1) | exact HBA.out)⟩
    · have HE := Aside0.mk (show E = b2 from by rw [HOP1.out, if_neg hb])
      have q1 : (b2 != 0) = true := by simpa using hb
      have HNE := Aside0.mk hb
      clear HOP1 hb
      go_wp2_with (go_at_call 39; (with_reducible refine (HL1.out _ HB1.out).mono ?_); rintro e w2 ⟨rfl, hb⟩; have HB2 := Aside0.mk (below_step HB1.out hb); clear hb HB1)
      go_ret2
      exact ⟨(HOR.out _ _).2 (.inl ⟨by rw [HE.out]; exact HNE.out, by rw [HE.out]; rfl⟩), HB2.out⟩
  · have HE := Aside0.mk (show E = a2 from by rw [HOP.out, if_neg ha])
    have q1 : (a2 != 0) = true := by simpa using ha
    have HNE := Aside0.mk ha
    clear HOP ha
    go_wp2_with (go_at_call 39; (with_reducible refine (HL0.out _ HB.out).mono ?_); rintro e w1 ⟨rfl, hb⟩; have HB1 := Aside0.mk (below_step HB.out hb); clear hb HB)
    go_ret2
    exact ⟨(HOR.out _ _).2 (.inl ⟨by rw [HE.out]; exact HNE.out, by rw [HE.out]; rfl⟩), HB1.out⟩
end Go.Proofs.YtdhaoaehboonpaaGreat.V
end
section
namespace Go.Proofs.YtdhaoaehboonpaaGreat.V
open Go.RowKit Go.Proofs.YtdhaoaehboonpaaGreatW.PrintWords Go.Proofs.YtdhaoaehboonpaaGreatW.PrintLast Go.Proofs.YtdhaoaehboonpaaGreatW.PrintMore Go.Proofs.YtdhaoaehboonpaaGreatM
set_option linter.unusedVariables false
set_option linter.unusedSimpArgs false
theorem freeL_nil (m : Nat) : freeL m [] = pgs m := by
  unfold freeL
  rw [List.filter_eq_self]
  intro x _
  rfl
theorem pgs_nodup (m : Nat) : (pgs m).Nodup := by
  unfold pgs List.Nodup
  rw [List.pairwise_map]
  exact List.nodup_range.imp (fun h e => h (by omega))
theorem freeL_nodup (m : Nat) (live : List R2) : (freeL m live).Nodup := (pgs_nodup m).filter _
theorem freeL_mem {m : Nat} {live : List R2} {x : Int} : x ∈ freeL m live ↔ (2 ≤ x ∧ x < (m : Int) + 2) ∧ ∀ y ∈ live, y.1 ≠ x := by
  unfold freeL
  rw [List.mem_filter, pgs_mem]
  refine and_congr_right (fun _ => ?_)
  unfold notIn
  rw [Bool.not_eq_true', List.any_eq_false]
  unfold isPg
  simp
theorem plan_out {l hv : List R2} {fr : List Int} (h : (planE l hv fr).2.2 = 0) : ∀ x ∈ (planE l hv fr).1, x.1 ∈ fr := by
  intro x hx
  rw [(planE_ok h).2.2.2.2] at hx
  have hp := (plan_inv l hv fr).pages
  rw [← hp]
  exact List.mem_append.2 (.inl (List.mem_map_of_mem hx))
theorem plan_apart {l hv : List R2} {fr : List Int} (h : (planE l hv fr).2.2 = 0) (hf : fr.Nodup) : (planE l hv fr).1.Pairwise fun p q => p.1 ≠ q.1 := by
  rw [(planE_ok h).2.2.2.2]; exact out_apart hf
theorem plan_rootmem {l hv : List R2} {fr : List Int} (h : (planE l hv fr).2.2 = 0) : ∃ b, ((planE l hv fr).2.1, b) ∈ hv ++ (planE l hv fr).1 := by
  obtain ⟨h1, h2, h3, h4, h5⟩ := planE_ok h
  have hkn : (planZ l hv fr).2.known (indexE (planT l hv fr).1).1 = some (planZ l hv fr).1 := put_known h4
  refine ⟨(indexE (planT l hv fr).1).1, ?_⟩
  have e1 : (planE l hv fr).2.1 = (planZ l hv fr).1 := by rw [h5]
  have e2 : (planE l hv fr).1 = (planZ l hv fr).2.out := by rw [h5]
  rw [e1, e2]
  have hk2 : (planZ l hv fr).2.known = knF (hv ++ (planZ l hv fr).2.out) := planZ_kn l hv fr
  rw [hk2] at hkn
  exact knF_mem _ _ _ hkn
theorem nodup_le : ∀ (k : Nat) (l : List Int), l.Nodup → (∀ x ∈ l, 2 ≤ x ∧ x < (k : Int) + 2) → l.length ≤ k := by
  intro k l h1 h2
  have := nodup_len l (pgs k) h1 (fun x hx => pgs_mem.2 (h2 x hx))
  rwa [pgs_length] at this
structure Std (S : VP.PS) (N : Nat) (k : Nat) : Prop where
  halted : S.halted = false
  room : S.halts = false ∨ (k : Int) ≤ S.after
  small : 0 ≤ S.after ∧ S.after ≤ 9223372036854775807
  pages : VP.pagesOk S
  len : S.safe.length = N
theorem Std.store {S : VP.PS} {N k : Nat} (h : Std S N (k + 1)) {n : Int} {b : ByteArray} (h0 : 0 ≤ n) (h1 : n < N) (hb : b.size = 128) :
    VP.storeE S n b = 0 ∧ VP.storeS S n b = { S with after := max (S.after - 1) 0, afl := S.afl ++ [⟨n, b⟩], last := VP.upd S.last n b } ∧ Std (VP.storeS S n b) N k := by
  have hm : VP.mayE S n = 0 := by
    unfold VP.mayE
    rw [h.halted, if_neg (by decide), if_neg (by omega), if_neg (by rw [h.len]; omega)]
  have hw : wrap64 (S.after - 1) = S.after - 1 := by have := h.small; unfold wrap64; omega
  have hnot : ¬ (S.halts = true ∧ S.after = 0) := by
    rintro ⟨a, b⟩
    rcases h.room with c | c
    · rw [a] at c; cases c
    · omega
  have e1 : VP.storeE S n b = 0 := by
    unfold VP.storeE
    rw [if_pos hm, if_pos hb]
    by_cases hh : S.halts = true
    · rw [if_pos hh, if_neg (fun e => hnot ⟨hh, e⟩)]
    · rw [if_neg hh]
  have e2 : VP.storeS S n b = { S with after := max (S.after - 1) 0, afl := S.afl ++ [⟨n, b⟩], last := VP.upd S.last n b } := by
    unfold VP.storeS
    rw [if_pos hm, if_pos hb, if_neg hnot, hw]
  refine ⟨e1, e2, ?_⟩
  have hp := storeS_pages h.pages (n := n) (b := b)
  rw [e2] at hp ⊢
  refine ⟨h.halted, ?_, ?_, hp.1, h.len⟩
  · rcases h.room with c | c
    · exact .inl c
    · refine .inr ?_
      show (k : Int) ≤ max (S.after - 1) 0
      omega
  · show 0 ≤ max (S.after - 1) 0 ∧ max (S.after - 1) 0 ≤ 9223372036854775807
    have := h.small; omega
def putL (sf : List ByteArray) (l : List R2) : List ByteArray := l.foldl (fun sf x => sf.set x.1.toNat x.2) sf
theorem putL_len (sf : List ByteArray) (l : List R2) : (putL sf l).length = sf.length := by
  unfold putL
  induction l generalizing sf with
  | nil => rfl
  | cons x t ih => rw [List.foldl_cons, ih, List.length_set]
theorem putL_other : ∀ (l : List R2) (sf : List ByteArray) (n : Nat), (∀ x ∈ l, x.1.toNat ≠ n) → (putL sf l)[n]? = sf[n]?
  | [], sf, n, _ => rfl
  | x :: t, sf, n, h => by
    show (putL (sf.set x.1.toNat x.2) t)[n]? = _
    rw [putL_other t _ n (fun y hy => h y (List.mem_cons_of_mem _ hy)), List.getElem?_set_ne (h x List.mem_cons_self)]
theorem putL_at : ∀ (l : List R2) (sf : List ByteArray), (l.Pairwise fun p q => p.1 ≠ q.1) → (∀ x ∈ l, 0 ≤ x.1 ∧ x.1 < sf.length) → ∀ x ∈ l, (putL sf l)[x.1.toNat]? = some x.2
  | [], sf, _, _, x, hx => (List.not_mem_nil hx).elim
  | y :: t, sf, h, hr, x, hx => by
    obtain ⟨h1, h2⟩ := List.pairwise_cons.1 h
    show (putL (sf.set y.1.toNat y.2) t)[x.1.toNat]? = some x.2
    rcases List.mem_cons.1 hx with rfl | hx
    · have hb := hr x List.mem_cons_self
      rw [putL_other t _ _ (fun z hz e => h1 z hz (by have := hr z (List.mem_cons_of_mem _ hz); omega)), List.getElem?_set_self (by omega)]
    · exact putL_at t _ h2 (fun z hz => by rw [List.length_set]; exact hr z (List.mem_cons_of_mem _ hz)) x hx
theorem wr_ok {N : Nat} : ∀ (l : List R2) {S : VP.PS} {k : Nat}, Std S N (k + l.length) → (∀ x ∈ l, goodW N x) → wrE S l = 0 ∧ Std (wrS S l) N k ∧ (wrS S l).safe = S.safe ∧ (wrS S l).afl = S.afl ++ l.map (fun x => ⟨x.1, x.2⟩) ∧ (wrS S l).halts = S.halts ∧ (wrS S l).after = max (S.after - l.length) 0
  | [], S, k, h, _ => ⟨rfl, h, rfl, (List.append_nil _).symm, rfl, by have := h.small; show S.after = max (S.after - ((0 : Nat) : Int)) 0; omega⟩
  | x :: t, S, k, h, hg => by
    obtain ⟨⟨g1, g2⟩, g3⟩ := hg x List.mem_cons_self
    have h' : Std S N (k + t.length + 1) := by rw [List.length_cons] at h; exact h
    obtain ⟨e1, e2, e3⟩ := h'.store g1 g2 g3
    obtain ⟨a1, a2, a3, a4, a5, a6⟩ := wr_ok t e3 (fun y hy => hg y (List.mem_cons_of_mem _ hy))
    have f1 : wrE S (x :: t) = wrE (VP.storeS S x.1 x.2) t := by show (if _ then _ else _) = _; rw [if_pos e1]
    have f2 : wrS S (x :: t) = wrS (VP.storeS S x.1 x.2) t := by show (if _ then _ else _) = _; rw [if_pos e1]
    rw [f1, f2]
    refine ⟨a1, a2, a3.trans (by rw [e2]), ?_, a5.trans (by rw [e2]), ?_⟩
    · rw [a4, e2, List.map_cons, List.append_assoc]; rfl
    · rw [a6, e2, List.length_cons]
      show max (max (S.after - 1) 0 - (t.length : Int)) 0 = max (S.after - ((t.length + 1 : Nat) : Int)) 0
      have := h.small; omega
theorem seS_safe {S : VP.PS} {l : List R2} (h : S.afl = l.map (fun x => (⟨x.1, x.2⟩ : VP.S116))) : (VP.seS S).safe = putL S.safe l := by
  show VP.settled S S.afl.length = _
  unfold VP.settled putL
  rw [List.take_length, h, List.foldl_map]
theorem Std.settle {S : VP.PS} {N k : Nat} (h : Std S N k) : Std (VP.seS S) N k := ⟨h.halted, h.room, h.small, (seS_pages h.pages).1, (seS_pages h.pages).2.trans h.len⟩
theorem write_ok {S : VP.PS} {N : Nat} {l : List R2} {g r p : Int} (h : Std S N (1 + l.length)) (ha : S.afl = []) (hl : S.last = fun _ => none) (hN : 2 ≤ N) (hg : ∀ x ∈ l, goodW N x) :
    writeE S l g r p = 0 ∧ Std (writeS S l g r p) N 0 ∧ (writeS S l g r p).safe = (putL S.safe l).set (g % 2).toNat (Cr.encB g r p) ∧ (writeS S l g r p).afl = [] ∧ (writeS S l g r p).last = (fun _ => none) ∧ (writeS S l g r p).halts = S.halts ∧ (writeS S l g r p).after = max (S.after - l.length - 1) 0 := by
  obtain ⟨a1, a2, a3, a4, a5, a6⟩ := wr_ok l h hg
  rw [ha, List.nil_append] at a4
  have a2' := a2.settle
  obtain ⟨b1, b2, b3⟩ := a2'.store (k := 0) (n := g % 2) (b := Cr.encB g r p) (by omega) (by omega) (Cr.encB_size _ _ _)
  have e1 : writeE S l g r p = 0 := by unfold writeE; rw [if_pos a1]; exact b1
  have e2 : writeS S l g r p = VP.seS (VP.storeS (VP.seS (wrS S l)) (g % 2) (Cr.encB g r p)) := by unfold writeS; rw [if_pos a1, if_pos b1]
  rw [e1, e2]
  have hs : (VP.seS (wrS S l)).safe = putL S.safe l := by rw [seS_safe a4, a3]
  refine ⟨rfl, b3.settle, ?_, rfl, rfl, ?_, ?_⟩
  · rw [seS_safe (l := [(g % 2, Cr.encB g r p)]) (by rw [b2]; rfl)]
    rw [b2]
    show putL (VP.seS (wrS S l)).safe [(g % 2, Cr.encB g r p)] = _
    rw [hs]
    rfl
  · show (VP.storeS (VP.seS (wrS S l)) (g % 2) (Cr.encB g r p)).halts = _
    rw [b2]; exact a5
  · show (VP.storeS (VP.seS (wrS S l)) (g % 2) (Cr.encB g r p)).after = _
    rw [b2]
    show max ((wrS S l).after - 1) 0 = _
    rw [a6]; have := h.small; omega
end Go.Proofs.YtdhaoaehboonpaaGreat.V
end
section
namespace Go.Proofs.YtdhaoaehboonpaaGreat.V
open Go.RowKit Go.Proofs.YtdhaoaehboonpaaGreatW.PrintWords Go.Proofs.YtdhaoaehboonpaaGreatW.PrintLast Go.Proofs.YtdhaoaehboonpaaGreatW.PrintMore Go.Proofs.YtdhaoaehboonpaaGreatM
set_option linter.unusedVariables false
set_option linter.unusedSimpArgs false
theorem IsQ_lift {w0 w1 w : World} {g : Nat} {S : VP.PS} (h : VP.IsQ w1 w g S) (hb : Below w0.heap.size w0 w1) : VP.IsQ w0 w g S :=
  ⟨hb.trans (h.1.mono hb.size), (h.2.lower hb.size).mono (fun k hk => Nat.le_trans hb.size hk)⟩
theorem newS_std (n : Nat) (k : Nat) : Std (VP.newS n) n k :=
  ⟨rfl, .inl rfl, ⟨(by decide : (0 : Int) ≤ 0), (by decide : (0 : Int) ≤ 9223372036854775807)⟩, ⟨fun b hb => by obtain ⟨_, rfl⟩ := List.mem_replicate.1 hb; exact VP.zer_size _, fun p hp => by simp [VP.newS] at hp⟩, List.length_replicate⟩
def fmtS (n : Nat) (l : List R2) : VP.PS := writeS (VP.newS n) (planE l [] (pgs (n - 2))).1 1 (planE l [] (pgs (n - 2))).2.1 n
theorem plan_good {l hv : List R2} {fr : List Int} {n : Nat} (h : (planE l hv fr).2.2 = 0) (hf : ∀ x ∈ fr, 2 ≤ x ∧ x < (n : Int)) : ∀ x ∈ (planE l hv fr).1, goodW n x ∧ 2 ≤ x.1 := fun x hx => by
  have h1 := hf _ (plan_out h x hx)
  exact ⟨⟨⟨by omega, h1.2⟩, plan_full l hv fr x hx⟩, h1.1⟩
theorem fmt_root {l : List R2} {n : Nat} (hn : 8 ≤ n) (h : (planE l [] (pgs (n - 2))).2.2 = 0) : 2 ≤ (planE l [] (pgs (n - 2))).2.1 ∧ (planE l [] (pgs (n - 2))).2.1 < (n : Int) := by
  obtain ⟨b, hb⟩ := plan_rootmem h
  rw [List.nil_append] at hb
  have h1 := plan_good (n := n) h (fun x hx => by have := pgs_mem.1 hx; omega) _ hb
  exact ⟨h1.2, h1.1.1.2⟩
theorem fmt_ok {l : List R2} {n : Nat} (h : 8 ≤ n) (h2 : n ≤ 200) (hp : (planE l [] (pgs (n - 2))).2.2 = 0) : Cr.okC 1 (planE l [] (pgs (n - 2))).2.1 n = true := by
  obtain ⟨h3, h4⟩ := fmt_root h hp
  exact Cr.okC_iff.2 ⟨by decide, by decide, by omega, by omega, h3, h4⟩
def FmtR (w : World) (n : Int) (l : List R2) (e : Ending) (w' : World) : Prop :=
  ((n < 8 ∨ 200 < n) ∧ e = .returned (.tuple #[.pointer none, .int .i64 9])) ∨
  ((8 ≤ n ∧ n ≤ 200) ∧ (planE l [] (pgs (n.toNat - 2))).2.2 ≠ 0 ∧ e = .returned (.tuple #[.pointer none, .int .i64 (planE l [] (pgs (n.toNat - 2))).2.2])) ∨
  ((8 ≤ n ∧ n ≤ 200) ∧ (planE l [] (pgs (n.toNat - 2))).2.2 = 0 ∧ ∃ g, e = .returned (.tuple #[.pointer (some ⟨g, 0, none⟩), .int .i64 0]) ∧ VP.IsQ w w' g (fmtS n.toNat l))
set_option maxHeartbeats 8000000 in
set_option maxRecDepth 100000 in
theorem format_any (w : World) (n : Int) (A : Option Addr) (c : Nat) (l : List R2) (h : Kd.C kR w A l.length l) (hc : l.length ≤ c) (hl : l.length ≤ 9000) :
    Calls Tryz.prog 12 #[.int .i64 n, .slice A l.length c] w fun e w' => FmtR w n l e w' ∧ Below w.heap.size w w' := by
  have HB := Aside0.mk (Below.refl w.heap.size w)
  have hFR : ∀ e w', FmtR w n l e w' ↔ (((n < 8 ∨ 200 < n) ∧ e = .returned (.tuple #[.pointer none, .int .i64 9])) ∨
  ((8 ≤ n ∧ n ≤ 200) ∧ (planE l [] (pgs (n.toNat - 2))).2.2 ≠ 0 ∧ e = .returned (.tuple #[.pointer none, .int .i64 (planE l [] (pgs (n.toNat - 2))).2.2])) ∨
  ((8 ≤ n ∧ n ≤ 200) ∧ (planE l [] (pgs (n.toNat - 2))).2.2 = 0 ∧ ∃ g, e = .returned (.tuple #[.pointer (some ⟨g, 0, none⟩), .int .i64 0]) ∧ VP.IsQ w w' g (fmtS n.toNat l))) := fun _ _ => Iff.rfl
  obtain ⟨FR, hFRd⟩ : ∃ OR, OR = FmtR w n l := ⟨_, rfl⟩
  rw [← hFRd] at hFR ⊢
  have HFR := Aside0.mk hFR
  obtain ⟨ln, hln⟩ : ∃ x, x = l.length := ⟨_, rfl⟩
  by_cases h8 : n < 8
  · have d1 : decide (n < 8) = true := decide_eq_true h8
    have HN := Aside0.mk h8
    rw [← hln]
    clear hFR hFRd h hc hl h8 hln
    go_enter Tryz.func12, Tryz.ntmps12
    go_wp2
    go_ret2
    exact ⟨(HFR.out _ _).2 (.inl ⟨.inl HN.out, rfl⟩), HB.out⟩
  · have d1 : decide (n < 8) = false := decide_eq_false h8
    by_cases h200 : 200 < n
    · have d2 : decide (200 < n) = true := decide_eq_true h200
      have HN := Aside0.mk h200
      rw [← hln]
      clear hFR hFRd h hc hl h8 h200 hln
      go_enter Tryz.func12, Tryz.ntmps12
      go_wp2
      go_ret2
      exact ⟨(HFR.out _ _).2 (.inl ⟨.inr HN.out, rfl⟩), HB.out⟩
    · have d2 : decide (200 < n) = false := decide_eq_false h200
      obtain ⟨m, rfl⟩ : ∃ m : Nat, n = ((m + 2 : Nat) : Int) := ⟨(n - 2).toNat, by omega⟩
      have em : ((m + 2 : Nat) : Int).toNat - 2 = m := by omega
      have em2 : ((m + 2 : Nat) : Int).toNat = m + 2 := by omega
      have hm6 : 6 ≤ m := by omega
      have hm198 : m ≤ 198 := by omega
      have hfr := fun (W : World) => free_any W m (by omega) none 0 [] (Kd.C_nil _ _) (by simp)
      rw [freeL_nil] at hfr
      simp only [List.length_nil] at hfr
      have hcast : ((m : Int) + 2) = ((m + 2 : Nat) : Int) := by omega
      rw [hcast] at hfr
      have HF := Aside0.mk hfr
      have hpl := fun (W : World) (hb : Below w.heap.size w W) (D : Option Addr) (f : Nat) (h3 : Kd.C (Kd.int .i64) W D (pgs m).length (pgs m)) (hf : (pgs m).length ≤ f) => plan_any W A c l none 0 [] D f (pgs m) (Kd.C_below h hb) hc hl (Kd.C_nil _ _) (Nat.le_refl _) (by simp) (by intro x hx; cases hx) h3 hf (by rw [pgs_length]; omega)
      simp only [pgs_length, List.length_nil] at hpl
      have hroot := @fmt_ok l (m + 2) (by omega) (by omega)
      have hgood := @plan_good l [] (pgs m) (m + 2)
      have hlen := planE_len l [] (pgs m)
      rw [pgs_length] at hlen
      have hFR := HFR.out
      rw [em, em2] at hFR
      have hfm : fmtS (m + 2) l = writeS (VP.newS (m + 2)) (planE l [] (pgs m)).1 1 (planE l [] (pgs m)).2.1 (m + 2 : Nat) := rfl
      rw [show m + 2 - 2 = m from rfl] at hroot
      obtain ⟨⟨O, rt, ec⟩, hP⟩ : ∃ P, P = planE l [] (pgs m) := ⟨_, rfl⟩
      rw [← hP] at hpl hroot hgood hlen hFR hfm
      simp only [] at hpl hroot hgood hlen hFR hfm
      have HFR2 := Aside0.mk hFR
      have HPL := Aside0.mk hpl
      have HM := Aside0.mk (And.intro hm6 hm198)
      have HLEN := Aside0.mk hlen
      have HGOOD := Aside0.mk (fun (h0 : ec = 0) => hgood h0 (fun x hx => by have := pgs_mem.1 hx; omega))
      have HROOT := Aside0.mk hroot
      have HFM := Aside0.mk hfm
      rw [← hln] at HPL ⊢
      clear hFRd h hc hl h8 h200 hln hfr hpl hroot hgood hlen hFR hfm hP HFR hm6 hm198 em em2
      have d1 : decide ((((m + 2 : Nat) : Int)) < 8) = false := d1
      obtain ⟨N, hN⟩ : ∃ N, N = m + 2 := ⟨_, rfl⟩
      rw [← hN] at d1 d2 HF HFR2 HROOT HGOOD HFM ⊢
      have HNM := Aside0.mk hN
      have HNEW := Aside0.mk (fun (W : World) => VP.new_any W N (by have := HM.out; omega) (by have := HM.out; omega))
      clear hN hcast
      go_enter Tryz.func12, Tryz.ntmps12
      go_upto_region 4 with (first
        | (go_at_call 43; (with_reducible refine (HF.out _).mono ?_); rintro e w1 ⟨v1, rfl, hr, hb⟩; obtain ⟨D, f, ev⟩ := Kd.R_slice hr; rw [pgs_length] at ev; subst ev; have HB1 := Aside0.mk (below_step HB.out hb); have HPC := Aside0.mk (HPL.out _ HB1.out D f (by have := (Kd.R_reads' hr).2.2; rwa [pgs_length] at this) (Kd.R_reads' hr).2.1); clear hr hb HB HF HPL)
        | (go_at_call 42; (with_reducible refine (HPC.out).mono ?_); rintro e w2 ⟨v2, rfl, hr, hb⟩; have HR2 := Aside0.mk (Kd.R_lower hr HB1.out.size); have HB2 := Aside0.mk (below_step HB1.out hb); clear hr hb HB1 HPC))
      by_cases he : ec = 0
      · subst he
        have hok := HROOT.out rfl
        have hgd := HGOOD.out rfl
        obtain ⟨A2, c2, ev⟩ := Kd.R_slice HR2.out
        subst ev
        have hw := fun (W : World) (g : Nat) (hq : VP.IsQ w W g (VP.newS N)) (hr : kR.R 106 W w.heap.size (fun _ => True) (.slice A2 O.length c2) O) => vwrite_any hq rfl (newS_std N 0).pages A2 c2 O (by show 0 + O.length ≤ 900; have := HLEN.out; have := HM.out; omega) hr (fun x hx => by have h1 := (hgd x hx).1.1; have := HM.out; have := HNM.out; exact wfI_small (by omega) (by omega)) 1 rt N hok
        have hwok := write_ok (S := VP.newS N) (N := N) (l := O) (g := 1) (r := rt) (p := N) (newS_std N _) rfl rfl (by have := HNM.out; omega) (fun x hx => (hgd x hx).1)
        rw [hwok.1] at hw
        rw [← HFM.out] at hw
        have HW := Aside0.mk hw
        obtain ⟨lo, hlo⟩ : ∃ lo, lo = O.length := ⟨_, rfl⟩
        rw [← hlo] at HW HR2 ⊢
        clear hok hgd hw hwok HROOT HGOOD hlo
        go_upto_region 7 with (go_at_call 44; (with_reducible refine (HNEW.out _).mono ?_); rintro e w3 ⟨g, rfl, hi3, hb3⟩; have HQ3 := Aside0.mk (show VP.IsQ w w3 g (VP.newS N) from ⟨below_step HB2.out hb3, (hi3.lower HB2.out.size).mono (fun k hk => Nat.le_trans HB2.out.size hk)⟩); have HR3 := Aside0.mk (Kd.R_below HR2.out hb3); clear hi3 hb3 HB2 HR2 HNEW)
        go_wp2_with (go_at_call 45; (with_reducible refine (HW.out _ _ HQ3.out HR3.out).mono ?_); rintro e w4 ⟨rfl, hq4, _⟩; have HQ4 := Aside0.mk hq4; clear hq4 HQ3 HR3)
        go_ret2
        exact ⟨(HFR2.out _ _).2 (.inr (.inr ⟨by have := HM.out; have := HNM.out; omega, by trivial, g, rfl, HQ4.out⟩)), HQ4.out.1⟩
      · have q1 : (ec != 0) = true := by simpa using he
        have HNE := Aside0.mk he
        clear he
        go_wp2
        go_ret2
        exact ⟨(HFR2.out _ _).2 (.inr (.inl ⟨by have := HM.out; have := HNM.out; omega, HNE.out, rfl⟩)), HB2.out⟩
end Go.Proofs.YtdhaoaehboonpaaGreat.V
end
section
namespace Go.Proofs
def Tryz.clW_ren : Go.Shelf.Ren := ⟨fun | 41 => 48 | n => n, fun | 22 => 91 | 23 => 106 | 4 => 4 | n => n, fun | n => n⟩
theorem Tryz.clW : Go.Proofs.SlLaysE0.n41 Tryz.prog Tryz.clW_ren := {
  mixed := by kernel_rfl
  f41 := ⟨Tryz.f48.name, by decide, Tryz.func48.trans (congrArg some (by kernel_rfl))⟩
  t4 := Tryz.underlying4
  a4 := Tryz.isAgg4
  z4 := Tryz.sizeOf4
  v4 := Tryz.zeroValue4
  t22 := Tryz.underlying91
  a22 := Tryz.isAgg91
  z22 := Tryz.sizeOf91
  v22 := Tryz.zeroValue91 }
def Tryz.clR_ren : Go.Shelf.Ren := ⟨fun | 41 => 52 | n => n, fun | 22 => 31 | 23 => 50 | 4 => 4 | n => n, fun | n => n⟩
theorem Tryz.clR : Go.Proofs.SlLaysE0.n41 Tryz.prog Tryz.clR_ren := {
  mixed := by kernel_rfl
  f41 := ⟨Tryz.f52.name, by decide, Tryz.func52.trans (congrArg some (by kernel_rfl))⟩
  t4 := Tryz.underlying4
  a4 := Tryz.isAgg4
  z4 := Tryz.sizeOf4
  v4 := Tryz.zeroValue4
  t22 := Tryz.underlying31
  a22 := Tryz.isAgg31
  z22 := Tryz.sizeOf31
  v22 := Tryz.zeroValue31 }
end Go.Proofs
namespace Go.Proofs.YtdhaoaehboonpaaGreat.V
open Go.RowKit Go.Proofs.YtdhaoaehboonpaaGreatW.PrintWords Go.Proofs.YtdhaoaehboonpaaGreatW.PrintLast Go.Proofs.YtdhaoaehboonpaaGreatW.PrintMore Go.Proofs.YtdhaoaehboonpaaGreatM
set_option linter.unusedVariables false
set_option linter.unusedSimpArgs false
theorem info_at {t : Nat} (e : (Tryz.prog.info? t).map (fun i => (i.zero, i.size, i.bytes)) = some (some (.agg #[(.int .i64 0), (.string ⟨#[]⟩)]), 2, 24)) : ∃ i, Tryz.prog.info? t = some i ∧ i.zero = some (.agg #[(.int .i64 0), (.string ⟨#[]⟩)]) ∧ i.size = 2 ∧ i.bytes = 24 := by
  cases h : Tryz.prog.info? t with
  | none => rw [h] at e; cases e
  | some i =>
    rw [h] at e
    simp at e
    exact ⟨i, rfl, e.1, e.2.1, e.2.2⟩
theorem size_106 : ∀ w, (Go.sizeOf 106).run Tryz.prog w = .ok 2 w := fun w => by kernel_rfl
theorem size_50 : ∀ w, (Go.sizeOf 50).run Tryz.prog w = .ok 2 w := fun w => by kernel_rfl
theorem clone_at {f t e : Nat} {ren : Go.Shelf.Ren}
    (hnil : ∀ w, Calls Tryz.prog f #[.slice none 0 0] w fun e w' => e = .returned (.slice none 0 0) ∧ w' = w)
    (hone : ∀ (g cap n : Nat) (inner : List Value) (w : World), inner.length = n * 2 → n ≤ 1000000 → (∀ (j : Nat) (u : Value), inner[j]? = some u → w.cell? ⟨g, 0 + j, none⟩ = some u) → (∀ u ∈ inner, (∃ k x, u = .int k x) ∨ ∃ s, u = .string s) → Calls Tryz.prog f #[.slice (some ⟨g, 0, none⟩) n cap] w fun e' w' => ∃ v', e' = .returned v' ∧ w'.ownsRow w.heap.size e 2 v' n inner ∧ Below w.heap.size w w')
    {w : World} {base : Nat} {F : Nat → Prop} {v : Value} {xs : List R2} (h : kR.R e w base F v xs) (hl : xs.length ≤ 1000000) :
    Calls Tryz.prog f #[v] w fun e' w' => ∃ v', e' = .returned v' ∧ kR.R e w' w.heap.size (fun _ => True) v' xs ∧ Below w.heap.size w w' := by
  obtain ⟨h0, inner, hown, hr⟩ := h
  obtain ⟨hlen, hnl | ⟨g, cap, cur, rfl, hg, hh, hcap, hmax, hsz, htk⟩⟩ := hown
  · obtain ⟨rfl, hx⟩ := hnl
    have hx0 : xs = [] := by first | exact hx | exact hx.1 | (exact List.eq_nil_of_length_eq_zero hx) | (exact List.eq_nil_of_length_eq_zero hx.1)
    subst hx0
    refine (hnil w).mono ?_
    rintro e w' ⟨rfl, rfl⟩
    exact ⟨_, rfl, Kd.R_nil _ _ _ _ _, Below.refl _ _⟩
  · have e2 : kR.sz = 2 := rfl
    rw [e2] at hlen hsz htk
    refine (hone g cap xs.length inner w hlen hl ?_ ?_).mono ?_
    · intro j u hu
      rw [Nat.zero_add, blk_cell hh]
      have : (cur.toList.take (xs.length * 2))[j]? = some u := by rw [htk]; exact hu
      rw [List.getElem?_take] at this
      split at this
      · simpa using this
      · cases this
    · intro u hu
      obtain ⟨j, hj⟩ := List.getElem?_of_mem hu
      have hj2 : j < xs.length * 2 := by
        have := (List.getElem?_eq_some_iff.1 hj).1
        omega
      have hp := hr.2 (j / 2) _ (List.getElem?_eq_getElem (show j / 2 < xs.length by omega))
      have hc := kR_openM hp
      have hu2 : ((inner.drop (j / 2 * kR.sz)).take kR.sz)[j % 2]? = some u := by
        rw [e2, List.getElem?_take, if_pos (by omega), List.getElem?_drop, show j / 2 * 2 + j % 2 = j by omega]
        exact hj
      rw [hc] at hu2
      have := List.mem_of_getElem? hu2
      simp at this
      rcases this with rfl | rfl
      · exact .inl ⟨_, _, rfl⟩
      · exact .inr ⟨_, rfl⟩
    · rintro e w' ⟨v', rfl, ho, hb⟩
      refine ⟨v', rfl, ⟨fun _ _ => trivial, inner, ho, hr.imp_ ?_⟩, hb⟩
      intro x cs hx
      rw [kR_openM hx]
      exact kR_mkM _ _ _ _
theorem cloneW {w : World} {base : Nat} {F : Nat → Prop} {v : Value} {xs : List R2} (h : kR.R 106 w base F v xs) (hl : xs.length ≤ 1000000) :
    Calls Tryz.prog 48 #[v] w fun e' w' => ∃ v', e' = .returned v' ∧ kR.R 106 w' w.heap.size (fun _ => True) v' xs ∧ Below w.heap.size w w' := by
  obtain ⟨i0, hi, hz0, hz1, hz2⟩ := info_at info106
  refine clone_at (f := 48) (t := 91) (ren := Tryz.clW_ren) (fun w => Go.Proofs.AnyE.slices_Clone_nil Go.Proofs.Tryz.clW 0 0 w) (fun g cap n inner w h1 h2 h3 h4 => ?_) h hl
  refine (Go.Proofs.AnyE.slices_Clone Go.Proofs.Tryz.clW i0 _ 2 24 hi hz0 hz1 hz2 rfl (by decide) size_106 g 0 n cap inner w h1 (by unfold maxLen; omega) (by omega) h3 (fun u hu => by rcases h4 u hu with ⟨k, x, rfl⟩ | ⟨s, rfl⟩ <;> rfl)).mono ?_
  rintro e w' ⟨v', rfl, ho, hne, hb⟩
  exact ⟨v', rfl, ho, hb⟩
theorem cloneR {w : World} {base : Nat} {F : Nat → Prop} {v : Value} {xs : List R2} (h : kR.R 50 w base F v xs) (hl : xs.length ≤ 1000000) :
    Calls Tryz.prog 52 #[v] w fun e' w' => ∃ v', e' = .returned v' ∧ kR.R 50 w' w.heap.size (fun _ => True) v' xs ∧ Below w.heap.size w w' := by
  obtain ⟨i0, hi, hz0, hz1, hz2⟩ := info_at info50
  refine clone_at (f := 52) (t := 31) (ren := Tryz.clR_ren) (fun w => Go.Proofs.AnyE.slices_Clone_nil Go.Proofs.Tryz.clR 0 0 w) (fun g cap n inner w h1 h2 h3 h4 => ?_) h hl
  refine (Go.Proofs.AnyE.slices_Clone Go.Proofs.Tryz.clR i0 _ 2 24 hi hz0 hz1 hz2 rfl (by decide) size_50 g 0 n cap inner w h1 (by unfold maxLen; omega) (by omega) h3 (fun u hu => by rcases h4 u hu with ⟨k, x, rfl⟩ | ⟨s, rfl⟩ <;> rfl)).mono ?_
  rintro e w' ⟨v', rfl, ho, hne, hb⟩
  exact ⟨v', rfl, ho, hb⟩
end Go.Proofs.YtdhaoaehboonpaaGreat.V
end
section
namespace Go.Proofs.YtdhaoaehboonpaaGreat.V
open Go.RowKit Go.Proofs.YtdhaoaehboonpaaGreatW.PrintWords Go.Proofs.YtdhaoaehboonpaaGreatW.PrintLast Go.Proofs.YtdhaoaehboonpaaGreatW.PrintMore Go.Proofs.YtdhaoaehboonpaaGreatM
set_option linter.unusedVariables false
set_option linter.unusedSimpArgs false
structure VS where
  P : VP.PS
  gen : Int
  root : Int
  pages : Nat
  recs : List R2
  live : List R2
  dead : Bool
def IsV (w0 w : World) (gv g : Nat) (V : VS) : Prop :=
  VP.IsQ w0 w g V.P ∧ ∃ lv vv, w.heap[gv]? = some (.cells #[.pointer (some ⟨g, 0, none⟩), .int .i64 V.gen, .int .i64 V.root, .int .i64 (V.pages : Int), lv, vv, .bool V.dead] 103 (0, 0)) ∧ w0.heap.size ≤ gv ∧ kR.R 50 w w0.heap.size (fun _ => True) lv V.recs ∧ kR.R 106 w w0.heap.size (fun _ => True) vv V.live
theorem cell103 {w : World} {g : Nat} {a b c d e f k : Value} (h : w.heap[g]? = some (.cells #[a, b, c, d, e, f, k] 103 (0, 0))) :
    w.cell? ⟨g, 0, none⟩ = some a ∧ w.cell? ⟨g, 1, none⟩ = some b ∧ w.cell? ⟨g, 2, none⟩ = some c ∧ w.cell? ⟨g, 3, none⟩ = some d ∧ w.cell? ⟨g, 4, none⟩ = some e ∧ w.cell? ⟨g, 5, none⟩ = some f ∧ w.cell? ⟨g, 6, none⟩ = some k :=
  ⟨(blk_cell h 0).trans rfl, (blk_cell h 1).trans rfl, (blk_cell h 2).trans rfl, (blk_cell h 3).trans rfl, (blk_cell h 4).trans rfl, (blk_cell h 5).trans rfl, (blk_cell h 6).trans rfl⟩
section
variable {w0 w w' : World} {gv g : Nat} {V : VS}
theorem IsV.below (h : IsV w0 w gv g V) (hb : Below w.heap.size w w') : IsV w0 w' gv g V := by
  obtain ⟨h1, lv, vv, h2, h3, h4, h5⟩ := h
  exact ⟨h1.below hb, lv, vv, (hb.block _ (blk_lt h2)).trans h2, h3, Kd.R_below h4 hb, Kd.R_below h5 hb⟩
theorem IsV.cells (h : IsV w0 w gv g V) : ∃ A c B d, w.heap[gv]? = some (.cells #[.pointer (some ⟨g, 0, none⟩), .int .i64 V.gen, .int .i64 V.root, .int .i64 (V.pages : Int), .slice A V.recs.length c, .slice B V.live.length d, .bool V.dead] 103 (0, 0)) ∧ kR.R 50 w w0.heap.size (fun _ => True) (.slice A V.recs.length c) V.recs ∧ kR.R 106 w w0.heap.size (fun _ => True) (.slice B V.live.length d) V.live := by
  obtain ⟨h1, lv, vv, h2, h3, h4, h5⟩ := h
  obtain ⟨A, c, rfl⟩ := Kd.R_slice h4
  obtain ⟨B, d, rfl⟩ := Kd.R_slice h5
  exact ⟨A, c, B, d, h2, h4, h5⟩
end
set_option maxHeartbeats 8000000 in
set_option maxRecDepth 100000 in
theorem gen_any {w0 w : World} {gv g : Nat} {V : VS} (h : IsV w0 w gv g V) :
    Calls Tryz.prog 16 #[.pointer (some ⟨gv, 0, none⟩)] w fun e w' => e = .returned (.int .i64 V.gen) ∧ Below w.heap.size w w' := by
  obtain ⟨A, c, B, d, h2, _⟩ := h.cells
  obtain ⟨c0, c1, c2, c3, c4, c5, c6⟩ := cell103 h2
  have HB := Aside0.mk (Below.refl w.heap.size w)
  clear h h2
  go_enter Tryz.func16, Tryz.ntmps16
  go_wp2
  go_ret
  exact ⟨rfl, HB.out⟩
set_option maxHeartbeats 8000000 in
set_option maxRecDepth 100000 in
theorem records_any {w0 w : World} {gv g : Nat} {V : VS} (h : IsV w0 w gv g V) (hl : V.recs.length ≤ 1000000) :
    Calls Tryz.prog 18 #[.pointer (some ⟨gv, 0, none⟩)] w fun e w' => ∃ v, e = .returned v ∧ kR.R 50 w' w.heap.size (fun _ => True) v V.recs ∧ Below w.heap.size w w' := by
  obtain ⟨A, c, B, d, h2, h3, _⟩ := h.cells
  obtain ⟨c0, c1, c2, c3, c4, c5, c6⟩ := cell103 h2
  have HC := Aside0.mk (cloneR h3 hl)
  obtain ⟨n, hn⟩ : ∃ n, n = V.recs.length := ⟨_, rfl⟩
  rw [← hn] at HC c4
  clear h h2 h3 hl hn
  go_enter Tryz.func18, Tryz.ntmps18
  go_wp2_with (go_at_call 52; (with_reducible refine (HC.out).mono ?_); rintro e w1 ⟨v, rfl, hr, hb⟩; have HR := Aside0.mk hr; have HB := Aside0.mk hb; clear hr hb)
  go_ret
  exact ⟨v, rfl, HR.out, HB.out⟩
set_option maxHeartbeats 8000000 in
set_option maxRecDepth 100000 in
theorem vfree_any {w0 w : World} {gv g : Nat} {V : VS} (h : IsV w0 w gv g V) {m : Nat} (hm : V.pages = m + 2) (hm2 : m ≤ 1000) (hl : V.live.length ≤ 1000000) :
    Calls Tryz.prog 23 #[.pointer (some ⟨gv, 0, none⟩)] w fun e w' => ∃ v, e = .returned v ∧ (Kd.int .i64).R 3 w' w.heap.size (fun _ => True) v (freeL m V.live) ∧ Below w.heap.size w w' := by
  obtain ⟨A, c, B, d, h2, _, h3⟩ := h.cells
  obtain ⟨c0, c1, c2, c3, c4, c5, c6⟩ := cell103 h2
  have hcast : ((V.pages : Nat) : Int) = (m : Int) + 2 := by rw [hm]; omega
  rw [hcast] at c3
  have HC := Aside0.mk (fun (W : World) (hb : Below w.heap.size w W) => free_any W m hm2 B d V.live (Kd.R_reads' (Kd.R_below h3 hb)).2.2 hl)
  obtain ⟨n, hn⟩ : ∃ n, n = V.live.length := ⟨_, rfl⟩
  rw [← hn] at HC c5
  have HD := Aside0.mk (below_drew (Below.refl w.heap.size w))
  clear h h2 h3 hl hn hm hcast
  go_enter Tryz.func23, Tryz.ntmps23
  go_upto_region 3 with (fail)
  go_still_tail 9, (by kernel_rfl)
  change wpList _ _ _ _ _ w.drew
  go_wp2_with (go_at_call 43; (with_reducible refine (HC.out _ HD.out).mono ?_); rintro e w1 ⟨v, rfl, hr, hb⟩; have HR := Aside0.mk hr; have HB := Aside0.mk (below_step HD.out hb); clear hr hb)
  go_ret
  exact ⟨v, rfl, HR.out, HB.out⟩
set_option maxHeartbeats 8000000 in
set_option maxRecDepth 100000 in
theorem live_any {w0 w : World} {gv g : Nat} {V : VS} (h : IsV w0 w gv g V) (hl : V.live.length ≤ 1000000) :
    Calls Tryz.prog 22 #[.pointer (some ⟨gv, 0, none⟩)] w fun e w' => ∃ v, e = .returned v ∧ (Kd.int .i64).R 3 w' w.heap.size (fun _ => True) v (V.live.map (·.1)) ∧ Below w.heap.size w w' := by
  obtain ⟨A, c, B, d, h2, _, h3⟩ := h.cells
  obtain ⟨c0, c1, c2, c3, c4, c5, c6⟩ := cell103 h2
  obtain ⟨l, hll⟩ : ∃ l, l = V.live := ⟨_, rfl⟩
  rw [← hll] at h3 c5 hl ⊢
  have HC := Aside0.mk (Kd.R_reads' h3).2.2
  obtain ⟨hv, hhv⟩ : ∃ hv, hv = l.map (·.1) := ⟨_, rfl⟩
  obtain ⟨n, hn⟩ : ∃ n, n = l.length := ⟨_, rfl⟩
  have HN := Aside0.mk hn
  have hvl : hv.length = n := by rw [hhv, List.length_map, hn]
  have HV := Aside0.mk hhv
  have HVL := Aside0.mk hvl
  rw [← hn] at HC c5 hl
  rw [← hhv]
  clear h h2 h3 hn hll hhv hvl
  go_enter Tryz.func22, Tryz.ntmps22
  go_wp2_with (fail)
  go_loopg [3, 13] n (fun kx v3 v13 wr => ∃ i : Nat, v13 = .int .i64 i ∧ Aside0 (i + kx = n) ∧ Aside0 ((Kd.int .i64).R 3 wr w.heap.size (fun k => w.heap.size ≤ k) v3 (hv.take i)) ∧ Aside0 (Below w.heap.size w wr))
  case atStart => exact ⟨0, rfl, ⟨by omega⟩, ⟨Kd.R_nil _ _ _ _ _⟩, ⟨Below.refl _ _⟩⟩
  case round =>
    obtain ⟨i, rfl, HI, HR, HB⟩ := hrel
    cases gk with
    | zero =>
      have hi : i = n := by have := HI.out; omega
      subst hi
      have d1 : decide ((i : Int) < (i : Int)) = false := decide_eq_false (by omega)
      have d2 : decide (i < i) = false := decide_eq_false (by omega)
      have hR := HR.out
      rw [List.take_of_length_le (by have := HVL.out; omega)] at hR
      have HR2 := Aside0.mk hR
      clear hR
      go_wp2_with (fail)
      go_ret
      exact ⟨_, rfl, Kd.R_mono HR2.out (fun _ _ => trivial), HB.out⟩
    | succ gk =>
      have hi : i < n := by have := HI.out; omega
      have hil : i < l.length := by have := HN.out; omega
      have d1 : decide ((i : Int) < (n : Int)) = true := decide_eq_true (by omega)
      have d2 : decide (i < n) = true := decide_eq_true hi
      have d3 : (i < n) = True := eq_true hi
      have d4 : ((i : Int) < (n : Int)) = True := eq_true (by omega)
      have d5 : (0 ≤ (i : Int)) = True := eq_true (by omega)
      obtain ⟨ad, rfl, x0, x1⟩ := at_R (Kd.C_below HC.out HB.out) i hi
      have hvi : hv.take (i + 1) = hv.take i ++ [(atR l i).1] := by
        rw [List.take_succ_eq_append_getElem (by have := HVL.out; omega)]
        congr 2
        simp only [HV.out, List.getElem_map]
        unfold atR
        simp [List.getD, hil]
      obtain ⟨a, ha⟩ : ∃ a, a = (atR l i).1 := ⟨_, rfl⟩
      obtain ⟨b, hb⟩ : ∃ b, b = (atR l i).2 := ⟨_, rfl⟩
      rw [← ha] at x0 hvi
      rw [← hb] at x1
      have HVI := Aside0.mk hvi
      have hlt : (hv.take i).length ≤ 1000000 := by rw [List.length_take]; omega
      clear hvi ha hb hil
      go_wp2_with (first
        | ((with_reducible refine gate_builtin (b := .append) (xs := #[.tmp 17, .tmp 20]) rfl ?_); at_builtin; go_must (refine Kd.R_append (W := wr.alloc (.cells #[.int .i64 a, .string b] 106)) (Kd.int .i64) w.heap.size rfl (.tmp 17) (.tmp 20) 40 3 (.int .i64 0) 8 rfl Tryz.underlying40 info3 rfl (by decide) (by omega) u3 (hv.take i) a [.int .i64 a] (fun k => w.heap.size ≤ k) (fun _ => False) rfl (congrArg (fun k => Value.slice (some ⟨k, 0, none⟩) 1 1) (show wr.heap.size + 1 = (wr.alloc (.cells #[.int .i64 a, .string b] 106)).heap.size by rw [World.size_alloc])) (ki_mkM _ _ _ _) (fun _ hk => hk.elim) ?aF (Kd.R_alloc HR.out _) (below_alloc HB.out _) (below_size (below_alloc HB.out _)) (by omega) ?_); (case aF => exact fun k hk => Nat.le_trans (below_size (below_alloc HB.out _)) hk); intro v5_ w5_ ho_ hb_ hg_ hat_; rw [← HVI.out] at ho_; have HR2 := Aside0.mk ho_; have HB2 := Aside0.mk hb_; clear ho_ hb_ hg_ hat_))
      go_roundg gk
      case measure => omega
      case rel => exact ⟨i + 1, by first | rfl | go_num, ⟨by have := HI.out; omega⟩, HR2, HB2⟩
end Go.Proofs.YtdhaoaehboonpaaGreat.V
end
section
namespace Go.Proofs.YtdhaoaehboonpaaGreat.V
open Go.RowKit Go.Proofs.YtdhaoaehboonpaaGreatW.PrintWords Go.Proofs.YtdhaoaehboonpaaGreatW.PrintLast Go.Proofs.YtdhaoaehboonpaaGreatW.PrintMore Go.Proofs.YtdhaoaehboonpaaGreatM
set_option linter.unusedVariables false
set_option linter.unusedSimpArgs false
def ldA (all : List R2) : Ld := fun n => if idxP (isPg n) all < 0 then (⟨#[]⟩, 6) else ((atR all (idxP (isPg n) all).toNat).2, 0)
theorem idxP_spec {P : R2 → Bool} {l : List R2} (h : 0 ≤ idxP P l) : ∃ i : Nat, ∃ hi : i < l.length, idxP P l = i ∧ P l[i] = true := by
  unfold idxP at h ⊢
  cases hf : l.findIdx? P with
  | none => rw [hf] at h; simp at h
  | some i =>
    obtain ⟨hi, hp, _⟩ := List.findIdx?_eq_some_iff_getElem.1 hf
    exact ⟨i, hi, rfl, hp⟩
theorem ldA_at {all : List R2} (h : all.Pairwise fun p q => p.1 ≠ q.1) {n : Int} {b : ByteArray} (hm : (n, b) ∈ all) : ldA all n = (b, 0) := by
  have h0 : 0 ≤ idxP (isPg n) all := (idxP_any _ _).2 (List.any_eq_true.2 ⟨_, hm, decide_eq_true rfl⟩)
  obtain ⟨i, hi, e, hp⟩ := idxP_spec h0
  unfold ldA
  rw [if_neg (by omega), e, Int.toNat_natCast, atR_get hi]
  have e1 : all[i].1 = n := of_decide_eq_true hp
  obtain ⟨j, hj, e2⟩ := List.mem_iff_getElem.1 hm
  have hij : i = j := by
    rw [List.pairwise_iff_getElem] at h
    rcases Nat.lt_trichotomy i j with hlt | heq | hgt
    · exact absurd (e1.trans (by rw [e2])) (h i j hi hj hlt)
    · exact heq
    · exact absurd ((by rw [e2] : all[j].1 = n).trans e1.symm) (h j i hj hi hgt)
  subst hij
  rw [e2]
theorem ldA_small {all : List R2} (h : ∀ x ∈ all, x.2.size ≤ 1000000) : LdSmall (ldA all) := by
  intro n
  unfold ldA
  split
  · show (0 : Nat) ≤ 1000000; decide
  · rename_i h1
    obtain ⟨i, hi, e, _⟩ := idxP_spec (Int.not_lt.1 h1)
    rw [e, Int.toNat_natCast, atR_get hi]
    exact h _ (List.getElem_mem hi)
set_option maxHeartbeats 8000000 in
set_option maxRecDepth 100000 in
theorem ld_save {w : World} {b base : Nat} {ok : Nat → Prop} {A : Option Addr} {c : Nat} {all : List R2} (hb : w.heap[b]? = some (.cells #[.slice A all.length c] 91 (0, 0))) (hr : kR.R 106 w base ok (.slice A all.length c) all) (hl : all.length ≤ 1000000) :
    LdOk w (.func (.func 49) #[] #[.pointer (some ⟨b, 0, none⟩)]) (ldA all) := by
  refine ⟨49, _, _, rfl, enters_of Tryz.func49 (by kernel_rfl) rfl, fun W n hn hW => ?_⟩
  have hb' := (hW.block _ (blk_lt hb)).trans hb
  have hr' := Kd.R_below hr hW
  clear hb hr hn
  show Calls Tryz.prog 49 #[.int .i64 n, .pointer (some ⟨b, 0, none⟩)] W _
  have hI := fun (W2 : World) (hx : W2.heap[W.heap.size]? = some (.cells #[.int .i64 n] 3 (0, 0))) (h2 : Below W.heap.size W W2) => indexW_any (fn_save hx) A c all (Kd.R_reads' (Kd.R_below hr' h2)).2.2 hl
  have HR := Aside0.mk hr'
  have HI := Aside0.mk hI
  have HBK := Aside0.mk hb'
  have HB1 := Aside0.mk (below_alloc (Below.refl W.heap.size W) (.cells #[.int .i64 n] 3))
  have HX := Aside0.mk (Cr.alloc_at (w := W) (cs := #[.int .i64 n]) (t := 3) rfl)
  have HC := Aside0.mk ((HB1.out.block _ (blk_lt HBK.out)).trans HBK.out)
  have hld : ldA all n = if idxP (isPg n) all < 0 then (⟨#[]⟩, 6) else ((atR all (idxP (isPg n) all).toNat).2, 0) := rfl
  have hsp := @idxP_spec (isPg n) all
  obtain ⟨ix, hix⟩ : ∃ ix, ix = idxP (isPg n) all := ⟨_, rfl⟩
  rw [← hix] at HI hld hsp
  obtain ⟨⟨r1, r2⟩, hrr⟩ : ∃ r, r = ldA all n := ⟨_, rfl⟩
  rw [← hrr] at hld ⊢
  have HLD := Aside0.mk hld
  have HSP := Aside0.mk hsp
  obtain ⟨m, hm⟩ : ∃ m, m = all.length := ⟨_, rfl⟩
  have HM := Aside0.mk hm
  rw [← hm] at HI HR HC HBK hl
  have y0 : W.cell? ⟨b, 0, none⟩ = some (.slice A m c) := (blk_cell HBK.out 0).trans rfl
  clear hr' hI hb' hld hsp hix hrr hm hW HBK
  go_enter Tryz.func49, Tryz.ntmps49
  go_upto_region 1 with (fail)
  obtain ⟨W1, hW1⟩ : ∃ W1, W1 = W.alloc (.cells #[.int .i64 n] 3) := ⟨_, rfl⟩
  rw [← hW1] at HB1 HX HC ⊢
  obtain ⟨gq, hgq⟩ : ∃ g, g = W.heap.size := ⟨_, rfl⟩
  have HIX := Aside0.mk (HI.out W1 HX.out HB1.out)
  rw [← hgq] at HX HIX ⊢
  have y1 : W1.cell? ⟨b, 0, none⟩ = some (.slice A m c) := (blk_cell HC.out 0).trans rfl
  clear hW1 HI hgq y0
  go_upto_region 2 with (go_at_call 50; (with_reducible refine (HIX.out).mono ?_); rintro e w2 ⟨rfl, h2⟩; have HB2 := Aside0.mk h2; clear h2 HIX)
  have HBF := Aside0.mk (below_step HB1.out HB2.out)
  have y2 : w2.cell? ⟨b, 0, none⟩ = some (.slice A m c) := (blk_cell ((HB2.out.block _ (blk_lt HC.out)).trans HC.out) 0).trans rfl
  have HR2 := Aside0.mk (Kd.R_below HR.out HBF.out)
  by_cases hx : ix < 0
  · have d1 := decide_eq_true hx
    have HL := HLD.out
    rw [if_pos hx] at HL
    obtain ⟨e1, e2⟩ := Prod.mk.inj HL
    subst e1 e2
    clear HL HLD hx y1
    go_wp2
    go_ret2
    exact ⟨rfl, HBF.out⟩
  · have d1 := decide_eq_false hx
    obtain ⟨i, hi, e0, hpi⟩ := HSP.out (Int.not_lt.1 hx)
    have HL := HLD.out
    rw [if_neg hx, e0, Int.toNat_natCast, atR_get hi] at HL
    obtain ⟨e1, e2⟩ := Prod.mk.inj HL
    subst e2
    obtain ⟨ad, rfl, x0, x1⟩ := at_R (Kd.R_reads' HR2.out).2.2 i (by omega)
    rw [atR_get hi, ← e1] at x1
    rw [e0] at d1
    subst e0
    have him : i < m := by rw [HM.out]; exact hi
    have d2 : decide (i < m) = true := decide_eq_true him
    have d3 : (i < m) = True := eq_true him
    have d4 : ((i : Int) < (m : Int)) = True := eq_true (by omega)
    have d5 : (0 ≤ (i : Int)) = True := eq_true (by omega)
    clear HL HLD hx y1 e1 HSP x0 hpi hi
    go_wp2
    go_ret2
    exact ⟨rfl, HBF.out⟩
end Go.Proofs.YtdhaoaehboonpaaGreat.V
end
section
namespace Go.Proofs.YtdhaoaehboonpaaGreat.V
open Go.RowKit Go.Proofs.YtdhaoaehboonpaaGreatW.PrintWords Go.Proofs.YtdhaoaehboonpaaGreatW.PrintLast Go.Proofs.YtdhaoaehboonpaaGreatW.PrintMore Go.Proofs.YtdhaoaehboonpaaGreatM
set_option linter.unusedVariables false
set_option linter.unusedSimpArgs false
def OthersV (w w' : World) : Prop := ∀ (k : Nat) (cs : Array Value) (t : TypeId), w.heap[k]? = some (.cells cs t (0, 0)) → t ≠ 114 → t ≠ 9 → t ≠ 116 → t ≠ 103 → w'.heap[k]? = some (.cells cs t (0, 0))
theorem OthersV.refl (w : World) : OthersV w w := fun _ _ _ h _ _ _ _ => h
theorem OthersV.trans {a b c : World} (h : OthersV a b) (h2 : OthersV b c) : OthersV a c := fun k cs t hk h1 h3 h4 h5 => h2 k cs t (h k cs t hk h1 h3 h4 h5) h1 h3 h4 h5
theorem OthersV.of {a b : World} (h : VP.Others a b) : OthersV a b := fun k cs t hk h1 h3 h4 _ => h k cs t hk h1 h3 h4
theorem OthersV.below {a b : World} (h : Below a.heap.size a b) : OthersV a b := OthersV.of (Others_below h)
theorem OthersV.set {w : World} {g j : Nat} {v : Value} {cs : Array Value} (hg : w.heap[g]? = some (.cells cs 103 (0, 0))) : OthersV w (w.setCell ⟨g, j, none⟩ v) := fun k c t hk _ _ _ h4 => by
  by_cases e : k = g
  · subst e
    rw [hg] at hk
    injection hk with hk
    injection hk with _ hk
    exact absurd hk.symm h4
  · rw [Below.heap_setCell _ _ _ _ e]; exact hk
structure CanSave (V : VS) (m : Nat) : Prop where
  pages : V.pages = m + 2
  m6 : 6 ≤ m
  m198 : m ≤ 198
  std : V.P.halted = false ∧ VP.pagesOk V.P
  afl : V.P.afl = []
  live : V.live.length ≤ 200
  bytes : ∀ x ∈ V.live, x.2.size = 128
  gen : 0 ≤ V.gen ∧ V.gen < 4611686018427387904
def svP (V : VS) (m : Nat) (l : List R2) : List R2 × Int × Int := planE l V.live (freeL m V.live)
def svE (V : VS) (m : Nat) (l : List R2) : Int := writeE V.P (svP V m l).1 (V.gen + 1) (svP V m l).2.1 V.pages
def svS (V : VS) (m : Nat) (l : List R2) : VP.PS := writeS V.P (svP V m l).1 (V.gen + 1) (svP V m l).2.1 V.pages
def SaveR (V : VS) (m : Nat) (l : List R2) (e : Int) (V' : VS) : Prop :=
  ((svP V m l).2.2 ≠ 0 ∧ e = (svP V m l).2.2 ∧ V' = V) ∨
  ((svP V m l).2.2 = 0 ∧ svE V m l ≠ 0 ∧ e = svE V m l ∧ V' = { V with P := svS V m l, dead := true }) ∨
  ((svP V m l).2.2 = 0 ∧ svE V m l = 0 ∧ e = 0 ∧ ∃ ys, PagesOf (fRead (ldA (V.live ++ (svP V m l).1)) (svP V m l).2.1) ys ∧ V' = { V with P := svS V m l, gen := V.gen + 1, root := (svP V m l).2.1, recs := l, live := ys })
theorem root_ok {V : VS} {m : Nat} {l : List R2} (hc : CanSave V m) (hl : ∀ x ∈ V.live, 2 ≤ x.1 ∧ x.1 < V.pages) (h : (svP V m l).2.2 = 0) : Cr.okC (V.gen + 1) (svP V m l).2.1 V.pages = true := by
  obtain ⟨b, hb⟩ := plan_rootmem h
  have h1 : 2 ≤ (svP V m l).2.1 ∧ (svP V m l).2.1 < V.pages := by
    rcases List.mem_append.1 hb with hb | hb
    · exact hl _ hb
    · have h2 := freeL_mem.1 (plan_out h _ hb)
      have := hc.pages
      exact ⟨h2.1.1, by rw [this]; have := h2.1.2; show (planE l V.live (freeL m V.live)).2.1 < ((m + 2 : Nat) : Int); omega⟩
  have := hc.gen
  have h3 := hc.pages
  have h4 := hc.m6
  have h5 := hc.m198
  exact Cr.okC_iff.2 ⟨by omega, by omega, by omega, by omega, h1.1, h1.2⟩
theorem IsQ.setV {w0 w : World} {gv g j : Nat} {v : Value} {S : VP.PS} {cs : Array Value} (h : VP.IsQ w0 w g S) (hb : w.heap[gv]? = some (.cells cs 103 (0, 0))) (hg : w0.heap.size ≤ gv) : VP.IsQ w0 (w.setCell ⟨gv, j, none⟩ v) g S := by
  refine ⟨below_set h.1 hg, (h.2.narrow.step (fun k hk _ => ?_)).mono (fun k hk => hk.1)⟩
  refine Below.heap_setCell _ _ _ _ ?_
  rintro e
  have e : k = gv := e
  obtain ⟨_, _, _, hO⟩ := hk
  rw [e] at hO
  rcases hO with ⟨cs', q, h1, hq⟩ | ⟨es, c, h1⟩
  · rw [hb] at h1
    simp only [Option.some.injEq, Obj.cells.injEq] at h1
    obtain ⟨_, h1, _⟩ := h1
    rw [← h1] at hq
    exact absurd hq (by decide)
  · rw [hb] at h1; cases h1
theorem T106v : ∀ q, q ∈ 106 :: kR.E → q ≠ 103 := by intro q hq; simp [kR, Kd.pair, Kd.int, Kd.string, Kd.scalar] at hq; omega
theorem T50v : ∀ q, q ∈ 50 :: kR.E → q ≠ 103 := by intro q hq; simp [kR, Kd.pair, Kd.int, Kd.string, Kd.scalar] at hq; omega
def Mid (w0 w W : World) (gv g gb b : Nat) (S : VP.PS) (cs bs : Array Value) (va : Value) (all : List R2) : Prop :=
  VP.IsQ w0 W g S ∧ W.heap[gv]? = some (.cells cs 103 (0, 0)) ∧ w0.heap.size ≤ gv ∧ gb ≠ gv ∧ W.heap[gb]? = some (.cells bs 91 (0, 0)) ∧ kR.R 106 W b (fun _ => True) va all ∧ OthersV w W
theorem Mid.set {w0 w W : World} {gv g gb b : Nat} {S : VP.PS} {cs bs : Array Value} {va : Value} {all : List R2} (h : Mid w0 w W gv g gb b S cs bs va all) (j : Nat) (v : Value) : Mid w0 w (W.setCell ⟨gv, j, none⟩ v) gv g gb b S (cs.setIfInBounds j v) bs va all := by
  obtain ⟨h1, h2, h3, h4, h5, h6, h7⟩ := h
  exact ⟨IsQ.setV h1 h2 h3, blk_set h2 j v, h3, h4, (Below.heap_setCell _ _ _ _ h4).trans h5, Kd.R_set h6 h2 T106v j v, h7.trans (OthersV.set h2)⟩
theorem Mid.below {w0 w W W' : World} {gv g gb b : Nat} {S : VP.PS} {cs bs : Array Value} {va : Value} {all : List R2} (h : Mid w0 w W gv g gb b S cs bs va all) (hb : Below W.heap.size W W') : Mid w0 w W' gv g gb b S cs bs va all := by
  obtain ⟨h1, h2, h3, h4, h5, h6, h7⟩ := h
  exact ⟨h1.below hb, (hb.block _ (blk_lt h2)).trans h2, h3, h4, (hb.block _ (blk_lt h5)).trans h5, Kd.R_below h6 hb, h7.trans (OthersV.below hb)⟩
theorem OthersV_103 {w w1 : World} {g : Nat} {cs : Array Value} (h : VP.Others w w1) (hb : w.heap[g]? = some (.cells cs 103 (0, 0))) : w1.heap[g]? = some (.cells cs 103 (0, 0)) := h _ _ _ hb (by decide) (by decide) (by decide)
theorem read_fine {w : World} {L : Value} {ld : Ld} (HL : LdOk w L ld) (hs : LdSmall ld) (root : Int) (hr : wfI root) {l : List R2} (h1 : (fRead ld root).e = 0) (h2 : (fRead ld root).out = l) :
    Calls Tryz.prog 47 #[.int .i64 root, L] w fun e w' => ∃ A c B d ys, e = .returned (.tuple #[.slice A l.length c, .slice B ys.length d, .int .i64 0]) ∧ kR.R 50 w' w.heap.size (fun _ => True) (.slice A l.length c) l ∧ kR.R 106 w' w.heap.size (fun _ => True) (.slice B ys.length d) ys ∧ PagesOf (fRead ld root) ys ∧ Below w.heap.size w w' := by
  refine (read_any HL hs root hr).mono ?_
  rintro e w' ⟨⟨v, u, ys, rfl, hv, hu, hp, _⟩, hb⟩
  rw [if_pos h1, h2] at hv
  obtain ⟨A, c, rfl⟩ := Kd.R_slice hv
  obtain ⟨B, d, rfl⟩ := Kd.R_slice hu
  exact ⟨A, c, B, d, ys, by rw [h1], hv, hu, hp h1, hb⟩
theorem save_dead {w0 w : World} {gv g : Nat} {V : VS} (h : IsV w0 w gv g V) (hd : V.dead = true) (L : Value) :
    Calls Tryz.prog 15 #[.pointer (some ⟨gv, 0, none⟩), L] w fun e w' => e = .returned (.int .i64 7) ∧ IsV w0 w' gv g V ∧ OthersV w w' := by
  obtain ⟨A, c, B, d, h2, _⟩ := h.cells
  obtain ⟨c0, c1, c2, c3, c4, c5, c6⟩ := cell103 h2
  rw [hd] at c6
  have HV := Aside0.mk h
  clear h h2 c0 c1 c2 c3 c4 c5 hd
  go_enter Tryz.func15, Tryz.ntmps15
  go_wp2
  go_ret
  exact ⟨rfl, HV.out, OthersV.refl _⟩
set_option maxHeartbeats 16000000 in
set_option maxRecDepth 100000 in
theorem save_any {w0 w : World} {gv g : Nat} {V : VS} {m : Nat} (h : IsV w0 w gv g V) (hd : V.dead = false) (hc : CanSave V m) (hlv : ∀ x ∈ V.live, 2 ≤ x.1 ∧ x.1 < V.pages) (A : Option Addr) (c : Nat) (l : List R2) (hC : Kd.C kR w A l.length l) (hc2 : l.length ≤ c) (hl : l.length ≤ 9000)
    (hrd : (svP V m l).2.2 = 0 → (fRead (ldA (V.live ++ (svP V m l).1)) (svP V m l).2.1).e = 0 ∧ (fRead (ldA (V.live ++ (svP V m l).1)) (svP V m l).2.1).out = l) :
    Calls Tryz.prog 15 #[.pointer (some ⟨gv, 0, none⟩), .slice A l.length c] w fun e w' => ∃ r V', e = .returned (.int .i64 r) ∧ SaveR V m l r V' ∧ IsV w0 w' gv g V' ∧ OthersV w w' := by
  have hm6 := hc.m6
  have hm198 := hc.m198
  have HV := Aside0.mk h
  obtain ⟨lA, lc, lB, ld, h2, h3, h4⟩ := h.cells
  obtain ⟨lv, hlvn⟩ : ∃ x, x = V.live.length := ⟨_, rfl⟩
  obtain ⟨gn, hgnd⟩ : ∃ x, x = V.gen := ⟨_, rfl⟩
  obtain ⟨pg, hpg⟩ : ∃ x, x = (V.pages : Int) := ⟨_, rfl⟩
  rw [← hlvn, ← hgnd, ← hpg, hd] at h2
  have H2 := Aside0.mk h2
  have H4 := Aside0.mk h4
  have H3 := Aside0.mk h3
  have HGV := Aside0.mk (show w0.heap.size ≤ gv from by obtain ⟨_, _, _, _, h9, _⟩ := h; exact h9)
  obtain ⟨x0, x1, x2, x3, x4, x5, x6⟩ := cell103 h2
  have HFR := Aside0.mk (fun (W : World) (hq : IsV w0 W gv g V) => vfree_any hq hc.pages (by omega) (Nat.le_trans hc.live (by decide)))
  have hpl := fun (W : World) (hb : Below w.heap.size w W) (D : Option Addr) (f : Nat) (h3 : Kd.C (Kd.int .i64) W D (freeL m V.live).length (freeL m V.live)) (hf : (freeL m V.live).length ≤ f) => plan_any W A c l lB ld V.live D f (freeL m V.live) (Kd.C_below hC hb) hc2 hl (Kd.R_reads' (Kd.R_below h4 hb)).2.2 (Kd.R_reads' h4).2.1 (Nat.le_trans hc.live (by decide)) (fun x hx => by show x.2.size ≤ maxLen; rw [hc.bytes x hx]; decide) h3 hf (Nat.le_trans (freeL_len _ _) (by omega))
  have hpl : ∀ (W : World) (hb : Below w.heap.size w W) (D : Option Addr) (f : Nat) (h3 : Kd.C (Kd.int .i64) W D (freeL m V.live).length (freeL m V.live)) (hf : (freeL m V.live).length ≤ f), Calls Tryz.prog 42 #[.slice A l.length c, .slice lB V.live.length ld, .slice D (freeL m V.live).length f] W fun e w' => ∃ v, e = .returned (.tuple #[v, .int .i64 (svP V m l).2.1, .int .i64 (svP V m l).2.2]) ∧ kR.R 106 w' W.heap.size (fun _ => True) v (svP V m l).1 ∧ Below W.heap.size W w' := hpl
  obtain ⟨P0, hP0⟩ : ∃ P0, P0 = svP V m l := ⟨_, rfl⟩
  obtain ⟨ln, hln⟩ : ∃ x, x = l.length := ⟨_, rfl⟩
  obtain ⟨fl, hfl⟩ : ∃ x, x = freeL m V.live := ⟨_, rfl⟩
  rw [← hP0, ← hln, ← hlvn, ← hfl] at hpl
  rw [← hfl] at HFR
  rw [← hln]
  obtain ⟨fn, hfn⟩ : ∃ x, x = fl.length := ⟨_, rfl⟩
  rw [← hfn] at hpl
  have HPL := Aside0.mk hpl
  have HFN := Aside0.mk hfn
  have HLV := Aside0.mk hlvn
  have HLN := Aside0.mk hln
  have HDEF := Aside0.mk (And.intro hgnd (And.intro hpg hd))
  have HS := Aside0.mk (And.intro hP0 (And.intro hc (And.intro hlv hrd)))
  have HB := Aside0.mk (Below.refl w.heap.size w)
  clear h h2 h3 h4 hd hc hlv hC hc2 hl hrd hpl hln hlvn hfl hfn hgnd hpg
  obtain ⟨O, rt, ec⟩ := P0
  simp only [] at HPL
  go_enter Tryz.func15, Tryz.ntmps15
  go_upto_region 5 with (fail)
  go_region_held3 (fun W' => W'.cell? ⟨gv, 3, none⟩ = some (.int .i64 pg) ∧ W'.cell? ⟨gv, 5, none⟩ = some (.slice lB lv ld)) (go_keep) (first
    | (go_at_call 23; go_must (with_reducible refine (HFR.out _ (HV.out.below (by repeat (first | (with_reducible first | exact HB.out | apply below_alloc | apply pw_below_drewN | apply below_drew1) | exact HB.out)))).mono ?_); rintro e w1 ⟨v1, rfl, hr, hb⟩; obtain ⟨D, f, ev⟩ := Kd.R_slice hr; rw [← HFN.out] at ev; subst ev; have HB1 := Aside0.mk (below_step (by repeat (first | (with_reducible first | exact HB.out | apply below_alloc | apply pw_below_drewN | apply below_drew1) | exact HB.out)) hb); have HPC := Aside0.mk (fun (W : World) (hW : Below w1.heap.size w1 W) => HPL.out W (below_step HB1.out hW) D f (by first | exact (Kd.R_reads' (Kd.R_below hr hW)).2.2 | (rw [HFN.out]; exact (Kd.R_reads' (Kd.R_below hr hW)).2.2)) (by exact (Kd.R_reads' hr).2.1)); have X1 := Aside0.mk ((HB1.out.block _ (blk_lt H2.out)).trans H2.out); clear hr hb HPL HFR HFN; obtain ⟨y0, y1, y2, y3, y4, y5, y6⟩ := cell103 X1.out)
    | (go_at_call 42; go_must (with_reducible refine (HPC.out _ (by repeat (first | (with_reducible first | exact Below.refl _ _ | apply below_alloc | apply pw_below_drewN | apply below_drew1)))).mono ?_); rintro e w2 ⟨v2, rfl, hr, hb⟩; have HB2 := Aside0.mk (below_step (by repeat (first | (with_reducible first | exact HB1.out | apply below_alloc | apply pw_below_drewN | apply below_drew1) | exact HB1.out)) hb); have HR2 := Aside0.mk (Kd.R_lower hr (below_size (by repeat (first | (with_reducible first | exact HB1.out | apply below_alloc | apply pw_below_drewN | apply below_drew1) | exact HB1.out)))); have X2 := Aside0.mk ((HB2.out.block _ (blk_lt H2.out)).trans H2.out); clear hr hb HB1 HPC X1; obtain ⟨z0, z1, z2, z3, z4, z5, z6⟩ := cell103 X2.out))
  clear x0 x1 x2 x3 x4 x5 x6 HB
  obtain ⟨hsP, hc, hlv, hrd⟩ := HS.out
  obtain ⟨A2, c2, ev2⟩ := Kd.R_slice HR2.out
  subst ev2
  have hec : (svP V m l).2.2 = ec := by rw [← hsP]
  by_cases he : ec = 0
  · subst he
    have hok := root_ok hc hlv hec
    have hrd2 := hrd hec
    have hstd := hc.std
    have hlenO : O.length ≤ 200 := by
      have h1 := planE_len l V.live (freeL m V.live)
      have h2 := freeL_len m V.live
      have h3 : (planE l V.live (freeL m V.live)).1 = O := by show (svP V m l).1 = O; rw [← hsP]
      rw [h3] at h1
      omega
    have hgood : ∀ x ∈ O, goodW V.pages x := fun x hx => by
      have h3 : x ∈ (planE l V.live (freeL m V.live)).1 := by show x ∈ (svP V m l).1; rw [← hsP]; exact hx
      refine (plan_good (n := V.pages) hec (fun y hy => ?_) x h3).1
      have h4 := freeL_mem.1 hy
      have h5 := hc.pages
      refine ⟨h4.1.1, ?_⟩
      rw [h5]; have := h4.1.2; show y < ((m + 2 : Nat) : Int); omega
    rw [← hsP] at hok hrd2
    simp only [] at hok hrd2
    have hw := fun (W : World) (hq : VP.IsQ w0 W g V.P) (hr : kR.R 106 W w.heap.size (fun _ => True) (.slice A2 O.length c2) O) => vwrite_any hq hstd.1 hstd.2 A2 c2 O (by rw [hc.afl]; show 0 + O.length ≤ 900; omega) hr (fun x hx => by have h1 := (hgood x hx).1; have := hc.pages; exact wfI_small (by omega) (by omega)) (V.gen + 1) rt V.pages hok
    have hE : svE V m l = writeE V.P O (V.gen + 1) rt V.pages := by unfold svE; rw [← hsP]
    have hS : svS V m l = writeS V.P O (V.gen + 1) rt V.pages := by unfold svS; rw [← hsP]
    have hSV : ∀ e V', SaveR V m l e V' ↔ (((svP V m l).2.2 ≠ 0 ∧ e = (svP V m l).2.2 ∧ V' = V) ∨ ((svP V m l).2.2 = 0 ∧ svE V m l ≠ 0 ∧ e = svE V m l ∧ V' = { V with P := svS V m l, dead := true }) ∨ ((svP V m l).2.2 = 0 ∧ svE V m l = 0 ∧ e = 0 ∧ ∃ ys, PagesOf (fRead (ldA (V.live ++ (svP V m l).1)) (svP V m l).2.1) ys ∧ V' = { V with P := svS V m l, gen := V.gen + 1, root := (svP V m l).2.1, recs := l, live := ys })) := fun _ _ => Iff.rfl
    rw [← hsP] at hSV
    rw [← hE, ← hS] at hw
    obtain ⟨E, hEd⟩ : ∃ E, E = svE V m l := ⟨_, rfl⟩
    obtain ⟨S', hSd⟩ : ∃ S', S' = svS V m l := ⟨_, rfl⟩
    rw [← hEd, ← hSd] at hSV hw
    simp only [] at hSV
    have hbig : ∀ x ∈ V.live ++ O, x.2.size ≤ 1000000 := fun x hx => by
      rcases List.mem_append.1 hx with hx | hx
      · rw [hc.bytes x hx]; decide
      · rw [(hgood x hx).2]; decide
    have hsm := ldA_small hbig
    have hroot : wfI rt := by
      obtain ⟨_, _, h1, h2, h3, h4⟩ := Cr.okC_iff.1 hok
      exact wfI_small (by omega) (by omega)
    have hgn := hc.gen
    have hlive := hc.live
    have hallL : (V.live ++ O).length ≤ 1000000 := by rw [List.length_append]; omega
    have HW := Aside0.mk hw
    have HSV := Aside0.mk hSV
    have HRD := Aside0.mk (And.intro hrd2 (And.intro hsm hroot))
    have HLEN := Aside0.mk (And.intro hlenO (And.intro hlive hallL))
    obtain ⟨hgnd, hpg, hvd⟩ := HDEF.out
    obtain ⟨lO, hlO⟩ : ∃ x, x = O.length := ⟨_, rfl⟩
    have HLO := Aside0.mk hlO
    rw [← hlO] at HW HR2 ⊢
    rw [← hpg] at HW
    rw [← hgnd] at HW hgn
    have hgn0 : 0 ≤ gn := hgn.1
    have hgn1 : gn < 4611686018427387904 := hgn.2
    have hwr : IntKind.i64.wrap (gn + 1) = gn + 1 := by rw [IntKind.wrap_i64]; omega
    have H0 := Aside0.mk (Below.refl w2.heap.size w2)
    have HV2 := Aside0.mk (HV.out.below HB2.out)
    clear hok hrd2 hstd hgood hw hE hS hSV hEd hSd hbig hsm hroot hgn hlive hallL hlenO hgnd hvd hpg hlO hsP hc hlv hrd hec HS hP0 hpl
    go_upto_region 8 with (fail)
    go_cut [8] (fun v8 W => v8 = .pointer (some ⟨w2.heap.size, 0, none⟩) ∧ Aside0 (W.heap[w2.heap.size]? = some (.cells #[.int .i64 (gn + 1), .int .i64 rt, .int .i64 pg] 97 (0, 0))) ∧ Aside0 (Below w2.heap.size w2 W))
    case first =>
      go_region_held3 (fun W' => W'.cell? ⟨gv, 1, none⟩ = some (.int .i64 gn) ∧ W'.cell? ⟨gv, 3, none⟩ = some (.int .i64 pg)) (go_keep) (first | fail)
      all_goals
        go_wp2_with (fail)
        go_meet
        refine ⟨rfl, ⟨?_⟩, ⟨?_⟩⟩
        · first
            | (refine Cr.set3_self (a := .int .i64 0) (b := .int .i64 0) (c := .int .i64 0) ?_; (with_reducible repeat (first | refine blk_drewN ?_ _ | refine blk_drew ?_)); exact Cr.alloc_at (by simp))
            | ((with_reducible repeat (first | refine blk_drewN ?_ _ | refine blk_drew ?_)); exact Cr.alloc_at (by simp))
        · (with_reducible repeat (first | exact H0.out | refine Cr.set3_below ?_ (Nat.le_refl _) | apply below_alloc | apply pw_below_drewN | apply below_drew1))
    case rest =>
      obtain ⟨rfl, X8, HB8⟩ := hcut
      rename World => W8
      have X9 := Aside0.mk ((HB8.out.block _ (blk_lt X2.out)).trans X2.out)
      have HQ8 := Aside0.mk ((HV2.out.1).below HB8.out)
      have HR8 := Aside0.mk (Kd.R_below HR2.out HB8.out)
      have HL8 := Aside0.mk (Kd.R_below (Kd.R_below H4.out HB2.out) HB8.out)
      have HB28 := Aside0.mk (below_step HB2.out HB8.out)
      obtain ⟨gc, hgc⟩ : ∃ x, x = w2.heap.size := ⟨_, rfl⟩
      rw [← hgc] at X8 ⊢
      obtain ⟨y0, y1, y2, y3, y4, y5, y6⟩ := cell103 X9.out
      obtain ⟨t0, t1, t2, _, _, _⟩ := Cr.cell3 X8.out
      clear z0 z1 z2 z3 z4 z5 z6 hwr hgc HB8 X2 HR2 H4 HB2
      go_upto_region 9 with (fail)
      go_still_tail 6, (by kernel_rfl)
      change wpList _ _ _ _ _ W8.drew
      have HD8 := Aside0.mk (below_drew (Below.refl W8.heap.size W8))
      go_upto_region 10 with (go_at_call 45; (with_reducible refine (HW.out _ (HQ8.out.below HD8.out) (Kd.R_below HR8.out HD8.out)).mono ?_); rintro e w4 ⟨rfl, hq, ho⟩; have HQ4 := Aside0.mk hq; have HO4 := Aside0.mk (Others_trans (Others_below HD8.out) ho); clear hq ho)
      have X4 := Aside0.mk (OthersV_103 HO4.out X9.out)
      have XC4 := Aside0.mk (HO4.out _ _ _ X8.out (by decide) (by decide) (by decide))
      have HR4 := Aside0.mk (R_others HR8.out HO4.out T106o)
      have HL4 := Aside0.mk (R_others HL8.out HO4.out T106o)
      have HRC4 := Aside0.mk (show kR.R 50 w4 w0.heap.size (fun _ => True) (.slice lA V.recs.length lc) V.recs from R_others (Kd.R_below H3.out HB28.out) HO4.out T50o)
      have HOV4 := Aside0.mk ((OthersV.below HB28.out).trans (OthersV.of HO4.out))
      have HG := Aside0.mk (show w0.heap.size ≤ gv from HGV.out)
      clear HQ8 HR8 HL8 HW HD8 X9 X8 y0 y1 y2 y3 y4 y5 y6 t0 t1 t2 HO4 HB28 HV2 HV
      obtain ⟨y0, y1, y2, y3, y4, y5, y6⟩ := cell103 X4.out
      have g6 := blk_frozen X4.out 6
      by_cases hE : E = 0
      · subst hE
        have HRES := Aside0.mk (fun (ys : List R2) (hp : PagesOf (fRead (ldA (V.live ++ O)) rt) ys) => (HSV.out 0 { V with P := S', gen := V.gen + 1, root := rt, recs := l, live := ys }).2 (.inr (.inr ⟨by trivial, by trivial, rfl, ys, hp, rfl⟩)))
        have hcl := cloneW HL4.out (Nat.le_trans HLEN.out.2.1 (by decide))
        rw [← HLV.out] at hcl
        have HCL := Aside0.mk hcl
        have hlO : lO ≤ 200 ∧ V.live.length ≤ 200 := ⟨by rw [HLO.out]; exact HLEN.out.1, HLEN.out.2.1⟩
        have HCO := Aside0.mk (fun (W : World) (hb : Below w4.heap.size w4 W) => (show Kd.C kR W A2 lO O from by have := (Kd.R_reads' (Kd.R_below HR4.out hb)).2.2; first | exact this | (rw [HLO.out]; exact this)))
        have HLL := Aside0.mk hlO
        clear hcl HSV hlO
        go_upto_region 13 with (fail)
        go_upto_region 14 with (first
          | (go_at_call 48; (with_reducible refine (HCL.out).mono ?_); rintro e w5 ⟨v5, rfl, hr, hb⟩; have HR5 := Aside0.mk hr; have HB5 := Aside0.mk hb; clear hr hb HCL)
          | ((with_reducible refine gate_builtin (b := .append) (xs := #[.tmp 65, .tmp 66]) rfl ?_); at_builtin; go_must (refine Kd.R_append_rows kR (Rr := kR.K w5) w4.heap.size rfl (.tmp 65) (.tmp 66) 91 106 (.agg #[(.int .i64 0), (.string ⟨#[]⟩)]) 24 rfl Tryz.underlying91 info106 rfl (by decide) (by omega) v5 V.live O A2 lO c2 (fun _ => True) (fun _ => False) rfl rfl HR5.out (HCO.out _ HB5.out) (fun x cs hx => by rw [kR_open hx]; exact kR_mkM _ _ _ _) (fun _ hk => hk.elim) (fun _ _ => trivial) HB5.out HB5.out.size (by have := HLL.out; omega) ?_); intro v6 w6 ho_ hb_ hg_ hat_; obtain ⟨A6, c6, ev6⟩ := Kd.R_slice ho_; subst ev6; have HR6 := Aside0.mk ho_; have HB6 := Aside0.mk hb_; clear ho_ hb_ hg_ hat_))
        obtain ⟨w7, hw7⟩ : ∃ x, x = w6.alloc (.cells #[.slice A6 (V.live.length + O.length) c6] 91) := ⟨_, rfl⟩
        have h67 := below_alloc (Below.refl w6.heap.size w6) (.cells #[.slice A6 (V.live.length + O.length) c6] 91)
        rw [← hw7] at h67
        have XB7 := Aside0.mk (show w7.heap[w6.heap.size]? = some (.cells #[.slice A6 (V.live ++ O).length c6] 91 (0, 0)) from by rw [hw7, List.length_append]; exact Cr.alloc_at rfl)
        have HR7 := Aside0.mk (Kd.R_below HR6.out h67)
        have HB7 := Aside0.mk (below_step HB6.out h67)
        have X7 := Aside0.mk ((HB7.out.block _ (blk_lt X4.out)).trans X4.out)
        have XC7 := Aside0.mk ((HB7.out.block _ (blk_lt XC4.out)).trans XC4.out)
        rw [← hw7]
        obtain ⟨gb, hgb⟩ : ∃ x, x = w6.heap.size := ⟨_, rfl⟩
        rw [← hgb] at XB7 ⊢
        have HBV := Aside0.mk (show gb ≠ gv from by rw [hgb]; have := blk_lt X4.out; have := HB6.out.size; omega)
        have HQ7 := Aside0.mk (HQ4.out.below HB7.out)
        have HRC7 := Aside0.mk (Kd.R_below HRC4.out HB7.out)
        have HL7 := Aside0.mk (Kd.R_below HL4.out HB7.out)
        have HOV7 := Aside0.mk (HOV4.out.trans (OthersV.below HB7.out))
        clear hw7 h67 hgb HR6 HB6 HB5 HR5 HCO X4 XC4 HQ4 HRC4 HL4 HOV4 y0 y1 y2 y3 y4 y5 y6 g6 HB7
        obtain ⟨y0, y1, y2, y3, y4, y5, y6⟩ := cell103 X7.out
        obtain ⟨t0, t1, t2, _, _, _⟩ := Cr.cell3 XC7.out
        have g1 := blk_frozen X7.out 1
        have g2 := blk_frozen X7.out 2
        have g3 := blk_frozen X7.out 3
        go_upto_region 16 with (fail)
        have hmid := ((Mid.set (show Mid w0 w w7 gv g gb w4.heap.size S' _ _ _ _ from ⟨HQ7.out, X7.out, HG.out, HBV.out, XB7.out, HR7.out, HOV7.out⟩) 1 (.int .i64 (gn + 1))).set 2 (.int .i64 rt)).set 3 (.int .i64 pg)
        have hmid : Mid w0 w (((w7.setCell ⟨gv, 1, none⟩ (.int .i64 (gn + 1))).setCell ⟨gv, 2, none⟩ (.int .i64 rt)).setCell ⟨gv, 3, none⟩ (.int .i64 pg)) gv g gb w4.heap.size S' #[.pointer (some ⟨g, 0, none⟩), .int .i64 (gn + 1), .int .i64 rt, .int .i64 pg, .slice lA V.recs.length lc, .slice lB lv ld, .bool false] #[.slice A6 (V.live ++ O).length c6] (.slice A6 (V.live ++ O).length c6) (V.live ++ O) := by simpa using hmid
        obtain ⟨w8, hw8⟩ : ∃ x, x = ((w7.setCell ⟨gv, 1, none⟩ (.int .i64 (gn + 1))).setCell ⟨gv, 2, none⟩ (.int .i64 rt)).setCell ⟨gv, 3, none⟩ (.int .i64 pg) := ⟨_, rfl⟩
        rw [← hw8] at hmid ⊢
        have HM := Aside0.mk hmid
        have hrdc := read_fine (ld_save hmid.2.2.2.2.1 hmid.2.2.2.2.2.1 HLEN.out.2.2) HRD.out.2.1 rt HRD.out.2.2 HRD.out.1.1 HRD.out.1.2
        rw [← HLN.out] at hrdc
        have HRDC := Aside0.mk hrdc
        clear hw8 hmid hrdc HQ7 X7 XB7 HR7 HOV7 HRC7 HL7 XC7 y0 y1 y2 y3 y4 y5 y6 t0 t1 t2 g1 g2 g3
        go_wp2_with (go_at_call 47; (with_reducible refine (HRDC.out).mono ?_); rintro e w9 ⟨A8, c8, A9, c9, ys, rfl, hv, hu, hpo, hb⟩; have HM9 := Aside0.mk (HM.out.below hb); have HV9 := Aside0.mk (Kd.R_lower hv (HM.out.1.1.size)); have HU9 := Aside0.mk (Kd.R_lower hu (HM.out.1.1.size)); have HPO := Aside0.mk hpo; obtain ⟨y0, y1, y2, y3, y4, y5, y6⟩ := cell103 HM9.out.2.1; have g4 := blk_frozen HM9.out.2.1 4; have g5 := blk_frozen HM9.out.2.1 5; clear hv hu hpo hb HRDC HM)
        go_ret
        obtain ⟨hgnd, hpg, hvd⟩ := HDEF.out
        have hfin := (HM9.out.set 4 (.slice A8 ln c8)).set 5 (.slice A9 ys.length c9)
        refine ⟨0, { V with P := S', gen := V.gen + 1, root := rt, recs := l, live := ys }, rfl, HRES.out ys HPO.out, ⟨hfin.1, .slice A8 ln c8, .slice A9 ys.length c9, ?_, hfin.2.2.1, Kd.R_set (Kd.R_set HV9.out HM9.out.2.1 T50v 4 _) (blk_set HM9.out.2.1 4 _) T50v 5 _, Kd.R_set (Kd.R_set HU9.out HM9.out.2.1 T106v 4 _) (blk_set HM9.out.2.1 4 _) T106v 5 _⟩, hfin.2.2.2.2.2.2⟩
        have h9 := hfin.2.1
        rw [hgnd, hpg] at h9
        show _ = some (Obj.cells #[.pointer (some ⟨g, 0, none⟩), .int .i64 (V.gen + 1), .int .i64 rt, .int .i64 (V.pages : Int), .slice A8 ln c8, .slice A9 ys.length c9, .bool V.dead] 103 (0, 0))
        rw [hvd]
        simpa using h9
      · have q1 : (E != 0) = true := by simpa using hE
        have HRES := Aside0.mk ((HSV.out E { V with P := S', dead := true }).2 (.inr (.inl ⟨by trivial, hE, rfl, rfl⟩)))
        clear hE HSV HRD
        go_wp2
        go_ret
        obtain ⟨hgnd, hpg, hvd⟩ := HDEF.out
        refine ⟨E, { V with P := S', dead := true }, rfl, HRES.out, ⟨IsQ.setV HQ4.out X4.out HG.out, _, _, ?_, HG.out, Kd.R_set HRC4.out X4.out T50v 6 _, Kd.R_set HL4.out X4.out T106v 6 _⟩, HOV4.out.trans (OthersV.set X4.out)⟩
        have := blk_set X4.out 6 (.bool true)
        rw [hgnd, hpg, HLV.out] at this
        simpa using this
  · have hne : (svP V m l).2.2 ≠ 0 := by rw [hec]; exact he
    have q1 : (ec != 0) = true := by simpa using he
    have HRES := Aside0.mk (show SaveR V m l ec V from .inl ⟨hne, hec.symm, rfl⟩)
    clear hsP hc hlv hrd hec he hne
    go_wp2
    go_ret
    exact ⟨ec, V, rfl, HRES.out, HV.out.below HB2.out, OthersV.below HB2.out⟩
end Go.Proofs.YtdhaoaehboonpaaGreat.V
end

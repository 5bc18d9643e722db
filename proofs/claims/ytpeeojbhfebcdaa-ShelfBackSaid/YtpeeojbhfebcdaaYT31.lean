/- Of the texts that the row stands on, what it needs (part 31), put together by a program of this session. -/
import Derived.Test.YtpeeojbhfebcdaaYT13
import Derived.Test.YtpeeojbhfebcdaaYT4
import Derived.Test.YtpeeojbhfebcdaaYT30
import Derived.Sort.OwnSortedInts
import Derived.Shelf.SlSortCmp.WholeK
import Derived.WalkKit
import Derived.BigQuiet
import Derived.Deep.LoopGhost
import Derived.Sort.Grow
import Derived.Lib.Hide
import Derived.Lib.Small
import Derived.Deep.DeepMust
import Derived.Test.YtpeeojbhfebcdaaYT29
import Derived.Maps.OwnOps
import Derived.Test.YtpeeojbhfebcdaaProg
import Derived.Test.YtpeeojbhfebcdaaYT0
import Derived.Test.YtpeeojbhfebcdaaYT1
import Derived.Great.Walk
import Derived.Laws.IdiomCopy
import Derived.StillTailTactics
import Derived.Deep.RegionWith
section
namespace Go.Proofs.Ytpeeojbhfebcdaa.V
open Go.Proofs Go.Shelf Go.RowKit Go.Lib Go.Sort Go.Proofs.YtpeeojbhfebcdaaW.PrintWords Go.Proofs.YtpeeojbhfebcdaaW.PrintLast Go.Proofs.YtpeeojbhfebcdaaW.PrintMore
set_option linter.unusedVariables false
set_option linter.unusedSimpArgs false
section
variable {α : Type} [Inhabited α]
theorem holds_of_own {enc : α → Value} {w : World} {g n cap base : Nat} {e : TypeId} {ss : List α} {k : Nat} {xs : List Value} (h : w.ownsRow base e k (.slice (some ⟨g, 0, none⟩) n cap) n xs) (hx : xs = ss.map enc) : Holds enc w g 0 ss.toArray := by
  subst hx
  rcases h.2 with ⟨h0, _⟩ | ⟨g', cap', cur, hv, hg, hb, hn, hcap, hsz, ht⟩
  · cases h0
  cases hv
  intro j hj
  have hj' : j < ss.length := by simpa using hj
  refine ⟨?_, by simp [World.frozen?, hb]⟩
  have hl := h.1
  rw [List.length_map] at hl
  have h1 : (cur.toList.take (n * k))[j]? = (ss.map enc)[j]? := by rw [ht]
  rw [List.getElem?_take_of_lt (by omega)] at h1
  simp only [World.cell?, hb, Nat.zero_add]
  simp only [Option.isSome_none, Bool.false_eq_true, if_false]
  rw [← Array.getElem?_toList, h1]
  simp [hj']
theorem heap_sortedG {enc : α → Value} {w : World} {g n : Nat} {os : Array Obj} {cur : Array Value} {e : TypeId} {fr : Nat × Nat} (d : Array α) (hb : w.heap[g]? = some (.cells cur e fr)) :
    (grow (putRow enc (Sort.ahead w n) g 0 d) os).heap[g]? = some (.cells (putCells enc 0 d cur) e fr) := by
  have hg : g < w.heap.size := (Array.getElem?_eq_some_iff.1 hb).1
  rw [heap_grow_old _ _ (by simpa using hg)]
  simp [putRow, mapBlock, Sort.ahead, Array.getElem?_modify, hb, onCells]
theorem grownBy_sortedG {enc : α → Value} {w : World} {g n : Nat} {os : Array Obj} (d : Array α) : w.grownBy (grow (putRow enc (Sort.ahead w n) g 0 d) os) (some g) := by
  refine ⟨rfl, rfl, rfl, by simp, fun k hk hne => ?_⟩
  rw [heap_grow_old _ _ (by simpa using hk)]
  have : g ≠ k := fun e => hne (by rw [e])
  simp [putRow, mapBlock, Sort.ahead, Array.getElem?_modify, this]
theorem take_putCellsG {enc : α → Value} (cur : Array Value) (ts : List α) (h : ts.length ≤ cur.size) : (putCells enc 0 ts.toArray cur).toList.take ts.length = ts.map enc := by
  apply List.ext_getElem?
  intro j
  by_cases hj : j < ts.length
  · rw [List.getElem?_take_of_lt hj, Array.getElem?_toList]
    simp [putCells, hj, show j < cur.size by omega]
  · rw [List.getElem?_take_eq_none (by omega), List.getElem?_eq_none (by simp; omega)]
theorem own_sorted {enc : α → Value} {w : World} {base g cap n q k : Nat} {e : TypeId} {os : Array Obj} {xs : List Value} {ts : List α} (h : w.ownsRow base e k (.slice (some ⟨g, 0, none⟩) n cap) n xs) (hl : ts.length = n * k) :
    (grow (putRow enc (Sort.ahead w q) g 0 ts.toArray) os).ownsRow base e k (.slice (some ⟨g, 0, none⟩) n cap) n (ts.map enc) := by
  rcases h.2 with ⟨h0, _⟩ | ⟨g', cap', cur, hv, hg, hb, hn, hcap, hsz, ht⟩
  · cases h0
  cases hv
  exact ⟨by rw [List.length_map]; exact hl, .inr ⟨g, cap, _, rfl, hg, heap_sortedG _ hb, hn, hcap, by simp [putCells, hsz], by rw [← hl]; exact take_putCellsG cur ts (by rw [hl, hsz]; exact Nat.mul_le_mul_right k hn)⟩⟩
end
theorem compare_int (x y : Int) (w : World) : Calls Try.prog 49 #[.int .i64 x, .int .i64 y] w fun e w' => e = .returned (.int .i64 (Lib.compareInt x y)) ∧ w' = w := Try.cmp_Compare_int x y w
theorem flat_get {α : Type} [Inhabited α] (enc : α → List Value) (k : Nat) (xs : List α) (t : Nat) : (flatK enc k xs.toArray).toList[t]? = if t < xs.length * k then some ((enc xs.toArray[t / k]!)[t % k]!) else none := by
  by_cases h : t < xs.length * k
  · rw [if_pos h]; simp [flatK, h]
  · rw [if_neg h]; simp [flatK]; omega
theorem reps_flat {α : Type} [Inhabited α] {enc : α → List Value} {k : Nat} (hk : ∀ x, (enc x).length = k) (h0 : 0 < k) {R : α → List Value → Prop} (hR : ∀ x c, R x c → c = enc x) {xs : List α} {cs : List Value} (h : Reps R k xs cs) : cs = (flatK enc k xs.toArray).toList := by
  apply List.ext_getElem?
  intro t
  rw [flat_get]
  by_cases ht : t < xs.length * k
  · rw [if_pos ht]
    have hj : t / k < xs.length := (Nat.div_lt_iff_lt_mul h0).2 ht
    have h1 := hR _ _ (h.2 (t / k) _ (List.getElem?_eq_getElem hj))
    have hm : t % k < k := Nat.mod_lt _ h0
    have h2 : ((cs.drop (t / k * k)).take k)[t % k]? = (enc xs[t / k])[t % k]? := by rw [h1]
    rw [List.getElem?_take_of_lt hm, List.getElem?_drop, show t / k * k + t % k = t from Nat.div_add_mod' t k] at h2
    rw [h2]
    simp [hj]
    rw [List.getElem?_eq_getElem (by rw [hk]; exact hm)]
    simp
  · rw [if_neg ht, List.getElem?_eq_none (by rw [h.1]; omega)]
theorem flat_reps {α : Type} [Inhabited α] {enc : α → List Value} {k : Nat} (hk : ∀ x, (enc x).length = k) (h0 : 0 < k) {R : α → List Value → Prop} (hR : ∀ x, R x (enc x)) (xs : List α) : Reps R k xs (flatK enc k xs.toArray).toList := by
  refine ⟨by simp, fun j p hj => ?_⟩
  obtain ⟨hj1, rfl⟩ := List.getElem?_eq_some_iff.1 hj
  have : ((flatK enc k xs.toArray).toList.drop (j * k)).take k = enc xs[j] := by
    apply List.ext_getElem?
    intro t
    by_cases ht : t < k
    · have hlt : j * k + t < xs.length * k := by
        have := Nat.mul_le_mul_right k (show j + 1 ≤ xs.length from hj1)
        rw [Nat.add_mul, Nat.one_mul] at this
        omega
      rw [List.getElem?_take_of_lt ht, List.getElem?_drop, flat_get, if_pos hlt]
      have e1 : (j * k + t) / k = j := (blk_iff k j _ h0).1 ⟨by omega, by omega⟩
      have e2 : (j * k + t) % k = t := by rw [Nat.mod_eq_sub_div_mul, e1]; omega
      rw [e1, e2, List.getElem?_eq_getElem (by rw [hk]; exact ht)]
      simp [hj1]
      simp [hk, ht]
    · rw [List.getElem?_take_eq_none (by omega), List.getElem?_eq_none (by rw [hk]; omega)]
  rw [this]
  exact hR _
instance : Inhabited R2 := ⟨(0, ⟨#[]⟩)⟩
def encR (x : R2) : List Value := [.int .i64 x.1, .string x.2]
def cfR (x y : R2) : Int := Lib.compareInt x.1 y.1
theorem ltR (x y : R2) : ltOf cfR x y = decide (x.1 < y.1) := by
  unfold ltOf cfR Lib.compareInt
  by_cases h1 : x.1 < y.1
  · simp [h1]
  · by_cases h2 : y.1 < x.1
    · simp [h1, h2]
    · simp [h1, h2]
theorem swoR : SWO (ltOf cfR) where
  irrefl x := by rw [ltR]; simp
  trans x y z h1 h2 := by rw [ltR, decide_eq_true_eq] at *; omega
  ntrans x y z h1 h2 := by rw [ltR, decide_eq_false_iff_not] at *; omega
theorem isAgg28 : ∀ w, (isAgg 28).run Try.prog w = .ok true w := fun w => by kernel_rfl
theorem sizeOf28 : ∀ w, (Go.sizeOf 28).run Try.prog w = .ok 2 w := fun w => by kernel_rfl
set_option maxHeartbeats 4000000 in
theorem closure48 (x y : R2) (W : World) : Calls Try.prog 48 #[.agg #[.int .i64 x.1, .string x.2], .agg #[.int .i64 y.1, .string y.2]] W fun e w' => e = .returned (.int .i64 (Lib.compareInt x.1 y.1)) ∧ ∃ q os', w' = grow (W.drewN q) os' := by
  have h0 := fun W' => compare_int x.1 y.1 W'
  obtain ⟨r0, hr0⟩ : ∃ r, r = Lib.compareInt x.1 y.1 := ⟨_, rfl⟩
  rw [← hr0] at h0 ⊢
  obtain ⟨x0, x1⟩ := x
  obtain ⟨y0, y1⟩ := y
  simp only [] at h0 ⊢
  clear hr0
  have H0 := Lib.hid h0
  clear h0
  go_enter Try.func48, Try.ntmps48
  go_wp2_with (fail)
  refine (H0.out _).mono ?_
  rintro e w' ⟨rfl, rfl⟩
  go_wp2
  go_ret
  exact ⟨rfl, 0, _, by rw [alloc_eq_grow, alloc_eq_grow, grow_grow]; rfl⟩
theorem cmpLays48 (blk off size : Nat) (w : World) : CmpLays Try.prog 48 #[] encR 2 cfR blk off size w :=
  fun _ _ _ _ x y => closure48 x y _
set_option maxHeartbeats 2000000 in
theorem insertionP_nil (f : Value) (w : World) : Calls Try.prog 87 #[.slice none 0 0, .int .i64 0, .int .i64 0, f] w fun e w' => e = .returned (.tuple #[]) ∧ w' = w := by
  go_enter Try.func87, Try.ntmps87
  go_wp2
  go_loopg [8] 0 (fun kq i wr => wr = w ∧ i = .int .i64 1)
  case atStart => exact ⟨rfl, rfl⟩
  case round =>
    obtain ⟨rfl, rfl⟩ := hrel
    go_wp2
    go_end0
    exact ⟨rfl, rfl⟩
set_option maxHeartbeats 2000000 in
set_option maxRecDepth 100000 in
theorem pdqP_nil (f : Value) (q : Int) (w : World) : Calls Try.prog 75 #[.slice none 0 0, .int .i64 0, .int .i64 0, .int .i64 q, f] w fun e w' => e = .returned (.tuple #[]) ∧ w' = w := by
  go_enter Try.func75, Try.ntmps75
  go_wp2
  refine wp_loop_rounds 1 ?_
  rw [rounds_succ]
  go_wp2_with (fail)
  with_reducible refine (insertionP_nil f _).mono ?_
  rintro e w' ⟨rfl, rfl⟩
  go_wp2
  refine bodyPost_ret (results_none rfl _ _ _) rfl ?_
  exact ⟨rfl, rfl⟩
theorem bits_zero (w : World) : Calls Try.prog 76 #[.int .u64 0] w fun e w' => e = .returned (.int .i64 (Lib.bitLen 0 : Nat)) ∧ w' = w := by
  have h := Any.bits_Len (SlLaysF0.n15.bits (P := Try.prog) (ρ := Try.sortW_ren) { Try.sortW with }) 0 w (by omega) (by omega)
  exact h
set_option maxHeartbeats 2000000 in
theorem sortP_nil (f : Value) (w : World) : Calls Try.prog 47 #[.slice none 0 0, f] w fun e w' => e = .returned (.tuple #[]) ∧ w' = w := by
  have h1 := Aside0.mk (bits_zero w)
  go_enter Try.func47, Try.ntmps47
  go_wp2_with (fail)
  with_reducible refine (h1.out).mono ?_
  rintro e w' ⟨rfl, rfl⟩
  go_wp2_with (fail)
  with_reducible refine (pdqP_nil f _ _).mono ?_
  rintro e w' ⟨rfl, rfl⟩
  go_wp2
  go_end0
  exact ⟨rfl, rfl⟩
set_option maxHeartbeats 2000000 in
theorem sort_writes {w : World} {base : Nat} {ok : Nat → Prop} {v : Value} {xs : List R2} (h : kR.R 28 w base ok v xs) (hn : xs = [] → v = .slice none 0 0) (hl : xs.length ≤ 1000000) :
    Calls Try.prog 47 #[v, .func (.func 48) #[] #[]] w fun e w' => e = .returned (.tuple #[]) ∧ ∃ ys : List R2, ys.Perm xs ∧ (ys.Pairwise fun p q => ¬ q.1 < p.1) ∧ kR.R 28 w' base ok v ys ∧ w.grownBy w' v.ownBlock := by
  by_cases hx : xs = []
  · obtain rfl := hn hx
    subst hx
    exact (sortP_nil _ w).mono fun _ _ ⟨he, hw⟩ => ⟨he, [], List.Perm.nil, List.Pairwise.nil, by rw [hw]; exact h, by rw [hw]; exact ⟨rfl, rfl, rfl, Nat.le_refl _, fun _ _ _ => rfl⟩⟩
  · obtain ⟨g, cap, rfl, hg, hlt, _⟩ := Kd.R_form h (List.length_pos_iff.2 hx)
    obtain ⟨hok, inner, own, reps⟩ := h
    have hin := reps_flat (enc := encR) (k := 2) (fun _ => rfl) (by decide) (fun x c hc => kR_openM hc) reps
    subst hin
    have hH : HoldsK encR 2 w g 0 xs.toArray := by
      have := holds_of_own (enc := (id : Value → Value)) (ss := (flatK encR 2 xs.toArray).toList) own (by simp)
      rw [Array.toArray_toList] at this
      exact this
    have eg : ∀ args w, (callFunc 48 args).run Try.prog w = .ok (.enter 48 args) w := enters_of Try.func48 (by kernel_rfl) rfl
    have hc := AnyQ.slices_SortFunc Try.sortW 2 isAgg28 sizeOf28 encR (fun _ => rfl) (fun x v hv => by simp [encR] at hv; rcases hv with rfl | rfl <;> rfl) cfR swoR 48 #[] g 0 cap xs.toArray w eg (cmpLays48 g 0 _ w) hH hlt (by simp; omega)
    rw [show xs.toArray.size = xs.length by simp] at hc
    refine hc.mono ?_
    rintro e w' ⟨he, d', n, os, hp, hs, rfl⟩
    have hsz : d'.toList.length = xs.length := by have := hp.1; simpa using this
    refine ⟨he, d'.toList, ?_, ?_, ?_, ?_⟩
    · have h2 := hp.2.2
      rw [show d'.extract 0 xs.length = d' by rw [← hsz]; simp, show xs.toArray.extract 0 xs.length = xs.toArray by simp] at h2
      exact h2
    · rw [List.pairwise_iff_getElem]
      intro i j hi hj hij
      have := hs i j (Nat.zero_le _) hij (by omega)
      rw [ltR, decide_eq_false_iff_not] at this
      have hi' : i < d'.size := by simpa using hi
      have hj' : j < d'.size := by simpa using hj
      rw [getElem!_pos d' i hi', getElem!_pos d' j hj'] at this
      exact this
    · have ho := own_sorted (enc := (id : Value → Value)) (q := n) (os := os) (ts := (flatK encR 2 d').toList) own (by
        show (flatK encR 2 d').toList.length = xs.length * 2
        rw [Array.length_toList, size_flatK, ← hsz, Array.length_toList])
      rw [Array.toArray_toList] at ho
      have hr := flat_reps (enc := encR) (k := 2) (fun _ => rfl) (by decide) (R := kR.M (sortWorldK encR 2 w g 0 n d' os) base (fun k => ok k ∧ some k ≠ (Value.slice (some ⟨g, 0, none⟩) xs.length cap).ownBlock)) (fun x => kR_mkM _ _ _ x) d'.toList
      rw [Array.toArray_toList] at hr
      refine ⟨hok, _, ?_, hr⟩
      rw [hsz]
      have e : (flatK encR 2 d').toList.map (id : Value → Value) = (flatK encR 2 d').toList := List.map_id _
      rw [e] at ho
      exact ho
    · exact grownBy_sortedG _
end Go.Proofs.Ytpeeojbhfebcdaa.V
end
section
namespace Go.Proofs.Ytpeeojbhfebcdaa.V
open Go.RowKit Go.Proofs.YtpeeojbhfebcdaaW.PrintWords Go.Proofs.YtpeeojbhfebcdaaW.PrintLast Go.Proofs.YtpeeojbhfebcdaaW.PrintMore Go.Proofs.YtpeeojbhfebcdaaM
set_option linter.unusedVariables false
set_option linter.unusedSimpArgs false
def slotsP (b : ByteArray) : List PRd.S76 × Bool := (PRd.sheet_Slots.f 300 b).getD ([], false)
def tS (l : List PRd.S76) : List S2 := l.map fun x => (x.f0, x.f1)
def slotsE (b : ByteArray) : List S2 × Bool := (tS (slotsP b).1, (slotsP b).2)
theorem slotsP_is (b : ByteArray) : PRd.sheet_Slots.f 300 b = some (slotsP b) ∧ ∃ bad l, slotsP b = PRd.slotsFin b bad l := by
  obtain ⟨bad, l, hk⟩ := PRd.slots_ex b
  have h1 := hk 300 (Nat.le_refl _)
  unfold slotsP
  rw [h1]
  exact ⟨rfl, bad, l, rfl⟩
theorem slotsE_ok (b : ByteArray) : (slotsE b).1.length ≤ 21 ∧ ∀ x ∈ (slotsE b).1, wfI x.2 := by
  obtain ⟨_, bad, l, e⟩ := slotsP_is b
  unfold slotsE
  rw [e]
  unfold PRd.slotsFin
  split
  · rename_i hc
    simp only [Bool.and_eq_true] at hc
    have h1 := hc.2.1
    unfold PRd.idxOk at h1
    simp only [Bool.and_eq_true, decide_eq_true_eq] at h1
    obtain ⟨h1, h2⟩ := h1
    refine ⟨by unfold tS; rw [List.length_map]; exact h1, fun x hx => ?_⟩
    unfold tS at hx
    obtain ⟨y, hy, rfl⟩ := List.mem_map.1 hx
    obtain ⟨j, hj, rfl⟩ := PRd.mem_rd41 hy
    unfold idxV at h2
    rw [all_at] at h2
    have h3 := h2 j hj
    simp only [Bool.and_eq_true] at h3
    have h5 := PRd.okP_range h3.2
    exact (show wfI (PRd.rd_T76 l j).f1 from wfI_small (by omega) (by omega))
  · exact ⟨by show 0 ≤ 21; decide, fun x hx => (List.not_mem_nil hx).elim⟩
theorem slots_any (b : ByteArray) (w : World) : Calls Try.prog 43 #[.string b] w fun e w' => ∃ v0 : Value, e = .returned (.tuple #[v0, .bool (slotsE b).2]) ∧ kS.R 76 w' w.heap.size (fun _ => True) v0 (slotsE b).1 ∧ Below w.heap.size w w' := by
  refine (PRd.sheet_Slots.calls 300 b _ _ w (slotsP_is b).1).mono ?_
  rintro e w' ⟨v, rfl, hR, hb⟩
  exact ⟨v, rfl, R_iso (f := fun x : PRd.S76 => (x.f0, x.f1)) hR, hb⟩
def fSlots (ld : Ld) : List S2 → FS → FS
  | [], S => S
  | s :: t, S => fSlots ld t (if S.e = 0 then fLeaf ld S s else S)
def fS0 : FS := ⟨fun _ => none, [], 0⟩
def fIdx (ld : Ld) (root : Int) : FS := if (slotsE (fPage ld fS0 root).1).2 = true then (fPage ld fS0 root).2 else fForm (fPage ld fS0 root).2
def fRead (ld : Ld) (root : Int) : FS := fSlots ld (slotsE (fPage ld fS0 root).1).1 (fIdx ld root)
theorem fS0_ok : FOk fS0 := fun n b h => by cases h
def PagesOf (S : FS) (ys : List R2) : Prop := (ys.Pairwise fun p q => p.1 < q.1) ∧ ∀ n b, (n, b) ∈ ys ↔ S.pages n = some b
def ReadR (base : Nat) (S : FS) (e : Ending) (w' : World) : Prop := ∃ v u ys, e = .returned (.tuple #[v, u, .int .i64 S.e]) ∧ kR.R 45 w' base (fun _ => True) v (if S.e = 0 then S.out else []) ∧ kR.R 28 w' base (fun _ => True) u ys ∧ (S.e = 0 → PagesOf S ys) ∧ (S.e ≠ 0 → ys = [])
theorem T76 : ∀ q, q ∈ 76 :: kS.E → q ≠ 45 ∧ q ≠ 104 := by intro q hq; simp [kS, Kd.pair, Kd.int, Kd.scalar] at hq; omega
def PgR (root : Int) (S : FS) : Prop := ∀ n b, S.pages n = some b → n = root ∨ (0 ≤ n ∧ n < 200)
theorem fForm_pg {root : Int} {S : FS} (h : PgR root S) : PgR root (fForm S) := by unfold fForm; split <;> exact h
theorem fPage_pg {root : Int} {ld : Ld} {S : FS} (h : PgR root S) {n : Int} (hn : n = root ∨ (0 ≤ n ∧ n < 200)) : PgR root (fPage ld S n).2 := by
  unfold fPage
  cases hp : S.pages n with
  | some b => exact h
  | none =>
    show PgR root (if S.e = 0 then _ else _ : ByteArray × FS).2
    split
    · split
      · intro k b hk
        by_cases e : k = n
        · rw [e]; exact hn
        · change upd S.pages n (ld n).1 k = some b at hk
          rw [upd_ne _ _ e] at hk
          exact h k b hk
      · exact h
    · exact h
theorem fChain_pg {root : Int} {ld : Ld} (hl : LdSmall ld) : ∀ (k : Nat) {S : FS} {n s : Int} (o : ByteArray), FOk S → PgR root S → (0 ≤ n ∧ n < 200) → PgR root (fChain k ld S n s o).2
  | 0, _, _, _, _, _, h, _ => h
  | k + 1, S, n, s, o, ho, h, hn => by
    unfold fChain
    split
    · have h1 := linkE_range (fPage ld S n).1 (fPage_ok hl ho n).2
      refine fChain_pg hl k _ (fStep_ok hl ho n s) ?_ ⟨h1.1, h1.2.1⟩
      unfold fStep
      split
      · exact fForm_pg (fPage_pg h (.inr hn))
      · exact fPage_pg h (.inr hn)
    · exact h
theorem cellsE_pg (b : ByteArray) : ∀ x ∈ (cellsE b).1, 24 < x.2.1 → 0 ≤ x.2.2.1 ∧ x.2.2.1 < 200 := by
  obtain ⟨_, bad, l, e⟩ := cellsP_is b
  unfold cellsE
  rw [e]
  unfold PRd.cellsFin
  split
  · rename_i hc
    simp only [Bool.and_eq_true] at hc
    have h1 := hc.2.1
    unfold PRd.leafOk at h1
    simp only [Bool.and_eq_true, decide_eq_true_eq] at h1
    obtain ⟨h1, h2, _⟩ := h1
    intro x hx h24
    unfold tC at hx
    obtain ⟨y, hy, rfl⟩ := List.mem_map.1 hx
    obtain ⟨j, hj, rfl⟩ := PRd.mem_rd52 hy
    unfold PRd.leafV lfV at h2
    rw [all_at] at h2
    have h3 := h2 j hj
    simp only [Bool.and_eq_true] at h3
    have h4 := h3.2
    unfold okR at h4
    rw [if_neg (show ¬ (PRd.rd_T61 l j).f1 ≤ 24 from by have h9 : 24 < (PRd.rd_T61 l j).f1 := h24; omega)] at h4
    simp only [Bool.and_eq_true, decide_eq_true_eq] at h4
    have h5 := PRd.okP_range h4.2.2
    exact (show 0 ≤ (PRd.rd_T61 l j).f2 ∧ (PRd.rd_T61 l j).f2 < 200 from ⟨by omega, by omega⟩)
  · exact fun x hx => (List.not_mem_nil hx).elim
theorem slotsE_pg (b : ByteArray) : ∀ x ∈ (slotsE b).1, 0 ≤ x.2 ∧ x.2 < 200 := by
  obtain ⟨_, bad, l, e⟩ := slotsP_is b
  unfold slotsE
  rw [e]
  unfold PRd.slotsFin
  split
  · rename_i hc
    simp only [Bool.and_eq_true] at hc
    have h1 := hc.2.1
    unfold PRd.idxOk at h1
    simp only [Bool.and_eq_true, decide_eq_true_eq] at h1
    obtain ⟨h1, h2⟩ := h1
    intro x hx
    unfold tS at hx
    obtain ⟨y, hy, rfl⟩ := List.mem_map.1 hx
    obtain ⟨j, hj, rfl⟩ := PRd.mem_rd41 hy
    unfold idxV at h2
    rw [all_at] at h2
    have h3 := h2 j hj
    simp only [Bool.and_eq_true] at h3
    have h5 := PRd.okP_range h3.2
    exact (show 0 ≤ (PRd.rd_T76 l j).f1 ∧ (PRd.rd_T76 l j).f1 < 200 from ⟨by omega, by omega⟩)
  · exact fun x hx => (List.not_mem_nil hx).elim
theorem fCells_pg {root : Int} {ld : Ld} (hl : LdSmall ld) : ∀ (l : List C4) {S : FS}, (∀ x ∈ l, 24 < x.2.1 → 0 ≤ x.2.2.1 ∧ x.2.2.1 < 200) → FOk S → PgR root S → PgR root (fCells ld l S)
  | [], _, _, _, h => h
  | c :: r, S, hx, ho, h => by
    unfold fCells
    split
    · exact fForm_pg h
    · have h1 : PgR root (fCell ld S c).2 := by
        unfold fCell
        split
        · rename_i h24
          exact fChain_pg hl _ _ ho h (hx c List.mem_cons_self h24)
        · exact h
      exact fCells_pg hl r (S := { (fCell ld S c).2 with out := S.out ++ [(c.1, (fCell ld S c).1)] }) (fun x h => hx x (List.mem_cons_of_mem _ h)) (fun n b hb => fCell_ok hl ho c n b hb) (fun n b hb => h1 n b hb)
theorem fLeaf_pg {root : Int} {ld : Ld} (hl : LdSmall ld) {S : FS} (ho : FOk S) (h : PgR root S) {s : S2} (hs : 0 ≤ s.2 ∧ s.2 < 200) : PgR root (fLeaf ld S s) := by
  unfold fLeaf
  split
  · exact fCells_pg hl _ (cellsE_pg _) (fPage_ok hl ho _).1 (fPage_pg h (.inr hs))
  · exact fForm_pg (fPage_pg h (.inr hs))
theorem fSlots_pg {root : Int} {ld : Ld} (hl : LdSmall ld) : ∀ (l : List S2) {S : FS}, (∀ x ∈ l, 0 ≤ x.2 ∧ x.2 < 200) → FOk S → PgR root S → PgR root (fSlots ld l S)
  | [], _, _, _, h => h
  | s :: t, S, hx, ho, h => by
    unfold fSlots
    have ht := fun x h => hx x (List.mem_cons_of_mem _ h)
    split
    · exact fSlots_pg hl t ht (fLeaf_ok hl ho s) (fLeaf_pg hl ho h (hx s List.mem_cons_self))
    · exact fSlots_pg hl t ht ho h
theorem fRead_pg {ld : Ld} (hl : LdSmall ld) (root : Int) : PgR root (fRead ld root) := by
  unfold fRead fIdx
  have h1 := fPage_pg (root := root) (ld := ld) (S := fS0) (fun n b h => by cases h) (n := root) (.inl rfl)
  have h2 := (fPage_ok hl fS0_ok root).1
  refine fSlots_pg hl _ (slotsE_pg _) ?_ ?_
  · split
    · exact h2
    · exact fForm_ok h2
  · split
    · exact h1
    · exact fForm_pg h1
theorem nodup_len {α : Type} [DecidableEq α] : ∀ (l s : List α), l.Nodup → (∀ x ∈ l, x ∈ s) → l.length ≤ s.length
  | [], s, _, _ => Nat.zero_le _
  | x :: t, s, h, hs => by
    obtain ⟨h1, h2⟩ := List.nodup_cons.1 h
    have := nodup_len t (s.erase x) h2 (fun y hy => (List.mem_erase_of_ne (fun e => h1 (by rw [← e]; exact hy))).2 (hs y (List.mem_cons_of_mem _ hy)))
    rw [List.length_erase_of_mem (hs x List.mem_cons_self)] at this
    have hp : 0 < s.length := List.length_pos_of_mem (hs x List.mem_cons_self)
    rw [List.length_cons]
    omega
theorem few_pages {root : Int} {S : FS} (h : PgR root S) {ys : List R2} (h1 : ys.Pairwise fun p q => p.1 ≠ q.1) (h2 : ∀ x ∈ ys, S.pages x.1 = some x.2) : ys.length ≤ 201 := by
  have := nodup_len (ys.map (·.1)) (root :: (List.range 200).map fun (i : Nat) => (i : Int)) (by
    unfold List.Nodup
    rw [List.pairwise_map]
    exact h1) (fun x hx => by
    obtain ⟨y, hy, rfl⟩ := List.mem_map.1 hx
    rcases h _ _ (h2 y hy) with e | e
    · rw [e]; exact List.mem_cons_self
    · refine List.mem_cons_of_mem _ (List.mem_map.2 ⟨y.1.toNat, List.mem_range.2 (by omega), by omega⟩))
  simpa using this
theorem R_iter {α : Type} {d : Kd α} {e b r : Nat} {w w1 : World} {ok : Nat → Prop} {v : Value} {xs : List α} {f : Int → Option ByteArray} {left : Int → Prop} {cnt m : Nat} (h : d.R e w b ok v xs) (hm : RngB (Value.int .i64) Value.string wfI w m r f left cnt) (hg : w.grownBy w1 (some r)) : d.R e w1 b ok v xs :=
  Kd.R_mono (Kd.R_grown (ok := fun k => ok k ∧ k ≠ r) (Kd.R_mono (Kd.R_bound h) (fun k hk => ⟨hk.1, fun e => by
    obtain ⟨_, _, _, q, hq, cells, hc⟩ := hk
    obtain ⟨_, _, _, _, _, _, _, _, _, _, h6, _⟩ := hm
    rw [e, h6] at hc; cases hc⟩)) hg (fun k hk e => hk.2 (by injection e))) (fun k hk => hk.1)
theorem iter_ne {w : World} {m r g : Nat} {f : Int → Option ByteArray} {left : Int → Prop} {cnt : Nat} {cs : Array Value} {t : TypeId} (hm : RngB (Value.int .i64) Value.string wfI w m r f left cnt) (hb : w.heap[g]? = some (.cells cs t (0, 0))) : some g ≠ some r := by
  intro e
  injection e with e
  subst e
  obtain ⟨_, _, _, _, _, _, _, _, _, _, h6, _⟩ := hm
  rw [hb] at h6; cases h6
theorem iter_ne_row {α : Type} {d : Kd α} {e b m r : Nat} {w : World} {o : Nat → Prop} {v : Value} {xs : List α} {f : Int → Option ByteArray} {left : Int → Prop} {cnt : Nat} (h : d.R e w b o v xs) (hm : RngB (Value.int .i64) Value.string wfI w m r f left cnt) : some r ≠ v.ownBlock ∧ some m ≠ v.ownBlock := by
  obtain ⟨es, _, _, _, _, h1, _, _, _, _, h6, _⟩ := hm
  refine ⟨fun hk => ?_, fun hk => ?_⟩
  · obtain ⟨c1, e1⟩ := Kd.R_typed h r hk.symm
    rw [e1] at h6; cases h6
  · obtain ⟨c1, e1⟩ := Kd.R_typed h m hk.symm
    rw [e1] at h1; cases h1
end Go.Proofs.Ytpeeojbhfebcdaa.V
end
section
namespace Go.Proofs.Ytpeeojbhfebcdaa.V
open Go.RowKit Go.Proofs.YtpeeojbhfebcdaaW.PrintWords Go.Proofs.YtpeeojbhfebcdaaW.PrintLast Go.Proofs.YtpeeojbhfebcdaaW.PrintMore Go.Proofs.YtpeeojbhfebcdaaM
set_option linter.unusedVariables false
set_option linter.unusedSimpArgs false
abbrev PP := Int → ByteArray → Prop
def CellRd (ld : Ld) (c : C4) (r : R2) (P : PP) : Prop := c.1 = r.1 ∧ ∀ S, S.e = 0 → Con ld S → (fCell ld S c).1 = r.2 ∧ Went ld S (fCell ld S c).2 P
def CellsRd (ld : Ld) : List C4 → List R2 → PP → Prop
  | [], [], P => ∀ n b, ¬ P n b
  | c :: cs, r :: rs, P => ∃ P1 P2, CellRd ld c r P1 ∧ CellsRd ld cs rs P2 ∧ ∀ n b, P n b ↔ P1 n b ∨ P2 n b
  | _, _, _ => False
def chainsB : List R2 → PS → List ByteArray
  | [], _ => []
  | r :: t, S => if 24 < r.2.size then chainB (pieces r.2) S ++ chainsB t (chainF (pieces r.2) S).2 else chainsB t S
theorem chainsB_cons (r : R2) (t : List R2) (S : PS) : chainsB (r :: t) S = if 24 < r.2.size then chainB (pieces r.2) S ++ chainsB t (chainF (pieces r.2) S).2 else chainsB t S := rfl
theorem chains_read {ld : Ld} {K : ByteArray → Option Int} (hK : LdK ld K) : ∀ (l : List R2) (T : PS), PgOk T → (∀ r ∈ l, r.2.size ≤ 900) → (chainsF l T).2.e = 0 → Ext (chainsF l T).2.known K → CellsRd ld (chainsF l T).1 l (fun n b => b ∈ chainsB l T ∧ K b = some n)
  | [], T, _, _, _, _ => fun n b h => (List.not_mem_nil h.1).elim
  | r :: t, T, hT, hr, he, hx => by
    have h1 := hr r List.mem_cons_self
    have ht := fun y hy => hr y (List.mem_cons_of_mem _ hy)
    rw [chainsF_cons] at he hx ⊢
    by_cases h24 : 24 < r.2.size
    · rw [if_pos h24] at he hx ⊢
      have he1 := chainsF_e he
      have hx1 : Ext (chainF (pieces r.2) T).2.known K := (chainsF_ext t _).trans hx
      refine ⟨fun n b => b ∈ chainB (pieces r.2) T ∧ K b = some n, fun n b => b ∈ chainsB t (chainF (pieces r.2) T).2 ∧ K b = some n, ⟨?_, fun S h0 hc => ?_⟩, chains_read hK t _ (chainF_pg _ hT) ht he hx, fun n b => ?_⟩
      · unfold cellE; split <;> rfl
      · have hc1 : cellE r (chainF (pieces r.2) T).1 = (r.1, (r.2.size : Int), (chainF (pieces r.2) T).1, ⟨#[]⟩) := by unfold cellE; rw [if_neg (by omega)]
        have hp := piecesF_len r.2.size r.2
        obtain ⟨g1, g2⟩ := chain_read hK (pieces r.2) T r.2.size 1000 S ⟨#[]⟩ hT he1 hx1 (okPcs_pieces _ _ (Nat.le_refl _)) (by unfold pieces; omega) h0 hc
        have e1 : fCell ld S (cellE r (chainF (pieces r.2) T).1) = fChain 1000 ld S (chainF (pieces r.2) T).1 (r.2.size : Int) ⟨#[]⟩ := by
          rw [hc1]
          unfold fCell
          rw [if_pos (by show (24 : Int) < (r.2.size : Int); omega)]
        rw [e1]
        refine ⟨?_, g2⟩
        rw [g1, show cat (pieces r.2) = r.2 from cat_pieces _ _ (Nat.le_refl _)]
        exact ByteArray.empty_append
      · show b ∈ chainsB (r :: t) T ∧ _ ↔ _
        rw [chainsB_cons, if_pos h24, List.mem_append]
        constructor
        · rintro ⟨h | h, h2⟩
          · exact .inl ⟨h, h2⟩
          · exact .inr ⟨h, h2⟩
        · rintro (⟨h, h2⟩ | ⟨h, h2⟩)
          · exact ⟨.inl h, h2⟩
          · exact ⟨.inr h, h2⟩
    · rw [if_neg h24] at he hx ⊢
      refine ⟨fun _ _ => False, fun n b => b ∈ chainsB t T ∧ K b = some n, ⟨?_, fun S h0 hc => ?_⟩, chains_read hK t _ hT ht he hx, fun n b => ?_⟩
      · unfold cellE; split <;> rfl
      · have hc1 : cellE r 2 = (r.1, (r.2.size : Int), 0, r.2) := by unfold cellE; rw [if_pos (by omega)]
        have e1 : fCell ld S (cellE r 2) = (r.2, S) := by
          rw [hc1]
          unfold fCell
          rw [if_neg (by show ¬ (24 : Int) < (r.2.size : Int); omega)]
        rw [e1]
        exact ⟨rfl, h0, rfl, hc, Seen.refl S⟩
      · show b ∈ chainsB (r :: t) T ∧ _ ↔ _
        rw [chainsB_cons, if_neg h24, false_or]
def Found (ld : Ld) (S S' : FS) (rs : List R2) (P : PP) : Prop := S'.e = 0 ∧ S'.out = S.out ++ rs ∧ Con ld S' ∧ Seen S S' P
def up (l : List R2) : Prop := l.Pairwise fun a b => a.1 < b.1
theorem lastGe_up {o : List R2} {c : R2} {t : List R2} (h : up (o ++ c :: t)) : lastGe o c.1 = false := by
  unfold lastGe
  cases hl : o.getLast? with
  | none => rfl
  | some r =>
    have hm : r ∈ o := List.mem_of_getLast? hl
    have := (List.pairwise_append.1 h).2.2 r hm c List.mem_cons_self
    show decide (c.1 ≤ r.1) = false
    exact decide_eq_false (by omega)
theorem cells_read {ld : Ld} : ∀ (cs : List C4) (rs : List R2) (P : PP) (S : FS), CellsRd ld cs rs P → S.e = 0 → Con ld S → up (S.out ++ rs) → Found ld S (fCells ld cs S) rs P
  | [], [], P, S, h, h0, hc, _ => ⟨h0, (List.append_nil _).symm, hc, fun n b => ⟨.inl, fun h2 => h2.elim id (fun h3 => absurd h3 (h n b))⟩⟩
  | c :: cs, r :: rs, P, S, h, h0, hc, hu => by
    obtain ⟨P1, P2, ⟨hk, hrd⟩, h2, hP⟩ := h
    obtain ⟨g1, g2, g3, g4, g5⟩ := hrd S h0 hc
    unfold fCells
    rw [if_neg (by rw [hk, lastGe_up hu]; decide), g1, hk]
    have hu2 : up ((S.out ++ [(r.1, r.2)]) ++ rs) := by rw [List.append_assoc]; exact hu
    obtain ⟨a1, a2, a3, a4⟩ := cells_read cs rs P2 { (fCell ld S c).2 with out := S.out ++ [(r.1, r.2)] } h2 g2 (fun n b hb => g4 n b hb) hu2
    refine ⟨a1, ?_, a3, fun n b => ?_⟩
    · rw [a2]
      show (S.out ++ [(r.1, r.2)]) ++ rs = S.out ++ r :: rs
      rw [List.append_assoc]; rfl
    · have e1 := a4 n b
      rw [e1]
      show (fCell ld S c).2.pages n = some b ∨ P2 n b ↔ _
      rw [g5 n b, hP n b, or_assoc]
  | [], _ :: _, _, _, h, _, _, _ => h.elim
  | _ :: _, [], _, _, h, _, _, _ => h.elim
theorem CellsRd.split {ld : Ld} : ∀ {a b : List C4} {rs : List R2} {P : PP}, CellsRd ld (a ++ b) rs P → ∃ r1 r2 P1 P2, rs = r1 ++ r2 ∧ CellsRd ld a r1 P1 ∧ CellsRd ld b r2 P2 ∧ ∀ n c, P n c ↔ P1 n c ∨ P2 n c
  | [], b, rs, P, h => ⟨[], rs, fun _ _ => False, P, rfl, fun _ _ h => h, h, fun n c => (false_or _).symm ▸ Iff.rfl⟩
  | c :: a, b, [], P, h => h.elim
  | c :: a, b, r :: rs, P, h => by
    obtain ⟨P1, P2, h1, h2, hP⟩ := h
    obtain ⟨r1, r2, Q1, Q2, e, k1, k2, hQ⟩ := CellsRd.split (a := a) h2
    refine ⟨r :: r1, r2, fun n c => P1 n c ∨ Q1 n c, Q2, by rw [e]; rfl, ⟨P1, Q1, h1, k1, fun _ _ => Iff.rfl⟩, k2, fun n c => ?_⟩
    rw [hP, hQ, or_assoc]
def LeavesRd (ld : Ld) : List (List C4) → List R2 → PP → Prop
  | [], rs, P => rs = [] ∧ ∀ n b, ¬ P n b
  | x :: t, rs, P => ∃ r1 r2 P1 P2, rs = r1 ++ r2 ∧ CellsRd ld x r1 P1 ∧ LeavesRd ld t r2 P2 ∧ ∀ n b, P n b ↔ P1 n b ∨ P2 n b
theorem lvs_read {ld : Ld} : ∀ (r cur : List C4) (rs : List R2) (P : PP), CellsRd ld (cur ++ r) rs P → LeavesRd ld (lvs cur r) rs P
  | [], cur, rs, P, h => by
    rw [List.append_nil] at h
    unfold lvs
    cases cur with
    | nil =>
      cases rs with
      | nil => exact ⟨rfl, h⟩
      | cons r rs => exact h.elim
    | cons a t => exact ⟨rs, [], P, fun _ _ => False, (List.append_nil _).symm, h, ⟨rfl, fun _ _ h => h⟩, fun n b => (or_false _).symm ▸ Iff.rfl⟩
  | c :: r, cur, rs, P, h => by
    unfold lvs
    split
    · exact lvs_read r _ rs P (by rw [List.append_assoc]; exact h)
    · obtain ⟨r1, r2, P1, P2, e, h1, h2, hP⟩ := CellsRd.split h
      exact ⟨r1, r2, P1, P2, e, h1, lvs_read r [c] r2 P2 h2, hP⟩
def toC (x : C4) : PRd.S61 := ⟨x.1, x.2.1, x.2.2.1, x.2.2.2⟩
def toS (x : S2) : PRd.S76 := ⟨x.1, x.2⟩
theorem rd61 (l : List C4) (i : Int) : PRd.rd_T61 (l.map toC) i = toC (atC l i.toNat) := by
  unfold PRd.rd_T61 atC
  rw [List.getD_eq_getElem?_getD, List.getD_eq_getElem?_getD, List.getElem?_map]
  cases l[i.toNat]? <;> rfl
theorem rd76 (l : List S2) (i : Int) : PRd.rd_T76 (l.map toS) i = toS (atS l i.toNat) := by
  unfold PRd.rd_T76 atS
  rw [List.getD_eq_getElem?_getD, List.getD_eq_getElem?_getD, List.getElem?_map]
  cases l[i.toNat]? <;> rfl
theorem leafE_is (l : List C4) : leafE l = PRd.leafR (l.map toC) := by
  have h := PRd.leaf_k (l.map toC)
  unfold PRd.sheet_Leaf.f at h
  injection h with h
  rw [← h]
  unfold leafE
  rw [List.length_map]
  simp only [rd61]
  rfl
theorem indexE_is (l : List S2) : indexE l = PRd.idxR (l.map toS) := by
  have h := PRd.index_k (l.map toS)
  unfold PRd.sheet_Index.f at h
  injection h with h
  rw [← h]
  unfold indexE
  rw [List.length_map]
  simp only [rd76]
  rfl
theorem cellsE_back {l : List C4} (h : (leafE l).2 = true) : cellsE (leafE l).1 = (l, true) := by
  rw [leafE_is] at h ⊢
  unfold PRd.leafR at h ⊢
  cases hk : PRd.leafOk (l.map toC) with
  | false => rw [hk, if_neg (by decide)] at h; cases h
  | true =>
    rw [if_pos rfl]
    unfold cellsE cellsP
    rw [PRd.cells_back hk 600 (Nat.le_refl _)]
    show (tC (l.map toC), true) = (l, true)
    unfold tC
    rw [List.map_map]
    congr 1
    conv => rhs; rw [← List.map_id l]
    rfl
theorem slotsE_back {l : List S2} (h : (indexE l).2 = true) : slotsE (indexE l).1 = (l, true) := by
  rw [indexE_is] at h ⊢
  unfold PRd.idxR at h ⊢
  cases hk : PRd.idxOk (l.map toS) with
  | false => rw [hk, if_neg (by decide)] at h; cases h
  | true =>
    rw [if_pos rfl]
    unfold slotsE slotsP
    rw [PRd.slots_back hk 300 (Nat.le_refl _)]
    show (tS (l.map toS), true) = (l, true)
    unfold tS
    rw [List.map_map]
    congr 1
    conv => rhs; rw [← List.map_id l]
    rfl
theorem leaves_read {ld : Ld} {K : ByteArray → Option Int} (hK : LdK ld K) : ∀ (L : List (List C4)) (T : PS) (rs : List R2) (P : PP) (S : FS), (∀ x ∈ L, x ≠ []) → (slotsF L T).2.e = 0 → Ext (slotsF L T).2.known K → LeavesRd ld L rs P → S.e = 0 → Con ld S → up (S.out ++ rs) →
    Found ld S (fSlots ld (slotsF L T).1 S) rs (fun n b => P n b ∨ (b ∈ L.map (fun x => (leafE x).1) ∧ K b = some n))
  | [], T, rs, P, S, _, _, _, ⟨h1, h2⟩, h0, hc, _ => by
    subst h1
    exact ⟨h0, (List.append_nil _).symm, hc, fun n b => ⟨.inl, fun h => h.elim id (fun h3 => h3.elim (fun h4 => absurd h4 (h2 n b)) (fun h4 => (List.not_mem_nil h4.1).elim))⟩⟩
  | x :: t, T, rs, P, S, hne, he, hx, ⟨r1, r2, P1, P2, e, h1, h2, hP⟩, h0, hc, hu => by
    have hT := slotsF_e he
    rw [slotsF_cons, if_pos hT] at he hx ⊢
    change (slotsF t (putS T (leafE x).1 (leafE x).2)).2.e = 0 at he
    change Ext (slotsF t (putS T (leafE x).1 (leafE x).2)).2.known K at hx
    have he1 := slotsF_e he
    have hi := putS_is he1
    have hkn := (slotsF_ext t _).trans hx _ _ (put_known he1)
    have hl := hK _ _ hkn
    obtain ⟨c, r, ex⟩ : ∃ c r, x = c :: r := by
      cases x with
      | nil => exact absurd rfl (hne [] List.mem_cons_self)
      | cons c r => exact ⟨c, r, rfl⟩
    generalize hp : putN T (leafE x).1 (leafE x).2 = p at *
    show Found ld S (fSlots ld (slotsF t (putS T (leafE x).1 (leafE x).2)).1 (if S.e = 0 then fLeaf ld S ((atC x 0).1, p) else S)) rs _
    rw [if_pos h0]
    obtain ⟨g1, g2⟩ := fPage_good hl h0 hc
    have hcb := cellsE_back hi
    have hfl : fLeaf ld S ((atC x 0).1, p) = fCells ld x (fPage ld S p).2 := by
      unfold fLeaf
      show (if ((cellsE (fPage ld S p).1).2 && okHd (cellsE (fPage ld S p).1).1 (atC x 0).1) = true then _ else _) = _
      rw [g1, hcb, if_pos]
      rw [ex]
      show (true && decide (c.1 = c.1)) = true
      simp
    rw [hfl]
    subst e
    obtain ⟨b1, b2, b3, b4⟩ := cells_read x r1 P1 (fPage ld S p).2 h1 g2.1 g2.2.2.1 (by
      rw [g2.2.1]
      rw [← List.append_assoc] at hu
      exact (List.pairwise_append.1 hu).1)
    rw [g2.2.1] at b2
    obtain ⟨a1, a2, a3, a4⟩ := leaves_read hK t (putS T (leafE x).1 (leafE x).2) r2 P2 (fCells ld x (fPage ld S p).2) (fun y hy => hne y (List.mem_cons_of_mem _ hy)) he hx h2 b1 b3 (by rw [b2, List.append_assoc]; exact hu)
    refine ⟨a1, by rw [a2, b2, List.append_assoc], a3, fun n b => ?_⟩
    rw [a4 n b, b4 n b, g2.2.2.2 n b]
    show ((S.pages n = some b ∨ (n = p ∧ b = (leafE x).1)) ∨ P1 n b) ∨ (P2 n b ∨ b ∈ t.map (fun x => (leafE x).1) ∧ K b = some n) ↔ S.pages n = some b ∨ (P n b ∨ b ∈ (x :: t).map (fun x => (leafE x).1) ∧ K b = some n)
    rw [hP n b, List.map_cons, List.mem_cons]
    constructor
    · rintro (((h | ⟨rfl, rfl⟩) | h) | (h | ⟨h, h9⟩))
      · exact .inl h
      · exact .inr (.inr ⟨.inl rfl, hkn⟩)
      · exact .inr (.inl (.inl h))
      · exact .inr (.inl (.inr h))
      · exact .inr (.inr ⟨.inr h, h9⟩)
    · rintro (h | (h | h) | ⟨h | h, h9⟩)
      · exact .inl (.inl (.inl h))
      · exact .inl (.inr h)
      · exact .inr (.inl h)
      · subst h
        rw [hkn] at h9
        injection h9 with h9
        exact .inl (.inl (.inr ⟨h9.symm, rfl⟩))
      · exact .inr (.inr ⟨h, h9⟩)
def planB (l hv : List R2) (fr : List Int) : List ByteArray := (indexE (planT l hv fr).1).1 :: ((lvs [] (planC l hv fr)).map (fun x => (leafE x).1) ++ chainsB l ⟨knF hv, fr, [], 0⟩)
theorem rightF_up : ∀ (l : List R2) (a : Int), rightF a l = true → up l ∧ ∀ r ∈ l, a < r.1
  | [], _, _ => ⟨List.Pairwise.nil, fun r h => (List.not_mem_nil h).elim⟩
  | x :: t, a, h => by
    unfold rightF at h
    simp only [Bool.and_eq_true, decide_eq_true_eq] at h
    obtain ⟨h1, h2⟩ := rightF_up t x.1 h.2.2.2
    refine ⟨List.Pairwise.cons (fun r hr => h2 r hr) h1, fun r hr => ?_⟩
    rcases List.mem_cons.1 hr with rfl | hr
    · exact h.1
    · have := h2 r hr; omega
theorem plan_read {l hv : List R2} {fr : List Int} {ld : Ld} (h : (planE l hv fr).2.2 = 0) (hK : LdK ld (planZ l hv fr).2.known) :
    (fRead ld (planE l hv fr).2.1).e = 0 ∧ (fRead ld (planE l hv fr).2.1).out = l ∧ ∀ n b, (fRead ld (planE l hv fr).2.1).pages n = some b ↔ (b ∈ planB l hv fr ∧ (planZ l hv fr).2.known b = some n) := by
  obtain ⟨h1, h2, h3, h4, h5⟩ := planE_ok h
  rw [h5]
  have hT : (planT l hv fr).2.e = 0 := putS_e h4
  have hS : (planS l hv fr).e = 0 := slotsF_e hT
  obtain ⟨pv, pf⟩ := mayE_pg h2
  have hpv : ∀ x ∈ hv, okP x.1 = true := fun x hx => pv _ (List.mem_map_of_mem hx)
  have hr := rightF_mem l (-1) (by omega) h1
  have hpg : PgOk (⟨knF hv, fr, [], 0⟩ : PS) := ⟨knF_pg hpv, pf⟩
  have hxT : Ext (planT l hv fr).2.known (planZ l hv fr).2.known := putS_ext _ _ _
  have hxS : Ext (planS l hv fr).known (planZ l hv fr).2.known := (slotsF_ext _ _).trans hxT
  have hcr := chains_read hK l ⟨knF hv, fr, [], 0⟩ hpg (fun r h => (hr r h).2.2) hS hxS
  have hlr := lvs_read (planC l hv fr) [] l _ hcr
  have hok : ∀ x ∈ planC l hv fr, cellOk x := chainsF_ok l ⟨knF hv, fr, [], 0⟩ hpg hr hS
  have hne : ∀ x ∈ lvs [] (planC l hv fr), x ≠ [] := lvs_full _ [] hok
  have hi := putS_is h4
  have hkn := put_known h4
  have hl := hK _ _ hkn
  show (fRead ld (planZ l hv fr).1).e = 0 ∧ (fRead ld (planZ l hv fr).1).out = l ∧ ∀ n b, (fRead ld (planZ l hv fr).1).pages n = some b ↔ _
  change ld (planZ l hv fr).1 = ((indexE (planT l hv fr).1).1, 0) at hl
  obtain ⟨g1, g2⟩ := fPage_good (S := fS0) hl rfl (fun n b h => by cases h)
  have hsb := slotsE_back hi
  have e0 : fRead ld (planZ l hv fr).1 = fSlots ld (planT l hv fr).1 (fPage ld fS0 (planZ l hv fr).1).2 := by
    unfold fRead fIdx
    rw [g1, hsb, if_pos rfl]
  rw [e0]
  obtain ⟨a1, a2, a3, a4⟩ := leaves_read hK (lvs [] (planC l hv fr)) (planS l hv fr) l _ (fPage ld fS0 (planZ l hv fr).1).2 hne hT hxT hlr g2.1 g2.2.2.1 (by rw [g2.2.1]; exact (rightF_up l (-1) h1).1)
  rw [g2.2.1] at a2
  refine ⟨a1, a2, fun n b => ?_⟩
  have e1 := a4 n b
  have e2 := g2.2.2.2 n b
  show (fSlots ld (slotsF (lvs [] (planC l hv fr)) (planS l hv fr)).1 (fPage ld fS0 (planZ l hv fr).1).2).pages n = some b ↔ _
  rw [e1, e2]
  unfold planB
  rw [List.mem_cons, List.mem_append]
  constructor
  · rintro ((h | ⟨rfl, rfl⟩) | (⟨h, h9⟩ | ⟨h, h9⟩))
    · cases h
    · exact ⟨.inl rfl, hkn⟩
    · exact ⟨.inr (.inr h), h9⟩
    · exact ⟨.inr (.inl h), h9⟩
  · rintro ⟨h | h | h, h9⟩
    · subst h
      have h8 : some (planZ l hv fr).1 = some n := hkn.symm.trans h9
      injection h8 with h8
      exact .inl (.inr ⟨h8.symm, rfl⟩)
    · exact .inr (.inr ⟨h, h9⟩)
    · exact .inr (.inl ⟨h, h9⟩)
end Go.Proofs.Ytpeeojbhfebcdaa.V
end
section
namespace Go.Proofs.Ytpeeojbhfebcdaa.V
open Go.RowKit Go.Proofs.YtpeeojbhfebcdaaW.PrintWords Go.Proofs.YtpeeojbhfebcdaaW.PrintLast Go.Proofs.YtpeeojbhfebcdaaW.PrintMore Go.Proofs.YtpeeojbhfebcdaaM
set_option linter.unusedVariables false
set_option linter.unusedSimpArgs false
structure PInv (hv : List R2) (fr : List Int) (S : PS) : Prop where
  kn : ∀ x ∈ S.out, S.known x.2 = some x.1
  apart : S.out.Pairwise fun x y => x.2 ≠ y.2
  pages : S.out.map (·.1) ++ S.free = fr
  old : ∀ y ∈ hv, S.known y.2 ≠ none
  new : ∀ x ∈ S.out, ∀ y ∈ hv, x.2 ≠ y.2
theorem PInv.put {hv : List R2} {fr : List Int} {S : PS} (h : PInv hv fr S) (b : ByteArray) (is : Bool) : PInv hv fr (putS S b is) := by
  by_cases he : S.e = 0
  · cases is with
    | false =>
      have : putS S b false = { S with e := 9 } := by unfold putS; rw [if_pos he]; rfl
      rw [this]
      exact ⟨h.kn, h.apart, h.pages, h.old, h.new⟩
    | true =>
      cases hk : S.known b with
      | some n => rw [(put_some he hk).1]; exact h
      | none =>
        cases hf : S.free with
        | nil => rw [put_nil he hk hf]; exact ⟨h.kn, h.apart, h.pages, h.old, h.new⟩
        | cons n f =>
          rw [(put_cons he hk hf).1]
          have hne : ∀ x ∈ S.out, x.2 ≠ b := fun x hx e => by have := h.kn x hx; rw [e, hk] at this; cases this
          have hno : ∀ y ∈ hv, y.2 ≠ b := fun y hy e => h.old y hy (by rw [e]; exact hk)
          refine ⟨fun x hx => ?_, ?_, ?_, fun y hy => ?_, fun x hx y hy => ?_⟩
          · show upd S.known b n x.2 = some x.1
            rcases List.mem_append.1 hx with hx | hx
            · rw [upd_ne _ _ (hne x hx)]; exact h.kn x hx
            · rw [List.mem_singleton] at hx
              rw [hx]; exact upd_same _ _ _
          · show (S.out ++ [(n, b)]).Pairwise _
            rw [List.pairwise_append]
            refine ⟨h.apart, List.pairwise_singleton _ _, fun x hx y hy => ?_⟩
            rw [List.mem_singleton] at hy
            rw [hy]; exact hne x hx
          · show (S.out ++ [(n, b)]).map (·.1) ++ f = fr
            have := h.pages
            rw [hf] at this
            rw [List.map_append, List.append_assoc]; exact this
          · show upd S.known b n y.2 ≠ none
            rw [upd_ne _ _ (hno y hy)]; exact h.old y hy
          · rcases List.mem_append.1 hx with hx | hx
            · exact h.new x hx y hy
            · rw [List.mem_singleton] at hx
              rw [hx]; exact fun e => hno y hy e.symm
  · rw [putS_stuck he]; exact h
theorem PInv.chain {hv : List R2} {fr : List Int} : ∀ (l : List ByteArray) {S : PS}, PInv hv fr S → PInv hv fr (chainF l S).2
  | [], _, h => h
  | x :: t, _, h => by rw [chainF_cons]; exact (PInv.chain t h).put _ _
theorem PInv.chains {hv : List R2} {fr : List Int} : ∀ (l : List R2) {S : PS}, PInv hv fr S → PInv hv fr (chainsF l S).2
  | [], _, h => h
  | x :: t, _, h => by
    rw [chainsF_cons]
    split
    · exact PInv.chains t (PInv.chain _ h)
    · exact PInv.chains t h
theorem PInv.slots {hv : List R2} {fr : List Int} : ∀ (l : List (List C4)) {S : PS}, PInv hv fr S → PInv hv fr (slotsF l S).2
  | [], _, h => h
  | x :: t, _, h => by
    rw [slotsF_cons]
    split
    · exact PInv.slots t (h.put _ _)
    · exact PInv.slots t h
theorem knF_old (hv : List R2) : ∀ y ∈ hv, knF hv y.2 ≠ none := by
  have H : ∀ (l : List R2) (k : ByteArray → Option Int) (b : ByteArray), (k b ≠ none ∨ ∃ y ∈ l, y.2 = b) → l.foldl knS k b ≠ none := by
    intro l
    induction l with
    | nil =>
      intro k b h
      rcases h with h | ⟨y, hy, _⟩
      · exact h
      · cases hy
    | cons x t ih =>
      intro k b h
      refine ih _ _ ?_
      by_cases hx : knS k x b ≠ none
      · exact .inl hx
      · have hx := Classical.not_not.1 hx
        refine .inr ?_
        rcases h with h | ⟨y, hy, e⟩
        · exfalso
          unfold knS at hx
          cases hk : k x.2 with
          | some n => rw [hk] at hx; exact h hx
          | none =>
            rw [hk] at hx
            change upd k x.2 x.1 b = none at hx
            by_cases e : b = x.2
            · rw [e, upd_same] at hx; cases hx
            · rw [upd_ne _ _ e] at hx; exact h hx
        · rcases List.mem_cons.1 hy with rfl | hy
          · exfalso
            unfold knS at hx
            cases hk : k y.2 with
            | some n => rw [hk] at hx; change k b = none at hx; rw [← e, hk] at hx; cases hx
            | none =>
              rw [hk] at hx
              change upd k y.2 y.1 b = none at hx
              rw [← e, upd_same] at hx; cases hx
          · exact ⟨y, hy, e⟩
  exact fun y hy => H hv _ _ (.inr ⟨y, hy, rfl⟩)
theorem plan_inv (l hv : List R2) (fr : List Int) : PInv hv fr (planZ l hv fr).2 := by
  have h0 : PInv hv fr (⟨knF hv, fr, [], 0⟩ : PS) := ⟨fun x hx => (List.not_mem_nil hx).elim, List.Pairwise.nil, rfl, knF_old hv, fun x hx => (List.not_mem_nil hx).elim⟩
  have h1 : PInv hv fr (planS l hv fr) := PInv.chains l h0
  have h2 : PInv hv fr (planT l hv fr).2 := PInv.slots _ h1
  exact h2.put _ _
theorem knF_mem (l : List R2) : ∀ b n, knF l b = some n → (n, b) ∈ l := by
  have H : ∀ (l : List R2) (k : ByteArray → Option Int) (b : ByteArray) (n : Int), l.foldl knS k b = some n → k b = some n ∨ (n, b) ∈ l := by
    intro l
    induction l with
    | nil => intro k b n h; exact .inl h
    | cons x t ih =>
      intro k b n h
      rcases ih _ _ _ h with h | h
      · unfold knS at h
        cases hk : k x.2 with
        | some m => rw [hk] at h; exact .inl h
        | none =>
          rw [hk] at h
          change upd k x.2 x.1 b = some n at h
          by_cases e : b = x.2
          · rw [e, upd_same] at h
            injection h with h
            refine .inr ?_
            rw [e, ← h]; exact List.mem_cons_self
          · rw [upd_ne _ _ e] at h; exact .inl h
      · exact .inr (List.mem_cons_of_mem _ h)
  intro b n h
  rcases H l _ b n h with h | h
  · cases h
  · exact h
theorem chainF_only : ∀ (l : List ByteArray) (S : PS) (b : ByteArray), (chainF l S).2.known b ≠ none → S.known b ≠ none ∨ b ∈ chainB l S
  | [], S, b, h => .inl h
  | x :: t, S, b, h => by
    rw [chainF_cons] at h
    rcases putS_mem h with h | ⟨rfl, _⟩
    · exact (chainF_only t S b h).imp id (fun h => List.mem_cons_of_mem _ h)
    · exact .inr List.mem_cons_self
theorem chainsF_only : ∀ (l : List R2) (S : PS) (b : ByteArray), (chainsF l S).2.known b ≠ none → S.known b ≠ none ∨ b ∈ chainsB l S
  | [], S, b, h => .inl h
  | r :: t, S, b, h => by
    rw [chainsF_cons] at h
    rw [chainsB_cons]
    split at h
    · rename_i h24
      rw [if_pos h24, List.mem_append]
      rcases chainsF_only t _ b h with h | h
      · exact (chainF_only _ _ _ h).imp id .inl
      · exact .inr (.inr h)
    · rename_i h24
      rw [if_neg h24]
      exact chainsF_only t _ b h
theorem slotsF_only : ∀ (L : List (List C4)) (S : PS) (b : ByteArray), (slotsF L S).2.known b ≠ none → S.known b ≠ none ∨ b ∈ L.map (fun x => (leafE x).1)
  | [], S, b, h => .inl h
  | x :: t, S, b, h => by
    rw [slotsF_cons] at h
    rw [List.map_cons, List.mem_cons]
    split at h
    · rcases slotsF_only t _ b h with h | h
      · rcases putS_mem h with h | ⟨rfl, _⟩
        · exact .inl h
        · exact .inr (.inl rfl)
      · exact .inr (.inr h)
    · exact (slotsF_only t _ b h).imp id .inr
theorem planB_only {l : List R2} {fr : List Int} {b : ByteArray} (h : (planZ l [] fr).2.known b ≠ none) : b ∈ planB l [] fr := by
  unfold planB
  rw [List.mem_cons, List.mem_append]
  rcases putS_mem (S := (planT l [] fr).2) h with h | ⟨rfl, _⟩
  · rcases slotsF_only _ _ _ (show (slotsF (lvs [] (planC l [] fr)) (planS l [] fr)).2.known b ≠ none from h) with h | h
    · rcases chainsF_only l ⟨knF [], fr, [], 0⟩ b h with h | h
      · exact absurd rfl h
      · exact .inr (.inr h)
    · exact .inr (.inl h)
  · exact .inl rfl
theorem plan_pages {l : List R2} {fr : List Int} {ld : Ld} (h : (planE l [] fr).2.2 = 0) (hK : LdK ld (planZ l [] fr).2.known) (n : Int) (b : ByteArray) :
    (fRead ld (planE l [] fr).2.1).pages n = some b ↔ (n, b) ∈ (planE l [] fr).1 := by
  have hp := plan_inv l [] fr
  rw [(plan_read h hK).2.2 n b, (planE_ok h).2.2.2.2]
  show _ ↔ (n, b) ∈ (planZ l [] fr).2.out
  have hkn : (planZ l [] fr).2.known = knF ([] ++ (planZ l [] fr).2.out) := planZ_kn l [] fr
  constructor
  · rintro ⟨_, h2⟩
    rw [hkn] at h2
    exact knF_mem _ _ _ h2
  · intro h2
    have h3 := hp.kn _ h2
    exact ⟨planB_only (by rw [h3]; exact Option.some_ne_none _), h3⟩
theorem same_len {xs ys : List R2} (h1 : xs.Pairwise fun p q => p.1 ≠ q.1) (h2 : ys.Pairwise fun p q => p.1 ≠ q.1) (h : ∀ n b, (n, b) ∈ xs ↔ (n, b) ∈ ys) : xs.length = ys.length := by
  have nd : ∀ {l : List R2}, (l.Pairwise fun p q => p.1 ≠ q.1) → l.Nodup := fun h => h.imp (fun h e => h (by rw [e]))
  exact Nat.le_antisymm (nodup_len xs ys (nd h1) (fun x hx => (h x.1 x.2).1 hx)) (nodup_len ys xs (nd h2) (fun x hx => (h x.1 x.2).2 hx))
theorem out_apart {l hv : List R2} {fr : List Int} (hf : fr.Nodup) : (planZ l hv fr).2.out.Pairwise fun p q => p.1 ≠ q.1 := by
  have hp := (plan_inv l hv fr).pages
  rw [← hp] at hf
  have h1 := (List.nodup_append.1 hf).1
  unfold List.Nodup at h1
  rw [List.pairwise_map] at h1
  exact h1
def lastL (f : Int → Option ByteArray) (l : List R2) : Int → Option ByteArray := l.foldl (fun f x => upd f x.1 x.2) f
theorem lastL_old : ∀ (l : List R2) (f : Int → Option ByteArray) (n : Int), (∀ x ∈ l, x.1 ≠ n) → lastL f l n = f n
  | [], f, n, _ => rfl
  | x :: t, f, n, h => by
    show lastL (upd f x.1 x.2) t n = f n
    rw [lastL_old t _ n (fun y hy => h y (List.mem_cons_of_mem _ hy)), upd_ne _ _ (fun e => h x List.mem_cons_self e.symm)]
theorem lastL_mem : ∀ (l : List R2) (f : Int → Option ByteArray), (l.Pairwise fun p q => p.1 ≠ q.1) → ∀ x ∈ l, lastL f l x.1 = some x.2
  | [], f, _, x, hx => (List.not_mem_nil hx).elim
  | y :: t, f, h, x, hx => by
    obtain ⟨h1, h2⟩ := List.pairwise_cons.1 h
    show lastL (upd f y.1 y.2) t x.1 = some x.2
    rcases List.mem_cons.1 hx with rfl | hx
    · rw [lastL_old t _ _ (fun z hz e => h1 z hz e.symm), upd_same]
    · exact lastL_mem t _ h2 x hx
end Go.Proofs.Ytpeeojbhfebcdaa.V
end
section
namespace Go.Proofs.Ytpeeojbhfebcdaa.VP
open Go Go.ChangeMaps Go.MapKept
open Go.Maps (Keyed)
set_option linter.unusedVariables false
set_option linter.unusedSimpArgs false
def IsLast (w : World) (b : Nat) (f : Int → Option ByteArray) : Prop :=
  ∃ es clock, w.heap[b]? = some (.map es clock) ∧
    (∀ e ∈ es.toList, ∃ n s, e.key = .int .i64 n ∧ (Lit.int .i64 n).wf = true ∧ e.val = .string s ∧ f n = some s) ∧
    (∀ n s, f n = some s → ∃ e ∈ es.toList, e.key = .int .i64 n) ∧
    es.toList.Pairwise (fun x y => x.key ≠ y.key)
def upd (f : Int → Option ByteArray) (n : Int) (s : ByteArray) : Int → Option ByteArray := fun m => if m = n then some s else f m
theorem upd_same (f : Int → Option ByteArray) (n : Int) (s : ByteArray) : upd f n s n = some s := if_pos rfl
theorem upd_ne (f : Int → Option ByteArray) {n m : Int} (s : ByteArray) (h : m ≠ n) : upd f n s m = f m := if_neg h
section
variable {P : Program} {t k e : TypeId} {w w' : World} {b : Nat} {f : Int → Option ByteArray}
theorem IsLast.at (h : IsLast w b f) (hb : w'.heap[b]? = w.heap[b]?) : IsLast w' b f := by
  obtain ⟨es, c, h1, h2⟩ := h
  exact ⟨es, c, hb.trans h1, h2⟩
theorem IsLast.lt (h : IsLast w b f) : b < w.heap.size := by
  obtain ⟨es, c, h1, _⟩ := h
  rcases Nat.lt_or_ge b w.heap.size with h | h
  · exact h
  · rw [Array.getElem?_eq_none h] at h1; cases h1
theorem IsLast.congr {g : Int → Option ByteArray} (h : IsLast w b f) (hg : ∀ n, g n = f n) : IsLast w b g := by
  obtain rfl : g = f := funext hg
  exact h
theorem IsLast.made (w : World) : IsLast (w.alloc (.map #[] 0)) w.heap.size (fun _ => none) := by
  exact ⟨#[], 0, (MapKept.heap_alloc w _).1, fun e he => by simp at he, fun n s h => by simp at h, List.Pairwise.nil⟩
theorem IsLast.look (h : IsLast w b f) (ht : P.underlying t = some (.map k e)) (hk : P.underlying k = some (.int .i64)) (hz : (zeroValue e).run P w = .ok (.string ⟨#[]⟩) w) (n : Int) (hn : (Lit.int .i64 n).wf = true) :
    (Instr.lookup t (.map (some b)) (.int .i64 n) true).run P w = .ok (.tuple #[.string ((f n).getD ⟨#[]⟩), .bool (f n).isSome]) w := by
  obtain ⟨es, c, hb, h1, h2, h3⟩ := h
  have K := Maps.int_keyed hk
  have hkey := Maps.keyOf_int_mk hk hn
  have hks : ∀ e ∈ es.toList, ∃ l, keyOf P k e.key = some l := fun e he => by
    obtain ⟨m, s, e1, e2, _⟩ := h1 e he
    exact ⟨_, by rw [e1]; exact Maps.keyOf_int_mk hk e2⟩
  rcases K.find w hkey es.toList hks with ⟨g1, g2⟩ | ⟨j, e0, g1, g2, g3⟩
  · have hf : f n = none := by
      cases hfn : f n with
      | none => rfl
      | some s => obtain ⟨e, he, he2⟩ := h2 n s hfn; exact absurd he2 (g2 e he)
    rw [hf]
    simp [Instr.lookup, run_underlying ht, MapKept.run_getObj_map hb, K.check w _ hkey, g1, hz, Result.andThen]
  · obtain ⟨m, s, e1, _, e3, e4⟩ := h1 e0 (List.mem_of_getElem? g2)
    rw [g3] at e1
    injection e1 with _ e1
    subst e1
    rw [e4]
    simp [Instr.lookup, run_underlying ht, MapKept.run_getObj_map hb, K.check w _ hkey, g1, e3, Result.andThen]
theorem IsLast.store (h : IsLast w b f) (ht : P.underlying t = some (.map k e)) (hk : P.underlying k = some (.int .i64)) (n : Int) (hn : (Lit.int .i64 n).wf = true) (s : ByteArray) :
    ∃ w', (Instr.mapUpdate t (.map (some b)) (.int .i64 n) (.string s)).run P w = .ok () w' ∧ IsLast w' b (upd f n s) ∧ w.grownBy w' (some b) := by
  obtain ⟨es, c, hb, h1, h2, h3⟩ := h
  have K := Maps.int_keyed hk
  have hkey := Maps.keyOf_int_mk hk hn
  have hks : ∀ e ∈ es.toList, ∃ l, keyOf P k e.key = some l := fun e he => by
    obtain ⟨m, s, e1, e2, _⟩ := h1 e he
    exact ⟨_, by rw [e1]; exact Maps.keyOf_int_mk hk e2⟩
  have grown : ∀ es' c', w.grownBy (setBlock w b (.map es' c')) (some b) := fun es' c' => ⟨rfl, rfl, rfl, by simp [setBlock], fun i _ hi => heap_setBlock_other hb _ (fun e => hi (by rw [e]))⟩
  rcases K.find w hkey es.toList hks with ⟨g1, g2⟩ | ⟨j, e0, g1, g2, g3⟩
  · refine ⟨setBlock w b (.map (es.push ⟨.int .i64 n, .string s, c⟩) (c + 1)), ?_, ⟨_, _, heap_setBlock_same hb _, ?_, ?_, ?_⟩, grown _ _⟩
    · simp [Instr.mapUpdate, run_underlying ht, MapKept.run_getObj_map hb, K.check w false hkey, g1, MapKept.run_setObj_map _ hb, Result.andThen, setBlock]
    · intro x hx
      simp only [Array.toList_push, List.mem_append, List.mem_singleton] at hx
      rcases hx with hx | rfl
      · obtain ⟨m, u, e1, e2, e3, e4⟩ := h1 x hx
        refine ⟨m, u, e1, e2, e3, ?_⟩
        rw [upd_ne _ _ (fun hm => g2 x hx (by rw [e1, hm]))]; exact e4
      · exact ⟨n, s, rfl, hn, rfl, upd_same _ _ _⟩
    · intro m u hm
      simp only [Array.toList_push, List.mem_append, List.mem_singleton]
      by_cases hmn : m = n
      · exact ⟨_, .inr rfl, by rw [hmn]⟩
      · rw [upd_ne _ _ hmn] at hm
        obtain ⟨x, hx, hx2⟩ := h2 m u hm
        exact ⟨x, .inl hx, hx2⟩
    · rw [Array.toList_push]
      refine List.pairwise_append.2 ⟨h3, List.pairwise_singleton _ _, fun x hx y hy => ?_⟩
      rw [List.mem_singleton] at hy
      subst hy
      exact g2 x hx
  · have hj : es[j]? = some e0 := by simpa using g2
    have hjl : j < es.size := (Array.getElem?_eq_some_iff.1 hj).1
    have hm : (es.modify j fun e => { e with key := .int .i64 n, val := .string s }).toList = es.toList.set j { e0 with key := .int .i64 n, val := .string s } := by
      rw [Array.toList_modify]
      apply List.ext_getElem?
      intro i
      rw [List.getElem?_modify, List.getElem?_set]
      by_cases hij : j = i
      · subst hij
        have : j < es.toList.length := by simpa using hjl
        rw [if_pos rfl, if_pos this, g2]; simp
      · rw [if_neg hij]; simp [hij]
    have hsk : (Instr.keyThatStays (((es[j]?).map (·.key)).getD (.int .i64 n)) (.int .i64 n)).run P w = .ok (.int .i64 n) w := by
      rw [hj]
      simp only [Option.map_some, Option.getD_some, g3]
      exact K.stays w hkey
    refine ⟨setBlock w b (.map (es.modify j fun e => { e with key := .int .i64 n, val := .string s }) c), ?_, ⟨_, _, heap_setBlock_same hb _, ?_, ?_, ?_⟩, grown _ _⟩
    · simp [Instr.mapUpdate, run_underlying ht, MapKept.run_getObj_map hb, K.check w false hkey, g1, hsk, MapKept.run_setObj_map _ hb, Result.andThen, setBlock]
    · intro x hx
      rw [hm] at hx
      obtain ⟨i, hi⟩ := List.getElem?_of_mem hx
      rw [List.getElem?_set] at hi
      by_cases hij : j = i
      · rw [if_pos hij] at hi
        split at hi
        · injection hi with hi
          subst hi
          exact ⟨n, s, rfl, hn, rfl, upd_same _ _ _⟩
        · cases hi
      · rw [if_neg hij] at hi
        obtain ⟨m, u, e1, e2, e3, e4⟩ := h1 x (List.mem_of_getElem? hi)
        refine ⟨m, u, e1, e2, e3, ?_⟩
        have hne : m ≠ n := by
          intro hmn
          have hp := List.pairwise_iff_getElem.1 h3
          have hil := (List.getElem?_eq_some_iff.1 hi)
          have hjl2 := (List.getElem?_eq_some_iff.1 g2)
          obtain ⟨hil, hie⟩ := hil
          obtain ⟨hjl2, hje⟩ := hjl2
          rcases Nat.lt_or_gt_of_ne hij with h | h
          · exact hp j i hjl2 hil h (by rw [hie, hje, e1, g3, hmn])
          · exact hp i j hil hjl2 h (by rw [hie, hje, e1, g3, hmn])
        rw [upd_ne _ _ hne]; exact e4
    · intro m u hmu
      rw [hm]
      by_cases hmn : m = n
      · subst hmn
        exact ⟨_, List.mem_of_getElem? (i := j) (by rw [List.getElem?_set, if_pos rfl, if_pos (by simpa using hjl)]), rfl⟩
      · rw [upd_ne _ _ hmn] at hmu
        obtain ⟨x, hx, hx2⟩ := h2 m u hmu
        obtain ⟨i, hi⟩ := List.getElem?_of_mem hx
        have hij : j ≠ i := by
          rintro rfl
          rw [g2] at hi
          injection hi with hi
          rw [← hi, g3] at hx2
          injection hx2 with _ hx2
          exact hmn hx2.symm
        exact ⟨x, List.mem_of_getElem? (i := i) (by rw [List.getElem?_set, if_neg hij]; exact hi), hx2⟩
    · rw [hm]
      refine List.pairwise_iff_getElem.2 fun i i2 hi hi2 hlt => ?_
      rw [List.length_set] at hi hi2
      have hp := List.pairwise_iff_getElem.1 h3
      obtain ⟨hjl2, hje⟩ := List.getElem?_eq_some_iff.1 g2
      rw [List.getElem_set, List.getElem_set]
      by_cases h4 : j = i
      · subst h4
        rw [if_pos rfl, if_neg (by omega)]
        have := hp j i2 hjl2 hi2 hlt
        rw [hje, g3] at this
        exact this
      · rw [if_neg h4]
        by_cases h5 : j = i2
        · subst h5
          rw [if_pos rfl]
          have := hp i j hi hjl2 hlt
          rw [hje, g3] at this
          exact this
        · rw [if_neg h5]
          exact hp i i2 hi hi2 hlt
theorem IsLast.clear (h : IsLast w b f) (ht : P.underlying t = some (.map k e)) (ty : TypeId) :
    ∃ w', (Builtin.clear_ #[t] ty #[.map (some b)]).run P w = .ok (.tuple #[]) w' ∧ IsLast w' b (fun _ => none) ∧ w.grownBy w' (some b) := by
  obtain ⟨es, c, hb, h1, h2, h3⟩ := h
  refine ⟨setBlock w b (.map #[] c), ?_, ⟨_, _, heap_setBlock_same hb _, fun x hx => by simp at hx, fun n s h => by simp at h, List.Pairwise.nil⟩, ⟨rfl, rfl, rfl, by simp [setBlock], fun i _ hi => heap_setBlock_other hb _ (fun e => hi (by rw [e]))⟩⟩
  simp [Builtin.clear_, run_underlying ht, MapKept.run_getObj_map hb, MapKept.run_setObj_map _ hb, Result.andThen, setBlock]
end
end Go.Proofs.Ytpeeojbhfebcdaa.VP
end
section
namespace Go.Proofs.Ytpeeojbhfebcdaa.VP
open Go.RowKit Go.Proofs.YtpeeojbhfebcdaaW.PrintWords Go.Proofs.YtpeeojbhfebcdaaW.PrintLast Go.Proofs.YtpeeojbhfebcdaaW.PrintMore
set_option linter.unusedVariables false
set_option linter.unusedSimpArgs false
structure S101 where
  f0 : Int
  f1 : ByteArray
def k101 : Kd S101 := Kd.iso (Kd.pair (Kd.int .i64) Kd.string) (fun x : S101 => (x.f0, x.f1))
theorem k101_mkM (w : World) (base : Nat) (ok : Nat → Prop) (x : S101) : k101.M w base ok x [.int .i64 x.f0, .string x.f1] := ⟨[.int .i64 x.f0], [.string x.f1], rfl, rfl, rfl⟩
structure PS where
  safe : List ByteArray
  last : Int → Option ByteArray
  afl : List S101
  halts : Bool
  after : Int
  halted : Bool
def IsP (base : Nat) (F : Nat → Prop) (w : World) (g : Nat) (S : PS) : Prop :=
  ∃ v m B, w.heap[g]? = some (.cells #[v, .map (some m), B, .bool S.halts, .int .i64 S.after, .bool S.halted] 98 (0, 0)) ∧
    base ≤ g ∧ F g ∧ base ≤ m ∧ F m ∧ Kd.R Kd.string 9 w base F v S.safe ∧ Kd.R k101 101 w base F B S.afl ∧ IsLast w m S.last
section
variable {base : Nat} {F F' : Nat → Prop} {w w' : World} {g : Nat} {S : PS}
theorem IsP.mono (h : IsP base F w g S) (hF : ∀ k, F k → F' k) : IsP base F' w g S := by
  obtain ⟨v, m, B, h1, h2, h3, h4, h5, h6, h7, h8⟩ := h
  exact ⟨v, m, B, h1, h2, hF _ h3, h4, hF _ h5, Kd.R_mono h6 hF, Kd.R_mono h7 hF, h8⟩
theorem IsP.lt (h : IsP base F w g S) : g < w.heap.size := by
  obtain ⟨v, m, B, h1, _⟩ := h
  exact blk_lt h1
theorem IsP.step (h : IsP base F w g S) (hm : ∀ k, F k → k < w.heap.size → w'.heap[k]? = w.heap[k]?) : IsP base F w' g S := by
  obtain ⟨v, m, B, h1, h2, h3, h4, h5, h6, h7, h8⟩ := h
  exact ⟨v, m, B, (hm g h3 (blk_lt h1)).trans h1, h2, h3, h4, h5, Kd.R_step h6 hm, Kd.R_step h7 hm, h8.at (hm m h5 h8.lt)⟩
theorem IsP.below (h : IsP base F w g S) (hb : Below w.heap.size w w') : IsP base F w' g S := h.step (fun k _ hk => hb.block k hk)
theorem IsP.kept {T : Nat → Prop} (h : IsP base F w g S) (hk : Kept w w' T) (hn : ∀ k, F k → ¬ T k) : IsP base F w' g S := h.step (fun k hF hlt => hk.2 k hlt (hn k hF))
theorem IsP.cells (h : IsP base F w g S) : ∃ A c m B d, w.heap[g]? = some (.cells #[.slice A S.safe.length c, .map (some m), .slice B S.afl.length d, .bool S.halts, .int .i64 S.after, .bool S.halted] 98 (0, 0)) ∧
    base ≤ g ∧ F g ∧ base ≤ m ∧ F m ∧ Kd.R Kd.string 9 w base F (.slice A S.safe.length c) S.safe ∧ Kd.R k101 101 w base F (.slice B S.afl.length d) S.afl ∧ IsLast w m S.last := by
  obtain ⟨v, m, B, h1, h2, h3, h4, h5, h6, h7, h8⟩ := h
  obtain ⟨A, c, rfl⟩ := Kd.R_slice h6
  obtain ⟨B', d, rfl⟩ := Kd.R_slice h7
  exact ⟨A, c, m, B', d, h1, h2, h3, h4, h5, h6, h7, h8⟩
end
theorem cell62 {w : World} {g : Nat} {a b c d e f : Value} (h : w.heap[g]? = some (.cells #[a, b, c, d, e, f] 98 (0, 0))) :
    w.cell? ⟨g, 0, none⟩ = some a ∧ w.cell? ⟨g, 1, none⟩ = some b ∧ w.cell? ⟨g, 2, none⟩ = some c ∧ w.cell? ⟨g, 3, none⟩ = some d ∧ w.cell? ⟨g, 4, none⟩ = some e ∧ w.cell? ⟨g, 5, none⟩ = some f :=
  ⟨(blk_cell h 0).trans rfl, (blk_cell h 1).trans rfl, (blk_cell h 2).trans rfl, (blk_cell h 3).trans rfl, (blk_cell h 4).trans rfl, (blk_cell h 5).trans rfl⟩
set_option maxHeartbeats 8000000 in
set_option maxRecDepth 100000 in
theorem halted_any {base : Nat} {F : Nat → Prop} {w : World} {g : Nat} {S : PS} (h : IsP base F w g S) :
    Calls Try.prog 70 #[.pointer (some ⟨g, 0, none⟩)] w fun e w' => e = .returned (.bool S.halted) ∧ Below w.heap.size w w' := by
  obtain ⟨A, c, m, B, d, h1, _⟩ := h.cells
  obtain ⟨c0, c1, c2, c3, c4, c5⟩ := cell62 h1
  have HB := Aside0.mk (Below.refl w.heap.size w)
  go_enter Try.func70, Try.ntmps70
  go_wp2
  go_ret
  exact ⟨by first | rfl | simp, by repeat (first | (with_reducible first | exact HB.out | apply below_alloc | apply pw_below_drewN | apply below_drew1) | exact HB.out)⟩
def mayE (S : PS) (n : Int) : Int := if S.halted = true then 7 else if n < 0 then 6 else if (S.safe.length : Int) ≤ n then 6 else 0
set_option maxHeartbeats 8000000 in
set_option maxRecDepth 100000 in
theorem may_any {base : Nat} {F : Nat → Prop} {w : World} {g : Nat} {S : PS} (h : IsP base F w g S) (n : Int) :
    Calls Try.prog 42 #[.pointer (some ⟨g, 0, none⟩), .int .i64 n] w fun e w' => e = .returned (.int .i64 (mayE S n)) ∧ Below w.heap.size w w' := by
  have HP := Aside0.mk h
  have HB := Aside0.mk (Below.refl w.heap.size w)
  obtain ⟨A, c, m, B, d, h1, _⟩ := h.cells
  have H1 := Aside0.mk h1
  unfold mayE
  cases hh : S.halted with
  | true =>
    go_enter Try.func42, Try.ntmps42
    go_wp2_with (first | (go_at_call 70; (with_reducible refine (halted_any HP.out).mono ?_); rintro e w1 ⟨rfl, hb⟩; rw [hh]; have n0_ := Aside0.mk (below_step (by repeat (first | (with_reducible first | exact HB.out | apply below_alloc | apply pw_below_drewN | apply below_drew1) | exact HB.out)) hb); clear HB; have HB := n0_; clear n0_))
    go_ret
    exact ⟨by first | rfl | simp, by repeat (first | (with_reducible first | exact HB.out | apply below_alloc | apply pw_below_drewN | apply below_drew1) | exact HB.out)⟩
  | false =>
    by_cases hn : n < 0
    · have hn1 := decide_eq_true hn
      simp only [Bool.false_eq_true, if_false, if_pos hn]
      clear hn
      go_enter Try.func42, Try.ntmps42
      go_wp2_with (first | (go_at_call 70; (with_reducible refine (halted_any HP.out).mono ?_); rintro e w1 ⟨rfl, hb⟩; rw [hh]; have c0 := (cell62 ((hb.block g (blk_lt H1.out)).trans H1.out)).1; have n0_ := Aside0.mk (below_step (by repeat (first | (with_reducible first | exact HB.out | apply below_alloc | apply pw_below_drewN | apply below_drew1) | exact HB.out)) hb); clear HB; have HB := n0_; clear n0_))
      go_ret
      exact ⟨by first | rfl | simp, by repeat (first | (with_reducible first | exact HB.out | apply below_alloc | apply pw_below_drewN | apply below_drew1) | exact HB.out)⟩
    · have hn1 := decide_eq_false hn
      by_cases hl : (S.safe.length : Int) ≤ n
      · have hl1 := decide_eq_true hl
        simp only [Bool.false_eq_true, if_false, if_neg hn, if_pos hl]
        clear hn hl
        go_enter Try.func42, Try.ntmps42
        go_wp2_with (first | (go_at_call 70; (with_reducible refine (halted_any HP.out).mono ?_); rintro e w1 ⟨rfl, hb⟩; rw [hh]; have c0 := (cell62 ((hb.block g (blk_lt H1.out)).trans H1.out)).1; have n0_ := Aside0.mk (below_step (by repeat (first | (with_reducible first | exact HB.out | apply below_alloc | apply pw_below_drewN | apply below_drew1) | exact HB.out)) hb); clear HB; have HB := n0_; clear n0_))
        go_ret
        exact ⟨by first | rfl | simp, by repeat (first | (with_reducible first | exact HB.out | apply below_alloc | apply pw_below_drewN | apply below_drew1) | exact HB.out)⟩
      · have hl1 := decide_eq_false hl
        simp only [Bool.false_eq_true, if_false, if_neg hn, if_neg hl]
        clear hn hl
        go_enter Try.func42, Try.ntmps42
        go_wp2_with (first | (go_at_call 70; (with_reducible refine (halted_any HP.out).mono ?_); rintro e w1 ⟨rfl, hb⟩; rw [hh]; have c0 := (cell62 ((hb.block g (blk_lt H1.out)).trans H1.out)).1; have n0_ := Aside0.mk (below_step (by repeat (first | (with_reducible first | exact HB.out | apply below_alloc | apply pw_below_drewN | apply below_drew1) | exact HB.out)) hb); clear HB; have HB := n0_; clear n0_))
        go_ret
        exact ⟨by first | rfl | simp, by repeat (first | (with_reducible first | exact HB.out | apply below_alloc | apply pw_below_drewN | apply below_drew1) | exact HB.out)⟩
def loadE (S : PS) (n : Int) : ByteArray × Int := if mayE S n = 0 then ((S.last n).getD (S.safe.getD n.toNat ⟨#[]⟩), 0) else (⟨#[]⟩, mayE S n)
theorem mayE_ok {S : PS} {n : Int} (h : mayE S n = 0) : S.halted = false ∧ 0 ≤ n ∧ n < S.safe.length := by
  unfold mayE at h
  cases hh : S.halted with
  | true => rw [hh, if_pos rfl] at h; cases h
  | false =>
    rw [hh, if_neg (by decide)] at h
    by_cases h1 : n < 0
    · rw [if_pos h1] at h; cases h
    · rw [if_neg h1] at h
      by_cases h2 : (S.safe.length : Int) ≤ n
      · rw [if_pos h2] at h; cases h
      · exact ⟨rfl, by omega, by omega⟩
theorem mayE_cases (S : PS) (n : Int) : mayE S n = 0 ∨ mayE S n = 6 ∨ mayE S n = 7 := by
  unfold mayE
  split
  · exact .inr (.inr rfl)
  · split
    · exact .inr (.inl rfl)
    · split
      · exact .inr (.inl rfl)
      · exact .inl rfl
theorem zero9 (w : World) : (zeroValue 9).run Try.prog w = .ok (.string ⟨#[]⟩) w := by kernel_rfl
set_option maxHeartbeats 8000000 in
set_option maxRecDepth 100000 in
theorem load_any {base : Nat} {F : Nat → Prop} {w : World} {g : Nat} {S : PS} (h : IsP base F w g S) (n : Int) (wn : (Lit.int .i64 n).wf = true) :
    Calls Try.prog 24 #[.pointer (some ⟨g, 0, none⟩), .int .i64 n] w fun e w' => e = .returned (.tuple #[.string (loadE S n).1, .int .i64 (loadE S n).2]) ∧ Below w.heap.size w w' := by
  have HP := Aside0.mk h
  have HB := Aside0.mk (Below.refl w.heap.size w)
  obtain ⟨A, c, m, B, d, h1, _, _, _, _, h6, _, h8⟩ := h.cells
  have H1 := Aside0.mk h1
  have H6 := Aside0.mk h6
  have H8 := Aside0.mk h8
  clear h1 h6 h8
  unfold loadE
  by_cases hm : mayE S n = 0
  · obtain ⟨_, hn0, hn1⟩ := mayE_ok hm
    rw [if_pos hm]
    cases hl : S.last n with
    | some b =>
      go_enter Try.func24, Try.ntmps24
      go_wp2_with (first | (go_at_call 42; (with_reducible refine (may_any HP.out n).mono ?_); rintro e w1 ⟨rfl, hb⟩; rw [hm]; obtain ⟨c0, c1, c2, c3, c4, c5⟩ := cell62 ((hb.block g (blk_lt H1.out)).trans H1.out); have hlk := (H8.out.at (hb.block m H8.out.lt)).look Try.underlying95 Try.underlying3 (zero9 _) n wn; rw [hl] at hlk; have n0_ := Aside0.mk (below_step (by repeat (first | (with_reducible first | exact HB.out | apply below_alloc | apply pw_below_drewN | apply below_drew1) | exact HB.out)) hb); clear HB; have HB := n0_; clear n0_))
      go_ret2
      exact ⟨by first | rfl | simp, by repeat (first | (with_reducible first | exact HB.out | apply below_alloc | apply pw_below_drewN | apply below_drew1) | exact HB.out)⟩
    | none =>
      have hn2 := decide_eq_true hn0
      have hn3 := decide_eq_true hn1
      go_enter Try.func24, Try.ntmps24
      go_wp2_with (first | (go_at_call 42; (with_reducible refine (may_any HP.out n).mono ?_); rintro e w1 ⟨rfl, hb⟩; rw [hm]; obtain ⟨c0, c1, c2, c3, c4, c5⟩ := cell62 ((hb.block g (blk_lt H1.out)).trans H1.out); have hlk := (H8.out.at (hb.block m H8.out.lt)).look Try.underlying95 Try.underlying3 (zero9 _) n wn; rw [hl] at hlk; obtain ⟨ad, e0, hx⟩ := Kd.at_string (Kd.R_reads' (Kd.R_below H6.out hb)).2.2 n hn0 hn1; cases e0; have n0_ := Aside0.mk (below_step (by repeat (first | (with_reducible first | exact HB.out | apply below_alloc | apply pw_below_drewN | apply below_drew1) | exact HB.out)) hb); clear HB; have HB := n0_; clear n0_))
      go_ret2
      exact ⟨by first | rfl | simp, by repeat (first | (with_reducible first | exact HB.out | apply below_alloc | apply pw_below_drewN | apply below_drew1) | exact HB.out)⟩
  · rw [if_neg hm]
    rcases (mayE_cases S n).resolve_left hm with hm | hm
    all_goals
      rw [hm]
      go_enter Try.func24, Try.ntmps24
      go_wp2_with (first | (go_at_call 42; (with_reducible refine (may_any HP.out n).mono ?_); rintro e w1 ⟨rfl, hb⟩; rw [hm]; have n0_ := Aside0.mk (below_step (by repeat (first | (with_reducible first | exact HB.out | apply below_alloc | apply pw_below_drewN | apply below_drew1) | exact HB.out)) hb); clear HB; have HB := n0_; clear n0_))
      go_ret2
      exact ⟨by first | rfl | simp, by repeat (first | (with_reducible first | exact HB.out | apply below_alloc | apply pw_below_drewN | apply below_drew1) | exact HB.out)⟩
end Go.Proofs.Ytpeeojbhfebcdaa.VP
end
section
namespace Go.Proofs.Ytpeeojbhfebcdaa.VP
open Go.RowKit Go.Proofs.YtpeeojbhfebcdaaW.PrintWords Go.Proofs.YtpeeojbhfebcdaaW.PrintLast Go.Proofs.YtpeeojbhfebcdaaW.PrintMore
set_option linter.unusedVariables false
set_option linter.unusedSimpArgs false
section
variable {base : Nat} {F F' : Nat → Prop} {w w' : World} {g : Nat} {S : PS}
theorem last_ne {m : Nat} {f : Int → Option ByteArray} (h : IsLast w m f) {cs : Array Value} {t : TypeId} (hg : w.heap[g]? = some (.cells cs t (0, 0))) : m ≠ g := by
  rintro rfl
  obtain ⟨es, c, h1, _⟩ := h
  rw [hg] at h1; cases h1
theorem IsP.set3 (h : IsP base F w g S) (b : Bool) : IsP base F (w.setCell ⟨g, 3, none⟩ (.bool b)) g { S with halts := b } := by
  obtain ⟨v, m, B, h1, h2, h3, h4, h5, h6, h7, h8⟩ := h
  refine ⟨v, m, B, by simpa using blk_set h1 3 (.bool b), h2, h3, h4, h5, Kd.R_set h6 h1 (by intro q hq; simp [Kd.string, Kd.scalar] at hq; omega) 3 _, Kd.R_set h7 h1 (by intro q hq; simp [k101, Kd.iso, Kd.pair, Kd.int, Kd.string, Kd.scalar] at hq; omega) 3 _, h8.at (Below.heap_setCell w _ _ m (last_ne h8 h1))⟩
theorem IsP.ge (h : IsP base F w g S) : base ≤ g := by obtain ⟨v, m, B, h1, h2, _⟩ := h; exact h2
theorem below_setG {n : Nat} {u : World} (h : Below n u w) (hg : n ≤ g) (j : Nat) (v : Value) : Below n u (w.setCell ⟨g, j, none⟩ v) := h.setCell hg _
end
theorem wpList_mapUpdate_last {P : Program} (w : World) {ops : Array Oper} {rest : List Oper} {o : Oper} {a : Act} {Q : Exit → Act → World → Prop}
    (hg : o.guard = none) (m x v : Operand) (t : TypeId) (hop : o.op = Op.mapUpdate t m x v) (k e : TypeId) (ht : P.underlying t = some (.map k e)) (hk : P.underlying k = some (.int .i64))
    (b : Nat) (f : Int → Option ByteArray) (n : Int) (s : ByteArray) (hm : a.eval m = .map (some b)) (hx : a.eval x = .int .i64 n) (hv : a.eval v = .string s) (hown : IsLast w b f) (hn : (Lit.int .i64 n).wf = true)
    (hK : ∀ w', IsLast w' b (upd f n s) → w.grownBy w' (some b) → wpList P ops Q rest (a.put o.dst undef) w') :
    wpList P ops Q (o :: rest) a w := by
  refine wpList_plain hg fun K' hK' => ?_
  obtain ⟨w', hrun, r1, r2⟩ := hown.store ht hk n hn s
  unfold Oper.wp
  simp [execOp, hop, hm, hx, hv, hrun, Result.andThen]
  exact hK' _ _ (hK w' r1 r2)
theorem info101 : (Try.prog.info? 101).map (fun i => (i.zero, i.size, i.bytes)) = some (some (.agg #[(.int .i64 0), (.string ⟨#[]⟩)]), 2, 24) := by kernel_rfl
end Go.Proofs.Ytpeeojbhfebcdaa.VP
end
section
namespace Go.Proofs.Ytpeeojbhfebcdaa.VP
open Go.RowKit Go.Proofs.YtpeeojbhfebcdaaW.PrintWords Go.Proofs.YtpeeojbhfebcdaaW.PrintLast Go.Proofs.YtpeeojbhfebcdaaW.PrintMore
set_option linter.unusedVariables false
set_option linter.unusedSimpArgs false
section
variable {base : Nat} {F F' : Nat → Prop} {w w' : World} {g : Nat} {S : PS}
theorem own_types {α β : Type} {d : Kd α} {d' : Kd β} {e e' b b' : Nat} {o o' : Nat → Prop} {v v' : Value} {xs : List α} {ys : List β} (h : d.R e w b o v xs) (h' : d'.R e' w b' o' v' ys) (he : e ≠ e') : ∀ k, v.ownBlock = some k → some k ≠ v'.ownBlock := by
  intro k hk hk'
  obtain ⟨c1, e1⟩ := Kd.R_typed h k hk
  obtain ⟨c2, e2⟩ := Kd.R_typed h' k hk'.symm
  rw [e1] at e2
  injection e2 with e2
  injection e2 with _ e2
  exact he e2
theorem own_blk {α : Type} {d : Kd α} {e b : Nat} {o : Nat → Prop} {v : Value} {xs : List α} (h : d.R e w b o v xs) {cs : Array Value} {t : TypeId} (hg : w.heap[g]? = some (.cells cs t (0, 0))) (he : e ≠ t) : some g ≠ v.ownBlock := by
  intro hk
  obtain ⟨c1, e1⟩ := Kd.R_typed h g hk.symm
  rw [hg] at e1
  injection e1 with e1
  injection e1 with _ e1
  exact he e1.symm
theorem own_map {α : Type} {d : Kd α} {e b m : Nat} {o : Nat → Prop} {v : Value} {xs : List α} {f : Int → Option ByteArray} (h : d.R e w b o v xs) (hm : IsLast w m f) : ∀ k, some m = some k → some k ≠ v.ownBlock := by
  intro k hk hk2
  injection hk with hk
  subst hk
  obtain ⟨c1, e1⟩ := Kd.R_typed h m hk2.symm
  obtain ⟨es, c, e2, _⟩ := hm
  rw [e1] at e2
  cases e2
theorem kept_grown {w0 w1 : World} {T : Nat → Prop} {row : Option Nat} (h : Kept w0 w T) (hg : w.grownBy w1 row) (hr : ∀ k, row = some k → T k ∨ w0.heap.size ≤ k) : Kept w0 w1 T := Kept.of_grown hg h hr
theorem below_grown {n : Nat} {u w1 : World} {row : Option Nat} (h : Below n u w) (hg : w.grownBy w1 row) (hr : ∀ k, row = some k → n ≤ k) (hn : n ≤ w.heap.size) : Below n u w1 :=
  h.trans ⟨hg.os, hg.tape, hg.output, hg.size, fun i hi => hg.block i (Nat.lt_of_lt_of_le hi hn) (fun e => by have := hr i e.symm; omega)⟩
end
set_option maxHeartbeats 8000000 in
set_option maxRecDepth 100000 in
theorem store_ok {base : Nat} {F : Nat → Prop} {w : World} {g : Nat} {S : PS} (h : IsP base F w g S) (n : Int) (b : ByteArray) (hm : mayE S n = 0) (hs : b.size = 128) (hh : S.halts = false ∨ S.halts = true ∧ S.after ≠ 0) (wn : (Lit.int .i64 n).wf = true) (hl : S.afl.length ≤ 1000000) :
    Calls Try.prog 22 #[.pointer (some ⟨g, 0, none⟩), .int .i64 n, .string b] w fun e w' => e = .returned (.int .i64 0) ∧ IsP base (fun k => F k ∨ w.heap.size ≤ k) w' g { S with after := max (wrap64 (S.after - 1)) 0, afl := S.afl ++ [⟨n, b⟩], last := upd S.last n b } ∧ Kept w w' F ∧ (base ≤ w.heap.size → Below base w w') := by
  have HP := Aside0.mk h
  have HB := Aside0.mk (Below.refl w.heap.size w)
  have HLe := Aside0.mk hl
  obtain ⟨A, c, m, B, d, h1, h2, h3, h4, h5, h6, h7, h8⟩ := h.cells
  have G1 := Aside0.mk h1
  have G6 := Aside0.mk h6
  have G7 := Aside0.mk h7
  have G8 := Aside0.mk h8
  have G2 := Aside0.mk h2
  have G3 := Aside0.mk h3
  have G4 := Aside0.mk h4
  have G5 := Aside0.mk h5
  clear h1 h2 h3 h4 h5 h6 h7 h8 hl
  have hs1 : ((b.size : Int) != 128) = false := by simp; omega
  have hs2 : ((b.size : Int) == 128) = true := by simp; omega
  rcases hh with hh | ⟨hh, ha⟩
  all_goals
    (try have ha1 : (S.after == 0) = false := beq_eq_false_iff_ne.mpr ha)
    (try clear ha)
    go_enter Try.func22, Try.ntmps22
    go_wp2_with (first
      | (go_at_call 42; (with_reducible refine (may_any HP.out n).mono ?_); rintro e w1 ⟨rfl, hb⟩; rw [hm]
         have HB1 := Aside0.mk hb
         have K1 := (hb.block g (blk_lt G1.out)).trans G1.out
         have J1 := Aside0.mk K1
         have hf2 := blk_frozen K1 2
         have hf4 := blk_frozen K1 4
         obtain ⟨c0, c1, c2, c3, c4, c5⟩ := cell62 K1
         rw [hh] at c3
         clear K1 hb)
      | ((with_reducible refine gate_builtin (b := .append) (xs := #[.tmp 46, .tmp 50]) rfl ?_); at_builtin
         go_must (refine Kd.R_append k101 base rfl (.tmp 46) (.tmp 50) 96 101 (.agg #[(.int .i64 0), (.string ⟨#[]⟩)]) 24 rfl Try.underlying96 info101 rfl (by decide) (by omega) (.slice B S.afl.length d) S.afl (⟨n, b⟩ : S101) [.int .i64 n, .string b] (fun k => F k ∨ w.heap.size ≤ k) (fun _ => False) rfl (congrArg (fun k => Value.slice (some ⟨k, 0, none⟩) 1 1) (show w1.heap.size = (w1.setCell ⟨g, 4, none⟩ (Value.int IntKind.i64 (max (wrap64 (S.after - 1)) 0))).heap.size by simp [World.setCell])) ?aP (fun _ hk => hk.elim) ?aF ?aO (Below.refl base _) ?aS ?aL ?_)
         (case aP => go_must (exact k101_mkM _ _ _ (⟨n, b⟩ : S101)))
         (case aF => intro k hk; right; go_must (exact Nat.le_trans HB1.out.size (by simpa [World.setCell] using hk)))
         (case aO => go_must (exact Kd.R_mono (Kd.R_set (Kd.R_step G7.out (fun k _ hk => HB1.out.block k hk)) J1.out (by intro q hq; simp [k101, Kd.iso, Kd.pair, Kd.int, Kd.string, Kd.scalar] at hq; omega) 4 _) (fun _ hk => .inl hk)))
         (case aS => go_must (exact Nat.le_trans (Nat.le_of_lt (Nat.lt_of_le_of_lt G2.out (blk_lt J1.out))) (by simp [World.setCell])))
         (case aL => have := HLe.out; go_must (omega))
         intro v2 w2 ho hb2 hg2 hat2
         obtain ⟨A2, d2, e2⟩ := Kd.R_slice ho
         obtain ⟨l2, hl2⟩ : ∃ l2 : Nat, l2 = (S.afl ++ [(⟨n, b⟩ : S101)]).length := ⟨_, rfl⟩
         rw [← hl2] at e2
         clear hl2
         subst e2
         have E1 := Aside0.mk ho
         have E2 := Aside0.mk hb2
         have E3 := Aside0.mk hg2
         clear ho hb2 hg2 hat2
         have K0 : (w1.setCell ⟨g, 4, none⟩ (Value.int IntKind.i64 (max (wrap64 (S.after - 1)) 0))).heap[g]? = some (.cells #[.slice A S.safe.length c, .map (some m), .slice B S.afl.length d, .bool S.halts, .int .i64 (max (wrap64 (S.after - 1)) 0), .bool S.halted] 98 (0, 0)) := by simpa using blk_set J1.out 4 (.int .i64 (max (wrap64 (S.after - 1)) 0))
         have K2 := (E3.out.block g (blk_lt K0) (own_blk G7.out G1.out (by decide))).trans K0
         have J0 := Aside0.mk K0
         have J2 := Aside0.mk K2
         have hf22 := blk_frozen K2 2
         obtain ⟨_, c21, _, _, _, _⟩ := cell62 K2
         have L1 := Aside0.mk ((G8.out.at (HB1.out.block m G8.out.lt)).at (Below.heap_setCell w1 ⟨g, 4, none⟩ (Value.int IntKind.i64 (max (wrap64 (S.after - 1)) 0)) m (last_ne G8.out G1.out)))
         have L2 := Aside0.mk ((L1.out.at (E3.out.block m L1.out.lt (own_map G7.out G8.out m rfl))).at (Below.heap_setCell w2 ⟨g, 2, none⟩ (Value.slice A2 l2 d2) m (last_ne G8.out G1.out)))
         clear K0 K2)
      | (at_mapUpdate
         go_must (refine wpList_mapUpdate_last _ rfl _ _ _ 95 rfl 3 9 Try.underlying95 Try.underlying3 m S.last n b rfl rfl rfl L2.out wn ?_)
         intro w3 hl3 hg3
         have E4 := Aside0.mk hl3
         have E5 := Aside0.mk hg3
         clear hl3 hg3))
    go_ret
    have Q2 : (w2.setCell ⟨g, 2, none⟩ (Value.slice A2 l2 d2)).heap[g]? = some (.cells #[.slice A S.safe.length c, .map (some m), (Value.slice A2 l2 d2), .bool S.halts, .int .i64 (max (wrap64 (S.after - 1)) 0), .bool S.halted] 98 (0, 0)) := by simpa using blk_set J2.out 2 (Value.slice A2 l2 d2)
    have hgm : some g ≠ some m := fun e => last_ne G8.out G1.out (by injection e with e; exact e.symm)
    have Q3 := (E5.out.block g (blk_lt Q2) hgm).trans Q2
    have T65 : ∀ q, q ∈ 101 :: k101.E → q ≠ 98 := by intro q hq; simp [k101, Kd.iso, Kd.pair, Kd.int, Kd.string, Kd.scalar] at hq; omega
    have T9 : ∀ q, q ∈ 9 :: Kd.string.E → q ≠ 98 := by intro q hq; simp [Kd.string, Kd.scalar] at hq; omega
    have R2 := Kd.R_grown2 (Kd.R_set E1.out J2.out T65 2 (Value.slice A2 l2 d2)) rfl E5.out (own_map (Kd.R_set E1.out J2.out T65 2 (Value.slice A2 l2 d2)) L2.out)
    have S3 : Kd.R Kd.string 9 w3 base F (.slice A S.safe.length c) S.safe := by
      have a1 := Kd.R_set (Kd.R_step G6.out (fun k _ hk => HB1.out.block k hk)) J1.out T9 4 (Value.int IntKind.i64 (max (wrap64 (S.after - 1)) 0))
      have a7 := Kd.R_set (Kd.R_step G7.out (fun k _ hk => HB1.out.block k hk)) J1.out T65 4 (Value.int IntKind.i64 (max (wrap64 (S.after - 1)) 0))
      have a2 : Kd.R Kd.string 9 w2 base F (.slice A S.safe.length c) S.safe := by
        have ot := own_types a7 a1 (by decide)
        exact Kd.R_grown2 a1 rfl E3.out ot
      have a3 := Kd.R_set a2 J2.out T9 2 (Value.slice A2 l2 d2)
      have om := own_map a3 L2.out
      exact Kd.R_grown2 a3 rfl E5.out om
    refine ⟨rfl, ⟨_, m, (Value.slice A2 l2 d2), Q3, G2.out, .inl G3.out, G4.out, .inl G5.out, Kd.R_mono S3 (fun _ hk => .inl hk), R2, E4.out⟩, ?_, ?_⟩
    · exact kept_grown (Kept.setCell (kept_grown (Kept.setCell (Kept.of_below HB1.out F) (.inl G3.out) _) E3.out (fun k hk => .inl (G7.out.1 k hk))) (.inl G3.out) _) E5.out (fun k hk => by injection hk with hk; subst hk; exact .inl G5.out)
    · intro hw
      have b1 := below_setG (HB1.out.mono hw) G2.out 4 (Value.int IntKind.i64 (max (wrap64 (S.after - 1)) 0))
      have b2 := b1.trans E2.out
      have b3 := below_setG b2 G2.out 2 (Value.slice A2 l2 d2)
      exact below_grown b3 E5.out (fun k hk => by injection hk with hk; subst hk; exact G4.out) (Nat.le_trans G4.out (Nat.le_of_lt L2.out.lt))
end Go.Proofs.Ytpeeojbhfebcdaa.VP
end
section
namespace Go.Proofs.Ytpeeojbhfebcdaa.VP
open Go.RowKit Go.Proofs.YtpeeojbhfebcdaaW.PrintWords Go.Proofs.YtpeeojbhfebcdaaW.PrintLast Go.Proofs.YtpeeojbhfebcdaaW.PrintMore
set_option linter.unusedVariables false
set_option linter.unusedSimpArgs false
end Go.Proofs.Ytpeeojbhfebcdaa.VP
end
section
namespace Go.Proofs.Ytpeeojbhfebcdaa.VP
open Go.RowKit Go.Proofs.YtpeeojbhfebcdaaW.PrintWords Go.Proofs.YtpeeojbhfebcdaaW.PrintLast Go.Proofs.YtpeeojbhfebcdaaW.PrintMore
set_option linter.unusedVariables false
set_option linter.unusedSimpArgs false
def rowJ (s : ByteArray) (j n : Nat) : List Value := List.replicate j (.string s) ++ List.replicate (n - j) (.string ⟨#[]⟩)
theorem info9 : ∃ i, Try.prog.info? 9 = some i ∧ i.zero = some (.string ⟨#[]⟩) ∧ i.size = 1 ∧ i.bytes = 16 := by
  cases h : Try.prog.info? 9 with
  | none => exact absurd h (by decide +kernel)
  | some i =>
    have e : (Try.prog.info? 9).map (fun i => (i.zero, i.size, i.bytes)) = some (some (.string ⟨#[]⟩), 1, 16) := by kernel_rfl
    rw [h] at e
    simp at e
    exact ⟨i, rfl, e.1, e.2.1, e.2.2⟩
theorem make33 (n : Nat) (h : n ≤ 1000) (w : World) : (Instr.makeSlice 92 (.int .i64 n) (.int .i64 n)).run Try.prog w = .ok (.slice (some ⟨w.heap.size, 0, none⟩) n n) (w.alloc (.cells (rowJ ⟨#[]⟩ 0 n).toArray 9)) := by
  obtain ⟨i, hi, hz, h1, h2⟩ := info9
  have := run_makeSlice (P := Try.prog) (w := w) 92 9 i (.string ⟨#[]⟩) Try.underlying92 hi hz .i64 .i64 n n (by omega) (Int.le_refl _) (by rw [h1]; omega) (by rw [h2]; omega) (by omega)
  rw [h1] at this
  simp only [Int.toNat_natCast, Nat.mul_one] at this
  rw [this]
  have e : madeCells (Value.string ⟨#[]⟩).cells n = (rowJ ⟨#[]⟩ 0 n).toArray := by
    show Array.map (fun x => (#[Value.string ⟨#[]⟩] : Array Value)[x % 1]!) (Array.range n) = _
    apply Array.ext
    · simp [rowJ]
    · intro i h1 h2
      simp [rowJ, Nat.mod_one]
  rw [e]
set_option maxHeartbeats 8000000 in
set_option maxRecDepth 100000 in
theorem repeat_any (w : World) (a : Addr) (s : ByteArray) (n : Nat) (h0 : 1 ≤ n) (h1 : n ≤ 1000) (ha : w.cell? a = some (.string s)) :
    Calls Try.prog 40 #[.slice (some a) 1 1, .int .i64 n] w fun e w' => e = .returned (.slice (some ⟨w.heap.size, 0, none⟩) n n) ∧ w'.heap[w.heap.size]? = some (.cells (Array.replicate n (.string s)) 9 (0, 0)) ∧ Below w.heap.size w w' := by
  have hn : ¬ ((n : Int) < 0) := by omega
  have hn1 : decide ((n : Int) < 0) = false := decide_eq_false hn
  clear hn
  have hmul : ∀ w, Calls Try.prog 66 #[.int .u64 1, .int .u64 n] w fun e w' => e = .returned (.tuple #[.int .u64 0, .int .u64 n]) ∧ w' = w := by
    intro w
    have := Try.bits_Mul 1 n (by decide) (by omega) w
    rw [Nat.one_mul, Nat.div_eq_of_lt (by omega), Nat.mod_eq_of_lt (by omega)] at this
    exact this
  have HM := Aside0.mk hmul
  have H0 := Aside0.mk h0
  have H1 := Aside0.mk h1
  have k1 : ((9223372036854775807 : Int) < (n : Int)) = False := eq_false (by omega)
  have k2 : decide ((9223372036854775807 : Int) < (n : Int)) = false := decide_eq_false (by omega)
  have k3 : decide (9223372036854775807 < n) = false := decide_eq_false (by omega)
  have k4 : IntKind.i64.wrap (n : Int) = n := by rw [IntKind.wrap_i64]; omega
  have k5 : IntKind.u64.wrap (n : Int) = n := by rw [IntKind.wrap_u64]; omega
  have k6 : (0 ≤ (n : Int)) = True := eq_true (by omega)
  clear hmul h0 h1
  have hmk := make33 n H1.out w
  have hin : ∀ j, j < ([(.string s : Value)]).length → ((w.alloc (.cells (rowJ ⟨#[]⟩ 0 n).toArray 9)).cell? ⟨w.heap.size, 0 + j, none⟩).isSome = true := by
    intro j hj
    rw [blk_cell (MapKept.heap_alloc w _).1]
    have : 0 + j < (rowJ ⟨#[]⟩ 0 n).length := by
      simp [rowJ] at hj ⊢
      have := H0.out
      omega
    rw [Nat.zero_add] at this ⊢
    simp [this]
  have hcp := run_copy_cells (P := Try.prog) (w.alloc (.cells (rowJ ⟨#[]⟩ 0 n).toArray 9)) 92 92 3 9 w.heap.size 0 n n a 1 1 [.string s] Try.underlying92 (by kernel_rfl) (by have := H0.out; show 1 = Nat.min 1 n; exact (Nat.min_eq_left this).symm) (by
    intro j v hj
    cases j with
    | zero =>
      simp at hj
      subst hj
      have e : a.add 0 = a := by simp [Addr.add]
      rw [e]
      exact (World.cell?_alloc_lt _ _ _ (World.block_lt_of_cell? w _ ha)).trans ha
    | succ j => simp at hj) hin (by intro j _; exact blk_frozen (MapKept.heap_alloc w _).1 _) (by intro v hv; simp at hv; subst hv; rfl)
  clear hin
  go_enter Try.func40, Try.ntmps40
  go_wp2_with (first
    | (go_at_call 66; (with_reducible refine (HM.out _).mono ?_); rintro e w1 ⟨rfl, rfl⟩))
  obtain ⟨cur, hcur, hcs, hcl⟩ := setCells_row (g := w1.heap.size) (e := 9) [Value.string s] 0 (w1.alloc (.cells (rowJ ⟨#[]⟩ 0 n).toArray 9)) (rowJ ⟨#[]⟩ 0 n).toArray (MapKept.heap_alloc w1 _).1 (by have := H0.out; simp [rowJ]; omega)
  have hst : cur.toList = rowJ s 1 n := by
    rw [hcl]
    have := H0.out
    obtain ⟨k, rfl⟩ : ∃ k, n = k + 1 := ⟨n - 1, by omega⟩
    simp [rowJ, List.replicate_succ]
  obtain rfl : cur = (rowJ s 1 n).toArray := by rw [← hst]
  have HQ0 := Aside0.mk hcur
  have HB0 : Aside0 (Below w1.heap.size w1 ((w1.alloc (.cells (rowJ ⟨#[]⟩ 0 n).toArray 9)).setCells w1.heap.size 0 [Value.string s])) := ⟨below_setG (below_alloc (Below.refl _ _) _) (Nat.le_refl _) _ _⟩
  clear hcur hcs hcl hst hmk hcp
  go_loopg [8] n (fun kq v8 w' => ∃ j : Nat, v8 = .int .i64 j ∧ Aside0 (1 ≤ j ∧ j ≤ n ∧ n ≤ j + kq) ∧ Aside0 (w'.heap[w1.heap.size]? = some (.cells (rowJ s j n).toArray 9 (0, 0))) ∧ Aside0 (Below w1.heap.size w1 w'))
  case atStart => exact ⟨1, rfl, ⟨Nat.le_refl _, H0.out, by omega⟩, HQ0, HB0⟩
  case round =>
    obtain ⟨j, rfl, HJ, HQ, HB⟩ := hrel
    by_cases hjn : j < n
    · have d1 : decide ((j : Int) < (n : Int)) = true := decide_eq_true (by omega)
      have d2 : decide (j < n) = true := decide_eq_true hjn
      have d3 : decide (j ≤ n) = true := decide_eq_true (by omega)
      have d4 : decide ((j : Int) ≤ (n : Int)) = true := decide_eq_true (by omega)
      have d5 : (j ≤ n) = True := eq_true (by omega)
      have d6 : ((j : Int) ≤ (n : Int)) = True := eq_true (by omega)
      have d7 : (0 ≤ (j : Int)) = True := eq_true (by omega)
      have d8 : (n = j) = False := eq_false (by omega)
      cases gk with
      | zero => have := HJ.out; omega
      | succ kk =>
        have HN := Aside0.mk hjn
        clear hjn
        go_upto_region 9 with (fail)
        have J := HJ.out
        have hjn := HN.out
        have hrow : ∀ i v, (rowJ s j n)[i]? = some v → wr.drew.cell? ⟨w1.heap.size, i, none⟩ = some v := by
          intro i v hi
          show wr.cell? _ = _
          rw [blk_cell HQ.out]
          simpa using hi
        have hcp := run_copy_cells (P := Try.prog) wr.drew 92 92 3 9 w1.heap.size j (n - j) (n - j) ⟨w1.heap.size, 0, none⟩ j n (List.replicate (Nat.min j (n - j)) (.string s)) Try.underlying92 (by kernel_rfl) (by rw [List.length_replicate]) (by
          intro i v hi
          have e : (⟨w1.heap.size, 0, none⟩ : Addr).add i = ⟨w1.heap.size, i, none⟩ := by simp [Addr.add]; intro hk; exact hk.symm
          rw [e]
          refine hrow i v ?_
          rw [List.getElem?_replicate] at hi
          split at hi
          · rename_i hlt
            have : i < j := Nat.lt_of_lt_of_le hlt (Nat.min_le_left _ _)
            unfold rowJ
            rw [List.getElem?_append_left (by simpa using this), List.getElem?_replicate, if_pos this]; exact hi
          · cases hi) (by
          intro i hi
          rw [List.length_replicate] at hi
          have h2 : i < n - j := Nat.lt_of_lt_of_le hi (Nat.min_le_right _ _)
          have h3 : j + i < (rowJ s j n).length := by simp [rowJ]; omega
          rw [hrow (j + i) _ (List.getElem?_eq_getElem h3)]; rfl) (by intro i _; exact blk_frozen (show wr.drew.heap[w1.heap.size]? = _ from HQ.out) _) (by intro v hv; obtain ⟨_, rfl⟩ := List.mem_replicate.1 hv; rfl)
        rw [List.length_replicate] at hcp
        clear hrow J hjn
        have hmin : Nat.min j (n - j) ≤ j ∧ Nat.min j (n - j) ≤ n - j ∧ (1 ≤ j → 1 ≤ n - j → 1 ≤ Nat.min j (n - j)) := ⟨Nat.min_le_left _ _, Nat.min_le_right _ _, fun a b => Nat.le_min.2 ⟨a, b⟩⟩
        have HMin := Aside0.mk hmin
        generalize hu : Nat.min j (n - j) = u at *
        clear hmin hu
        go_region_with (fail)
        go_wp2
        go_roundg kk
        case measure => omega
        case rel =>
          have J := HJ.out
          have hjn := HN.out
          have hm := HMin.out
          have hn1 := H1.out
          obtain ⟨cur, e1, e2, e3⟩ := setCells_row (g := w1.heap.size) (e := 9) (List.replicate u (Value.string s)) j wr.drew (rowJ s j n).toArray HQ.out (by simp [rowJ]; omega)
          have e4 : cur.toList = rowJ s (j + u) n := by
            rw [e3]
            simp only [rowJ, List.length_replicate]
            rw [List.take_append_of_le_length (by simp), List.take_of_length_le (by simp), List.drop_append, List.drop_eq_nil_of_le (by simp), List.length_replicate, List.nil_append, List.drop_replicate, List.replicate_append_replicate]
            congr 2
            omega
          obtain rfl : cur = (rowJ s (j + u) n).toArray := by rw [← e4]
          refine ⟨j + u, ?_, ⟨by omega⟩, ⟨e1⟩, ⟨?_⟩⟩
          · rw [Value.int.injEq]; refine ⟨rfl, ?_⟩; rw [IntKind.wrap_i64]; omega
          · obtain ⟨t1, t2, t3, t4⟩ := setCells_same w1.heap.size (List.replicate u (Value.string s)) j wr.drew
            exact (below_drew HB.out).trans ⟨t1, t2, t3, by rw [t4]; exact Nat.le_refl _, fun k hk => setCells_far _ _ k (by omega)⟩
    · have hjn2 : j = n := by have := HJ.out; omega
      subst hjn2
      have d1 : decide ((j : Int) < (j : Int)) = false := decide_eq_false (by omega)
      have d2 : decide (j < j) = false := decide_eq_false (by omega)
      go_wp2
      go_ret
      refine ⟨rfl, ?_, HB.out⟩
      have := HQ.out
      rw [this]
      simp [rowJ]
end Go.Proofs.Ytpeeojbhfebcdaa.VP
end
section
namespace Go.Proofs.Ytpeeojbhfebcdaa.VP
open Go.RowKit Go.Proofs.YtpeeojbhfebcdaaW.PrintWords Go.Proofs.YtpeeojbhfebcdaaW.PrintLast Go.Proofs.YtpeeojbhfebcdaaW.PrintMore
set_option linter.unusedVariables false
set_option linter.unusedSimpArgs false
def zer (n : Nat) : ByteArray := ⟨(List.replicate n (0 : UInt8)).toArray⟩
theorem zer_size (n : Nat) : (zer n).size = n := by
  show (List.replicate n (0 : UInt8)).toArray.size = n
  simp
theorem repeat_zer (n : Nat) : (⟨(Lib.repeatL (⟨#[0]⟩ : ByteArray).data.toList n).toArray⟩ : ByteArray) = zer n := by
  unfold zer
  congr 2
  induction n with
  | zero => rfl
  | succ n ih => rw [List.replicate_succ, ← ih]; rfl
def newS (n : Nat) : PS := { safe := List.replicate n (zer 128), last := fun _ => none, afl := [], halts := false, after := 0, halted := false }
theorem row_R {w : World} {q n base : Nat} {F : Nat → Prop} {s : ByteArray} (h : w.heap[q]? = some (.cells (Array.replicate n (.string s)) 9 (0, 0))) (hb : base ≤ q) (hF : F q) (hn : n ≤ 1000) : Kd.R Kd.string 9 w base F (.slice (some ⟨q, 0, none⟩) n n) (List.replicate n s) := by
  have hl : (List.replicate n s).length = n := List.length_replicate
  refine Kd.R_of_own (enc := Value.string) ?_ (fun k hk => by simp [Value.ownBlock] at hk; subst hk; exact hF)
  rw [hl]
  have e : encs Value.string (List.replicate n s) = List.replicate n (Value.string s) := by simp [encs]
  rw [e]
  refine ⟨by simp, .inr ⟨q, n, _, rfl, hb, h, Nat.le_refl _, by unfold maxLen; omega, by simp, by simp⟩⟩
set_option maxHeartbeats 8000000 in
set_option maxRecDepth 100000 in
theorem new_any (w : World) (n : Nat) (h0 : 1 ≤ n) (h1 : n ≤ 200) :
    Calls Try.prog 21 #[.int .i64 n] w fun e w' => ∃ g, e = .returned (.pointer (some ⟨g, 0, none⟩)) ∧ IsP w.heap.size (fun k => w.heap.size ≤ k) w' g (newS n) ∧ Below w.heap.size w w' := by
  have HB := Aside0.mk (Below.refl w.heap.size w)
  have H0 := Aside0.mk h0
  have H1 := Aside0.mk h1
  have d1 : decide ((n : Int) < 1) = false := decide_eq_false (by omega)
  have d2 : decide ((200 : Int) < (n : Int)) = false := decide_eq_false (by omega)
  have d3 : decide (n < 1) = false := decide_eq_false (by omega)
  have d4 : decide (200 < n) = false := decide_eq_false (by omega)
  have d5 : (n = 0) = False := eq_false (by omega)
  have d6 : decide (n = 0) = false := decide_eq_false (by omega)
  clear h0 h1
  have hmm := @run_makeMap Try.prog
  have hrep : ∀ w, Calls Try.prog 41 #[.string ⟨#[0]⟩, .int .i64 128] w fun e w' => e = .returned (.string (zer 128)) ∧ Below w.heap.size w w' := by
    intro w
    have := Try.strings_Repeat ⟨#[0]⟩ 128 w (by decide) (by decide)
    rw [repeat_zer] at this
    exact this
  have HR := Aside0.mk hrep
  clear hrep
  go_enter Try.func21, Try.ntmps21
  go_wp2_with (first
    | (go_at_call 41; (with_reducible refine (HR.out _).mono ?_); rintro e w1 ⟨rfl, hb⟩; have Z1 := Aside0.mk hb; clear hb)
    | (go_at_call 40; go_must (refine (repeat_any _ _ (zer 128) n H0.out (Nat.le_trans H1.out (by decide)) (blk_cell (MapKept.heap_alloc _ _).1 0)).mono ?_); rintro e w2 ⟨rfl, hq, hb⟩; have Z2 := Aside0.mk hq; have Z3 := Aside0.mk hb; clear hq hb))
  go_ret
  have hs1 := Z1.out.size
  have hs2 : (w1.alloc (Obj.cells #[Value.string (zer 128)] 9)).heap.size = w1.heap.size + 1 := by simp
  have q2 := Z2.out
  have hs3 := Z3.out.size
  rw [hs2] at q2 hs3
  have hq : w1.heap.size + 1 < w2.heap.size := blk_lt q2
  have m1 := MapKept.heap_alloc w2 (Obj.map #[] 0)
  have hs4 : (w2.alloc (Obj.map #[] 0)).heap.size = w2.heap.size + 1 := by simp
  have m2 := MapKept.heap_alloc (w2.alloc (Obj.map #[] 0)) (Obj.cells #[Value.slice (some { block := w1.heap.size + 1, off := 0 }) n n, Value.map (some w2.heap.size), Value.slice none 0 0, Value.bool false, Value.int IntKind.i64 0, Value.bool false] 98)
  rw [hs4] at m2
  have q4 := (m2.2 (w1.heap.size + 1) (by omega)).trans ((m1.2 _ hq).trans q2)
  have l4 := (IsLast.made w2).at (m2.2 w2.heap.size (by omega))
  have b1 : Below w.heap.size w (w1.alloc (Obj.cells #[Value.string (zer 128)] 9)) := below_alloc Z1.out _
  have b2 : Below w.heap.size w w2 := b1.trans (Z3.out.mono (by omega))
  refine ⟨_, rfl, ⟨_, w2.heap.size, _, m2.1, by omega, (show w.heap.size ≤ _ by omega), by omega, (show w.heap.size ≤ _ by omega), row_R q4 (by omega) (show w.heap.size ≤ _ by omega) (by have := H1.out; omega), Kd.R_nil _ _ _ _ _, l4⟩, below_alloc (below_alloc b2 _) _⟩
end Go.Proofs.Ytpeeojbhfebcdaa.VP
end
section
namespace Go.Proofs.Ytpeeojbhfebcdaa.VP
open Go.RowKit Go.Proofs.YtpeeojbhfebcdaaW.PrintWords Go.Proofs.YtpeeojbhfebcdaaW.PrintLast Go.Proofs.YtpeeojbhfebcdaaW.PrintMore
set_option linter.unusedVariables false
set_option linter.unusedSimpArgs false
def Own (w : World) (k : Nat) : Prop := (∃ cs q, w.heap[k]? = some (.cells cs q (0, 0)) ∧ (q = 98 ∨ q = 9 ∨ q = 101)) ∨ ∃ es c, w.heap[k]? = some (.map es c)
theorem IsP.narrow {base : Nat} {F : Nat → Prop} {w : World} {g : Nat} {S : PS} (h : IsP base F w g S) : IsP base (fun k => F k ∧ base ≤ k ∧ k < w.heap.size ∧ Own w k) w g S := by
  obtain ⟨v, m, B, h1, h2, h3, h4, h5, h6, h7, h8⟩ := h
  have hl := h8.lt
  obtain ⟨es, c, hm, hrest⟩ := h8
  refine ⟨v, m, B, h1, h2, ⟨h3, h2, blk_lt h1, .inl ⟨_, _, h1, .inl rfl⟩⟩, h4, ⟨h5, h4, hl, .inr ⟨es, c, hm⟩⟩, ?_, ?_, ⟨es, c, hm, hrest⟩⟩
  · refine Kd.R_mono (Kd.R_bound h6) ?_
    rintro k ⟨a, b, d, q, hq, cs, hc⟩
    refine ⟨a, b, d, .inl ⟨cs, q, hc, ?_⟩⟩
    simp [Kd.string, Kd.scalar] at hq
    exact .inr (.inl hq)
  · refine Kd.R_mono (Kd.R_bound h7) ?_
    rintro k ⟨a, b, d, q, hq, cs, hc⟩
    refine ⟨a, b, d, .inl ⟨cs, q, hc, ?_⟩⟩
    simp [k101, Kd.iso, Kd.pair, Kd.int, Kd.string, Kd.scalar] at hq
    exact .inr (.inr hq)
def Others (w w' : World) : Prop := ∀ (k : Nat) (cs : Array Value) (t : TypeId), w.heap[k]? = some (.cells cs t (0, 0)) → t ≠ 98 → t ≠ 9 → t ≠ 101 → w'.heap[k]? = some (.cells cs t (0, 0))
theorem Others.of_kept {w w' : World} {F : Nat → Prop} (h : Kept w w' (fun k => F k ∧ Own w k)) : Others w w' := by
  intro k cs t hk h1 h2 h3
  rw [h.2 k (blk_lt hk) ?_]; exact hk
  rintro ⟨_, ⟨cs', q, e, hq⟩ | ⟨es, c, e⟩⟩
  · rw [hk] at e
    injection e with e
    injection e with _ e
    rcases hq with hq | hq | hq
    · exact h1 (e.trans hq)
    · exact h2 (e.trans hq)
    · exact h3 (e.trans hq)
  · rw [hk] at e; cases e
def IsQ (w0 w : World) (g : Nat) (S : PS) : Prop := Below w0.heap.size w0 w ∧ IsP w0.heap.size (fun k => w0.heap.size ≤ k) w g S
section
variable {w0 w w' : World} {g : Nat} {S : PS}
theorem IsP.lower {base base' : Nat} {F : Nat → Prop} (h : IsP base F w g S) (hb : base' ≤ base) : IsP base' F w g S := by
  obtain ⟨v, m, B, h1, h2, h3, h4, h5, h6, h7, h8⟩ := h
  exact ⟨v, m, B, h1, Nat.le_trans hb h2, h3, Nat.le_trans hb h4, h5, Kd.R_lower h6 hb, Kd.R_lower h7 hb, h8⟩
theorem IsQ.below (h : IsQ w0 w g S) (hb : Below w.heap.size w w') : IsQ w0 w' g S := ⟨h.1.trans (hb.mono h.1.size), h.2.below hb⟩
theorem IsQ.alloc (h : IsQ w0 w g S) (o : Obj) : IsQ w0 (w.alloc o) g S := h.below (below_alloc (Below.refl _ _) o)
theorem IsQ.drew (h : IsQ w0 w g S) : IsQ w0 w.drew g S := h.below (below_drew (Below.refl _ _))
theorem q_of {S' : PS} (h : IsQ w0 w g S) {F : Nat → Prop} (hF : ∀ k, F k → w0.heap.size ≤ k) (h1 : IsP w0.heap.size (fun k => F k ∨ w.heap.size ≤ k) w' g S') (h2 : w0.heap.size ≤ w.heap.size → Below w0.heap.size w w') : IsQ w0 w' g S' :=
  ⟨h.1.trans (h2 h.1.size), h1.mono (fun k hk => hk.elim (hF k) (fun hk => Nat.le_trans h.1.size hk))⟩
def stS (S : PS) (n : Int) (b : ByteArray) : PS := { S with after := 0, afl := S.afl ++ [⟨n, b⟩], last := upd S.last n b }
theorem q_store (h : IsQ w0 w g S) (n : Int) (b : ByteArray) (hm : mayE S n = 0) (hs : b.size = 128) (hh : S.halts = false) (ha : S.after = 0) (wn : (Lit.int .i64 n).wf = true) (hl : S.afl.length ≤ 1000) :
    Calls Try.prog 22 #[.pointer (some ⟨g, 0, none⟩), .int .i64 n, .string b] w fun e w' => e = .returned (.int .i64 0) ∧ IsQ w0 w' g (stS S n b) ∧ Others w w' := by
  refine (store_ok h.2.narrow n b hm hs (.inl hh) wn (Nat.le_trans hl (by decide))).mono ?_
  rintro e w' ⟨rfl, hi, hk, hb⟩
  refine ⟨rfl, ?_, Others.of_kept (F := fun k => w0.heap.size ≤ k ∧ w0.heap.size ≤ k ∧ k < w.heap.size) ⟨hk.1, fun k h1 h2 => hk.2 k h1 (fun h3 => h2 ⟨⟨h3.1, h3.2.1, h3.2.2.1⟩, h3.2.2.2⟩)⟩⟩
  have e : ({ S with after := max (wrap64 (S.after - 1)) 0, afl := S.afl ++ [⟨n, b⟩], last := upd S.last n b } : PS) = stS S n b := by
    unfold stS
    rw [ha, show max (wrap64 (0 - 1)) 0 = 0 from by unfold wrap64; decide]
  rw [e] at hi
  exact q_of h (F := fun k => w0.heap.size ≤ k ∧ w0.heap.size ≤ k ∧ k < w.heap.size ∧ Own w k) (fun k hk => hk.1) hi hb
end
def pagesOk (S : PS) : Prop := (∀ b ∈ S.safe, b.size = 128) ∧ ∀ p ∈ S.afl, (0 ≤ p.f0 ∧ p.f0 < S.safe.length) ∧ p.f1.size = 128
structure WellS (S : PS) (n k : Nat) : Prop where
  halted : S.halted = false
  halts : S.halts = false
  after : S.after = 0
  pages : pagesOk S
  len : S.safe.length = n
  few : S.afl.length = k
theorem WellS.new (n : Nat) : WellS (newS n) n 0 :=
  ⟨rfl, rfl, rfl, ⟨fun b hb => by obtain ⟨_, rfl⟩ := List.mem_replicate.1 hb; exact zer_size _, fun p hp => by simp [newS] at hp⟩, List.length_replicate, rfl⟩
section
variable {S : PS} {N k : Nat}
theorem WellS.st (h : WellS S N k) {n : Int} {b : ByteArray} (h0 : 0 ≤ n) (h1 : n < N) (hb : b.size = 128) : WellS (stS S n b) N (k + 1) := by
  refine ⟨h.halted, h.halts, rfl, ⟨h.pages.1, fun p hp => ?_⟩, h.len, by simp [stS, h.few]⟩
  rcases List.mem_append.1 hp with hp | hp
  · exact h.pages.2 p hp
  · rw [List.mem_singleton] at hp
    subst hp
    exact ⟨⟨h0, by show n < (S.safe.length : Int); rw [h.len]; exact h1⟩, hb⟩
theorem WellS.may (h : WellS S N k) {n : Int} (h0 : 0 ≤ n) (h1 : n < N) : mayE S n = 0 := by
  unfold mayE
  rw [h.halted, if_neg (by decide), if_neg (by omega), if_neg (by rw [h.len]; omega)]
variable {w0 w : World} {g : Nat}
theorem q_st (h : IsQ w0 w g S) (W : WellS S N k) (n : Int) (b : ByteArray) (h0 : 0 ≤ n) (h1 : n < N) (hb : b.size = 128) (hk : k ≤ 1000) (hN : N ≤ 1000) :
    Calls Try.prog 22 #[.pointer (some ⟨g, 0, none⟩), .int .i64 n, .string b] w fun e w' => e = .returned (.int .i64 0) ∧ IsQ w0 w' g (stS S n b) ∧ Others w w' :=
  q_store h n b (W.may h0 h1) hb W.halts W.after (Go.WalkArith.wf_i64 (by omega)) (by rw [W.few]; exact hk)
end
end Go.Proofs.Ytpeeojbhfebcdaa.VP
end
section
namespace Go.Proofs.Ytpeeojbhfebcdaa.V
open Go.RowKit Go.Proofs.YtpeeojbhfebcdaaW.PrintWords Go.Proofs.YtpeeojbhfebcdaaW.PrintLast Go.Proofs.YtpeeojbhfebcdaaW.PrintMore Go.Proofs.YtpeeojbhfebcdaaM
set_option linter.unusedVariables false
set_option linter.unusedSimpArgs false
def Full (S : PS) : Prop := ∀ x ∈ S.out, x.2.size = 128
theorem Full.put {S : PS} (h : Full S) {b : ByteArray} {is : Bool} (hb : is = true → b.size = 128) : Full (putS S b is) := by
  by_cases he : S.e = 0
  · cases is with
    | false =>
      have : putS S b false = { S with e := 9 } := by unfold putS; rw [if_pos he]; rfl
      rw [this]; exact h
    | true =>
      cases hk : S.known b with
      | some n => rw [(put_some he hk).1]; exact h
      | none =>
        cases hf : S.free with
        | nil => rw [put_nil he hk hf]; exact h
        | cons n f =>
          rw [(put_cons he hk hf).1]
          intro x hx
          rcases List.mem_append.1 hx with hx | hx
          · exact h x hx
          · rw [List.mem_singleton] at hx
            rw [hx]; exact hb rfl
  · rw [putS_stuck he]; exact h
theorem chA_full {nx : Int} {x : ByteArray} (h : (chA nx x).2 = true) : (chA nx x).1.size = 128 := by
  unfold chA at h ⊢
  split at h
  · rename_i hc
    rw [if_pos hc]
    refine strOf_pad_size ?_
    rw [chL_length]
    unfold chOk at hc
    simp only [Bool.and_eq_true, decide_eq_true_eq] at hc
    omega
  · cases h
theorem fullA_full {l : List Int} (h : (fullA (strOfNums l)).2 = true) : (fullA (strOfNums l)).1.size = 128 := by
  rw [fullA_pad h]
  rw [fullA_two, decide_eq_true_eq, strOfNums_size] at h
  exact strOf_pad_size h
theorem leafE_full {l : List C4} (h : (leafE l).2 = true) : (leafE l).1.size = 128 := by
  unfold leafE lfA at h ⊢
  split at h
  · rename_i h1
    rw [if_pos h1]
    split at h
    · rename_i h2
      rw [if_pos h2]
      exact fullA_full h
    · cases h
  · cases h
theorem indexE_full {l : List S2} (h : (indexE l).2 = true) : (indexE l).1.size = 128 := by
  unfold indexE idxA at h ⊢
  split at h
  · rename_i h1
    rw [if_pos h1]
    split at h
    · rename_i h2
      rw [if_pos h2]
      exact fullA_full h
    · cases h
  · cases h
theorem Full.chain : ∀ (l : List ByteArray) {S : PS}, Full S → Full (chainF l S).2
  | [], _, h => h
  | x :: t, _, h => by rw [chainF_cons]; exact (Full.chain t h).put chA_full
theorem Full.chains : ∀ (l : List R2) {S : PS}, Full S → Full (chainsF l S).2
  | [], _, h => h
  | x :: t, _, h => by
    rw [chainsF_cons]
    split
    · exact Full.chains t (Full.chain _ h)
    · exact Full.chains t h
theorem Full.slots : ∀ (l : List (List C4)) {S : PS}, Full S → Full (slotsF l S).2
  | [], _, h => h
  | x :: t, _, h => by
    rw [slotsF_cons]
    split
    · exact Full.slots t (h.put leafE_full)
    · exact Full.slots t h
theorem plan_full (l hv : List R2) (fr : List Int) : ∀ x ∈ (planE l hv fr).1, x.2.size = 128 := by
  by_cases h : (planE l hv fr).2.2 = 0
  · rw [(planE_ok h).2.2.2.2]
    have h1 : Full (planS l hv fr) := Full.chains l (S := ⟨knF hv, fr, [], 0⟩) (fun x hx => (List.not_mem_nil hx).elim)
    have h2 : Full (planT l hv fr).2 := Full.slots _ h1
    exact h2.put indexE_full
  · rw [(planE_no h).1]
    exact fun x hx => (List.not_mem_nil hx).elim
def dn (j : Nat) : List Int := (List.range j).map fun (i : Nat) => 199 - (i : Int)
theorem dn_length (j : Nat) : (dn j).length = j := by unfold dn; simp
theorem dn_snoc (j : Nat) : dn (j + 1) = dn j ++ [199 - (j : Int)] := by unfold dn; rw [List.range_succ, List.map_append]; rfl
theorem dn_nodup (j : Nat) : (dn j).Nodup := by
  unfold dn List.Nodup
  rw [List.pairwise_map]
  exact List.nodup_range.imp (fun h e => h (by omega))
def stL (S : VP.PS) (l : List R2) : VP.PS := l.foldl (fun S x => VP.stS S x.1 x.2) S
theorem stL_last : ∀ (l : List R2) (S : VP.PS), (stL S l).last = lastL S.last l
  | [], S => rfl
  | x :: t, S => by
    show (stL (VP.stS S x.1 x.2) t).last = lastL (upd S.last x.1 x.2) t
    rw [stL_last t]
    rfl
theorem stL_append (S : VP.PS) (a b : List R2) : stL S (a ++ b) = stL (stL S a) b := by unfold stL; rw [List.foldl_append]
theorem stL_well : ∀ (l : List R2) (S : VP.PS) (k : Nat), VP.WellS S 200 k → (∀ x ∈ l, (0 ≤ x.1 ∧ x.1 < 200) ∧ x.2.size = 128) → VP.WellS (stL S l) 200 (k + l.length)
  | [], S, k, h, _ => h
  | x :: t, S, k, h, hx => by
    obtain ⟨⟨h1, h2⟩, h3⟩ := hx x List.mem_cons_self
    have := stL_well t _ (k + 1) (h.st h1 (by exact h2) h3) (fun y hy => hx y (List.mem_cons_of_mem _ hy))
    rw [List.length_cons, show k + (t.length + 1) = k + 1 + t.length by omega]
    exact this
def ldP (S : VP.PS) : Ld := fun n => VP.loadE S n
theorem ldP_at {S : VP.PS} {k : Nat} (h : VP.WellS S 200 k) {n : Int} {b : ByteArray} (h0 : 0 ≤ n) (h1 : n < 200) (hl : S.last n = some b) : ldP S n = (b, 0) := by
  unfold ldP VP.loadE
  rw [if_pos (h.may h0 (by exact h1)), hl]
  rfl
theorem pg_small {S : VP.PS} {k : Nat} (h : VP.WellS S 200 k) (hl : ∀ n b, S.last n = some b → b.size ≤ 1000000) : LdSmall (ldP S) := by
  intro n
  unfold ldP VP.loadE
  split
  · show ((S.last n).getD (S.safe.getD n.toNat ⟨#[]⟩)).size ≤ 1000000
    cases hn : S.last n with
    | some b => exact hl n b hn
    | none =>
      show (S.safe.getD n.toNat ⟨#[]⟩).size ≤ 1000000
      rw [List.getD_eq_getElem?_getD]
      cases hs : S.safe[n.toNat]? with
      | none => show (0 : Nat) ≤ 1000000; decide
      | some b =>
        show b.size ≤ 1000000
        rw [h.pages.1 b (List.mem_of_getElem? hs)]; decide
  · show (0 : Nat) ≤ 1000000; decide
theorem lastL_some : ∀ (l : List R2) (f : Int → Option ByteArray) (n : Int) (b : ByteArray), lastL f l n = some b → f n = some b ∨ (n, b) ∈ l
  | [], f, n, b, h => .inl h
  | x :: t, f, n, b, h => by
    rcases lastL_some t _ n b h with h | h
    · change upd f x.1 x.2 n = some b at h
      by_cases e : n = x.1
      · rw [e, upd_same] at h
        injection h with h
        refine .inr ?_
        rw [e, ← h]; exact List.mem_cons_self
      · rw [upd_ne _ _ e] at h; exact .inl h
    · exact .inr (List.mem_cons_of_mem _ h)
def plat (l : List R2) : VP.PS := stL (VP.newS 200) l
def okO (l : List R2) : Prop := (∀ x ∈ l, (2 ≤ x.1 ∧ x.1 < 200) ∧ x.2.size = 128) ∧ l.Pairwise fun p q => p.1 ≠ q.1
theorem plat_well {l : List R2} (h : okO l) : VP.WellS (plat l) 200 l.length := by
  have := stL_well l (VP.newS 200) 0 (VP.WellS.new 200) (fun x hx => ⟨⟨by have := (h.1 x hx).1.1; omega, (h.1 x hx).1.2⟩, (h.1 x hx).2⟩)
  rw [Nat.zero_add] at this
  exact this
theorem plat_last {l : List R2} (h : okO l) : ∀ x ∈ l, (plat l).last x.1 = some x.2 := by
  intro x hx
  unfold plat
  rw [stL_last]
  exact lastL_mem l _ h.2 x hx
theorem plat_small {l : List R2} (h : okO l) : LdSmall (ldP (plat l)) := by
  refine pg_small (plat_well h) (fun n b hb => ?_)
  unfold plat at hb
  rw [stL_last] at hb
  rcases lastL_some l _ n b hb with h1 | h1
  · cases h1
  · rw [(h.1 _ h1).2]; decide
theorem plat_ld {l : List R2} (h : okO l) : ∀ x ∈ l, ldP (plat l) x.1 = (x.2, 0) := fun x hx => ldP_at (plat_well h) (by have := (h.1 x hx).1.1; omega) (h.1 x hx).1.2 (plat_last h x hx)
theorem planE_okO {l hv : List R2} {fr : List Int} (h : (planE l hv fr).2.2 = 0) (hf : fr.Nodup) : okO (planE l hv fr).1 := by
  obtain ⟨h1, h2, h3, h4, h5⟩ := planE_ok h
  refine ⟨fun x hx => ⟨?_, plan_full l hv fr x hx⟩, ?_⟩
  · rw [h5] at hx
    obtain ⟨pv, pf⟩ := mayE_pg h2
    have h6 := (planZ_ok (l := l) (hv := hv) (fr := fr) (fun x hx => pv _ (List.mem_map_of_mem hx)) pf).2 x hx
    exact PRd.okP_range h6.1
  · rw [h5]; exact out_apart hf
theorem both_okO {l m : List R2} {ys : List R2} {fr : List Int} (h : (planE l [] fr).2.2 = 0) (hf : fr.Nodup) (h2 : (planE m ys (fr.drop (planE l [] fr).1.length)).2.2 = 0) :
    okO ((planE l [] fr).1 ++ (planE m ys (fr.drop (planE l [] fr).1.length)).1) := by
  have a := planE_okO h hf
  have hd : (fr.drop (planE l [] fr).1.length).Nodup := hf.sublist (List.drop_sublist _ _)
  have b := planE_okO h2 hd
  refine ⟨fun x hx => (List.mem_append.1 hx).elim (a.1 x) (b.1 x), ?_⟩
  rw [List.pairwise_append]
  refine ⟨a.2, b.2, fun x hx y hy e => ?_⟩
  have e1 := (planE_ok h).2.2.2.2
  have e2 := (planE_ok h2).2.2.2.2
  have p1 := (plan_inv l [] fr).pages
  have p2 := (plan_inv m ys (fr.drop (planE l [] fr).1.length)).pages
  have q1 : x.1 ∈ fr.take (planE l [] fr).1.length := by
    have h9 : (planE l [] fr).1 = (planZ l [] fr).2.out := by rw [e1]
    rw [h9] at hx ⊢
    have h8 : fr.take (planZ l [] fr).2.out.length = (planZ l [] fr).2.out.map (·.1) := by
      obtain ⟨o, ho⟩ : ∃ o, o = (planZ l [] fr).2.out := ⟨_, rfl⟩
      rw [← ho] at p1 ⊢
      have e3 : o.length = (o.map (·.1)).length := by simp
      rw [← p1, e3, List.take_left]
    rw [h8]; exact List.mem_map_of_mem hx
  have q2 : y.1 ∈ fr.drop (planE l [] fr).1.length := by
    have h9 : (planE m ys (fr.drop (planE l [] fr).1.length)).1 = (planZ m ys (fr.drop (planE l [] fr).1.length)).2.out := by rw [e2]
    rw [h9] at hy
    rw [← p2]
    exact List.mem_append.2 (.inl (List.mem_map_of_mem hy))
  have hn := List.take_append_drop (planE l [] fr).1.length fr
  rw [← hn, List.nodup_append] at hf
  exact hf.2.2 x.1 q1 y.1 q2 e
theorem plan_other {m ys : List R2} {fr : List Int} (h : (planE m ys fr).2.2 = 0) : ∀ x ∈ (planE m ys fr).1, ∀ y ∈ ys, x.1 ≠ y.1 ∧ x.2 ≠ y.2 := by
  obtain ⟨h1, h2, h3, h4, h5⟩ := planE_ok h
  rw [h5]
  intro x hx y hy
  have hp := plan_inv m ys fr
  refine ⟨fun e => ?_, hp.new x hx y hy⟩
  have hx2 : x.1 ∈ fr := by
    rw [← hp.pages]
    exact List.mem_append.2 (.inl (List.mem_map_of_mem hx))
  unfold mayE at h2
  rw [Bool.and_eq_true] at h2
  have h6 := h2.1
  unfold frOk at h6
  rw [all_at] at h6
  obtain ⟨i, hi, e2⟩ := List.mem_iff_getElem.1 hx2
  have h7 := h6 i hi
  simp only [Bool.and_eq_true, Bool.not_eq_true', decide_eq_false_iff_not] at h7
  refine h7.1 ?_
  rw [List.getD_eq_getElem?_getD, List.getElem?_eq_getElem hi, Option.getD_some, e2, e]
  exact List.mem_map_of_mem hy
theorem kn_ld {l hv : List R2} {fr : List Int} {O : List R2} (hO : okO O) (hh : ∀ x ∈ hv, x ∈ O) (hp : ∀ x ∈ (planZ l hv fr).2.out, x ∈ O) : LdK (ldP (plat O)) (planZ l hv fr).2.known := by
  intro b n h
  rw [planZ_kn l hv fr] at h
  have h1 := knF_mem _ _ _ h
  exact plat_ld hO (n, b) ((List.mem_append.1 h1).elim (hh _) (hp _))
theorem back1 {l : List R2} {fr : List Int} (h : (planE l [] fr).2.2 = 0) (hf : fr.Nodup) :
    (fRead (ldP (plat (planE l [] fr).1)) (planE l [] fr).2.1).e = 0 ∧ (fRead (ldP (plat (planE l [] fr).1)) (planE l [] fr).2.1).out = l ∧
      ∀ ys, PagesOf (fRead (ldP (plat (planE l [] fr).1)) (planE l [] fr).2.1) ys → ys.length = (planE l [] fr).1.length ∧ ∀ x, x ∈ ys ↔ x ∈ (planE l [] fr).1 := by
  have hO := planE_okO h hf
  have hz : (planE l [] fr).1 = (planZ l [] fr).2.out := by rw [(planE_ok h).2.2.2.2]
  have hK : LdK (ldP (plat (planE l [] fr).1)) (planZ l [] fr).2.known := kn_ld hO (fun x hx => (List.not_mem_nil hx).elim) (fun x hx => by rw [hz]; exact hx)
  obtain ⟨a1, a2, _⟩ := plan_read h hK
  refine ⟨a1, a2, fun ys hy => ?_⟩
  have hm : ∀ n b, (n, b) ∈ ys ↔ (n, b) ∈ (planE l [] fr).1 := fun n b => (hy.2 n b).trans (plan_pages h hK n b)
  exact ⟨same_len (hy.1.imp (fun h e => by omega)) hO.2 hm, fun x => hm x.1 x.2⟩
theorem back2 {l m ys : List R2} {fr : List Int} (h : (planE l [] fr).2.2 = 0) (hf : fr.Nodup) (hy : ∀ x, x ∈ ys ↔ x ∈ (planE l [] fr).1) (h2 : (planE m ys (fr.drop (planE l [] fr).1.length)).2.2 = 0) :
    okO ((planE l [] fr).1 ++ (planE m ys (fr.drop (planE l [] fr).1.length)).1) ∧
    ((fRead (ldP (plat ((planE l [] fr).1 ++ (planE m ys (fr.drop (planE l [] fr).1.length)).1))) (planE m ys (fr.drop (planE l [] fr).1.length)).2.1).e = 0 ∧
     (fRead (ldP (plat ((planE l [] fr).1 ++ (planE m ys (fr.drop (planE l [] fr).1.length)).1))) (planE m ys (fr.drop (planE l [] fr).1.length)).2.1).out = m) ∧
    ((fRead (ldP (plat ((planE l [] fr).1 ++ (planE m ys (fr.drop (planE l [] fr).1.length)).1))) (planE l [] fr).2.1).e = 0 ∧
     (fRead (ldP (plat ((planE l [] fr).1 ++ (planE m ys (fr.drop (planE l [] fr).1.length)).1))) (planE l [] fr).2.1).out = l) := by
  have hO := both_okO h hf h2
  have hz : (planE l [] fr).1 = (planZ l [] fr).2.out := by rw [(planE_ok h).2.2.2.2]
  have hz2 : (planE m ys (fr.drop (planE l [] fr).1.length)).1 = (planZ m ys (fr.drop (planE l [] fr).1.length)).2.out := by rw [(planE_ok h2).2.2.2.2]
  have k2 := kn_ld (l := m) (hv := ys) (fr := fr.drop (planE l [] fr).1.length) hO (fun x hx => List.mem_append.2 (.inl ((hy x).1 hx))) (fun x hx => List.mem_append.2 (.inr (by rw [hz2]; exact hx)))
  have k1 := kn_ld (l := l) (hv := []) (fr := fr) hO (fun x hx => (List.not_mem_nil hx).elim) (fun x hx => List.mem_append.2 (.inl (by rw [hz]; exact hx)))
  obtain ⟨a1, a2, _⟩ := plan_read h2 k2
  obtain ⟨b1, b2, _⟩ := plan_read h k1
  exact ⟨hO, ⟨a1, a2⟩, b1, b2⟩
end Go.Proofs.Ytpeeojbhfebcdaa.V
end

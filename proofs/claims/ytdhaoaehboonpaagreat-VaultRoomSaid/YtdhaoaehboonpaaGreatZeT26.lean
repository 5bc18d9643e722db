/- Of the texts that the row stands on, what it needs (part 26), put together by a program of this session. -/
import Derived.Test.YtdhaoaehboonpaaGreatZeT13
import Derived.Test.YtdhaoaehboonpaaGreatZeT4
import Derived.Test.YtdhaoaehboonpaaGreatZeT25
import Derived.Sort.OwnSortedInts
import Derived.Shelf.SlSortCmp.WholeK
import Derived.WalkKit
import Derived.BigQuiet
import Derived.Deep.LoopGhost
import Derived.Sort.Grow
import Derived.Lib.Hide
import Derived.Lib.Small
import Derived.Deep.DeepMust
import Derived.Test.YtdhaoaehboonpaaGreatZeT24
section
namespace Go.Proofs.YtdhaoaehboonpaaGreat.V
open Go.Proofs Go.Shelf Go.RowKit Go.Lib Go.Sort Go.Proofs.YtdhaoaehboonpaaGreatW.PrintWords Go.Proofs.YtdhaoaehboonpaaGreatW.PrintLast Go.Proofs.YtdhaoaehboonpaaGreatW.PrintMore
set_option linter.unusedVariables false
set_option linter.unusedSimpArgs false
section
variable {α : Type} [Inhabited α]
theorem holds_of_own {enc : α → Value} {w : World} {g n cap base : Nat} {e : TypeId} {ss : List α} {k : Nat} {xs : List Value} (h : w.ownsRow base e k (.slice (some ⟨g, 0, none⟩) n cap) n xs) (hx : xs = ss.map enc) : Holds enc w g 0 ss.toArray := by
  subst hx
  rcases h.2 with ⟨h0, _⟩ | ⟨g', cap', cur, hv, hg, hb, hn, hcap, hsz, ht⟩
  · cases h0
  cases hv
  intro j hj
  have hj' : j < ss.length := by simpa using hj
  refine ⟨?_, by simp [World.frozen?, hb]⟩
  have hl := h.1
  rw [List.length_map] at hl
  have h1 : (cur.toList.take (n * k))[j]? = (ss.map enc)[j]? := by rw [ht]
  rw [List.getElem?_take_of_lt (by omega)] at h1
  simp only [World.cell?, hb, Nat.zero_add]
  simp only [Option.isSome_none, Bool.false_eq_true, if_false]
  rw [← Array.getElem?_toList, h1]
  simp [hj']
theorem heap_sortedG {enc : α → Value} {w : World} {g n : Nat} {os : Array Obj} {cur : Array Value} {e : TypeId} {fr : Nat × Nat} (d : Array α) (hb : w.heap[g]? = some (.cells cur e fr)) :
    (grow (putRow enc (Sort.ahead w n) g 0 d) os).heap[g]? = some (.cells (putCells enc 0 d cur) e fr) := by
  have hg : g < w.heap.size := (Array.getElem?_eq_some_iff.1 hb).1
  rw [heap_grow_old _ _ (by simpa using hg)]
  simp [putRow, mapBlock, Sort.ahead, Array.getElem?_modify, hb, onCells]
theorem grownBy_sortedG {enc : α → Value} {w : World} {g n : Nat} {os : Array Obj} (d : Array α) : w.grownBy (grow (putRow enc (Sort.ahead w n) g 0 d) os) (some g) := by
  refine ⟨rfl, rfl, rfl, by simp, fun k hk hne => ?_⟩
  rw [heap_grow_old _ _ (by simpa using hk)]
  have : g ≠ k := fun e => hne (by rw [e])
  simp [putRow, mapBlock, Sort.ahead, Array.getElem?_modify, this]
theorem take_putCellsG {enc : α → Value} (cur : Array Value) (ts : List α) (h : ts.length ≤ cur.size) : (putCells enc 0 ts.toArray cur).toList.take ts.length = ts.map enc := by
  apply List.ext_getElem?
  intro j
  by_cases hj : j < ts.length
  · rw [List.getElem?_take_of_lt hj, Array.getElem?_toList]
    simp [putCells, hj, show j < cur.size by omega]
  · rw [List.getElem?_take_eq_none (by omega), List.getElem?_eq_none (by simp; omega)]
theorem own_sorted {enc : α → Value} {w : World} {base g cap n q k : Nat} {e : TypeId} {os : Array Obj} {xs : List Value} {ts : List α} (h : w.ownsRow base e k (.slice (some ⟨g, 0, none⟩) n cap) n xs) (hl : ts.length = n * k) :
    (grow (putRow enc (Sort.ahead w q) g 0 ts.toArray) os).ownsRow base e k (.slice (some ⟨g, 0, none⟩) n cap) n (ts.map enc) := by
  rcases h.2 with ⟨h0, _⟩ | ⟨g', cap', cur, hv, hg, hb, hn, hcap, hsz, ht⟩
  · cases h0
  cases hv
  exact ⟨by rw [List.length_map]; exact hl, .inr ⟨g, cap, _, rfl, hg, heap_sortedG _ hb, hn, hcap, by simp [putCells, hsz], by rw [← hl]; exact take_putCellsG cur ts (by rw [hl, hsz]; exact Nat.mul_le_mul_right k hn)⟩⟩
end
theorem compare_int (x y : Int) (w : World) : Calls Tryz.prog 114 #[.int .i64 x, .int .i64 y] w fun e w' => e = .returned (.int .i64 (Lib.compareInt x y)) ∧ w' = w := Tryz.cmp_Compare_int x y w
theorem flat_get {α : Type} [Inhabited α] (enc : α → List Value) (k : Nat) (xs : List α) (t : Nat) : (flatK enc k xs.toArray).toList[t]? = if t < xs.length * k then some ((enc xs.toArray[t / k]!)[t % k]!) else none := by
  by_cases h : t < xs.length * k
  · rw [if_pos h]; simp [flatK, h]
  · rw [if_neg h]; simp [flatK]; omega
theorem reps_flat {α : Type} [Inhabited α] {enc : α → List Value} {k : Nat} (hk : ∀ x, (enc x).length = k) (h0 : 0 < k) {R : α → List Value → Prop} (hR : ∀ x c, R x c → c = enc x) {xs : List α} {cs : List Value} (h : Reps R k xs cs) : cs = (flatK enc k xs.toArray).toList := by
  apply List.ext_getElem?
  intro t
  rw [flat_get]
  by_cases ht : t < xs.length * k
  · rw [if_pos ht]
    have hj : t / k < xs.length := (Nat.div_lt_iff_lt_mul h0).2 ht
    have h1 := hR _ _ (h.2 (t / k) _ (List.getElem?_eq_getElem hj))
    have hm : t % k < k := Nat.mod_lt _ h0
    have h2 : ((cs.drop (t / k * k)).take k)[t % k]? = (enc xs[t / k])[t % k]? := by rw [h1]
    rw [List.getElem?_take_of_lt hm, List.getElem?_drop, show t / k * k + t % k = t from Nat.div_add_mod' t k] at h2
    rw [h2]
    simp [hj]
    rw [List.getElem?_eq_getElem (by rw [hk]; exact hm)]
    simp
  · rw [if_neg ht, List.getElem?_eq_none (by rw [h.1]; omega)]
theorem flat_reps {α : Type} [Inhabited α] {enc : α → List Value} {k : Nat} (hk : ∀ x, (enc x).length = k) (h0 : 0 < k) {R : α → List Value → Prop} (hR : ∀ x, R x (enc x)) (xs : List α) : Reps R k xs (flatK enc k xs.toArray).toList := by
  refine ⟨by simp, fun j p hj => ?_⟩
  obtain ⟨hj1, rfl⟩ := List.getElem?_eq_some_iff.1 hj
  have : ((flatK enc k xs.toArray).toList.drop (j * k)).take k = enc xs[j] := by
    apply List.ext_getElem?
    intro t
    by_cases ht : t < k
    · have hlt : j * k + t < xs.length * k := by
        have := Nat.mul_le_mul_right k (show j + 1 ≤ xs.length from hj1)
        rw [Nat.add_mul, Nat.one_mul] at this
        omega
      rw [List.getElem?_take_of_lt ht, List.getElem?_drop, flat_get, if_pos hlt]
      have e1 : (j * k + t) / k = j := (blk_iff k j _ h0).1 ⟨by omega, by omega⟩
      have e2 : (j * k + t) % k = t := by rw [Nat.mod_eq_sub_div_mul, e1]; omega
      rw [e1, e2, List.getElem?_eq_getElem (by rw [hk]; exact ht)]
      simp [hj1]
      simp [hk, ht]
    · rw [List.getElem?_take_eq_none (by omega), List.getElem?_eq_none (by rw [hk]; omega)]
  rw [this]
  exact hR _
instance : Inhabited R2 := ⟨(0, ⟨#[]⟩)⟩
def encR (x : R2) : List Value := [.int .i64 x.1, .string x.2]
def cfR (x y : R2) : Int := Lib.compareInt x.1 y.1
theorem ltR (x y : R2) : ltOf cfR x y = decide (x.1 < y.1) := by
  unfold ltOf cfR Lib.compareInt
  by_cases h1 : x.1 < y.1
  · simp [h1]
  · by_cases h2 : y.1 < x.1
    · simp [h1, h2]
    · simp [h1, h2]
theorem swoR : SWO (ltOf cfR) where
  irrefl x := by rw [ltR]; simp
  trans x y z h1 h2 := by rw [ltR, decide_eq_true_eq] at *; omega
  ntrans x y z h1 h2 := by rw [ltR, decide_eq_false_iff_not] at *; omega
theorem isAgg106 : ∀ w, (isAgg 106).run Tryz.prog w = .ok true w := fun w => by kernel_rfl
theorem sizeOf28 : ∀ w, (Go.sizeOf 106).run Tryz.prog w = .ok 2 w := fun w => by kernel_rfl
set_option maxHeartbeats 4000000 in
theorem closure48 (x y : R2) (W : World) : Calls Tryz.prog 113 #[.agg #[.int .i64 x.1, .string x.2], .agg #[.int .i64 y.1, .string y.2]] W fun e w' => e = .returned (.int .i64 (Lib.compareInt x.1 y.1)) ∧ ∃ q os', w' = grow (W.drewN q) os' := by
  have h0 := fun W' => compare_int x.1 y.1 W'
  obtain ⟨r0, hr0⟩ : ∃ r, r = Lib.compareInt x.1 y.1 := ⟨_, rfl⟩
  rw [← hr0] at h0 ⊢
  obtain ⟨x0, x1⟩ := x
  obtain ⟨y0, y1⟩ := y
  simp only [] at h0 ⊢
  clear hr0
  have H0 := Lib.hid h0
  clear h0
  go_enter Tryz.func113, Tryz.ntmps113
  go_wp2_with (fail)
  refine (H0.out _).mono ?_
  rintro e w' ⟨rfl, rfl⟩
  go_wp2
  go_ret
  exact ⟨rfl, 0, _, by rw [alloc_eq_grow, alloc_eq_grow, grow_grow]; rfl⟩
theorem cmpLays48 (blk off size : Nat) (w : World) : CmpLays Tryz.prog 113 #[] encR 2 cfR blk off size w :=
  fun _ _ _ _ x y => closure48 x y _
set_option maxHeartbeats 2000000 in
theorem insertionP_nil (f : Value) (w : World) : Calls Tryz.prog 182 #[.slice none 0 0, .int .i64 0, .int .i64 0, f] w fun e w' => e = .returned (.tuple #[]) ∧ w' = w := by
  go_enter Tryz.func182, Tryz.ntmps182
  go_wp2
  go_loopg [8] 0 (fun kq i wr => wr = w ∧ i = .int .i64 1)
  case atStart => exact ⟨rfl, rfl⟩
  case round =>
    obtain ⟨rfl, rfl⟩ := hrel
    go_wp2
    go_end0
    exact ⟨rfl, rfl⟩
set_option maxHeartbeats 2000000 in
set_option maxRecDepth 100000 in
theorem pdqP_nil (f : Value) (q : Int) (w : World) : Calls Tryz.prog 164 #[.slice none 0 0, .int .i64 0, .int .i64 0, .int .i64 q, f] w fun e w' => e = .returned (.tuple #[]) ∧ w' = w := by
  go_enter Tryz.func164, Tryz.ntmps164
  go_wp2
  refine wp_loop_rounds 1 ?_
  rw [rounds_succ]
  go_wp2_with (fail)
  with_reducible refine (insertionP_nil f _).mono ?_
  rintro e w' ⟨rfl, rfl⟩
  go_wp2
  refine bodyPost_ret (results_none rfl _ _ _) rfl ?_
  exact ⟨rfl, rfl⟩
theorem bits_zero (w : World) : Calls Tryz.prog 165 #[.int .u64 0] w fun e w' => e = .returned (.int .i64 (Lib.bitLen 0 : Nat)) ∧ w' = w := by
  have h := Any.bits_Len (SlLaysF0.n15.bits (P := Tryz.prog) (ρ := Tryz.sortW_ren) { Tryz.sortW with }) 0 w (by omega) (by omega)
  exact h
set_option maxHeartbeats 2000000 in
theorem sortP_nil (f : Value) (w : World) : Calls Tryz.prog 112 #[.slice none 0 0, f] w fun e w' => e = .returned (.tuple #[]) ∧ w' = w := by
  have h1 := Aside0.mk (bits_zero w)
  go_enter Tryz.func112, Tryz.ntmps112
  go_wp2_with (fail)
  with_reducible refine (h1.out).mono ?_
  rintro e w' ⟨rfl, rfl⟩
  go_wp2_with (fail)
  with_reducible refine (pdqP_nil f _ _).mono ?_
  rintro e w' ⟨rfl, rfl⟩
  go_wp2
  go_end0
  exact ⟨rfl, rfl⟩
set_option maxHeartbeats 2000000 in
theorem sort_writes {w : World} {base : Nat} {ok : Nat → Prop} {v : Value} {xs : List R2} (h : kR.R 106 w base ok v xs) (hn : xs = [] → v = .slice none 0 0) (hl : xs.length ≤ 1000000) :
    Calls Tryz.prog 112 #[v, .func (.func 113) #[] #[]] w fun e w' => e = .returned (.tuple #[]) ∧ ∃ ys : List R2, ys.Perm xs ∧ (ys.Pairwise fun p q => ¬ q.1 < p.1) ∧ kR.R 106 w' base ok v ys ∧ w.grownBy w' v.ownBlock := by
  by_cases hx : xs = []
  · obtain rfl := hn hx
    subst hx
    exact (sortP_nil _ w).mono fun _ _ ⟨he, hw⟩ => ⟨he, [], List.Perm.nil, List.Pairwise.nil, by rw [hw]; exact h, by rw [hw]; exact ⟨rfl, rfl, rfl, Nat.le_refl _, fun _ _ _ => rfl⟩⟩
  · obtain ⟨g, cap, rfl, hg, hlt, _⟩ := Kd.R_form h (List.length_pos_iff.2 hx)
    obtain ⟨hok, inner, own, reps⟩ := h
    have hin := reps_flat (enc := encR) (k := 2) (fun _ => rfl) (by decide) (fun x c hc => kR_openM hc) reps
    subst hin
    have hH : HoldsK encR 2 w g 0 xs.toArray := by
      have := holds_of_own (enc := (id : Value → Value)) (ss := (flatK encR 2 xs.toArray).toList) own (by simp)
      rw [Array.toArray_toList] at this
      exact this
    have eg : ∀ args w, (callFunc 113 args).run Tryz.prog w = .ok (.enter 113 args) w := enters_of Tryz.func113 (by kernel_rfl) rfl
    have hc := AnyQ.slices_SortFunc Tryz.sortW 2 isAgg106 sizeOf28 encR (fun _ => rfl) (fun x v hv => by simp [encR] at hv; rcases hv with rfl | rfl <;> rfl) cfR swoR 113 #[] g 0 cap xs.toArray w eg (cmpLays48 g 0 _ w) hH hlt (by simp; omega)
    rw [show xs.toArray.size = xs.length by simp] at hc
    refine hc.mono ?_
    rintro e w' ⟨he, d', n, os, hp, hs, rfl⟩
    have hsz : d'.toList.length = xs.length := by have := hp.1; simpa using this
    refine ⟨he, d'.toList, ?_, ?_, ?_, ?_⟩
    · have h2 := hp.2.2
      rw [show d'.extract 0 xs.length = d' by rw [← hsz]; simp, show xs.toArray.extract 0 xs.length = xs.toArray by simp] at h2
      exact h2
    · rw [List.pairwise_iff_getElem]
      intro i j hi hj hij
      have := hs i j (Nat.zero_le _) hij (by omega)
      rw [ltR, decide_eq_false_iff_not] at this
      have hi' : i < d'.size := by simpa using hi
      have hj' : j < d'.size := by simpa using hj
      rw [getElem!_pos d' i hi', getElem!_pos d' j hj'] at this
      exact this
    · have ho := own_sorted (enc := (id : Value → Value)) (q := n) (os := os) (ts := (flatK encR 2 d').toList) own (by
        show (flatK encR 2 d').toList.length = xs.length * 2
        rw [Array.length_toList, size_flatK, ← hsz, Array.length_toList])
      rw [Array.toArray_toList] at ho
      have hr := flat_reps (enc := encR) (k := 2) (fun _ => rfl) (by decide) (R := kR.M (sortWorldK encR 2 w g 0 n d' os) base (fun k => ok k ∧ some k ≠ (Value.slice (some ⟨g, 0, none⟩) xs.length cap).ownBlock)) (fun x => kR_mkM _ _ _ x) d'.toList
      rw [Array.toArray_toList] at hr
      refine ⟨hok, _, ?_, hr⟩
      rw [hsz]
      have e : (flatK encR 2 d').toList.map (id : Value → Value) = (flatK encR 2 d').toList := List.map_id _
      rw [e] at ho
      exact ho
    · exact grownBy_sortedG _
end Go.Proofs.YtdhaoaehboonpaaGreat.V
end
section
namespace Go.Proofs.YtdhaoaehboonpaaGreat.V
open Go.RowKit Go.Proofs.YtdhaoaehboonpaaGreatW.PrintWords Go.Proofs.YtdhaoaehboonpaaGreatW.PrintLast Go.Proofs.YtdhaoaehboonpaaGreatW.PrintMore Go.Proofs.YtdhaoaehboonpaaGreatM
set_option linter.unusedVariables false
set_option linter.unusedSimpArgs false
def slotsP (b : ByteArray) : List PRd.S165 × Bool := (PRd.sheet_Slots.f 300 b).getD ([], false)
def tS (l : List PRd.S165) : List S2 := l.map fun x => (x.f0, x.f1)
def slotsE (b : ByteArray) : List S2 × Bool := (tS (slotsP b).1, (slotsP b).2)
theorem slotsP_is (b : ByteArray) : PRd.sheet_Slots.f 300 b = some (slotsP b) ∧ ∃ bad l, slotsP b = PRd.slotsFin b bad l := by
  obtain ⟨bad, l, hk⟩ := PRd.slots_ex b
  have h1 := hk 300 (Nat.le_refl _)
  unfold slotsP
  rw [h1]
  exact ⟨rfl, bad, l, rfl⟩
theorem slotsE_ok (b : ByteArray) : (slotsE b).1.length ≤ 21 ∧ ∀ x ∈ (slotsE b).1, wfI x.2 := by
  obtain ⟨_, bad, l, e⟩ := slotsP_is b
  unfold slotsE
  rw [e]
  unfold PRd.slotsFin
  split
  · rename_i hc
    simp only [Bool.and_eq_true] at hc
    have h1 := hc.2.1
    unfold PRd.idxOk at h1
    simp only [Bool.and_eq_true, decide_eq_true_eq] at h1
    obtain ⟨h1, h2⟩ := h1
    refine ⟨by unfold tS; rw [List.length_map]; exact h1, fun x hx => ?_⟩
    unfold tS at hx
    obtain ⟨y, hy, rfl⟩ := List.mem_map.1 hx
    obtain ⟨j, hj, rfl⟩ := PRd.mem_rd41 hy
    unfold idxV at h2
    rw [all_at] at h2
    have h3 := h2 j hj
    simp only [Bool.and_eq_true] at h3
    have h5 := PRd.okP_range h3.2
    exact (show wfI (PRd.rd_T165 l j).f1 from wfI_small (by omega) (by omega))
  · exact ⟨by show 0 ≤ 21; decide, fun x hx => (List.not_mem_nil hx).elim⟩
theorem slots_any (b : ByteArray) (w : World) : Calls Tryz.prog 108 #[.string b] w fun e w' => ∃ v0 : Value, e = .returned (.tuple #[v0, .bool (slotsE b).2]) ∧ kS.R 165 w' w.heap.size (fun _ => True) v0 (slotsE b).1 ∧ Below w.heap.size w w' := by
  refine (PRd.sheet_Slots.calls 300 b _ _ w (slotsP_is b).1).mono ?_
  rintro e w' ⟨v, rfl, hR, hb⟩
  exact ⟨v, rfl, R_iso (f := fun x : PRd.S165 => (x.f0, x.f1)) hR, hb⟩
def fSlots (ld : Ld) : List S2 → FS → FS
  | [], S => S
  | s :: t, S => fSlots ld t (if S.e = 0 then fLeaf ld S s else S)
def fS0 : FS := ⟨fun _ => none, [], 0⟩
def fIdx (ld : Ld) (root : Int) : FS := if (slotsE (fPage ld fS0 root).1).2 = true then (fPage ld fS0 root).2 else fForm (fPage ld fS0 root).2
def fRead (ld : Ld) (root : Int) : FS := fSlots ld (slotsE (fPage ld fS0 root).1).1 (fIdx ld root)
theorem fS0_ok : FOk fS0 := fun n b h => by cases h
def PagesOf (S : FS) (ys : List R2) : Prop := (ys.Pairwise fun p q => p.1 < q.1) ∧ ∀ n b, (n, b) ∈ ys ↔ S.pages n = some b
def ReadR (base : Nat) (S : FS) (e : Ending) (w' : World) : Prop := ∃ v u ys, e = .returned (.tuple #[v, u, .int .i64 S.e]) ∧ kR.R 50 w' base (fun _ => True) v (if S.e = 0 then S.out else []) ∧ kR.R 106 w' base (fun _ => True) u ys ∧ (S.e = 0 → PagesOf S ys) ∧ (S.e ≠ 0 → ys = [])
theorem T76 : ∀ q, q ∈ 165 :: kS.E → q ≠ 50 ∧ q ≠ 176 := by intro q hq; simp [kS, Kd.pair, Kd.int, Kd.scalar] at hq; omega
def PgR (root : Int) (S : FS) : Prop := ∀ n b, S.pages n = some b → n = root ∨ (0 ≤ n ∧ n < 200)
theorem fForm_pg {root : Int} {S : FS} (h : PgR root S) : PgR root (fForm S) := by unfold fForm; split <;> exact h
theorem fPage_pg {root : Int} {ld : Ld} {S : FS} (h : PgR root S) {n : Int} (hn : n = root ∨ (0 ≤ n ∧ n < 200)) : PgR root (fPage ld S n).2 := by
  unfold fPage
  cases hp : S.pages n with
  | some b => exact h
  | none =>
    show PgR root (if S.e = 0 then _ else _ : ByteArray × FS).2
    split
    · split
      · intro k b hk
        by_cases e : k = n
        · rw [e]; exact hn
        · change upd S.pages n (ld n).1 k = some b at hk
          rw [upd_ne _ _ e] at hk
          exact h k b hk
      · exact h
    · exact h
theorem fChain_pg {root : Int} {ld : Ld} (hl : LdSmall ld) : ∀ (k : Nat) {S : FS} {n s : Int} (o : ByteArray), FOk S → PgR root S → (0 ≤ n ∧ n < 200) → PgR root (fChain k ld S n s o).2
  | 0, _, _, _, _, _, h, _ => h
  | k + 1, S, n, s, o, ho, h, hn => by
    unfold fChain
    split
    · have h1 := linkE_range (fPage ld S n).1 (fPage_ok hl ho n).2
      refine fChain_pg hl k _ (fStep_ok hl ho n s) ?_ ⟨h1.1, h1.2.1⟩
      unfold fStep
      split
      · exact fForm_pg (fPage_pg h (.inr hn))
      · exact fPage_pg h (.inr hn)
    · exact h
theorem cellsE_pg (b : ByteArray) : ∀ x ∈ (cellsE b).1, 24 < x.2.1 → 0 ≤ x.2.2.1 ∧ x.2.2.1 < 200 := by
  obtain ⟨_, bad, l, e⟩ := cellsP_is b
  unfold cellsE
  rw [e]
  unfold PRd.cellsFin
  split
  · rename_i hc
    simp only [Bool.and_eq_true] at hc
    have h1 := hc.2.1
    unfold PRd.leafOk at h1
    simp only [Bool.and_eq_true, decide_eq_true_eq] at h1
    obtain ⟨h1, h2, _⟩ := h1
    intro x hx h24
    unfold tC at hx
    obtain ⟨y, hy, rfl⟩ := List.mem_map.1 hx
    obtain ⟨j, hj, rfl⟩ := PRd.mem_rd52 hy
    unfold PRd.leafV lfV at h2
    rw [all_at] at h2
    have h3 := h2 j hj
    simp only [Bool.and_eq_true] at h3
    have h4 := h3.2
    unfold okR at h4
    rw [if_neg (show ¬ (PRd.rd_T151 l j).f1 ≤ 24 from by have h9 : 24 < (PRd.rd_T151 l j).f1 := h24; omega)] at h4
    simp only [Bool.and_eq_true, decide_eq_true_eq] at h4
    have h5 := PRd.okP_range h4.2.2
    exact (show 0 ≤ (PRd.rd_T151 l j).f2 ∧ (PRd.rd_T151 l j).f2 < 200 from ⟨by omega, by omega⟩)
  · exact fun x hx => (List.not_mem_nil hx).elim
theorem slotsE_pg (b : ByteArray) : ∀ x ∈ (slotsE b).1, 0 ≤ x.2 ∧ x.2 < 200 := by
  obtain ⟨_, bad, l, e⟩ := slotsP_is b
  unfold slotsE
  rw [e]
  unfold PRd.slotsFin
  split
  · rename_i hc
    simp only [Bool.and_eq_true] at hc
    have h1 := hc.2.1
    unfold PRd.idxOk at h1
    simp only [Bool.and_eq_true, decide_eq_true_eq] at h1
    obtain ⟨h1, h2⟩ := h1
    intro x hx
    unfold tS at hx
    obtain ⟨y, hy, rfl⟩ := List.mem_map.1 hx
    obtain ⟨j, hj, rfl⟩ := PRd.mem_rd41 hy
    unfold idxV at h2
    rw [all_at] at h2
    have h3 := h2 j hj
    simp only [Bool.and_eq_true] at h3
    have h5 := PRd.okP_range h3.2
    exact (show 0 ≤ (PRd.rd_T165 l j).f1 ∧ (PRd.rd_T165 l j).f1 < 200 from ⟨by omega, by omega⟩)
  · exact fun x hx => (List.not_mem_nil hx).elim
theorem fCells_pg {root : Int} {ld : Ld} (hl : LdSmall ld) : ∀ (l : List C4) {S : FS}, (∀ x ∈ l, 24 < x.2.1 → 0 ≤ x.2.2.1 ∧ x.2.2.1 < 200) → FOk S → PgR root S → PgR root (fCells ld l S)
  | [], _, _, _, h => h
  | c :: r, S, hx, ho, h => by
    unfold fCells
    split
    · exact fForm_pg h
    · have h1 : PgR root (fCell ld S c).2 := by
        unfold fCell
        split
        · rename_i h24
          exact fChain_pg hl _ _ ho h (hx c List.mem_cons_self h24)
        · exact h
      exact fCells_pg hl r (S := { (fCell ld S c).2 with out := S.out ++ [(c.1, (fCell ld S c).1)] }) (fun x h => hx x (List.mem_cons_of_mem _ h)) (fun n b hb => fCell_ok hl ho c n b hb) (fun n b hb => h1 n b hb)
theorem fLeaf_pg {root : Int} {ld : Ld} (hl : LdSmall ld) {S : FS} (ho : FOk S) (h : PgR root S) {s : S2} (hs : 0 ≤ s.2 ∧ s.2 < 200) : PgR root (fLeaf ld S s) := by
  unfold fLeaf
  split
  · exact fCells_pg hl _ (cellsE_pg _) (fPage_ok hl ho _).1 (fPage_pg h (.inr hs))
  · exact fForm_pg (fPage_pg h (.inr hs))
theorem fSlots_pg {root : Int} {ld : Ld} (hl : LdSmall ld) : ∀ (l : List S2) {S : FS}, (∀ x ∈ l, 0 ≤ x.2 ∧ x.2 < 200) → FOk S → PgR root S → PgR root (fSlots ld l S)
  | [], _, _, _, h => h
  | s :: t, S, hx, ho, h => by
    unfold fSlots
    have ht := fun x h => hx x (List.mem_cons_of_mem _ h)
    split
    · exact fSlots_pg hl t ht (fLeaf_ok hl ho s) (fLeaf_pg hl ho h (hx s List.mem_cons_self))
    · exact fSlots_pg hl t ht ho h
theorem fRead_pg {ld : Ld} (hl : LdSmall ld) (root : Int) : PgR root (fRead ld root) := by
  unfold fRead fIdx
  have h1 := fPage_pg (root := root) (ld := ld) (S := fS0) (fun n b h => by cases h) (n := root) (.inl rfl)
  have h2 := (fPage_ok hl fS0_ok root).1
  refine fSlots_pg hl _ (slotsE_pg _) ?_ ?_
  · split
    · exact h2
    · exact fForm_ok h2
  · split
    · exact h1
    · exact fForm_pg h1
theorem nodup_len {α : Type} [DecidableEq α] : ∀ (l s : List α), l.Nodup → (∀ x ∈ l, x ∈ s) → l.length ≤ s.length
  | [], s, _, _ => Nat.zero_le _
  | x :: t, s, h, hs => by
    obtain ⟨h1, h2⟩ := List.nodup_cons.1 h
    have := nodup_len t (s.erase x) h2 (fun y hy => (List.mem_erase_of_ne (fun e => h1 (by rw [← e]; exact hy))).2 (hs y (List.mem_cons_of_mem _ hy)))
    rw [List.length_erase_of_mem (hs x List.mem_cons_self)] at this
    have hp : 0 < s.length := List.length_pos_of_mem (hs x List.mem_cons_self)
    rw [List.length_cons]
    omega
theorem few_pages {root : Int} {S : FS} (h : PgR root S) {ys : List R2} (h1 : ys.Pairwise fun p q => p.1 ≠ q.1) (h2 : ∀ x ∈ ys, S.pages x.1 = some x.2) : ys.length ≤ 201 := by
  have := nodup_len (ys.map (·.1)) (root :: (List.range 200).map fun (i : Nat) => (i : Int)) (by
    unfold List.Nodup
    rw [List.pairwise_map]
    exact h1) (fun x hx => by
    obtain ⟨y, hy, rfl⟩ := List.mem_map.1 hx
    rcases h _ _ (h2 y hy) with e | e
    · rw [e]; exact List.mem_cons_self
    · refine List.mem_cons_of_mem _ (List.mem_map.2 ⟨y.1.toNat, List.mem_range.2 (by omega), by omega⟩))
  simpa using this
theorem R_iter {α : Type} {d : Kd α} {e b r : Nat} {w w1 : World} {ok : Nat → Prop} {v : Value} {xs : List α} {f : Int → Option ByteArray} {left : Int → Prop} {cnt m : Nat} (h : d.R e w b ok v xs) (hm : RngB (Value.int .i64) Value.string wfI w m r f left cnt) (hg : w.grownBy w1 (some r)) : d.R e w1 b ok v xs :=
  Kd.R_mono (Kd.R_grown (ok := fun k => ok k ∧ k ≠ r) (Kd.R_mono (Kd.R_bound h) (fun k hk => ⟨hk.1, fun e => by
    obtain ⟨_, _, _, q, hq, cells, hc⟩ := hk
    obtain ⟨_, _, _, _, _, _, _, _, _, _, h6, _⟩ := hm
    rw [e, h6] at hc; cases hc⟩)) hg (fun k hk e => hk.2 (by injection e))) (fun k hk => hk.1)
theorem iter_ne {w : World} {m r g : Nat} {f : Int → Option ByteArray} {left : Int → Prop} {cnt : Nat} {cs : Array Value} {t : TypeId} (hm : RngB (Value.int .i64) Value.string wfI w m r f left cnt) (hb : w.heap[g]? = some (.cells cs t (0, 0))) : some g ≠ some r := by
  intro e
  injection e with e
  subst e
  obtain ⟨_, _, _, _, _, _, _, _, _, _, h6, _⟩ := hm
  rw [hb] at h6; cases h6
theorem iter_ne_row {α : Type} {d : Kd α} {e b m r : Nat} {w : World} {o : Nat → Prop} {v : Value} {xs : List α} {f : Int → Option ByteArray} {left : Int → Prop} {cnt : Nat} (h : d.R e w b o v xs) (hm : RngB (Value.int .i64) Value.string wfI w m r f left cnt) : some r ≠ v.ownBlock ∧ some m ≠ v.ownBlock := by
  obtain ⟨es, _, _, _, _, h1, _, _, _, _, h6, _⟩ := hm
  refine ⟨fun hk => ?_, fun hk => ?_⟩
  · obtain ⟨c1, e1⟩ := Kd.R_typed h r hk.symm
    rw [e1] at h6; cases h6
  · obtain ⟨c1, e1⟩ := Kd.R_typed h m hk.symm
    rw [e1] at h1; cases h1
abbrev PP := Int → ByteArray → Prop
def CellRd (ld : Ld) (c : C4) (r : R2) (P : PP) : Prop := c.1 = r.1 ∧ ∀ S, S.e = 0 → Con ld S → (fCell ld S c).1 = r.2 ∧ Went ld S (fCell ld S c).2 P
def CellsRd (ld : Ld) : List C4 → List R2 → PP → Prop
  | [], [], P => ∀ n b, ¬ P n b
  | c :: cs, r :: rs, P => ∃ P1 P2, CellRd ld c r P1 ∧ CellsRd ld cs rs P2 ∧ ∀ n b, P n b ↔ P1 n b ∨ P2 n b
  | _, _, _ => False
def chainsB : List R2 → PS → List ByteArray
  | [], _ => []
  | r :: t, S => if 24 < r.2.size then chainB (pieces r.2) S ++ chainsB t (chainF (pieces r.2) S).2 else chainsB t S
theorem chainsB_cons (r : R2) (t : List R2) (S : PS) : chainsB (r :: t) S = if 24 < r.2.size then chainB (pieces r.2) S ++ chainsB t (chainF (pieces r.2) S).2 else chainsB t S := rfl
theorem chains_read {ld : Ld} {K : ByteArray → Option Int} (hK : LdK ld K) : ∀ (l : List R2) (T : PS), PgOk T → (∀ r ∈ l, r.2.size ≤ 900) → (chainsF l T).2.e = 0 → Ext (chainsF l T).2.known K → CellsRd ld (chainsF l T).1 l (fun n b => b ∈ chainsB l T ∧ K b = some n)
  | [], T, _, _, _, _ => fun n b h => (List.not_mem_nil h.1).elim
  | r :: t, T, hT, hr, he, hx => by
    have h1 := hr r List.mem_cons_self
    have ht := fun y hy => hr y (List.mem_cons_of_mem _ hy)
    rw [chainsF_cons] at he hx ⊢
    by_cases h24 : 24 < r.2.size
    · rw [if_pos h24] at he hx ⊢
      have he1 := chainsF_e he
      have hx1 : Ext (chainF (pieces r.2) T).2.known K := (chainsF_ext t _).trans hx
      refine ⟨fun n b => b ∈ chainB (pieces r.2) T ∧ K b = some n, fun n b => b ∈ chainsB t (chainF (pieces r.2) T).2 ∧ K b = some n, ⟨?_, fun S h0 hc => ?_⟩, chains_read hK t _ (chainF_pg _ hT) ht he hx, fun n b => ?_⟩
      · unfold cellE; split <;> rfl
      · have hc1 : cellE r (chainF (pieces r.2) T).1 = (r.1, (r.2.size : Int), (chainF (pieces r.2) T).1, ⟨#[]⟩) := by unfold cellE; rw [if_neg (by omega)]
        have hp := piecesF_len r.2.size r.2
        obtain ⟨g1, g2⟩ := chain_read hK (pieces r.2) T r.2.size 1000 S ⟨#[]⟩ hT he1 hx1 (okPcs_pieces _ _ (Nat.le_refl _)) (by unfold pieces; omega) h0 hc
        have e1 : fCell ld S (cellE r (chainF (pieces r.2) T).1) = fChain 1000 ld S (chainF (pieces r.2) T).1 (r.2.size : Int) ⟨#[]⟩ := by
          rw [hc1]
          unfold fCell
          rw [if_pos (by show (24 : Int) < (r.2.size : Int); omega)]
        rw [e1]
        refine ⟨?_, g2⟩
        rw [g1, show cat (pieces r.2) = r.2 from cat_pieces _ _ (Nat.le_refl _)]
        exact ByteArray.empty_append
      · show b ∈ chainsB (r :: t) T ∧ _ ↔ _
        rw [chainsB_cons, if_pos h24, List.mem_append]
        constructor
        · rintro ⟨h | h, h2⟩
          · exact .inl ⟨h, h2⟩
          · exact .inr ⟨h, h2⟩
        · rintro (⟨h, h2⟩ | ⟨h, h2⟩)
          · exact ⟨.inl h, h2⟩
          · exact ⟨.inr h, h2⟩
    · rw [if_neg h24] at he hx ⊢
      refine ⟨fun _ _ => False, fun n b => b ∈ chainsB t T ∧ K b = some n, ⟨?_, fun S h0 hc => ?_⟩, chains_read hK t _ hT ht he hx, fun n b => ?_⟩
      · unfold cellE; split <;> rfl
      · have hc1 : cellE r 2 = (r.1, (r.2.size : Int), 0, r.2) := by unfold cellE; rw [if_pos (by omega)]
        have e1 : fCell ld S (cellE r 2) = (r.2, S) := by
          rw [hc1]
          unfold fCell
          rw [if_neg (by show ¬ (24 : Int) < (r.2.size : Int); omega)]
        rw [e1]
        exact ⟨rfl, h0, rfl, hc, Seen.refl S⟩
      · show b ∈ chainsB (r :: t) T ∧ _ ↔ _
        rw [chainsB_cons, if_neg h24, false_or]
def Found (ld : Ld) (S S' : FS) (rs : List R2) (P : PP) : Prop := S'.e = 0 ∧ S'.out = S.out ++ rs ∧ Con ld S' ∧ Seen S S' P
def up (l : List R2) : Prop := l.Pairwise fun a b => a.1 < b.1
theorem lastGe_up {o : List R2} {c : R2} {t : List R2} (h : up (o ++ c :: t)) : lastGe o c.1 = false := by
  unfold lastGe
  cases hl : o.getLast? with
  | none => rfl
  | some r =>
    have hm : r ∈ o := List.mem_of_getLast? hl
    have := (List.pairwise_append.1 h).2.2 r hm c List.mem_cons_self
    show decide (c.1 ≤ r.1) = false
    exact decide_eq_false (by omega)
theorem cells_read {ld : Ld} : ∀ (cs : List C4) (rs : List R2) (P : PP) (S : FS), CellsRd ld cs rs P → S.e = 0 → Con ld S → up (S.out ++ rs) → Found ld S (fCells ld cs S) rs P
  | [], [], P, S, h, h0, hc, _ => ⟨h0, (List.append_nil _).symm, hc, fun n b => ⟨.inl, fun h2 => h2.elim id (fun h3 => absurd h3 (h n b))⟩⟩
  | c :: cs, r :: rs, P, S, h, h0, hc, hu => by
    obtain ⟨P1, P2, ⟨hk, hrd⟩, h2, hP⟩ := h
    obtain ⟨g1, g2, g3, g4, g5⟩ := hrd S h0 hc
    unfold fCells
    rw [if_neg (by rw [hk, lastGe_up hu]; decide), g1, hk]
    have hu2 : up ((S.out ++ [(r.1, r.2)]) ++ rs) := by rw [List.append_assoc]; exact hu
    obtain ⟨a1, a2, a3, a4⟩ := cells_read cs rs P2 { (fCell ld S c).2 with out := S.out ++ [(r.1, r.2)] } h2 g2 (fun n b hb => g4 n b hb) hu2
    refine ⟨a1, ?_, a3, fun n b => ?_⟩
    · rw [a2]
      show (S.out ++ [(r.1, r.2)]) ++ rs = S.out ++ r :: rs
      rw [List.append_assoc]; rfl
    · have e1 := a4 n b
      rw [e1]
      show (fCell ld S c).2.pages n = some b ∨ P2 n b ↔ _
      rw [g5 n b, hP n b, or_assoc]
  | [], _ :: _, _, _, h, _, _, _ => h.elim
  | _ :: _, [], _, _, h, _, _, _ => h.elim
theorem CellsRd.split {ld : Ld} : ∀ {a b : List C4} {rs : List R2} {P : PP}, CellsRd ld (a ++ b) rs P → ∃ r1 r2 P1 P2, rs = r1 ++ r2 ∧ CellsRd ld a r1 P1 ∧ CellsRd ld b r2 P2 ∧ ∀ n c, P n c ↔ P1 n c ∨ P2 n c
  | [], b, rs, P, h => ⟨[], rs, fun _ _ => False, P, rfl, fun _ _ h => h, h, fun n c => (false_or _).symm ▸ Iff.rfl⟩
  | c :: a, b, [], P, h => h.elim
  | c :: a, b, r :: rs, P, h => by
    obtain ⟨P1, P2, h1, h2, hP⟩ := h
    obtain ⟨r1, r2, Q1, Q2, e, k1, k2, hQ⟩ := CellsRd.split (a := a) h2
    refine ⟨r :: r1, r2, fun n c => P1 n c ∨ Q1 n c, Q2, by rw [e]; rfl, ⟨P1, Q1, h1, k1, fun _ _ => Iff.rfl⟩, k2, fun n c => ?_⟩
    rw [hP, hQ, or_assoc]
def LeavesRd (ld : Ld) : List (List C4) → List R2 → PP → Prop
  | [], rs, P => rs = [] ∧ ∀ n b, ¬ P n b
  | x :: t, rs, P => ∃ r1 r2 P1 P2, rs = r1 ++ r2 ∧ CellsRd ld x r1 P1 ∧ LeavesRd ld t r2 P2 ∧ ∀ n b, P n b ↔ P1 n b ∨ P2 n b
theorem lvs_read {ld : Ld} : ∀ (r cur : List C4) (rs : List R2) (P : PP), CellsRd ld (cur ++ r) rs P → LeavesRd ld (lvs cur r) rs P
  | [], cur, rs, P, h => by
    rw [List.append_nil] at h
    unfold lvs
    cases cur with
    | nil =>
      cases rs with
      | nil => exact ⟨rfl, h⟩
      | cons r rs => exact h.elim
    | cons a t => exact ⟨rs, [], P, fun _ _ => False, (List.append_nil _).symm, h, ⟨rfl, fun _ _ h => h⟩, fun n b => (or_false _).symm ▸ Iff.rfl⟩
  | c :: r, cur, rs, P, h => by
    unfold lvs
    split
    · exact lvs_read r _ rs P (by rw [List.append_assoc]; exact h)
    · obtain ⟨r1, r2, P1, P2, e, h1, h2, hP⟩ := CellsRd.split h
      exact ⟨r1, r2, P1, P2, e, h1, lvs_read r [c] r2 P2 h2, hP⟩
def toC (x : C4) : PRd.S151 := ⟨x.1, x.2.1, x.2.2.1, x.2.2.2⟩
def toS (x : S2) : PRd.S165 := ⟨x.1, x.2⟩
theorem rd61 (l : List C4) (i : Int) : PRd.rd_T151 (l.map toC) i = toC (atC l i.toNat) := by
  unfold PRd.rd_T151 atC
  rw [List.getD_eq_getElem?_getD, List.getD_eq_getElem?_getD, List.getElem?_map]
  cases l[i.toNat]? <;> rfl
theorem rd76 (l : List S2) (i : Int) : PRd.rd_T165 (l.map toS) i = toS (atS l i.toNat) := by
  unfold PRd.rd_T165 atS
  rw [List.getD_eq_getElem?_getD, List.getD_eq_getElem?_getD, List.getElem?_map]
  cases l[i.toNat]? <;> rfl
theorem leafE_is (l : List C4) : leafE l = PRd.leafR (l.map toC) := by
  have h := PRd.leaf_k (l.map toC)
  unfold PRd.sheet_Leaf.f at h
  injection h with h
  rw [← h]
  unfold leafE
  rw [List.length_map]
  simp only [rd61]
  rfl
theorem indexE_is (l : List S2) : indexE l = PRd.idxR (l.map toS) := by
  have h := PRd.index_k (l.map toS)
  unfold PRd.sheet_Index.f at h
  injection h with h
  rw [← h]
  unfold indexE
  rw [List.length_map]
  simp only [rd76]
  rfl
theorem cellsE_back {l : List C4} (h : (leafE l).2 = true) : cellsE (leafE l).1 = (l, true) := by
  rw [leafE_is] at h ⊢
  unfold PRd.leafR at h ⊢
  cases hk : PRd.leafOk (l.map toC) with
  | false => rw [hk, if_neg (by decide)] at h; cases h
  | true =>
    rw [if_pos rfl]
    unfold cellsE cellsP
    rw [PRd.cells_back hk 600 (Nat.le_refl _)]
    show (tC (l.map toC), true) = (l, true)
    unfold tC
    rw [List.map_map]
    congr 1
    conv => rhs; rw [← List.map_id l]
    rfl
theorem slotsE_back {l : List S2} (h : (indexE l).2 = true) : slotsE (indexE l).1 = (l, true) := by
  rw [indexE_is] at h ⊢
  unfold PRd.idxR at h ⊢
  cases hk : PRd.idxOk (l.map toS) with
  | false => rw [hk, if_neg (by decide)] at h; cases h
  | true =>
    rw [if_pos rfl]
    unfold slotsE slotsP
    rw [PRd.slots_back hk 300 (Nat.le_refl _)]
    show (tS (l.map toS), true) = (l, true)
    unfold tS
    rw [List.map_map]
    congr 1
    conv => rhs; rw [← List.map_id l]
    rfl
theorem leaves_read {ld : Ld} {K : ByteArray → Option Int} (hK : LdK ld K) : ∀ (L : List (List C4)) (T : PS) (rs : List R2) (P : PP) (S : FS), (∀ x ∈ L, x ≠ []) → (slotsF L T).2.e = 0 → Ext (slotsF L T).2.known K → LeavesRd ld L rs P → S.e = 0 → Con ld S → up (S.out ++ rs) →
    Found ld S (fSlots ld (slotsF L T).1 S) rs (fun n b => P n b ∨ (b ∈ L.map (fun x => (leafE x).1) ∧ K b = some n))
  | [], T, rs, P, S, _, _, _, ⟨h1, h2⟩, h0, hc, _ => by
    subst h1
    exact ⟨h0, (List.append_nil _).symm, hc, fun n b => ⟨.inl, fun h => h.elim id (fun h3 => h3.elim (fun h4 => absurd h4 (h2 n b)) (fun h4 => (List.not_mem_nil h4.1).elim))⟩⟩
  | x :: t, T, rs, P, S, hne, he, hx, ⟨r1, r2, P1, P2, e, h1, h2, hP⟩, h0, hc, hu => by
    have hT := slotsF_e he
    rw [slotsF_cons, if_pos hT] at he hx ⊢
    change (slotsF t (putS T (leafE x).1 (leafE x).2)).2.e = 0 at he
    change Ext (slotsF t (putS T (leafE x).1 (leafE x).2)).2.known K at hx
    have he1 := slotsF_e he
    have hi := putS_is he1
    have hkn := (slotsF_ext t _).trans hx _ _ (put_known he1)
    have hl := hK _ _ hkn
    obtain ⟨c, r, ex⟩ : ∃ c r, x = c :: r := by
      cases x with
      | nil => exact absurd rfl (hne [] List.mem_cons_self)
      | cons c r => exact ⟨c, r, rfl⟩
    generalize hp : putN T (leafE x).1 (leafE x).2 = p at *
    show Found ld S (fSlots ld (slotsF t (putS T (leafE x).1 (leafE x).2)).1 (if S.e = 0 then fLeaf ld S ((atC x 0).1, p) else S)) rs _
    rw [if_pos h0]
    obtain ⟨g1, g2⟩ := fPage_good hl h0 hc
    have hcb := cellsE_back hi
    have hfl : fLeaf ld S ((atC x 0).1, p) = fCells ld x (fPage ld S p).2 := by
      unfold fLeaf
      show (if ((cellsE (fPage ld S p).1).2 && okHd (cellsE (fPage ld S p).1).1 (atC x 0).1) = true then _ else _) = _
      rw [g1, hcb, if_pos]
      rw [ex]
      show (true && decide (c.1 = c.1)) = true
      simp
    rw [hfl]
    subst e
    obtain ⟨b1, b2, b3, b4⟩ := cells_read x r1 P1 (fPage ld S p).2 h1 g2.1 g2.2.2.1 (by
      rw [g2.2.1]
      rw [← List.append_assoc] at hu
      exact (List.pairwise_append.1 hu).1)
    rw [g2.2.1] at b2
    obtain ⟨a1, a2, a3, a4⟩ := leaves_read hK t (putS T (leafE x).1 (leafE x).2) r2 P2 (fCells ld x (fPage ld S p).2) (fun y hy => hne y (List.mem_cons_of_mem _ hy)) he hx h2 b1 b3 (by rw [b2, List.append_assoc]; exact hu)
    refine ⟨a1, by rw [a2, b2, List.append_assoc], a3, fun n b => ?_⟩
    rw [a4 n b, b4 n b, g2.2.2.2 n b]
    show ((S.pages n = some b ∨ (n = p ∧ b = (leafE x).1)) ∨ P1 n b) ∨ (P2 n b ∨ b ∈ t.map (fun x => (leafE x).1) ∧ K b = some n) ↔ S.pages n = some b ∨ (P n b ∨ b ∈ (x :: t).map (fun x => (leafE x).1) ∧ K b = some n)
    rw [hP n b, List.map_cons, List.mem_cons]
    constructor
    · rintro (((h | ⟨rfl, rfl⟩) | h) | (h | ⟨h, h9⟩))
      · exact .inl h
      · exact .inr (.inr ⟨.inl rfl, hkn⟩)
      · exact .inr (.inl (.inl h))
      · exact .inr (.inl (.inr h))
      · exact .inr (.inr ⟨.inr h, h9⟩)
    · rintro (h | (h | h) | ⟨h | h, h9⟩)
      · exact .inl (.inl (.inl h))
      · exact .inl (.inr h)
      · exact .inr (.inl h)
      · subst h
        rw [hkn] at h9
        injection h9 with h9
        exact .inl (.inl (.inr ⟨h9.symm, rfl⟩))
      · exact .inr (.inr ⟨h, h9⟩)
def planB (l hv : List R2) (fr : List Int) : List ByteArray := (indexE (planT l hv fr).1).1 :: ((lvs [] (planC l hv fr)).map (fun x => (leafE x).1) ++ chainsB l ⟨knF hv, fr, [], 0⟩)
theorem rightF_up : ∀ (l : List R2) (a : Int), rightF a l = true → up l ∧ ∀ r ∈ l, a < r.1
  | [], _, _ => ⟨List.Pairwise.nil, fun r h => (List.not_mem_nil h).elim⟩
  | x :: t, a, h => by
    unfold rightF at h
    simp only [Bool.and_eq_true, decide_eq_true_eq] at h
    obtain ⟨h1, h2⟩ := rightF_up t x.1 h.2.2.2
    refine ⟨List.Pairwise.cons (fun r hr => h2 r hr) h1, fun r hr => ?_⟩
    rcases List.mem_cons.1 hr with rfl | hr
    · exact h.1
    · have := h2 r hr; omega
theorem plan_read {l hv : List R2} {fr : List Int} {ld : Ld} (h : (planE l hv fr).2.2 = 0) (hK : LdK ld (planZ l hv fr).2.known) :
    (fRead ld (planE l hv fr).2.1).e = 0 ∧ (fRead ld (planE l hv fr).2.1).out = l ∧ ∀ n b, (fRead ld (planE l hv fr).2.1).pages n = some b ↔ (b ∈ planB l hv fr ∧ (planZ l hv fr).2.known b = some n) := by
  obtain ⟨h1, h2, h3, h4, h5⟩ := planE_ok h
  rw [h5]
  have hT : (planT l hv fr).2.e = 0 := putS_e h4
  have hS : (planS l hv fr).e = 0 := slotsF_e hT
  obtain ⟨pv, pf⟩ := mayE_pg h2
  have hpv : ∀ x ∈ hv, okP x.1 = true := fun x hx => pv _ (List.mem_map_of_mem hx)
  have hr := rightF_mem l (-1) (by omega) h1
  have hpg : PgOk (⟨knF hv, fr, [], 0⟩ : PS) := ⟨knF_pg hpv, pf⟩
  have hxT : Ext (planT l hv fr).2.known (planZ l hv fr).2.known := putS_ext _ _ _
  have hxS : Ext (planS l hv fr).known (planZ l hv fr).2.known := (slotsF_ext _ _).trans hxT
  have hcr := chains_read hK l ⟨knF hv, fr, [], 0⟩ hpg (fun r h => (hr r h).2.2) hS hxS
  have hlr := lvs_read (planC l hv fr) [] l _ hcr
  have hok : ∀ x ∈ planC l hv fr, cellOk x := chainsF_ok l ⟨knF hv, fr, [], 0⟩ hpg hr hS
  have hne : ∀ x ∈ lvs [] (planC l hv fr), x ≠ [] := lvs_full _ [] hok
  have hi := putS_is h4
  have hkn := put_known h4
  have hl := hK _ _ hkn
  show (fRead ld (planZ l hv fr).1).e = 0 ∧ (fRead ld (planZ l hv fr).1).out = l ∧ ∀ n b, (fRead ld (planZ l hv fr).1).pages n = some b ↔ _
  change ld (planZ l hv fr).1 = ((indexE (planT l hv fr).1).1, 0) at hl
  obtain ⟨g1, g2⟩ := fPage_good (S := fS0) hl rfl (fun n b h => by cases h)
  have hsb := slotsE_back hi
  have e0 : fRead ld (planZ l hv fr).1 = fSlots ld (planT l hv fr).1 (fPage ld fS0 (planZ l hv fr).1).2 := by
    unfold fRead fIdx
    rw [g1, hsb, if_pos rfl]
  rw [e0]
  obtain ⟨a1, a2, a3, a4⟩ := leaves_read hK (lvs [] (planC l hv fr)) (planS l hv fr) l _ (fPage ld fS0 (planZ l hv fr).1).2 hne hT hxT hlr g2.1 g2.2.2.1 (by rw [g2.2.1]; exact (rightF_up l (-1) h1).1)
  rw [g2.2.1] at a2
  refine ⟨a1, a2, fun n b => ?_⟩
  have e1 := a4 n b
  have e2 := g2.2.2.2 n b
  show (fSlots ld (slotsF (lvs [] (planC l hv fr)) (planS l hv fr)).1 (fPage ld fS0 (planZ l hv fr).1).2).pages n = some b ↔ _
  rw [e1, e2]
  unfold planB
  rw [List.mem_cons, List.mem_append]
  constructor
  · rintro ((h | ⟨rfl, rfl⟩) | (⟨h, h9⟩ | ⟨h, h9⟩))
    · cases h
    · exact ⟨.inl rfl, hkn⟩
    · exact ⟨.inr (.inr h), h9⟩
    · exact ⟨.inr (.inl h), h9⟩
  · rintro ⟨h | h | h, h9⟩
    · subst h
      have h8 : some (planZ l hv fr).1 = some n := hkn.symm.trans h9
      injection h8 with h8
      exact .inl (.inr ⟨h8.symm, rfl⟩)
    · exact .inr (.inr ⟨h, h9⟩)
    · exact .inr (.inl ⟨h, h9⟩)
structure PInv (hv : List R2) (fr : List Int) (S : PS) : Prop where
  kn : ∀ x ∈ S.out, S.known x.2 = some x.1
  apart : S.out.Pairwise fun x y => x.2 ≠ y.2
  pages : S.out.map (·.1) ++ S.free = fr
  old : ∀ y ∈ hv, S.known y.2 ≠ none
  new : ∀ x ∈ S.out, ∀ y ∈ hv, x.2 ≠ y.2
theorem PInv.put {hv : List R2} {fr : List Int} {S : PS} (h : PInv hv fr S) (b : ByteArray) (is : Bool) : PInv hv fr (putS S b is) := by
  by_cases he : S.e = 0
  · cases is with
    | false =>
      have : putS S b false = { S with e := 9 } := by unfold putS; rw [if_pos he]; rfl
      rw [this]
      exact ⟨h.kn, h.apart, h.pages, h.old, h.new⟩
    | true =>
      cases hk : S.known b with
      | some n => rw [(put_some he hk).1]; exact h
      | none =>
        cases hf : S.free with
        | nil => rw [put_nil he hk hf]; exact ⟨h.kn, h.apart, h.pages, h.old, h.new⟩
        | cons n f =>
          rw [(put_cons he hk hf).1]
          have hne : ∀ x ∈ S.out, x.2 ≠ b := fun x hx e => by have := h.kn x hx; rw [e, hk] at this; cases this
          have hno : ∀ y ∈ hv, y.2 ≠ b := fun y hy e => h.old y hy (by rw [e]; exact hk)
          refine ⟨fun x hx => ?_, ?_, ?_, fun y hy => ?_, fun x hx y hy => ?_⟩
          · show upd S.known b n x.2 = some x.1
            rcases List.mem_append.1 hx with hx | hx
            · rw [upd_ne _ _ (hne x hx)]; exact h.kn x hx
            · rw [List.mem_singleton] at hx
              rw [hx]; exact upd_same _ _ _
          · show (S.out ++ [(n, b)]).Pairwise _
            rw [List.pairwise_append]
            refine ⟨h.apart, List.pairwise_singleton _ _, fun x hx y hy => ?_⟩
            rw [List.mem_singleton] at hy
            rw [hy]; exact hne x hx
          · show (S.out ++ [(n, b)]).map (·.1) ++ f = fr
            have := h.pages
            rw [hf] at this
            rw [List.map_append, List.append_assoc]; exact this
          · show upd S.known b n y.2 ≠ none
            rw [upd_ne _ _ (hno y hy)]; exact h.old y hy
          · rcases List.mem_append.1 hx with hx | hx
            · exact h.new x hx y hy
            · rw [List.mem_singleton] at hx
              rw [hx]; exact fun e => hno y hy e.symm
  · rw [putS_stuck he]; exact h
theorem PInv.chain {hv : List R2} {fr : List Int} : ∀ (l : List ByteArray) {S : PS}, PInv hv fr S → PInv hv fr (chainF l S).2
  | [], _, h => h
  | x :: t, _, h => by rw [chainF_cons]; exact (PInv.chain t h).put _ _
theorem PInv.chains {hv : List R2} {fr : List Int} : ∀ (l : List R2) {S : PS}, PInv hv fr S → PInv hv fr (chainsF l S).2
  | [], _, h => h
  | x :: t, _, h => by
    rw [chainsF_cons]
    split
    · exact PInv.chains t (PInv.chain _ h)
    · exact PInv.chains t h
theorem PInv.slots {hv : List R2} {fr : List Int} : ∀ (l : List (List C4)) {S : PS}, PInv hv fr S → PInv hv fr (slotsF l S).2
  | [], _, h => h
  | x :: t, _, h => by
    rw [slotsF_cons]
    split
    · exact PInv.slots t (h.put _ _)
    · exact PInv.slots t h
theorem knF_old (hv : List R2) : ∀ y ∈ hv, knF hv y.2 ≠ none := by
  have H : ∀ (l : List R2) (k : ByteArray → Option Int) (b : ByteArray), (k b ≠ none ∨ ∃ y ∈ l, y.2 = b) → l.foldl knS k b ≠ none := by
    intro l
    induction l with
    | nil =>
      intro k b h
      rcases h with h | ⟨y, hy, _⟩
      · exact h
      · cases hy
    | cons x t ih =>
      intro k b h
      refine ih _ _ ?_
      by_cases hx : knS k x b ≠ none
      · exact .inl hx
      · have hx := Classical.not_not.1 hx
        refine .inr ?_
        rcases h with h | ⟨y, hy, e⟩
        · exfalso
          unfold knS at hx
          cases hk : k x.2 with
          | some n => rw [hk] at hx; exact h hx
          | none =>
            rw [hk] at hx
            change upd k x.2 x.1 b = none at hx
            by_cases e : b = x.2
            · rw [e, upd_same] at hx; cases hx
            · rw [upd_ne _ _ e] at hx; exact h hx
        · rcases List.mem_cons.1 hy with rfl | hy
          · exfalso
            unfold knS at hx
            cases hk : k y.2 with
            | some n => rw [hk] at hx; change k b = none at hx; rw [← e, hk] at hx; cases hx
            | none =>
              rw [hk] at hx
              change upd k y.2 y.1 b = none at hx
              rw [← e, upd_same] at hx; cases hx
          · exact ⟨y, hy, e⟩
  exact fun y hy => H hv _ _ (.inr ⟨y, hy, rfl⟩)
theorem plan_inv (l hv : List R2) (fr : List Int) : PInv hv fr (planZ l hv fr).2 := by
  have h0 : PInv hv fr (⟨knF hv, fr, [], 0⟩ : PS) := ⟨fun x hx => (List.not_mem_nil hx).elim, List.Pairwise.nil, rfl, knF_old hv, fun x hx => (List.not_mem_nil hx).elim⟩
  have h1 : PInv hv fr (planS l hv fr) := PInv.chains l h0
  have h2 : PInv hv fr (planT l hv fr).2 := PInv.slots _ h1
  exact h2.put _ _
theorem knF_mem (l : List R2) : ∀ b n, knF l b = some n → (n, b) ∈ l := by
  have H : ∀ (l : List R2) (k : ByteArray → Option Int) (b : ByteArray) (n : Int), l.foldl knS k b = some n → k b = some n ∨ (n, b) ∈ l := by
    intro l
    induction l with
    | nil => intro k b n h; exact .inl h
    | cons x t ih =>
      intro k b n h
      rcases ih _ _ _ h with h | h
      · unfold knS at h
        cases hk : k x.2 with
        | some m => rw [hk] at h; exact .inl h
        | none =>
          rw [hk] at h
          change upd k x.2 x.1 b = some n at h
          by_cases e : b = x.2
          · rw [e, upd_same] at h
            injection h with h
            refine .inr ?_
            rw [e, ← h]; exact List.mem_cons_self
          · rw [upd_ne _ _ e] at h; exact .inl h
      · exact .inr (List.mem_cons_of_mem _ h)
  intro b n h
  rcases H l _ b n h with h | h
  · cases h
  · exact h
theorem chainF_only : ∀ (l : List ByteArray) (S : PS) (b : ByteArray), (chainF l S).2.known b ≠ none → S.known b ≠ none ∨ b ∈ chainB l S
  | [], S, b, h => .inl h
  | x :: t, S, b, h => by
    rw [chainF_cons] at h
    rcases putS_mem h with h | ⟨rfl, _⟩
    · exact (chainF_only t S b h).imp id (fun h => List.mem_cons_of_mem _ h)
    · exact .inr List.mem_cons_self
theorem chainsF_only : ∀ (l : List R2) (S : PS) (b : ByteArray), (chainsF l S).2.known b ≠ none → S.known b ≠ none ∨ b ∈ chainsB l S
  | [], S, b, h => .inl h
  | r :: t, S, b, h => by
    rw [chainsF_cons] at h
    rw [chainsB_cons]
    split at h
    · rename_i h24
      rw [if_pos h24, List.mem_append]
      rcases chainsF_only t _ b h with h | h
      · exact (chainF_only _ _ _ h).imp id .inl
      · exact .inr (.inr h)
    · rename_i h24
      rw [if_neg h24]
      exact chainsF_only t _ b h
theorem slotsF_only : ∀ (L : List (List C4)) (S : PS) (b : ByteArray), (slotsF L S).2.known b ≠ none → S.known b ≠ none ∨ b ∈ L.map (fun x => (leafE x).1)
  | [], S, b, h => .inl h
  | x :: t, S, b, h => by
    rw [slotsF_cons] at h
    rw [List.map_cons, List.mem_cons]
    split at h
    · rcases slotsF_only t _ b h with h | h
      · rcases putS_mem h with h | ⟨rfl, _⟩
        · exact .inl h
        · exact .inr (.inl rfl)
      · exact .inr (.inr h)
    · exact (slotsF_only t _ b h).imp id .inr
theorem planB_only {l : List R2} {fr : List Int} {b : ByteArray} (h : (planZ l [] fr).2.known b ≠ none) : b ∈ planB l [] fr := by
  unfold planB
  rw [List.mem_cons, List.mem_append]
  rcases putS_mem (S := (planT l [] fr).2) h with h | ⟨rfl, _⟩
  · rcases slotsF_only _ _ _ (show (slotsF (lvs [] (planC l [] fr)) (planS l [] fr)).2.known b ≠ none from h) with h | h
    · rcases chainsF_only l ⟨knF [], fr, [], 0⟩ b h with h | h
      · exact absurd rfl h
      · exact .inr (.inr h)
    · exact .inr (.inl h)
  · exact .inl rfl
theorem plan_pages {l : List R2} {fr : List Int} {ld : Ld} (h : (planE l [] fr).2.2 = 0) (hK : LdK ld (planZ l [] fr).2.known) (n : Int) (b : ByteArray) :
    (fRead ld (planE l [] fr).2.1).pages n = some b ↔ (n, b) ∈ (planE l [] fr).1 := by
  have hp := plan_inv l [] fr
  rw [(plan_read h hK).2.2 n b, (planE_ok h).2.2.2.2]
  show _ ↔ (n, b) ∈ (planZ l [] fr).2.out
  have hkn : (planZ l [] fr).2.known = knF ([] ++ (planZ l [] fr).2.out) := planZ_kn l [] fr
  constructor
  · rintro ⟨_, h2⟩
    rw [hkn] at h2
    exact knF_mem _ _ _ h2
  · intro h2
    have h3 := hp.kn _ h2
    exact ⟨planB_only (by rw [h3]; exact Option.some_ne_none _), h3⟩
theorem out_apart {l hv : List R2} {fr : List Int} (hf : fr.Nodup) : (planZ l hv fr).2.out.Pairwise fun p q => p.1 ≠ q.1 := by
  have hp := (plan_inv l hv fr).pages
  rw [← hp] at hf
  have h1 := (List.nodup_append.1 hf).1
  unfold List.Nodup at h1
  rw [List.pairwise_map] at h1
  exact h1
end Go.Proofs.YtdhaoaehboonpaaGreat.V
end

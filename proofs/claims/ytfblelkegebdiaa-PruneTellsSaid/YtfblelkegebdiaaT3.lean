/- slices.SortFunc at pairs, of a row of the call's own: sorted by both places. -/
import Derived.Test.YtfblelkegebdiaaB0
import Derived.Test.YtfblelkegebdiaaK
import Derived.Test.YtfblelkegebdiaaT1
import Derived.Test.YtfblelkegebdiaaShelf3
import Derived.Deep.DeepMust
namespace Go.Proofs.Ytfblelkegebdiaa.V
open Go.Proofs Go.RowKit Go.Lib Go.Sort Go.Shelf Go.Proofs.YtfblelkegebdiaaW.PrintWords Go.Proofs.YtfblelkegebdiaaW.PrintLast Go.Proofs.YtfblelkegebdiaaW.PrintMore
set_option linter.unusedVariables false
set_option linter.unusedSimpArgs false

instance : Inhabited Pr := ⟨⟨0, 0⟩⟩
def encPr (x : Pr) : List Value := [.int .i64 x.f0, .int .i64 x.f1]
theorem flat_get {α : Type} [Inhabited α] (enc : α → List Value) (k : Nat) (xs : List α) (t : Nat) : (flatK enc k xs.toArray).toList[t]? = if t < xs.length * k then some ((enc xs.toArray[t / k]!)[t % k]!) else none := by
  by_cases h : t < xs.length * k
  · rw [if_pos h]; simp [flatK, h]
  · rw [if_neg h]; simp [flatK]; omega
theorem reps_flat {α : Type} [Inhabited α] {enc : α → List Value} {k : Nat} (hk : ∀ x, (enc x).length = k) (h0 : 0 < k) {R : α → List Value → Prop} (hR : ∀ x c, R x c → c = enc x) {xs : List α} {cs : List Value} (h : Reps R k xs cs) : cs = (flatK enc k xs.toArray).toList := by
  apply List.ext_getElem?
  intro t
  rw [flat_get]
  by_cases ht : t < xs.length * k
  · rw [if_pos ht]
    have hj : t / k < xs.length := (Nat.div_lt_iff_lt_mul h0).2 ht
    have h1 := hR _ _ (h.2 (t / k) _ (List.getElem?_eq_getElem hj))
    have hm : t % k < k := Nat.mod_lt _ h0
    have h2 : ((cs.drop (t / k * k)).take k)[t % k]? = (enc xs[t / k])[t % k]? := by rw [h1]
    rw [List.getElem?_take_of_lt hm, List.getElem?_drop, show t / k * k + t % k = t from Nat.div_add_mod' t k] at h2
    rw [h2]
    simp [hj]
    rw [List.getElem?_eq_getElem (by rw [hk]; exact hm)]
    simp
  · rw [if_neg ht, List.getElem?_eq_none (by rw [h.1]; omega)]
theorem flat_reps {α : Type} [Inhabited α] {enc : α → List Value} {k : Nat} (hk : ∀ x, (enc x).length = k) (h0 : 0 < k) {R : α → List Value → Prop} (hR : ∀ x, R x (enc x)) (xs : List α) : Reps R k xs (flatK enc k xs.toArray).toList := by
  refine ⟨by simp, fun j p hj => ?_⟩
  obtain ⟨hj1, rfl⟩ := List.getElem?_eq_some_iff.1 hj
  have : ((flatK enc k xs.toArray).toList.drop (j * k)).take k = enc xs[j] := by
    apply List.ext_getElem?
    intro t
    by_cases ht : t < k
    · have hlt : j * k + t < xs.length * k := by
        have := Nat.mul_le_mul_right k (show j + 1 ≤ xs.length from hj1)
        rw [Nat.add_mul, Nat.one_mul] at this
        omega
      rw [List.getElem?_take_of_lt ht, List.getElem?_drop, flat_get, if_pos hlt]
      have e1 : (j * k + t) / k = j := (blk_iff k j _ h0).1 ⟨by omega, by omega⟩
      have e2 : (j * k + t) % k = t := by rw [Nat.mod_eq_sub_div_mul, e1]; omega
      rw [e1, e2, List.getElem?_eq_getElem (by rw [hk]; exact ht)]
      simp [hj1]
      simp [hk, ht]
    · rw [List.getElem?_take_eq_none (by omega), List.getElem?_eq_none (by rw [hk]; omega)]
  rw [this]
  exact hR _

def cfP (x y : Pr) : Int := orI (Lib.compareInt x.f0 y.f0) (Lib.compareInt x.f1 y.f1)
instance (x y : Pr) : Decidable (lexlt x y) := by unfold lexlt; infer_instance
theorem ltP (x y : Pr) : ltOf cfP x y = decide (lexlt x y) := by
  unfold ltOf cfP orI Lib.compareInt lexlt
  by_cases h1 : x.f0 < y.f0
  · simp [h1]
  · by_cases h2 : y.f0 < x.f0
    · simp [h1, h2]; omega
    · have : x.f0 = y.f0 := by omega
      by_cases h3 : x.f1 < y.f1
      · simp [h1, h2, h3, this]
      · by_cases h4 : y.f1 < x.f1 <;> simp [h1, h2, h3, h4, this]
theorem swoP : SWO (ltOf cfP) where
  irrefl x := by rw [ltP]; unfold lexlt; simp
  trans x y z h1 h2 := by rw [ltP, decide_eq_true_eq] at *; unfold lexlt at *; omega
  ntrans x y z h1 h2 := by rw [ltP, decide_eq_false_iff_not] at *; unfold lexlt at *; omega
theorem isAgg50 : ∀ w, (isAgg 50).run Try.prog w = .ok true w := fun w => by kernel_rfl
theorem sizeOf50 : ∀ w, (Go.sizeOf 50).run Try.prog w = .ok 2 w := fun w => by kernel_rfl
theorem cmpLays20 (blk off size : Nat) (w : World) : CmpLays Try.prog 20 #[] encPr 2 cfP blk off size w :=
  fun _ _ _ _ x y => closure20 x.f0 x.f1 y.f0 y.f1 _

set_option maxHeartbeats 2000000 in
theorem insertionP_nil (f : Value) (w : World) : Calls Try.prog 74 #[.slice none 0 0, .int .i64 0, .int .i64 0, f] w fun e w' => e = .returned (.tuple #[]) ∧ w' = w := by
  go_enter Try.func74, Try.ntmps74
  go_wp2
  go_loopg [8] 0 (fun kq i wr => wr = w ∧ i = .int .i64 1)
  case atStart => exact ⟨rfl, rfl⟩
  case round =>
    obtain ⟨rfl, rfl⟩ := hrel
    go_wp2
    go_end0
    exact ⟨rfl, rfl⟩
set_option maxHeartbeats 2000000 in
set_option maxRecDepth 100000 in
theorem pdqP_nil (f : Value) (q : Int) (w : World) : Calls Try.prog 57 #[.slice none 0 0, .int .i64 0, .int .i64 0, .int .i64 q, f] w fun e w' => e = .returned (.tuple #[]) ∧ w' = w := by
  go_enter Try.func57, Try.ntmps57
  go_wp2
  refine wp_loop_rounds 1 ?_
  rw [rounds_succ]
  go_wp2_with (fail)
  with_reducible refine (insertionP_nil f _).mono ?_
  rintro e w' ⟨rfl, rfl⟩
  go_wp2
  refine bodyPost_ret (results_none rfl _ _ _) rfl ?_
  exact ⟨rfl, rfl⟩
theorem bits_zero (w : World) : Calls Try.prog 58 #[.int .u64 0] w fun e w' => e = .returned (.int .i64 (Lib.bitLen 0 : Nat)) ∧ w' = w := by
  have h := Any.bits_Len (SlLaysF0.n15.bits (P := Try.prog) (ρ := Try.sortPair_ren) { Try.sortPair with }) 0 w (by omega) (by omega)
  exact h
set_option maxHeartbeats 2000000 in
theorem sortP_nil (f : Value) (w : World) : Calls Try.prog 19 #[.slice none 0 0, f] w fun e w' => e = .returned (.tuple #[]) ∧ w' = w := by
  have h1 := Aside0.mk (bits_zero w)
  go_enter Try.func19, Try.ntmps19
  go_wp2_with (fail)
  with_reducible refine (h1.out).mono ?_
  rintro e w' ⟨rfl, rfl⟩
  go_wp2_with (fail)
  with_reducible refine (pdqP_nil f _ _).mono ?_
  rintro e w' ⟨rfl, rfl⟩
  go_wp2
  go_end0
  exact ⟨rfl, rfl⟩
set_option maxHeartbeats 2000000 in
theorem sort_pairs {w : World} {base : Nat} {ok : Nat → Prop} {v : Value} {xs : List Pr} (h : k50.R 50 w base ok v xs) (hn : xs = [] → v = .slice none 0 0) (hl : xs.length ≤ 1000000) :
    Calls Try.prog 19 #[v, .func (.func 20) #[] #[]] w fun e w' => e = .returned (.tuple #[]) ∧ ∃ ys : List Pr, ys.Perm xs ∧ (ys.Pairwise fun p q => ¬ lexlt q p) ∧ k50.R 50 w' base ok v ys ∧ w.grownBy w' v.ownBlock := by
  by_cases hx : xs = []
  · obtain rfl := hn hx
    subst hx
    exact (sortP_nil _ w).mono fun _ _ ⟨he, hw⟩ => ⟨he, [], List.Perm.nil, List.Pairwise.nil, by rw [hw]; exact h, by rw [hw]; exact ⟨rfl, rfl, rfl, Nat.le_refl _, fun _ _ _ => rfl⟩⟩
  · obtain ⟨g, cap, rfl, hg, hlt, _⟩ := Kd.R_form h (List.length_pos_iff.2 hx)
    obtain ⟨hok, inner, own, reps⟩ := h
    have hin := reps_flat (enc := encPr) (k := 2) (fun _ => rfl) (by decide) (fun x c hc => k50_openM hc) reps
    subst hin
    have hH : HoldsK encPr 2 w g 0 xs.toArray := by
      have := holds_of_own (enc := (id : Value → Value)) (ss := (flatK encPr 2 xs.toArray).toList) own (by simp)
      rw [Array.toArray_toList] at this
      exact this
    have eg : ∀ args w, (callFunc 20 args).run Try.prog w = .ok (.enter 20 args) w := enters_of Try.func20 (by kernel_rfl) rfl
    have hc := AnyQ.slices_SortFunc Try.sortPair 2 isAgg50 sizeOf50 encPr (fun _ => rfl) (fun x v hv => by simp [encPr] at hv; rcases hv with rfl | rfl <;> rfl) cfP swoP 20 #[] g 0 cap xs.toArray w eg (cmpLays20 g 0 _ w) hH hlt (by simp; omega)
    rw [show xs.toArray.size = xs.length by simp] at hc
    refine hc.mono ?_
    rintro e w' ⟨he, d', n, os, hp, hs, rfl⟩
    have hsz : d'.toList.length = xs.length := by have := hp.1; simpa using this
    refine ⟨he, d'.toList, ?_, ?_, ?_, ?_⟩
    · have h2 := hp.2.2
      rw [show d'.extract 0 xs.length = d' by rw [← hsz]; simp, show xs.toArray.extract 0 xs.length = xs.toArray by simp] at h2
      exact h2
    · rw [List.pairwise_iff_getElem]
      intro i j hi hj hij
      have := hs i j (Nat.zero_le _) hij (by omega)
      rw [ltP, decide_eq_false_iff_not] at this
      have hi' : i < d'.size := by simpa using hi
      have hj' : j < d'.size := by simpa using hj
      rw [getElem!_pos d' i hi', getElem!_pos d' j hj'] at this
      exact this
    · have ho := own_sorted (enc := (id : Value → Value)) (q := n) (os := os) (ts := (flatK encPr 2 d').toList) own (by
        show (flatK encPr 2 d').toList.length = xs.length * 2
        rw [Array.length_toList, size_flatK, ← hsz, Array.length_toList])
      rw [Array.toArray_toList] at ho
      have hr := flat_reps (enc := encPr) (k := 2) (fun _ => rfl) (by decide) (R := k50.M (sortWorldK encPr 2 w g 0 n d' os) base (fun k => ok k ∧ some k ≠ (Value.slice (some ⟨g, 0, none⟩) xs.length cap).ownBlock)) (fun x => k50_mkM _ _ _ x) d'.toList
      rw [Array.toArray_toList] at hr
      refine ⟨hok, _, ?_, hr⟩
      rw [hsz]
      have e : (flatK encPr 2 d').toList.map (id : Value → Value) = (flatK encPr 2 d').toList := List.map_id _
      rw [e] at ho
      exact ho
    · exact grownBy_sortedG _
end Go.Proofs.Ytfblelkegebdiaa.V

/- maquettebook: lists of one kind (Ints): copied, compared, marked, grown. -/
import Derived.Test.YtfblelkegebdiaaBK0
import Derived.WalkKit
import Derived.Deep.DeepMust
import Derived.Deep.QuietTactic
import Derived.BigQuiet
import Derived.StillTailTactics
import Derived.Deep.RegionLaw
namespace Go.Proofs.Ytfblelkegebdiaa.V
open Go.Proofs Go.RowKit Go.Lib Go.Proofs.YtfblelkegebdiaaW.PrintWords Go.Proofs.YtfblelkegebdiaaW.PrintLast Go.Proofs.YtfblelkegebdiaaW.PrintMore
set_option linter.unusedVariables false
set_option linter.unusedSimpArgs false
namespace BInts


/-- the kind -/
abbrev dK : Kd Int := (Kd.int .i64)
theorem flat : Flat dK := fun h => h
theorem km {w : World} {base : Nat} {ok : Nat → Prop} (x : Int) (cs : List Value) (h : dK.K w x cs) : dK.M w base ok x cs := h
theorem infoE : (Try.prog.info? 3).map (fun i => (i.zero, i.size, i.bytes)) = some (some (.int .i64 0), dK.sz, 8) := by kernel_rfl
/-- the k-th mark of list i -/
def mk (i k : Nat) : Int := (-1000000 * (i : Int) - (k : Int) - 7)
def marks (i : Nat) : Nat → Nat → List Int
  | _, 0 => []
  | a, n + 1 => marks i a n ++ [mk i (a + n)]
theorem marks_length (i a n : Nat) : (marks i a n).length = n := by
  induction n with
  | zero => rfl
  | succ n ih => unfold marks; rw [List.length_append, ih]; rfl
theorem marks_more (i a n m : Nat) : marks i a n ++ marks i (a + n) m = marks i a (n + m) := by
  induction m with
  | zero => unfold marks; rw [List.append_nil]; rfl
  | succ m ih =>
    rw [← Nat.add_assoc]
    show marks i a n ++ (marks i (a + n) m ++ [mk i (a + n + m)]) = marks i a (n + m) ++ [mk i (a + (n + m))]
    rw [← List.append_assoc, ih, Nat.add_assoc]
theorem marks_take (i a n : Nat) : ∀ m, m ≤ n → (marks i a n).take m = marks i a m := by
  intro m hm
  obtain ⟨k, rfl⟩ : ∃ k, n = m + k := ⟨n - m, by omega⟩
  rw [← marks_more, List.take_append_of_le_length (by rw [marks_length]; omega), List.take_of_length_le (by rw [marks_length]; omega)]
theorem marks_get (i a n k : Nat) (h : k < n) : (marks i a n)[k]? = some (mk i (a + k)) := by
  obtain ⟨m, rfl⟩ : ∃ m, n = k + 1 + m := ⟨n - (k + 1), by omega⟩
  rw [← marks_more, List.getElem?_append_left (by rw [marks_length]; omega)]
  show (marks i a k ++ [mk i (a + k)])[k]? = _
  rw [List.getElem?_append_right (by rw [marks_length]; omega), marks_length, Nat.sub_self]
  rfl


set_option maxHeartbeats 2000000 in
set_option maxRecDepth 100000 in
theorem copy_any (w : World) (A : Option Addr) (c : Nat) (l : List Int) (hC : dK.C w A l.length l) (hl : l.length ≤ 1000000) :
    Calls Try.prog 27 #[.slice A l.length c] w fun e w' => ∃ v, e = .returned v ∧ dK.R 3 w' w.heap.size (fun _ => True) v l ∧ Below w.heap.size w w' := by
  obtain ⟨n, hn⟩ : ∃ n, n = l.length := ⟨_, rfl⟩
  rw [← hn] at hC ⊢
  have HC := Aside0.mk hC
  have HL := Aside0.mk (show (([] : List Int).length + n) * 8 ≤ 140737488355328 by simp only [List.length_nil]; omega)
  clear hC hn hl
  go_enter Try.func27, Try.ntmps27
  go_wp2_with (first
    | ((with_reducible refine gate_builtin (b := .append) (xs := #[.const (Value.slice none 0 0), .tmp 3]) rfl ?_); at_builtin; go_must (refine F_append_rows dK flat (w0 := w) w.heap.size rfl (.const (Value.slice none 0 0)) (.tmp 3) 31 3 (.int .i64 0) 8 rfl Try.underlying31 infoE rfl (by decide) (by omega) (.slice none 0 0) [] l A n c rfl rfl (Kd.R_nil _ _ _ _ _) HC.out km (Below.refl _ _) (Nat.le_refl _) HL.out ?_); intro v1_ w1_ ho_ hb_ hk_ hat_ hp_; rw [List.nil_append] at ho_; have HO := Aside0.mk ho_; have HB := Aside0.mk hb_; clear ho_ hb_ hk_ hat_ hp_))
  go_ret
  exact ⟨_, rfl, HO.out, HB.out⟩


set_option maxHeartbeats 4000000 in
set_option maxRecDepth 100000 in
/-- two lists that are alike -/
theorem same_any (w : World) (A B : Option Addr) (c c' : Nat) (l : List Int) (hA : dK.C w A l.length l) (hB : dK.C w B l.length l) (hl : l.length ≤ 1000000) :
    Calls Try.prog 17 #[.slice A l.length c, .slice B l.length c'] w fun e w' => e = .returned (.bool true) ∧ ∃ q, w' = w.drewN q := by
  obtain ⟨n, hn⟩ : ∃ n, n = l.length := ⟨_, rfl⟩
  rw [← hn] at hA hB hl ⊢
  have HA0 := Aside0.mk hA
  have HB0 := Aside0.mk hB
  clear hA hB hn
  have e1 : ((n : Int) != (n : Int)) = false := by simp
  have e2 : (n != n) = false := by simp
  go_enter Try.func17, Try.ntmps17
  go_wp2_with (fail)
  clear e1 e2
  go_loopg [5] n (fun kx s5 wr => ∃ (i q : Nat), s5 = .int .i64 i ∧ i + kx = n ∧ wr = w.drewN q)
  case atStart => exact ⟨0, 0, rfl, by omega, rfl⟩
  case round =>
    obtain ⟨i, q, rfl, hk, rfl⟩ := hrel
    cases gk with
    | zero =>
      have d1 : decide ((i : Int) < (n : Int)) = false := decide_eq_false (by omega)
      have d2 : decide (i < n) = false := decide_eq_false (by omega)
      go_wp2_with (fail)
      go_ret
      exact ⟨by first | rfl | simp, q, rfl⟩
    | succ gk =>
    obtain ⟨ad0, rfl, x0⟩ := Kd.at_int HA0.out (i : Int) (by omega) (by omega)
    obtain ⟨ad1, rfl, y0⟩ := Kd.at_int HB0.out (i : Int) (by omega) (by omega)
    rw [Int.toNat_natCast] at x0 y0

    have d1 : decide ((i : Int) < (n : Int)) = true := decide_eq_true (by omega)
    have d2 : decide (i < n) = true := decide_eq_true (by omega)
    have d3 : (i < n) = True := eq_true (by omega)
    have d4 : ((i : Int) < (n : Int)) = True := eq_true (by omega)
    have d5 : (0 ≤ (i : Int)) = True := eq_true (by omega)
    go_wp2_with (fail)
    go_quiet (fail)
    go_wp2_with (fail)
    go_roundg gk
    case measure => omega
    case rel => exact ⟨i + 1, _, by first | rfl | go_num, by omega, rfl⟩


set_option maxHeartbeats 4000000 in
set_option maxRecDepth 100000 in
theorem mark_any (w : World) (i a n : Nat) (hi : i ≤ 1000) (ha : a ≤ 2000000) (hn : n ≤ 1000000) :
    Calls Try.prog 69 #[.int .i64 i, .int .i64 a, .int .i64 n] w fun e w' => ∃ v, e = .returned v ∧ dK.R 3 w' w.heap.size (fun _ => True) v (marks i a n) ∧ Below w.heap.size w w' := by
  go_enter Try.func69, Try.ntmps69
  go_wp2_with (fail)
  go_loopg [7, 8] n (fun kx v7 v8 wr => ∃ k : Nat, v8 = .int .i64 ((a : Int) + (k : Int)) ∧ Aside0 (k + kx = n) ∧ Aside0 (dK.R 3 wr w.heap.size (fun _ => True) v7 (marks i a k)) ∧ Aside0 (Below w.heap.size w wr))
  case atStart => exact ⟨0, by first | rfl | go_num | simp, ⟨by omega⟩, ⟨Kd.R_nil _ _ _ _ _⟩, ⟨Below.refl _ _⟩⟩
  case round =>
    obtain ⟨k, rfl, HK, HO, HB⟩ := hrel
    cases gk with
    | zero =>
      have hk : k = n := by have := HK.out; omega
      subst hk
      have d1 : decide ((a : Int) + (k : Int) < (a : Int) + (k : Int)) = false := decide_eq_false (by omega)
      go_wp2_with (fail)
      go_ret
      exact ⟨_, rfl, HO.out, HB.out⟩
    | succ gk =>
      have hk : k < n := by have := HK.out; omega
      have d1 : decide ((a : Int) + (k : Int) < (a : Int) + (n : Int)) = true := decide_eq_true (by omega)
      have d2 : decide ((k : Int) < (n : Int)) = true := decide_eq_true (by omega)
      have hlen := marks_length i a k
      go_wp2_with (first
        | ((with_reducible refine gate_builtin (b := .append) (xs := #[.tmp 17, .tmp 23]) rfl ?_); at_builtin; go_must (refine Kd.R_append dK w.heap.size rfl (.tmp 17) (.tmp 23) 31 3 (.int .i64 0) 8 rfl Try.underlying31 infoE rfl (by decide) (by omega) _ (marks i a k) (mk i (a + k)) [.int .i64 (-1000000 * (i : Int) - ((a + k : Nat) : Int) - 7)] (fun _ => True) (fun _ => False) rfl rfl (km _ _ rfl) (fun _ hk => hk.elim) (fun _ _ => trivial) HO.out HB.out HB.out.size (by omega) ?_); intro v5_ w5_ ho_ hb_ hg_ hat_; have HO2 := Aside0.mk (show dK.R 3 w5_ w.heap.size (fun _ => True) v5_ (marks i a (k + 1)) from ho_); have HB2 := Aside0.mk hb_; clear ho_ hb_ hg_ hat_))
      go_roundg gk
      case measure => omega
      case rel => exact ⟨k + 1, by first | rfl | go_num | (congr 1; omega), ⟨by have := HK.out; omega⟩, HO2, HB2⟩


set_option maxHeartbeats 4000000 in
set_option maxRecDepth 100000 in
theorem still_any (w : World) (g base : Nat) (vs : Array Value) (L M : List (SV × List Int)) (hg : w.heap[g]? = some (.cells vs 42 (0, 0))) (h1 : Held dK 3 31 0 w base vs L) (h2 : Held dK 3 31 1 w base vs M) (hd : M.map (·.2) = L.map (·.2)) :
    Calls Try.prog 29 #[.pointer (some ⟨g, 0, none⟩)] w fun e w' => e = .returned (.bool true) ∧ Below w.heap.size w w' := by
  obtain ⟨A0, c0, v0, hc0, C0⟩ := h1.outer
  obtain ⟨A1, c1, v1, hc1, C1⟩ := h2.outer
  have hML : M.length = L.length := by have := congrArg List.length hd; simpa using this
  rw [hML] at v1 hc1
  have x0 : w.cell? ⟨g, 0, none⟩ = some (.slice A0 L.length c0) := (blk_cell hg 0).trans v0
  have x1 : w.cell? ⟨g, 1, none⟩ = some (.slice A1 L.length c1) := (blk_cell hg 1).trans v1
  obtain ⟨n, hn⟩ : ∃ n, n = L.length := ⟨_, rfl⟩
  have HS0 : Aside0 (∀ i, i < n → ∃ (a0 a1 : Addr) (A A' : Option Addr) (m c c' : Nat), A0 = some a0 ∧ A1 = some a1 ∧ w.cell? (a0.add i) = some (.slice A m c) ∧ w.cell? (a1.add i) = some (.slice A' m c') ∧ ∀ q, Calls Try.prog 17 #[.slice A m c, .slice A' m c'] (w.drewN q) fun e w' => e = .returned (.bool true) ∧ ∃ q', w' = w.drewN (q + q')) := ⟨by
    intro i hi
    obtain ⟨s, xs, hp, hn1, hn2, hC, hl⟩ := h1.at_ (i := i) (by omega)
    obtain ⟨s', xs', hp', hn1', hn2', hC', hl'⟩ := h2.at_ (i := i) (by omega)
    have hx : xs' = xs := by
      have e1 : (M.map (·.2))[i]? = some xs' := by rw [List.getElem?_map, hp']; rfl
      have e2 : (L.map (·.2))[i]? = some xs := by rw [List.getElem?_map, hp]; rfl
      rw [hd, e2] at e1
      injection e1 with e1
      exact e1.symm
    subst hx
    obtain ⟨a0, hA0, y0⟩ := SV_cell C0 hp
    obtain ⟨a1, hA1, y1⟩ := SV_cell C1 hp'
    rw [hn1] at y0
    rw [hn1'] at y1
    exact ⟨a0, a1, s.A, s'.A, xs'.length, s.c, s'.c, hA0, hA1, y0, y1, fun q => (same_any _ _ _ _ _ xs' (Kd.C_drewN hC q) (Kd.C_drewN hC' q) (by omega)).mono fun _ _ ⟨he, q', hq⟩ => ⟨he, q', hq.trans (World.drewN_drewN _ _ _)⟩⟩⟩
  have hn250 := h1.few
  rw [← hn] at x0 x1 hn250
  clear hg h1 h2 hd C0 C1 v0 v1 hc0 hc1 hML hn
  go_enter Try.func29, Try.ntmps29
  go_wp2_with (fail)
  have X0 := Aside0.mk x0
  have X1 := Aside0.mk x1
  clear x0 x1
  go_loopg [3] n (fun kx s3 wr => ∃ (i : Nat), s3 = .int .i64 i ∧ i + kx = n ∧ Aside0 (∃ q, wr = w.drewN q))
  case atStart => exact ⟨0, rfl, by omega, ⟨0, rfl⟩⟩
  case round =>
    obtain ⟨i, rfl, hk, HW⟩ := hrel
    have x0 : wr.cell? ⟨g, 0, none⟩ = some (.slice A0 n c0) := by obtain ⟨q, rfl⟩ := HW.out; exact X0.out
    have x1 : wr.cell? ⟨g, 1, none⟩ = some (.slice A1 n c1) := by obtain ⟨q, rfl⟩ := HW.out; exact X1.out
    cases gk with
    | zero =>
      have d1 : decide ((i : Int) < (n : Int)) = false := decide_eq_false (by omega)
      have d2 : decide (i < n) = false := decide_eq_false (by omega)
      go_wp2_with (fail)
      go_ret
      exact ⟨by first | rfl | simp, by obtain ⟨q, rfl⟩ := HW.out; exact pw_below_drewN (Below.refl _ _) _⟩
    | succ gk =>
    obtain ⟨a0, a1, A, A', m, c, c', rfl, rfl, z0, z1, hS⟩ := HS0.out i (by omega)
    have y0 : wr.cell? (a0.add i) = some (.slice A m c) := by obtain ⟨q, rfl⟩ := HW.out; exact z0
    have y1 : wr.cell? (a1.add i) = some (.slice A' m c') := by obtain ⟨q, rfl⟩ := HW.out; exact z1
    have HS := Aside0.mk (show ∀ q', Calls Try.prog 17 #[.slice A m c, .slice A' m c'] (wr.drewN q') fun e w' => e = .returned (.bool true) ∧ ∃ q'', w' = (wr.drewN q').drewN q'' by
      obtain ⟨q, rfl⟩ := HW.out
      intro q'
      rw [World.drewN_drewN]
      exact (hS (q + q')).mono fun _ _ ⟨he, q2, h2⟩ => ⟨he, q2, by rw [World.drewN_drewN]; exact h2⟩)
    clear z0 z1
    have d1 : decide ((i : Int) < (n : Int)) = true := decide_eq_true (by omega)
    have d2 : decide (i < n) = true := decide_eq_true (by omega)
    have d3 : (i < n) = True := eq_true (by omega)
    have d4 : ((i : Int) < (n : Int)) = True := eq_true (by omega)
    have d5 : (0 ≤ (i : Int)) = True := eq_true (by omega)
    clear hS
    go_wp2_with (fail)
    go_quiet (first | (go_at_call 17; refine Calls.quiet_of (HS.out _)))
    go_wp2_with (fail)
    go_roundg gk
    case measure => omega
    case rel => exact ⟨i + 1, by first | rfl | go_num, by omega, ⟨by obtain ⟨q, rfl⟩ := HW.out; exact ⟨_, World.drewN_drewN _ _ _⟩⟩⟩


theorem mark0_any (w : World) (i n : Nat) (hi : i ≤ 1000) (hn : n ≤ 1000000) :
    Calls Try.prog 69 #[.int .i64 i, .int .i64 0, .int .i64 n] w fun e w' => ∃ v, e = .returned v ∧ dK.R 3 w' w.heap.size (fun _ => True) v (marks i 0 n) ∧ Below w.heap.size w w' :=
  mark_any w i 0 n hi (by omega) hn
/-- the first k lists marked -/
def putL (L : List (SV × List Int)) (k : Nat) : List (SV × List Int) := L.mapIdx fun i p => if i < k then (p.1, marks i 0 p.2.length) else p
theorem putL_length (L : List (SV × List Int)) (k : Nat) : (putL L k).length = L.length := by unfold putL; rw [List.length_mapIdx]
theorem putL_get (L : List (SV × List Int)) (k i : Nat) : (putL L k)[i]? = L[i]?.map fun p => if i < k then (p.1, marks i 0 p.2.length) else p := by unfold putL; rw [List.getElem?_mapIdx]
theorem putL_zero (L : List (SV × List Int)) : putL L 0 = L := by
  apply List.ext_getElem?
  intro i
  rw [putL_get]
  simp
theorem putL_at (L : List (SV × List Int)) (k : Nat) : (putL L k)[k]? = L[k]? := by
  rw [putL_get]
  simp
theorem putL_succ (L : List (SV × List Int)) (k : Nat) (s : SV) (xs : List Int) (h : L[k]? = some (s, xs)) : (putL L k).set k (s, marks k 0 xs.length) = putL L (k + 1) := by
  apply List.ext_getElem?
  intro i
  have hlt : k < L.length := (List.getElem?_eq_some_iff.1 h).1
  rw [List.getElem?_set, putL_get, putL_get]
  by_cases hi : k = i
  · subst hi
    rw [if_pos rfl, if_pos (by rw [putL_length]; exact hlt), h]
    simp
  · rw [if_neg hi]
    congr 1
    funext p
    by_cases h1 : i < k
    · rw [if_pos h1, if_pos (by omega)]
    · rw [if_neg h1, if_neg (by omega)]
theorem set_same {β : Type} (L : List β) (k : Nat) (p : β) (h : L[k]? = some p) : L.set k p = L := by
  apply List.ext_getElem?
  intro i
  rw [List.getElem?_set]
  by_cases hi : k = i
  · subst hi
    rw [if_pos rfl, if_pos (List.getElem?_eq_some_iff.1 h).1, h]
  · rw [if_neg hi]
theorem half_step (i k : Nat) (xs : List Int) (hk : k < xs.length) : (marks i 0 k ++ xs.drop k).set k (mk i k) = marks i 0 (k + 1) ++ xs.drop (k + 1) := by
  rw [List.drop_eq_getElem_cons hk, List.set_append_right k _ (by rw [marks_length]; omega), marks_length, Nat.sub_self, List.set_cons_zero]
  show _ = (marks i 0 k ++ [mk i (0 + k)]) ++ _
  rw [Nat.zero_add, List.append_assoc]
  rfl
theorem half_length (i k : Nat) (xs : List Int) (hk : k ≤ xs.length) : (marks i 0 k ++ xs.drop k).length = xs.length := by
  rw [List.length_append, marks_length, List.length_drop]
  omega


set_option maxHeartbeats 8000000 in
set_option maxRecDepth 100000 in
theorem put_any (w : World) (g base : Nat) (vs : Array Value) (L : List (SV × List Int)) (hg : w.heap[g]? = some (.cells vs 42 (0, 0))) (h1 : Held dK 3 31 0 w base vs L) (hbase : base ≤ w.heap.size) :
    Calls Try.prog 38 #[.pointer (some ⟨g, 0, none⟩)] w fun e w' => e = .returned (.tuple #[]) ∧ Held dK 3 31 0 w' base vs (putL L L.length) ∧ Below base w w' ∧ KX [3] w w' := by
  obtain ⟨n, hn⟩ : ∃ n, n = L.length := ⟨_, rfl⟩
  have HN := Aside0.mk hn
  have HG := Aside0.mk hg
  have HL := Aside0.mk h1
  have HBS := Aside0.mk hbase
  have hn250 := h1.few
  rw [← hn] at hn250 ⊢
  clear hn hg h1 hbase
  go_enter Try.func38, Try.ntmps38
  go_wp2_with (fail)
  go_loopg [2] n (fun kx s2 wr => ∃ i : Nat, s2 = .int .i64 i ∧ Aside0 (i + kx = n) ∧ Aside0 (Held dK 3 31 0 wr base vs (putL L i)) ∧ Aside0 (Below base w wr) ∧ Aside0 (KX [3] w wr))
  case atStart => exact ⟨0, rfl, ⟨by omega⟩, ⟨by rw [putL_zero]; exact HL.out⟩, ⟨Below.refl _ _⟩, ⟨KX.refl _ _⟩⟩
  case round =>
    obtain ⟨i, rfl, HK, HH, HB, HX⟩ := hrel
    obtain ⟨A0, c0, v0, hc0, C0⟩ := HH.out.outer
    rw [putL_length, ← HN.out] at v0 hc0 C0
    have x0 : wr.cell? ⟨g, 0, none⟩ = some (.slice A0 n c0) := (blk_cell (HX.out.block HG.out (by decide)) 0).trans v0
    cases gk with
    | zero =>
      have hk : i = n := by have := HK.out; omega
      subst hk
      have d1 : decide ((i : Int) < (i : Int)) = false := decide_eq_false (by omega)
      have d2 : decide (i < i) = false := decide_eq_false (by omega)
      clear v0 hc0 C0
      go_wp2_with (fail)
      go_end0
      exact ⟨rfl, HH.out, HB.out, HX.out⟩
    | succ gkA =>
    have hi : i < n := by have := HK.out; omega
    obtain ⟨wrA, hwrA⟩ : ∃ q, q = wr := ⟨_, rfl⟩
    subst hwrA
    obtain ⟨s, xs, hp, hsn, hsc, hC, hl⟩ := HH.out.at_ (i := i) (by rw [putL_length, ← HN.out]; exact hi)
    obtain ⟨a0, rfl, y0⟩ := SV_cell (L := putL L i) (A := A0) (by rw [putL_length, ← HN.out]; exact C0) hp
    obtain ⟨m, hm⟩ : ∃ m, m = xs.length := ⟨_, rfl⟩
    rw [hsn, ← hm] at y0
    have HP := Aside0.mk hp
    have HSN := Aside0.mk hsn
    have HMX := Aside0.mk hm
    have hm0 : m ≤ 100000 := by omega
    have hlim := hm0
    have HM := Aside0.mk (fun W => mark0_any W i m (by omega) (by omega))
    have d1 : decide ((i : Int) < (n : Int)) = true := decide_eq_true (by omega)
    have d2 : decide (i < n) = true := decide_eq_true (by omega)
    have d3 : (i < n) = True := eq_true (by omega)
    have d4 : ((i : Int) < (n : Int)) = True := eq_true (by omega)
    have d5 : (0 ≤ (i : Int)) = True := eq_true (by omega)
    clear v0 hc0 C0 hp hsn hsc hC hl hm
    go_wp2_with (fail)
    with_reducible refine (HM.out _).mono ?_
    rintro e w1 ⟨vM, rfl, hM, hb⟩
    obtain ⟨AM, cM, rfl⟩ := Kd.R_slice hM
    rw [marks_length] at hM ⊢
    have HR := Aside0.mk hM
    have HB1 := Aside0.mk (HB.out.trans (hb.mono (Nat.le_trans HBS.out HB.out.size)))
    have HX1 := Aside0.mk (HX.out.trans (KX.below hb))
    have HH1 := Aside0.mk (show Held dK 3 31 0 w1 base vs ((putL L i).set i (s, marks i 0 0 ++ xs.drop 0)) by
      have := HH.out.below flat hb
      rw [show marks i 0 0 ++ xs.drop 0 = xs from rfl, set_same _ _ _ HP.out]
      exact this)
    have HLT := Aside0.mk (fun gk (h : (encS s).ownBlock = some gk) => Kd.R_lt (HH.out.own i _ HP.out) gk h)
    clear hM hb x0 y0
    go_wp2_with (fail)
    go_loopg [4] m (fun kx s4 w2 => ∃ k : Nat, s4 = .int .i64 k ∧ Aside0 (k + kx = m) ∧ Aside0 (Held dK 3 31 0 w2 base vs ((putL L i).set i (s, marks i 0 k ++ xs.drop k))) ∧ Aside0 (dK.R 3 w2 wrA.heap.size (fun _ => True) (.slice AM m cM) (marks i 0 m)) ∧ Aside0 (Below base w w2) ∧ Aside0 (KX [3] w w2))
    case atStart => exact ⟨0, rfl, ⟨by omega⟩, HH1, HR, HB1, HX1⟩
    case round =>
      clear HH1 HR HB1 HX1
      obtain ⟨w2, hw2⟩ : ∃ q, q = wr := ⟨_, rfl⟩
      subst hw2
      obtain ⟨k, rfl, HK2, HH1, HR, HB1, HX1⟩ := hrel
      cases gk with
      | zero =>
        have hk : k = m := by have := HK2.out; omega
        subst hk
        have e1 : decide ((k : Int) < (k : Int)) = false := decide_eq_false (by omega)
        have e2 : decide (k < k) = false := decide_eq_false (by omega)
        have HH2 := Aside0.mk (show Held dK 3 31 0 w2 base vs (putL L (i + 1)) by
          have := HH1.out
          rw [HMX.out, List.drop_of_length_le (Nat.le_refl _), List.append_nil, putL_succ L i s xs (by rw [← putL_at]; exact HP.out)] at this
          exact this)
        go_wp2_with (fail)
        go_roundg gkA
        case measure => omega
        case rel => exact ⟨i + 1, by first | rfl | go_num, ⟨by have := HK.out; omega⟩, HH2, HB1, HX1⟩
      | succ gk2 =>
      have hk : k < m := by have := HK2.out; omega
      have hget : ((putL L i).set i (s, marks i 0 k ++ xs.drop k))[i]? = some (s, marks i 0 k ++ xs.drop k) := by
        rw [List.getElem?_set, if_pos rfl, if_pos (by rw [putL_length, ← HN.out]; exact hi)]
      obtain ⟨A1, c1, v1, hc1, C1⟩ := HH1.out.outer
      have hlen2 : ((putL L i).set i (s, marks i 0 k ++ xs.drop k)).length = n := by rw [List.length_set, putL_length, ← HN.out]
      have x0 : w2.cell? ⟨g, 0, none⟩ = some (.slice A1 n c1) := (blk_cell (HX1.out.block HG.out (by decide)) 0).trans (by rw [← hlen2]; exact v1)
      obtain ⟨a1, rfl, y0⟩ := SV_cell C1 hget
      have hS := HH1.out.own i _ hget
      have hsm : s.n = m := HSN.out.trans HMX.out.symm
      rw [hsm] at y0
      have HS := Aside0.mk (show dK.R 3 w2 base (fun _ => True) (.slice s.A m s.c) (marks i 0 k ++ xs.drop k) by rw [← hsm]; exact hS)
      obtain ⟨sA, hsA⟩ : ∃ A, A = s.A := ⟨_, rfl⟩
      obtain ⟨sc, hsc⟩ : ∃ c, c = s.c := ⟨_, rfl⟩
      rw [← hsA, ← hsc] at HS y0
      obtain ⟨ad2, _, hA2, _⟩ := Kd.C_get (Kd.R_reads' HS.out).2.2 0 (k : Int) (by omega) (by rw [half_length i k xs (by have := HMX.out; omega), ← HMX.out]; omega)
      subst hA2
      obtain ⟨gs, rfl⟩ := Kd.R_head HS.out
      have HMC := Aside0.mk (show dK.C w2 AM m (marks i 0 m) by have := (Kd.R_reads' HR.out).2.2; rw [marks_length] at this; exact this)
      obtain ⟨ad1, rfl, m0⟩ := Kd.at_int HMC.out (k : Int) (by omega) (by omega)
      rw [Int.toNat_natCast] at m0
      have hmk : rd (marks i 0 m) (k : Int) = mk i k := by unfold rd; rw [Int.toNat_natCast, List.getD, marks_get i 0 m k (by omega), Nat.zero_add]; rfl
      rw [hmk] at m0
      have hu : mk i k = -1000000 * (i : Int) - (k : Int) - 7 := rfl
      obtain ⟨x', hx'⟩ : ∃ x', x' = mk i k := ⟨_, rfl⟩
      rw [← hx'] at m0
      clear hmk hu
      have hown : (encS s).ownBlock = some gs := by unfold encS; rw [← hsA]; rfl
      have HGS := Aside0.mk (HLT.out gs hown)
      have HOW := Aside0.mk hown
      have HGET := Aside0.mk hget
      have HX' := Aside0.mk hx'
      have HEQ := Aside0.mk (show encS s = .slice (some ⟨gs, 0, none⟩) m sc by unfold encS; rw [← hsA, ← hsc, hsm])
      have e1 : decide ((k : Int) < (m : Int)) = true := decide_eq_true (by omega)
      have e2 : decide (k < m) = true := decide_eq_true (by omega)
      have e3 : (k < m) = True := eq_true (by omega)
      have e4 : ((k : Int) < (m : Int)) = True := eq_true (by omega)
      have e5 : (0 ≤ (k : Int)) = True := eq_true (by omega)
      clear hget v1 hc1 C1 hlen2 hS hsm hsA hsc hown hx' HMC
      go_wp2_with (fail)
      go_still_tail 13, (by kernel_rfl)
      change wpList _ _ _ _ _ w2.drew
      refine F_store dK (w0 := w2.drew) base rfl rfl 3 (.tmp 42) (.tmp 41) rfl 3 (g := gs) (n := m) (cap := sc) (o' := k) k (marks i 0 k ++ xs.drop k) x' 0 (.int .i64 x') [.int .i64 x'] rfl ?hoff rfl rfl (by kernel_rfl) ?h1 (Kd.R_drew HS.out) hk rfl rfl (Below.refl _ _) ?_
      case hoff => first | rfl | (show k = k * 1; omega)
      case h1 => intro q hq; simp at hq; rcases hq with rfl | rfl <;> rfl
      intro w3 hR3 hb3 hg3
      rw [HX'.out, half_step i k xs (by have := HMX.out; omega)] at hR3
      have HB3 := Aside0.mk ((below_drew HB1.out).trans hb3)
      have HX3 := Aside0.mk ((HX1.out.trans (KX.below (below_drew (Below.refl _ _)))).trans (KX.grown hg3 (List.mem_cons_self (a := 3) (l := [])) (fun q hq => by
        injection hq with hq
        subst hq
        obtain ⟨_, inner, ho, _⟩ := Kd.R_drew HS.out
        exact (own_typed ho gs rfl).imp fun cs h => ⟨_, h⟩)))
      have HH3 := Aside0.mk (show Held dK 3 31 0 w3 base vs ((putL L i).set i (s, marks i 0 (k + 1) ++ xs.drop (k + 1))) by
        have h0 := (HH1.out.below flat (below_drew (Below.refl _ _))).set flat (by decide) HGET.out (w1 := w3) (by rw [HOW.out]; exact hg3) (ys := marks i 0 (k + 1) ++ xs.drop (k + 1)) (by rw [HEQ.out]; exact hR3) (by rw [half_length _ _ _ (by have := HMX.out; omega), ← HMX.out]; exact hlim)
        rw [List.set_set] at h0
        exact h0)
      have HR3 := Aside0.mk (R_beside flat (Kd.R_drew HR.out) hg3 (by
        rcases Kd.R_base2 HR.out with h | ⟨q, hq, hle⟩
        · exact .inl h
        · exact .inr (by rw [hq]; intro e; injection e with e; have := HGS.out; omega)) (ok' := fun _ => True) (fun _ _ => trivial))
      clear hR3 hb3 hg3 HB1 HX1 HH1 HR HS
      go_wp2_with (fail)
      go_roundg gk2
      case measure => omega
      case rel => exact ⟨k + 1, by first | rfl | go_num, ⟨by have := HK2.out; omega⟩, HH3, HR3, HB3, HX3⟩

end BInts
end Go.Proofs.Ytfblelkegebdiaa.V
/- maquettebook: lists of one kind (Ints): grown, looked at, kept. -/
namespace Go.Proofs.Ytfblelkegebdiaa.V
open Go.Proofs Go.RowKit Go.Lib Go.Proofs.YtfblelkegebdiaaW.PrintWords Go.Proofs.YtfblelkegebdiaaW.PrintLast Go.Proofs.YtfblelkegebdiaaW.PrintMore
set_option linter.unusedVariables false
set_option linter.unusedSimpArgs false
namespace BInts


theorem infoS : (Try.prog.info? 31).map (fun i => (i.zero, i.size, i.bytes)) = some (some (.slice none 0 0), dS.sz, 24) := by kernel_rfl
theorem ownS (s : SV) : encS s = .slice s.A s.n s.c := rfl
set_option maxHeartbeats 1500000 in
set_option maxRecDepth 100000 in
theorem grow_any (w : World) (g base : Nat) (vs : Array Value) (L : List (SV × List Int)) (hg : w.heap[g]? = some (.cells vs 42 (0, 0))) (h1 : Held dK 3 31 0 w base vs L) (hbase : base ≤ w.heap.size) (hmk : ∀ (j : Nat) (p : SV × List Int), L[j]? = some p → p.2 = marks j 0 p.2.length) :
    Calls Try.prog 43 #[.pointer (some ⟨g, 0, none⟩)] w fun e w' => ∃ (v : Value) (Lo : List (SV × List Int)), e = .returned v ∧ Grow dK marks 3 31 0 w w' base vs L Lo L.length v := by
  obtain ⟨n, hn⟩ : ∃ n, n = L.length := ⟨_, rfl⟩
  have HN := Aside0.mk hn
  have HG := Aside0.mk hg
  have HL := Aside0.mk h1
  have HMK := Aside0.mk hmk
  have HBS := Aside0.mk hbase
  have hn250 := h1.few
  rw [← hn] at hn250 ⊢
  clear hn hg h1 hbase hmk
  go_enter Try.func43, Try.ntmps43
  go_wp2_with (fail)
  go_loopg [3, 4] n (fun kx s3 s4 wr => ∃ (i : Nat) (Lo : List (SV × List Int)), s4 = .int .i64 i ∧ Aside0 (i + kx = n) ∧ Aside0 (Grow dK marks 3 31 0 w wr base vs L Lo i s3))
  case atStart => exact ⟨0, [], rfl, ⟨by omega⟩, ⟨HL.out, rfl, Kd.R_nil _ _ _ _ _, fun j p h => by simp at h, fun j p h => by simp at h, fun j p q h => by simp at h, Below.refl _ _, KX.refl _ _⟩⟩
  case round =>
    obtain ⟨i, Lo, rfl, HK, HW⟩ := hrel
    obtain ⟨A0, c0, v0, hc0, C0⟩ := HW.out.held.outer
    rw [← HN.out] at v0 hc0 C0
    have x0 : wr.cell? ⟨g, 0, none⟩ = some (.slice A0 n c0) := (blk_cell (HW.out.kx.block HG.out (by decide)) 0).trans v0
    cases gk with
    | zero =>
      have hk : i = n := by have := HK.out; omega
      subst hk
      have d1 : decide ((i : Int) < (i : Int)) = false := decide_eq_false (by omega)
      have d2 : decide (i < i) = false := decide_eq_false (by omega)
      clear v0 hc0 C0
      go_wp2_with (fail)
      go_ret
      exact ⟨_, Lo, rfl, HW.out⟩
    | succ gkA =>
    have hi : i < n := by have := HK.out; omega
    obtain ⟨wA, hwA⟩ : ∃ q, q = wr := ⟨_, rfl⟩
    subst hwA
    obtain ⟨s, xs, hp, hsn, hsc, hC, hl⟩ := HW.out.held.at_ (i := i) (by rw [← HN.out]; exact hi)
    obtain ⟨a0, rfl, y0⟩ := SV_cell (L := L) (A := A0) (by rw [← HN.out]; exact C0) hp
    obtain ⟨m, hm⟩ : ∃ m, m = xs.length := ⟨_, rfl⟩
    have hxs : xs = marks i 0 m := by rw [hm]; exact HMK.out i _ hp
    rw [hsn, ← hm] at y0
    have HP := Aside0.mk hp
    have hm0 : m ≤ 100000 := by omega
    have HM1 := Aside0.mk (show ∀ (W : World) (k : Nat), k ≤ 1000 → Calls Try.prog 69 #[.int .i64 i, .int .i64 ((m : Int) + (k : Int)), .int .i64 1] W fun e w' => ∃ v, e = .returned v ∧ dK.R 3 w' W.heap.size (fun _ => True) v (marks i (m + k) 1) ∧ Below W.heap.size W w' by
      intro W k hk
      have := mark_any W i (m + k) 1 (by omega) (by omega) (by omega)
      rw [show ((m + k : Nat) : Int) = (m : Int) + (k : Int) by omega] at this
      exact this)
    have HR0 := Aside0.mk (show dK.R 3 wA base (fun _ => True) (.slice s.A m s.c) (marks i 0 (m + 0)) by
      have := HW.out.held.own i _ hp
      rw [ownS, hsn, ← hm] at this
      rw [Nat.add_zero, ← hxs]
      exact this)
    have HV0 := Aside0.mk (show (Value.slice s.A m s.c).ownBlock = (encS s).ownBlock ∨ ∀ b, (Value.slice s.A m s.c).ownBlock = some b → wA.heap.size ≤ b by
      refine .inl ?_
      rw [ownS]
      cases s.A <;> rfl)
    have HXM := Aside0.mk (show xs.length = m from hm.symm)
    have d1 : decide ((i : Int) < (n : Int)) = true := decide_eq_true (by omega)
    have d2 : decide (i < n) = true := decide_eq_true (by omega)
    have d3 : (i < n) = True := eq_true (by omega)
    have d4 : ((i : Int) < (n : Int)) = True := eq_true (by omega)
    have d5 : (0 ≤ (i : Int)) = True := eq_true (by omega)
    clear v0 hc0 C0 hp hsn hsc hC hl hm hxs
    obtain ⟨sA, hsA⟩ : ∃ A, A = s.A := ⟨_, rfl⟩
    obtain ⟨sc, hsc⟩ : ∃ c, c = s.c := ⟨_, rfl⟩
    rw [← hsA, ← hsc] at HR0 HV0 y0
    clear hsA hsc
    go_wp2_with (fail)
    go_loopg [5, 6] 12 (fun kx s5 s6 w2 => ∃ k : Nat, s6 = .int .i64 k ∧ Aside0 (k + kx = 12) ∧ Aside0 (Grow dK marks 3 31 0 w w2 base vs L Lo i u3) ∧ Aside0 (dK.R 3 w2 base (fun _ => True) s5 (marks i 0 (m + k))) ∧ Aside0 (s5.ownBlock = (encS s).ownBlock ∨ ∀ b, s5.ownBlock = some b → wA.heap.size ≤ b) ∧ Aside0 (wA.heap.size ≤ w2.heap.size))
    case atStart => exact ⟨0, rfl, ⟨by omega⟩, HW, HR0, HV0, ⟨Nat.le_refl _⟩⟩
    case round =>
      clear HR0 HV0
      obtain ⟨w2, hw2⟩ : ∃ q, q = wr := ⟨_, rfl⟩
      subst hw2
      obtain ⟨k, rfl, HK2, HG2, HR2, HV2, HS2⟩ := hrel
      obtain ⟨A5, c5, rfl⟩ := Kd.R_slice HR2.out
      rw [marks_length] at HR2 HV2 ⊢
      cases gk with
      | zero =>
        have hk : k = 12 := by have := HK2.out; omega
        subst hk
        obtain ⟨mm, hmm⟩ : ∃ q, q = m + 12 := ⟨_, rfl⟩
        rw [← hmm] at HR2 HV2 ⊢
        have hmm0 : mm ≤ 100012 := by omega
        have HM2 := Aside0.mk (show ∀ (W : World), Calls Try.prog 69 #[.int .i64 i, .int .i64 (mm : Int), .int .i64 60] W fun e w' => ∃ (v : Value) (ys : List Int), e = .returned v ∧ dK.R 3 w' W.heap.size (fun _ => True) v ys ∧ Below W.heap.size W w' ∧ ys.length = 60 ∧ marks i 0 mm ++ ys = marks i 0 (marks i 0 mm ++ ys).length by
          intro W
          refine (mark_any W i mm 60 (by omega) (by omega) (by omega)).mono fun e w' ⟨v, h1, h2, h3⟩ => ⟨v, _, h1, h2, h3, marks_length _ _ _, ?_⟩
          have := marks_more i 0 mm 60
          rw [Nat.zero_add] at this
          rw [this, marks_length])
        have HNN := Aside0.mk (show xs.length * dK.sz ≤ (marks i 0 mm).length * dK.sz by rw [HXM.out, marks_length]; exact Nat.mul_le_mul_right _ (by omega))
        have HLM := Aside0.mk (marks_length i 0 mm)
        obtain ⟨zs, hzs⟩ : ∃ zs, zs = marks i 0 mm := ⟨_, rfl⟩
        rw [← hzs] at HM2 HNN HLM HR2
        clear hzs hmm
        go_wp2_with (fail)
        with_reducible refine (HM2.out _).mono ?_
        rintro e w3 ⟨v3, ys, rfl, hR, hb, hyl, hym⟩
        obtain ⟨A3, c3, rfl, _, hC3⟩ := Kd.R_reads hR
        rw [hyl] at hC3 ⊢
        have HC3 := Aside0.mk hC3
        have HG3 := Aside0.mk (HG2.out.quiet flat (by decide) HBS.out hb)
        have HR3 := Aside0.mk (Kd.R_below HR2.out hb)
        have HS3 := Aside0.mk (Nat.le_trans HS2.out hb.size)
        have hzl : (zs ++ ys).length = mm + 60 := by rw [List.length_append, HLM.out, hyl]
        obtain ⟨ts, hts⟩ : ∃ ts, ts = zs ++ ys := ⟨_, rfl⟩
        rw [← hts] at hzl hym
        have HTS := Aside0.mk hts
        have HTL := Aside0.mk hzl
        have HTM := Aside0.mk hym
        have hbyt : (zs.length + 60) * 8 ≤ 140737488355328 := by rw [HLM.out]; omega
        have HBY := Aside0.mk hbyt
        clear hR hb hC3 HG2 HR2 HS2 hts hzl hym hbyt
        go_wp2_with (first
          | ((with_reducible refine gate_builtin (b := .append) (xs := #[.tmp 34, .tmp 38]) rfl ?_); at_builtin; go_must (refine F_append_rows dK flat (w0 := w) base rfl (.tmp 34) (.tmp 38) 31 3 (.int .i64 0) 8 rfl Try.underlying31 infoE rfl (by decide) (by omega) _ zs ys A3 60 c3 rfl rfl HR3.out HC3.out km HG3.out.below (Nat.le_trans HBS.out HG3.out.below.size) HBY.out ?_); intro v4 w4 ho_ hb_ hk_ hat_ hp_; rw [← HTS.out] at ho_; (obtain ⟨A4, c4, rfl⟩ := Kd.R_slice ho_); (have HG4 := Aside0.mk (Grow.append HG3.out flat (by decide) HL.out HW.out HP.out HNN.out HV2.out hb_ hk_ hp_)); (have HV4 := Aside0.mk (show (Value.slice A4 ts.length c4).ownBlock = (encS s).ownBlock ∨ ∀ b, (Value.slice A4 ts.length c4).ownBlock = some b → w.heap.size ≤ b by
              rcases hat_ with h | ⟨b, h, hle⟩
              · rw [h]
                rcases HV2.out with h2 | h2
                · exact .inl h2
                · exact .inr fun b hb => Nat.le_trans HW.out.below.size (h2 b hb)
              · exact .inr fun b' hb' => by rw [h] at hb'; injection hb' with hb'; have := HS3.out; have := HW.out.below.size; omega)); (have HR4 := Aside0.mk ho_); clear ho_ hb_ hk_ hat_ hp_)
          | ((with_reducible refine gate_builtin (b := .append) (xs := #[.tmp 33, .tmp 40]) rfl ?_); at_builtin; go_must (refine Kd.R_append dS (w0 := w4) w.heap.size rfl (.tmp 33) (.tmp 40) 34 31 (.slice none 0 0) 24 rfl Try.underlying34 infoS rfl (by decide) (by omega) u3 (Lo.map (fun p : SV × List Int => p.1)) ⟨A4, ts.length, c4⟩ [.slice A4 ts.length c4] (fun _ => True) (fun _ => False) rfl rfl rfl (fun _ hk => hk.elim) (fun _ _ => trivial) HG4.out.row (Below.refl _ _) HG4.out.below.size ?_ ?_); (rw [List.length_map, HG4.out.len]; omega); intro v5 w5 ho_ hb_ hg_ hat_; (have HG5 := Aside0.mk (Grow.push (s1 := ⟨A4, ts.length, c4⟩) HG4.out flat (by decide) HL.out HP.out HR4.out HTM.out (by rw [HTL.out]; omega) HV4.out HBS.out ho_ hb_ hg_)); clear ho_ hb_ hg_ hat_))
        go_roundg gkA
        case measure => omega
        case rel => exact ⟨i + 1, _, by first | rfl | go_num, ⟨by have := HK.out; omega⟩, HG5⟩
      | succ gk2 =>
      have hk : k < 12 := by have := HK2.out; omega
      have e1 : decide ((k : Int) < 12) = true := decide_eq_true (by omega)
      have e2 : decide (k < 12) = true := decide_eq_true (by omega)
      go_wp2_with (fail)
      with_reducible refine (HM1.out _ k (by omega)).mono ?_
      rintro e w3 ⟨v3, rfl, hR, hb⟩
      obtain ⟨A3, c3, rfl, _, hC3⟩ := Kd.R_reads hR
      rw [marks_length] at hC3 ⊢
      have HC3 := Aside0.mk hC3
      have HG3 := Aside0.mk (HG2.out.quiet flat (by decide) HBS.out hb)
      have HR3 := Aside0.mk (Kd.R_below HR2.out hb)
      have HS3 := Aside0.mk (Nat.le_trans HS2.out hb.size)
      have HNN := Aside0.mk (show xs.length * dK.sz ≤ (marks i 0 (m + k)).length * dK.sz by rw [HXM.out, marks_length]; exact Nat.mul_le_mul_right _ (Nat.le_add_right _ _))
      clear hR hb hC3 HG2 HR2 HS2
      go_wp2_with (first
        | ((with_reducible refine gate_builtin (b := .append) (xs := #[.tmp 27, .tmp 31]) rfl ?_); at_builtin; go_must (refine F_append_rows dK flat (w0 := w) base rfl (.tmp 27) (.tmp 31) 31 3 (.int .i64 0) 8 rfl Try.underlying31 infoE rfl (by decide) (by omega) _ (marks i 0 (m + k)) (marks i (m + k) 1) A3 1 c3 rfl rfl HR3.out HC3.out km HG3.out.below (Nat.le_trans HBS.out HG3.out.below.size) ?_ ?_); (rw [marks_length]; omega); intro v4 w4 ho_ hb_ hk_ hat_ hp_; (have HG4 := Aside0.mk (Grow.append HG3.out flat (by decide) HL.out HW.out HP.out HNN.out HV2.out hb_ hk_ hp_)); (have HR4 := Aside0.mk (show dK.R 3 w4 base (fun _ => True) v4 (marks i 0 (m + (k + 1))) by have h := ho_; rw [show marks i 0 (m + k) ++ marks i (m + k) 1 = marks i 0 (m + (k + 1)) by have := marks_more i 0 (m + k) 1; rw [Nat.zero_add] at this; exact this] at h; exact h)); (have HV4 := Aside0.mk (show v4.ownBlock = (encS s).ownBlock ∨ ∀ b, v4.ownBlock = some b → wA.heap.size ≤ b by
              rcases hat_ with h | ⟨b, h, hle⟩
              · rw [h]; exact HV2.out
              · exact .inr fun b' hb' => by rw [h] at hb'; injection hb' with hb'; have := HS3.out; omega)); (have HS4 := Aside0.mk (Nat.le_trans HS3.out hk_.1)); clear ho_ hb_ hk_ hat_ hp_))
      go_roundg gk2
      case measure => omega
      case rel => exact ⟨k + 1, by first | rfl | go_num, ⟨by have := HK2.out; omega⟩, HG4, HR4, HV4, HS4⟩


theorem same_n (w : World) (A B : Option Addr) (c c' n : Nat) (l : List Int) (hn : n = l.length) (hA : dK.C w A n l) (hB : dK.C w B n l) (hl : n ≤ 1000000) :
    Calls Try.prog 17 #[.slice A n c, .slice B n c'] w fun e w' => e = .returned (.bool true) ∧ ∃ q, w' = w.drewN q := by
  subst hn
  exact same_any w A B c c' l hA hB hl
set_option maxHeartbeats 1500000 in
set_option maxRecDepth 100000 in
/-- are all lists as they were marked? -/
theorem marked_any (w : World) (A : Option Addr) (c : Nat) (L : List (SV × List Int)) (hC : dS.C w A L.length (L.map (·.1))) (hI : ∀ (j : Nat) (p : SV × List Int), L[j]? = some p → p.1.n = p.2.length ∧ dK.C w p.1.A p.2.length p.2 ∧ p.2 = marks j 0 p.2.length ∧ p.2.length ≤ 200000) (hf : L.length ≤ 250) :
    Calls Try.prog 50 #[.slice A L.length c] w fun e w' => e = .returned (.bool true) ∧ Below w.heap.size w w' := by
  obtain ⟨n, hn⟩ : ∃ n, n = L.length := ⟨_, rfl⟩
  have HS0 : Aside0 (∀ i, i < n → ∃ (a0 : Addr) (A' : Option Addr) (m c' : Nat) (xs : List Int), A = some a0 ∧ w.cell? (a0.add i) = some (.slice A' m c') ∧ m = xs.length ∧ m ≤ 200000 ∧ dK.C w A' m xs ∧ ∀ W, Calls Try.prog 69 #[.int .i64 i, .int .i64 0, .int .i64 m] W fun e w' => ∃ v, e = .returned v ∧ dK.R 3 w' W.heap.size (fun _ => True) v xs ∧ Below W.heap.size W w') := ⟨by
    intro i hi
    obtain ⟨⟨s, xs⟩, hp⟩ : ∃ p, L[i]? = some p := ⟨L[i]'(by omega), List.getElem?_eq_getElem (by omega)⟩
    obtain ⟨a0, hA0, y0⟩ := SV_cell hC hp
    obtain ⟨g1, g2, g3, g4⟩ := hI i _ hp
    simp only at g1 g2 g3 g4
    rw [g1] at y0
    refine ⟨a0, s.A, xs.length, s.c, xs, hA0, y0, rfl, g4, g2, fun W => ?_⟩
    have := mark0_any W i xs.length (by omega) (by omega)
    rw [← g3] at this
    exact this⟩
  rw [← hn] at hf ⊢
  clear hC hI hn
  go_enter Try.func50, Try.ntmps50
  go_wp2_with (fail)
  go_loopg [3] n (fun kx s3 wr => ∃ i : Nat, s3 = .int .i64 i ∧ Aside0 (i + kx = n) ∧ Aside0 (Below w.heap.size w wr))
  case atStart => exact ⟨0, rfl, ⟨by omega⟩, ⟨Below.refl _ _⟩⟩
  case round =>
    obtain ⟨i, rfl, HK, HB⟩ := hrel
    cases gk with
    | zero =>
      have hk : i = n := by have := HK.out; omega
      subst hk
      have d1 : decide ((i : Int) < (i : Int)) = false := decide_eq_false (by omega)
      have d2 : decide (i < i) = false := decide_eq_false (by omega)
      go_wp2_with (fail)
      go_ret
      exact ⟨by first | rfl | simp, HB.out⟩
    | succ gkA =>
    have hi : i < n := by have := HK.out; omega
    obtain ⟨a0, A', m, c', xs, rfl, z0, hm, hml, hC, hM⟩ := HS0.out i hi
    have y0 : wr.cell? (a0.add i) = some (.slice A' m c') := pw_cell_below HB.out z0
    have HCX := Aside0.mk (Kd.C_below hC HB.out)
    have HM := Aside0.mk hM
    have HXL := Aside0.mk hm
    have d1 : decide ((i : Int) < (n : Int)) = true := decide_eq_true (by omega)
    have d2 : decide (i < n) = true := decide_eq_true (by omega)
    have d3 : (i < n) = True := eq_true (by omega)
    have d4 : ((i : Int) < (n : Int)) = True := eq_true (by omega)
    have d5 : (0 ≤ (i : Int)) = True := eq_true (by omega)
    clear z0 hC hM hm
    go_upto_region 4 with (fail)
    go_region_held3 (fun W' => W'.cell? (a0.add i) = some (.slice A' m c')) (go_keep) (first
      | (go_at_call 69; go_must (with_reducible refine (HM.out _).mono ?_); rintro e w1 ⟨v, rfl, hR, hb⟩; obtain ⟨A3, c3, rfl, _, hC3⟩ := Kd.R_reads hR; rw [← HXL.out] at hC3 ⊢; have y1 : w1.cell? (a0.add i) = some (.slice A' m c') := pw_cell_below hb y0; have HC3 := Aside0.mk hC3; have HCL := Aside0.mk (Kd.C_below (Kd.C_drew HCX.out) hb); have HB1 := Aside0.mk ((below_drew HB.out).trans (hb.mono HB.out.size)); clear hR hb hC3)
      | (go_at_call 17; go_must (with_reducible refine (same_n w1 A' A3 c' c3 m xs HXL.out HCL.out HC3.out (by omega)).mono ?_); rintro e w2 ⟨rfl, q, rfl⟩))
    go_wp2_with (fail)
    go_roundg gkA
    case measure => omega
    case rel => exact ⟨i + 1, by first | rfl | go_num, ⟨by have := HK.out; omega⟩, ⟨pw_below_drewN HB1.out _⟩⟩


set_option maxHeartbeats 1500000 in
set_option maxRecDepth 100000 in
/-- one more list is kept -/
theorem add_any (w : World) (g base : Nat) (vs : Array Value) (L M : List (SV × List Int)) (s : SV) (xs : List Int) (hg : w.heap[g]? = some (.cells vs 42 (0, 0))) (h1 : Held dK 3 31 0 w base vs L) (h2 : Held dK 3 31 1 w base vs M) (hML : M.length = L.length) (hfew : L.length < 250) (hR : dK.R 3 w base (fun _ => True) (encS s) xs) (hl : xs.length ≤ 100000) (hbase : base ≤ w.heap.size) (hbg : base ≤ g)
    (hsep : SepF vs 0 1) (hfresh : ∀ (j : Nat) (p : SV × List Int), L[j]? = some p → (encS p.1).ownBlock = none ∨ (encS p.1).ownBlock ≠ (encS s).ownBlock) :
    Calls Try.prog 12 #[.pointer (some ⟨g, 0, none⟩), encS s] w fun e w' => e = .returned (.tuple #[]) ∧ ∃ (vs' : Array Value) (s' : SV), w'.heap[g]? = some (.cells vs' 42 (0, 0)) ∧ (∀ j, j ≠ 0 → j ≠ 1 → vs'[j]? = vs[j]?) ∧ Held dK 3 31 0 w' base vs' (L ++ [(s, xs)]) ∧ Held dK 3 31 1 w' base vs' (M ++ [(s', xs)]) ∧ SepF vs' 0 1 ∧ Below base w w' ∧ KX [31, 42] w w' := by
  obtain ⟨A0, c0, v0, hc0, C0⟩ := h1.outer
  obtain ⟨A1, c1, v1, hc1, C1⟩ := h2.outer
  rw [hML] at v1 hc1
  obtain ⟨n, hn⟩ : ∃ n, n = L.length := ⟨_, rfl⟩
  obtain ⟨m, hm⟩ : ∃ m, m = xs.length := ⟨_, rfl⟩
  have hR' : dK.R 3 w base (fun _ => True) (.slice s.A s.n s.c) xs := hR
  have hsn : s.n = m := (Kd.R_reads' hR').1.trans hm.symm
  have hCs := (Kd.R_reads' hR').2.2
  rw [← hn] at v0 v1 hfew
  obtain ⟨sA, hsA⟩ : ∃ A, A = s.A := ⟨_, rfl⟩
  obtain ⟨sc, hsc⟩ : ∃ c, c = s.c := ⟨_, rfl⟩
  have hes : encS s = .slice sA m sc := by rw [ownS, hsn, hsA, hsc]
  rw [hes]
  rw [← hsA, ← hm] at hCs
  have hlt := blk_lt hg
  obtain ⟨vO, hvO, hrO⟩ := h1.row
  obtain rfl : vO = .slice A0 n c0 := by rw [v0] at hvO; injection hvO with h; exact h.symm
  obtain ⟨vM, hvM, hrM⟩ := h2.row
  obtain rfl : vM = .slice A1 n c1 := by rw [v1] at hvM; injection hvM with h; exact h.symm
  have x0 : w.cell? ⟨g, 0, none⟩ = some (.slice A0 n c0) := (blk_cell hg 0).trans v0
  have HSP := Aside0.mk (hsep _ _ v0 v1)
  clear hsep
  have hml : m ≤ 100000 := by omega
  have hvsz : 1 < vs.size := (Array.getElem?_eq_some_iff.1 v1).1
  have HVS := Aside0.mk hvsz
  clear hvsz
  have HE1 := Aside0.mk (show (L.map (fun p : SV × List Int => p.1) ++ [(⟨sA, m, sc⟩ : SV)]).length = n + 1 by rw [List.length_append, List.length_map, ← hn]; rfl)
  have HG := Aside0.mk hg
  have H1 := Aside0.mk h1
  have H2 := Aside0.mk h2
  have HR := Aside0.mk hR
  have HRO := Aside0.mk hrO
  have HRM := Aside0.mk hrM
  have HCS := Aside0.mk hCs
  have HMX := Aside0.mk hm
  have HES := Aside0.mk hes
  have HN := Aside0.mk hn
  have HML := Aside0.mk hML
  have HV1 := Aside0.mk v1
  have HFR := Aside0.mk hfresh
  have HBS := Aside0.mk hbase
  have HBG := Aside0.mk hbg
  have hbn : ((L.map (·.1)).length + 1) * 24 ≤ 140737488355328 := by rw [List.length_map, ← hn]; omega
  have HBN := Aside0.mk hbn
  have d1 : decide ((n : Int) < 250) = true := decide_eq_true (by omega)
  have d2 : decide (n < 250) = true := decide_eq_true (by omega)
  clear hg h1 h2 hR hR' hrO hrM hCs hm hes hn hML v0 v1 hvO hvM hc0 hc1 C0 C1 hsn hsA hsc hfresh hbn hbg
  go_enter Try.func12, Try.ntmps12
  go_upto_region 1 with (fail)
  go_upto_region 2 with (first
    | ((with_reducible refine gate_builtin (b := .append) (xs := #[.tmp 14, .tmp 16]) rfl ?_); at_builtin; go_must (refine Kd.R_append dS (w0 := w) base rfl (.tmp 14) (.tmp 16) 34 31 (.slice none 0 0) 24 rfl Try.underlying34 infoS rfl (by decide) (by omega) (.slice A0 n c0) (L.map (fun p : SV × List Int => p.1)) ⟨sA, m, sc⟩ [.slice sA m sc] (fun _ => True) (fun _ => False) rfl rfl rfl (fun _ hk => hk.elim) (fun _ _ => trivial) HRO.out (Below.refl _ _) HBS.out HBN.out ?_); intro v1 w1 ho_ hb_ hg_ hat_; have HG1 := Aside0.mk ((hg_.block g hlt (Kd.R_ne HRO.out HG.out (by decide))).trans HG.out); obtain ⟨AO, cO, rfl⟩ := Kd.R_slice ho_; rw [HE1.out] at ho_ hat_ ⊢; have HO1 := Aside0.mk ho_; have HB1 := Aside0.mk hb_; have HK1 := Aside0.mk hg_; have HT1 := Aside0.mk hat_; have y0 : w1.cell? ⟨g, 0, none⟩ = some (.slice A0 n c0) := (blk_cell HG1.out 0).trans ((blk_cell HG.out 0).symm.trans x0); have y1 := blk_frozen HG1.out 0; have hlt1 := blk_lt HG1.out; clear ho_ hb_ hg_ hat_))
  have HG2 := Aside0.mk (blk_set HG1.out 0 (.slice AO (n + 1) cO))
  have HB2 := Aside0.mk (show Below base w (w1.setCell ⟨g, 0, none⟩ (.slice AO (n + 1) cO)) from HB1.out.setCell HBG.out _)
  have HX2 := Aside0.mk (show KX [31, 42] w (w1.setCell ⟨g, 0, none⟩ (.slice AO (n + 1) cO)) by
    refine ((KX.grown HK1.out (List.mem_cons_self (a := 31) (l := [42])) (fun k hk => ?_))).trans (KX.set HG1.out (by simp))
    obtain ⟨_, inner, ho, _⟩ := HRO.out
    exact (own_typed ho k hk).imp fun cs h => ⟨_, h⟩)
  have far : ∀ {t size q : Nat} {v : Value} {ys : List Value}, w1.ownsRow base t size v q ys → t ≠ 42 → (w1.setCell ⟨g, 0, none⟩ (.slice AO (n + 1) cO)).ownsRow base t size v q ys := fun ho ht => own_setCell ho (own_ne ho HG1.out ht) _
  have HO2 := Aside0.mk (show dS.R 31 (w1.setCell ⟨g, 0, none⟩ (.slice AO (n + 1) cO)) base (fun _ => True) (.slice AO (n + 1) cO) (L.map (fun p : SV × List Int => p.1) ++ [⟨sA, m, sc⟩]) from flat_R (flat_scalar _ _) HO1.out (fun _ _ => trivial) fun _ _ _ ho => far ho (by decide))
  have HRM2 := Aside0.mk (show dS.R 31 (w1.setCell ⟨g, 0, none⟩ (.slice AO (n + 1) cO)) base (fun _ => True) (.slice A1 n c1) (M.map (fun p : SV × List Int => p.1)) from flat_R (flat_scalar _ _) (R_beside (flat_scalar _ _) HRM.out HK1.out HSP.out (ok' := fun _ => True) (fun _ _ => trivial)) (fun _ _ => trivial) fun _ _ _ ho => far ho (by decide))
  have hkx : ∀ {t size q : Nat} {v : Value} {ys : List Value}, w.ownsRow base t size v q ys → t ≠ 31 → t ≠ 42 → (w1.setCell ⟨g, 0, none⟩ (.slice AO (n + 1) cO)).ownsRow base t size v q ys := fun ho ht hT => HX2.out.row ho (by simp [ht, hT])
  have HL2 := Aside0.mk (show ∀ (j : Nat) (p : SV × List Int), L[j]? = some p → dK.R 3 (w1.setCell ⟨g, 0, none⟩ (.slice AO (n + 1) cO)) base (fun _ => True) (encS p.1) p.2 from fun j p hp => flat_R flat (H1.out.own j p hp) (fun _ _ => trivial) fun _ _ _ ho => hkx ho (by decide) (by decide))
  have HM2 := Aside0.mk (show ∀ (j : Nat) (p : SV × List Int), M[j]? = some p → dK.R 3 (w1.setCell ⟨g, 0, none⟩ (.slice AO (n + 1) cO)) base (fun _ => True) (encS p.1) p.2 from fun j p hp => flat_R flat (H2.out.own j p hp) (fun _ _ => trivial) fun _ _ _ ho => hkx ho (by decide) (by decide))
  have HS2 := Aside0.mk (show dK.R 3 (w1.setCell ⟨g, 0, none⟩ (.slice AO (n + 1) cO)) base (fun _ => True) (encS s) xs from flat_R flat HR.out (fun _ _ => trivial) fun _ _ _ ho => hkx ho (by decide) (by decide))
  clear far hkx y0 y1 hlt1 x0 hlt
  generalize w1.setCell ⟨g, 0, none⟩ (.slice AO (n + 1) cO) = w2 at *
  have z0 : w2.cell? ⟨g, 1, none⟩ = some (.slice A1 n c1) := (blk_cell HG2.out 1).trans (by rw [Array.getElem?_setIfInBounds_ne (by decide)]; exact HV1.out)
  have HCP := Aside0.mk (show Calls Try.prog 27 #[.slice sA m sc] w2.drew fun e w' => ∃ v, e = .returned v ∧ dK.R 3 w' w2.drew.heap.size (fun _ => True) v xs ∧ Below w2.drew.heap.size w2.drew w' by
    have hC : dK.C w2.drew sA xs.length xs := by have h := HS2.out; rw [HES.out] at h; exact Kd.C_drew (Kd.R_reads' h).2.2
    have := copy_any w2.drew sA sc xs hC (by omega)
    rw [← HMX.out] at this
    exact this)
  have hbm : ((M.map (fun p : SV × List Int => p.1)).length + 1) * 24 ≤ 140737488355328 := by rw [List.length_map, HML.out, ← HN.out]; omega
  have HBM := Aside0.mk hbm
  have HE2 := Aside0.mk (show ∀ q : SV, (M.map (fun p : SV × List Int => p.1) ++ [q]).length = n + 1 from fun q => by rw [List.length_append, List.length_map, HML.out, ← HN.out]; rfl)
  have HBW := Aside0.mk (show base ≤ w2.drew.heap.size from Nat.le_trans HBS.out HB2.out.size)
  have HLT2 := Aside0.mk (show ∀ k, (Value.slice AO (n + 1) cO).ownBlock = some k → k < w2.heap.size from Kd.R_lt HO2.out)
  clear hbm d1 d2
  go_region_law (first
    | (go_simp; go_at_call 27; (with_reducible refine (HCP.out).mono ?_); rintro e w3 ⟨v3, rfl, hR3, hb3⟩; obtain ⟨A3, c3, rfl⟩ := Kd.R_slice hR3; rw [← HMX.out] at hR3 ⊢; have z1 : w3.cell? ⟨g, 1, none⟩ = some (.slice A1 n c1) := pw_cell_below hb3 z0; have z2 : (w3.alloc (.cells #[.slice A3 m c3] 31)).cell? ⟨g, 1, none⟩ = some (.slice A1 n c1) := pw_cell_below (below_alloc (Below.refl _ _) _) z1; have HR3 := Aside0.mk hR3; have HB3 := Aside0.mk hb3; have HRM3 := Aside0.mk (Kd.R_below (Kd.R_drew HRM2.out) hb3); have HG3 := Aside0.mk ((hb3.block g (blk_lt (show w2.drew.heap[g]? = _ from HG2.out))).trans HG2.out); clear hR3 hb3)
    | (refine Kd.R_append_step dS (w0 := w3) base rfl (.tmp 24) (.tmp 27) 34 31 (.slice none 0 0) 24 rfl Try.underlying34 infoS rfl (by decide) (by omega) (.slice A1 n c1) (M.map (fun p : SV × List Int => p.1)) ⟨A3, m, c3⟩ [.slice A3 m c3] (fun _ => True) (fun _ => False) rfl rfl rfl (fun _ hk => hk.elim) (fun _ _ => trivial) HRM3.out (Below.refl _ _) (Nat.le_trans HBW.out HB3.out.size) HBM.out ?_; intro v4 w4 ho_ hb_ hg_ hat_; have HG4 := Aside0.mk ((hg_.block g (blk_lt HG3.out) (Kd.R_ne HRM3.out HG3.out (by decide))).trans HG3.out); obtain ⟨AP, cP, rfl⟩ := Kd.R_slice ho_; rw [HE2.out] at ho_ hat_ ⊢; have HO4 := Aside0.mk ho_; have HB4 := Aside0.mk hb_; have HK4 := Aside0.mk hg_; have HT4 := Aside0.mk hat_; have y0 : w4.cell? ⟨g, 1, none⟩ = some (.slice A1 n c1) := (blk_cell HG4.out 1).trans ((blk_cell HG3.out 1).symm.trans z1); have y1 := blk_frozen HG4.out 1; have hlt1 := blk_lt HG4.out; clear ho_ hb_ hg_ hat_))
  all_goals
    go_end0
    have hA1 : ∀ k, (Value.slice A1 n c1).ownBlock = some k → k < w.heap.size := Kd.R_lt HRM.out
    have hAO : (Value.slice AO (n + 1) cO).ownBlock = none ∨ (Value.slice AO (n + 1) cO).ownBlock ≠ (Value.slice A1 n c1).ownBlock := by
      rcases HT1.out with h | ⟨b, h, hle⟩
      · rw [h]
        rcases HSP.out with h2 | h2
        · cases hb : (Value.slice A0 n c0).ownBlock with
          | none => exact .inl rfl
          | some k => exact .inr (by rw [h2]; simp)
        · exact .inr fun e => h2 e.symm
      · refine .inr fun e => ?_
        have := hA1 b (by rw [← e, h])
        omega
    have hx34 : KX [31] w3 w4 := KX.grown HK4.out (List.mem_cons_self) (fun k hk => by
      obtain ⟨_, inner, ho, _⟩ := HRM3.out
      exact (own_typed ho k hk).imp fun cs h => ⟨_, h⟩)
    have far : ∀ {t size q b : Nat} {v : Value} {ys : List Value}, w4.ownsRow b t size v q ys → t ≠ 42 → (w4.setCell ⟨g, 1, none⟩ (.slice AP (n + 1) cP)).ownsRow b t size v q ys := fun ho ht => own_setCell ho (own_ne ho HG4.out ht) _
    have hb23 : Below w2.heap.size w2 w3 := (below_drew (Below.refl _ _)).trans HB3.out
    have mvE : ∀ {t size q : Nat} {v : Value} {ys : List Value}, w2.ownsRow base t size v q ys → t ≠ 31 → t ≠ 42 → (w4.setCell ⟨g, 1, none⟩ (.slice AP (n + 1) cP)).ownsRow base t size v q ys := fun ho h1 h2 => far (hx34.row (pw_own_below ho hb23) (by simpa using h1)) h2
    have hbE : Below base w (w4.setCell ⟨g, 1, none⟩ (.slice AP (n + 1) cP)) := ((HB2.out.trans (hb23.mono HBW.out)).trans HB4.out).setCell HBG.out _
    have hLn : L.length = n := HN.out.symm
    have hMn : M.length = n := HML.out.trans hLn
    have snoc : ∀ (X : List (SV × List Int)) (y : SV × List Int) (j : Nat) (p : SV × List Int), (X ++ [y])[j]? = some p → X[j]? = some p ∨ (j = X.length ∧ p = y) := by
      intro X y j p hp
      by_cases hj : j < X.length
      · rw [List.getElem?_append_left hj] at hp; exact .inl hp
      · rw [List.getElem?_append_right (by omega)] at hp
        have hj0 : j - X.length = 0 := by
          by_cases hz : j - X.length = 0
          · exact hz
          · rw [List.getElem?_eq_none (by simp; omega)] at hp; cases hp
        rw [hj0] at hp
        injection hp with hp
        exact .inr ⟨by omega, hp.symm⟩
    have hlim : xs.length ≤ 100000 := hl
    have hs0 : (⟨sA, m, sc⟩ : SV) = s := by have h := HES.out; rw [ownS] at h; cases s; simp at h; obtain ⟨rfl, rfl, rfl⟩ := h; rfl
    refine ⟨rfl, _, ⟨A3, m, c3⟩, blk_set HG4.out 1 _, fun j h0 h1 => ?_, ⟨⟨.slice AO (n + 1) cO, ?_, ?_⟩, fun j p hp => ?_, fun i j p q hij hp hq => ?_, ?_, fun j p hp => ?_⟩, ⟨⟨.slice AP (n + 1) cP, ?_, ?_⟩, fun j p hp => ?_, fun i j p q hij hp hq => ?_, ?_, fun j p hp => ?_⟩, fun v v' hv hv' => ?_, hbE, ?_⟩
    · rw [Array.getElem?_setIfInBounds_ne (fun e => h1 e.symm), Array.getElem?_setIfInBounds_ne (fun e => h0 e.symm)]
    · rw [Array.getElem?_setIfInBounds_ne (by decide), Array.getElem?_setIfInBounds_self_of_lt (by have := HVS.out; omega)]
    · rw [List.map_append]
      have hmap : L.map (·.1) ++ [(s, xs)].map (·.1) = L.map (fun p : SV × List Int => p.1) ++ [⟨sA, m, sc⟩] := by rw [hs0]; rfl
      rw [hmap]
      exact flat_R (flat_scalar _ _) (R_beside (flat_scalar _ _) (Kd.R_below HO2.out hb23) HK4.out hAO (ok' := fun _ => True) (fun _ _ => trivial)) (fun _ _ => trivial) fun _ _ _ ho => far ho (by decide)
    · rcases snoc L _ j p hp with hp | ⟨_, rfl⟩
      · exact flat_R flat (HL2.out j p hp) (fun _ _ => trivial) fun _ _ _ ho => mvE ho (by decide) (by decide)
      · exact flat_R flat HS2.out (fun _ _ => trivial) fun _ _ _ ho => mvE ho (by decide) (by decide)
    · rcases snoc L _ i p hp with hp | ⟨hi, rfl⟩
      · rcases snoc L _ j q hq with hq | ⟨hj, rfl⟩
        · exact H1.out.sep i j p q hij hp hq
        · exact HFR.out i p hp
      · rcases snoc L _ j q hq with hq | ⟨hj, rfl⟩
        · rcases HFR.out j q hq with h | h
          · cases hb : (encS s).ownBlock with
            | none => exact .inl rfl
            | some k => exact .inr (by rw [h]; simp)
          · exact .inr fun e => h e.symm
        · omega
    · rw [List.length_append, hLn]; exact hfew
    · rcases snoc L _ j p hp with hp | ⟨_, rfl⟩
      · exact H1.out.short j p hp
      · exact hlim
    · rw [Array.getElem?_setIfInBounds_self_of_lt (by rw [Array.size_setIfInBounds]; exact HVS.out)]
    · rw [List.map_append]
      exact flat_R (flat_scalar _ _) HO4.out (fun _ _ => trivial) fun _ _ _ ho => far ho (by decide)
    · rcases snoc M _ j p hp with hp | ⟨_, rfl⟩
      · exact flat_R flat (HM2.out j p hp) (fun _ _ => trivial) fun _ _ _ ho => mvE ho (by decide) (by decide)
      · exact flat_R flat (Kd.R_lower HR3.out HBW.out) (fun _ _ => trivial) fun _ _ _ ho => far (hx34.row ho (by decide)) (by decide)
    · have fr : ∀ (j : Nat) (p : SV × List Int), M[j]? = some p → (encS p.1).ownBlock = none ∨ (encS p.1).ownBlock ≠ (encS ⟨A3, m, c3⟩).ownBlock := by
        intro j p hp
        cases hb : (encS p.1).ownBlock with
        | none => exact .inl rfl
        | some k =>
          refine .inr fun e => ?_
          have h1 := Kd.R_lt (HM2.out j p hp) k hb
          have h2 := Kd.R_base HR3.out k (by rw [e]; rfl)
          exact absurd h1 (by have h3 : w2.heap.size ≤ k := h2; omega)
      rcases snoc M _ i p hp with hp | ⟨hi, rfl⟩
      · rcases snoc M _ j q hq with hq | ⟨hj, rfl⟩
        · exact H2.out.sep i j p q hij hp hq
        · exact fr i p hp
      · rcases snoc M _ j q hq with hq | ⟨hj, rfl⟩
        · rcases fr j q hq with h | h
          · cases hb : (encS (⟨A3, m, c3⟩ : SV)).ownBlock with
            | none => exact .inl rfl
            | some k => exact .inr (by rw [h]; simp)
          · exact .inr fun e => h e.symm
        · omega
    · rw [List.length_append, hMn]; exact hfew
    · rcases snoc M _ j p hp with hp | ⟨_, rfl⟩
      · exact H2.out.short j p hp
      · exact hlim
    · rw [Array.getElem?_setIfInBounds_ne (by decide), Array.getElem?_setIfInBounds_self_of_lt (by have := HVS.out; omega)] at hv
      rw [Array.getElem?_setIfInBounds_self_of_lt (by rw [Array.size_setIfInBounds]; exact HVS.out)] at hv'
      injection hv with hv
      injection hv' with hv'
      subst hv hv'
      rcases HT4.out with h | ⟨b, h, hle⟩
      · rw [h]
        rcases hAO with h2 | h2
        · cases hb : (Value.slice A1 n c1).ownBlock with
          | none => exact .inl rfl
          | some k => exact .inr (by rw [h2]; simp)
        · exact .inr fun e => h2 e.symm
      · refine .inr fun e => ?_
        have h1 := HLT2.out b (by rw [← e, h])
        have h2 := hb23.size
        omega
    · exact (HX2.out.trans (KX.below hb23)).trans ((hx34.mono (by simp)).trans (KX.set HG4.out (by simp)))


theorem marked_n (w : World) (A : Option Addr) (c n : Nat) (L : List (SV × List Int)) (hn : n = L.length) (hC : dS.C w A L.length (L.map (·.1))) (hI : ∀ (j : Nat) (p : SV × List Int), L[j]? = some p → p.1.n = p.2.length ∧ dK.C w p.1.A p.2.length p.2 ∧ p.2 = marks j 0 p.2.length ∧ p.2.length ≤ 200000) (hf : L.length ≤ 250) :
    Calls Try.prog 50 #[.slice A n c] w fun e w' => e = .returned (.bool true) ∧ Below w.heap.size w w' := by
  subst hn
  exact marked_any w A c L hC hI hf


theorem putL_marks (L : List (SV × List Int)) (j : Nat) (p : SV × List Int) (h : (putL L L.length)[j]? = some p) : p.2 = marks j 0 p.2.length := by
  have hlt : j < L.length := by have := (List.getElem?_eq_some_iff.1 h).1; rwa [putL_length] at this
  rw [putL_get, List.getElem?_eq_getElem hlt] at h
  simp only [Option.map_some, if_pos hlt] at h
  injection h with h
  rw [← h]
  simp [marks_length]

end BInts
end Go.Proofs.Ytfblelkegebdiaa.V

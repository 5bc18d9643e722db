/- PruneTells, walked. -/
import Derived.Test.YtfblelkegebdiaaRP
import Derived.Test.YtfblelkegebdiaaT5
import Derived.Test.YtfblelkegebdiaaBKA
import Derived.Test.YtfblelkegebdiaaMG
namespace Go.Proofs.Ytfblelkegebdiaa.V
open Go.Proofs Go.RowKit Go.Lib Go.Proofs.YtfblelkegebdiaaW.PrintWords Go.Proofs.YtfblelkegebdiaaW.PrintLast Go.Proofs.YtfblelkegebdiaaW.PrintMore Go.Proofs.YtfblelkegebdiaaM
set_option linter.unusedVariables false
set_option linter.unusedSimpArgs false

def wfI (n : Int) : Prop := (Lit.int .i64 n).wf = true
theorem wfI_small {n : Int} (h0 : 0 ≤ n) (h1 : n ≤ 1000000) : wfI n := by
  have e1 : IntKind.i64.min = -9223372036854775808 := by decide
  have e2 : IntKind.i64.max = 9223372036854775807 := by decide
  simp [wfI, Lit.wf, e1, e2]
  omega
theorem keysI : Keys Try.prog 3 (Value.int .i64) wfI where
  inj := fun x y h => by injection h
  keyed := Go.Maps.int_keyed Try.underlying3
  key := fun x h => ⟨_, Go.Maps.keyOf_int_mk Try.underlying3 h⟩
theorem zeroB (w : World) : (zeroValue 4).run Try.prog w = .ok (.bool false) w := by kernel_rfl
def seenF (l : List Nat) (k : Nat) : Int → Option Bool := fun p => if p ∈ (l.take k).map (fun i : Nat => (i : Int)) then some true else none
theorem seenF_snoc (l : List Nat) (k : Nat) (h : k < l.length) : ∀ n, seenF l (k + 1) n = upd (seenF l k) ((l[k] : Nat) : Int) true n := by
  intro n
  show (if n ∈ (l.take (k + 1)).map (fun i : Nat => (i : Int)) then some true else none) = if n = ((l[k] : Nat) : Int) then some true else (if n ∈ (l.take k).map (fun i : Nat => (i : Int)) then some true else none)
  rw [List.take_succ_eq_append_getElem h, List.map_append]
  by_cases e : n = ((l[k] : Nat) : Int)
  · rw [if_pos (by rw [List.mem_append]; exact .inr (by rw [e]; exact List.mem_singleton_self _)), if_pos e]
  · rw [if_neg e]
    by_cases h2 : n ∈ (l.take k).map (fun i : Nat => (i : Int))
    · rw [if_pos (List.mem_append_left _ h2), if_pos h2]
    · rw [if_neg (fun h3 => by
        rcases List.mem_append.1 h3 with h3 | h3
        · exact h2 h3
        · exact e (List.mem_singleton.1 h3)), if_neg h2]
theorem seenF_new {l : List Nat} (hn : l.Nodup) {k : Nat} (h : k < l.length) : seenF l k ((l[k] : Nat) : Int) = none := by
  unfold seenF
  rw [if_neg]
  intro hm
  rw [List.mem_map] at hm
  obtain ⟨i, hi, e⟩ := hm
  have hik : i = l[k] := by omega
  have h1 := List.take_append_drop k l
  rw [← h1] at hn
  rw [List.drop_eq_getElem_cons h] at hn
  exact (List.nodup_append.1 hn).2.2 _ hi _ List.mem_cons_self hik
def T_okT (w0 : World) (e : Ending) (w' : World) : Prop := e = .returned (.bool true) ∧ Below w0.heap.size w0 w'
def b77 : Bx := ⟨-77, 0, 0, 0⟩
def vs0 : Array Value := #[.slice none 0 0, .slice none 0 0, .slice none 0 0, .slice none 0 0, .slice none 0 0, .slice none 0 0, .slice none 0 0, .slice none 0 0, .slice none 0 0, .slice none 0 0, .slice none 0 0, .slice none 0 0, .slice none 0 0, .slice none 0 0]
theorem vs0_at (f : Nat) (hf : f < 14) : vs0[f]? = some (.slice none 0 0) := by
  rw [show vs0 = Array.replicate 14 (.slice none 0 0) from rfl, Array.getElem?_replicate, if_pos hf]
theorem held0 {α : Type} (d : Kd α) (e es f : Nat) (w : World) (base : Nat) (hf : f < 14) : Held d e es f w base vs0 [] := by
  refine ⟨⟨.slice none 0 0, ?_, Kd.R_nil _ _ _ _ _⟩, fun i p h => by simp at h, fun i j p q _ h => by simp at h, by simp, fun i p h => by simp at h⟩
  exact vs0_at f hf
theorem sep0 (f f1 : Nat) (h : f1 < 14) : SepF vs0 f f1 := by
  intro v v' _ hv
  rw [vs0_at f1 h] at hv
  injection hv with hv
  subst hv
  exact .inl rfl
theorem sepNil {vs : Array Value} (f : Nat) {f1 : Nat} (h1 : vs[f1]? = some (.slice none 0 0)) : SepF vs f f1 := by
  intro v v' _ h
  rw [h1] at h
  injection h with h
  subst h
  exact .inl rfl
theorem ownS' (s : SV) : encS s = .slice s.A s.n s.c := rfl
theorem cap_facts {w : World} {base : Nat} {ok : Nat → Prop} {A : Option Addr} {n c : Nat} {xs : List Bx} (h : k28.R 28 w base ok (.slice A (n + 1) c) xs) : n ≤ c ∧ decide ((n : Int) ≤ (c : Int)) = true := by
  have h1 := (Kd.R_reads' h).2.1
  exact ⟨by omega, decide_eq_true (by omega)⟩
theorem head_of {w : World} {base : Nat} {ok : Nat → Prop} {A : Option Addr} {n c : Nat} {xs : List Bx} (h : k28.R 28 w base ok (.slice A (n + 1) c) xs) : ∃ g, A = some ⟨g, 0, none⟩ := by
  have h1 := (Kd.R_reads' h).1
  obtain ⟨g, cap, e, _⟩ := Kd.R_form h (by omega)
  injection e with e _ _
  exact ⟨g, e⟩
set_option maxHeartbeats 8000000 in
set_option maxRecDepth 100000 in
theorem tells_in (w : World) (A : Option Addr) (cp : Nat) (l : List Bx) (hr : Kd.C k28 w A l.length l) (hc : l.length ≤ cp) (hl : l.length ≤ 50) :
    Calls Try.prog 3 #[.slice A l.length cp] w (T_okT w) := by
  have HAL := Aside0.mk alive_any
  have HR := Aside0.mk hr
  have HC := Aside0.mk hc
  obtain ⟨n, hn⟩ : ∃ n, n = l.length := ⟨_, rfl⟩
  have HN := Aside0.mk hn
  have hn1 : n ≤ 50 := by omega
  have d1 : decide (50 < (n : Int)) = false := decide_eq_false (by omega)
  have d2 : decide (50 < n) = false := decide_eq_false (by omega)
  rw [← hn] at HR ⊢
  have HBY := Aside0.mk (show (([] : List Bx).length + n) * 32 ≤ 140737488355328 by simp only [List.length_nil]; omega)
  have HBY2 := Aside0.mk (show (l.length + 1) * 32 ≤ 140737488355328 by omega)
  have HLN := Aside0.mk (show (l ++ [b77]).length = n + 1 by rw [List.length_append, ← hn]; rfl)
  clear hr hc hl hn
  go_enter Try.func3, Try.ntmps3
  go_upto_region 3 with (first
    | (go_at_call 8; (with_reducible refine (HAL.out _).mono ?_); rintro e w1 ⟨rfl, hb⟩; have HB1 := Aside0.mk hb; clear hb))
  have HR1 := Aside0.mk (Kd.C_below HR.out HB1.out)
  clear d1 d2
  go_wp2_with (first
    | ((with_reducible refine gate_builtin (b := .append) (xs := #[.const (Value.slice none 0 0), .tmp 20]) rfl ?_); at_builtin; go_must (refine F_append_rows k28 (fun h => h) (w0 := w1) w.heap.size rfl (.const (Value.slice none 0 0)) (.tmp 20) 22 28 (.agg #[(.int .i64 0), (.int .i64 0), (.int .i64 0), (.int .i64 0)]) 32 rfl Try.underlying22 info28 rfl (by decide) (by omega) (.slice none 0 0) [] l A n cp rfl rfl (Kd.R_nil _ _ _ _ _) HR1.out (fun _ _ h => h) (Below.refl _ _) HB1.out.size HBY.out ?_); intro v2 w2 ho_ hb_ hk_ hat_ hp_; rw [List.nil_append] at ho_; have HO2 := Aside0.mk ho_; have HB2 := Aside0.mk (HB1.out.trans hb_); clear ho_ hb_ hk_ hat_ hp_)
    | ((with_reducible refine gate_builtin (b := .append) (xs := #[.tmp 21, .tmp 24]) rfl ?_); at_builtin; go_must (refine Kd.R_append k28 (w0 := w2) w.heap.size rfl (.tmp 21) (.tmp 24) 22 28 (.agg #[(.int .i64 0), (.int .i64 0), (.int .i64 0), (.int .i64 0)]) 32 rfl Try.underlying22 info28 rfl (by decide) (by omega) v2 l b77 [.int .i64 (-77), .int .i64 0, .int .i64 0, .int .i64 0] (fun _ => True) (fun _ => False) rfl rfl (k28_mkM _ _ _ b77) (fun _ hk => hk.elim) (fun _ _ => trivial) HO2.out (Below.refl _ _) HB2.out.size HBY2.out ?_); intro v3 w3 ho_ hb_ hg_ hat_; obtain ⟨A3, c3, rfl⟩ := Kd.R_slice ho_; rw [HLN.out] at ho_ ⊢; obtain ⟨g3, rfl⟩ := head_of ho_; have hcc1 := (cap_facts ho_).1; have hcc2 := (cap_facts ho_).2; have HO3 := Aside0.mk ho_; have HB3 := Aside0.mk (HB2.out.trans hb_); clear ho_ hb_ hg_ hat_))
  have HM := Aside0.mk (show ∀ W, Below w3.heap.size w3 W → k28.C W (some ⟨g3, 0, none⟩) l.length l by
    intro W hb
    have h := Kd.R_take HO3.out (m := n) (by rw [HLN.out]; omega)
    rw [show (l ++ [b77]).take n = l by rw [HN.out]; simp] at h
    exact Kd.C_below (Kd.R_reads' h).2.2 hb)
  have HP := Aside0.mk (show ∀ W, Below w3.heap.size w3 W → Calls Try.prog 9 #[.slice (some ⟨g3, 0, none⟩) n c3] W fun e w' => ∃ v, e = .returned v ∧ k50.R 50 w' W.heap.size (fun k => W.heap.size ≤ k) v (pairsOf l) ∧ Below W.heap.size W w' by
    intro W hb
    have h := pairs_any W (some ⟨g3, 0, none⟩) c3 l (HM.out W hb) (by rw [← HN.out]; exact hcc1) (by rw [← HN.out]; omega)
    rw [← HN.out] at h
    exact h)
  have HS := Aside0.mk (show ∀ W, Below w3.heap.size w3 W → Calls Try.prog 10 #[.slice (some ⟨g3, 0, none⟩) n c3] W fun e w' => ∃ (v : Value) (d : List Nat), e = .returned v ∧ (Kd.int .i64).R 3 w' W.heap.size (fun k => W.heap.size ≤ k) v (d.map fun i : Nat => (i : Int)) ∧ d.Perm (List.range n) ∧ Below W.heap.size W w' ∧ d.Pairwise fun a b => (at_ l a).f0 < (at_ l b).f0 ∨ (at_ l a).f0 = (at_ l b).f0 ∧ a < b by
    intro W hb
    have h := sorted_full W (some ⟨g3, 0, none⟩) c3 l (HM.out W hb) (by rw [← HN.out]; exact hcc1) (by rw [← HN.out]; omega)
    rw [← HN.out] at h
    exact h)
  obtain ⟨pl, hpl⟩ : ∃ pl, pl = pairsOf l := ⟨_, rfl⟩
  rw [← hpl] at HP
  have HPL := Aside0.mk hpl
  clear hpl
  with_reducible refine (HP.out _ (Below.refl _ _)).mono ?_
  rintro e w4 ⟨va, rfl, hR, hb⟩
  have HA4 := Aside0.mk hR
  have HB4 := Aside0.mk (HB3.out.trans (hb.mono HB3.out.size))
  have HX4 := Aside0.mk hb
  clear hR hb
  go_wp2_with (fail)
  with_reducible refine (HP.out _ HX4.out).mono ?_
  rintro e w5 ⟨vb, rfl, hR, hb⟩
  have HA5 := Aside0.mk (Kd.R_below HA4.out hb)
  have HV5 := Aside0.mk hR
  have HAB := Aside0.mk (show va.ownBlock = none ∨ va.ownBlock ≠ vb.ownBlock by
    cases hv : va.ownBlock with
    | none => exact .inl rfl
    | some k =>
      refine .inr fun e => ?_
      have h1 := Kd.R_lt HA4.out k hv
      have h2 := Kd.R_base hR k e.symm
      omega)
  have HB5 := Aside0.mk (HB4.out.trans (hb.mono HB4.out.size))
  have HX5 := Aside0.mk (HX4.out.trans (hb.mono HX4.out.size))
  clear hR hb
  go_wp2_with (fail)
  with_reducible refine (HS.out _ HX5.out).mono ?_
  rintro e w6 ⟨vs_, d, rfl, hR, hperm, hb, hpw⟩
  have HA6 := Aside0.mk (Kd.R_below HA5.out hb)
  have HV6 := Aside0.mk (Kd.R_below HV5.out hb)
  have HS6 := Aside0.mk hR
  have HB6 := Aside0.mk (HB5.out.trans (hb.mono HB5.out.size))
  have HX6 := Aside0.mk (HX5.out.trans (hb.mono HX5.out.size))
  have hdl : d.length = n := by have h := hperm.length_eq; rwa [List.length_range] at h
  have HPM := Aside0.mk hperm
  have HPW := Aside0.mk hpw
  have HDL := Aside0.mk hdl
  clear hR hb hperm hpw hdl
  obtain ⟨Aa, ca, rfl⟩ := Kd.R_slice HA6.out
  obtain ⟨Ab, cb, rfl⟩ := Kd.R_slice HV6.out
  obtain ⟨As, cs, rfl⟩ := Kd.R_slice HS6.out
  go_wp2_with (fail)
  have HMX := Aside0.mk (Kd.R_below HO3.out HX6.out)
  have hpl0 : pl.length ≤ 2500 := by
    rw [HPL.out, ← rowsP_all]
    have h := rowsP_few l l.length
    have h2 : l.length * l.length ≤ 50 * 50 := Nat.mul_le_mul (by have := HN.out; omega) (by have := HN.out; omega)
    omega
  obtain ⟨B, hB⟩ : ∃ B, B = w.heap.size := ⟨_, rfl⟩
  have HBQ := Aside0.mk hB
  obtain ⟨g, hg⟩ : ∃ g, g = w6.heap.size := ⟨_, rfl⟩
  have HG7 := Aside0.mk (show (w6.alloc (.cells vs0 42)).heap[g]? = some (.cells vs0 42 (0, 0)) by rw [hg]; exact (MapKept.heap_alloc w6 _).1)
  have HBG := Aside0.mk (show B ≤ g by rw [hB, hg]; exact HB6.out.size)
  have HB7 := Aside0.mk (show Below B w (w6.alloc (.cells vs0 42)) by rw [hB]; exact below_alloc HB6.out _)
  have HA7 := Aside0.mk (show k50.R 50 (w6.alloc (.cells vs0 42)) B (fun _ => True) (encS ⟨Aa, pl.length, ca⟩) pl from Kd.R_mono (Kd.R_lower (Kd.R_alloc HA6.out _) (by rw [hB]; exact HB3.out.size)) (fun _ _ => trivial))
  have HV7 := Aside0.mk (show k50.R 50 (w6.alloc (.cells vs0 42)) B (fun _ => True) (encS ⟨Ab, pl.length, cb⟩) pl from Kd.R_mono (Kd.R_lower (Kd.R_alloc HV6.out _) (by rw [hB]; exact HB4.out.size)) (fun _ _ => trivial))
  have HS7 := Aside0.mk (show (Kd.int .i64).R 3 (w6.alloc (.cells vs0 42)) B (fun _ => True) (encS ⟨As, d.length, cs⟩) (d.map fun i : Nat => (i : Int)) from Kd.R_mono (Kd.R_lower (Kd.R_alloc (by have h := HS6.out; rw [List.length_map] at h; exact h) _) (by rw [hB]; exact HB5.out.size)) (fun _ _ => trivial))
  have HM7 := Aside0.mk (Kd.R_alloc HMX.out (.cells vs0 42))
  have HZ7 := Aside0.mk (show B ≤ (w6.alloc (.cells vs0 42)).heap.size by rw [hB]; exact HB7.out.size |> fun h => by rw [hB] at *; exact h)
  rw [← hg]
  have HMH := Aside0.mk (show (Value.slice (some ⟨g3, 0, none⟩) (n + 1) c3).ownBlock = some g3 from rfl)
  clear hB hg HX4 HX5 HX6 HA4 HA5 HA6 HV5 HV6 HS6 HMX HB4 HB5 HB6 HO3
  change Calls Try.prog 11 #[.pointer (some ⟨g, 0, none⟩), encS ⟨Aa, pl.length, ca⟩] (w6.alloc (.cells vs0 42)) _
  generalize w6.alloc (.cells vs0 42) = w7 at *
  with_reducible refine (BPairs.add_any w7 g B vs0 [] [] ⟨Aa, pl.length, ca⟩ pl HG7.out (held0 _ _ _ _ _ _ (by decide)) (held0 _ _ _ _ _ _ (by decide)) rfl (by decide) HA7.out (by omega) HZ7.out HBG.out (sep0 _ _ (by decide)) (fun j p h => by simp at h)).mono ?_
  rintro e w8 ⟨rfl, vs1, s1, hg8, hv8, hh8, hm8, hs8, hb8, hx8⟩
  have HG8 := Aside0.mk hg8
  have HVS8 := Aside0.mk hv8
  have HH8 := Aside0.mk (show Held BPairs.dK 50 29 2 w8 B vs1 [(⟨Aa, pl.length, ca⟩, pl)] from hh8)
  have HQ8 := Aside0.mk (show Held BPairs.dK 50 29 3 w8 B vs1 [(s1, pl)] from hm8)
  have HSP8 := Aside0.mk hs8
  have HB8 := Aside0.mk (HB7.out.trans hb8)
  have HV8 := Aside0.mk (flat_R BPairs.flat HV7.out (ok' := fun _ => True) (fun _ _ => trivial) fun _ _ _ ho => hx8.row ho (by decide))
  have HS8 := Aside0.mk (flat_R BInts.flat HS7.out (ok' := fun _ => True) (fun _ _ => trivial) fun _ _ _ ho => hx8.row ho (by decide))
  have HM8 := Aside0.mk (flat_R (d := k28) (fun h => h) HM7.out (ok' := fun _ => True) (fun _ _ => trivial) fun _ _ _ ho => hx8.row ho (by decide))
  have HZ8 := Aside0.mk (Nat.le_trans HZ7.out hb8.size)
  clear hg8 hv8 hh8 hm8 hs8 hb8 hx8 HG7 HB7 HA7 HV7 HS7 HM7 HZ7
  go_wp2_with (fail)
  change Calls Try.prog 11 #[.pointer (some ⟨g, 0, none⟩), encS ⟨Ab, pl.length, cb⟩] w8 _
  with_reducible refine (BPairs.add_any w8 g B vs1 [(⟨Aa, pl.length, ca⟩, pl)] [(s1, pl)] ⟨Ab, pl.length, cb⟩ pl HG8.out HH8.out HQ8.out rfl (by simp) HV8.out (by omega) HZ8.out HBG.out HSP8.out (fun j p h => by
    cases j with
    | zero => simp only [List.getElem?_cons_zero, Option.some.injEq] at h; subst h; rw [ownS', ownS']; exact HAB.out
    | succ j => simp at h)).mono ?_
  rintro e w9 ⟨rfl, vs2, s2, hg9, hv9, hh9, hm9, hs9, hb9, hx9⟩
  have HG9 := Aside0.mk hg9
  have HVS9 := Aside0.mk (show ∀ j, j ≠ 2 → j ≠ 3 → vs2[j]? = vs0[j]? from fun j h1 h2 => (hv9 j h1 h2).trans (HVS8.out j h1 h2))
  have HH9 := Aside0.mk (show Held BPairs.dK 50 29 2 w9 B vs2 [(⟨Aa, pl.length, ca⟩, pl), (⟨Ab, pl.length, cb⟩, pl)] from hh9)
  have HQ9 := Aside0.mk (show Held BPairs.dK 50 29 3 w9 B vs2 [(s1, pl), (s2, pl)] from hm9)
  have HB9 := Aside0.mk (HB8.out.trans hb9)
  have HS9 := Aside0.mk (flat_R BInts.flat HS8.out (ok' := fun _ => True) (fun _ _ => trivial) fun _ _ _ ho => hx9.row ho (by decide))
  have HM9 := Aside0.mk (flat_R (d := k28) (fun h => h) HM8.out (ok' := fun _ => True) (fun _ _ => trivial) fun _ _ _ ho => hx9.row ho (by decide))
  have HZ9 := Aside0.mk (Nat.le_trans HZ8.out hb9.size)
  clear hg9 hv9 hh9 hm9 hs9 hb9 hx9 HG8 HB8 HH8 HQ8 HSP8 HV8 HS8 HM8 HZ8 HVS8
  go_wp2_with (fail)
  change Calls Try.prog 12 #[.pointer (some ⟨g, 0, none⟩), encS ⟨As, d.length, cs⟩] w9 _
  with_reducible refine (BInts.add_any w9 g B vs2 [] [] ⟨As, d.length, cs⟩ (d.map fun i : Nat => (i : Int)) HG9.out ((held0 _ _ _ _ _ _ (by decide)).cells (HVS9.out 0 (by decide) (by decide))) ((held0 _ _ _ _ _ _ (by decide)).cells (HVS9.out 1 (by decide) (by decide))) rfl (by decide) HS9.out (by rw [List.length_map, HDL.out]; omega) HZ9.out HBG.out (sepNil 0 ((HVS9.out 1 (by decide) (by decide)).trans (vs0_at 1 (by decide)))) (fun j p h => by simp at h)).mono ?_
  rintro e w10 ⟨rfl, vs3, s3, hg10, hv10, hh10, hm10, hs10, hb10, hx10⟩
  have HG10 := Aside0.mk hg10
  have HVS10 := Aside0.mk (show ∀ j, j ≠ 0 → j ≠ 1 → j ≠ 2 → j ≠ 3 → vs3[j]? = vs0[j]? from fun j h1 h2 h3 h4 => (hv10 j h1 h2).trans (HVS9.out j h3 h4))
  have HI10 := Aside0.mk (show Held BInts.dK 3 31 0 w10 B vs3 [(⟨As, d.length, cs⟩, d.map fun i : Nat => (i : Int))] from hh10)
  have HJ10 := Aside0.mk (show Held BInts.dK 3 31 1 w10 B vs3 [(s3, d.map fun i : Nat => (i : Int))] from hm10)
  have HH10 := Aside0.mk ((HH9.out.kx BPairs.flat hx10 (by decide) (by decide)).cells (hv10 2 (by decide) (by decide)))
  have HQ10 := Aside0.mk ((HQ9.out.kx BPairs.flat hx10 (by decide) (by decide)).cells (hv10 3 (by decide) (by decide)))
  have HB10 := Aside0.mk (HB9.out.trans hb10)
  have HM10 := Aside0.mk (flat_R (d := k28) (fun h => h) HM9.out (ok' := fun _ => True) (fun _ _ => trivial) fun _ _ _ ho => hx10.row ho (by decide))
  have HZ10 := Aside0.mk (Nat.le_trans HZ9.out hb10.size)
  clear hg10 hv10 hh10 hm10 hs10 hb10 hx10 HG9 HB9 HH9 HQ9 HS9 HM9 HZ9 HVS9
  have hmm := @run_makeMap Try.prog
  go_wp2_with (fail)
  clear hmm
  obtain ⟨mb, hmb⟩ : ∃ mb, mb = w10.heap.size := ⟨_, rfl⟩
  have M0 := Aside0.mk (show IsMap (Value.int .i64) Value.bool wfI (w10.alloc (.map #[] 0)) mb (seenF d 0) from by rw [hmb]; exact (IsMap.made w10).congr (fun n => by unfold seenF; simp))
  have HMB := Aside0.mk (show B ≤ mb from by rw [hmb]; exact HZ10.out)
  have HGR := Aside0.mk (World.grownBy_alloc w10 (.map #[] 0) (some mb))
  have HMB2 := Aside0.mk (show w10.heap.size ≤ mb by omega)
  have HIS := Aside0.mk (show (Kd.int .i64).C w10 As n (d.map fun i : Nat => (i : Int)) by
    have h := Kd.R_reads' (A := As) (n := d.length) (c := cs) (HI10.out.own 0 _ rfl)
    rw [← h.1, HDL.out] at h
    exact h.2.2)
  rw [HDL.out, ← hmb]
  generalize w10.alloc (.map #[] 0) = w11 at *
  have HDN := Aside0.mk (show d.Nodup from HPM.out.nodup_iff.2 List.nodup_range)
  have HDM := Aside0.mk (show ∀ x, x ∈ d → x < n from fun x hx => by have h := HPM.out.mem_iff.1 hx; rwa [List.mem_range] at h)
  clear hmb
  go_loopg [49] n (fun kx v49 wr => ∃ i : Nat, v49 = .int .i64 i ∧ Aside0 (i + kx = n) ∧ Aside0 (IsMap (Value.int .i64) Value.bool wfI wr mb (seenF d i)) ∧ Aside0 (w10.grownBy wr (some mb)))
  case atStart => exact ⟨0, rfl, ⟨by omega⟩, M0, HGR⟩
  case round =>
    clear M0 HGR
    obtain ⟨i, rfl, HK, HMM, HGR⟩ := hrel
    cases gk with
    | zero =>
      have hk : i = n := by have := HK.out; omega
      subst hk
      have f1 : decide ((i : Int) < (i : Int)) = false := decide_eq_false (by omega)
      have f2 : decide (i < i) = false := decide_eq_false (by omega)
      have old : ∀ k, k < w10.heap.size → wr.heap[k]? = w10.heap[k]? := fun k hk => HGR.out.block k hk (by intro e; injection e with e; have := HMB2.out; omega)
      have oldC : ∀ (k : Nat) (cs : Array Value) (t : TypeId), w10.heap[k]? = some (Obj.cells cs t (0, 0)) → wr.heap[k]? = some (Obj.cells cs t (0, 0)) := fun k cs t h => (old k (Array.getElem?_eq_some_iff.1 h).1).trans h
      have KG := Aside0.mk (oldC g _ _ HG10.out)
      have KH := Aside0.mk (HH10.out.step BPairs.flat (w1 := wr) fun k cs t _ h => oldC k cs t h)
      have KQ := Aside0.mk (HQ10.out.step BPairs.flat (w1 := wr) fun k cs t _ h => oldC k cs t h)
      have KI := Aside0.mk (HI10.out.step BInts.flat (w1 := wr) fun k cs t _ h => oldC k cs t h)
      have KJ := Aside0.mk (HJ10.out.step BInts.flat (w1 := wr) fun k cs t _ h => oldC k cs t h)
      have KB := Aside0.mk (show Below B w wr from pw_below_grown HB10.out _ HZ10.out HGR.out (fun k hk => by injection hk with hk; rw [← hk]; exact HMB.out))
      have KM := Aside0.mk (show k28.R 28 wr w.heap.size (fun _ => True) (.slice (some ⟨g3, 0, none⟩) (i + 1) c3) (l ++ [b77]) from R_beside (fun h => h) HM10.out HGR.out (.inr (by
        intro e
        injection e with e
        have h1 := Kd.R_lt HM10.out g3 rfl
        have h2 := HMB2.out
        have h3 : g3 = mb := e
        omega)) (fun _ _ => trivial))
      have KZ := Aside0.mk (show B ≤ wr.heap.size from Nat.le_trans HZ10.out HGR.out.size)
      have KL := Aside0.mk (show k28.C wr A i l from Kd.C_below HR.out (by have h := KB.out; rw [HBQ.out] at h; exact h))
      have KT := Aside0.mk (show k28.C wr (some ⟨g3, 0, none⟩) i l by
        have h := Kd.R_take KM.out (m := i) (by rw [HLN.out]; omega)
        rw [show (l ++ [b77]).take i = l by rw [HN.out]; simp] at h
        have h2 := (Kd.R_reads' h).2.2
        rw [← HN.out] at h2
        exact h2)
      have hc33 : i + 1 ≤ c3 := (Kd.R_reads' KM.out).2.1
      have hc34 := decide_eq_true hc33
      obtain ⟨adm, eM, m0, _⟩ := at_T28 (Kd.R_reads' KM.out).2.2 i (by rw [HLN.out]; omega)
      injection eM with eM
      subst eM
      rw [show at_ (l ++ [b77]) i = b77 by unfold at_; rw [HN.out]; simp [List.getD], add_plain] at m0
      have M77 := Aside0.mk (show wr.cell? ⟨g3, i * 4, none⟩ = some (.int .i64 (-77)) from m0)
      clear old oldC m0 HMM HGR HG10 HH10 HQ10 HI10 HJ10 HB10 HM10 HIS
      obtain ⟨wL, hwL⟩ : ∃ q, q = wr := ⟨_, rfl⟩
      subst hwL
      go_wp2_with (fail)
      clear f1 f2
      go_loopg [123] i (fun kx v123 w' => ∃ k : Nat, v123 = .int .i64 k ∧ Aside0 (k + kx = i) ∧ Aside0 (∃ q, w' = wL.drewN q))
      case atStart => exact ⟨0, rfl, ⟨by omega⟩, ⟨⟨0, rfl⟩⟩⟩
      case round =>
        obtain ⟨k, rfl, HK2, HW⟩ := hrel
        cases gk with
        | zero =>
          have hk : k = i := by have := HK2.out; omega
          subst hk
          have f1 : decide ((k : Int) < (k : Int)) = false := decide_eq_false (by omega)
          have f2 : decide (k < k) = false := decide_eq_false (by omega)
          have HBL := Aside0.mk (show Below wL.heap.size wL wr by obtain ⟨q, rfl⟩ := HW.out; exact pw_below_drewN (Below.refl _ _) _)
          have m1 : wr.cell? ⟨g3, k * 4, none⟩ = some (.int .i64 (-77)) := pw_cell_below HBL.out M77.out
          have hc35 : decide ((k : Int) + 1 ≤ (c3 : Int)) = true := decide_eq_true (by omega)
          have hc36 : ((k : Int) + 1 ≤ (c3 : Int)) = True := eq_true (by omega)
          have hc37 : (k + 1 ≤ c3) = True := eq_true hc33
          have j1 : ((k : Int) < (k : Int) + 1) = True := eq_true (by omega)
          have j2 : (k < k + 1) = True := eq_true (by omega)
          have j3 : (0 ≤ (k : Int)) = True := eq_true (by omega)
          have HRP := Aside0.mk (show Calls Try.prog 14 #[.slice A k cp] wr fun e w' => ∃ v, e = .returned v ∧ k50.R 50 w' wr.heap.size (fun q => wr.heap.size ≤ q) v pl ∧ Below wr.heap.size wr w' by
            have h := refPairs_any wr A cp l (by rw [← HN.out]; exact Kd.C_below KL.out HBL.out) (by rw [← HN.out]; omega)
            rw [← HN.out, ← HPL.out] at h
            exact h)
          go_wp2_with (fail)
          with_reducible refine (HRP.out).mono ?_
          rintro e w12 ⟨v, rfl, hR, hb⟩
          obtain ⟨Ar, cr, rfl⟩ := Kd.R_slice hR
          have HB12 := Aside0.mk (HBL.out.trans (hb.mono HBL.out.size))
          have HRR := Aside0.mk (Kd.R_reads' hR).2.2
          have HKA := Aside0.mk (show ∀ W, Below wL.heap.size wL W → BPairs.dK.C W Aa pl.length pl from fun W h => (Kd.R_reads' (A := Aa) (n := pl.length) (c := ca) ((KH.out.below BPairs.flat h).own 0 _ rfl)).2.2)
          have HKB := Aside0.mk (show ∀ W, Below wL.heap.size wL W → BPairs.dK.C W Ab pl.length pl from fun W h => (Kd.R_reads' (A := Ab) (n := pl.length) (c := cb) ((KH.out.below BPairs.flat h).own 1 _ rfl)).2.2)
          clear hR hb m1 hc35 hc36 hc37 j1 j2 j3 f1 f2
          go_wp2_with (fail)
          with_reducible refine (BPairs.same_n w12 Aa Ar ca cr pl.length pl rfl (HKA.out _ HB12.out) HRR.out (by omega)).mono ?_
          rintro e w13 ⟨rfl, hq⟩
          have HB13 := Aside0.mk (show Below wL.heap.size wL w13 by obtain ⟨q, rfl⟩ := hq; exact pw_below_drewN HB12.out _)
          clear hq
          go_wp2_with (fail)
          with_reducible refine (BPairs.same_n w13 Aa Ab ca cb pl.length pl rfl (HKA.out _ HB13.out) (HKB.out _ HB13.out) (by omega)).mono ?_
          rintro e w14 ⟨rfl, hq⟩
          have HB14 := Aside0.mk (show Below wL.heap.size wL w14 by obtain ⟨q, rfl⟩ := hq; exact pw_below_drewN HB13.out _)
          clear hq
          go_wp2_with (fail)
          have nilv : ∀ f, f ≠ 0 → f ≠ 1 → f ≠ 2 → f ≠ 3 → f < 14 → vs3[f]? = some (.slice none 0 0) := fun f h0 h1 h2 h3 h4 => (HVS10.out f h0 h1 h2 h3).trans (vs0_at f h4)
          with_reducible refine (apart_any w14 g B vs3 ((KX.below (X := []) HB14.out).block KG.out (by simp)) (Nat.le_trans KZ.out HB14.out.size) _ _ _ _ (KI.out.below BInts.flat HB14.out) (KJ.out.below BInts.flat HB14.out) rfl (KH.out.below BPairs.flat HB14.out) (KQ.out.below BPairs.flat HB14.out) rfl (nilv 4 (by decide) (by decide) (by decide) (by decide) (by decide)) (nilv 6 (by decide) (by decide) (by decide) (by decide) (by decide)) (nilv 8 (by decide) (by decide) (by decide) (by decide) (by decide)) (nilv 10 (by decide) (by decide) (by decide) (by decide) (by decide)) (nilv 12 (by decide) (by decide) (by decide) (by decide) (by decide))).mono ?_
          rintro e w15 ⟨rfl, hb15⟩
          have HB15 := Aside0.mk ((KB.out.trans (HB14.out.mono KZ.out)).trans hb15)
          clear hb15 nilv
          go_wp2_with (fail)
          go_ret
          refine ⟨by first | rfl | simp, ?_⟩
          rw [← HBQ.out]
          exact HB15.out
        | succ gk =>
          have hk : k < i := by have := HK2.out; omega
          obtain ⟨ad, rfl, x0, x1, x2, x3⟩ := at_T28 KL.out k hk
          obtain ⟨ad2, eT, y0, y1, y2, y3⟩ := at_T28 KT.out k hk
          injection eT with eT
          subst eT
          rw [add_plain] at y0 y1 y2 y3
          obtain ⟨bx, hbx⟩ : ∃ b, b = at_ l k := ⟨_, rfl⟩
          rw [← hbx] at x0 x1 x2 x3 y0 y1 y2 y3
          obtain ⟨b0, b1, b2, b3⟩ := bx
          have mv : ∀ {a : Addr} {u : Value}, wL.cell? a = some u → wr.cell? a = some u := fun {a u} h => by obtain ⟨q, rfl⟩ := HW.out; exact h
          replace x0 := mv x0
          replace x1 := mv x1
          replace x2 := mv x2
          replace x3 := mv x3
          replace y0 := mv y0
          replace y1 := mv y1
          replace y2 := mv y2
          replace y3 := mv y3
          have d1 : decide ((k : Int) < (i : Int)) = true := decide_eq_true (by omega)
          have d2 : decide (k < i) = true := decide_eq_true (by omega)
          have d3 : (k < i) = True := eq_true (by omega)
          have d4 : ((k : Int) < (i : Int)) = True := eq_true (by omega)
          have d5 : (0 ≤ (k : Int)) = True := eq_true (by omega)
          clear hbx mv
          go_wp2_with (fail)
          go_quiet (fail)
          go_wp2_with (fail)
          go_roundg gk
          case measure => omega
          case rel => exact ⟨k + 1, by first | rfl | go_num, ⟨by have := HK2.out; omega⟩, ⟨by obtain ⟨q, rfl⟩ := HW.out; exact ⟨_, World.drewN_drewN _ _ _⟩⟩⟩
    | succ gkA =>
      have hi : i < n := by have := HK.out; omega
      have hid : i < d.length := by rw [HDL.out]; exact hi
      obtain ⟨x, hx⟩ : ∃ x, x = d[i] := ⟨_, rfl⟩
      have hxn : x < n := by rw [hx]; exact HDM.out _ (List.getElem_mem hid)
      have cellK : ∀ {a : Addr} {u : Value}, w10.cell? a = some u → wr.cell? a = some u := fun {a u} h => by
        have hlt := World.block_lt_of_cell? w10 a h
        exact (World.cell?_of_block (HGR.out.block _ hlt (by intro e; injection e with e; have := HMB2.out; omega))).trans h
      obtain ⟨ad, eA, y0⟩ := Kd.at_int HIS.out (i : Int) (by omega) (by omega)
      subst eA
      have hrd : rd (d.map fun i : Nat => (i : Int)) (i : Int) = (x : Int) := by unfold rd; simp [hid, hx]
      rw [hrd, Int.toNat_natCast] at y0
      have z0 := cellK y0
      have hlb := Kd.C_below HR.out (show Below w.heap.size w w10 by rw [← HBQ.out]; exact HB10.out)
      obtain ⟨ab, eB, x0, _⟩ := at_T28 hlb x hxn
      subst eB
      have zx := cellK x0
      have hwf : wfI (x : Int) := wfI_small (by omega) (by omega)
      have hnew := seenF_new HDN.out hid
      rw [← hx] at hnew
      have hlk : ∀ q, (Instr.lookup 45 (.map (some mb)) (.int .i64 x) false).run Try.prog (wr.drewN q) = .ok (.bool false) (wr.drewN q) := by
        intro q
        have h := IsMap.look keysI (HMM.out.at (w' := wr.drewN q) rfl) Try.underlying45 (.bool false) (zeroB _) (x : Int) hwf
        rw [hnew] at h
        exact h
      have d1 : decide ((i : Int) < (n : Int)) = true := decide_eq_true (by omega)
      have d2 : decide (i < n) = true := decide_eq_true (by omega)
      have d3 : (i < n) = True := eq_true (by omega)
      have d4 : ((i : Int) < (n : Int)) = True := eq_true (by omega)
      have d5 : (0 ≤ (i : Int)) = True := eq_true (by omega)
      have e1 : decide ((x : Int) < 0) = false := decide_eq_false (by omega)
      have e2 : decide ((n : Int) ≤ (x : Int)) = false := decide_eq_false (by omega)
      have e22 : decide (n ≤ x) = false := decide_eq_false (by omega)
      have e3 : (x < n) = True := eq_true (by omega)
      have e4 : ((x : Int) < (n : Int)) = True := eq_true (by omega)
      have e5 : (0 ≤ (x : Int)) = True := eq_true (by omega)
      have HSN := Aside0.mk (seenF_snoc d i hid)
      rw [← hx] at HSN
      have HWF := Aside0.mk hwf
      by_cases hi0 : i = 0
      · have g1 : decide (0 < (i : Int)) = false := decide_eq_false (by omega)
        have g2 : decide (0 < i) = false := decide_eq_false (by omega)
        clear cellK y0 x0 hlb hnew hx hwf hrd hi0
        go_wp2_with (fail)
        go_quiet (fail)
        go_wp2_with (at_mapUpdate; go_must (refine wpList_mapUpdate_g keysI _ rfl _ _ _ 45 rfl 4 Try.underlying45 mb (seenF d i) (x : Int) true rfl rfl rfl (HMM.out.at (w' := wr.drewN nq) rfl) HWF.out ?_); intro w14 hm4 hg4; have M4 := Aside0.mk (hm4.congr HSN.out); have G4 := Aside0.mk ((HGR.out.trans (grown_of_below (pw_below_drewN (Below.refl _ _) nq) _)).trans hg4); clear hm4 hg4)
        go_roundg gkA
        case measure => omega
        case rel => exact ⟨i + 1, by first | rfl | go_num, ⟨by have := HK.out; omega⟩, M4, G4⟩
      · obtain ⟨j, rfl⟩ : ∃ j, i = j + 1 := ⟨i - 1, by omega⟩
        clear d1 d2 d3 d4 d5
        have d1 : decide ((j : Int) + 1 < (n : Int)) = true := decide_eq_true (by omega)
        have d2 : decide (j + 1 < n) = true := decide_eq_true (by omega)
        have d3 : (j + 1 < n) = True := eq_true (by omega)
        have d4 : ((j : Int) + 1 < (n : Int)) = True := eq_true (by omega)
        have d5 : (0 ≤ (j : Int) + 1) = True := eq_true (by omega)
        have d6 : ((j : Int) + 1).toNat = j + 1 := by omega
        rw [show ad.add (j + 1) = ⟨ad.block, ad.off + (j + 1), none⟩ from by simp [Addr.add]] at z0
        have g1 : decide (0 < (j : Int) + 1) = true := decide_eq_true (by omega)
        have hjd : j < d.length := by omega
        obtain ⟨px, hpx⟩ : ∃ px, px = d[j] := ⟨_, rfl⟩
        have hpn : px < n := by rw [hpx]; exact HDM.out _ (List.getElem_mem hjd)
        have hord := List.pairwise_iff_getElem.1 HPW.out j (j + 1) hjd hid (by omega)
        rw [← hx, ← hpx] at hord
        obtain ⟨ad', eA, y1⟩ := Kd.at_int HIS.out (j : Int) (by omega) (by omega)
        cases eA
        have hrd1 : rd (d.map fun i : Nat => (i : Int)) (j : Int) = (px : Int) := by unfold rd; simp [hjd, hpx]
        rw [hrd1, Int.toNat_natCast] at y1
        have z1 := cellK y1
        obtain ⟨ab', eB, x1, _⟩ := at_T28 hlb px hpn
        cases eB
        have zp := cellK x1
        obtain ⟨fx, hfx⟩ : ∃ q, q = (at_ l x).f0 := ⟨_, rfl⟩
        obtain ⟨fp, hfp⟩ : ∃ q, q = (at_ l px).f0 := ⟨_, rfl⟩
        rw [← hfx] at zx hord
        rw [← hfp] at zp hord
        have k3 : (0 ≤ (j : Int)) = True := eq_true (by omega)
        have k4 : ((j : Int) < (n : Int)) = True := eq_true (by omega)
        have k6 : (j < n) = True := eq_true (by omega)
        have p3 : (px < n) = True := eq_true (by omega)
        have p4 : ((px : Int) < (n : Int)) = True := eq_true (by omega)
        have p5 : (0 ≤ (px : Int)) = True := eq_true (by omega)
        by_cases hlt : fp < fx
        · have t1 : decide (fx < fp) = false := decide_eq_false (by omega)
          have t2 : (fp == fx) = false := beq_eq_false_iff_ne.2 (by omega)
          clear cellK y0 x0 hlb hnew hx hwf hrd hi0 hord hlt hfx hfp hpx y1 x1 hrd1
          go_wp2_with (fail)
          go_quiet (fail)
          go_wp2_with (at_mapUpdate; go_must (refine wpList_mapUpdate_g keysI _ rfl _ _ _ 45 rfl 4 Try.underlying45 mb (seenF d (j + 1)) (x : Int) true rfl rfl rfl (HMM.out.at (w' := wr.drewN nq) rfl) HWF.out ?_); intro w14 hm4 hg4; have M4 := Aside0.mk (hm4.congr HSN.out); have G4 := Aside0.mk ((HGR.out.trans (grown_of_below (pw_below_drewN (Below.refl _ _) nq) _)).trans hg4); clear hm4 hg4)
          go_roundg gkA
          case measure => omega
          case rel => exact ⟨j + 1 + 1, by first | rfl | go_num, ⟨by have := HK.out; omega⟩, M4, G4⟩
        · have t1 : decide (fx < fp) = false := decide_eq_false (by omega)
          have t2 : (fp == fx) = true := beq_iff_eq.2 (by omega)
          have t3 : decide ((x : Int) < (px : Int)) = false := decide_eq_false (by omega)
          have t4 : decide (x < px) = false := decide_eq_false (by omega)
          clear cellK y0 x0 hlb hnew hx hwf hrd hi0 hord hlt hfx hfp hpx y1 x1 hrd1
          go_wp2_with (fail)
          go_quiet (fail)
          go_wp2_with (at_mapUpdate; go_must (refine wpList_mapUpdate_g keysI _ rfl _ _ _ 45 rfl 4 Try.underlying45 mb (seenF d (j + 1)) (x : Int) true rfl rfl rfl (HMM.out.at (w' := wr.drewN nq) rfl) HWF.out ?_); intro w14 hm4 hg4; have M4 := Aside0.mk (hm4.congr HSN.out); have G4 := Aside0.mk ((HGR.out.trans (grown_of_below (pw_below_drewN (Below.refl _ _) nq) _)).trans hg4); clear hm4 hg4)
          go_roundg gkA
          case measure => omega
          case rel => exact ⟨j + 1 + 1, by first | rfl | go_num, ⟨by have := HK.out; omega⟩, M4, G4⟩
set_option maxHeartbeats 8000000 in
set_option maxRecDepth 100000 in
theorem tells_any (w : World) (A : Option Addr) (cp : Nat) (l : List Bx) (hr : Kd.C k28 w A l.length l) (hc : l.length ≤ cp) :
    Calls Try.prog 3 #[.slice A l.length cp] w fun e w' => e = .returned (.bool true) ∧ Below w.heap.size w w' := by
  by_cases hl : l.length ≤ 50
  · exact tells_in w A cp l hr hc hl
  · have HAL := Aside0.mk alive_any
    obtain ⟨n, hn⟩ : ∃ n, n = l.length := ⟨_, rfl⟩
    rw [← hn] at hl ⊢
    have d1 : decide (50 < (n : Int)) = true := decide_eq_true (by omega)
    have d2 : decide (50 < n) = true := decide_eq_true (by omega)
    clear hr hc hl hn
    go_enter Try.func3, Try.ntmps3
    go_wp2_with (fail)
    with_reducible refine (HAL.out _).mono ?_
    rintro e w1 ⟨rfl, hb⟩
    have HB := Aside0.mk hb
    clear hb
    go_wp2_with (fail)
    go_ret
    exact ⟨rfl, HB.out⟩
end Go.Proofs.Ytfblelkegebdiaa.V

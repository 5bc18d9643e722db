/- An entry that came in, opened: a list of steps, a bool, six numbers. -/
import Derived.Test.YtbjknbfagadhfaaQTh
import Derived.Test.YtbjknbfagadhfaaQPAllx0
import Derived.DataReads
import Derived.DataElems
namespace Go.Proofs.Ytbjknbfagadhfaa.Th
open Go.ChangeShapes Go.WideShapes Go.ChangeAt Go.RowKit Go.Proofs.YtbjknbfagadhfaaW.PrintWords
open Go.Proofs.Ytbjknbfagadhfaa.PAll (S73 k73 k73_mk)
set_option linter.unusedVariables false
set_option linter.unusedSimpArgs false

theorem listed {α : Type} {P : Nat → α → Prop} (n : Nat) (h : ∀ i, i < n → ∃ p, P i p) : ∃ l : List α, l.length = n ∧ ∀ i p, l[i]? = some p → P i p := by
  induction n with
  | zero => exact ⟨[], rfl, fun i p hi => by simp at hi⟩
  | succ n ih =>
    obtain ⟨l, hl, hp⟩ := ih (fun i hi => h i (by omega))
    obtain ⟨p, hpn⟩ := h n (by omega)
    refine ⟨l ++ [p], by rw [List.length_append, hl]; rfl, fun i q hq => ?_⟩
    by_cases hi : i < l.length
    · rw [List.getElem?_append_left hi] at hq; exact hp i q hq
    · rw [List.getElem?_append_right (by omega)] at hq
      by_cases h0 : i - l.length = 0
      · rw [h0] at hq
        simp at hq
        subst hq
        have : i = n := by omega
        rw [this]; exact hpn
      · rw [List.getElem?_eq_none (by simp; omega)] at hq; cases hq

theorem list3 {cs : List Value} (h : cs.length = 3) : ∃ c0 c1 c2, cs = [c0, c1, c2] := by
  match cs, h with
  | [c0, c1, c2], _ => exact ⟨c0, c1, c2, rfl⟩
section
variable {H : Type} {enc : TypeId × Value → H} {W : World} {base : Nat} {spare : Nat → Bool} {held : Bool}
theorem cells9 : Try.prog.cellsOf 9 = 1 := by kernel_rfl
theorem cells4 : Try.prog.cellsOf 4 = 1 := by kernel_rfl
theorem cells53 : Try.prog.cellsOf 53 = 1 := by kernel_rfl
theorem cells55 : Try.prog.cellsOf 55 = 8 := by kernel_rfl
theorem cells73 : Try.prog.cellsOf 73 = 3 := by kernel_rfl

theorem step_of {n : Nat} {cs : List Value} {y : Option (DataW H × List MemPlace)} (h : DataW.trod enc Try.prog W base spare held n 73 cs = y) (hy : y.isSome = true) : ∃ x : S73, cs = [.int .i64 x.f0, .string x.f1, .string x.f2] := by
  obtain ⟨x, rfl⟩ := Option.isSome_iff_exists.1 hy
  obtain ⟨xs, m, _, _, hcl, hlen, hx⟩ := DataW.trod_struct Try.underlying73 h
  obtain ⟨c0, c1, c2, rfl⟩ := list3 (hcl.trans cells73)
  have h0 := hx 0 _ rfl
  change DataW.trod enc Try.prog W base spare held m 3 (([c0, c1, c2].drop 0).take (Try.prog.cellsOf 3)) = xs[0]? at h0
  rw [cells3] at h0
  have h1 := hx 1 _ rfl
  change DataW.trod enc Try.prog W base spare held m 9 (([c0, c1, c2].drop 1).take (Try.prog.cellsOf 9)) = xs[1]? at h1
  rw [cells9] at h1
  have h2 := hx 2 _ rfl
  change DataW.trod enc Try.prog W base spare held m 9 (([c0, c1, c2].drop 2).take (Try.prog.cellsOf 9)) = xs[2]? at h2
  rw [cells9] at h2
  have hl : xs.length = 3 := hlen
  simp only [List.drop_zero, List.drop_succ_cons, List.take_succ_cons, List.take_zero] at h0 h1 h2
  obtain ⟨a0, rfl, _⟩ := int_of Try.underlying3 h0 (by simp [hl])
  obtain ⟨z1, e1⟩ := Option.isSome_iff_exists.1 (show xs[1]?.isSome = true by simp [hl])
  obtain ⟨z2, e2⟩ := Option.isSome_iff_exists.1 (show xs[2]?.isSome = true by simp [hl])
  obtain ⟨s1, g1, _⟩ := DataW.trod_string Try.underlying9 (h1.trans e1)
  obtain ⟨s2, g2, _⟩ := DataW.trod_string Try.underlying9 (h2.trans e2)
  simp at g1 g2
  subst g1 g2
  exact ⟨⟨a0, s1, s2⟩, rfl⟩

theorem steps_of {n : Nat} {c : Value} {y : Option (DataW H × List MemPlace)} (h : DataW.trod enc Try.prog W base spare held n 53 [c] = y) (hy : y.isSome = true) : ∃ (A : Option Addr) (cp : Nat) (l : List S73), c = .slice A l.length cp ∧ Kd.C k73 W A l.length l ∧ l.length ≤ cp ∧ l.length ≤ maxLen := by
  obtain ⟨x, rfl⟩ := Option.isSome_iff_exists.1 hy
  rcases DataW.trod_slice Try.underlying53 h with ⟨hcs, _⟩ | ⟨a, len, cap, elems, rest, m, _, hcs, _, hb, hl, hm, hlen, hel, _⟩
  · simp at hcs
    subst hcs
    exact ⟨none, 0, [], rfl, ⟨rfl, by decide, fun h => absurd h (by decide)⟩, Nat.le_refl _, by decide⟩
  · simp at hcs
    subst hcs
    rw [cells73] at hel
    obtain ⟨l, hll, hp⟩ := listed (P := fun i (p : S73) => ∀ j u, [(.int .i64 p.f0 : Value), .string p.f1, .string p.f2][j]? = some u → W.cell? (a.add (i * 3 + j)) = some u) len (fun i hi => by
      have h1 := hel i hi
      have h2 : elems[i]?.isSome = true := by rw [List.getElem?_eq_getElem (by omega)]; rfl
      rw [← h1] at h2
      rcases hc : W.cells? base (a.add (i * 3)) 3 with _ | cs
      · rw [hc] at h2; simp at h2
      · rw [hc, Option.bind_some] at h2
        obtain ⟨p, rfl⟩ := step_of rfl h2
        refine ⟨p, fun j u hu => ?_⟩
        have h3 := (World.cells?_some hc)
        have hj : j < 3 := by
          rcases Nat.lt_or_ge j 3 with h | h
          · exact h
          · rw [List.getElem?_eq_none (by simpa using h)] at hu; cases hu
        have h4 := h3.2.2 j hj
        rw [hu] at h4
        rw [← h4]
        exact congrArg W.cell? (Addr.add_add a (i * 3) j).symm)
    exact ⟨some a, cap, l, by rw [hll], ⟨rfl, by rw [hll]; exact Nat.le_trans hl hm, fun _ => ⟨a, rfl, fun j p hj => ⟨_, rfl, k73_mk W p, fun i u hu => hp j p hj i u hu⟩⟩⟩, by rw [hll]; exact hl, by rw [hll]; exact Nat.le_trans hl hm⟩

set_option maxRecDepth 100000 in
theorem entry_open {r : Reach} {b0 : Nat} {v : Value} {d : DataW H} {p : List MemPlace} (hv : Value.okWide Try.prog W r b0 55 v) (h : DataW.Trod enc Try.prog W base spare held 55 v d p) :
    ∃ (A : Option Addr) (c : Nat) (l : List S73) (t : Bool) (a2 a3 a4 a5 a6 a7 : Int), v = .agg #[.slice A l.length c, .bool t, .int .i64 a2, .int .i64 a3, .int .i64 a4, .int .i64 a5, .int .i64 a6, .int .i64 a7] ∧ Kd.C k73 W A l.length l ∧ l.length ≤ c ∧ l.length ≤ maxLen := by
  obtain ⟨cs, rfl, hsz⟩ := okWide_struct (P := Try.prog) (w := W) (r := r) (base := b0) (v := v) Try.underlying55 hv
  obtain ⟨c0, c1, c2, c3, c4, c5, c6, c7, hcs⟩ := list8 (cs := cs.toList) (Array.length_toList.trans (hsz.trans cells55))
  obtain ⟨fuel, hf⟩ := h
  obtain ⟨xs, n, _, _, _, hlen, hx⟩ := DataW.trod_struct Try.underlying55 hf
  have h0 := hx 0 _ rfl
  change DataW.trod enc Try.prog W base spare held n 53 ((cs.toList.drop 0).take (Try.prog.cellsOf 53)) = xs[0]? at h0
  rw [cells53] at h0
  have h1 := hx 1 _ rfl
  change DataW.trod enc Try.prog W base spare held n 4 ((cs.toList.drop 1).take (Try.prog.cellsOf 4)) = xs[1]? at h1
  rw [cells4] at h1
  have h2 := hx 2 _ rfl
  change DataW.trod enc Try.prog W base spare held n 24 ((cs.toList.drop 2).take (Try.prog.cellsOf 24)) = xs[2]? at h2
  rw [cells24] at h2
  have h3 := hx 3 _ rfl
  change DataW.trod enc Try.prog W base spare held n 24 ((cs.toList.drop 4).take (Try.prog.cellsOf 24)) = xs[3]? at h3
  rw [cells24] at h3
  have h4 := hx 4 _ rfl
  change DataW.trod enc Try.prog W base spare held n 3 ((cs.toList.drop 6).take (Try.prog.cellsOf 3)) = xs[4]? at h4
  rw [cells3] at h4
  have h5 := hx 5 _ rfl
  change DataW.trod enc Try.prog W base spare held n 3 ((cs.toList.drop 7).take (Try.prog.cellsOf 3)) = xs[5]? at h5
  rw [cells3] at h5
  have hl : xs.length = 6 := hlen
  simp only [hcs, List.drop_zero, List.drop_succ_cons, List.take_succ_cons, List.take_zero] at h0 h1 h2 h3 h4 h5
  obtain ⟨A, cp, l, rfl, hc, hcap, hm⟩ := steps_of h0 (by simp [hl])
  obtain ⟨z1, e1⟩ := Option.isSome_iff_exists.1 (show xs[1]?.isSome = true by simp [hl])
  obtain ⟨t, g1, _⟩ := DataW.trod_bool Try.underlying4 (h1.trans e1)
  simp at g1
  subst g1
  obtain ⟨a2, a3, rfl, rfl, _, _⟩ := vec_of h2 (by simp [hl])
  obtain ⟨a4, a5, rfl, rfl, _, _⟩ := vec_of h3 (by simp [hl])
  obtain ⟨a6, rfl, _⟩ := int_of Try.underlying3 h4 (by simp [hl])
  obtain ⟨a7, rfl, _⟩ := int_of Try.underlying3 h5 (by simp [hl])
  exact ⟨A, cp, l, t, a2, a3, a4, a5, a6, a7, by rw [Value.agg.injEq]; exact Array.toList_inj.1 hcs, hc, hcap, hm⟩
end
end Go.Proofs.Ytbjknbfagadhfaa.Th

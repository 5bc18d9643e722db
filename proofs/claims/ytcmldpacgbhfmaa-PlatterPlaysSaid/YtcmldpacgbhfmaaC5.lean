/- slices.Clone of a list of stores (the shelf's law, laid at this instance), and of a list of strings: rows of the call's own. -/
import Derived.Test.YtcmldpacgbhfmaaP10
import Derived.Test.YtcmldpacgbhfmaaShelf
namespace Go.Proofs
def Try.laysSlE041_f35_ren : Go.Shelf.Ren := ⟨fun | 41 => 35 | n => n, fun | 22 => 60 | 23 => 65 | 4 => 4 | n => n, fun | n => n⟩
theorem Try.laysSlE041_f35 : Go.Proofs.SlLaysE0.n41 Try.prog Try.laysSlE041_f35_ren := {
  mixed := by kernel_rfl
  f41 := ⟨Try.f35.name, by decide, Try.func35.trans (congrArg some (by kernel_rfl))⟩
  t4 := Try.underlying4
  a4 := Try.isAgg4
  z4 := Try.sizeOf4
  v4 := Try.zeroValue4
  t22 := Try.underlying60
  a22 := Try.isAgg60
  z22 := Try.sizeOf60
  v22 := Try.zeroValue60 }
end Go.Proofs
namespace Go.Proofs.Ytcmldpacgbhfmaa.V
open Go.RowKit Go.Proofs.YtcmldpacgbhfmaaW.PrintWords Go.Proofs.YtcmldpacgbhfmaaW.PrintLast Go.Proofs.YtcmldpacgbhfmaaW.PrintMore
set_option linter.unusedVariables false
set_option linter.unusedSimpArgs false

theorem size65 : ∀ w, (Go.sizeOf 65).run Try.prog w = .ok 2 w := fun w => by kernel_rfl
theorem i65 : ∃ i, Try.prog.info? 65 = some i ∧ i.zero = some (.agg #[(.int .i64 0), (.string ⟨#[]⟩)]) ∧ i.size = 2 ∧ i.bytes = 24 := by
  have e := info65
  cases h : Try.prog.info? 65 with
  | none => rw [h] at e; cases e
  | some i =>
    rw [h] at e
    simp at e
    exact ⟨i, rfl, e.1, e.2.1, e.2.2⟩
theorem M65 {w : World} {base : Nat} {ok : Nat → Prop} {x : S65} {cs : List Value} (h : k65.M w base ok x cs) : cs = [.int .i64 x.f0, .string x.f1] := by
  obtain ⟨a, b, rfl, rfl, rfl⟩ := h
  rfl
theorem clone65 {w : World} {base : Nat} {F : Nat → Prop} {v : Value} {xs : List S65} (h : Kd.R k65 65 w base F v xs) (hl : xs.length ≤ 1000000) :
    Calls Try.prog 35 #[v] w fun e w' => ∃ v', e = .returned v' ∧ Kd.R k65 65 w' w.heap.size (fun k => w.heap.size ≤ k) v' xs ∧ Below w.heap.size w w' := by
  obtain ⟨h0, inner, hown, hr⟩ := h
  obtain ⟨hlen, hnil | ⟨g, cap, cur, rfl, hg, hh, hcap, hmax, hsz, htk⟩⟩ := hown
  · obtain ⟨rfl, hx⟩ := hnil
    have hx0 : xs = [] := by first | exact hx | exact hx.1 | (exact List.eq_nil_of_length_eq_zero hx) | (exact List.eq_nil_of_length_eq_zero hx.1)
    subst hx0
    refine (Go.Proofs.AnyE.slices_Clone_nil Go.Proofs.Try.laysSlE041_f35 0 0 w).mono ?_
    rintro e w' ⟨rfl, rfl⟩
    exact ⟨_, rfl, Kd.R_nil _ _ _ _ _, Below.refl _ _⟩
  · obtain ⟨i0, hi, hz0, hz1, hz2⟩ := i65
    have e2 : k65.sz = 2 := rfl
    rw [e2] at hlen hsz htk
    refine (Go.Proofs.AnyE.slices_Clone Go.Proofs.Try.laysSlE041_f35 i0 _ 2 24 hi hz0 hz1 hz2 rfl (by decide) size65 g 0 xs.length cap inner w hlen (by unfold maxLen; omega) (by omega) ?_ ?_).mono ?_
    · intro j u hu
      rw [Nat.zero_add, blk_cell hh]
      have : (cur.toList.take (xs.length * 2))[j]? = some u := by rw [htk]; exact hu
      rw [List.getElem?_take] at this
      split at this
      · simpa using this
      · cases this
    · intro u hu
      obtain ⟨j, hj⟩ := List.getElem?_of_mem hu
      have hj2 : j < xs.length * 2 := by
        have := (List.getElem?_eq_some_iff.1 hj).1
        omega
      have hp := hr.2 (j / 2) _ (List.getElem?_eq_getElem (show j / 2 < xs.length by omega))
      have hc := M65 hp
      have hu2 : ((inner.drop (j / 2 * k65.sz)).take k65.sz)[j % 2]? = some u := by
        rw [e2, List.getElem?_take, if_pos (by omega), List.getElem?_drop, show j / 2 * 2 + j % 2 = j by omega]
        exact hj
      rw [hc] at hu2
      have := List.mem_of_getElem? hu2
      simp at this
      rcases this with rfl | rfl <;> rfl
    · rintro e w' ⟨v', rfl, ho, hne, hb⟩
      refine ⟨v', rfl, ⟨?_, inner, ho, hr.imp_ ?_⟩, hb⟩
      · intro k hk
        exact own_base ho k hk
      · intro x cs hx
        rw [M65 hx]
        exact k65_mkM _ _ _ _
theorem clone9 {w : World} {base : Nat} {F : Nat → Prop} {v : Value} {xs : List ByteArray} (h : Kd.R Kd.string 9 w base F v xs) (hl : xs.length ≤ 1000000) :
    Calls Try.prog 34 #[v] w fun e w' => ∃ v', e = .returned v' ∧ Kd.R Kd.string 9 w' w.heap.size (fun k => w.heap.size ≤ k) v' xs ∧ Below w.heap.size w w' := by
  have hown := Kd.own_of_R (enc := Value.string) h
  obtain ⟨hlen, hnil | ⟨g, cap, cur, rfl, hg, hh, hcap, hmax, hsz, htk⟩⟩ := hown
  · obtain ⟨rfl, hx⟩ := hnil
    have hx0 : xs = [] := by first | exact hx | exact hx.1 | (exact List.eq_nil_of_length_eq_zero hx) | (exact List.eq_nil_of_length_eq_zero hx.1)
    subst hx0
    refine (Go.Proofs.Try.slices_Clone_string_nil 0 0 w).mono ?_
    rintro e w' ⟨rfl, rfl⟩
    exact ⟨_, rfl, Kd.R_nil _ _ _ _ _, Below.refl _ _⟩
  · refine (Go.Proofs.Try.slices_Clone_string g 0 xs.length cap xs w (Nat.le_refl _) (by omega) ?_).mono ?_
    · intro j hj
      rw [Nat.zero_add, blk_cell hh]
      have : (cur.toList.take (xs.length * 1))[j]? = some (.string (xs.getD j ByteArray.empty)) := by rw [htk]; simp [encs, List.getD, hj]
      rw [List.getElem?_take] at this
      split at this
      · simpa using this
      · cases this
    · rintro e w' ⟨v', rfl, ho, hne, hb⟩
      rw [List.take_length] at ho
      exact ⟨v', rfl, Kd.R_of_own (enc := Value.string) ho (fun k hk => own_base ho k hk), hb⟩
end Go.Proofs.Ytcmldpacgbhfmaa.V

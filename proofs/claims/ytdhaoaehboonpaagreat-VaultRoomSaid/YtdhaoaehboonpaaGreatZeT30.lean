/- Of the texts that the row stands on, what it needs (part 30), put together by a program of this session. -/
import Derived.Maps.OwnOps
import Derived.Test.YtdhaoaehboonpaaGreatProg
import Derived.Test.YtdhaoaehboonpaaGreatZeT0
import Derived.Test.YtdhaoaehboonpaaGreatZeT1
import Derived.WalkKit
import Derived.Great.Walk
import Derived.StillTailTactics
import Derived.Test.YtdhaoaehboonpaaGreatZeT4
import Derived.Laws.IdiomCopy
import Derived.Deep.RegionWith
import Derived.Test.YtdhaoaehboonpaaGreatZeT29
import Derived.Test.YtdhaoaehboonpaaGreatZeT18
import Derived.Deep.RegionHeld3
import Derived.Deep.DeepMust
import Derived.Test.YtdhaoaehboonpaaGreatZeT24
section
namespace Go.Proofs.YtdhaoaehboonpaaGreat.VP
open Go Go.ChangeMaps Go.MapKept
open Go.Maps (Keyed)
set_option linter.unusedVariables false
set_option linter.unusedSimpArgs false
def IsLast (w : World) (b : Nat) (f : Int → Option ByteArray) : Prop :=
  ∃ es clock, w.heap[b]? = some (.map es clock) ∧
    (∀ e ∈ es.toList, ∃ n s, e.key = .int .i64 n ∧ (Lit.int .i64 n).wf = true ∧ e.val = .string s ∧ f n = some s) ∧
    (∀ n s, f n = some s → ∃ e ∈ es.toList, e.key = .int .i64 n) ∧
    es.toList.Pairwise (fun x y => x.key ≠ y.key)
def upd (f : Int → Option ByteArray) (n : Int) (s : ByteArray) : Int → Option ByteArray := fun m => if m = n then some s else f m
theorem upd_same (f : Int → Option ByteArray) (n : Int) (s : ByteArray) : upd f n s n = some s := if_pos rfl
theorem upd_ne (f : Int → Option ByteArray) {n m : Int} (s : ByteArray) (h : m ≠ n) : upd f n s m = f m := if_neg h
section
variable {P : Program} {t k e : TypeId} {w w' : World} {b : Nat} {f : Int → Option ByteArray}
theorem IsLast.at (h : IsLast w b f) (hb : w'.heap[b]? = w.heap[b]?) : IsLast w' b f := by
  obtain ⟨es, c, h1, h2⟩ := h
  exact ⟨es, c, hb.trans h1, h2⟩
theorem IsLast.lt (h : IsLast w b f) : b < w.heap.size := by
  obtain ⟨es, c, h1, _⟩ := h
  rcases Nat.lt_or_ge b w.heap.size with h | h
  · exact h
  · rw [Array.getElem?_eq_none h] at h1; cases h1
theorem IsLast.congr {g : Int → Option ByteArray} (h : IsLast w b f) (hg : ∀ n, g n = f n) : IsLast w b g := by
  obtain rfl : g = f := funext hg
  exact h
theorem IsLast.made (w : World) : IsLast (w.alloc (.map #[] 0)) w.heap.size (fun _ => none) := by
  exact ⟨#[], 0, (MapKept.heap_alloc w _).1, fun e he => by simp at he, fun n s h => by simp at h, List.Pairwise.nil⟩
theorem IsLast.look (h : IsLast w b f) (ht : P.underlying t = some (.map k e)) (hk : P.underlying k = some (.int .i64)) (hz : (zeroValue e).run P w = .ok (.string ⟨#[]⟩) w) (n : Int) (hn : (Lit.int .i64 n).wf = true) :
    (Instr.lookup t (.map (some b)) (.int .i64 n) true).run P w = .ok (.tuple #[.string ((f n).getD ⟨#[]⟩), .bool (f n).isSome]) w := by
  obtain ⟨es, c, hb, h1, h2, h3⟩ := h
  have K := Maps.int_keyed hk
  have hkey := Maps.keyOf_int_mk hk hn
  have hks : ∀ e ∈ es.toList, ∃ l, keyOf P k e.key = some l := fun e he => by
    obtain ⟨m, s, e1, e2, _⟩ := h1 e he
    exact ⟨_, by rw [e1]; exact Maps.keyOf_int_mk hk e2⟩
  rcases K.find w hkey es.toList hks with ⟨g1, g2⟩ | ⟨j, e0, g1, g2, g3⟩
  · have hf : f n = none := by
      cases hfn : f n with
      | none => rfl
      | some s => obtain ⟨e, he, he2⟩ := h2 n s hfn; exact absurd he2 (g2 e he)
    rw [hf]
    simp [Instr.lookup, run_underlying ht, MapKept.run_getObj_map hb, K.check w _ hkey, g1, hz, Result.andThen]
  · obtain ⟨m, s, e1, _, e3, e4⟩ := h1 e0 (List.mem_of_getElem? g2)
    rw [g3] at e1
    injection e1 with _ e1
    subst e1
    rw [e4]
    simp [Instr.lookup, run_underlying ht, MapKept.run_getObj_map hb, K.check w _ hkey, g1, e3, Result.andThen]
theorem IsLast.store (h : IsLast w b f) (ht : P.underlying t = some (.map k e)) (hk : P.underlying k = some (.int .i64)) (n : Int) (hn : (Lit.int .i64 n).wf = true) (s : ByteArray) :
    ∃ w', (Instr.mapUpdate t (.map (some b)) (.int .i64 n) (.string s)).run P w = .ok () w' ∧ IsLast w' b (upd f n s) ∧ w.grownBy w' (some b) := by
  obtain ⟨es, c, hb, h1, h2, h3⟩ := h
  have K := Maps.int_keyed hk
  have hkey := Maps.keyOf_int_mk hk hn
  have hks : ∀ e ∈ es.toList, ∃ l, keyOf P k e.key = some l := fun e he => by
    obtain ⟨m, s, e1, e2, _⟩ := h1 e he
    exact ⟨_, by rw [e1]; exact Maps.keyOf_int_mk hk e2⟩
  have grown : ∀ es' c', w.grownBy (setBlock w b (.map es' c')) (some b) := fun es' c' => ⟨rfl, rfl, rfl, by simp [setBlock], fun i _ hi => heap_setBlock_other hb _ (fun e => hi (by rw [e]))⟩
  rcases K.find w hkey es.toList hks with ⟨g1, g2⟩ | ⟨j, e0, g1, g2, g3⟩
  · refine ⟨setBlock w b (.map (es.push ⟨.int .i64 n, .string s, c⟩) (c + 1)), ?_, ⟨_, _, heap_setBlock_same hb _, ?_, ?_, ?_⟩, grown _ _⟩
    · simp [Instr.mapUpdate, run_underlying ht, MapKept.run_getObj_map hb, K.check w false hkey, g1, MapKept.run_setObj_map _ hb, Result.andThen, setBlock]
    · intro x hx
      simp only [Array.toList_push, List.mem_append, List.mem_singleton] at hx
      rcases hx with hx | rfl
      · obtain ⟨m, u, e1, e2, e3, e4⟩ := h1 x hx
        refine ⟨m, u, e1, e2, e3, ?_⟩
        rw [upd_ne _ _ (fun hm => g2 x hx (by rw [e1, hm]))]; exact e4
      · exact ⟨n, s, rfl, hn, rfl, upd_same _ _ _⟩
    · intro m u hm
      simp only [Array.toList_push, List.mem_append, List.mem_singleton]
      by_cases hmn : m = n
      · exact ⟨_, .inr rfl, by rw [hmn]⟩
      · rw [upd_ne _ _ hmn] at hm
        obtain ⟨x, hx, hx2⟩ := h2 m u hm
        exact ⟨x, .inl hx, hx2⟩
    · rw [Array.toList_push]
      refine List.pairwise_append.2 ⟨h3, List.pairwise_singleton _ _, fun x hx y hy => ?_⟩
      rw [List.mem_singleton] at hy
      subst hy
      exact g2 x hx
  · have hj : es[j]? = some e0 := by simpa using g2
    have hjl : j < es.size := (Array.getElem?_eq_some_iff.1 hj).1
    have hm : (es.modify j fun e => { e with key := .int .i64 n, val := .string s }).toList = es.toList.set j { e0 with key := .int .i64 n, val := .string s } := by
      rw [Array.toList_modify]
      apply List.ext_getElem?
      intro i
      rw [List.getElem?_modify, List.getElem?_set]
      by_cases hij : j = i
      · subst hij
        have : j < es.toList.length := by simpa using hjl
        rw [if_pos rfl, if_pos this, g2]; simp
      · rw [if_neg hij]; simp [hij]
    have hsk : (Instr.keyThatStays (((es[j]?).map (·.key)).getD (.int .i64 n)) (.int .i64 n)).run P w = .ok (.int .i64 n) w := by
      rw [hj]
      simp only [Option.map_some, Option.getD_some, g3]
      exact K.stays w hkey
    refine ⟨setBlock w b (.map (es.modify j fun e => { e with key := .int .i64 n, val := .string s }) c), ?_, ⟨_, _, heap_setBlock_same hb _, ?_, ?_, ?_⟩, grown _ _⟩
    · simp [Instr.mapUpdate, run_underlying ht, MapKept.run_getObj_map hb, K.check w false hkey, g1, hsk, MapKept.run_setObj_map _ hb, Result.andThen, setBlock]
    · intro x hx
      rw [hm] at hx
      obtain ⟨i, hi⟩ := List.getElem?_of_mem hx
      rw [List.getElem?_set] at hi
      by_cases hij : j = i
      · rw [if_pos hij] at hi
        split at hi
        · injection hi with hi
          subst hi
          exact ⟨n, s, rfl, hn, rfl, upd_same _ _ _⟩
        · cases hi
      · rw [if_neg hij] at hi
        obtain ⟨m, u, e1, e2, e3, e4⟩ := h1 x (List.mem_of_getElem? hi)
        refine ⟨m, u, e1, e2, e3, ?_⟩
        have hne : m ≠ n := by
          intro hmn
          have hp := List.pairwise_iff_getElem.1 h3
          have hil := (List.getElem?_eq_some_iff.1 hi)
          have hjl2 := (List.getElem?_eq_some_iff.1 g2)
          obtain ⟨hil, hie⟩ := hil
          obtain ⟨hjl2, hje⟩ := hjl2
          rcases Nat.lt_or_gt_of_ne hij with h | h
          · exact hp j i hjl2 hil h (by rw [hie, hje, e1, g3, hmn])
          · exact hp i j hil hjl2 h (by rw [hie, hje, e1, g3, hmn])
        rw [upd_ne _ _ hne]; exact e4
    · intro m u hmu
      rw [hm]
      by_cases hmn : m = n
      · subst hmn
        exact ⟨_, List.mem_of_getElem? (i := j) (by rw [List.getElem?_set, if_pos rfl, if_pos (by simpa using hjl)]), rfl⟩
      · rw [upd_ne _ _ hmn] at hmu
        obtain ⟨x, hx, hx2⟩ := h2 m u hmu
        obtain ⟨i, hi⟩ := List.getElem?_of_mem hx
        have hij : j ≠ i := by
          rintro rfl
          rw [g2] at hi
          injection hi with hi
          rw [← hi, g3] at hx2
          injection hx2 with _ hx2
          exact hmn hx2.symm
        exact ⟨x, List.mem_of_getElem? (i := i) (by rw [List.getElem?_set, if_neg hij]; exact hi), hx2⟩
    · rw [hm]
      refine List.pairwise_iff_getElem.2 fun i i2 hi hi2 hlt => ?_
      rw [List.length_set] at hi hi2
      have hp := List.pairwise_iff_getElem.1 h3
      obtain ⟨hjl2, hje⟩ := List.getElem?_eq_some_iff.1 g2
      rw [List.getElem_set, List.getElem_set]
      by_cases h4 : j = i
      · subst h4
        rw [if_pos rfl, if_neg (by omega)]
        have := hp j i2 hjl2 hi2 hlt
        rw [hje, g3] at this
        exact this
      · rw [if_neg h4]
        by_cases h5 : j = i2
        · subst h5
          rw [if_pos rfl]
          have := hp i j hi hjl2 hlt
          rw [hje, g3] at this
          exact this
        · rw [if_neg h5]
          exact hp i i2 hi hi2 hlt
theorem IsLast.clear (h : IsLast w b f) (ht : P.underlying t = some (.map k e)) (ty : TypeId) :
    ∃ w', (Builtin.clear_ #[t] ty #[.map (some b)]).run P w = .ok (.tuple #[]) w' ∧ IsLast w' b (fun _ => none) ∧ w.grownBy w' (some b) := by
  obtain ⟨es, c, hb, h1, h2, h3⟩ := h
  refine ⟨setBlock w b (.map #[] c), ?_, ⟨_, _, heap_setBlock_same hb _, fun x hx => by simp at hx, fun n s h => by simp at h, List.Pairwise.nil⟩, ⟨rfl, rfl, rfl, by simp [setBlock], fun i _ hi => heap_setBlock_other hb _ (fun e => hi (by rw [e]))⟩⟩
  simp [Builtin.clear_, run_underlying ht, MapKept.run_getObj_map hb, MapKept.run_setObj_map _ hb, Result.andThen, setBlock]
end
end Go.Proofs.YtdhaoaehboonpaaGreat.VP
end
section
namespace Go.Proofs.YtdhaoaehboonpaaGreat.VP
open Go.RowKit Go.Proofs.YtdhaoaehboonpaaGreatW.PrintWords Go.Proofs.YtdhaoaehboonpaaGreatW.PrintLast Go.Proofs.YtdhaoaehboonpaaGreatW.PrintMore
set_option linter.unusedVariables false
set_option linter.unusedSimpArgs false
structure S116 where
  f0 : Int
  f1 : ByteArray
def k116 : Kd S116 := Kd.iso (Kd.pair (Kd.int .i64) Kd.string) (fun x : S116 => (x.f0, x.f1))
theorem k116_mkM (w : World) (base : Nat) (ok : Nat → Prop) (x : S116) : k116.M w base ok x [.int .i64 x.f0, .string x.f1] := ⟨[.int .i64 x.f0], [.string x.f1], rfl, rfl, rfl⟩
theorem k116_open {w : World} {x : S116} {cs : List Value} (h : k116.K w x cs) : cs = [.int .i64 x.f0, .string x.f1] := by
  obtain ⟨_, _, rfl, rfl, rfl⟩ := h
  exact rfl
structure PS where
  safe : List ByteArray
  last : Int → Option ByteArray
  afl : List S116
  halts : Bool
  after : Int
  halted : Bool
def IsP (base : Nat) (F : Nat → Prop) (w : World) (g : Nat) (S : PS) : Prop :=
  ∃ v m B, w.heap[g]? = some (.cells #[v, .map (some m), B, .bool S.halts, .int .i64 S.after, .bool S.halted] 114 (0, 0)) ∧
    base ≤ g ∧ F g ∧ base ≤ m ∧ F m ∧ Kd.R Kd.string 9 w base F v S.safe ∧ Kd.R k116 116 w base F B S.afl ∧ IsLast w m S.last
section
variable {base : Nat} {F F' : Nat → Prop} {w w' : World} {g : Nat} {S : PS}
theorem IsP.mono (h : IsP base F w g S) (hF : ∀ k, F k → F' k) : IsP base F' w g S := by
  obtain ⟨v, m, B, h1, h2, h3, h4, h5, h6, h7, h8⟩ := h
  exact ⟨v, m, B, h1, h2, hF _ h3, h4, hF _ h5, Kd.R_mono h6 hF, Kd.R_mono h7 hF, h8⟩
theorem IsP.lt (h : IsP base F w g S) : g < w.heap.size := by
  obtain ⟨v, m, B, h1, _⟩ := h
  exact blk_lt h1
theorem IsP.step (h : IsP base F w g S) (hm : ∀ k, F k → k < w.heap.size → w'.heap[k]? = w.heap[k]?) : IsP base F w' g S := by
  obtain ⟨v, m, B, h1, h2, h3, h4, h5, h6, h7, h8⟩ := h
  exact ⟨v, m, B, (hm g h3 (blk_lt h1)).trans h1, h2, h3, h4, h5, Kd.R_step h6 hm, Kd.R_step h7 hm, h8.at (hm m h5 h8.lt)⟩
theorem IsP.below (h : IsP base F w g S) (hb : Below w.heap.size w w') : IsP base F w' g S := h.step (fun k _ hk => hb.block k hk)
theorem IsP.kept {T : Nat → Prop} (h : IsP base F w g S) (hk : Kept w w' T) (hn : ∀ k, F k → ¬ T k) : IsP base F w' g S := h.step (fun k hF hlt => hk.2 k hlt (hn k hF))
theorem IsP.cells (h : IsP base F w g S) : ∃ A c m B d, w.heap[g]? = some (.cells #[.slice A S.safe.length c, .map (some m), .slice B S.afl.length d, .bool S.halts, .int .i64 S.after, .bool S.halted] 114 (0, 0)) ∧
    base ≤ g ∧ F g ∧ base ≤ m ∧ F m ∧ Kd.R Kd.string 9 w base F (.slice A S.safe.length c) S.safe ∧ Kd.R k116 116 w base F (.slice B S.afl.length d) S.afl ∧ IsLast w m S.last := by
  obtain ⟨v, m, B, h1, h2, h3, h4, h5, h6, h7, h8⟩ := h
  obtain ⟨A, c, rfl⟩ := Kd.R_slice h6
  obtain ⟨B', d, rfl⟩ := Kd.R_slice h7
  exact ⟨A, c, m, B', d, h1, h2, h3, h4, h5, h6, h7, h8⟩
end
theorem cell62 {w : World} {g : Nat} {a b c d e f : Value} (h : w.heap[g]? = some (.cells #[a, b, c, d, e, f] 114 (0, 0))) :
    w.cell? ⟨g, 0, none⟩ = some a ∧ w.cell? ⟨g, 1, none⟩ = some b ∧ w.cell? ⟨g, 2, none⟩ = some c ∧ w.cell? ⟨g, 3, none⟩ = some d ∧ w.cell? ⟨g, 4, none⟩ = some e ∧ w.cell? ⟨g, 5, none⟩ = some f :=
  ⟨(blk_cell h 0).trans rfl, (blk_cell h 1).trans rfl, (blk_cell h 2).trans rfl, (blk_cell h 3).trans rfl, (blk_cell h 4).trans rfl, (blk_cell h 5).trans rfl⟩
set_option maxHeartbeats 8000000 in
set_option maxRecDepth 100000 in
theorem halted_any {base : Nat} {F : Nat → Prop} {w : World} {g : Nat} {S : PS} (h : IsP base F w g S) :
    Calls Tryz.prog 25 #[.pointer (some ⟨g, 0, none⟩)] w fun e w' => e = .returned (.bool S.halted) ∧ Below w.heap.size w w' := by
  obtain ⟨A, c, m, B, d, h1, _⟩ := h.cells
  obtain ⟨c0, c1, c2, c3, c4, c5⟩ := cell62 h1
  have HB := Aside0.mk (Below.refl w.heap.size w)
  go_enter Tryz.func25, Tryz.ntmps25
  go_wp2
  go_ret
  exact ⟨by first | rfl | simp, by repeat (first | (with_reducible first | exact HB.out | apply below_alloc | apply pw_below_drewN | apply below_drew1) | exact HB.out)⟩
def mayE (S : PS) (n : Int) : Int := if S.halted = true then 7 else if n < 0 then 6 else if (S.safe.length : Int) ≤ n then 6 else 0
set_option maxHeartbeats 8000000 in
set_option maxRecDepth 100000 in
theorem may_any {base : Nat} {F : Nat → Prop} {w : World} {g : Nat} {S : PS} (h : IsP base F w g S) (n : Int) :
    Calls Tryz.prog 54 #[.pointer (some ⟨g, 0, none⟩), .int .i64 n] w fun e w' => e = .returned (.int .i64 (mayE S n)) ∧ Below w.heap.size w w' := by
  have HP := Aside0.mk h
  have HB := Aside0.mk (Below.refl w.heap.size w)
  obtain ⟨A, c, m, B, d, h1, _⟩ := h.cells
  have H1 := Aside0.mk h1
  unfold mayE
  cases hh : S.halted with
  | true =>
    go_enter Tryz.func54, Tryz.ntmps54
    go_wp2_with (first | (go_at_call 25; (with_reducible refine (halted_any HP.out).mono ?_); rintro e w1 ⟨rfl, hb⟩; rw [hh]; have n0_ := Aside0.mk (below_step (by repeat (first | (with_reducible first | exact HB.out | apply below_alloc | apply pw_below_drewN | apply below_drew1) | exact HB.out)) hb); clear HB; have HB := n0_; clear n0_))
    go_ret
    exact ⟨by first | rfl | simp, by repeat (first | (with_reducible first | exact HB.out | apply below_alloc | apply pw_below_drewN | apply below_drew1) | exact HB.out)⟩
  | false =>
    by_cases hn : n < 0
    · have hn1 := decide_eq_true hn
      simp only [Bool.false_eq_true, if_false, if_pos hn]
      clear hn
      go_enter Tryz.func54, Tryz.ntmps54
      go_wp2_with (first | (go_at_call 25; (with_reducible refine (halted_any HP.out).mono ?_); rintro e w1 ⟨rfl, hb⟩; rw [hh]; have c0 := (cell62 ((hb.block g (blk_lt H1.out)).trans H1.out)).1; have n0_ := Aside0.mk (below_step (by repeat (first | (with_reducible first | exact HB.out | apply below_alloc | apply pw_below_drewN | apply below_drew1) | exact HB.out)) hb); clear HB; have HB := n0_; clear n0_))
      go_ret
      exact ⟨by first | rfl | simp, by repeat (first | (with_reducible first | exact HB.out | apply below_alloc | apply pw_below_drewN | apply below_drew1) | exact HB.out)⟩
    · have hn1 := decide_eq_false hn
      by_cases hl : (S.safe.length : Int) ≤ n
      · have hl1 := decide_eq_true hl
        simp only [Bool.false_eq_true, if_false, if_neg hn, if_pos hl]
        clear hn hl
        go_enter Tryz.func54, Tryz.ntmps54
        go_wp2_with (first | (go_at_call 25; (with_reducible refine (halted_any HP.out).mono ?_); rintro e w1 ⟨rfl, hb⟩; rw [hh]; have c0 := (cell62 ((hb.block g (blk_lt H1.out)).trans H1.out)).1; have n0_ := Aside0.mk (below_step (by repeat (first | (with_reducible first | exact HB.out | apply below_alloc | apply pw_below_drewN | apply below_drew1) | exact HB.out)) hb); clear HB; have HB := n0_; clear n0_))
        go_ret
        exact ⟨by first | rfl | simp, by repeat (first | (with_reducible first | exact HB.out | apply below_alloc | apply pw_below_drewN | apply below_drew1) | exact HB.out)⟩
      · have hl1 := decide_eq_false hl
        simp only [Bool.false_eq_true, if_false, if_neg hn, if_neg hl]
        clear hn hl
        go_enter Tryz.func54, Tryz.ntmps54
        go_wp2_with (first | (go_at_call 25; (with_reducible refine (halted_any HP.out).mono ?_); rintro e w1 ⟨rfl, hb⟩; rw [hh]; have c0 := (cell62 ((hb.block g (blk_lt H1.out)).trans H1.out)).1; have n0_ := Aside0.mk (below_step (by repeat (first | (with_reducible first | exact HB.out | apply below_alloc | apply pw_below_drewN | apply below_drew1) | exact HB.out)) hb); clear HB; have HB := n0_; clear n0_))
        go_ret
        exact ⟨by first | rfl | simp, by repeat (first | (with_reducible first | exact HB.out | apply below_alloc | apply pw_below_drewN | apply below_drew1) | exact HB.out)⟩
set_option maxHeartbeats 8000000 in
set_option maxRecDepth 100000 in
theorem pages_any {base : Nat} {F : Nat → Prop} {w : World} {g : Nat} {S : PS} (h : IsP base F w g S) :
    Calls Tryz.prog 26 #[.pointer (some ⟨g, 0, none⟩)] w fun e w' => e = .returned (.int .i64 S.safe.length) ∧ Below w.heap.size w w' := by
  obtain ⟨A, c, m, B, d, h1, _⟩ := h.cells
  obtain ⟨c0, c1, c2, c3, c4, c5⟩ := cell62 h1
  have HB := Aside0.mk (Below.refl w.heap.size w)
  go_enter Tryz.func26, Tryz.ntmps26
  go_wp2
  go_ret
  exact ⟨by first | rfl | simp, by repeat (first | (with_reducible first | exact HB.out | apply below_alloc | apply pw_below_drewN | apply below_drew1) | exact HB.out)⟩
def loadE (S : PS) (n : Int) : ByteArray × Int := if mayE S n = 0 then ((S.last n).getD (S.safe.getD n.toNat ⟨#[]⟩), 0) else (⟨#[]⟩, mayE S n)
theorem mayE_ok {S : PS} {n : Int} (h : mayE S n = 0) : S.halted = false ∧ 0 ≤ n ∧ n < S.safe.length := by
  unfold mayE at h
  cases hh : S.halted with
  | true => rw [hh, if_pos rfl] at h; cases h
  | false =>
    rw [hh, if_neg (by decide)] at h
    by_cases h1 : n < 0
    · rw [if_pos h1] at h; cases h
    · rw [if_neg h1] at h
      by_cases h2 : (S.safe.length : Int) ≤ n
      · rw [if_pos h2] at h; cases h
      · exact ⟨rfl, by omega, by omega⟩
theorem mayE_cases (S : PS) (n : Int) : mayE S n = 0 ∨ mayE S n = 6 ∨ mayE S n = 7 := by
  unfold mayE
  split
  · exact .inr (.inr rfl)
  · split
    · exact .inr (.inl rfl)
    · split
      · exact .inr (.inl rfl)
      · exact .inl rfl
theorem zero9 (w : World) : (zeroValue 9).run Tryz.prog w = .ok (.string ⟨#[]⟩) w := by kernel_rfl
set_option maxHeartbeats 8000000 in
set_option maxRecDepth 100000 in
theorem load_any {base : Nat} {F : Nat → Prop} {w : World} {g : Nat} {S : PS} (h : IsP base F w g S) (n : Int) (wn : (Lit.int .i64 n).wf = true) :
    Calls Tryz.prog 39 #[.pointer (some ⟨g, 0, none⟩), .int .i64 n] w fun e w' => e = .returned (.tuple #[.string (loadE S n).1, .int .i64 (loadE S n).2]) ∧ Below w.heap.size w w' := by
  have HP := Aside0.mk h
  have HB := Aside0.mk (Below.refl w.heap.size w)
  obtain ⟨A, c, m, B, d, h1, _, _, _, _, h6, _, h8⟩ := h.cells
  have H1 := Aside0.mk h1
  have H6 := Aside0.mk h6
  have H8 := Aside0.mk h8
  clear h1 h6 h8
  unfold loadE
  by_cases hm : mayE S n = 0
  · obtain ⟨_, hn0, hn1⟩ := mayE_ok hm
    rw [if_pos hm]
    cases hl : S.last n with
    | some b =>
      go_enter Tryz.func39, Tryz.ntmps39
      go_wp2_with (first | (go_at_call 54; (with_reducible refine (may_any HP.out n).mono ?_); rintro e w1 ⟨rfl, hb⟩; rw [hm]; obtain ⟨c0, c1, c2, c3, c4, c5⟩ := cell62 ((hb.block g (blk_lt H1.out)).trans H1.out); have hlk := (H8.out.at (hb.block m H8.out.lt)).look Tryz.underlying111 Tryz.underlying3 (zero9 _) n wn; rw [hl] at hlk; have n0_ := Aside0.mk (below_step (by repeat (first | (with_reducible first | exact HB.out | apply below_alloc | apply pw_below_drewN | apply below_drew1) | exact HB.out)) hb); clear HB; have HB := n0_; clear n0_))
      go_ret2
      exact ⟨by first | rfl | simp, by repeat (first | (with_reducible first | exact HB.out | apply below_alloc | apply pw_below_drewN | apply below_drew1) | exact HB.out)⟩
    | none =>
      have hn2 := decide_eq_true hn0
      have hn3 := decide_eq_true hn1
      go_enter Tryz.func39, Tryz.ntmps39
      go_wp2_with (first | (go_at_call 54; (with_reducible refine (may_any HP.out n).mono ?_); rintro e w1 ⟨rfl, hb⟩; rw [hm]; obtain ⟨c0, c1, c2, c3, c4, c5⟩ := cell62 ((hb.block g (blk_lt H1.out)).trans H1.out); have hlk := (H8.out.at (hb.block m H8.out.lt)).look Tryz.underlying111 Tryz.underlying3 (zero9 _) n wn; rw [hl] at hlk; obtain ⟨ad, e0, hx⟩ := Kd.at_string (Kd.R_reads' (Kd.R_below H6.out hb)).2.2 n hn0 hn1; cases e0; have n0_ := Aside0.mk (below_step (by repeat (first | (with_reducible first | exact HB.out | apply below_alloc | apply pw_below_drewN | apply below_drew1) | exact HB.out)) hb); clear HB; have HB := n0_; clear n0_))
      go_ret2
      exact ⟨by first | rfl | simp, by repeat (first | (with_reducible first | exact HB.out | apply below_alloc | apply pw_below_drewN | apply below_drew1) | exact HB.out)⟩
  · rw [if_neg hm]
    rcases (mayE_cases S n).resolve_left hm with hm | hm
    all_goals
      rw [hm]
      go_enter Tryz.func39, Tryz.ntmps39
      go_wp2_with (first | (go_at_call 54; (with_reducible refine (may_any HP.out n).mono ?_); rintro e w1 ⟨rfl, hb⟩; rw [hm]; have n0_ := Aside0.mk (below_step (by repeat (first | (with_reducible first | exact HB.out | apply below_alloc | apply pw_below_drewN | apply below_drew1) | exact HB.out)) hb); clear HB; have HB := n0_; clear n0_))
      go_ret2
      exact ⟨by first | rfl | simp, by repeat (first | (with_reducible first | exact HB.out | apply below_alloc | apply pw_below_drewN | apply below_drew1) | exact HB.out)⟩
section
variable {base : Nat} {F F' : Nat → Prop} {w w' : World} {g : Nat} {S : PS}
theorem last_ne {m : Nat} {f : Int → Option ByteArray} (h : IsLast w m f) {cs : Array Value} {t : TypeId} (hg : w.heap[g]? = some (.cells cs t (0, 0))) : m ≠ g := by
  rintro rfl
  obtain ⟨es, c, h1, _⟩ := h
  rw [hg] at h1; cases h1
theorem IsP.set3 (h : IsP base F w g S) (b : Bool) : IsP base F (w.setCell ⟨g, 3, none⟩ (.bool b)) g { S with halts := b } := by
  obtain ⟨v, m, B, h1, h2, h3, h4, h5, h6, h7, h8⟩ := h
  refine ⟨v, m, B, by simpa using blk_set h1 3 (.bool b), h2, h3, h4, h5, Kd.R_set h6 h1 (by intro q hq; simp [Kd.string, Kd.scalar] at hq; omega) 3 _, Kd.R_set h7 h1 (by intro q hq; simp [k116, Kd.iso, Kd.pair, Kd.int, Kd.string, Kd.scalar] at hq; omega) 3 _, h8.at (Below.heap_setCell w _ _ m (last_ne h8 h1))⟩
theorem IsP.set4 (h : IsP base F w g S) (b : Int) : IsP base F (w.setCell ⟨g, 4, none⟩ (.int .i64 b)) g { S with after := b } := by
  obtain ⟨v, m, B, h1, h2, h3, h4, h5, h6, h7, h8⟩ := h
  refine ⟨v, m, B, by simpa using blk_set h1 4 (.int .i64 b), h2, h3, h4, h5, Kd.R_set h6 h1 (by intro q hq; simp [Kd.string, Kd.scalar] at hq; omega) 4 _, Kd.R_set h7 h1 (by intro q hq; simp [k116, Kd.iso, Kd.pair, Kd.int, Kd.string, Kd.scalar] at hq; omega) 4 _, h8.at (Below.heap_setCell w _ _ m (last_ne h8 h1))⟩
theorem IsP.set5 (h : IsP base F w g S) (b : Bool) : IsP base F (w.setCell ⟨g, 5, none⟩ (.bool b)) g { S with halted := b } := by
  obtain ⟨v, m, B, h1, h2, h3, h4, h5, h6, h7, h8⟩ := h
  refine ⟨v, m, B, by simpa using blk_set h1 5 (.bool b), h2, h3, h4, h5, Kd.R_set h6 h1 (by intro q hq; simp [Kd.string, Kd.scalar] at hq; omega) 5 _, Kd.R_set h7 h1 (by intro q hq; simp [k116, Kd.iso, Kd.pair, Kd.int, Kd.string, Kd.scalar] at hq; omega) 5 _, h8.at (Below.heap_setCell w _ _ m (last_ne h8 h1))⟩
theorem IsP.ge (h : IsP base F w g S) : base ≤ g := by obtain ⟨v, m, B, h1, h2, _⟩ := h; exact h2
theorem IsP.inF (h : IsP base F w g S) : F g := by obtain ⟨v, m, B, h1, h2, h3, _⟩ := h; exact h3
theorem below_setG {n : Nat} {u : World} (h : Below n u w) (hg : n ≤ g) (j : Nat) (v : Value) : Below n u (w.setCell ⟨g, j, none⟩ v) := h.setCell hg _
end
def haltE (S : PS) (n : Int) : PS := if S.halted = true then S else { S with halts := decide (0 ≤ n), after := max n 0 }
theorem wpList_mapUpdate_last {P : Program} (w : World) {ops : Array Oper} {rest : List Oper} {o : Oper} {a : Act} {Q : Exit → Act → World → Prop}
    (hg : o.guard = none) (m x v : Operand) (t : TypeId) (hop : o.op = Op.mapUpdate t m x v) (k e : TypeId) (ht : P.underlying t = some (.map k e)) (hk : P.underlying k = some (.int .i64))
    (b : Nat) (f : Int → Option ByteArray) (n : Int) (s : ByteArray) (hm : a.eval m = .map (some b)) (hx : a.eval x = .int .i64 n) (hv : a.eval v = .string s) (hown : IsLast w b f) (hn : (Lit.int .i64 n).wf = true)
    (hK : ∀ w', IsLast w' b (upd f n s) → w.grownBy w' (some b) → wpList P ops Q rest (a.put o.dst undef) w') :
    wpList P ops Q (o :: rest) a w := by
  refine wpList_plain hg fun K' hK' => ?_
  obtain ⟨w', hrun, r1, r2⟩ := hown.store ht hk n hn s
  unfold Oper.wp
  simp [execOp, hop, hm, hx, hv, hrun, Result.andThen]
  exact hK' _ _ (hK w' r1 r2)
theorem info116 : (Tryz.prog.info? 116).map (fun i => (i.zero, i.size, i.bytes)) = some (some (.agg #[(.int .i64 0), (.string ⟨#[]⟩)]), 2, 24) := by kernel_rfl
def storeE (S : PS) (n : Int) (b : ByteArray) : Int := if mayE S n = 0 then (if b.size = 128 then (if S.halts = true then (if S.after = 0 then 7 else 0) else 0) else 9) else mayE S n
def storeS (S : PS) (n : Int) (b : ByteArray) : PS := if mayE S n = 0 then (if b.size = 128 then (if S.halts = true ∧ S.after = 0 then { S with halted := true } else { S with after := max (wrap64 (S.after - 1)) 0, afl := S.afl ++ [⟨n, b⟩], last := upd S.last n b }) else S) else S
set_option maxHeartbeats 8000000 in
set_option maxRecDepth 100000 in
theorem store_no {base : Nat} {F : Nat → Prop} {w : World} {g : Nat} {S : PS} (h : IsP base F w g S) (n : Int) (b : ByteArray) (hm : mayE S n = 6 ∨ mayE S n = 7) :
    Calls Tryz.prog 28 #[.pointer (some ⟨g, 0, none⟩), .int .i64 n, .string b] w fun e w' => e = .returned (.int .i64 (mayE S n)) ∧ Below w.heap.size w w' := by
  have HP := Aside0.mk h
  have HB := Aside0.mk (Below.refl w.heap.size w)
  rcases hm with hm | hm
  all_goals
    rw [hm]
    go_enter Tryz.func28, Tryz.ntmps28
    go_wp2_with (first | (go_at_call 54; (with_reducible refine (may_any HP.out n).mono ?_); rintro e w1 ⟨rfl, hb⟩; rw [hm]; have n0_ := Aside0.mk (below_step (by repeat (first | (with_reducible first | exact HB.out | apply below_alloc | apply pw_below_drewN | apply below_drew1) | exact HB.out)) hb); clear HB; have HB := n0_; clear n0_))
    go_ret
    exact ⟨rfl, HB.out⟩
set_option maxHeartbeats 8000000 in
set_option maxRecDepth 100000 in
theorem store_size {base : Nat} {F : Nat → Prop} {w : World} {g : Nat} {S : PS} (h : IsP base F w g S) (n : Int) (b : ByteArray) (hm : mayE S n = 0) (hs : b.size ≠ 128) :
    Calls Tryz.prog 28 #[.pointer (some ⟨g, 0, none⟩), .int .i64 n, .string b] w fun e w' => e = .returned (.int .i64 9) ∧ Below w.heap.size w w' := by
  have HP := Aside0.mk h
  have HB := Aside0.mk (Below.refl w.heap.size w)
  have hs1 : ((b.size : Int) != 128) = true := by simp; omega
  have hs2 : ((b.size : Int) == 128) = false := by simp; omega
  have hs3 : (b.size == 128) = false := by simp; omega
  go_enter Tryz.func28, Tryz.ntmps28
  go_wp2_with (first | (go_at_call 54; (with_reducible refine (may_any HP.out n).mono ?_); rintro e w1 ⟨rfl, hb⟩; rw [hm]; have n0_ := Aside0.mk (below_step (by repeat (first | (with_reducible first | exact HB.out | apply below_alloc | apply pw_below_drewN | apply below_drew1) | exact HB.out)) hb); clear HB; have HB := n0_; clear n0_))
  go_ret
  exact ⟨rfl, HB.out⟩
set_option maxHeartbeats 8000000 in
set_option maxRecDepth 100000 in
theorem store_halt {base : Nat} {F : Nat → Prop} {w : World} {g : Nat} {S : PS} (h : IsP base F w g S) (n : Int) (b : ByteArray) (hm : mayE S n = 0) (hs : b.size = 128) (hh : S.halts = true) (ha : S.after = 0) :
    Calls Tryz.prog 28 #[.pointer (some ⟨g, 0, none⟩), .int .i64 n, .string b] w fun e w' => e = .returned (.int .i64 7) ∧ IsP base F w' g { S with halted := true } ∧ Kept w w' F ∧ (base ≤ w.heap.size → Below base w w') := by
  have HP := Aside0.mk h
  have HB := Aside0.mk (Below.refl w.heap.size w)
  have hs1 : ((b.size : Int) != 128) = false := by simp; omega
  have hs2 : ((b.size : Int) == 128) = true := by simp; omega
  go_enter Tryz.func28, Tryz.ntmps28
  go_wp2_with (first | (go_at_call 54; (with_reducible refine (may_any HP.out n).mono ?_); rintro e w1 ⟨rfl, hb⟩; rw [hm]; obtain ⟨A, c, m, B, d, h1, _⟩ := (HP.out.below hb).cells; have hf5 := blk_frozen h1 5; obtain ⟨c0, c1, c2, c3, c4, c5⟩ := cell62 h1; rw [hh] at c3; rw [ha] at c4; have n0_ := Aside0.mk (below_step (by repeat (first | (with_reducible first | exact HB.out | apply below_alloc | apply pw_below_drewN | apply below_drew1) | exact HB.out)) hb); clear HB; have HB := n0_; clear n0_))
  go_ret
  exact ⟨rfl, (HP.out.below HB.out).set5 true, (Kept.of_below HB.out _).setCell (.inl HP.out.inF) _, fun hle => below_setG (HB.out.mono hle) HP.out.ge _ _⟩
section
variable {base : Nat} {F F' : Nat → Prop} {w w' : World} {g : Nat} {S : PS}
theorem own_types {α β : Type} {d : Kd α} {d' : Kd β} {e e' b b' : Nat} {o o' : Nat → Prop} {v v' : Value} {xs : List α} {ys : List β} (h : d.R e w b o v xs) (h' : d'.R e' w b' o' v' ys) (he : e ≠ e') : ∀ k, v.ownBlock = some k → some k ≠ v'.ownBlock := by
  intro k hk hk'
  obtain ⟨c1, e1⟩ := Kd.R_typed h k hk
  obtain ⟨c2, e2⟩ := Kd.R_typed h' k hk'.symm
  rw [e1] at e2
  injection e2 with e2
  injection e2 with _ e2
  exact he e2
theorem own_blk {α : Type} {d : Kd α} {e b : Nat} {o : Nat → Prop} {v : Value} {xs : List α} (h : d.R e w b o v xs) {cs : Array Value} {t : TypeId} (hg : w.heap[g]? = some (.cells cs t (0, 0))) (he : e ≠ t) : some g ≠ v.ownBlock := by
  intro hk
  obtain ⟨c1, e1⟩ := Kd.R_typed h g hk.symm
  rw [hg] at e1
  injection e1 with e1
  injection e1 with _ e1
  exact he e1.symm
theorem own_map {α : Type} {d : Kd α} {e b m : Nat} {o : Nat → Prop} {v : Value} {xs : List α} {f : Int → Option ByteArray} (h : d.R e w b o v xs) (hm : IsLast w m f) : ∀ k, some m = some k → some k ≠ v.ownBlock := by
  intro k hk hk2
  injection hk with hk
  subst hk
  obtain ⟨c1, e1⟩ := Kd.R_typed h m hk2.symm
  obtain ⟨es, c, e2, _⟩ := hm
  rw [e1] at e2
  cases e2
theorem kept_grown {w0 w1 : World} {T : Nat → Prop} {row : Option Nat} (h : Kept w0 w T) (hg : w.grownBy w1 row) (hr : ∀ k, row = some k → T k ∨ w0.heap.size ≤ k) : Kept w0 w1 T := Kept.of_grown hg h hr
theorem below_grown {n : Nat} {u w1 : World} {row : Option Nat} (h : Below n u w) (hg : w.grownBy w1 row) (hr : ∀ k, row = some k → n ≤ k) (hn : n ≤ w.heap.size) : Below n u w1 :=
  h.trans ⟨hg.os, hg.tape, hg.output, hg.size, fun i hi => hg.block i (Nat.lt_of_lt_of_le hi hn) (fun e => by have := hr i e.symm; omega)⟩
end
set_option maxHeartbeats 8000000 in
set_option maxRecDepth 100000 in
theorem store_ok {base : Nat} {F : Nat → Prop} {w : World} {g : Nat} {S : PS} (h : IsP base F w g S) (n : Int) (b : ByteArray) (hm : mayE S n = 0) (hs : b.size = 128) (hh : S.halts = false ∨ S.halts = true ∧ S.after ≠ 0) (wn : (Lit.int .i64 n).wf = true) (hl : S.afl.length ≤ 1000000) :
    Calls Tryz.prog 28 #[.pointer (some ⟨g, 0, none⟩), .int .i64 n, .string b] w fun e w' => e = .returned (.int .i64 0) ∧ IsP base (fun k => F k ∨ w.heap.size ≤ k) w' g { S with after := max (wrap64 (S.after - 1)) 0, afl := S.afl ++ [⟨n, b⟩], last := upd S.last n b } ∧ Kept w w' F ∧ (base ≤ w.heap.size → Below base w w') := by
  have HP := Aside0.mk h
  have HB := Aside0.mk (Below.refl w.heap.size w)
  have HLe := Aside0.mk hl
  obtain ⟨A, c, m, B, d, h1, h2, h3, h4, h5, h6, h7, h8⟩ := h.cells
  have G1 := Aside0.mk h1
  have G6 := Aside0.mk h6
  have G7 := Aside0.mk h7
  have G8 := Aside0.mk h8
  have G2 := Aside0.mk h2
  have G3 := Aside0.mk h3
  have G4 := Aside0.mk h4
  have G5 := Aside0.mk h5
  clear h1 h2 h3 h4 h5 h6 h7 h8 hl
  have hs1 : ((b.size : Int) != 128) = false := by simp; omega
  have hs2 : ((b.size : Int) == 128) = true := by simp; omega
  rcases hh with hh | ⟨hh, ha⟩
  all_goals
    (try have ha1 : (S.after == 0) = false := beq_eq_false_iff_ne.mpr ha)
    (try clear ha)
    go_enter Tryz.func28, Tryz.ntmps28
    go_wp2_with (first
      | (go_at_call 54; (with_reducible refine (may_any HP.out n).mono ?_); rintro e w1 ⟨rfl, hb⟩; rw [hm]
         have HB1 := Aside0.mk hb
         have K1 := (hb.block g (blk_lt G1.out)).trans G1.out
         have J1 := Aside0.mk K1
         have hf2 := blk_frozen K1 2
         have hf4 := blk_frozen K1 4
         obtain ⟨c0, c1, c2, c3, c4, c5⟩ := cell62 K1
         rw [hh] at c3
         clear K1 hb)
      | ((with_reducible refine gate_builtin (b := .append) (xs := #[.tmp 46, .tmp 50]) rfl ?_); at_builtin
         go_must (refine Kd.R_append k116 base rfl (.tmp 46) (.tmp 50) 112 116 (.agg #[(.int .i64 0), (.string ⟨#[]⟩)]) 24 rfl Tryz.underlying112 info116 rfl (by decide) (by omega) (.slice B S.afl.length d) S.afl (⟨n, b⟩ : S116) [.int .i64 n, .string b] (fun k => F k ∨ w.heap.size ≤ k) (fun _ => False) rfl (congrArg (fun k => Value.slice (some ⟨k, 0, none⟩) 1 1) (show w1.heap.size = (w1.setCell ⟨g, 4, none⟩ (Value.int IntKind.i64 (max (wrap64 (S.after - 1)) 0))).heap.size by simp [World.setCell])) ?aP (fun _ hk => hk.elim) ?aF ?aO (Below.refl base _) ?aS ?aL ?_)
         (case aP => go_must (exact k116_mkM _ _ _ (⟨n, b⟩ : S116)))
         (case aF => intro k hk; right; go_must (exact Nat.le_trans HB1.out.size (by simpa [World.setCell] using hk)))
         (case aO => go_must (exact Kd.R_mono (Kd.R_set (Kd.R_step G7.out (fun k _ hk => HB1.out.block k hk)) J1.out (by intro q hq; simp [k116, Kd.iso, Kd.pair, Kd.int, Kd.string, Kd.scalar] at hq; omega) 4 _) (fun _ hk => .inl hk)))
         (case aS => go_must (exact Nat.le_trans (Nat.le_of_lt (Nat.lt_of_le_of_lt G2.out (blk_lt J1.out))) (by simp [World.setCell])))
         (case aL => have := HLe.out; go_must (omega))
         intro v2 w2 ho hb2 hg2 hat2
         obtain ⟨A2, d2, e2⟩ := Kd.R_slice ho
         obtain ⟨l2, hl2⟩ : ∃ l2 : Nat, l2 = (S.afl ++ [(⟨n, b⟩ : S116)]).length := ⟨_, rfl⟩
         rw [← hl2] at e2
         clear hl2
         subst e2
         have E1 := Aside0.mk ho
         have E2 := Aside0.mk hb2
         have E3 := Aside0.mk hg2
         clear ho hb2 hg2 hat2
         have K0 : (w1.setCell ⟨g, 4, none⟩ (Value.int IntKind.i64 (max (wrap64 (S.after - 1)) 0))).heap[g]? = some (.cells #[.slice A S.safe.length c, .map (some m), .slice B S.afl.length d, .bool S.halts, .int .i64 (max (wrap64 (S.after - 1)) 0), .bool S.halted] 114 (0, 0)) := by simpa using blk_set J1.out 4 (.int .i64 (max (wrap64 (S.after - 1)) 0))
         have K2 := (E3.out.block g (blk_lt K0) (own_blk G7.out G1.out (by decide))).trans K0
         have J0 := Aside0.mk K0
         have J2 := Aside0.mk K2
         have hf22 := blk_frozen K2 2
         obtain ⟨_, c21, _, _, _, _⟩ := cell62 K2
         have L1 := Aside0.mk ((G8.out.at (HB1.out.block m G8.out.lt)).at (Below.heap_setCell w1 ⟨g, 4, none⟩ (Value.int IntKind.i64 (max (wrap64 (S.after - 1)) 0)) m (last_ne G8.out G1.out)))
         have L2 := Aside0.mk ((L1.out.at (E3.out.block m L1.out.lt (own_map G7.out G8.out m rfl))).at (Below.heap_setCell w2 ⟨g, 2, none⟩ (Value.slice A2 l2 d2) m (last_ne G8.out G1.out)))
         clear K0 K2)
      | (at_mapUpdate
         go_must (refine wpList_mapUpdate_last _ rfl _ _ _ 111 rfl 3 9 Tryz.underlying111 Tryz.underlying3 m S.last n b rfl rfl rfl L2.out wn ?_)
         intro w3 hl3 hg3
         have E4 := Aside0.mk hl3
         have E5 := Aside0.mk hg3
         clear hl3 hg3))
    go_ret
    have Q2 : (w2.setCell ⟨g, 2, none⟩ (Value.slice A2 l2 d2)).heap[g]? = some (.cells #[.slice A S.safe.length c, .map (some m), (Value.slice A2 l2 d2), .bool S.halts, .int .i64 (max (wrap64 (S.after - 1)) 0), .bool S.halted] 114 (0, 0)) := by simpa using blk_set J2.out 2 (Value.slice A2 l2 d2)
    have hgm : some g ≠ some m := fun e => last_ne G8.out G1.out (by injection e with e; exact e.symm)
    have Q3 := (E5.out.block g (blk_lt Q2) hgm).trans Q2
    have T65 : ∀ q, q ∈ 116 :: k116.E → q ≠ 114 := by intro q hq; simp [k116, Kd.iso, Kd.pair, Kd.int, Kd.string, Kd.scalar] at hq; omega
    have T9 : ∀ q, q ∈ 9 :: Kd.string.E → q ≠ 114 := by intro q hq; simp [Kd.string, Kd.scalar] at hq; omega
    have R2 := Kd.R_grown2 (Kd.R_set E1.out J2.out T65 2 (Value.slice A2 l2 d2)) rfl E5.out (own_map (Kd.R_set E1.out J2.out T65 2 (Value.slice A2 l2 d2)) L2.out)
    have S3 : Kd.R Kd.string 9 w3 base F (.slice A S.safe.length c) S.safe := by
      have a1 := Kd.R_set (Kd.R_step G6.out (fun k _ hk => HB1.out.block k hk)) J1.out T9 4 (Value.int IntKind.i64 (max (wrap64 (S.after - 1)) 0))
      have a7 := Kd.R_set (Kd.R_step G7.out (fun k _ hk => HB1.out.block k hk)) J1.out T65 4 (Value.int IntKind.i64 (max (wrap64 (S.after - 1)) 0))
      have a2 : Kd.R Kd.string 9 w2 base F (.slice A S.safe.length c) S.safe := by
        have ot := own_types a7 a1 (by decide)
        exact Kd.R_grown2 a1 rfl E3.out ot
      have a3 := Kd.R_set a2 J2.out T9 2 (Value.slice A2 l2 d2)
      have om := own_map a3 L2.out
      exact Kd.R_grown2 a3 rfl E5.out om
    refine ⟨rfl, ⟨_, m, (Value.slice A2 l2 d2), Q3, G2.out, .inl G3.out, G4.out, .inl G5.out, Kd.R_mono S3 (fun _ hk => .inl hk), R2, E4.out⟩, ?_, ?_⟩
    · exact kept_grown (Kept.setCell (kept_grown (Kept.setCell (Kept.of_below HB1.out F) (.inl G3.out) _) E3.out (fun k hk => .inl (G7.out.1 k hk))) (.inl G3.out) _) E5.out (fun k hk => by injection hk with hk; subst hk; exact .inl G5.out)
    · intro hw
      have b1 := below_setG (HB1.out.mono hw) G2.out 4 (Value.int IntKind.i64 (max (wrap64 (S.after - 1)) 0))
      have b2 := b1.trans E2.out
      have b3 := below_setG b2 G2.out 2 (Value.slice A2 l2 d2)
      exact below_grown b3 E5.out (fun k hk => by injection hk with hk; subst hk; exact G4.out) (Nat.le_trans G4.out (Nat.le_of_lt L2.out.lt))
theorem store_any {base : Nat} {F : Nat → Prop} {w : World} {g : Nat} {S : PS} (h : IsP base F w g S) (n : Int) (b : ByteArray) (wn : (Lit.int .i64 n).wf = true) (hl : S.afl.length ≤ 1000000) :
    Calls Tryz.prog 28 #[.pointer (some ⟨g, 0, none⟩), .int .i64 n, .string b] w fun e w' => e = .returned (.int .i64 (storeE S n b)) ∧ IsP base (fun k => F k ∨ w.heap.size ≤ k) w' g (storeS S n b) ∧ Kept w w' F ∧ (base ≤ w.heap.size → Below base w w') := by
  unfold storeE storeS
  by_cases hm : mayE S n = 0
  · rw [if_pos hm, if_pos hm]
    by_cases hs : b.size = 128
    · rw [if_pos hs, if_pos hs]
      by_cases hh : S.halts = true
      · rw [if_pos hh]
        by_cases ha : S.after = 0
        · rw [if_pos ha, if_pos ⟨hh, ha⟩]
          refine (store_halt h n b hm hs hh ha).mono ?_
          rintro e w' ⟨rfl, hi, hk, hb⟩
          exact ⟨rfl, hi.mono (fun _ hk => .inl hk), hk, hb⟩
        · rw [if_neg ha, if_neg (fun hx => ha hx.2)]
          exact store_ok h n b hm hs (.inr ⟨hh, ha⟩) wn hl
      · rw [if_neg hh, if_neg (fun hx => hh hx.1)]
        exact store_ok h n b hm hs (.inl (by simpa using hh)) wn hl
    · rw [if_neg hs, if_neg hs]
      refine (store_size h n b hm hs).mono ?_
      rintro e w' ⟨rfl, hb⟩
      exact ⟨rfl, (h.below hb).mono (fun _ hk => .inl hk), Kept.of_below hb _, fun hle => hb.mono hle⟩
  · rw [if_neg hm, if_neg hm]
    refine (store_no h n b ((mayE_cases S n).resolve_left hm)).mono ?_
    rintro e w' ⟨rfl, hb⟩
    exact ⟨rfl, (h.below hb).mono (fun _ hk => .inl hk), Kept.of_below hb _, fun hle => hb.mono hle⟩
set_option maxHeartbeats 8000000 in
set_option maxRecDepth 100000 in
theorem sink_any {base : Nat} {F : Nat → Prop} {w : World} {g : Nat} {S : PS} (h : IsP base F w g S) :
    Calls Tryz.prog 53 #[.pointer (some ⟨g, 0, none⟩)] w fun e w' => e = .returned (.tuple #[]) ∧ IsP base F w' g { S with afl := [], last := fun _ => none } ∧ Kept w w' F ∧ (base ≤ w.heap.size → Below base w w') := by
  obtain ⟨A, c, m, B, d, h1, h2, h3, h4, h5, h6, h7, h8⟩ := h.cells
  have T9 : ∀ q, q ∈ 9 :: Kd.string.E → q ≠ 114 := by intro q hq; simp [Kd.string, Kd.scalar] at hq; omega
  have K0 : (w.setCell ⟨g, 2, none⟩ (.slice none 0 0)).heap[g]? = some (.cells #[.slice A S.safe.length c, .map (some m), .slice none 0 0, .bool S.halts, .int .i64 S.after, .bool S.halted] 114 (0, 0)) := by simpa using blk_set h1 2 (.slice none 0 0)
  have L0 := h8.at (Below.heap_setCell w ⟨g, 2, none⟩ (.slice none 0 0) m (last_ne h8 h1))
  obtain ⟨w2, hrun, hl2, hg2⟩ := L0.clear (t := 111) Tryz.underlying111 0
  obtain ⟨c0, c1, c2, c3, c4, c5⟩ := cell62 h1
  have hf2 := blk_frozen h1 2
  have K2 := (hg2.block g (blk_lt K0) (fun e => last_ne h8 h1 (by injection e with e; exact e.symm))).trans K0
  have a1 := Kd.R_set h6 h1 T9 2 (.slice none 0 0)
  have om := own_map a1 L0
  have S2 : Kd.R Kd.string 9 w2 base F (.slice A S.safe.length c) S.safe := by
    exact Kd.R_grown2 a1 rfl hg2 om
  have G : (Code.wp = Code.wp) := rfl
  go_enter Tryz.func53, Tryz.ntmps53
  go_wp2
  refine Go.Great.bodyPost_end0 rfl rfl ?_
  refine ⟨rfl, ⟨_, m, .slice none 0 0, K2, h2, h3, h4, h5, S2, Kd.R_nil _ _ _ _ _, hl2⟩, ?_, ?_⟩
  · exact kept_grown (Kept.setCell (Kept.refl w F) (.inl h3) _) hg2 (fun k hk => by injection hk with hk; subst hk; exact .inl h5)
  · intro hw
    exact below_grown (below_setG (Below.refl base w) h2 2 _) hg2 (fun k hk => by injection hk with hk; subst hk; exact h4) (Nat.le_trans h4 (Nat.le_of_lt L0.lt))
def z116 : S116 := ⟨0, ⟨#[]⟩⟩
def rd_T116 (xs : List S116) (i : Int) : S116 := xs.getD i.toNat z116
theorem at_T116 {w : World} {A : Option Addr} {n : Nat} {xs : List S116} (h : Kd.C k116 w A n xs) (i : Int) (h0 : 0 ≤ i) (h1 : i < n) : ∃ ad , A = some ad ∧ w.cell? (ad.add (i.toNat * 2)) = some (.int .i64 (rd_T116 xs i).f0) ∧ w.cell? ⟨(ad.add (i.toNat * 2)).block, (ad.add (i.toNat * 2)).off + 1, none⟩ = some (.string (rd_T116 xs i).f1) := by
  obtain ⟨ad, c, e, _, hK, hc0⟩ := Kd.C_get h z116 i h0 h1
  have hc : ∀ j u, c[j]? = some u → w.cell? (ad.add (i.toNat * 2 + j)) = some u := hc0
  obtain rfl := k116_open hK
  exact ⟨ad, e, hc 0 _ rfl, by rw [← add_field _ _ 1 (by omega)]; exact hc 1 _ rfl⟩
def settled (S : PS) (i : Nat) : List ByteArray := (S.afl.take i).foldl (fun sf p => sf.set p.f0.toNat p.f1) S.safe
theorem settled_length (S : PS) (i : Nat) : (settled S i).length = S.safe.length := by
  unfold settled
  generalize S.afl.take i = l
  generalize S.safe = sf
  induction l generalizing sf with
  | nil => rfl
  | cons p t ih => rw [List.foldl_cons, ih, List.length_set]
theorem settled_succ (S : PS) (i : Nat) (h : i < S.afl.length) : settled S (i + 1) = (settled S i).set (rd_T116 S.afl i).f0.toNat (rd_T116 S.afl i).f1 := by
  unfold settled rd_T116
  rw [List.take_succ_eq_append_getElem h, List.foldl_append, List.foldl_cons, List.foldl_nil, Int.toNat_natCast, List.getD, List.getElem?_eq_getElem h]; rfl
set_option maxHeartbeats 8000000 in
set_option maxRecDepth 100000 in
theorem settle_any {base : Nat} {F : Nat → Prop} {w : World} {g : Nat} {S : PS} (h : IsP base F w g S) (hh : S.halted = false) (hw : ∀ p ∈ S.afl, 0 ≤ p.f0 ∧ p.f0 < S.safe.length) (hl : S.afl.length ≤ 1000000) :
    Calls Tryz.prog 104 #[.pointer (some ⟨g, 0, none⟩)] w fun e w' => e = .returned (.int .i64 0) ∧ IsP base F w' g { S with safe := settled S S.afl.length, afl := [], last := fun _ => none } ∧ Kept w w' F ∧ (base ≤ w.heap.size → Below base w w') := by
  have HP := Aside0.mk h
  have HL := Aside0.mk hl
  clear hl
  obtain ⟨A, c, m, B, d, h1, h2, h3, h4, h5, h6, h7, h8⟩ := h.cells
  have G1 := Aside0.mk h1
  have G2 := Aside0.mk h2
  have G3 := Aside0.mk h3
  have G4 := Aside0.mk h4
  have G5 := Aside0.mk h5
  have G6 := Aside0.mk h6
  have G7 := Aside0.mk h7
  have G8 := Aside0.mk h8
  have W8 := Aside0.mk hw
  clear h1 h2 h3 h4 h5 h6 h7 h8 hw
  go_enter Tryz.func104, Tryz.ntmps104
  go_wp2_with (first
      | (go_at_call 25; (with_reducible refine (halted_any HP.out).mono ?_); rintro e w1 ⟨rfl, hb⟩; rw [hh]
         have HB1 := Aside0.mk hb
         have K1 := (hb.block g (blk_lt G1.out)).trans G1.out
         obtain ⟨c0, c1, c2, c3, c4, c5⟩ := cell62 K1
         clear K1 hb))
  clear c0 c1 c2 c3 c4 c5
  go_loopg [12] S.afl.length (fun kq v12 w' => ∃ i : Nat, v12 = .int .i64 i ∧ Aside0 (i + kq = S.afl.length) ∧ Aside0 (w'.heap[g]? = some (.cells #[.slice A S.safe.length c, .map (some m), .slice B S.afl.length d, .bool S.halts, .int .i64 S.after, .bool S.halted] 114 (0, 0))) ∧ Aside0 (Kd.R Kd.string 9 w' base F (.slice A S.safe.length c) (settled S i)) ∧ Aside0 (Kd.R k116 116 w' base F (.slice B S.afl.length d) S.afl) ∧ Aside0 (IsLast w' m S.last) ∧ Aside0 (Kept w w' F) ∧ Aside0 (base ≤ w.heap.size → Below base w w'))
  case atStart => exact ⟨0, rfl, ⟨by omega⟩, ⟨(HB1.out.block g (blk_lt G1.out)).trans G1.out⟩, ⟨Kd.R_step G6.out (fun k _ hk => HB1.out.block k hk)⟩, ⟨Kd.R_step G7.out (fun k _ hk => HB1.out.block k hk)⟩, ⟨G8.out.at (HB1.out.block m G8.out.lt)⟩, ⟨Kept.of_below HB1.out _⟩, ⟨fun hle => HB1.out.mono hle⟩⟩
  case round =>
    obtain ⟨i, rfl, HI, Q1, Q6, Q7, Q8, HK, HB⟩ := hrel
    obtain ⟨x0, x1, x2, x3, x4, x5⟩ := cell62 Q1.out
    cases gk with
    | zero =>
      have hi : i = S.afl.length := by have := HI.out; omega
      have hi1 : decide ((i : Int) < (S.afl.length : Int)) = false := decide_eq_false (by omega)
      have hi1b : decide (i < S.afl.length) = false := decide_eq_false (by omega)
      have HI2 := Aside0.mk hi
      clear hi
      have IP : IsP base F wr g { S with safe := settled S i } := ⟨_, m, _, Q1.out, G2.out, G3.out, G4.out, G5.out, by simpa [settled_length] using Q6.out, Q7.out, Q8.out⟩
      have IP2 := Aside0.mk IP
      clear IP
      go_wp2_with (first
        | (go_at_call 53; (with_reducible refine (sink_any IP2.out).mono ?_); rintro e w2 ⟨rfl, hi2, hk2, hb2⟩
           have E1 := Aside0.mk hi2
           have E2 := Aside0.mk hk2
           have E3 := Aside0.mk hb2
           clear hi2 hk2 hb2))
      go_ret
      have := HI2.out
      subst this
      refine ⟨rfl, E1.out, HK.out.then_ E2.out (fun _ hk => .inl hk), fun hle => (HB.out hle).trans (E3.out (Nat.le_trans hle HK.out.1))⟩
    | succ k1 =>
      have hi : i < S.afl.length := by have := HI.out; omega
      have hi1 : decide ((i : Int) < (S.afl.length : Int)) = true := decide_eq_true (by omega)
      have hi1b : decide (i < S.afl.length) = true := decide_eq_true hi
      have hi0 : (0 : Int) ≤ (i : Int) := by omega
      have hi2 : (i : Int) < (S.afl.length : Int) := by omega
      obtain ⟨ad, e0, y0, y1⟩ := at_T116 (Kd.R_reads' Q7.out).2.2 (i : Int) hi0 hi2
      have hp := W8.out (rd_T116 S.afl i) (by unfold rd_T116; rw [Int.toNat_natCast, List.getD, List.getElem?_eq_getElem hi]; exact List.getElem_mem hi)
      rw [Int.toNat_natCast] at y0 y1
      generalize hpe : rd_T116 S.afl (i : Int) = pp at *
      have HPE := Aside0.mk hpe
      clear hpe
      obtain ⟨b9, e9, y9⟩ := Kd.at_string (Kd.R_reads' Q6.out).2.2 pp.f0 hp.1 (by rw [settled_length]; exact hp.2)
      cases e0
      cases e9
      have hp1 := hp.1
      have hp2 := hp.2
      clear hp
      go_wp2
      have KA := (Below.heap_alloc wr (Obj.cells #[Value.int IntKind.i64 pp.f0, Value.string pp.f1] 116) g (blk_lt Q1.out)).trans Q1.out
      have KB : (wr.alloc (Obj.cells #[Value.int IntKind.i64 pp.f0, Value.string pp.f1] 116)).heap[wr.heap.size]? = some (.cells #[Value.int IntKind.i64 pp.f0, Value.string pp.f1] 116 (0, 0)) := (MapKept.heap_alloc wr _).1
      have SA := Aside0.mk (Kd.R_alloc Q6.out (Obj.cells #[Value.int IntKind.i64 pp.f0, Value.string pp.f1] 116))
      have RA := Aside0.mk (Kd.R_alloc Q7.out (Obj.cells #[Value.int IntKind.i64 pp.f0, Value.string pp.f1] 116))
      have LA := Aside0.mk (Q8.out.at (Below.heap_alloc wr (Obj.cells #[Value.int IntKind.i64 pp.f0, Value.string pp.f1] 116) m Q8.out.lt))
      have HKA := Aside0.mk (HK.out.alloc (Obj.cells #[Value.int IntKind.i64 pp.f0, Value.string pp.f1] 116))
      have HBA := Aside0.mk (fun (hle : base ≤ w.heap.size) => (HB.out hle).trans ((below_alloc (Below.refl wr.heap.size wr) (Obj.cells #[Value.int IntKind.i64 pp.f0, Value.string pp.f1] 116)).mono (Nat.le_trans hle HK.out.1)))
      clear x0 x1 x2 x3 x4 x5 y0 y1 y9 Q1 Q6 Q7 Q8 HK HB
      generalize wr.alloc (Obj.cells #[Value.int IntKind.i64 pp.f0, Value.string pp.f1] 116) = wA at *
      generalize wr.heap.size = yy at *
      obtain ⟨x0, x1, x2, x3, x4, x5⟩ := cell62 KA
      have y0 : wA.cell? ⟨yy, 0, none⟩ = some (.int .i64 pp.f0) := (blk_cell KB 0).trans rfl
      have y1 : wA.cell? ⟨yy, 1, none⟩ = some (.string pp.f1) := (blk_cell KB 1).trans rfl
      have hp1b : decide (0 ≤ pp.f0) = true := decide_eq_true hp1
      have hp2b : decide (pp.f0 < (S.safe.length : Int)) = true := decide_eq_true hp2
      obtain ⟨gs, rfl⟩ := Kd.R_head SA.out
      obtain ⟨b8, e8, y8⟩ := Kd.at_string (Kd.R_reads' SA.out).2.2 pp.f0 hp1 (by rw [settled_length]; exact hp2)
      injection e8 with e8
      subst e8
      have Y8 := Aside0.mk y8
      clear y8
      go_still_tail 9, (by kernel_rfl)
      change wpList _ _ _ _ _ wA.drew
      refine Kd.R_store Kd.string (w0 := wA.drew) base rfl rfl 9 (.tmp 24) (.tmp 23) rfl 9 (g := gs) (n := S.safe.length) (cap := c) (o' := pp.f0.toNat) pp.f0 0 (settled S i) pp.f1 (.string pp.f1) [.string pp.f1] [.string (rdOf ByteArray.empty (settled S i) pp.f0)] F (fun _ => False) rfl ?hoff rfl rfl (by kernel_rfl) (by intro q hq; simp at hq; subst hq; rfl) (Kd.R_drew SA.out) hp1 hp2 rfl ?hcc (Nat.le_refl 1) rfl (fun _ hk => hk.elim) (Below.refl base _) ?_
      case hoff => show pp.f0.toNat = pp.f0.toNat * 1 + 0; omega
      case hcc =>
        intro j u hj
        cases j with
        | zero =>
          have := Y8.out
          simp only [List.getElem?_cons_zero, Option.some.injEq] at hj
          subst hj
          have e : (⟨gs, pp.f0.toNat * Kd.string.sz + 0, none⟩ : Addr) = (⟨gs, 0, none⟩ : Addr).add pp.f0.toNat := by
            rw [show Kd.string.sz = 1 from rfl]
            simp [Addr.add]
          rw [e]; exact this
        | succ j => simp at hj
      intro w3 ho hb hg
      have E1 := Aside0.mk ho
      have E2 := Aside0.mk hb
      have E3 := Aside0.mk hg
      have JA := Aside0.mk KA
      clear ho hb hg x0 x1 x2 x3 x4 x5 y0 y1 KA KB
      go_wp2
      go_roundg k1
      case measure => omega
      case rel =>
        have n1 : some g ≠ some gs := own_blk SA.out JA.out (by decide)
        have n2 : ∀ k, some gs = some k → some k ≠ (Value.slice (some ad) S.afl.length d).ownBlock := own_types SA.out RA.out (by decide)
        have n3 : some m ≠ some gs := own_map SA.out LA.out m rfl
        refine ⟨i + 1, ?_, ⟨by have := HI.out; omega⟩, ⟨(E3.out.block g (blk_lt (show wA.drew.heap[g]? = _ from JA.out)) n1).trans JA.out⟩, ⟨?_⟩, ⟨Kd.R_grown2 (Kd.R_drew RA.out) rfl E3.out n2⟩, ⟨LA.out.at (E3.out.block m LA.out.lt n3)⟩, ⟨kept_grown HKA.out.drew E3.out (fun k hk => by injection hk with hk; subst hk; exact .inl (SA.out.1 gs rfl))⟩, ⟨fun hle => ((HBA.out hle).trans (below_drew (Below.refl base wA))).trans E2.out⟩⟩
        · first | rfl | (simp; done) | (rw [Value.int.injEq]; refine ⟨rfl, ?_⟩; have h1 := HI.out; have h2 := HL.out; unfold wrap64; omega)
        · rw [settled_succ S i hi, HPE.out]; exact E1.out
def failed (S : PS) (cl : List Int) : Nat → List ByteArray × Int
  | 0 => (S.safe, 0)
  | i + 1 =>
    if i < cl.length ∧ 0 < rd cl (i : Int) then
      ((failed S cl i).1.set (rd_T116 S.afl i).f0.toNat ((rd_T116 S.afl i).f1.extract 0 (min (rd cl (i : Int)) 128).toNat ++ (rdOf ByteArray.empty (failed S cl i).1 (rd_T116 S.afl i).f0).extract (min (rd cl (i : Int)) 128).toNat (rdOf ByteArray.empty (failed S cl i).1 (rd_T116 S.afl i).f0).size), (failed S cl i).2 + 1)
    else failed S cl i
theorem failed_length (S : PS) (cl : List Int) (i : Nat) : (failed S cl i).1.length = S.safe.length := by
  induction i with
  | zero => rfl
  | succ i ih => unfold failed; split <;> simp [ih]
theorem failed_count (S : PS) (cl : List Int) (i : Nat) : 0 ≤ (failed S cl i).2 ∧ (failed S cl i).2 ≤ i := by
  induction i with
  | zero => exact ⟨Int.le_refl _, Int.le_refl _⟩
  | succ i ih => unfold failed; split <;> simp <;> omega
def pagesOk (S : PS) : Prop := (∀ b ∈ S.safe, b.size = 128) ∧ ∀ p ∈ S.afl, (0 ≤ p.f0 ∧ p.f0 < S.safe.length) ∧ p.f1.size = 128
theorem rdOf_mem {l : List ByteArray} {i : Int} (h0 : 0 ≤ i) (h1 : i < l.length) : rdOf ByteArray.empty l i ∈ l := by
  unfold rdOf
  rw [List.getD, List.getElem?_eq_getElem (by omega)]
  exact List.getElem_mem _
theorem rd65_mem {l : List S116} {i : Nat} (h : i < l.length) : rd_T116 l (i : Int) ∈ l := by
  unfold rd_T116
  rw [Int.toNat_natCast, List.getD, List.getElem?_eq_getElem h]
  exact List.getElem_mem h
theorem failed_size {S : PS} (h : pagesOk S) (cl : List Int) (i : Nat) (hi : i ≤ S.afl.length) : ∀ b ∈ (failed S cl i).1, b.size = 128 := by
  induction i with
  | zero => exact h.1
  | succ i ih =>
    have ih := ih (by omega)
    unfold failed
    split
    · rename_i hc
      intro b hb
      rcases List.mem_or_eq_of_mem_set hb with hb | rfl
      · exact ih b hb
      · have hp := h.2 _ (rd65_mem (show i < S.afl.length by omega))
        have hs := ih _ (rdOf_mem (l := (failed S cl i).1) hp.1.1 (by rw [failed_length]; exact hp.1.2))
        rw [ByteArray.size_append, ByteArray.size_extract, ByteArray.size_extract, hs, hp.2]
        omega
    · exact ih
theorem add9 (a b : ByteArray) (w : World) (h : a.size + b.size ≤ 9223372036854775807) : (binOp BinOp.add 9 (.string a) (.string b)).run Tryz.prog w = .ok (.string (a ++ b)) w := by
  have h2 : (9223372036854775807 < a.size + b.size) = False := eq_false (by omega)
  go_simp
set_option maxHeartbeats 8000000 in
set_option maxRecDepth 100000 in
theorem fail_any {base : Nat} {F : Nat → Prop} {w : World} {g : Nat} {S : PS} (h : IsP base F w g S) (hw : pagesOk S) (hl : S.afl.length ≤ 1000000) (C : Option Addr) (cc : Nat) (cl : List Int) (hC : ∀ W', Kept w W' F → (Kd.int .i64).C W' C cl.length cl) :
    Calls Tryz.prog 21 #[.pointer (some ⟨g, 0, none⟩), .slice C cl.length cc] w fun e w' => e = .returned (.int .i64 (failed S cl S.afl.length).2) ∧ IsP base F w' g { safe := (failed S cl S.afl.length).1, last := fun _ => none, afl := [], halts := false, after := 0, halted := false } ∧ Kept w w' F ∧ (base ≤ w.heap.size → Below base w w') := by
  have HP := Aside0.mk h
  have HL := Aside0.mk hl
  have HC := Aside0.mk hC
  clear hl hC
  obtain ⟨A, c, m, B, d, h1, h2, h3, h4, h5, h6, h7, h8⟩ := h.cells
  have G1 := Aside0.mk h1
  have G2 := Aside0.mk h2
  have G3 := Aside0.mk h3
  have G4 := Aside0.mk h4
  have G5 := Aside0.mk h5
  have G6 := Aside0.mk h6
  have G7 := Aside0.mk h7
  have G8 := Aside0.mk h8
  have W8 := Aside0.mk hw
  obtain ⟨c0, c1, c2, c3, c4, c5⟩ := cell62 h1
  clear h1 h2 h3 h4 h5 h6 h7 h8 hw
  go_enter Tryz.func21, Tryz.ntmps21
  go_wp2
  clear c0 c1 c2 c3 c4 c5
  go_loopg [5, 16] S.afl.length (fun kq v5 v16 w' => ∃ i : Nat, v16 = .int .i64 i ∧ v5 = .int .i64 (failed S cl i).2 ∧ Aside0 (i + kq = S.afl.length) ∧ Aside0 (w'.heap[g]? = some (.cells #[.slice A S.safe.length c, .map (some m), .slice B S.afl.length d, .bool S.halts, .int .i64 S.after, .bool S.halted] 114 (0, 0))) ∧ Aside0 (Kd.R Kd.string 9 w' base F (.slice A S.safe.length c) (failed S cl i).1) ∧ Aside0 (Kd.R k116 116 w' base F (.slice B S.afl.length d) S.afl) ∧ Aside0 (IsLast w' m S.last) ∧ Aside0 (Kept w w' F) ∧ Aside0 (base ≤ w.heap.size → Below base w w'))
  case atStart => exact ⟨0, rfl, rfl, ⟨by omega⟩, ⟨G1.out⟩, ⟨G6.out⟩, ⟨G7.out⟩, ⟨G8.out⟩, ⟨Kept.refl _ _⟩, ⟨fun hle => Below.refl _ _⟩⟩
  case round =>
    obtain ⟨i, rfl, rfl, HI, Q1, Q6, Q7, Q8, HK, HB⟩ := hrel
    obtain ⟨x0, x1, x2, x3, x4, x5⟩ := cell62 Q1.out
    cases gk with
    | zero =>
      have hi : i = S.afl.length := by have := HI.out; omega
      have hi1 : decide ((i : Int) < (S.afl.length : Int)) = false := decide_eq_false (by omega)
      have hi1b : decide (i < S.afl.length) = false := decide_eq_false (by omega)
      have HI2 := Aside0.mk hi
      clear hi
      have IP : IsP base F wr g { S with safe := (failed S cl i).1 } := ⟨_, m, _, Q1.out, G2.out, G3.out, G4.out, G5.out, by simpa [failed_length] using Q6.out, Q7.out, Q8.out⟩
      have IP2 := Aside0.mk IP
      clear IP
      go_wp2_with (first
        | (go_at_call 53; (with_reducible refine (sink_any IP2.out).mono ?_); rintro e w2 ⟨rfl, hi2, hk2, hb2⟩
           have E1 := Aside0.mk hi2
           have E2 := Aside0.mk hk2
           have E3 := Aside0.mk hb2
           obtain ⟨A9, c9, m9, B9, d9, r1, _⟩ := hi2.cells
           have hf3 := blk_frozen r1 3
           have hf4 := blk_frozen r1 4
           have hf5 := blk_frozen r1 5
           obtain ⟨z0, z1, z2, z3, z4, z5⟩ := cell62 r1
           clear hi2 hk2 hb2 r1))
      go_ret
      have := HI2.out
      subst this
      refine ⟨rfl, ((E1.out.set3 false).set4 0).set5 false, (((HK.out.then_ E2.out (fun _ hk => .inl hk)).setCell (.inl G3.out) _).setCell (.inl G3.out) _).setCell (.inl G3.out) _, fun hle => below_setG (below_setG (below_setG ((HB.out hle).trans (E3.out (Nat.le_trans hle HK.out.1))) G2.out _ _) G2.out _ _) G2.out _ _⟩
    | succ k1 =>
      have hi : i < S.afl.length := by have := HI.out; omega
      have hi1 : decide ((i : Int) < (S.afl.length : Int)) = true := decide_eq_true (by omega)
      have hi1b : decide (i < S.afl.length) = true := decide_eq_true hi
      have hi0 : (0 : Int) ≤ (i : Int) := by omega
      have hi2 : (i : Int) < (S.afl.length : Int) := by omega
      obtain ⟨ad, e0, y0, y1⟩ := at_T116 (Kd.R_reads' Q7.out).2.2 (i : Int) hi0 hi2
      have hp := W8.out.2 (rd_T116 S.afl i) (rd65_mem hi)
      rw [Int.toNat_natCast] at y0 y1
      generalize hpe : rd_T116 S.afl (i : Int) = pp at *
      have HPE := Aside0.mk hpe
      clear hpe
      cases e0
      have hp1 := hp.1.1
      have hp2 := hp.1.2
      have hp3 := hp.2
      clear hp
      go_upto_region 7 with (fail)
      have KA := (Below.heap_alloc wr (Obj.cells #[Value.int IntKind.i64 pp.f0, Value.string pp.f1] 116) g (blk_lt Q1.out)).trans Q1.out
      have KB : (wr.alloc (Obj.cells #[Value.int IntKind.i64 pp.f0, Value.string pp.f1] 116)).heap[wr.heap.size]? = some (.cells #[Value.int IntKind.i64 pp.f0, Value.string pp.f1] 116 (0, 0)) := (MapKept.heap_alloc wr _).1
      have SA := Aside0.mk (Kd.R_alloc Q6.out (Obj.cells #[Value.int IntKind.i64 pp.f0, Value.string pp.f1] 116))
      have RA := Aside0.mk (Kd.R_alloc Q7.out (Obj.cells #[Value.int IntKind.i64 pp.f0, Value.string pp.f1] 116))
      have LA := Aside0.mk (Q8.out.at (Below.heap_alloc wr (Obj.cells #[Value.int IntKind.i64 pp.f0, Value.string pp.f1] 116) m Q8.out.lt))
      have HKA := Aside0.mk (HK.out.alloc (Obj.cells #[Value.int IntKind.i64 pp.f0, Value.string pp.f1] 116))
      have HBA := Aside0.mk (fun (hle : base ≤ w.heap.size) => (HB.out hle).trans ((below_alloc (Below.refl wr.heap.size wr) (Obj.cells #[Value.int IntKind.i64 pp.f0, Value.string pp.f1] 116)).mono (Nat.le_trans hle HK.out.1)))
      clear x0 x1 x2 x3 x4 x5 y0 y1 Q1 Q6 Q7 Q8 HK HB
      generalize wr.alloc (Obj.cells #[Value.int IntKind.i64 pp.f0, Value.string pp.f1] 116) = wA at *
      generalize wr.heap.size = yy at *
      have JA := Aside0.mk KA
      have hcnt := failed_count S cl i
      by_cases hc : i < cl.length
      · have hc1 : decide ((i : Int) < (cl.length : Int)) = true := decide_eq_true (by omega)
        have hc1b : decide (i < cl.length) = true := decide_eq_true hc
        have hc2 : (i : Int) < (cl.length : Int) := by omega
        obtain ⟨cb, e7, y7⟩ := Kd.at_int (HC.out wA HKA.out) (i : Int) hi0 hc2
        rw [Int.toNat_natCast] at y7
        cases e7
        by_cases hz : 0 < rd cl (i : Int)
        · have HZ := Aside0.mk hz
          have hz1 : decide (0 < rd cl (i : Int)) = true := decide_eq_true hz
          obtain ⟨gs, rfl⟩ : ∃ gs, A = some ⟨gs, 0, none⟩ := by
            obtain ⟨b8, e8, _⟩ := Kd.at_string (Kd.R_reads' SA.out).2.2 pp.f0 hp1 (by rw [failed_length]; exact hp2)
            subst e8
            obtain ⟨gs, e⟩ := Kd.R_head SA.out
            exact ⟨gs, by rw [e]⟩
          obtain ⟨b8, e8, y8⟩ := Kd.at_string (Kd.R_reads' SA.out).2.2 pp.f0 hp1 (by rw [failed_length]; exact hp2)
          injection e8 with e8
          subst e8
          have hos : (rdOf ByteArray.empty (failed S cl i).1 pp.f0).size = 128 := failed_size W8.out cl i (by omega) _ (rdOf_mem hp1 (by rw [failed_length]; exact hp2))
          have HOS := Aside0.mk hos
          obtain ⟨old, hold⟩ : ∃ old, old = rdOf ByteArray.empty (failed S cl i).1 pp.f0 := ⟨_, rfl⟩
          rw [← hold] at y8 hos
          have HOLD := Aside0.mk hold
          clear hold
          obtain ⟨x0, x1, x2, x3, x4, x5⟩ := cell62 KA
          have y0 : wA.cell? ⟨yy, 0, none⟩ = some (.int .i64 pp.f0) := (blk_cell KB 0).trans rfl
          have y1 : wA.cell? ⟨yy, 1, none⟩ = some (.string pp.f1) := (blk_cell KB 1).trans rfl
          have hp1b : decide (0 ≤ pp.f0) = true := decide_eq_true hp1
          have hp2b : decide (pp.f0 < (S.safe.length : Int)) = true := decide_eq_true hp2
          have Y8 := Aside0.mk y8
          have hadd : ∀ k : Nat, (⟨gs, 0, none⟩ : Addr).add k = ⟨gs, k, none⟩ := by intro k; simp [Addr.add]; intro hk; exact hk.symm
          have y8b : wA.cell? ⟨gs, pp.f0.toNat, none⟩ = some (.string old) := by rw [hadd] at y8; exact y8
          clear hadd
          have m1 : (0 ≤ min (rd cl (i : Int)) 128) = True := eq_true (by omega)
          have m2 : (min (rd cl (i : Int)) 128 ≤ (pp.f1.size : Int)) = True := eq_true (by omega)
          have m3 : (min (rd cl (i : Int)) 128 ≤ (old.size : Int)) = True := eq_true (by omega)
          have HP3 := Aside0.mk hp3
          clear hz
          go_upto_region 9 with (fail)
          generalize hcut : min (rd cl (i : Int)) 128 = cut at *
          have HCUT := Aside0.mk hcut
          clear hcut
          have q1 : 0 ≤ cut := of_eq_true m1
          have q2 : cut ≤ (pp.f1.size : Int) := of_eq_true m2
          have q3 : cut ≤ (old.size : Int) := of_eq_true m3
          have q4 : decide (0 ≤ cut) = true := decide_eq_true q1
          have q5 : decide (cut ≤ (pp.f1.size : Int)) = true := decide_eq_true q2
          have q6 : decide (cut ≤ (old.size : Int)) = true := decide_eq_true q3
          have q7 : (pp.f1.extract 0 cut.toNat).size + (old.extract cut.toNat old.size).size ≤ 9223372036854775807 := by
            rw [ByteArray.size_extract, ByteArray.size_extract]; omega
          have q8 := eq_true q7
          have q9 := decide_eq_true q7
          have q12 : (9223372036854775807 < (pp.f1.extract 0 cut.toNat).size + (old.extract cut.toNat old.size).size) = False := eq_false (by omega)
          have q13 : (9223372036854775807 < min cut.toNat pp.f1.size + (old.size - cut.toNat)) = False := eq_false (by omega)
          have q14 : (min cut.toNat pp.f1.size + (old.size - cut.toNat) ≤ 9223372036854775807) = True := eq_true (by omega)
          have hrun57 : ∀ w, (binOp BinOp.add 9 (.string (pp.f1.extract 0 cut.toNat)) (.string (old.extract cut.toNat old.size))).run Tryz.prog w = .ok (.string (pp.f1.extract 0 cut.toNat ++ old.extract cut.toNat old.size)) w := fun w => add9 _ _ w q7
          have q15 : (9223372036854775807 < old.size) = False := eq_false (by omega)
          have Q7 := Aside0.mk q7
          clear q7 q8 q9 q12 q13 q14
          have q10 : (cut ≤ 128) = True := eq_true (by omega)
          clear hp3 hos
          go_still_tail 22, (by kernel_rfl)
          change wpList _ _ _ _ _ wA.drew
          refine Kd.R_store Kd.string (w0 := wA.drew) base rfl rfl 9 (.tmp 58) (.tmp 57) rfl 9 (g := gs) (n := S.safe.length) (cap := c) (o' := pp.f0.toNat) pp.f0 0 (failed S cl i).1 (pp.f1.extract 0 cut.toNat ++ old.extract cut.toNat old.size) (.string (pp.f1.extract 0 cut.toNat ++ old.extract cut.toNat old.size)) [.string (pp.f1.extract 0 cut.toNat ++ old.extract cut.toNat old.size)] [.string old] F (fun _ => False) rfl ?hoff rfl rfl (by kernel_rfl) (by intro q hq; simp at hq; subst hq; rfl) (Kd.R_drew SA.out) hp1 hp2 rfl ?hcc (Nat.le_refl 1) rfl (fun _ hk => hk.elim) (Below.refl base _) ?_
          case hoff => show pp.f0.toNat = pp.f0.toNat * 1 + 0; omega
          case hcc =>
            intro j u hj
            cases j with
            | zero =>
              have := Y8.out
              simp only [List.getElem?_cons_zero, Option.some.injEq] at hj
              subst hj
              have e : (⟨gs, pp.f0.toNat * Kd.string.sz + 0, none⟩ : Addr) = (⟨gs, 0, none⟩ : Addr).add pp.f0.toNat := by
                rw [show Kd.string.sz = 1 from rfl]
                simp [Addr.add]
              rw [e]; exact this
            | succ j => simp at hj
          intro w3 ho hb hg
          have E1 := Aside0.mk ho
          have E2 := Aside0.mk hb
          have E3 := Aside0.mk hg
          clear ho hb hg x0 x1 x2 x3 x4 x5 y0 y1 y8 y8b y7 KA KB
          go_wp2
          go_roundg k1
          case measure => omega
          case rel =>
            have n1 : some g ≠ some gs := own_blk SA.out JA.out (by decide)
            have n2 : ∀ k, some gs = some k → some k ≠ (Value.slice (some ad) S.afl.length d).ownBlock := own_types SA.out RA.out (by decide)
            have n3 : some m ≠ some gs := own_map SA.out LA.out m rfl
            have hcase : i < cl.length ∧ 0 < rd cl (i : Int) := ⟨hc, HZ.out⟩
            refine ⟨i + 1, ?_, ?_, ⟨by have := HI.out; omega⟩, ⟨(E3.out.block g (blk_lt (show wA.drew.heap[g]? = _ from JA.out)) n1).trans JA.out⟩, ⟨?_⟩, ⟨Kd.R_grown2 (Kd.R_drew RA.out) rfl E3.out n2⟩, ⟨LA.out.at (E3.out.block m LA.out.lt n3)⟩, ⟨kept_grown HKA.out.drew E3.out (fun k hk => by injection hk with hk; subst hk; exact .inl (SA.out.1 gs rfl))⟩, ⟨fun hle => ((HBA.out hle).trans (below_drew (Below.refl base wA))).trans E2.out⟩⟩
            · first | rfl | (simp; done) | (rw [Value.int.injEq]; refine ⟨rfl, ?_⟩; have h1 := HI.out; have h2 := HL.out; unfold wrap64; omega)
            · rw [failed, if_pos hcase]
              first | rfl | (simp; done) | (rw [Value.int.injEq]; refine ⟨rfl, ?_⟩; have h1 := HI.out; have h2 := HL.out; have h3 := hcnt; unfold wrap64; omega)
            · rw [failed, if_pos hcase, HPE.out, HCUT.out, ← HOLD.out]; exact E1.out
        · have hz1 : decide (0 < rd cl (i : Int)) = false := decide_eq_false hz
          have HZ := Aside0.mk hz
          clear hz
          go_wp2
          go_roundg k1
          case measure => omega
          case rel =>
            refine ⟨i + 1, ?_, ?_, ⟨by have := HI.out; omega⟩, ⟨JA.out⟩, ⟨?_⟩, ⟨RA.out⟩, ⟨LA.out⟩, ⟨HKA.out⟩, ⟨HBA.out⟩⟩
            · first | rfl | (simp; done) | (rw [Value.int.injEq]; refine ⟨rfl, ?_⟩; have h1 := HI.out; have h2 := HL.out; unfold wrap64; omega)
            · rw [failed, if_neg (fun hx => by have h1 := HZ.out; have h2 := hx.2; omega)]
            · rw [failed, if_neg (fun hx => by have h1 := HZ.out; have h2 := hx.2; omega)]; exact SA.out
      · have hc1 : decide ((i : Int) < (cl.length : Int)) = false := decide_eq_false (by omega)
        have hc1b : decide (i < cl.length) = false := decide_eq_false hc
        have HZ := Aside0.mk hc
        clear hc
        go_wp2
        go_roundg k1
        case measure => omega
        case rel =>
          refine ⟨i + 1, ?_, ?_, ⟨by have := HI.out; omega⟩, ⟨JA.out⟩, ⟨?_⟩, ⟨RA.out⟩, ⟨LA.out⟩, ⟨HKA.out⟩, ⟨HBA.out⟩⟩
          · first | rfl | (simp; done) | (rw [Value.int.injEq]; refine ⟨rfl, ?_⟩; have h1 := HI.out; have h2 := HL.out; unfold wrap64; omega)
          · rw [failed, if_neg (fun hx => HZ.out hx.1)]
          · rw [failed, if_neg (fun hx => HZ.out hx.1)]; exact SA.out
def rowJ (s : ByteArray) (j n : Nat) : List Value := List.replicate j (.string s) ++ List.replicate (n - j) (.string ⟨#[]⟩)
theorem info9 : ∃ i, Tryz.prog.info? 9 = some i ∧ i.zero = some (.string ⟨#[]⟩) ∧ i.size = 1 ∧ i.bytes = 16 := by
  cases h : Tryz.prog.info? 9 with
  | none => exact absurd h (by decide +kernel)
  | some i =>
    have e : (Tryz.prog.info? 9).map (fun i => (i.zero, i.size, i.bytes)) = some (some (.string ⟨#[]⟩), 1, 16) := by kernel_rfl
    rw [h] at e
    simp at e
    exact ⟨i, rfl, e.1, e.2.1, e.2.2⟩
theorem make33 (n : Nat) (h : n ≤ 1000) (w : World) : (Instr.makeSlice 77 (.int .i64 n) (.int .i64 n)).run Tryz.prog w = .ok (.slice (some ⟨w.heap.size, 0, none⟩) n n) (w.alloc (.cells (rowJ ⟨#[]⟩ 0 n).toArray 9)) := by
  obtain ⟨i, hi, hz, h1, h2⟩ := info9
  have := run_makeSlice (P := Tryz.prog) (w := w) 77 9 i (.string ⟨#[]⟩) Tryz.underlying77 hi hz .i64 .i64 n n (by omega) (Int.le_refl _) (by rw [h1]; omega) (by rw [h2]; omega) (by omega)
  rw [h1] at this
  simp only [Int.toNat_natCast, Nat.mul_one] at this
  rw [this]
  have e : madeCells (Value.string ⟨#[]⟩).cells n = (rowJ ⟨#[]⟩ 0 n).toArray := by
    show Array.map (fun x => (#[Value.string ⟨#[]⟩] : Array Value)[x % 1]!) (Array.range n) = _
    apply Array.ext
    · simp [rowJ]
    · intro i h1 h2
      simp [rowJ, Nat.mod_one]
  rw [e]
set_option maxHeartbeats 8000000 in
set_option maxRecDepth 100000 in
theorem repeat_any (w : World) (a : Addr) (s : ByteArray) (n : Nat) (h0 : 1 ≤ n) (h1 : n ≤ 1000) (ha : w.cell? a = some (.string s)) :
    Calls Tryz.prog 102 #[.slice (some a) 1 1, .int .i64 n] w fun e w' => e = .returned (.slice (some ⟨w.heap.size, 0, none⟩) n n) ∧ w'.heap[w.heap.size]? = some (.cells (Array.replicate n (.string s)) 9 (0, 0)) ∧ Below w.heap.size w w' := by
  have hn : ¬ ((n : Int) < 0) := by omega
  have hn1 : decide ((n : Int) < 0) = false := decide_eq_false hn
  clear hn
  have hmul : ∀ w, Calls Tryz.prog 154 #[.int .u64 1, .int .u64 n] w fun e w' => e = .returned (.tuple #[.int .u64 0, .int .u64 n]) ∧ w' = w := by
    intro w
    have := Tryz.bits_Mul 1 n (by decide) (by omega) w
    rw [Nat.one_mul, Nat.div_eq_of_lt (by omega), Nat.mod_eq_of_lt (by omega)] at this
    exact this
  have HM := Aside0.mk hmul
  have H0 := Aside0.mk h0
  have H1 := Aside0.mk h1
  have k1 : ((9223372036854775807 : Int) < (n : Int)) = False := eq_false (by omega)
  have k2 : decide ((9223372036854775807 : Int) < (n : Int)) = false := decide_eq_false (by omega)
  have k3 : decide (9223372036854775807 < n) = false := decide_eq_false (by omega)
  have k4 : IntKind.i64.wrap (n : Int) = n := by rw [IntKind.wrap_i64]; omega
  have k5 : IntKind.u64.wrap (n : Int) = n := by rw [IntKind.wrap_u64]; omega
  have k6 : (0 ≤ (n : Int)) = True := eq_true (by omega)
  clear hmul h0 h1
  have hmk := make33 n H1.out w
  have hin : ∀ j, j < ([(.string s : Value)]).length → ((w.alloc (.cells (rowJ ⟨#[]⟩ 0 n).toArray 9)).cell? ⟨w.heap.size, 0 + j, none⟩).isSome = true := by
    intro j hj
    rw [blk_cell (MapKept.heap_alloc w _).1]
    have : 0 + j < (rowJ ⟨#[]⟩ 0 n).length := by
      simp [rowJ] at hj ⊢
      have := H0.out
      omega
    rw [Nat.zero_add] at this ⊢
    simp [this]
  have hcp := run_copy_cells (P := Tryz.prog) (w.alloc (.cells (rowJ ⟨#[]⟩ 0 n).toArray 9)) 77 77 3 9 w.heap.size 0 n n a 1 1 [.string s] Tryz.underlying77 (by kernel_rfl) (by have := H0.out; show 1 = Nat.min 1 n; exact (Nat.min_eq_left this).symm) (by
    intro j v hj
    cases j with
    | zero =>
      simp at hj
      subst hj
      have e : a.add 0 = a := by simp [Addr.add]
      rw [e]
      exact (World.cell?_alloc_lt _ _ _ (World.block_lt_of_cell? w _ ha)).trans ha
    | succ j => simp at hj) hin (by intro j _; exact blk_frozen (MapKept.heap_alloc w _).1 _) (by intro v hv; simp at hv; subst hv; rfl)
  clear hin
  go_enter Tryz.func102, Tryz.ntmps102
  go_wp2_with (first
    | (go_at_call 154; (with_reducible refine (HM.out _).mono ?_); rintro e w1 ⟨rfl, rfl⟩))
  obtain ⟨cur, hcur, hcs, hcl⟩ := setCells_row (g := w1.heap.size) (e := 9) [Value.string s] 0 (w1.alloc (.cells (rowJ ⟨#[]⟩ 0 n).toArray 9)) (rowJ ⟨#[]⟩ 0 n).toArray (MapKept.heap_alloc w1 _).1 (by have := H0.out; simp [rowJ]; omega)
  have hst : cur.toList = rowJ s 1 n := by
    rw [hcl]
    have := H0.out
    obtain ⟨k, rfl⟩ : ∃ k, n = k + 1 := ⟨n - 1, by omega⟩
    simp [rowJ, List.replicate_succ]
  obtain rfl : cur = (rowJ s 1 n).toArray := by rw [← hst]
  have HQ0 := Aside0.mk hcur
  have HB0 : Aside0 (Below w1.heap.size w1 ((w1.alloc (.cells (rowJ ⟨#[]⟩ 0 n).toArray 9)).setCells w1.heap.size 0 [Value.string s])) := ⟨below_setG (below_alloc (Below.refl _ _) _) (Nat.le_refl _) _ _⟩
  clear hcur hcs hcl hst hmk hcp
  go_loopg [8] n (fun kq v8 w' => ∃ j : Nat, v8 = .int .i64 j ∧ Aside0 (1 ≤ j ∧ j ≤ n ∧ n ≤ j + kq) ∧ Aside0 (w'.heap[w1.heap.size]? = some (.cells (rowJ s j n).toArray 9 (0, 0))) ∧ Aside0 (Below w1.heap.size w1 w'))
  case atStart => exact ⟨1, rfl, ⟨Nat.le_refl _, H0.out, by omega⟩, HQ0, HB0⟩
  case round =>
    obtain ⟨j, rfl, HJ, HQ, HB⟩ := hrel
    by_cases hjn : j < n
    · have d1 : decide ((j : Int) < (n : Int)) = true := decide_eq_true (by omega)
      have d2 : decide (j < n) = true := decide_eq_true hjn
      have d3 : decide (j ≤ n) = true := decide_eq_true (by omega)
      have d4 : decide ((j : Int) ≤ (n : Int)) = true := decide_eq_true (by omega)
      have d5 : (j ≤ n) = True := eq_true (by omega)
      have d6 : ((j : Int) ≤ (n : Int)) = True := eq_true (by omega)
      have d7 : (0 ≤ (j : Int)) = True := eq_true (by omega)
      have d8 : (n = j) = False := eq_false (by omega)
      cases gk with
      | zero => have := HJ.out; omega
      | succ kk =>
        have HN := Aside0.mk hjn
        clear hjn
        go_upto_region 9 with (fail)
        have J := HJ.out
        have hjn := HN.out
        have hrow : ∀ i v, (rowJ s j n)[i]? = some v → wr.drew.cell? ⟨w1.heap.size, i, none⟩ = some v := by
          intro i v hi
          show wr.cell? _ = _
          rw [blk_cell HQ.out]
          simpa using hi
        have hcp := run_copy_cells (P := Tryz.prog) wr.drew 77 77 3 9 w1.heap.size j (n - j) (n - j) ⟨w1.heap.size, 0, none⟩ j n (List.replicate (Nat.min j (n - j)) (.string s)) Tryz.underlying77 (by kernel_rfl) (by rw [List.length_replicate]) (by
          intro i v hi
          have e : (⟨w1.heap.size, 0, none⟩ : Addr).add i = ⟨w1.heap.size, i, none⟩ := by simp [Addr.add]; intro hk; exact hk.symm
          rw [e]
          refine hrow i v ?_
          rw [List.getElem?_replicate] at hi
          split at hi
          · rename_i hlt
            have : i < j := Nat.lt_of_lt_of_le hlt (Nat.min_le_left _ _)
            unfold rowJ
            rw [List.getElem?_append_left (by simpa using this), List.getElem?_replicate, if_pos this]; exact hi
          · cases hi) (by
          intro i hi
          rw [List.length_replicate] at hi
          have h2 : i < n - j := Nat.lt_of_lt_of_le hi (Nat.min_le_right _ _)
          have h3 : j + i < (rowJ s j n).length := by simp [rowJ]; omega
          rw [hrow (j + i) _ (List.getElem?_eq_getElem h3)]; rfl) (by intro i _; exact blk_frozen (show wr.drew.heap[w1.heap.size]? = _ from HQ.out) _) (by intro v hv; obtain ⟨_, rfl⟩ := List.mem_replicate.1 hv; rfl)
        rw [List.length_replicate] at hcp
        clear hrow J hjn
        have hmin : Nat.min j (n - j) ≤ j ∧ Nat.min j (n - j) ≤ n - j ∧ (1 ≤ j → 1 ≤ n - j → 1 ≤ Nat.min j (n - j)) := ⟨Nat.min_le_left _ _, Nat.min_le_right _ _, fun a b => Nat.le_min.2 ⟨a, b⟩⟩
        have HMin := Aside0.mk hmin
        generalize hu : Nat.min j (n - j) = u at *
        clear hmin hu
        go_region_with (fail)
        go_wp2
        go_roundg kk
        case measure => omega
        case rel =>
          have J := HJ.out
          have hjn := HN.out
          have hm := HMin.out
          have hn1 := H1.out
          obtain ⟨cur, e1, e2, e3⟩ := setCells_row (g := w1.heap.size) (e := 9) (List.replicate u (Value.string s)) j wr.drew (rowJ s j n).toArray HQ.out (by simp [rowJ]; omega)
          have e4 : cur.toList = rowJ s (j + u) n := by
            rw [e3]
            simp only [rowJ, List.length_replicate]
            rw [List.take_append_of_le_length (by simp), List.take_of_length_le (by simp), List.drop_append, List.drop_eq_nil_of_le (by simp), List.length_replicate, List.nil_append, List.drop_replicate, List.replicate_append_replicate]
            congr 2
            omega
          obtain rfl : cur = (rowJ s (j + u) n).toArray := by rw [← e4]
          refine ⟨j + u, ?_, ⟨by omega⟩, ⟨e1⟩, ⟨?_⟩⟩
          · rw [Value.int.injEq]; refine ⟨rfl, ?_⟩; rw [IntKind.wrap_i64]; omega
          · obtain ⟨t1, t2, t3, t4⟩ := setCells_same w1.heap.size (List.replicate u (Value.string s)) j wr.drew
            exact (below_drew HB.out).trans ⟨t1, t2, t3, by rw [t4]; exact Nat.le_refl _, fun k hk => setCells_far _ _ k (by omega)⟩
    · have hjn2 : j = n := by have := HJ.out; omega
      subst hjn2
      have d1 : decide ((j : Int) < (j : Int)) = false := decide_eq_false (by omega)
      have d2 : decide (j < j) = false := decide_eq_false (by omega)
      go_wp2
      go_ret
      refine ⟨rfl, ?_, HB.out⟩
      have := HQ.out
      rw [this]
      simp [rowJ]
def zer (n : Nat) : ByteArray := ⟨(List.replicate n (0 : UInt8)).toArray⟩
theorem zer_size (n : Nat) : (zer n).size = n := by
  show (List.replicate n (0 : UInt8)).toArray.size = n
  simp
theorem repeat_zer (n : Nat) : (⟨(Lib.repeatL (⟨#[0]⟩ : ByteArray).data.toList n).toArray⟩ : ByteArray) = zer n := by
  unfold zer
  congr 2
  induction n with
  | zero => rfl
  | succ n ih => rw [List.replicate_succ, ← ih]; rfl
def newS (n : Nat) : PS := { safe := List.replicate n (zer 128), last := fun _ => none, afl := [], halts := false, after := 0, halted := false }
theorem row_R {w : World} {q n base : Nat} {F : Nat → Prop} {s : ByteArray} (h : w.heap[q]? = some (.cells (Array.replicate n (.string s)) 9 (0, 0))) (hb : base ≤ q) (hF : F q) (hn : n ≤ 1000) : Kd.R Kd.string 9 w base F (.slice (some ⟨q, 0, none⟩) n n) (List.replicate n s) := by
  have hl : (List.replicate n s).length = n := List.length_replicate
  refine Kd.R_of_own (enc := Value.string) ?_ (fun k hk => by simp [Value.ownBlock] at hk; subst hk; exact hF)
  rw [hl]
  have e : encs Value.string (List.replicate n s) = List.replicate n (Value.string s) := by simp [encs]
  rw [e]
  refine ⟨by simp, .inr ⟨q, n, _, rfl, hb, h, Nat.le_refl _, by unfold maxLen; omega, by simp, by simp⟩⟩
set_option maxHeartbeats 8000000 in
set_option maxRecDepth 100000 in
theorem new_any (w : World) (n : Nat) (h0 : 1 ≤ n) (h1 : n ≤ 200) :
    Calls Tryz.prog 44 #[.int .i64 n] w fun e w' => ∃ g, e = .returned (.pointer (some ⟨g, 0, none⟩)) ∧ IsP w.heap.size (fun k => w.heap.size ≤ k) w' g (newS n) ∧ Below w.heap.size w w' := by
  have HB := Aside0.mk (Below.refl w.heap.size w)
  have H0 := Aside0.mk h0
  have H1 := Aside0.mk h1
  have d1 : decide ((n : Int) < 1) = false := decide_eq_false (by omega)
  have d2 : decide ((200 : Int) < (n : Int)) = false := decide_eq_false (by omega)
  have d3 : decide (n < 1) = false := decide_eq_false (by omega)
  have d4 : decide (200 < n) = false := decide_eq_false (by omega)
  have d5 : (n = 0) = False := eq_false (by omega)
  have d6 : decide (n = 0) = false := decide_eq_false (by omega)
  clear h0 h1
  have hmm := @run_makeMap Tryz.prog
  have hrep : ∀ w, Calls Tryz.prog 103 #[.string ⟨#[0]⟩, .int .i64 128] w fun e w' => e = .returned (.string (zer 128)) ∧ Below w.heap.size w w' := by
    intro w
    have := Tryz.strings_Repeat ⟨#[0]⟩ 128 w (by decide) (by decide)
    rw [repeat_zer] at this
    exact this
  have HR := Aside0.mk hrep
  clear hrep
  go_enter Tryz.func44, Tryz.ntmps44
  go_wp2_with (first
    | (go_at_call 103; (with_reducible refine (HR.out _).mono ?_); rintro e w1 ⟨rfl, hb⟩; have Z1 := Aside0.mk hb; clear hb)
    | (go_at_call 102; go_must (refine (repeat_any _ _ (zer 128) n H0.out (Nat.le_trans H1.out (by decide)) (blk_cell (MapKept.heap_alloc _ _).1 0)).mono ?_); rintro e w2 ⟨rfl, hq, hb⟩; have Z2 := Aside0.mk hq; have Z3 := Aside0.mk hb; clear hq hb))
  go_ret
  have hs1 := Z1.out.size
  have hs2 : (w1.alloc (Obj.cells #[Value.string (zer 128)] 9)).heap.size = w1.heap.size + 1 := by simp
  have q2 := Z2.out
  have hs3 := Z3.out.size
  rw [hs2] at q2 hs3
  have hq : w1.heap.size + 1 < w2.heap.size := blk_lt q2
  have m1 := MapKept.heap_alloc w2 (Obj.map #[] 0)
  have hs4 : (w2.alloc (Obj.map #[] 0)).heap.size = w2.heap.size + 1 := by simp
  have m2 := MapKept.heap_alloc (w2.alloc (Obj.map #[] 0)) (Obj.cells #[Value.slice (some { block := w1.heap.size + 1, off := 0 }) n n, Value.map (some w2.heap.size), Value.slice none 0 0, Value.bool false, Value.int IntKind.i64 0, Value.bool false] 114)
  rw [hs4] at m2
  have q4 := (m2.2 (w1.heap.size + 1) (by omega)).trans ((m1.2 _ hq).trans q2)
  have l4 := (IsLast.made w2).at (m2.2 w2.heap.size (by omega))
  have b1 : Below w.heap.size w (w1.alloc (Obj.cells #[Value.string (zer 128)] 9)) := below_alloc Z1.out _
  have b2 : Below w.heap.size w w2 := b1.trans (Z3.out.mono (by omega))
  refine ⟨_, rfl, ⟨_, w2.heap.size, _, m2.1, by omega, (show w.heap.size ≤ _ by omega), by omega, (show w.heap.size ≤ _ by omega), row_R q4 (by omega) (show w.heap.size ≤ _ by omega) (by have := H1.out; omega), Kd.R_nil _ _ _ _ _, l4⟩, below_alloc (below_alloc b2 _) _⟩
end Go.Proofs.YtdhaoaehboonpaaGreat.VP
end
section
namespace Go.Proofs.YtdhaoaehboonpaaGreat.VP
open Go.RowKit Go.Proofs.YtdhaoaehboonpaaGreatW.PrintWords Go.Proofs.YtdhaoaehboonpaaGreatW.PrintLast Go.Proofs.YtdhaoaehboonpaaGreatW.PrintMore
set_option linter.unusedVariables false
set_option linter.unusedSimpArgs false
open PSm
end Go.Proofs.YtdhaoaehboonpaaGreat.VP
end
section
namespace Go.Proofs.YtdhaoaehboonpaaGreat.VP
open Go.RowKit Go.Proofs.YtdhaoaehboonpaaGreatW.PrintWords Go.Proofs.YtdhaoaehboonpaaGreatW.PrintLast Go.Proofs.YtdhaoaehboonpaaGreatW.PrintMore
set_option linter.unusedVariables false
set_option linter.unusedSimpArgs false
def Own (w : World) (k : Nat) : Prop := (∃ cs q, w.heap[k]? = some (.cells cs q (0, 0)) ∧ (q = 114 ∨ q = 9 ∨ q = 116)) ∨ ∃ es c, w.heap[k]? = some (.map es c)
theorem IsP.narrow {base : Nat} {F : Nat → Prop} {w : World} {g : Nat} {S : PS} (h : IsP base F w g S) : IsP base (fun k => F k ∧ base ≤ k ∧ k < w.heap.size ∧ Own w k) w g S := by
  obtain ⟨v, m, B, h1, h2, h3, h4, h5, h6, h7, h8⟩ := h
  have hl := h8.lt
  obtain ⟨es, c, hm, hrest⟩ := h8
  refine ⟨v, m, B, h1, h2, ⟨h3, h2, blk_lt h1, .inl ⟨_, _, h1, .inl rfl⟩⟩, h4, ⟨h5, h4, hl, .inr ⟨es, c, hm⟩⟩, ?_, ?_, ⟨es, c, hm, hrest⟩⟩
  · refine Kd.R_mono (Kd.R_bound h6) ?_
    rintro k ⟨a, b, d, q, hq, cs, hc⟩
    refine ⟨a, b, d, .inl ⟨cs, q, hc, ?_⟩⟩
    simp [Kd.string, Kd.scalar] at hq
    exact .inr (.inl hq)
  · refine Kd.R_mono (Kd.R_bound h7) ?_
    rintro k ⟨a, b, d, q, hq, cs, hc⟩
    refine ⟨a, b, d, .inl ⟨cs, q, hc, ?_⟩⟩
    simp [k116, Kd.iso, Kd.pair, Kd.int, Kd.string, Kd.scalar] at hq
    exact .inr (.inr hq)
def Others (w w' : World) : Prop := ∀ (k : Nat) (cs : Array Value) (t : TypeId), w.heap[k]? = some (.cells cs t (0, 0)) → t ≠ 114 → t ≠ 9 → t ≠ 116 → w'.heap[k]? = some (.cells cs t (0, 0))
theorem Others.of_kept {w w' : World} {F : Nat → Prop} (h : Kept w w' (fun k => F k ∧ Own w k)) : Others w w' := by
  intro k cs t hk h1 h2 h3
  rw [h.2 k (blk_lt hk) ?_]; exact hk
  rintro ⟨_, ⟨cs', q, e, hq⟩ | ⟨es, c, e⟩⟩
  · rw [hk] at e
    injection e with e
    injection e with _ e
    rcases hq with hq | hq | hq
    · exact h1 (e.trans hq)
    · exact h2 (e.trans hq)
    · exact h3 (e.trans hq)
  · rw [hk] at e; cases e
def IsQ (w0 w : World) (g : Nat) (S : PS) : Prop := Below w0.heap.size w0 w ∧ IsP w0.heap.size (fun k => w0.heap.size ≤ k) w g S
section
variable {w0 w w' : World} {g : Nat} {S : PS}
theorem IsP.lower {base base' : Nat} {F : Nat → Prop} (h : IsP base F w g S) (hb : base' ≤ base) : IsP base' F w g S := by
  obtain ⟨v, m, B, h1, h2, h3, h4, h5, h6, h7, h8⟩ := h
  exact ⟨v, m, B, h1, Nat.le_trans hb h2, h3, Nat.le_trans hb h4, h5, Kd.R_lower h6 hb, Kd.R_lower h7 hb, h8⟩
theorem IsQ.below (h : IsQ w0 w g S) (hb : Below w.heap.size w w') : IsQ w0 w' g S := ⟨h.1.trans (hb.mono h.1.size), h.2.below hb⟩
theorem IsQ.alloc (h : IsQ w0 w g S) (o : Obj) : IsQ w0 (w.alloc o) g S := h.below (below_alloc (Below.refl _ _) o)
theorem IsQ.drew (h : IsQ w0 w g S) : IsQ w0 w.drew g S := h.below (below_drew (Below.refl _ _))
theorem q_of {S' : PS} (h : IsQ w0 w g S) {F : Nat → Prop} (hF : ∀ k, F k → w0.heap.size ≤ k) (h1 : IsP w0.heap.size (fun k => F k ∨ w.heap.size ≤ k) w' g S') (h2 : w0.heap.size ≤ w.heap.size → Below w0.heap.size w w') : IsQ w0 w' g S' :=
  ⟨h.1.trans (h2 h.1.size), h1.mono (fun k hk => hk.elim (hF k) (fun hk => Nat.le_trans h.1.size hk))⟩
def seS (S : PS) : PS := { S with safe := settled S S.afl.length, afl := [], last := fun _ => none }
def faS (S : PS) (cl : List Int) : PS := { safe := (failed S cl S.afl.length).1, last := fun _ => none, afl := [], halts := false, after := 0, halted := false }
theorem q_storeG (h : IsQ w0 w g S) (n : Int) (b : ByteArray) (wn : (Lit.int .i64 n).wf = true) (hl : S.afl.length ≤ 1000) :
    Calls Tryz.prog 28 #[.pointer (some ⟨g, 0, none⟩), .int .i64 n, .string b] w fun e w' => e = .returned (.int .i64 (storeE S n b)) ∧ IsQ w0 w' g (storeS S n b) ∧ Others w w' := by
  refine (store_any h.2.narrow n b wn (Nat.le_trans hl (by decide))).mono ?_
  rintro e w' ⟨rfl, hi, hk, hb⟩
  refine ⟨rfl, ?_, Others.of_kept (F := fun k => w0.heap.size ≤ k ∧ w0.heap.size ≤ k ∧ k < w.heap.size) ⟨hk.1, fun k h1 h2 => hk.2 k h1 (fun h3 => h2 ⟨⟨h3.1, h3.2.1, h3.2.2.1⟩, h3.2.2.2⟩)⟩⟩
  exact q_of h (F := fun k => w0.heap.size ≤ k ∧ w0.heap.size ≤ k ∧ k < w.heap.size ∧ Own w k) (fun k hk => hk.1) hi hb
end
structure WellS (S : PS) (n k : Nat) : Prop where
  halted : S.halted = false
  halts : S.halts = false
  after : S.after = 0
  pages : pagesOk S
  len : S.safe.length = n
  few : S.afl.length = k
theorem WellS.new (n : Nat) : WellS (newS n) n 0 :=
  ⟨rfl, rfl, rfl, ⟨fun b hb => by obtain ⟨_, rfl⟩ := List.mem_replicate.1 hb; exact zer_size _, fun p hp => by simp [newS] at hp⟩, List.length_replicate, rfl⟩
section
variable {S : PS} {N k : Nat}
theorem foldl_size {l : List S116} {sf : List ByteArray} (h : ∀ b ∈ sf, b.size = 128) (hl : ∀ p ∈ l, p.f1.size = 128) : ∀ b ∈ l.foldl (fun sf p => sf.set p.f0.toNat p.f1) sf, b.size = 128 := by
  induction l generalizing sf with
  | nil => exact h
  | cons p t ih =>
    rw [List.foldl_cons]
    refine ih (fun b hb => ?_) (fun q hq => hl q (List.mem_cons_of_mem _ hq))
    rcases List.mem_or_eq_of_mem_set hb with hb | rfl
    · exact h b hb
    · exact hl p List.mem_cons_self
theorem WellS.se (h : WellS S N k) : WellS (seS S) N 0 :=
  ⟨h.halted, h.halts, h.after, ⟨foldl_size h.pages.1 (fun p hp => (h.pages.2 p (List.mem_of_mem_take hp)).2), fun p hp => by simp [seS] at hp⟩, (settled_length _ _).trans h.len, rfl⟩
variable {w0 w : World} {g : Nat}
end
theorem failed_nil (S : PS) (i : Nat) : failed S [] i = (S.safe, 0) := by
  induction i with
  | zero => rfl
  | succ i ih => rw [failed, if_neg (fun h => by simp at h), ih]
section
variable {w0 w w' : World} {g : Nat} {S : PS}
end
end Go.Proofs.YtdhaoaehboonpaaGreat.VP
end
section
namespace Go.Proofs.YtdhaoaehboonpaaGreat.Cr
open Go.RowKit Go.Proofs.YtdhaoaehboonpaaGreat.PRd Go.Proofs.YtdhaoaehboonpaaGreatW.PrintWords Go.Proofs.YtdhaoaehboonpaaGreatW.PrintLast Go.Proofs.YtdhaoaehboonpaaGreatW.PrintMore
set_option linter.unusedSimpArgs false
set_option linter.unusedVariables false
def by8 (x : Int) : UInt8 := UInt8.ofNat (x % 256).toNat
def be8 (v : Int) : List UInt8 := [by8 (v / 2 ^ 56), by8 (v / 2 ^ 48), by8 (v / 2 ^ 40), by8 (v / 2 ^ 32), by8 (v / 2 ^ 24), by8 (v / 2 ^ 16), by8 (v / 2 ^ 8), by8 (v / 2 ^ 0)]
def be2 (v : Int) : List UInt8 := [by8 (v / 2 ^ 8), by8 (v / 2 ^ 0)]
theorem num_step (k : Nat) (v : Int) (i : Nat) (l : List Int) (hi : i ≤ 7) (hl : l.length ≤ 100) :
    crown_number.l0 (k + 1) v (i : Int) l = crown_number.l0 k v ((i : Int) - 1) (l ++ [(v / 2 ^ (8 * i)) % 256]) := by
  have e1 : wrap64 (8 * (i : Int)) = ((8 * i : Nat) : Int) := by unfold wrap64; omega
  have e2 : wrap64 ((i : Int) - 1) = (i : Int) - 1 := by unfold wrap64; omega
  have e3 : shr .i64 v ((8 * i : Nat) : Int) = v / 2 ^ (8 * i) := by
    unfold shr
    show v / 2 ^ min (((8 * i : Nat) : Int).toNat) 64 = _
    rw [Int.toNat_natCast, Nat.min_eq_left (by omega)]
  simp only [crown_number.l0]
  rw [if_pos (by omega), e1, if_pos (by omega), if_pos (by omega), e2, e3]
theorem num_end (k : Nat) (v : Int) (l : List Int) : crown_number.l0 (k + 1) v (-1) l = some (strOfNums l) := by
  simp only [crown_number.l0]; rw [if_neg (by omega)]
theorem number8 (v : Int) (m : Nat) : crown_number.f (m + 10) v 8 = some ⟨(be8 v).toArray⟩ := by
  unfold crown_number.f
  rw [show wrap64 (8 - 1) = ((7 : Nat) : Int) from by unfold wrap64; decide]
  rw [num_step _ _ _ _ (by decide) (by simp), show ((7 : Nat) : Int) - 1 = ((6 : Nat) : Int) from rfl,
    num_step _ _ _ _ (by decide) (by simp), show ((6 : Nat) : Int) - 1 = ((5 : Nat) : Int) from rfl,
    num_step _ _ _ _ (by decide) (by simp), show ((5 : Nat) : Int) - 1 = ((4 : Nat) : Int) from rfl,
    num_step _ _ _ _ (by decide) (by simp), show ((4 : Nat) : Int) - 1 = ((3 : Nat) : Int) from rfl,
    num_step _ _ _ _ (by decide) (by simp), show ((3 : Nat) : Int) - 1 = ((2 : Nat) : Int) from rfl,
    num_step _ _ _ _ (by decide) (by simp), show ((2 : Nat) : Int) - 1 = ((1 : Nat) : Int) from rfl,
    num_step _ _ _ _ (by decide) (by simp), show ((1 : Nat) : Int) - 1 = ((0 : Nat) : Int) from rfl,
    num_step _ _ _ _ (by decide) (by simp), show ((0 : Nat) : Int) - 1 = -1 from rfl, num_end]
  rfl
theorem number2 (v : Int) (m : Nat) : crown_number.f (m + 10) v 2 = some ⟨(be2 v).toArray⟩ := by
  unfold crown_number.f
  rw [show wrap64 (2 - 1) = ((1 : Nat) : Int) from by unfold wrap64; decide]
  rw [num_step _ _ _ _ (by decide) (by simp), show ((1 : Nat) : Int) - 1 = ((0 : Nat) : Int) from rfl,
    num_step _ _ _ _ (by decide) (by simp), show ((0 : Nat) : Int) - 1 = -1 from rfl, num_end]
  rfl
def okC (g r p : Int) : Bool := decide (1 ≤ g) && decide (g ≤ 4611686018427387904) && decide (8 ≤ p) && decide (p ≤ 200) && decide (2 ≤ r) && decide (r < p)
theorem okC_iff {g r p : Int} : okC g r p = true ↔ 1 ≤ g ∧ g ≤ 4611686018427387904 ∧ 8 ≤ p ∧ p ≤ 200 ∧ 2 ≤ r ∧ r < p := by
  unfold okC; simp [and_assoc]
def enc (g r p : Int) : List UInt8 := be8 g ++ (be2 r ++ (be2 p ++ (List.replicate 108 0 ++ be8 g)))
def encB (g r p : Int) : ByteArray := ⟨(enc g r p).toArray⟩
theorem enc_length (g r p : Int) : (enc g r p).length = 128 := by
  unfold enc; simp only [List.length_append, List.length_replicate]; rfl
theorem encB_size (g r p : Int) : (encB g r p).size = 128 := by
  show (enc g r p).toArray.size = 128
  rw [List.size_toArray, enc_length]
def putA (g r p : Int) : ByteArray := if okC g r p = true then encB g r p else ⟨#[]⟩
theorem mk_append (a b : List UInt8) : (⟨a.toArray⟩ : ByteArray) ++ ⟨b.toArray⟩ = ⟨(a ++ b).toArray⟩ := by
  apply ByteArray.ext
  simp
theorem mk_size (a : List UInt8) : (⟨a.toArray⟩ : ByteArray).size = a.length := by
  show a.toArray.size = _; simp
theorem be8_len (v : Int) : (be8 v).length = 8 := rfl
theorem be2_len (v : Int) : (be2 v).length = 2 := rfl
def vstep (v : Int) (c : UInt8) : Int := Go.bits .or .i64 (wrap64 (v * 256)) (wrap64 (c.toNat : Int))
def val (l : List UInt8) : Int := l.foldl vstep 0
theorem bt_get (b : ByteArray) (i : Nat) (h : i < b.size) : bt b (i : Int) = (b[i].toNat : Int) := by
  unfold bt; simp [h]
theorem value_loop (b : ByteArray) (hb : b.size ≤ 1000) (d : Nat) : ∀ (k i : Nat) (v : Int), b.size - i = d → i ≤ b.size → d < k →
    crown_value.l0 k b v (b.size : Int) (i : Int) = some ((b.data.toList.drop i).foldl vstep v) := by
  induction d with
  | zero =>
    intro k i v hd hi hk
    obtain ⟨k, rfl⟩ : ∃ m, k = m + 1 := ⟨k - 1, by omega⟩
    simp only [crown_value.l0]
    rw [if_neg (by omega), List.drop_of_length_le (by simp; omega)]
    rfl
  | succ d ih =>
    intro k i v hd hi hk
    obtain ⟨k, rfl⟩ : ∃ m, k = m + 1 := ⟨k - 1, by omega⟩
    have hlt : i < b.size := by omega
    simp only [crown_value.l0]
    rw [if_pos (by omega), if_pos (by omega), if_pos (by omega), show wrap64 ((i : Int) + 1) = ((i + 1 : Nat) : Int) from by unfold wrap64; omega,
      ih k (i + 1) _ (by omega) (by omega) (by omega), bt_get b i hlt]
    have hl : i < b.data.toList.length := by simpa using hlt
    rw [List.drop_eq_getElem_cons hl, List.foldl_cons]
    rfl
theorem value_f (b : ByteArray) (hb : b.size ≤ 1000) (k : Nat) (hk : b.size < k) : crown_value.f k b = some (val b.data.toList) := by
  unfold crown_value.f
  have := value_loop b hb b.size k 0 0 (by omega) (by omega) hk
  rw [List.drop_zero] at this
  exact this
theorem vstep_plain {v : Int} {c : UInt8} (h0 : 0 ≤ v) (h1 : v < 36028797018963968) : vstep v c = v * 256 + c.toNat := by
  have hc := c.toNat_lt
  unfold vstep
  have e1 : wrap64 (v * 256) = v * 256 := by unfold wrap64; omega
  have e2 : wrap64 (c.toNat : Int) = c.toNat := by unfold wrap64; omega
  rw [e1, e2]
  have hw : ∀ n : Int, 0 ≤ n → n < 2 ^ 63 → IntKind.i64.wrap n = n := fun n a b => by
    have b' : n < 9223372036854775808 := b
    rw [IntKind.wrap_i64]; omega
  have h64 : v * 256 < 2 ^ 63 := by show v * 256 < 9223372036854775808; omega
  have c64 : (c.toNat : Int) < 2 ^ 63 := by show (c.toNat : Int) < 9223372036854775808; omega
  exact bits_join .i64 63 (by decide) hw 8 _ _ (by omega) (by omega) h64 (by omega) (by omega) c64
theorem by8_nat {x : Int} : ((by8 x).toNat : Int) = x % 256 := by
  unfold by8
  rw [UInt8.toNat_ofNat']
  omega
theorem vstep_div {x y : Int} (h0 : 0 ≤ x) (h1 : x ≤ 4611686018427387904) (e : y = x / 256) : vstep y (by8 x) = x := by
  subst e
  rw [vstep_plain (by omega) (by omega), by8_nat]
  omega
theorem fold_step {y z : Int} {c : UInt8} {l : List UInt8} {r : Int} (h : vstep y c = z) (k : l.foldl vstep z = r) : (c :: l).foldl vstep y = r := by
  rw [List.foldl_cons, h]; exact k
theorem val2 {v : Int} (h0 : 0 ≤ v) (h1 : v < 65536) : val (be2 v) = v := by
  have s1 : vstep 0 (by8 (v / 2 ^ 8)) = v / 2 ^ 8 := vstep_div (by omega) (by omega) (by omega)
  have s2 : vstep (v / 2 ^ 8) (by8 (v / 2 ^ 0)) = v / 2 ^ 0 := vstep_div (by omega) (by omega) (by omega)
  have e : v / 2 ^ 0 = v := by omega
  unfold val be2
  exact fold_step s1 (fold_step s2 e)
theorem val8 {v : Int} (h0 : 0 ≤ v) (h1 : v ≤ 4611686018427387904) : val (be8 v) = v := by
  have s1 : vstep 0 (by8 (v / 2 ^ 56)) = v / 2 ^ 56 := vstep_div (by omega) (by omega) (by omega)
  have s2 : vstep (v / 2 ^ 56) (by8 (v / 2 ^ 48)) = v / 2 ^ 48 := vstep_div (by omega) (by omega) (by omega)
  have s3 : vstep (v / 2 ^ 48) (by8 (v / 2 ^ 40)) = v / 2 ^ 40 := vstep_div (by omega) (by omega) (by omega)
  have s4 : vstep (v / 2 ^ 40) (by8 (v / 2 ^ 32)) = v / 2 ^ 32 := vstep_div (by omega) (by omega) (by omega)
  have s5 : vstep (v / 2 ^ 32) (by8 (v / 2 ^ 24)) = v / 2 ^ 24 := vstep_div (by omega) (by omega) (by omega)
  have s6 : vstep (v / 2 ^ 24) (by8 (v / 2 ^ 16)) = v / 2 ^ 16 := vstep_div (by omega) (by omega) (by omega)
  have s7 : vstep (v / 2 ^ 16) (by8 (v / 2 ^ 8)) = v / 2 ^ 8 := vstep_div (by omega) (by omega) (by omega)
  have s8 : vstep (v / 2 ^ 8) (by8 (v / 2 ^ 0)) = v / 2 ^ 0 := vstep_div (by omega) (by omega) (by omega)
  have e : v / 2 ^ 0 = v := by omega
  unfold val be8
  exact fold_step s1 (fold_step s2 (fold_step s3 (fold_step s4 (fold_step s5 (fold_step s6 (fold_step s7 (fold_step s8 e)))))))
def gG (b : ByteArray) : Int := val (b.data.toList.take 8)
def gR (b : ByteArray) : Int := val ((b.data.toList.drop 8).take 2)
def gP (b : ByteArray) : Int := val ((b.data.toList.drop 10).take 2)
def isC (b : ByteArray) : Bool := okC (gG b) (gR b) (gP b) && decide (b.data.toList = enc (gG b) (gR b) (gP b))
def getA (b : ByteArray) : Int × Int × Int × Bool := if isC b = true then (gG b, gR b, gP b, true) else (0, 0, 0, false)
theorem extract_list (b : ByteArray) (i j : Nat) : (b.extract i j).data.toList = (b.data.toList.drop i).take (j - i) := by
  rw [ByteArray.data_extract, Array.toList_extract, List.extract_eq_take_drop]
theorem gG_enc {g r p : Int} (h : okC g r p = true) : gG (encB g r p) = g := by
  obtain ⟨h1, h2, _⟩ := okC_iff.1 h
  unfold gG
  have : (encB g r p).data.toList.take 8 = be8 g := rfl
  rw [this, val8 (by omega) (by omega)]
theorem gR_enc {g r p : Int} (h : okC g r p = true) : gR (encB g r p) = r := by
  obtain ⟨h1, h2, _⟩ := okC_iff.1 h
  unfold gR
  have : ((encB g r p).data.toList.drop 8).take 2 = be2 r := rfl
  rw [this, val2 (by omega) (by omega)]
theorem gP_enc {g r p : Int} (h : okC g r p = true) : gP (encB g r p) = p := by
  obtain ⟨h1, h2, _⟩ := okC_iff.1 h
  unfold gP
  have : ((encB g r p).data.toList.drop 10).take 2 = be2 p := rfl
  rw [this, val2 (by omega) (by omega)]
theorem getA_enc {g r p : Int} (h : okC g r p = true) : getA (encB g r p) = (g, r, p, true) := by
  have : isC (encB g r p) = true := by
    unfold isC
    rw [gG_enc h, gR_enc h, gP_enc h, h]
    exact decide_eq_true rfl
  unfold getA
  rw [if_pos this, gG_enc h, gR_enc h, gP_enc h]
theorem isC_enc {b : ByteArray} (h : isC b = true) : okC (gG b) (gR b) (gP b) = true ∧ b.data.toList = enc (gG b) (gR b) (gP b) := by
  unfold isC at h
  rw [Bool.and_eq_true] at h
  exact ⟨h.1, of_decide_eq_true h.2⟩
def pickA (a b : ByteArray) : Int × Int × Int × Int × Bool :=
  if isC a = true ∧ (isC b = true → gG b ≤ gG a) then (gG a, gR a, gP a, 0, true)
  else if isC b = true then (gG b, gR b, gP b, 1, true) else (0, 0, 0, 0, false)
theorem and1 (n : Int) : Go.bits .and .i64 n 1 = n % 2 := by
  unfold Go.bits
  show IntKind.i64.wrap ((BitVec.ofInt 64 n &&& BitVec.ofInt 64 1).toNat : Int) = _
  rw [BitVec.toNat_and, show (BitVec.ofInt 64 1).toNat = 2 ^ 1 - 1 by decide, Nat.and_two_pow_sub_one_eq_mod, BitVec.toNat_ofInt, IntKind.wrap_i64]
  omega
theorem slot_f (n : Int) : crown_Slot.f n = some (n % 2) := by unfold crown_Slot.f; rw [and1]
theorem isC_encB {g r p : Int} (h : okC g r p = true) : isC (encB g r p) = true := by
  have := getA_enc h
  unfold getA at this
  cases hc : isC (encB g r p)
  · rw [hc] at this; simp at this
  · rfl
theorem putA_ok {g r p : Int} (h : okC g r p = true) : putA g r p = encB g r p := by unfold putA; rw [if_pos h]
theorem num8_any (v : Int) (w : World) : Calls Tryz.prog 158 #[.int .i64 v, .int .i64 8] w fun e w' => e = .returned (.string ⟨(be8 v).toArray⟩) ∧ Below w.heap.size w w' := crown_number.calls 10 v 8 _ w (number8 v 0)
theorem num2_any (v : Int) (w : World) : Calls Tryz.prog 158 #[.int .i64 v, .int .i64 2] w fun e w' => e = .returned (.string ⟨(be2 v).toArray⟩) ∧ Below w.heap.size w w' := crown_number.calls 10 v 2 _ w (number2 v 0)
theorem value_any (b : ByteArray) (hb : b.size ≤ 1000) (w : World) : Calls Tryz.prog 159 #[.string b] w fun e w' => e = .returned (.int .i64 (val b.data.toList)) ∧ Drawn0 w w' := crown_value.calls (b.size + 1) b _ w (value_f b hb _ (by omega))
theorem slot_any (n : Int) (w : World) : Calls Tryz.prog 106 #[.int .i64 n] w fun e w' => e = .returned (.int .i64 (n % 2)) ∧ Drawn0 w w' := crown_Slot.calls n _ w (slot_f n)
def zer108 : ByteArray := ⟨(List.replicate 108 (0 : UInt8)).toArray⟩
theorem zer108_size : zer108.size = 108 := by decide +kernel
theorem rep_any (w : World) : Calls Tryz.prog 103 #[.string ⟨#[0]⟩, .int .i64 108] w fun e w' => e = .returned (.string zer108) ∧ Below w.heap.size w w' := by
  have h := Tryz.strings_Repeat ⟨#[0]⟩ 108 w (by decide) (by decide)
  have e : (⟨(Lib.repeatL (⟨#[0]⟩ : ByteArray).data.toList 108).toArray⟩ : ByteArray) = zer108 := by decide +kernel
  rw [e] at h
  exact h
theorem enc_join (g r p : Int) : (⟨(be8 g).toArray⟩ : ByteArray) ++ ⟨(be2 r).toArray⟩ ++ ⟨(be2 p).toArray⟩ ++ zer108 ++ ⟨(be8 g).toArray⟩ = encB g r p := by
  unfold zer108 encB enc
  simp only [mk_append, List.append_assoc]
theorem put_bad (g r p : Int) (hk : okC g r p = false) : putA g r p = ⟨#[]⟩ := by unfold putA; rw [hk]; rfl
set_option maxHeartbeats 8000000 in
set_option maxRecDepth 100000 in
theorem put_any (g r p : Int) (w : World) :
    Calls Tryz.prog 105 #[.agg #[.int .i64 g, .int .i64 r, .int .i64 p]] w fun e w' => e = .returned (.tuple #[.string (putA g r p), .bool (okC g r p)]) ∧ Below w.heap.size w w' := by
  have HB := Aside0.mk (below_alloc (Below.refl w.heap.size w) (.cells #[.int .i64 g, .int .i64 r, .int .i64 p] 97))
  have h := @okC_iff g r p
  cases hk : okC g r p with
  | false =>
    have hn : ¬ (1 ≤ g ∧ g ≤ 4611686018427387904 ∧ 8 ≤ p ∧ p ≤ 200 ∧ 2 ≤ r ∧ r < p) := fun hh => by rw [h.2 hh] at hk; cases hk
    rw [put_bad g r p hk]
    clear h hk
    by_cases c1 : g < 1
    · have d1 := decide_eq_true c1
      clear c1 hn
      go_enter Tryz.func105, Tryz.ntmps105
      go_wp2
      go_ret2
      exact ⟨rfl, by repeat (first | (with_reducible first | exact HB.out | apply below_alloc | apply pw_below_drewN | apply below_drew1) | exact HB.out)⟩
    · have d1 := decide_eq_false c1
      by_cases c2 : 4611686018427387904 < g
      · have d2 := decide_eq_true c2
        clear c1 c2 hn
        go_enter Tryz.func105, Tryz.ntmps105
        go_wp2
        go_ret2
        exact ⟨rfl, by repeat (first | (with_reducible first | exact HB.out | apply below_alloc | apply pw_below_drewN | apply below_drew1) | exact HB.out)⟩
      · have d2 := decide_eq_false c2
        by_cases c3 : p < 8
        · have d3 := decide_eq_true c3
          clear c1 c2 c3 hn
          go_enter Tryz.func105, Tryz.ntmps105
          go_wp2
          go_ret2
          exact ⟨rfl, by repeat (first | (with_reducible first | exact HB.out | apply below_alloc | apply pw_below_drewN | apply below_drew1) | exact HB.out)⟩
        · have d3 := decide_eq_false c3
          by_cases c4 : 200 < p
          · have d4 := decide_eq_true c4
            clear c1 c2 c3 c4 hn
            go_enter Tryz.func105, Tryz.ntmps105
            go_wp2
            go_ret2
            exact ⟨rfl, by repeat (first | (with_reducible first | exact HB.out | apply below_alloc | apply pw_below_drewN | apply below_drew1) | exact HB.out)⟩
          · have d4 := decide_eq_false c4
            by_cases c5 : r < 2
            · have d5 := decide_eq_true c5
              clear c1 c2 c3 c4 c5 hn
              go_enter Tryz.func105, Tryz.ntmps105
              go_wp2
              go_ret2
              exact ⟨rfl, by repeat (first | (with_reducible first | exact HB.out | apply below_alloc | apply pw_below_drewN | apply below_drew1) | exact HB.out)⟩
            · have d5 := decide_eq_false c5
              have d6 : decide (p ≤ r) = true := decide_eq_true (by omega)
              clear c1 c2 c3 c4 c5 hn
              go_enter Tryz.func105, Tryz.ntmps105
              go_wp2
              go_ret2
              exact ⟨rfl, by repeat (first | (with_reducible first | exact HB.out | apply below_alloc | apply pw_below_drewN | apply below_drew1) | exact HB.out)⟩
  | true =>
    obtain ⟨h1, h2, h3, h4, h5, h6⟩ := h.1 hk
    have d1 : decide (g < 1) = false := decide_eq_false (by omega)
    have d2 : decide (4611686018427387904 < g) = false := decide_eq_false (by omega)
    have d3 : decide (p < 8) = false := decide_eq_false (by omega)
    have d4 : decide (200 < p) = false := decide_eq_false (by omega)
    have d5 : decide (r < 2) = false := decide_eq_false (by omega)
    have d6 : decide (p ≤ r) = false := decide_eq_false (by omega)
    have hpa : putA g r p = encB g r p := by unfold putA; rw [if_pos hk]
    have hj := enc_join g r p
    have N8 := num8_any g
    have N2 := num2_any r
    have N3 := num2_any p
    have NR := rep_any
    obtain ⟨G, hG⟩ : ∃ G : ByteArray, G = ⟨(be8 g).toArray⟩ := ⟨_, rfl⟩
    obtain ⟨R, hR⟩ : ∃ R : ByteArray, R = ⟨(be2 r).toArray⟩ := ⟨_, rfl⟩
    obtain ⟨P, hP⟩ : ∃ P : ByteArray, P = ⟨(be2 p).toArray⟩ := ⟨_, rfl⟩
    obtain ⟨Z, hZ⟩ : ∃ Z : ByteArray, Z = zer108 := ⟨_, rfl⟩
    have sG : G.size = 8 := by rw [hG, mk_size, be8_len]
    have sR : R.size = 2 := by rw [hR, mk_size, be2_len]
    have sP : P.size = 2 := by rw [hP, mk_size, be2_len]
    have sZ : Z.size = 108 := by rw [hZ, zer108_size]
    rw [← hG, ← hR, ← hP, ← hZ] at hj
    rw [← hG] at N8
    rw [← hR] at N2
    rw [← hP] at N3
    rw [← hZ] at NR
    rw [hpa, ← hj]
    have t1 : (9223372036854775807 < G.size + R.size) = False := eq_false (by omega)
    have t2 : (9223372036854775807 < G.size + R.size + P.size) = False := eq_false (by omega)
    have t3 : (9223372036854775807 < G.size + R.size + P.size + Z.size) = False := eq_false (by omega)
    have t4 : (9223372036854775807 < G.size + R.size + P.size + Z.size + G.size) = False := eq_false (by omega)
    have N8 := Aside0.mk N8
    have N2 := Aside0.mk N2
    have N3 := Aside0.mk N3
    have NR := Aside0.mk NR
    have HX := Aside0.mk (MapKept.heap_alloc w (.cells #[.int .i64 g, .int .i64 r, .int .i64 p] 97)).1
    clear h hk h1 h2 h3 h4 h5 h6 hpa hj hG hR hP hZ sG sR sP sZ
    go_enter Tryz.func105, Tryz.ntmps105
    go_upto_region 4 with (go_at_call 158; (with_reducible refine (N8.out _).mono ?_); rintro e w1 ⟨rfl, hb⟩; have HB1 := Aside0.mk (below_step HB.out hb); have HX1 := Aside0.mk ((hb.block _ (blk_lt HX.out)).trans HX.out); clear hb HB HX)
    have x1 := (blk_cell HX1.out 1).trans rfl
    have x2 := (blk_cell HX1.out 2).trans rfl
    go_region_held3 (fun W' => W'.cell? ⟨w.heap.size, 1, none⟩ = some (.int .i64 r) ∧ W'.cell? ⟨w.heap.size, 2, none⟩ = some (.int .i64 p)) (go_keep) (first
      | (go_at_call 158; go_must (first | (with_reducible refine (N2.out _).mono ?_) | (with_reducible refine (N3.out _).mono ?_)); rintro e w2 ⟨rfl, hb⟩; have n0_ := Aside0.mk (below_step (by repeat (first | (with_reducible first | exact HB1.out | apply below_alloc | apply pw_below_drewN | apply below_drew1) | exact HB1.out)) hb); have n1_ := Aside0.mk ((hb.block _ (blk_lt HX1.out)).trans HX1.out); clear hb HB1 HX1; have HB1 := n0_; have HX1 := n1_; clear n0_ n1_; have y1 := (blk_cell HX1.out 1).trans rfl; have y2 := (blk_cell HX1.out 2).trans rfl)
      | (go_at_call 103; go_must (with_reducible refine (NR.out _).mono ?_); rintro e w2 ⟨rfl, hb⟩; have n0_ := Aside0.mk (below_step (by repeat (first | (with_reducible first | exact HB1.out | apply below_alloc | apply pw_below_drewN | apply below_drew1) | exact HB1.out)) hb); have n1_ := Aside0.mk ((hb.block _ (blk_lt HX1.out)).trans HX1.out); clear hb HB1 HX1; have HB1 := n0_; have HX1 := n1_; clear n0_ n1_; have y1 := (blk_cell HX1.out 1).trans rfl; have y2 := (blk_cell HX1.out 2).trans rfl))
    all_goals
      go_wp2
      go_ret2
      exact ⟨rfl, by repeat (first | (with_reducible first | exact HB1.out | apply below_alloc | apply pw_below_drewN | apply below_drew1) | exact HB1.out)⟩
theorem isC_size {b : ByteArray} (h : isC b = true) : b.size = 128 := by
  have := congrArg List.length (isC_enc h).2
  rw [enc_length] at this
  have e : b.data.toList.length = b.size := by simp
  omega
theorem set3_other {w : World} {g k : Nat} {x y z : Value} {o : Obj} (hne : k ≠ g) (h : w.heap[k]? = some o) : (((w.setCell ⟨g, 0, none⟩ x).setCell ⟨g, 1, none⟩ y).setCell ⟨g, 2, none⟩ z).heap[k]? = some o := by
  rw [Below.heap_setCell _ _ _ _ hne, Below.heap_setCell _ _ _ _ hne, Below.heap_setCell _ _ _ _ hne, h]
theorem set3_self {w : World} {g : Nat} {x y z a b c : Value} {t : TypeId} (h : w.heap[g]? = some (.cells #[a, b, c] t (0, 0))) : (((w.setCell ⟨g, 0, none⟩ x).setCell ⟨g, 1, none⟩ y).setCell ⟨g, 2, none⟩ z).heap[g]? = some (.cells #[x, y, z] t (0, 0)) := by
  have h1 := blk_set h 0 x
  have h2 := blk_set h1 1 y
  have h3 := blk_set h2 2 z
  simpa using h3
theorem set3_below {w0 w : World} {g : Nat} {x y z : Value} (h : Below w0.heap.size w0 w) (hg : w0.heap.size ≤ g) : Below w0.heap.size w0 (((w.setCell ⟨g, 0, none⟩ x).setCell ⟨g, 1, none⟩ y).setCell ⟨g, 2, none⟩ z) := below_set (below_set (below_set h hg) hg) hg
theorem alloc_at {w : World} {cs : Array Value} {t : TypeId} {k : Nat} (h : k = w.heap.size) : (w.alloc (.cells cs t)).heap[k]? = some (.cells cs t (0, 0)) := by subst h; exact (MapKept.heap_alloc w _).1
theorem getA_no {b : ByteArray} (h : isC b = false) : getA b = (0, 0, 0, false) := by unfold getA; rw [h]; rfl
theorem getA_yes {b : ByteArray} (h : isC b = true) : getA b = (gG b, gR b, gP b, true) := by unfold getA; rw [h]; rfl
set_option maxHeartbeats 8000000 in
set_option maxRecDepth 100000 in
theorem get_any (b : ByteArray) (w : World) :
    Calls Tryz.prog 107 #[.string b] w fun e w' => e = .returned (.tuple #[.agg #[.int .i64 (getA b).1, .int .i64 (getA b).2.1, .int .i64 (getA b).2.2.1], .bool (getA b).2.2.2]) ∧ Below w.heap.size w w' := by
  have HB := Aside0.mk (below_alloc (Below.refl w.heap.size w) (.cells #[.int .i64 0, .int .i64 0, .int .i64 0] 97))
  have H0 := Aside0.mk (alloc_at (w := w) (cs := #[.int .i64 0, .int .i64 0, .int .i64 0]) (t := 97) rfl)
  by_cases hs : b.size = 128
  · have d1 : ((b.size : Int) == 128) = true := beq_iff_eq.2 (by omega)
    have d2 : ((b.size : Int) != 128) = false := by rw [hs]; rfl
    have k1 : (8 ≤ b.size) = True := eq_true (by omega)
    have k2 : (10 ≤ b.size) = True := eq_true (by omega)
    have k3 : (12 ≤ b.size) = True := eq_true (by omega)
    have k4 : ((8 : Int) ≤ (b.size : Int)) = True := eq_true (by omega)
    have k5 : ((10 : Int) ≤ (b.size : Int)) = True := eq_true (by omega)
    have k6 : ((12 : Int) ≤ (b.size : Int)) = True := eq_true (by omega)
    have v1 := value_any (b.extract 0 8) (by rw [ByteArray.size_extract]; omega)
    have v2 := value_any (b.extract 8 10) (by rw [ByteArray.size_extract]; omega)
    have v3 := value_any (b.extract 10 12) (by rw [ByteArray.size_extract]; omega)
    rw [extract_list] at v1 v2 v3
    change ∀ w, Calls Tryz.prog 159 #[.string (b.extract 0 8)] w fun e w' => e = .returned (.int .i64 (gG b)) ∧ Drawn0 w w' at v1
    change ∀ w, Calls Tryz.prog 159 #[.string (b.extract 8 10)] w fun e w' => e = .returned (.int .i64 (gR b)) ∧ Drawn0 w w' at v2
    change ∀ w, Calls Tryz.prog 159 #[.string (b.extract 10 12)] w fun e w' => e = .returned (.int .i64 (gP b)) ∧ Drawn0 w w' at v3
    have hpt := fun w => put_any (gG b) (gR b) (gP b) w
    have hya : isC b = true → getA b = (gG b, gR b, gP b, true) := getA_yes
    have hno : isC b = false → getA b = (0, 0, 0, false) := getA_no
    have hic : isC b = (okC (gG b) (gR b) (gP b) && decide (putA (gG b) (gR b) (gP b) = b)) := by
      unfold isC
      cases hk : okC (gG b) (gR b) (gP b) with
      | false => rfl
      | true =>
        have e1 : putA (gG b) (gR b) (gP b) = encB (gG b) (gR b) (gP b) := by unfold putA; rw [if_pos hk]
        rw [e1]
        simp only [Bool.true_and]
        refine decide_eq_decide.2 ⟨fun h => ?_, fun h => ?_⟩
        · apply ByteArray.ext
          apply Array.ext'
          rw [h]; rfl
        · have h2 := congrArg (fun x : ByteArray => x.data.toList) h
          exact h2.symm
    obtain ⟨G, hG⟩ : ∃ G, G = gG b := ⟨_, rfl⟩
    obtain ⟨R, hR⟩ : ∃ G, G = gR b := ⟨_, rfl⟩
    obtain ⟨P, hP⟩ : ∃ G, G = gP b := ⟨_, rfl⟩
    rw [← hG, ← hR, ← hP] at hic hya hpt
    rw [← hG] at v1
    rw [← hR] at v2
    rw [← hP] at v3
    obtain ⟨b8, hb8⟩ : ∃ x, x = b.extract 0 8 := ⟨_, rfl⟩
    obtain ⟨b10, hb10⟩ : ∃ x, x = b.extract 8 10 := ⟨_, rfl⟩
    obtain ⟨b12, hb12⟩ : ∃ x, x = b.extract 10 12 := ⟨_, rfl⟩
    have V1 := Aside0.mk v1
    have V2 := Aside0.mk v2
    have V3 := Aside0.mk v3
    obtain ⟨A, hA⟩ : ∃ A, A = getA b := ⟨_, rfl⟩
    rw [← hA] at hya hno ⊢
    have HY := Aside0.mk hya
    have HN := Aside0.mk hno
    have HIC := Aside0.mk hic
    have HPT := Aside0.mk hpt
    clear hs v1 v2 v3 hya hno hic hpt hG hR hP hA
    go_enter Tryz.func107, Tryz.ntmps107
    go_upto_region 3 with (fail)
    go_cut [4] (fun v4 W => v4 = .pointer (some ⟨w.heap.size + 1, 0, none⟩) ∧ Aside0 (W.heap[w.heap.size]? = some (.cells #[.int .i64 0, .int .i64 0, .int .i64 0] 97 (0, 0))) ∧ Aside0 (W.heap[w.heap.size + 1]? = some (.cells #[.int .i64 G, .int .i64 R, .int .i64 P] 97 (0, 0))) ∧ Aside0 (Below w.heap.size w W))
    case first =>
      go_region_with (first
        | (go_at_call 159; go_must (first | (with_reducible refine (V1.out _).mono ?_) | (with_reducible refine (V2.out _).mono ?_) | (with_reducible refine (V3.out _).mono ?_)); rintro e w2 ⟨rfl, hd⟩; obtain ⟨nd, rfl⟩ := hd))
      all_goals
        go_wp2_with (fail)
        go_meet
        refine ⟨rfl, ⟨?_⟩, ⟨?_⟩, ⟨?_⟩⟩
        · (with_reducible repeat (first | exact H0.out | refine blk_drewN ?_ _ | refine blk_drew ?_ | refine blk_alloc ?_ _ | refine set3_other (Nat.ne_of_lt (Nat.lt_succ_self _)) ?_))
        · first
            | (refine set3_self (a := .int .i64 0) (b := .int .i64 0) (c := .int .i64 0) ?_; (with_reducible repeat (first | refine blk_drewN ?_ _ | refine blk_drew ?_)); exact alloc_at (by simp))
            | ((with_reducible repeat (first | refine blk_drewN ?_ _ | refine blk_drew ?_)); exact alloc_at (by simp))
        · (with_reducible repeat (first | exact HB.out | refine set3_below ?_ (Nat.le_succ _) | apply below_alloc | apply pw_below_drewN | apply below_drew1))
    case rest =>
      obtain ⟨rfl, X0, X1, HB1⟩ := hcut
      have c1 := (blk_cell X1.out 0).trans rfl
      have c2 := (blk_cell X1.out 1).trans rfl
      have c3 := (blk_cell X1.out 2).trans rfl
      have z1 := (blk_cell X0.out 0).trans rfl
      have z2 := (blk_cell X0.out 1).trans rfl
      have z3 := (blk_cell X0.out 2).trans rfl
      have f1 := blk_frozen X0.out 0
      have f2 := blk_frozen X0.out 1
      have f3 := blk_frozen X0.out 2
      clear V1 V2 V3 H0
      cases hk : okC G R P with
      | false =>
        have HA := Aside0.mk (HN.out (by rw [HIC.out, hk]; rfl))
        have HPT2 := HPT.out
        rw [hk] at HPT2
        have HP := Aside0.mk HPT2
        clear HN HY HIC HPT HPT2 hk
        go_wp2_with (go_at_call 105; (with_reducible refine (HP.out _).mono ?_); rintro e w2 ⟨rfl, hb⟩; have n0_ := Aside0.mk (below_step HB1.out hb); have n1_ := Aside0.mk ((hb.block _ (blk_lt X0.out)).trans X0.out); have n2_ := Aside0.mk ((hb.block _ (blk_lt X1.out)).trans X1.out); clear hb HB1 X0 X1; have HB1 := n0_; have X0 := n1_; have X1 := n2_; clear n0_ n1_ n2_; have e1 := blk_frozen X0.out 0; have e2 := blk_frozen X0.out 1; have e3 := blk_frozen X0.out 2; have y1 := (blk_cell X0.out 0).trans rfl; have y2 := (blk_cell X0.out 1).trans rfl; have y3 := (blk_cell X0.out 2).trans rfl; have v1 := (blk_cell X1.out 0).trans rfl; have v2 := (blk_cell X1.out 1).trans rfl; have v3 := (blk_cell X1.out 2).trans rfl)
        refine bodyPost_ret (results_ct rfl _ _ w.heap.size 97 #[.int .i64 0, .int .i64 0, .int .i64 0] (0, 0) _ rfl (by exact set3_self X0.out) Tryz.underlying97 rfl (by kernel_rfl)) rfl ?_
        exact ⟨by rw [HA.out]; rfl, set3_below HB1.out (Nat.le_refl _)⟩
      | true =>
        have HPT2 := HPT.out
        rw [hk] at HPT2
        have hic := HIC.out
        rw [hk, Bool.true_and] at hic
        obtain ⟨pb, hpb⟩ : ∃ x, x = putA G R P := ⟨_, rfl⟩
        rw [← hpb] at HPT2 hic
        have HP := Aside0.mk HPT2
        by_cases he : pb = b
        · have HA := Aside0.mk (HY.out (by rw [hic, decide_eq_true he]))
          have k7 : decide (pb = b) = true := decide_eq_true he
          have k8 : (pb.toList == b.toList) = true := by rw [he]; simp
          have k9 : (pb.toList != b.toList) = false := by rw [he]; simp
          clear HN HY HIC HPT HPT2 hk hic hpb he
          go_wp2_with (go_at_call 105; (with_reducible refine (HP.out _).mono ?_); rintro e w2 ⟨rfl, hb⟩; have n0_ := Aside0.mk (below_step HB1.out hb); have n1_ := Aside0.mk ((hb.block _ (blk_lt X0.out)).trans X0.out); have n2_ := Aside0.mk ((hb.block _ (blk_lt X1.out)).trans X1.out); clear hb HB1 X0 X1; have HB1 := n0_; have X0 := n1_; have X1 := n2_; clear n0_ n1_ n2_; have e1 := blk_frozen X0.out 0; have e2 := blk_frozen X0.out 1; have e3 := blk_frozen X0.out 2; have y1 := (blk_cell X0.out 0).trans rfl; have y2 := (blk_cell X0.out 1).trans rfl; have y3 := (blk_cell X0.out 2).trans rfl; have v1 := (blk_cell X1.out 0).trans rfl; have v2 := (blk_cell X1.out 1).trans rfl; have v3 := (blk_cell X1.out 2).trans rfl)
          refine bodyPost_ret (results_ct rfl _ _ w.heap.size 97 #[.int .i64 G, .int .i64 R, .int .i64 P] (0, 0) _ rfl (by exact set3_self X0.out) Tryz.underlying97 rfl (by kernel_rfl)) rfl ?_
          exact ⟨by rw [HA.out]; rfl, set3_below HB1.out (Nat.le_refl _)⟩
        · have HA := Aside0.mk (HN.out (by rw [hic, decide_eq_false he]))
          have k7 : decide (pb = b) = false := decide_eq_false he
          have k8 : (pb.toList == b.toList) = false := by
            rw [ByteArray.toList_eq, ByteArray.toList_eq]
            refine beq_eq_false_iff_ne.2 (fun h => he ?_)
            apply ByteArray.ext
            exact Array.ext' h
          have k9 : (pb.toList != b.toList) = true := by unfold bne; rw [k8]; rfl
          clear HN HY HIC HPT HPT2 hk hic hpb he
          go_wp2_with (go_at_call 105; (with_reducible refine (HP.out _).mono ?_); rintro e w2 ⟨rfl, hb⟩; have n0_ := Aside0.mk (below_step HB1.out hb); have n1_ := Aside0.mk ((hb.block _ (blk_lt X0.out)).trans X0.out); have n2_ := Aside0.mk ((hb.block _ (blk_lt X1.out)).trans X1.out); clear hb HB1 X0 X1; have HB1 := n0_; have X0 := n1_; have X1 := n2_; clear n0_ n1_ n2_; have e1 := blk_frozen X0.out 0; have e2 := blk_frozen X0.out 1; have e3 := blk_frozen X0.out 2; have y1 := (blk_cell X0.out 0).trans rfl; have y2 := (blk_cell X0.out 1).trans rfl; have y3 := (blk_cell X0.out 2).trans rfl; have v1 := (blk_cell X1.out 0).trans rfl; have v2 := (blk_cell X1.out 1).trans rfl; have v3 := (blk_cell X1.out 2).trans rfl)
          refine bodyPost_ret (results_ct rfl _ _ w.heap.size 97 #[.int .i64 0, .int .i64 0, .int .i64 0] (0, 0) _ rfl (by exact set3_self X0.out) Tryz.underlying97 rfl (by kernel_rfl)) rfl ?_
          exact ⟨by rw [HA.out]; rfl, set3_below HB1.out (Nat.le_refl _)⟩
  · have hn : isC b = false := by
      cases h : isC b with
      | false => rfl
      | true => exact absurd (isC_size h) hs
    rw [getA_no hn]
    have c2b0 : ((b.size : Int) == 128) = false := beq_eq_false_iff_ne.mpr (by omega)
    have c2b1 : ((b.size : Int) != 128) = true := bne_iff_ne.mpr (by omega)
    clear hs hn
    go_enter Tryz.func107, Tryz.ntmps107
    go_wp2
    refine bodyPost_ret (results_ct rfl _ _ w.heap.size 97 #[.int .i64 0, .int .i64 0, .int .i64 0] (0, 0) _ rfl (by exact H0.out) Tryz.underlying97 rfl (by kernel_rfl)) rfl ?_
    exact ⟨rfl, HB.out⟩
theorem cell3 {w : World} {g : Nat} {a b c : Value} {t : TypeId} (h : w.heap[g]? = some (.cells #[a, b, c] t (0, 0))) :
    w.cell? ⟨g, 0, none⟩ = some a ∧ w.cell? ⟨g, 1, none⟩ = some b ∧ w.cell? ⟨g, 2, none⟩ = some c ∧ w.frozen? ⟨g, 0, none⟩ = false ∧ w.frozen? ⟨g, 1, none⟩ = false ∧ w.frozen? ⟨g, 2, none⟩ = false :=
  ⟨(blk_cell h 0).trans rfl, (blk_cell h 1).trans rfl, (blk_cell h 2).trans rfl, blk_frozen h 0, blk_frozen h 1, blk_frozen h 2⟩
set_option maxHeartbeats 8000000 in
set_option maxRecDepth 100000 in
theorem pick_any (a b : ByteArray) (w : World) :
    Calls Tryz.prog 46 #[.string a, .string b] w fun e w' => e = .returned (.tuple #[.agg #[.int .i64 (pickA a b).1, .int .i64 (pickA a b).2.1, .int .i64 (pickA a b).2.2.1], .int .i64 (pickA a b).2.2.2.1, .bool (pickA a b).2.2.2.2]) ∧ Below w.heap.size w w' := by
  have HB := Aside0.mk (below_alloc (Below.refl w.heap.size w) (.cells #[.int .i64 0, .int .i64 0, .int .i64 0] 97))
  have H0 := Aside0.mk (alloc_at (w := w) (cs := #[.int .i64 0, .int .i64 0, .int .i64 0]) (t := 97) rfl)
  have ga := get_any a
  have gb := get_any b
  have key : ∀ (x1 x2 x3 : Int) (ia : Bool) (y1 y2 y3 : Int) (ib : Bool), getA a = (x1, x2, x3, ia) → getA b = (y1, y2, y3, ib) → pickA a b = if ia = true ∧ (ib = true → y1 ≤ x1) then (x1, x2, x3, 0, true) else if ib = true then (y1, y2, y3, 1, true) else (0, 0, 0, 0, false) := by
    intro x1 x2 x3 ia y1 y2 y3 ib h1 h2
    unfold pickA
    unfold getA at h1 h2
    cases ha : isC a <;> cases hb : isC b <;> rw [ha] at h1 <;> rw [hb] at h2 <;> simp at h1 h2 <;> obtain ⟨rfl, rfl, rfl, rfl⟩ := h1 <;> obtain ⟨rfl, rfl, rfl, rfl⟩ := h2 <;> simp
  obtain ⟨⟨x1, x2, x3, ia⟩, hx⟩ : ∃ x, x = getA a := ⟨_, rfl⟩
  obtain ⟨⟨y1, y2, y3, ib⟩, hy⟩ : ∃ x, x = getA b := ⟨_, rfl⟩
  have hk := key _ _ _ _ _ _ _ _ hx.symm hy.symm
  rw [← hx] at ga
  rw [← hy] at gb
  obtain ⟨pk, hpk⟩ : ∃ x, x = pickA a b := ⟨_, rfl⟩
  rw [← hpk] at hk ⊢
  have GA := Aside0.mk ga
  have GB := Aside0.mk gb
  clear key ga gb hx hy hpk
  have HK := Aside0.mk hk
  clear hk
  go_enter Tryz.func46, Tryz.ntmps46
  go_upto_region 2 with (go_at_call 107; (with_reducible refine (GA.out _).mono ?_); rintro e w1 ⟨rfl, hb⟩; have HB1 := Aside0.mk (below_step HB.out hb); have X0 := Aside0.mk ((hb.block _ (blk_lt H0.out)).trans H0.out); clear hb HB H0)
  obtain ⟨wA, hwA⟩ : ∃ wA, wA = w1.alloc (.cells #[.int .i64 x1, .int .i64 x2, .int .i64 x3] 97) := ⟨_, rfl⟩
  have X1 := Aside0.mk (show wA.heap[w1.heap.size]? = some (.cells #[.int .i64 x1, .int .i64 x2, .int .i64 x3] 97 (0, 0)) from by rw [hwA]; exact alloc_at rfl)
  have XA := Aside0.mk (show wA.heap[w.heap.size]? = some (.cells #[.int .i64 0, .int .i64 0, .int .i64 0] 97 (0, 0)) from by rw [hwA]; exact blk_alloc X0.out _)
  have HBA := Aside0.mk (show Below w.heap.size w wA from by rw [hwA]; exact below_alloc HB1.out _)
  have HG := Aside0.mk (show w.heap.size < w1.heap.size from blk_lt X0.out)
  rw [← hwA]
  obtain ⟨gx, hgx⟩ : ∃ g, g = w1.heap.size := ⟨_, rfl⟩
  rw [← hgx] at X1 HG ⊢
  clear hwA X0 HB1 hgx GA
  go_upto_region 3 with (go_at_call 107; (with_reducible refine (GB.out _).mono ?_); rintro e w2 ⟨rfl, hb⟩; have HB2 := Aside0.mk (below_step HBA.out hb); have X2 := Aside0.mk ((hb.block _ (blk_lt XA.out)).trans XA.out); have Y1 := Aside0.mk ((hb.block _ (blk_lt X1.out)).trans X1.out); clear hb HBA XA X1)
  obtain ⟨wB, hwB⟩ : ∃ wB, wB = w2.alloc (.cells #[.int .i64 y1, .int .i64 y2, .int .i64 y3] 97) := ⟨_, rfl⟩
  have Z2 := Aside0.mk (show wB.heap[w2.heap.size]? = some (.cells #[.int .i64 y1, .int .i64 y2, .int .i64 y3] 97 (0, 0)) from by rw [hwB]; exact alloc_at rfl)
  have Z1 := Aside0.mk (show wB.heap[gx]? = some (.cells #[.int .i64 x1, .int .i64 x2, .int .i64 x3] 97 (0, 0)) from by rw [hwB]; exact blk_alloc Y1.out _)
  have Z0 := Aside0.mk (show wB.heap[w.heap.size]? = some (.cells #[.int .i64 0, .int .i64 0, .int .i64 0] 97 (0, 0)) from by rw [hwB]; exact blk_alloc X2.out _)
  have HBB := Aside0.mk (show Below w.heap.size w wB from by rw [hwB]; exact below_alloc HB2.out _)
  rw [← hwB]
  obtain ⟨gy, hgy⟩ : ∃ g, g = w2.heap.size := ⟨_, rfl⟩
  rw [← hgy] at Z2 ⊢
  clear hwB X2 HB2 hgy GB Y1
  obtain ⟨p0, p1, p2, p3, p4, p5⟩ := cell3 Z0.out
  obtain ⟨q0, q1, q2, q3, q4, q5⟩ := cell3 Z1.out
  obtain ⟨r0, r1, r2, r3, r4, r5⟩ := cell3 Z2.out
  cases ia
  case false =>
    cases ib
    case false =>
      obtain rfl : pk = (0, 0, 0, 0, false) := HK.out.trans (by simp)
      clear HK
      go_wp2
      refine bodyPost_ret (results_ctt rfl _ _ w.heap.size 97 #[.int .i64 0, .int .i64 0, .int .i64 0] (0, 0) _ rfl (by exact set3_self Z0.out) Tryz.underlying97 rfl (by kernel_rfl)) rfl ?_
      exact ⟨rfl, set3_below HBB.out (Nat.le_refl _)⟩
    case true =>
      obtain rfl : pk = (y1, y2, y3, 1, true) := HK.out.trans (by simp)
      clear HK
      go_wp2
      refine bodyPost_ret (results_ctt rfl _ _ w.heap.size 97 #[.int .i64 y1, .int .i64 y2, .int .i64 y3] (0, 0) _ rfl (by exact set3_self Z0.out) Tryz.underlying97 rfl (by kernel_rfl)) rfl ?_
      exact ⟨rfl, set3_below HBB.out (Nat.le_refl _)⟩
  case true =>
    cases ib
    case false =>
      obtain rfl : pk = (x1, x2, x3, 0, true) := HK.out.trans (by simp)
      clear HK
      go_wp2
      refine bodyPost_ret (results_ctt rfl _ _ w.heap.size 97 #[.int .i64 x1, .int .i64 x2, .int .i64 x3] (0, 0) _ rfl (by exact set3_self Z0.out) Tryz.underlying97 rfl (by kernel_rfl)) rfl ?_
      exact ⟨rfl, set3_below HBB.out (Nat.le_refl _)⟩
    case true =>
      by_cases hle : y1 ≤ x1
      · have d1 : decide (y1 ≤ x1) = true := decide_eq_true hle
        obtain rfl : pk = (x1, x2, x3, 0, true) := HK.out.trans (if_pos ⟨rfl, fun _ => hle⟩)
        clear HK
        go_wp2
        refine bodyPost_ret (results_ctt rfl _ _ w.heap.size 97 #[.int .i64 x1, .int .i64 x2, .int .i64 x3] (0, 0) _ rfl (by exact set3_self Z0.out) Tryz.underlying97 rfl (by kernel_rfl)) rfl ?_
        exact ⟨rfl, set3_below HBB.out (Nat.le_refl _)⟩
      · have d1 : decide (y1 ≤ x1) = false := decide_eq_false hle
        obtain rfl : pk = (y1, y2, y3, 1, true) := HK.out.trans ((if_neg (fun h => hle (h.2 rfl))).trans (if_pos rfl))
        clear HK
        go_wp2
        refine bodyPost_ret (results_ctt rfl _ _ w.heap.size 97 #[.int .i64 y1, .int .i64 y2, .int .i64 y3] (0, 0) _ rfl (by exact set3_self Z0.out) Tryz.underlying97 rfl (by kernel_rfl)) rfl ?_
        exact ⟨rfl, set3_below HBB.out (Nat.le_refl _)⟩
end Go.Proofs.YtdhaoaehboonpaaGreat.Cr
end
section
namespace Go.Proofs.YtdhaoaehboonpaaGreat.V
open Go.RowKit Go.Proofs.YtdhaoaehboonpaaGreatW.PrintWords Go.Proofs.YtdhaoaehboonpaaGreatW.PrintLast Go.Proofs.YtdhaoaehboonpaaGreatW.PrintMore Go.Proofs.YtdhaoaehboonpaaGreatM
set_option linter.unusedVariables false
set_option linter.unusedSimpArgs false
def FnOk (w0 : World) (L : Value) (P : R2 → Bool) : Prop := ∃ fk bs cs, L = .func (.func fk) bs cs ∧ (∀ args w, (callFunc fk args).run Tryz.prog w = .ok (.enter fk args) w) ∧
  ∀ W (x : R2), Below w0.heap.size w0 W → Calls Tryz.prog fk (bs.push (.agg #[.int .i64 x.1, .string x.2]) ++ cs) W fun e w' => e = .returned (.bool (P x)) ∧ Below W.heap.size W w'
def idxP (P : R2 → Bool) (l : List R2) : Int := match l.findIdx? P with | some i => (i : Int) | none => -1
theorem idxP_none {P : R2 → Bool} {l : List R2} (h : l.any P = false) : idxP P l = -1 := by
  unfold idxP
  rw [List.findIdx?_eq_none_iff.2 (fun x hx => by
    cases hp : P x with
    | false => rfl
    | true => rw [List.any_eq_true.2 ⟨x, hx, hp⟩] at h; cases h)]
theorem idxP_some {P : R2 → Bool} {l : List R2} {i : Nat} (hi : i < l.length) (h : (l.take i).any P = false) (hp : P l[i] = true) : idxP P l = i := by
  unfold idxP
  rw [List.findIdx?_eq_some_iff_getElem.2 ⟨hi, hp, fun j hj => by
    intro hq
    have : (l.take i).any P = true := List.any_eq_true.2 ⟨l[j], List.mem_take_iff_getElem.2 ⟨j, by omega, rfl⟩, hq⟩
    rw [h] at this; cases this⟩]
theorem idxP_any (P : R2 → Bool) (l : List R2) : 0 ≤ idxP P l ↔ l.any P = true := by
  unfold idxP
  cases h : l.findIdx? P with
  | none =>
    rw [List.findIdx?_eq_none_iff] at h
    constructor
    · intro h1; simp at h1
    · intro h1
      obtain ⟨x, hx, hp⟩ := List.any_eq_true.1 h1
      rw [h x hx] at hp; cases hp
  | some i =>
    obtain ⟨hi, hp, _⟩ := List.findIdx?_eq_some_iff_getElem.1 h
    exact ⟨fun _ => List.any_eq_true.2 ⟨l[i], List.getElem_mem hi, hp⟩, fun _ => by simp⟩
theorem atR_get {l : List R2} {i : Nat} (h : i < l.length) : atR l i = l[i] := by unfold atR; rw [List.getD_eq_getElem?_getD, List.getElem?_eq_getElem h]; rfl
set_option maxHeartbeats 4000000 in
set_option maxRecDepth 100000 in
theorem indexW_any {w : World} {L : Value} {P : R2 → Bool} (HL : FnOk w L P) (A : Option Addr) (c : Nat) (l : List R2) (h : Kd.C kR w A l.length l) (hl : l.length ≤ 1000000) :
    Calls Tryz.prog 50 #[.slice A l.length c, L] w fun e w' => e = .returned (.int .i64 (idxP P l)) ∧ Below w.heap.size w w' := by
  obtain ⟨fk, bs, cs, rfl, eg, HF⟩ := HL
  have HC := Aside0.mk h
  have HF := Aside0.mk HF
  obtain ⟨r, hr⟩ : ∃ r, r = idxP P l := ⟨_, rfl⟩
  have HR := Aside0.mk hr
  obtain ⟨n, hn⟩ : ∃ n, n = l.length := ⟨_, rfl⟩
  have HN := Aside0.mk hn
  rw [← hn] at HC hl ⊢
  rw [← hr]
  have HB := Aside0.mk (Below.refl w.heap.size w)
  clear h hn hr
  go_enter Tryz.func50, Tryz.ntmps50
  go_wp2_with (fail)
  go_loopg [8] n (fun kx v8 wr => ∃ i : Nat, v8 = .int .i64 i ∧ Aside0 (i + kx = n) ∧ Aside0 ((l.take i).any P = false) ∧ Aside0 (Below w.heap.size w wr))
  case atStart => exact ⟨0, rfl, ⟨by omega⟩, ⟨by simp⟩, HB⟩
  case round =>
    clear HB
    obtain ⟨i, rfl, HI, HA, HB⟩ := hrel
    cases gk with
    | zero =>
      have hi : i = n := by have := HI.out; omega
      subst hi
      have d1 : decide ((i : Int) < (i : Int)) = false := decide_eq_false (by omega)
      have d2 : decide (i < i) = false := decide_eq_false (by omega)
      have hA := HA.out
      rw [List.take_of_length_le (by have := HN.out; omega)] at hA
      have HRR := Aside0.mk (show r = -1 from HR.out.trans (idxP_none hA))
      clear hA
      go_wp2_with (fail)
      go_ret
      exact ⟨by rw [HRR.out]; rfl, HB.out⟩
    | succ gk =>
      have hi : i < n := by have := HI.out; omega
      have hil : i < l.length := by have := HN.out; omega
      have d1 : decide ((i : Int) < (n : Int)) = true := decide_eq_true (by omega)
      have d2 : decide (i < n) = true := decide_eq_true hi
      have d3 : (i < n) = True := eq_true hi
      have d4 : ((i : Int) < (n : Int)) = True := eq_true (by omega)
      have d5 : (0 ≤ (i : Int)) = True := eq_true (by omega)
      obtain ⟨ad, rfl, x0, x1⟩ := at_R (Kd.C_below HC.out HB.out) i hi
      rw [atR_get hil] at x0 x1
      have hcl := fun (W : World) (hW : Below w.heap.size w W) => HF.out W l[i] hW
      have htk : (l.take (i + 1)).any P = P l[i] := by
        rw [List.take_succ_eq_append_getElem hil, List.any_append, HA.out]; simp
      have hid : P l[i] = true → r = i := fun hp => HR.out.trans (idxP_some hil HA.out hp)
      obtain ⟨x, hx⟩ : ∃ x, x = l[i] := ⟨_, rfl⟩
      rw [← hx] at x0 x1 hcl htk hid
      obtain ⟨xn, hxn⟩ : ∃ y, y = x.1 := ⟨_, rfl⟩
      obtain ⟨xb, hxb⟩ : ∃ y, y = x.2 := ⟨_, rfl⟩
      rw [← hxn, ← hxb] at hcl
      rw [← hxn] at x0
      rw [← hxb] at x1
      obtain ⟨t, ht⟩ : ∃ t, t = P x := ⟨_, rfl⟩
      rw [← ht] at hcl htk hid
      have HCL := Aside0.mk hcl
      have HTK := Aside0.mk htk
      have HID := Aside0.mk hid
      clear hcl htk hid hx hxn hxb ht hil
      cases t
      case true =>
        have HRI := Aside0.mk (HID.out rfl)
        clear HID
        go_wp2_with (fail)
        with_reducible refine (HCL.out _ HB.out).mono ?_
        rintro e w' ⟨rfl, hb⟩
        have HB2 := Aside0.mk (below_step HB.out hb)
        clear hb
        go_wp2_with (fail)
        go_ret
        exact ⟨by rw [HRI.out]; rfl, HB2.out⟩
      case false =>
        go_wp2_with (fail)
        with_reducible refine (HCL.out _ HB.out).mono ?_
        rintro e w' ⟨rfl, hb⟩
        have HB2 := Aside0.mk (below_step HB.out hb)
        clear hb
        go_wp2_with (fail)
        go_roundg gk
        case measure => omega
        case rel => exact ⟨i + 1, by first | rfl | go_num, ⟨by have := HI.out; omega⟩, HTK, HB2⟩
set_option maxHeartbeats 4000000 in
set_option maxRecDepth 100000 in
theorem containsW_any {w : World} {L : Value} {P : R2 → Bool} (HL : FnOk w L P) (A : Option Addr) (c : Nat) (l : List R2) (h : Kd.C kR w A l.length l) (hl : l.length ≤ 1000000) :
    Calls Tryz.prog 100 #[.slice A l.length c, L] w fun e w' => e = .returned (.bool (l.any P)) ∧ Below w.heap.size w w' := by
  have HI := Aside0.mk (indexW_any HL A c l h hl)
  obtain ⟨fk, bs, cs, rfl, eg, HF⟩ := HL
  have hx := idxP_any P l
  obtain ⟨r, hr⟩ : ∃ r, r = idxP P l := ⟨_, rfl⟩
  obtain ⟨t, ht⟩ : ∃ t, t = l.any P := ⟨_, rfl⟩
  rw [← hr] at HI hx
  rw [← ht] at hx ⊢
  have hdt : t = decide (0 ≤ r) := by
    cases t with
    | true => rw [decide_eq_true (hx.2 rfl)]
    | false => rw [decide_eq_false (fun h => by have := hx.1 h; cases this)]
  have HDT := Aside0.mk hdt
  obtain ⟨n, hn⟩ : ∃ n, n = l.length := ⟨_, rfl⟩
  rw [← hn] at HI ⊢
  clear h hn hr ht hx hl HF hdt
  go_enter Tryz.func100, Tryz.ntmps100
  go_wp2_with (fail)
  with_reducible refine (HI.out).mono ?_
  rintro e w' ⟨rfl, hb⟩
  have HB := Aside0.mk hb
  clear hb
  go_wp2_with (fail)
  go_ret
  exact ⟨by rw [HDT.out]; rfl, HB.out⟩
def isPg (n : Int) (x : R2) : Bool := decide (x.1 = n)
set_option maxHeartbeats 4000000 in
theorem fn_free {w : World} {b : Nat} {n : Int} (h : w.heap[b]? = some (.cells #[.int .i64 n] 3 (0, 0))) : FnOk w (.func (.func 101) #[] #[.pointer (some ⟨b, 0, none⟩)]) (isPg n) := by
  refine ⟨101, _, _, rfl, enters_of Tryz.func101 (by kernel_rfl) rfl, fun W x hb => ?_⟩
  have y0 : W.cell? ⟨b, 0, none⟩ = some (.int .i64 n) := (blk_cell ((hb.block _ (blk_lt h)).trans h) 0).trans rfl
  have hlt : b < W.heap.size := blk_lt ((hb.block _ (blk_lt h)).trans h)
  obtain ⟨xn, xb⟩ := x
  have HB := Aside0.mk (Below.refl W.heap.size W)
  clear h hb
  unfold isPg
  show Calls Tryz.prog 101 #[.agg #[.int .i64 xn, .string xb], .pointer (some ⟨b, 0, none⟩)] W _
  by_cases hx : xn = n
  · subst hx
    go_enter Tryz.func101, Tryz.ntmps101
    go_wp2
    go_ret
    exact ⟨by simp, by repeat (first | (with_reducible first | exact HB.out | apply below_alloc | apply pw_below_drewN | apply below_drew1) | exact HB.out)⟩
  · have d1 : (xn == n) = false := by simpa using hx
    go_enter Tryz.func101, Tryz.ntmps101
    go_wp2
    go_ret
    exact ⟨by simp [hx], by repeat (first | (with_reducible first | exact HB.out | apply below_alloc | apply pw_below_drewN | apply below_drew1) | exact HB.out)⟩
set_option maxHeartbeats 4000000 in
theorem fn_save {w : World} {b : Nat} {n : Int} (h : w.heap[b]? = some (.cells #[.int .i64 n] 3 (0, 0))) : FnOk w (.func (.func 51) #[] #[.pointer (some ⟨b, 0, none⟩)]) (isPg n) := by
  refine ⟨51, _, _, rfl, enters_of Tryz.func51 (by kernel_rfl) rfl, fun W x hb => ?_⟩
  have y0 : W.cell? ⟨b, 0, none⟩ = some (.int .i64 n) := (blk_cell ((hb.block _ (blk_lt h)).trans h) 0).trans rfl
  have hlt : b < W.heap.size := blk_lt ((hb.block _ (blk_lt h)).trans h)
  obtain ⟨xn, xb⟩ := x
  have HB := Aside0.mk (Below.refl W.heap.size W)
  clear h hb
  unfold isPg
  show Calls Tryz.prog 51 #[.agg #[.int .i64 xn, .string xb], .pointer (some ⟨b, 0, none⟩)] W _
  by_cases hx : xn = n
  · subst hx
    go_enter Tryz.func51, Tryz.ntmps51
    go_wp2
    go_ret
    exact ⟨by simp, by repeat (first | (with_reducible first | exact HB.out | apply below_alloc | apply pw_below_drewN | apply below_drew1) | exact HB.out)⟩
  · have d1 : (xn == n) = false := by simpa using hx
    go_enter Tryz.func51, Tryz.ntmps51
    go_wp2
    go_ret
    exact ⟨by simp [hx], by repeat (first | (with_reducible first | exact HB.out | apply below_alloc | apply pw_below_drewN | apply below_drew1) | exact HB.out)⟩
def notIn (live : List R2) (n : Int) : Bool := !live.any (isPg n)
def freeL (m : Nat) (live : List R2) : List Int := (pgs m).filter (notIn live)
theorem freeL_snoc (m : Nat) (live : List R2) : freeL (m + 1) live = if live.any (isPg ((m : Int) + 2)) = true then freeL m live else freeL m live ++ [(m : Int) + 2] := by
  unfold freeL
  rw [pgs_snoc, List.filter_append, List.filter_cons, List.filter_nil]
  unfold notIn
  cases live.any (isPg ((m : Int) + 2)) <;> simp
theorem freeL_len (m : Nat) (live : List R2) : (freeL m live).length ≤ m := by
  unfold freeL
  refine Nat.le_trans (List.length_filter_le _ _) ?_
  rw [pgs_length]; exact Nat.le_refl _
theorem ki_ne {w : World} {base : Nat} {ok : Nat → Prop} {v : Value} {xs : List Int} (h : (Kd.int .i64).R 3 w base ok v xs) : (Kd.int .i64).R 3 w base (fun k => ok k ∧ k < w.heap.size) v xs :=
  Kd.R_mono (Kd.R_bound h) (fun k hk => ⟨hk.1, hk.2.2.1⟩)
theorem row_not {α : Type} {d : Kd α} {w : World} {q e base : Nat} {v : Value} {xs : List α} (h : d.R e w base (fun k => k ≠ q) v xs) : some q ≠ v.ownBlock := by
  intro hk
  exact h.1 q hk.symm rfl
set_option maxHeartbeats 8000000 in
set_option maxRecDepth 100000 in
theorem free_any (w : World) (m : Nat) (hm : m ≤ 1000) (A : Option Addr) (c : Nat) (l : List R2) (h : Kd.C kR w A l.length l) (hl : l.length ≤ 1000000) :
    Calls Tryz.prog 43 #[.int .i64 ((m : Int) + 2), .slice A l.length c] w fun e w' => ∃ v, e = .returned v ∧ (Kd.int .i64).R 3 w' w.heap.size (fun _ => True) v (freeL m l) ∧ Below w.heap.size w w' := by
  have HC := Aside0.mk (fun (W : World) (b : Nat) (n : Int) (hb : Below w.heap.size w W) (hx : W.heap[b]? = some (.cells #[.int .i64 n] 3 (0, 0))) => containsW_any (fn_free hx) A c l (Kd.C_below h hb) hl)
  obtain ⟨ln, hln⟩ : ∃ n, n = l.length := ⟨_, rfl⟩
  rw [← hln] at HC ⊢
  have HB0 := Aside0.mk (below_alloc (Below.refl w.heap.size w) (.cells #[.int .i64 2] 3))
  have H0 := Aside0.mk (MapKept.heap_alloc w (.cells #[.int .i64 2] 3)).1
  clear h hl hln
  go_enter Tryz.func43, Tryz.ntmps43
  go_wp2_with (fail)
  go_loopg [5, 6] m (fun kq v5 v6 W => ∃ (i q : Nat), v6 = .pointer (some ⟨q, 0, none⟩) ∧ Aside0 (i + kq = m) ∧ Aside0 (W.heap[q]? = some (.cells #[.int .i64 ((i : Int) + 2)] 3 (0, 0))) ∧ Aside0 (w.heap.size ≤ q) ∧ Aside0 ((Kd.int .i64).R 3 W w.heap.size (fun k => k ≠ q) v5 (freeL i l)) ∧ Aside0 (Below w.heap.size w W))
  case atStart => exact ⟨0, _, rfl, ⟨by omega⟩, H0, ⟨Nat.le_refl _⟩, ⟨Kd.R_nil _ _ _ _ _⟩, HB0⟩
  case round =>
    clear HB0 H0
    obtain ⟨i, q, rfl, HI, HQ, HG, HR, HB⟩ := hrel
    rename World => W
    have c0 := (blk_cell HQ.out 0).trans rfl
    cases gk with
    | zero =>
      have hi : i = m := by have := HI.out; omega
      subst hi
      have d1 : decide ((i : Int) + 2 < (i : Int) + 2) = false := decide_eq_false (by omega)
      clear HI
      go_wp2_with (fail)
      go_ret
      exact ⟨_, rfl, Kd.R_mono HR.out (fun _ _ => trivial), HB.out⟩
    | succ gk =>
      have hi : i < m := by have := HI.out; omega
      have d1 : decide ((i : Int) + 2 < (m : Int) + 2) = true := decide_eq_true (by omega)
      have d2 : decide (i < m) = true := decide_eq_true hi
      have d3 : ((i : Int) < (m : Int)) = True := eq_true (by omega)
      have d4 : decide ((i : Int) < (m : Int)) = true := decide_eq_true (by omega)
      have hsn := freeL_snoc i l
      have hlen := freeL_len i l
      have hcl := HC.out W q ((i : Int) + 2) HB.out HQ.out
      obtain ⟨t, ht⟩ : ∃ t, t = l.any (isPg ((i : Int) + 2)) := ⟨_, rfl⟩
      rw [← ht] at hsn hcl
      have HCL := Aside0.mk hcl
      have HSN := Aside0.mk hsn
      have hq : (i : Int) + 2 + 1 = ((i + 1 : Nat) : Int) + 2 := by omega
      have HLEN := Aside0.mk hlen
      clear hcl hsn ht hlen
      cases t
      case true =>
        go_wp2_with (fail)
        with_reducible refine (HCL.out).mono ?_
        rintro e w2 ⟨rfl, hb⟩
        have HB2 := Aside0.mk (below_step HB.out hb)
        have HQ2 := Aside0.mk ((hb.block _ (blk_lt HQ.out)).trans HQ.out)
        have HR2 := Aside0.mk (Kd.R_below HR.out hb)
        clear hb HB HQ HR HCL
        have c1 := (blk_cell HQ2.out 0).trans rfl
        go_wp2_with (fail)
        go_roundg gk
        case measure => omega
        case rel =>
          refine ⟨i + 1, w2.heap.size, rfl, ⟨by have := HI.out; omega⟩, ⟨?_⟩, ⟨HB2.out.size⟩, ⟨?_⟩, ⟨below_alloc HB2.out _⟩⟩
          · rw [← hq]; exact (MapKept.heap_alloc w2 _).1
          · rw [HSN.out]
            exact Kd.R_alloc (Kd.R_mono (ki_ne HR2.out) (fun k hk => Nat.ne_of_lt hk.2)) _
      case false =>
        go_wp2_with (fail)
        with_reducible refine (HCL.out).mono ?_
        rintro e w2 ⟨rfl, hb⟩
        have HB2 := Aside0.mk (below_step HB.out hb)
        have HQ2 := Aside0.mk ((hb.block _ (blk_lt HQ.out)).trans HQ.out)
        have HR2 := Aside0.mk (Kd.R_below HR.out hb)
        clear hb HB HQ HR HCL
        have c1 := (blk_cell HQ2.out 0).trans rfl
        have hqs : q < w2.heap.size := blk_lt HQ2.out
        have HQS := Aside0.mk hqs
        clear hqs
        have hlm : (freeL i l).length ≤ 1000 := by have := HLEN.out; omega
        go_wp2_with (first | ((with_reducible refine gate_builtin (b := .append) (xs := #[.tmp 16, .tmp 18]) rfl ?_); at_builtin; go_must (refine Kd.R_append (Kd.int .i64) w.heap.size rfl (.tmp 16) (.tmp 18) 40 3 (.int .i64 0) 8 rfl Tryz.underlying40 info3 rfl (by decide) (by omega) u5 (freeL i l) ((i : Int) + 2) [.int .i64 ((i : Int) + 2)] (fun k => k ≠ q) (fun _ => False) rfl rfl rfl (fun _ hk => hk.elim) ?aF HR2.out HB2.out HB2.out.size (by omega) ?_); (case aF => exact fun k hk => Nat.ne_of_gt (Nat.lt_of_lt_of_le HQS.out hk)); intro v3 w3 ho_ hb_ hg_ hat_; have HR3 := Aside0.mk ho_; have HB3 := Aside0.mk hb_; have HQ3 := Aside0.mk ((hg_.block q HQS.out (row_not HR2.out)).trans HQ2.out); clear ho_ hb_ hg_ hat_; have c2 := (blk_cell HQ3.out 0).trans rfl))
        clear c0 c1 c2
        go_roundg gk
        case measure => omega
        case rel =>
          refine ⟨i + 1, w3.heap.size, rfl, ⟨by have := HI.out; omega⟩, ⟨?_⟩, ⟨HB3.out.size⟩, ⟨?_⟩, ⟨below_alloc HB3.out _⟩⟩
          · rw [← hq]; exact (MapKept.heap_alloc w3 _).1
          · rw [HSN.out]
            exact Kd.R_alloc (Kd.R_mono (ki_ne HR3.out) (fun k hk => Nat.ne_of_lt hk.2)) _
end Go.Proofs.YtdhaoaehboonpaaGreat.V
end

/- A map of the call's own: looked up, stored into. (Plain: for any program, any kind of keys and of values.) -/
import Derived.Maps.OwnOps
namespace Go.Proofs.YtfblelkegebdiaaM
open Go Go.ChangeMaps Go.MapKept
open Go.Maps (Keyed)
set_option linter.unusedVariables false
set_option linter.unusedSimpArgs false

section
variable {K V : Type}
/-- how keys and values lie: two keys of one value are one; what is a key to the program -/
structure Keys (P : Program) (k : TypeId) (eK : K → Value) (wf : K → Prop) : Prop where
  inj : ∀ x y, eK x = eK y → x = y
  keyed : Keyed P k
  key : ∀ x, wf x → ∃ l, keyOf P k (eK x) = some l
/-- block b of w is a map that holds f -/
def IsMap (eK : K → Value) (eV : V → Value) (wf : K → Prop) (w : World) (b : Nat) (f : K → Option V) : Prop :=
  ∃ es clock, w.heap[b]? = some (.map es clock) ∧
    (∀ e ∈ es.toList, ∃ n s, e.key = eK n ∧ wf n ∧ e.val = eV s ∧ f n = some s) ∧
    (∀ n s, f n = some s → ∃ e ∈ es.toList, e.key = eK n) ∧
    es.toList.Pairwise (fun x y => x.key ≠ y.key)
/-- f with n at s -/
def upd [DecidableEq K] (f : K → Option V) (n : K) (s : V) : K → Option V := fun m => if m = n then some s else f m
theorem upd_same [DecidableEq K] (f : K → Option V) (n : K) (s : V) : upd f n s n = some s := if_pos rfl
theorem upd_ne [DecidableEq K] (f : K → Option V) {n m : K} (s : V) (h : m ≠ n) : upd f n s m = f m := if_neg h

variable {P : Program} {t k e : TypeId} {w w' : World} {b : Nat} {f : K → Option V} {eK : K → Value} {eV : V → Value} {wf : K → Prop}

theorem IsMap.at (h : IsMap eK eV wf w b f) (hb : w'.heap[b]? = w.heap[b]?) : IsMap eK eV wf w' b f := by
  obtain ⟨es, c, h1, h2⟩ := h
  exact ⟨es, c, hb.trans h1, h2⟩
theorem IsMap.lt (h : IsMap eK eV wf w b f) : b < w.heap.size := by
  obtain ⟨es, c, h1, _⟩ := h
  rcases Nat.lt_or_ge b w.heap.size with h | h
  · exact h
  · rw [Array.getElem?_eq_none h] at h1; cases h1
theorem IsMap.congr {g : K → Option V} (h : IsMap eK eV wf w b f) (hg : ∀ n, g n = f n) : IsMap eK eV wf w b g := by
  obtain rfl : g = f := funext hg
  exact h
theorem IsMap.made (w : World) : IsMap eK eV wf (w.alloc (.map #[] 0)) w.heap.size (fun _ => none) := by
  exact ⟨#[], 0, (MapKept.heap_alloc w _).1, fun e he => by simp at he, fun n s h => by simp at h, List.Pairwise.nil⟩

theorem IsMap.look_ok (L : Keys P k eK wf) (h : IsMap eK eV wf w b f) (ht : P.underlying t = some (.map k e)) (z : Value) (hz : (zeroValue e).run P w = .ok z w) (n : K) (hn : wf n) :
    (Instr.lookup t (.map (some b)) (eK n) true).run P w = .ok (.tuple #[((f n).map eV).getD z, .bool (f n).isSome]) w := by
  obtain ⟨es, c, hb, h1, h2, h3⟩ := h
  have K := L.keyed
  obtain ⟨lk, hkey⟩ := L.key n hn
  have hks : ∀ e ∈ es.toList, ∃ l, keyOf P k e.key = some l := fun e he => by
    obtain ⟨m, s, e1, e2, _⟩ := h1 e he
    rw [e1]; exact L.key m e2
  rcases K.find w hkey es.toList hks with ⟨g1, g2⟩ | ⟨j, e0, g1, g2, g3⟩
  · have hf : f n = none := by
      cases hfn : f n with
      | none => rfl
      | some s => obtain ⟨e, he, he2⟩ := h2 n s hfn; exact absurd he2 (g2 e he)
    rw [hf]
    simp [Instr.lookup, run_underlying ht, MapKept.run_getObj_map hb, K.check w _ hkey, g1, hz, Result.andThen]
  · obtain ⟨m, s, e1, _, e3, e4⟩ := h1 e0 (List.mem_of_getElem? g2)
    rw [g3] at e1
    obtain rfl := L.inj _ _ e1
    rw [e4]
    simp [Instr.lookup, run_underlying ht, MapKept.run_getObj_map hb, K.check w _ hkey, g1, e3, Result.andThen]
theorem IsMap.look (L : Keys P k eK wf) (h : IsMap eK eV wf w b f) (ht : P.underlying t = some (.map k e)) (z : Value) (hz : (zeroValue e).run P w = .ok z w) (n : K) (hn : wf n) :
    (Instr.lookup t (.map (some b)) (eK n) false).run P w = .ok (((f n).map eV).getD z) w := by
  obtain ⟨es, c, hb, h1, h2, h3⟩ := h
  have K := L.keyed
  obtain ⟨lk, hkey⟩ := L.key n hn
  have hks : ∀ e ∈ es.toList, ∃ l, keyOf P k e.key = some l := fun e he => by
    obtain ⟨m, s, e1, e2, _⟩ := h1 e he
    rw [e1]; exact L.key m e2
  rcases K.find w hkey es.toList hks with ⟨g1, g2⟩ | ⟨j, e0, g1, g2, g3⟩
  · have hf : f n = none := by
      cases hfn : f n with
      | none => rfl
      | some s => obtain ⟨e, he, he2⟩ := h2 n s hfn; exact absurd he2 (g2 e he)
    rw [hf]
    simp [Instr.lookup, run_underlying ht, MapKept.run_getObj_map hb, K.check w _ hkey, g1, hz, Result.andThen]
  · obtain ⟨m, s, e1, _, e3, e4⟩ := h1 e0 (List.mem_of_getElem? g2)
    rw [g3] at e1
    obtain rfl := L.inj _ _ e1
    rw [e4]
    simp [Instr.lookup, run_underlying ht, MapKept.run_getObj_map hb, K.check w _ hkey, g1, e3, Result.andThen]
theorem IsMap.store [DecidableEq K] (L : Keys P k eK wf) (h : IsMap eK eV wf w b f) (ht : P.underlying t = some (.map k e)) (n : K) (hn : wf n) (s : V) :
    ∃ w', (Instr.mapUpdate t (.map (some b)) (eK n) (eV s)).run P w = .ok () w' ∧ IsMap eK eV wf w' b (upd f n s) ∧ w.grownBy w' (some b) := by
  obtain ⟨es, c, hb, h1, h2, h3⟩ := h
  have K := L.keyed
  obtain ⟨lk, hkey⟩ := L.key n hn
  have hks : ∀ e ∈ es.toList, ∃ l, keyOf P k e.key = some l := fun e he => by
    obtain ⟨m, s, e1, e2, _⟩ := h1 e he
    rw [e1]; exact L.key m e2
  have grown : ∀ es' c', w.grownBy (setBlock w b (.map es' c')) (some b) := fun es' c' => ⟨rfl, rfl, rfl, by simp [setBlock], fun i _ hi => heap_setBlock_other hb _ (fun e => hi (by rw [e]))⟩
  rcases K.find w hkey es.toList hks with ⟨g1, g2⟩ | ⟨j, e0, g1, g2, g3⟩
  · refine ⟨setBlock w b (.map (es.push ⟨eK n, eV s, c⟩) (c + 1)), ?_, ⟨_, _, heap_setBlock_same hb _, ?_, ?_, ?_⟩, grown _ _⟩
    · simp [Instr.mapUpdate, run_underlying ht, MapKept.run_getObj_map hb, K.check w false hkey, g1, MapKept.run_setObj_map _ hb, Result.andThen, setBlock]
    · intro x hx
      simp only [Array.toList_push, List.mem_append, List.mem_singleton] at hx
      rcases hx with hx | rfl
      · obtain ⟨m, u, e1, e2, e3, e4⟩ := h1 x hx
        refine ⟨m, u, e1, e2, e3, ?_⟩
        rw [upd_ne _ _ (fun hm => g2 x hx (by rw [e1, hm]))]; exact e4
      · exact ⟨n, s, rfl, hn, rfl, upd_same _ _ _⟩
    · intro m u hm
      simp only [Array.toList_push, List.mem_append, List.mem_singleton]
      by_cases hmn : m = n
      · exact ⟨_, .inr rfl, by rw [hmn]⟩
      · rw [upd_ne _ _ hmn] at hm
        obtain ⟨x, hx, hx2⟩ := h2 m u hm
        exact ⟨x, .inl hx, hx2⟩
    · rw [Array.toList_push]
      refine List.pairwise_append.2 ⟨h3, List.pairwise_singleton _ _, fun x hx y hy => ?_⟩
      rw [List.mem_singleton] at hy
      subst hy
      exact g2 x hx
  · have hj : es[j]? = some e0 := by simpa using g2
    have hjl : j < es.size := (Array.getElem?_eq_some_iff.1 hj).1
    have hm : (es.modify j fun e => { e with key := eK n, val := eV s }).toList = es.toList.set j { e0 with key := eK n, val := eV s } := by
      rw [Array.toList_modify]
      apply List.ext_getElem?
      intro i
      rw [List.getElem?_modify, List.getElem?_set]
      by_cases hij : j = i
      · subst hij
        have : j < es.toList.length := by simpa using hjl
        rw [if_pos rfl, if_pos this, g2]; simp
      · rw [if_neg hij]; simp [hij]
    have hsk : (Instr.keyThatStays (((es[j]?).map (·.key)).getD (eK n)) (eK n)).run P w = .ok (eK n) w := by
      rw [hj]
      simp only [Option.map_some, Option.getD_some, g3]
      exact K.stays w hkey
    refine ⟨setBlock w b (.map (es.modify j fun e => { e with key := eK n, val := eV s }) c), ?_, ⟨_, _, heap_setBlock_same hb _, ?_, ?_, ?_⟩, grown _ _⟩
    · simp [Instr.mapUpdate, run_underlying ht, MapKept.run_getObj_map hb, K.check w false hkey, g1, hsk, MapKept.run_setObj_map _ hb, Result.andThen, setBlock]
    · intro x hx
      rw [hm] at hx
      obtain ⟨i, hi⟩ := List.getElem?_of_mem hx
      rw [List.getElem?_set] at hi
      by_cases hij : j = i
      · rw [if_pos hij] at hi
        split at hi
        · injection hi with hi
          subst hi
          exact ⟨n, s, rfl, hn, rfl, upd_same _ _ _⟩
        · cases hi
      · rw [if_neg hij] at hi
        obtain ⟨m, u, e1, e2, e3, e4⟩ := h1 x (List.mem_of_getElem? hi)
        refine ⟨m, u, e1, e2, e3, ?_⟩
        have hne : m ≠ n := by
          intro hmn
          have hp := List.pairwise_iff_getElem.1 h3
          have hil := (List.getElem?_eq_some_iff.1 hi)
          have hjl2 := (List.getElem?_eq_some_iff.1 g2)
          obtain ⟨hil, hie⟩ := hil
          obtain ⟨hjl2, hje⟩ := hjl2
          rcases Nat.lt_or_gt_of_ne hij with h | h
          · exact hp j i hjl2 hil h (by rw [hie, hje, e1, g3, hmn])
          · exact hp i j hil hjl2 h (by rw [hie, hje, e1, g3, hmn])
        rw [upd_ne _ _ hne]; exact e4
    · intro m u hmu
      rw [hm]
      by_cases hmn : m = n
      · subst hmn
        exact ⟨_, List.mem_of_getElem? (i := j) (by rw [List.getElem?_set, if_pos rfl, if_pos (by simpa using hjl)]), rfl⟩
      · rw [upd_ne _ _ hmn] at hmu
        obtain ⟨x, hx, hx2⟩ := h2 m u hmu
        obtain ⟨i, hi⟩ := List.getElem?_of_mem hx
        have hij : j ≠ i := by
          rintro rfl
          rw [g2] at hi
          injection hi with hi
          rw [← hi, g3] at hx2
          exact hmn (L.inj _ _ hx2).symm
        exact ⟨x, List.mem_of_getElem? (i := i) (by rw [List.getElem?_set, if_neg hij]; exact hi), hx2⟩
    · rw [hm]
      refine List.pairwise_iff_getElem.2 fun i i2 hi hi2 hlt => ?_
      rw [List.length_set] at hi hi2
      have hp := List.pairwise_iff_getElem.1 h3
      obtain ⟨hjl2, hje⟩ := List.getElem?_eq_some_iff.1 g2
      rw [List.getElem_set, List.getElem_set]
      by_cases h4 : j = i
      · subst h4
        rw [if_pos rfl, if_neg (by omega)]
        have := hp j i2 hjl2 hi2 hlt
        rw [hje, g3] at this
        exact this
      · rw [if_neg h4]
        by_cases h5 : j = i2
        · subst h5
          rw [if_pos rfl]
          have := hp i j hi hjl2 hlt
          rw [hje, g3] at this
          exact this
        · rw [if_neg h5]
          exact hp i i2 hi hi2 hlt

theorem wpList_mapUpdate_g [DecidableEq K] (L : Keys P k eK wf) (w : World) {ops : Array Oper} {rest : List Oper} {o : Oper} {a : Act} {Q : Exit → Act → World → Prop}
    (hg : o.guard = none) (m x v : Operand) (t : TypeId) (hop : o.op = Op.mapUpdate t m x v) (e : TypeId) (ht : P.underlying t = some (.map k e))
    (b : Nat) (f : K → Option V) (n : K) (s : V) (hm : a.eval m = .map (some b)) (hx : a.eval x = eK n) (hv : a.eval v = eV s) (hown : IsMap eK eV wf w b f) (hn : wf n)
    (hK : ∀ w', IsMap eK eV wf w' b (upd f n s) → w.grownBy w' (some b) → wpList P ops Q rest (a.put o.dst undef) w') :
    wpList P ops Q (o :: rest) a w := by
  refine wpList_plain hg fun K' hK' => ?_
  obtain ⟨w', hrun, r1, r2⟩ := hown.store L ht n hn s
  unfold Oper.wp
  simp [execOp, hop, hm, hx, hv, hrun, Result.andThen]
  exact hK' _ _ (hK w' r1 r2)
end
end Go.Proofs.YtfblelkegebdiaaM

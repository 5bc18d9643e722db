/- Of the texts that the row stands on, what it needs (part 22), put together by a program of this session. -/
import Derived.Test.YtdhaoaehboonpaaGreatZeT12
import Derived.Maps.RangeRun
import Derived.Maps.RangeWalk
namespace Go.Proofs.YtdhaoaehboonpaaGreatM
open Go Go.ChangeMaps Go.MapKept
open Go.Maps (Keyed)
set_option linter.unusedVariables false
set_option linter.unusedSimpArgs false
section
variable {K V : Type}
def IsMapB (eK : K → Value) (eV : V → Value) (wf : K → Prop) (w : World) (b : Nat) (f : K → Option V) : Prop :=
  ∃ es clock, w.heap[b]? = some (.map es clock) ∧
    (∀ e ∈ es.toList, ∃ n s, e.key = eK n ∧ wf n ∧ e.val = eV s ∧ f n = some s) ∧
    (∀ n s, f n = some s → ∃ e ∈ es.toList, e.key = eK n) ∧
    es.toList.Pairwise (fun x y => x.key ≠ y.key) ∧ (es.toList.map (·.born)).Nodup ∧ ∀ x ∈ es.toList, x.born < clock
variable {P : Program} {t k e : TypeId} {w w' : World} {b : Nat} {f : K → Option V} {eK : K → Value} {eV : V → Value} {wf : K → Prop}
theorem IsMapB.toMap (h : IsMapB eK eV wf w b f) : IsMap eK eV wf w b f := by
  obtain ⟨es, c, hb, h1, h2, h3, _⟩ := h
  exact ⟨es, c, hb, h1, h2, h3⟩
theorem IsMapB.at (h : IsMapB eK eV wf w b f) (hb : w'.heap[b]? = w.heap[b]?) : IsMapB eK eV wf w' b f := by
  obtain ⟨es, c, h1, h2⟩ := h
  exact ⟨es, c, hb.trans h1, h2⟩
theorem IsMapB.lt (h : IsMapB eK eV wf w b f) : b < w.heap.size := h.toMap.lt
theorem IsMapB.made (w : World) : IsMapB eK eV wf (w.alloc (.map #[] 0)) w.heap.size (fun _ => none) :=
  ⟨#[], 0, (MapKept.heap_alloc w _).1, fun e he => by simp at he, fun n s h => by simp at h, List.Pairwise.nil, List.nodup_nil, fun x hx => by simp at hx⟩
theorem IsMapB.look_ok (L : Keys P k eK wf) (h : IsMapB eK eV wf w b f) (ht : P.underlying t = some (.map k e)) (z : Value) (hz : (zeroValue e).run P w = .ok z w) (n : K) (hn : wf n) :
    (Instr.lookup t (.map (some b)) (eK n) true).run P w = .ok (.tuple #[((f n).map eV).getD z, .bool (f n).isSome]) w := h.toMap.look_ok L ht z hz n hn
theorem IsMapB.store [DecidableEq K] (L : Keys P k eK wf) (h : IsMapB eK eV wf w b f) (ht : P.underlying t = some (.map k e)) (n : K) (hn : wf n) (s : V) :
    ∃ w', (Instr.mapUpdate t (.map (some b)) (eK n) (eV s)).run P w = .ok () w' ∧ IsMapB eK eV wf w' b (upd f n s) ∧ w.grownBy w' (some b) := by
  obtain ⟨es, c, hb, h1, h2, h3, h5, h6⟩ := h
  have K := L.keyed
  obtain ⟨lk, hkey⟩ := L.key n hn
  have hks : ∀ e ∈ es.toList, ∃ l, keyOf P k e.key = some l := fun e he => by
    obtain ⟨m, s, e1, e2, _⟩ := h1 e he
    rw [e1]; exact L.key m e2
  have grown : ∀ es' c', w.grownBy (setBlock w b (.map es' c')) (some b) := fun es' c' => ⟨rfl, rfl, rfl, by simp [setBlock], fun i _ hi => heap_setBlock_other hb _ (fun e => hi (by rw [e]))⟩
  rcases K.find w hkey es.toList hks with ⟨g1, g2⟩ | ⟨j, e0, g1, g2, g3⟩
  · refine ⟨setBlock w b (.map (es.push ⟨eK n, eV s, c⟩) (c + 1)), ?_, ⟨_, _, heap_setBlock_same hb _, ?_, ?_, ?_, ?_, ?_⟩, grown _ _⟩
    · simp [Instr.mapUpdate, run_underlying ht, MapKept.run_getObj_map hb, K.check w false hkey, g1, MapKept.run_setObj_map _ hb, Result.andThen, setBlock]
    · intro x hx
      simp only [Array.toList_push, List.mem_append, List.mem_singleton] at hx
      rcases hx with hx | rfl
      · obtain ⟨m, u, e1, e2, e3, e4⟩ := h1 x hx
        refine ⟨m, u, e1, e2, e3, ?_⟩
        rw [upd_ne _ _ (fun hm => g2 x hx (by rw [e1, hm]))]; exact e4
      · exact ⟨n, s, rfl, hn, rfl, upd_same _ _ _⟩
    · intro m u hm
      simp only [Array.toList_push, List.mem_append, List.mem_singleton]
      by_cases hmn : m = n
      · exact ⟨_, .inr rfl, by rw [hmn]⟩
      · rw [upd_ne _ _ hmn] at hm
        obtain ⟨x, hx, hx2⟩ := h2 m u hm
        exact ⟨x, .inl hx, hx2⟩
    · rw [Array.toList_push]
      refine List.pairwise_append.2 ⟨h3, List.pairwise_singleton _ _, fun x hx y hy => ?_⟩
      rw [List.mem_singleton] at hy
      subst hy
      exact g2 x hx
    · rw [Array.toList_push, List.map_append]
      refine List.nodup_append.2 ⟨h5, by simp, fun x hx y hy e => ?_⟩
      obtain ⟨z, hz, rfl⟩ := List.mem_map.1 hx
      simp only [List.map_cons, List.map_nil, List.mem_singleton] at hy
      have := h6 z hz
      rw [e, hy] at this
      exact absurd this (Nat.lt_irrefl _)
    · intro x hx
      simp only [Array.toList_push, List.mem_append, List.mem_singleton] at hx
      rcases hx with hx | rfl
      · exact Nat.lt_succ_of_lt (h6 x hx)
      · exact Nat.lt_succ_self _
  · have hj : es[j]? = some e0 := by simpa using g2
    have hjl : j < es.size := (Array.getElem?_eq_some_iff.1 hj).1
    have hm : (es.modify j fun e => { e with key := eK n, val := eV s }).toList = es.toList.set j { e0 with key := eK n, val := eV s } := by
      rw [Array.toList_modify]
      apply List.ext_getElem?
      intro i
      rw [List.getElem?_modify, List.getElem?_set]
      by_cases hij : j = i
      · subst hij
        have : j < es.toList.length := by simpa using hjl
        rw [if_pos rfl, if_pos this, g2]; simp
      · rw [if_neg hij]; simp [hij]
    have hsk : (Instr.keyThatStays (((es[j]?).map (·.key)).getD (eK n)) (eK n)).run P w = .ok (eK n) w := by
      rw [hj]
      simp only [Option.map_some, Option.getD_some, g3]
      exact K.stays w hkey
    refine ⟨setBlock w b (.map (es.modify j fun e => { e with key := eK n, val := eV s }) c), ?_, ⟨_, _, heap_setBlock_same hb _, ?_, ?_, ?_, ?_, ?_⟩, grown _ _⟩
    · simp [Instr.mapUpdate, run_underlying ht, MapKept.run_getObj_map hb, K.check w false hkey, g1, hsk, MapKept.run_setObj_map _ hb, Result.andThen, setBlock]
    · intro x hx
      rw [hm] at hx
      obtain ⟨i, hi⟩ := List.getElem?_of_mem hx
      rw [List.getElem?_set] at hi
      by_cases hij : j = i
      · rw [if_pos hij] at hi
        split at hi
        · injection hi with hi
          subst hi
          exact ⟨n, s, rfl, hn, rfl, upd_same _ _ _⟩
        · cases hi
      · rw [if_neg hij] at hi
        obtain ⟨m, u, e1, e2, e3, e4⟩ := h1 x (List.mem_of_getElem? hi)
        refine ⟨m, u, e1, e2, e3, ?_⟩
        have hne : m ≠ n := by
          intro hmn
          have hp := List.pairwise_iff_getElem.1 h3
          have hil := (List.getElem?_eq_some_iff.1 hi)
          have hjl2 := (List.getElem?_eq_some_iff.1 g2)
          obtain ⟨hil, hie⟩ := hil
          obtain ⟨hjl2, hje⟩ := hjl2
          rcases Nat.lt_or_gt_of_ne hij with h | h
          · exact hp j i hjl2 hil h (by rw [hie, hje, e1, g3, hmn])
          · exact hp i j hil hjl2 h (by rw [hie, hje, e1, g3, hmn])
        rw [upd_ne _ _ hne]; exact e4
    · intro m u hmu
      rw [hm]
      by_cases hmn : m = n
      · subst hmn
        exact ⟨_, List.mem_of_getElem? (i := j) (by rw [List.getElem?_set, if_pos rfl, if_pos (by simpa using hjl)]), rfl⟩
      · rw [upd_ne _ _ hmn] at hmu
        obtain ⟨x, hx, hx2⟩ := h2 m u hmu
        obtain ⟨i, hi⟩ := List.getElem?_of_mem hx
        have hij : j ≠ i := by
          rintro rfl
          rw [g2] at hi
          injection hi with hi
          rw [← hi, g3] at hx2
          exact hmn (L.inj _ _ hx2).symm
        exact ⟨x, List.mem_of_getElem? (i := i) (by rw [List.getElem?_set, if_neg hij]; exact hi), hx2⟩
    · rw [hm]
      refine List.pairwise_iff_getElem.2 fun i i2 hi hi2 hlt => ?_
      rw [List.length_set] at hi hi2
      have hp := List.pairwise_iff_getElem.1 h3
      obtain ⟨hjl2, hje⟩ := List.getElem?_eq_some_iff.1 g2
      rw [List.getElem_set, List.getElem_set]
      by_cases h4 : j = i
      · subst h4
        rw [if_pos rfl, if_neg (by omega)]
        have := hp j i2 hjl2 hi2 hlt
        rw [hje, g3] at this
        exact this
      · rw [if_neg h4]
        by_cases h5 : j = i2
        · subst h5
          rw [if_pos rfl]
          have := hp i j hi hjl2 hlt
          rw [hje, g3] at this
          exact this
        · rw [if_neg h5]
          exact hp i i2 hi hi2 hlt
    · rw [hm, List.map_set]
      have hb0 : (es.toList.map (·.born)).set j e0.born = es.toList.map (·.born) := by
        apply List.ext_getElem?
        intro i
        rw [List.getElem?_set]
        by_cases hij : j = i
        · subst hij
          rw [if_pos rfl, if_pos (by simpa using hjl), List.getElem?_map, g2]; rfl
        · rw [if_neg hij]
      have e9 : (es.toList.map (·.born)).set j e0.born = es.toList.map (·.born) := hb0
      show ((es.toList.map (·.born)).set j e0.born).Nodup
      rw [e9]; exact h5
    · intro x hx
      rw [hm] at hx
      rcases List.mem_or_eq_of_mem_set hx with hx | rfl
      · exact h6 x hx
      · exact h6 e0 (List.mem_of_getElem? g2)
theorem wpList_mapUpdate_b [DecidableEq K] (L : Keys P k eK wf) (w : World) {ops : Array Oper} {rest : List Oper} {o : Oper} {a : Act} {Q : Exit → Act → World → Prop}
    (hg : o.guard = none) (m x v : Operand) (t : TypeId) (hop : o.op = Op.mapUpdate t m x v) (e : TypeId) (ht : P.underlying t = some (.map k e))
    (b : Nat) (f : K → Option V) (n : K) (s : V) (hm : a.eval m = .map (some b)) (hx : a.eval x = eK n) (hv : a.eval v = eV s) (hown : IsMapB eK eV wf w b f) (hn : wf n)
    (hK : ∀ w', IsMapB eK eV wf w' b (upd f n s) → w.grownBy w' (some b) → wpList P ops Q rest (a.put o.dst undef) w') :
    wpList P ops Q (o :: rest) a w := by
  refine wpList_plain hg fun K' hK' => ?_
  obtain ⟨w', hrun, r1, r2⟩ := hown.store L ht n hn s
  unfold Oper.wp
  simp [execOp, hop, hm, hx, hv, hrun, Result.andThen]
  exact hK' _ _ (hK w' r1 r2)
def RngB (eK : K → Value) (eV : V → Value) (wf : K → Prop) (w : World) (b r : Nat) (f : K → Option V) (left : K → Prop) (cnt : Nat) : Prop :=
  ∃ es clock since seen c0, w.heap[b]? = some (.map es clock) ∧
    (∀ e ∈ es.toList, ∃ n s, e.key = eK n ∧ wf n ∧ e.val = eV s ∧ f n = some s) ∧
    (∀ n s, f n = some s → ∃ e ∈ es.toList, e.key = eK n) ∧
    es.toList.Pairwise (fun x y => x.key ≠ y.key) ∧ (es.toList.map (·.born)).Nodup ∧
    w.heap[r]? = some (.mapIter (some b) since seen c0) ∧ (∀ x ∈ es.toList, x.born < since) ∧ since ≤ c0 ∧ since ≤ clock ∧ (leftOf es seen).size = cnt ∧
    (∀ e ∈ es.toList, ∀ n, e.key = eK n → (left n ↔ seen.contains e.born = false)) ∧ (∀ n, left n → f n ≠ none)
theorem RngB.kept {left : K → Prop} {cnt r : Nat} {row : Option Nat} (h : RngB eK eV wf w b r f left cnt) (hg : w.grownBy w' row) (hb : some b ≠ row) (hr : some r ≠ row) : RngB eK eV wf w' b r f left cnt := by
  obtain ⟨es, c, s, sn, c0, h1, h2, h3, h4, h5, h6, h7⟩ := h
  have lt : ∀ {k o}, w.heap[k]? = some o → k < w.heap.size := fun {k o} h => by
    rcases Nat.lt_or_ge k w.heap.size with h9 | h9
    · exact h9
    · rw [Array.getElem?_eq_none h9] at h; cases h
  exact ⟨es, c, s, sn, c0, (hg.block b (lt h1) hb).trans h1, h2, h3, h4, h5, (hg.block r (lt h6) hr).trans h6, h7⟩
theorem RngB.toMap {left : K → Prop} {cnt r : Nat} (h : RngB eK eV wf w b r f left cnt) : IsMap eK eV wf w b f := by
  obtain ⟨es, c, s, sn, c0, h1, h2, h3, h4, _⟩ := h
  exact ⟨es, c, h1, h2, h3, h4⟩
theorem wpList_range_b (L : Keys P k eK wf) {ops : Array Oper} {rest : List Oper} {o : Oper} {a : Act} {Q : Exit → Act → World → Prop}
    (hg : o.guard = none) (m : Operand) (t : TypeId) (hop : o.op = Op.range t m) (e : TypeId) (ht : P.underlying t = some (.map k e))
    (hm : a.eval m = .map (some b)) (h : IsMapB eK eV wf w b f)
    (hK : ∀ w' cnt, RngB eK eV wf w' b w.heap.size f (fun n => f n ≠ none) cnt → w.grownBy w' none → w'.heap.size = w.heap.size + 1 → wpList P ops Q rest (a.put o.dst (.pointer (some ⟨w.heap.size, 0, none⟩))) w') :
    wpList P ops Q (o :: rest) a w := by
  obtain ⟨es, c, hb, h1, h2, h3, h5, h6⟩ := h
  have hlt : b < w.heap.size := by
    rcases Nat.lt_or_ge b w.heap.size with h9 | h9
    · exact h9
    · rw [Array.getElem?_eq_none h9] at hb; cases hb
  have hrun := run_range_map w t k e b es c ht hb
  refine wpList_plain hg fun K' hK' => ?_
  unfold Oper.wp
  simp [execOp, hop, hm, hrun, Result.andThen]
  refine hK' _ _ (hK _ es.size ⟨es, c, c, #[], c, ((MapKept.heap_alloc w _).2 b hlt).trans hb, h1, h2, h3, h5, (MapKept.heap_alloc w _).1, h6, Nat.le_refl _, Nat.le_refl _, ?_, ?_, fun n h => h⟩ (World.grownBy_alloc w _ none) (by simp))
  · simp [leftOf]
  · intro x hx n hn
    obtain ⟨n2, s, e1, _, _, e4⟩ := h1 x hx
    rw [e1] at hn
    obtain rfl := L.inj _ _ hn
    simp [e4]
theorem wpList_next_b (L : Keys P k eK wf) {ops : Array Oper} {rest : List Oper} {o : Oper} {a : Act} {Q : Exit → Act → World → Prop} {left : K → Prop} {cnt r : Nat}
    (hg : o.guard = none) (it : Operand) (hop : o.op = Op.next it false)
    (hit : a.eval it = .pointer (some ⟨r, 0, none⟩)) (h : RngB eK eV wf w b r f left cnt)
    (hDone : cnt = 0 → (∀ n, ¬ left n) → wpList P ops Q rest (a.put o.dst (.tuple #[.bool false])) w)
    (hMore : ∀ (n : K) (s : V) (w' : World) (cnt' : Nat), left n → f n = some s → RngB eK eV wf w' b r f (fun m => left m ∧ m ≠ n) cnt' → cnt' < cnt →
      w.grownBy w' (some r) → w'.heap.size = w.heap.size → (Instr.entry (.pointer (some ⟨r, 0, none⟩))).run P w' = .ok (.tuple #[eK n, eV s]) w' → wpList P ops Q rest (a.put o.dst (.tuple #[.bool true, eK n, eV s])) w') :
    wpList P ops Q (o :: rest) a w := by
  obtain ⟨es, c, since, seen, c0, hb, h1, h2, h3, h5, hr, h6, h7, h8, rfl, h9, h10⟩ := h
  have hne : r ≠ b := by
    rintro rfl
    rw [hb] at hr; cases hr
  refine wpList_plain hg fun K' hK' => ?_
  unfold Oper.wp
  rcases run_next_at (P := P) w o.type r b since c0 seen es c hr hb h6 h7 with ⟨h0, hrun⟩ | ⟨e0, he, w1, hal, hrun⟩
  · simp [execOp, hop, hit, hrun, Result.andThen]
    refine hK' _ _ (hDone h0 fun n hn => ?_)
    have hf := h10 n hn
    cases hfn : f n with
    | none => exact hf hfn
    | some s =>
      obtain ⟨x, hx, hxk⟩ := h2 n s hfn
      have := (h9 x hx n hxk).1 hn
      rw [all_seen es seen h0 x hx] at this
      cases this
  · obtain ⟨hem, hes⟩ := mem_left he
    obtain ⟨n, s, e1, e2, e3, e4⟩ := h1 e0 hem
    have hr1 : w1.heap[r]? = some (.mapIter (some b) since seen c0) := by rcases hal with rfl | rfl <;> exact hr
    have hb1 : w1.heap[b]? = some (.map es c) := by rcases hal with rfl | rfl <;> exact hb
    have hset := heap_set (o' := .mapIter (some b) since (seen.push e0.born) c) hr1
    have hb' : (setBlock w1 r (.mapIter (some b) since (seen.push e0.born) c)).heap[b]? = some (.map es c) := (hset.2 b (fun e1 => hne e1.symm)).trans hb1
    have hent := run_entry_at (P := P) _ r b since seen es c e0 hset.1 hb' hem h5
    rw [e1, e3] at hent hrun
    simp [execOp, hop, hit, hrun, Result.andThen]
    refine hK' _ _ (hMore n s _ _ ((h9 e0 hem n e1).2 (by simpa using hes)) e4 ⟨es, c, since, seen.push e0.born, c, hb', h1, h2, h3, h5, hset.1, h6, h8, h8, rfl, fun x hx m hm => ?_, fun m hm => h10 m hm.1⟩ (left_shrinks es seen e0 he) ?_ ?_ hent)
    · show (left m ∧ m ≠ n) ↔ _
      rw [h9 x hx m hm, contains_push]
      constructor
      · rintro ⟨a1, a2⟩
        rw [a1]
        have : x.born ≠ e0.born := by
          intro hbo
          have hxe : x = e0 := born_inj h5 hx hem hbo
          subst hxe
          rw [e1] at hm
          exact a2 (L.inj _ _ hm).symm
        simp [this]
      · intro h
        simp only [Bool.or_eq_false_iff] at h
        refine ⟨h.1, ?_⟩
        rintro rfl
        have hxk : x.key = e0.key := by rw [hm, e1]
        have : x = e0 := entry_eq_of_key h3 hx hem hxk
        rw [this] at h
        simp at h
    · rcases hal with rfl | rfl <;> exact ⟨rfl, rfl, rfl, by simp [setBlock], fun i _ hi => hset.2 i (fun e1 => hi (by rw [e1]))⟩
    · rcases hal with rfl | rfl <;> simp [setBlock]
end
end Go.Proofs.YtdhaoaehboonpaaGreatM

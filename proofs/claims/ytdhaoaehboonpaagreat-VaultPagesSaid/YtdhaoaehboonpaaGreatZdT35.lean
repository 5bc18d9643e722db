/- Of the texts that the row stands on, what it needs (part 35), put together by a program of this session. -/
import Derived.Test.YtdhaoaehboonpaaGreatZdT31
import Derived.Test.YtdhaoaehboonpaaGreatZdT34
namespace Go.Proofs.YtdhaoaehboonpaaGreat.V
open Go Go.RowKit Go.Proofs.YtdhaoaehboonpaaGreatW.PrintWords Go.Proofs.YtdhaoaehboonpaaGreatW.PrintLast Go.Proofs.YtdhaoaehboonpaaGreatW.PrintMore Go.Proofs.YtdhaoaehboonpaaGreatM
set_option linter.unusedVariables false
set_option linter.unusedSimpArgs false
theorem need_no {l : List R2} (h : rightF (-1) l = false ∨ 21 < (lvs [] (l.map (cellE · 2))).length) (hv : List R2) (fr : List Int) : (planE l hv fr).2.2 ≠ 0 ∧ needE l = 0 := by
  have H : ∀ hv fr, (planE l hv fr).2.2 ≠ 0 := fun hv fr h0 => by
    obtain ⟨a1, _, a3, _⟩ := planE_ok h0
    rcases h with h | h
    · rw [h] at a1; cases a1
    · exact a3 h
  refine ⟨H hv fr, ?_⟩
  unfold needE
  rw [(planE_no (H [] (pgs 198))).1]; rfl
section
variable {V : VS} {m : Nat} {l : List R2}
theorem sv_two (h : VOk V m) (hm : m ≤ 198) :
    ((svP V m l).2.2 = 0 ∧ 0 < needE l ∧ ∃ B : List ByteArray, B.Nodup ∧ B.length = needE l ∧ (∀ b, b ∈ B ↔ b ∈ planB l V.live (freeL m V.live)) ∧ ∀ b ∈ B, ∃ n, (planZ l V.live (freeL m V.live)).2.known b = some n) ∨ ((svP V m l).2.2 ≠ 0 ∧ (0 < needE l → m < needE l + V.live.length)) := by
  have hlow : ∀ x ∈ V.live, 2 ≤ x.1 ∧ x.1 < (m : Int) + 2 := fun x hx => by
    have h1 := h.disk.low x hx
    have h2 := h.pages
    exact ⟨h1.1, by have := h1.2; omega⟩
  have hcnt := freeL_count hlow h.disk.tree.apart
  by_cases h1 : rightF (-1) l = false ∨ 21 < (lvs [] (l.map (cellE · 2))).length
  · obtain ⟨a, b⟩ := need_no h1 V.live (freeL m V.live)
    exact .inr ⟨a, fun hp => by omega⟩
  · have a1 : rightF (-1) l = true := by
      cases hr : rightF (-1) l with
      | true => rfl
      | false => exact absurd (.inl hr) h1
    have a3 : ¬ 21 < (lvs [] (l.map (cellE · 2))).length := fun h => h1 (.inr h)
    rcases plan_two (hv := V.live) (fr := freeL m V.live) (l := l) (may_free hm hlow) h.disk.tree.apart (freeL_nodup _ _) (fun n hn x hx => (freeL_mem.1 hn).2 x hx) a1 a3 with ⟨b1, b2, b3⟩ | ⟨b1, b2⟩
    · exact .inl ⟨b1, b2, b3⟩
    · exact .inr ⟨b1, fun hp => by have := b2 hp; omega⟩
theorem live_need {ys : List R2} {B BB : List ByteArray} {K : ByteArray → Option Int} (hy : ys.Pairwise fun p q => p.1 ≠ q.1) (hc : ∀ n b, (n, b) ∈ ys ↔ (b ∈ BB ∧ K b = some n)) (hn : B.Nodup) (hB : ∀ b, b ∈ B ↔ b ∈ BB) (hk : ∀ b ∈ B, ∃ n, K b = some n) : ys.length = B.length := by
  have hnd : (ys.map (·.2)).Nodup := by
    unfold List.Nodup
    rw [List.pairwise_map]
    refine hy.imp_of_mem (fun {p q} hp hq hne e => hne ?_)
    have k1 := ((hc p.1 p.2).1 hp).2
    have k2 := ((hc q.1 q.2).1 hq).2
    rw [e, k2] at k1
    injection k1 with k1
    exact k1.symm
  refine Nat.le_antisymm ?_ ?_
  · have := nodup_len (ys.map (·.2)) B hnd (fun b hb => by
      obtain ⟨x, hx, rfl⟩ := List.mem_map.1 hb
      exact (hB _).2 ((hc x.1 x.2).1 hx).1)
    rwa [List.length_map] at this
  · have := nodup_len B (ys.map (·.2)) hn (fun b hb => by
      obtain ⟨n, hn⟩ := hk b hb
      exact List.mem_map.2 ⟨(n, b), (hc n b).2 ⟨(hB b).1 hb, hn⟩, rfl⟩)
    rwa [List.length_map] at this
end
theorem save_need {w0 w : World} {gv g : Nat} {V : VS} {m : Nat} (h : IsV w0 w gv g V) (hv : VOk V m) (hm : m ≤ 198) (hf : V.P.halts = false) (hg : V.gen < 4611686018427387904) (A : Option Addr) (c : Nat) (l : List R2) (hC : Kd.C kR w A l.length l) (hc2 : l.length ≤ c) (hl : l.length ≤ 9000) :
    ((svP V m l).2.2 ≠ 0 → (0 < needE l → m < needE l + V.live.length) ∧ Calls Tryz.prog 15 #[.pointer (some ⟨gv, 0, none⟩), .slice A l.length c] w fun e w' => e = .returned (.int .i64 (svP V m l).2.2) ∧ IsV w0 w' gv g V ∧ OthersV w w') ∧
    ((svP V m l).2.2 = 0 → Calls Tryz.prog 15 #[.pointer (some ⟨gv, 0, none⟩), .slice A l.length c] w fun e w' => ∃ V', e = .returned (.int .i64 0) ∧ IsV w0 w' gv g V' ∧ OthersV w w' ∧ VOk V' m ∧ V'.P.halts = false ∧ V'.gen = V.gen + 1 ∧ V'.live.length = needE l) := by
  obtain ⟨h1, h2⟩ := save_two h hv hf hg A c l hC hc2 hl
  refine ⟨fun hne => ⟨?_, h1 hne⟩, fun hz => (h2 hz).mono ?_⟩
  · rcases sv_two (l := l) hv hm with ⟨a, _⟩ | ⟨_, b⟩
    · exact absurd a hne
    · exact b
  · rintro e w' ⟨V', he, hi, ho, hok, hh, hg, hr, hp, hc⟩
    refine ⟨V', he, hi, ho, hok, hh, hg, ?_⟩
    rcases sv_two (l := l) hv hm with ⟨_, _, B, b1, b2, b3, b4⟩ | ⟨a, _⟩
    · rw [live_need hok.disk.tree.apart hc b1 b3 b4, b2]
    · exact absurd hz a
def seenF (l : List Int) (k : Nat) : Int → Option Bool := fun p => if p ∈ l.take k then some true else none
theorem seenF_snoc (l : List Int) (k : Nat) (h : k < l.length) : ∀ n, seenF l (k + 1) n = upd (seenF l k) l[k] true n := by
  intro n
  show (if n ∈ l.take (k + 1) then some true else none) = if n = l[k] then some true else (if n ∈ l.take k then some true else none)
  rw [List.take_succ_eq_append_getElem h]
  by_cases e : n = l[k]
  · rw [if_pos (by rw [List.mem_append]; exact .inr (by rw [e]; exact List.mem_singleton_self _)), if_pos e]
  · rw [if_neg e]
    by_cases h2 : n ∈ l.take k
    · rw [if_pos (List.mem_append_left _ h2), if_pos h2]
    · rw [if_neg (fun h3 => by
        rcases List.mem_append.1 h3 with h3 | h3
        · exact h2 h3
        · exact e (List.mem_singleton.1 h3)), if_neg h2]
theorem seenF_new {l : List Int} (hn : l.Nodup) {k : Nat} (h : k < l.length) : seenF l k l[k] = none := by
  unfold seenF
  rw [if_neg]
  intro hm
  have h1 := List.take_append_drop k l
  rw [← h1] at hn
  rw [List.drop_eq_getElem_cons h] at hn
  exact (List.nodup_append.1 hn).2.2 _ hm _ List.mem_cons_self rfl
theorem seen_len {w : World} {b t e : Nat} {l : List Int} {wf : Int → Prop} (h : IsMap (Value.int .i64) Value.bool wf w b (seenF l l.length)) (hn : l.Nodup) {k : TypeId} {P : Program} (ht : P.underlying t = some (.map k e)) (ty : TypeId) : (Builtin.len_ #[t] ty #[.map (some b)]).run P w = .ok (.int .i64 l.length) w := by
  obtain ⟨es, clock, hb, h1, h2, h3⟩ := h
  have hkey : ∀ e ∈ es.toList, ∃ n ∈ l, e.key = Value.int .i64 n := fun e he => by
    obtain ⟨n, s, a, _, _, d⟩ := h1 e he
    unfold seenF at d
    rw [List.take_length] at d
    by_cases hm : n ∈ l
    · exact ⟨n, hm, a⟩
    · rw [if_neg hm] at d; cases d
  have e1 : es.size = l.length := by
    have hnd : (l.map (Value.int .i64)).Nodup := by
      unfold List.Nodup at hn ⊢
      rw [List.pairwise_map]
      exact hn.imp (fun h e => h (by injection e))
    have hne : (es.toList.map (·.key)).Nodup := by
      unfold List.Nodup
      rw [List.pairwise_map]; exact h3
    have hcount : ∀ (a b : List Value), a.Nodup → (∀ x ∈ a, x ∈ b) → a.length ≤ b.length := fun a b ha hab => List.Nodup.length_le_of_subset ha hab
    refine Nat.le_antisymm ?_ ?_
    · have := hcount (es.toList.map (·.key)) (l.map (Value.int .i64)) hne (fun x hx => by
        obtain ⟨e, he, rfl⟩ := List.mem_map.1 hx
        obtain ⟨n, hn, hk⟩ := hkey e he
        rw [hk]
        exact List.mem_map_of_mem hn)
      simpa using this
    · have := hcount (l.map (Value.int .i64)) (es.toList.map (·.key)) hnd (fun x hx => by
        obtain ⟨n, hn, rfl⟩ := List.mem_map.1 hx
        obtain ⟨e, he, hk⟩ := h2 n true (by unfold seenF; rw [List.take_length, if_pos hn])
        exact List.mem_map.2 ⟨e, he, hk⟩)
      simpa using this
  rw [← e1]
  simp [Builtin.len_, run_underlying ht, MapKept.run_getObj_map hb, goInt, Result.andThen]
end Go.Proofs.YtdhaoaehboonpaaGreat.V

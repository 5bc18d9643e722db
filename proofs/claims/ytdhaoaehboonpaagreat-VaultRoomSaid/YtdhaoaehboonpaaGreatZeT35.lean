/- Of the texts that the row stands on, what it needs (part 35), put together by a program of this session. -/
import Derived.Test.YtdhaoaehboonpaaGreatZeT31
import Derived.Test.YtdhaoaehboonpaaGreatZeT34
section
namespace Go.Proofs.YtdhaoaehboonpaaGreat.V
open Go Go.RowKit Go.Proofs.YtdhaoaehboonpaaGreatW.PrintWords Go.Proofs.YtdhaoaehboonpaaGreatW.PrintLast Go.Proofs.YtdhaoaehboonpaaGreatW.PrintMore Go.Proofs.YtdhaoaehboonpaaGreatM
set_option linter.unusedVariables false
set_option linter.unusedSimpArgs false
theorem need_no {l : List R2} (h : rightF (-1) l = false ∨ 21 < (lvs [] (l.map (cellE · 2))).length) (hv : List R2) (fr : List Int) : (planE l hv fr).2.2 ≠ 0 ∧ needE l = 0 := by
  have H : ∀ hv fr, (planE l hv fr).2.2 ≠ 0 := fun hv fr h0 => by
    obtain ⟨a1, _, a3, _⟩ := planE_ok h0
    rcases h with h | h
    · rw [h] at a1; cases a1
    · exact a3 h
  refine ⟨H hv fr, ?_⟩
  unfold needE
  rw [(planE_no (H [] (pgs 198))).1]; rfl
section
variable {V : VS} {m : Nat} {l : List R2}
theorem sv_two (h : VOk V m) (hm : m ≤ 198) :
    ((svP V m l).2.2 = 0 ∧ 0 < needE l ∧ ∃ B : List ByteArray, B.Nodup ∧ B.length = needE l ∧ (∀ b, b ∈ B ↔ b ∈ planB l V.live (freeL m V.live)) ∧ ∀ b ∈ B, ∃ n, (planZ l V.live (freeL m V.live)).2.known b = some n) ∨ ((svP V m l).2.2 ≠ 0 ∧ (0 < needE l → m < needE l + V.live.length)) := by
  have hlow : ∀ x ∈ V.live, 2 ≤ x.1 ∧ x.1 < (m : Int) + 2 := fun x hx => by
    have h1 := h.disk.low x hx
    have h2 := h.pages
    exact ⟨h1.1, by have := h1.2; omega⟩
  have hcnt := freeL_count hlow h.disk.tree.apart
  by_cases h1 : rightF (-1) l = false ∨ 21 < (lvs [] (l.map (cellE · 2))).length
  · obtain ⟨a, b⟩ := need_no h1 V.live (freeL m V.live)
    exact .inr ⟨a, fun hp => by omega⟩
  · have a1 : rightF (-1) l = true := by
      cases hr : rightF (-1) l with
      | true => rfl
      | false => exact absurd (.inl hr) h1
    have a3 : ¬ 21 < (lvs [] (l.map (cellE · 2))).length := fun h => h1 (.inr h)
    rcases plan_two (hv := V.live) (fr := freeL m V.live) (l := l) (may_free hm hlow) h.disk.tree.apart (freeL_nodup _ _) (fun n hn x hx => (freeL_mem.1 hn).2 x hx) a1 a3 with ⟨b1, b2, b3⟩ | ⟨b1, b2⟩
    · exact .inl ⟨b1, b2, b3⟩
    · exact .inr ⟨b1, fun hp => by have := b2 hp; omega⟩
theorem live_need {ys : List R2} {B BB : List ByteArray} {K : ByteArray → Option Int} (hy : ys.Pairwise fun p q => p.1 ≠ q.1) (hc : ∀ n b, (n, b) ∈ ys ↔ (b ∈ BB ∧ K b = some n)) (hn : B.Nodup) (hB : ∀ b, b ∈ B ↔ b ∈ BB) (hk : ∀ b ∈ B, ∃ n, K b = some n) : ys.length = B.length := by
  have hnd : (ys.map (·.2)).Nodup := by
    unfold List.Nodup
    rw [List.pairwise_map]
    refine hy.imp_of_mem (fun {p q} hp hq hne e => hne ?_)
    have k1 := ((hc p.1 p.2).1 hp).2
    have k2 := ((hc q.1 q.2).1 hq).2
    rw [e, k2] at k1
    injection k1 with k1
    exact k1.symm
  refine Nat.le_antisymm ?_ ?_
  · have := nodup_len (ys.map (·.2)) B hnd (fun b hb => by
      obtain ⟨x, hx, rfl⟩ := List.mem_map.1 hb
      exact (hB _).2 ((hc x.1 x.2).1 hx).1)
    rwa [List.length_map] at this
  · have := nodup_len B (ys.map (·.2)) hn (fun b hb => by
      obtain ⟨n, hn⟩ := hk b hb
      exact List.mem_map.2 ⟨(n, b), (hc n b).2 ⟨(hB b).1 hb, hn⟩, rfl⟩)
    rwa [List.length_map] at this
end
theorem chainB_hd : ∀ (l : List ByteArray) (S : PS), (chainF l S).2.e = 0 → ∀ b ∈ chainB l S, hd b = some 67
  | [], S, _, b, hb => (List.not_mem_nil hb).elim
  | x :: t, S, h, b, hb => by
    rw [chainF_cons] at h
    rcases List.mem_cons.1 hb with rfl | hb
    · exact hd_chain (putS_is h)
    · exact chainB_hd t S (putS_e h) b hb
theorem one_cells (r : R2) (S : PS) : ∃ c, (chainsF [r] S).1 = [c] ∧ c.1 = r.1 := by
  rw [chainsF_cons]
  split
  · refine ⟨_, rfl, ?_⟩
    unfold cellE; split <;> rfl
  · refine ⟨_, rfl, ?_⟩
    unfold cellE; split <;> rfl
theorem one_lvs {c : C4} (h : cellOk c) : lvs [] [c] = [[c]] := by
  unfold lvs
  rw [List.nil_append, if_pos (leaf_one h)]
  rfl
theorem one_plan {r : R2} {hv : List R2} {fr : List Int} (h : (planE [r] hv fr).2.2 = 0) :
    (∃ p, (planT [r] hv fr).1 = [(r.1, p)]) ∧ (indexE (planT [r] hv fr).1).2 = true ∧ ∀ b ∈ planB [r] hv fr, b = (indexE (planT [r] hv fr).1).1 ∨ hd b = some 76 ∨ hd b = some 67 := by
  obtain ⟨a1, a2, a3, a4, a5⟩ := planE_ok h
  obtain ⟨pv, pf⟩ := mayE_pg a2
  have hpv : ∀ x ∈ hv, okP x.1 = true := fun x hx => pv _ (List.mem_map_of_mem hx)
  have hr := rightF_mem [r] (-1) (by omega) a1
  have iS := putS_is a4
  have hT : (planT [r] hv fr).2.e = 0 := putS_e a4
  have hS : (planS [r] hv fr).e = 0 := slotsF_e hT
  have hok : ∀ x ∈ planC [r] hv fr, cellOk x := chainsF_ok [r] ⟨knF hv, fr, [], 0⟩ ⟨knF_pg hpv, pf⟩ hr hS
  obtain ⟨c, hc, hc1⟩ := one_cells r ⟨knF hv, fr, [], 0⟩
  have hC : planC [r] hv fr = [c] := hc
  have hl : lvs [] (planC [r] hv fr) = [[c]] := by rw [hC]; exact one_lvs (hok c (by rw [hC]; exact List.mem_singleton_self _))
  refine ⟨?_, iS, fun b hb => ?_⟩
  · unfold planT
    rw [hl, slotsF_cons, if_pos hS]
    exact ⟨_, by rw [← hc1]; rfl⟩
  · unfold planB at hb
    rcases List.mem_cons.1 hb with hb | hb
    · exact .inl hb
    · rcases List.mem_append.1 hb with hb | hb
      · rw [hl] at hb
        rw [List.map_cons, List.map_nil, List.mem_singleton] at hb
        rw [hb]
        exact .inr (.inl (hd_leaf (leaf_one (hok c (by rw [hC]; exact List.mem_singleton_self _)))))
      · rw [chainsB_cons] at hb
        split at hb
        · rename_i h24
          rcases List.mem_append.1 hb with hb | hb
          · refine .inr (.inr (chainB_hd _ _ ?_ b hb))
            unfold planS at hS
            rw [chainsF_cons, if_pos h24] at hS
            exact hS
          · cases hb
        · cases hb
def OldIx (k : Int) (live : List R2) : Prop := ∃ x ∈ live, ∃ sl : List S2, x.2 = (indexE sl).1 ∧ (indexE sl).2 = true ∧ ∀ y ∈ sl, y.1 < k
section
variable {V V' : VS} {m : Nat} {r : R2}
theorem room_step (h : VOk V m) (h' : VOk V' m) (hp : (svP V m [r]).2.2 = 0) (hc : ∀ n b, (n, b) ∈ V'.live ↔ (b ∈ planB [r] V.live (freeL m V.live) ∧ (planZ [r] V.live (freeL m V.live)).2.known b = some n)) (ho : OldIx r.1 V.live) :
    V'.live.length + 1 ≤ m ∧ OldIx (r.1 + 1) V'.live := by
  obtain ⟨⟨p, hsl⟩, iS, hB⟩ := one_plan (r := r) (hv := V.live) (fr := freeL m V.live) hp
  obtain ⟨x, hx, sl, e1, e2, e3⟩ := ho
  have hlow : ∀ y ∈ V'.live, 2 ≤ y.1 ∧ y.1 < (m : Int) + 2 := fun y hy => by
    have a := h'.disk.low y hy
    have b := h'.pages
    exact ⟨a.1, by have := a.2; omega⟩
  have hlx : 2 ≤ x.1 ∧ x.1 < (m : Int) + 2 := by
    have a := h.disk.low x hx
    have b := h.pages
    exact ⟨a.1, by have := a.2; omega⟩
  have hne : ∀ y ∈ V'.live, y.1 ≠ x.1 := fun y hy e => by
    obtain ⟨k1, k2⟩ := (hc y.1 y.2).1 hy
    have m1 := sv_known hp k2
    have m2 : x ∈ V.live ++ (svP V m [r]).1 := List.mem_append_left _ hx
    have hap := sv_apart h hp
    have H : ∀ (l : List R2), l.Pairwise (fun p q => p.1 ≠ q.1) → (y.1, y.2) ∈ l → x ∈ l → y.2 = x.2 := by
      intro l
      induction l with
      | nil => intro _ h _; cases h
      | cons z t ih =>
        intro hp h1 h2
        obtain ⟨p1, p2⟩ := List.pairwise_cons.1 hp
        rcases List.mem_cons.1 h1 with h1 | h1
        · rcases List.mem_cons.1 h2 with h2 | h2
          · rw [h2, ← h1]
          · exact absurd (by rw [← h1]; exact e) (p1 _ h2)
        · rcases List.mem_cons.1 h2 with h2 | h2
          · exact absurd (by rw [← h2]; exact e.symm) (p1 _ h1)
          · exact ih p2 h1 h2
    have hyx := H _ hap m1 m2
    have hx73 : hd y.2 = some 73 := by rw [hyx, e1]; exact hd_index e2
    rcases hB y.2 k1 with hb | hb | hb
    · have := congrArg slotsE (show (indexE sl).1 = (indexE (planT [r] V.live (freeL m V.live)).1).1 from by rw [← e1, ← hyx, hb])
      rw [slotsE_back e2, slotsE_back iS, hsl] at this
      simp only [Prod.mk.injEq, and_true] at this
      have := e3 (r.1, p) (by rw [this]; exact List.mem_singleton_self _)
      exact absurd this (by show ¬ r.1 < r.1; omega)
    · rw [hx73] at hb; exact absurd hb (by decide)
    · rw [hx73] at hb; exact absurd hb (by decide)
  refine ⟨?_, ?_⟩
  · have h1 := nodup_le m (x.1 :: V'.live.map (·.1)) (by
      rw [List.nodup_cons]
      refine ⟨fun hm => ?_, ?_⟩
      · obtain ⟨y, hy, e⟩ := List.mem_map.1 hm
        exact hne y hy e
      · unfold List.Nodup
        rw [List.pairwise_map]
        exact h'.disk.tree.apart) (fun z hz => by
      rcases List.mem_cons.1 hz with rfl | hz
      · exact hlx
      · obtain ⟨y, hy, rfl⟩ := List.mem_map.1 hz
        exact hlow y hy)
    rw [List.length_cons, List.length_map] at h1
    exact h1
  · have hkn : (planZ [r] V.live (freeL m V.live)).2.known (indexE (planT [r] V.live (freeL m V.live)).1).1 = some (planZ [r] V.live (freeL m V.live)).1 := put_known (planE_ok hp).2.2.2.1
    refine ⟨((planZ [r] V.live (freeL m V.live)).1, (indexE (planT [r] V.live (freeL m V.live)).1).1), (hc _ _).2 ⟨?_, hkn⟩, (planT [r] V.live (freeL m V.live)).1, rfl, iS, fun y hy => ?_⟩
    · unfold planB; exact List.mem_cons_self
    · rw [hsl, List.mem_singleton] at hy
      rw [hy]; show r.1 < r.1 + 1; omega
theorem one_right {r : R2} (h1 : 0 ≤ r.1) (h2 : r.1 ≤ 2147483647) (h3 : r.2.size ≤ 900) : rightF (-1) [r] = true := by
  unfold rightF rightF
  rw [decide_eq_true (show (-1 : Int) < r.1 by omega), decide_eq_true h2, decide_eq_true h3]; rfl
theorem one_few {r : R2} (h1 : 0 ≤ r.1) (h2 : r.1 ≤ 2147483647) (h3 : r.2.size ≤ 900) : (lvs [] ([r].map (cellE · 2))).length = 1 := by
  rw [List.map_cons, List.map_nil, one_lvs (cellE_ok (by omega) h2 h3 (fun _ => by decide))]; rfl
theorem room_ways (h : VOk V m) (hm : m ≤ 198) (h1 : 0 ≤ r.1) (h2 : r.1 ≤ 2147483647) (h3 : r.2.size ≤ 900) :
    (svP V m [r]).2.2 = 0 ∨ ((svP V m [r]).2.2 = 8 ∧ m < needE [r] + V.live.length) := by
  have a1 := one_right h1 h2 h3
  have a3 : ¬ 21 < (lvs [] ([r].map (cellE · 2))).length := by rw [one_few h1 h2 h3]; decide
  have hlow : ∀ x ∈ V.live, 2 ≤ x.1 ∧ x.1 < (m : Int) + 2 := fun x hx => by
    have a := h.disk.low x hx
    have b := h.pages
    exact ⟨a.1, by have := a.2; omega⟩
  have hmay := may_free hm hlow
  have hneed : 0 < needE [r] := by
    rcases plan_two (hv := []) (fr := pgs 198) (l := [r]) (pgs_may (by decide)) List.Pairwise.nil (pgs_nodup _) (fun n _ x hx => (List.not_mem_nil hx).elim) a1 a3 with ⟨_, b, _⟩ | ⟨b, _⟩
    · exact b
    · exact absurd (plan_fits (hv := []) a1 (pgs_may (by decide)) a3 (by rw [pgs_length]; show 8 * 1 + 22 < 198; decide)) b
  rcases sv_two (l := [r]) h hm with ⟨a, _⟩ | ⟨a, b⟩
  · exact .inl a
  · refine .inr ⟨?_, b hneed⟩
    have he := plan_end a1 hmay a3
    have hA : (rightF (-1) [r] && mayE (List.map (fun x => x.1) V.live) (freeL m V.live)) = true := by rw [a1, hmay]; rfl
    have hs : svP V m [r] = planE [r] V.live (freeL m V.live) := rfl
    rw [hs] at a ⊢
    unfold planE at a ⊢
    rw [if_pos hA, if_neg a3] at a ⊢
    by_cases hz : (planZ [r] V.live (freeL m V.live)).2.e = 0
    · rw [if_pos hz] at a; exact absurd rfl a
    · rw [if_neg hz]
      exact he.e.resolve_left hz
end
end Go.Proofs.YtdhaoaehboonpaaGreat.V
end

/- Lists that are kept in a book: rows of lists, each list a row of the call's own; an append that leaves the other rows as they are. -/
import Derived.Test.YtfblelkegebdiaaK
namespace Go.Proofs.Ytfblelkegebdiaa.V
open Go.Proofs Go.RowKit Go.Lib Go.Proofs.YtfblelkegebdiaaW.PrintWords Go.Proofs.YtfblelkegebdiaaW.PrintLast Go.Proofs.YtfblelkegebdiaaW.PrintMore
set_option linter.unusedVariables false
set_option linter.unusedSimpArgs false

/-- a slice, as a value -/
structure SV where
  A : Option Addr
  n : Nat
  c : Nat
def encS (s : SV) : Value := .slice s.A s.n s.c
def dS : Kd SV := Kd.scalar encS (fun _ => rfl)
theorem dS_sz : dS.sz = 1 := rfl
theorem SV_at {w : World} {A : Option Addr} {n : Nat} {S : List SV} (h : dS.C w A n S) (i : Nat) (hi : i < n) (hS : i < S.length) : ∃ ad, A = some ad ∧ w.cell? (ad.add i) = some (encS S[i]) := by
  obtain ⟨ad, c, hA, hc, hK, hx⟩ := Kd.C_get h ⟨none, 0, 0⟩ (i : Int) (by omega) (by omega)
  refine ⟨ad, hA, ?_⟩
  have hK' : c = [encS (S.getD i ⟨none, 0, 0⟩)] := hK
  have h0 := hx 0 (encS (S.getD i ⟨none, 0, 0⟩)) (by rw [hK']; rfl)
  rw [dS_sz, Int.toNat_natCast, Nat.mul_one, Nat.add_zero] at h0
  rw [h0]
  simp [List.getD, hS]
/-- a kind whose elements have no rows of their own -/
def Flat {α : Type} (d : Kd α) : Prop := ∀ {w w' : World} {base base' : Nat} {ok ok' : Nat → Prop} {x : α} {cs : List Value}, d.M w base ok x cs → d.M w' base' ok' x cs
theorem flat_scalar {α : Type} (enc : α → Value) (h1 : ∀ x, (enc x).oneCell' = true) : Flat (Kd.scalar enc h1) := fun h => h
theorem flat_R {α : Type} {d : Kd α} (hf : Flat d) {e : Nat} {w w' : World} {base : Nat} {ok ok' : Nat → Prop} {v : Value} {xs : List α} (h : d.R e w base ok v xs) (hok : ∀ k, v.ownBlock = some k → ok' k)
    (hm : ∀ size n ys, w.ownsRow base e size v n ys → w'.ownsRow base e size v n ys) : d.R e w' base ok' v xs := by
  obtain ⟨h0, inner, ho, hr⟩ := h
  exact ⟨hok, inner, hm _ _ _ ho, hr.imp_ fun _ _ hp => hf hp⟩
/-- blocks of other types than those of X are as they were -/
def KX (X : List Nat) (w w' : World) : Prop := w.heap.size ≤ w'.heap.size ∧ ∀ (k : Nat) (o : Obj), w.heap[k]? = some o → (∀ cs t fr, o = Obj.cells cs t fr → t ∉ X) → w'.heap[k]? = some o
theorem KX.refl (X : List Nat) (w : World) : KX X w w := ⟨Nat.le_refl _, fun k o h _ => h⟩
theorem KX.trans {X : List Nat} {w w1 w2 : World} (h : KX X w w1) (g : KX X w1 w2) : KX X w w2 := ⟨Nat.le_trans h.1 g.1, fun k o hk ho => g.2 k o (h.2 k o hk ho) ho⟩
theorem KX.below {X : List Nat} {w w1 : World} (h : Below w.heap.size w w1) : KX X w w1 := ⟨h.size, fun k o hk _ => (h.block k (Array.getElem?_eq_some_iff.1 hk).1).trans hk⟩
theorem KX.mono {X Y : List Nat} {w w1 : World} (h : KX X w w1) (hs : ∀ t, t ∈ X → t ∈ Y) : KX Y w w1 := ⟨h.1, fun k o hk ho => h.2 k o hk fun cs t fr e hx => ho cs t fr e (hs t hx)⟩
theorem KX.block {X : List Nat} {w w1 : World} (h : KX X w w1) {g t : Nat} {cs : Array Value} {fr : Nat × Nat} (hg : w.heap[g]? = some (.cells cs t fr)) (ht : t ∉ X) : w1.heap[g]? = some (.cells cs t fr) :=
  h.2 g _ hg fun cs' t' fr' e => by injection e with _ e2 _; rw [← e2]; exact ht
theorem KX.grown {X : List Nat} {e : Nat} {w w1 : World} {row : Option Nat} (hg : w.grownBy w1 row) (he : e ∈ X) (ht : ∀ k, row = some k → ∃ cs fr, w.heap[k]? = some (.cells cs e fr)) : KX X w w1 := by
  refine ⟨hg.size, fun k o hk ho => ?_⟩
  by_cases hr : some k = row
  · obtain ⟨cs, fr, h⟩ := ht k hr.symm
    rw [hk] at h
    injection h with h
    exact absurd he (ho cs e fr h)
  · exact (hg.block k (Array.getElem?_eq_some_iff.1 hk).1 hr).trans hk
theorem KX.set {X : List Nat} {e : Nat} {w : World} {p : Addr} {u : Value} {cs : Array Value} {fr : Nat × Nat} (hp : w.heap[p.block]? = some (.cells cs e fr)) (he : e ∈ X) : KX X w (w.setCell p u) := by
  refine ⟨by simp [World.setCell], fun k o hk ho => ?_⟩
  by_cases h : k = p.block
  · subst h
    rw [hp] at hk
    injection hk with hk
    exact absurd he (ho cs e fr hk.symm)
  · exact (Below.heap_setCell w p u k h).trans hk
theorem KX.row {X : List Nat} {w w1 : World} (h : KX X w w1) {base : Nat} {e : TypeId} {size n : Nat} {v : Value} {xs : List Value} (ho : w.ownsRow base e size v n xs) (he : e ∉ X) : w1.ownsRow base e size v n xs := by
  refine ⟨ho.1, ?_⟩
  rcases ho.2 with hn | ⟨g, cap, cur, rfl, hb, hgg, rest⟩
  · exact .inl hn
  · exact .inr ⟨g, cap, cur, rfl, hb, h.block hgg he, rest⟩
/-- the rows beside v, and those that end ahead of v's end (n cells), are as they were -/
def Kept1 (w w' : World) (v : Value) (n : Nat) : Prop := ∀ (base : Nat) (e : TypeId) (size : Nat) (u : Value) (m : Nat) (ys : List Value), w.ownsRow base e size u m ys → (u.ownBlock = v.ownBlock → u.ownBlock = none ∨ m * size ≤ n) → w'.ownsRow base e size u m ys
theorem own_none {w : World} {base : Nat} {e : TypeId} {size n : Nat} {v : Value} {xs : List Value} (h : w.ownsRow base e size v n xs) (hn : v.ownBlock = none) (w' : World) : w'.ownsRow base e size v n xs := by
  refine ⟨h.1, ?_⟩
  rcases h.2 with h | ⟨g, cap, cur, rfl, _⟩
  · exact .inl h
  · simp [Value.ownBlock] at hn
theorem Kept1.alloc (w : World) (o : Obj) (v : Value) (n : Nat) : Kept1 w (w.alloc o) v n := fun base e size u m ys h _ => h.alloc o
theorem Kept1.drew (w : World) (v : Value) (n : Nat) : Kept1 w w.drew v n := fun base e size u m ys h _ => h
/-- append, and what stands beside -/
theorem run_append_kept {P : Program} (w : World) (base : Nat) (t ty e : TypeId) (i : TypeInfo) (z : Value) (size bytes : Nat) (ht : P.underlying t = some (.slice e)) (hi : P.info? e = some i) (hz : i.zero = some z)
    (hsize : i.size = size) (hby : i.bytes = bytes) (hzs : z.cells.size = size) (hsz : 0 < size)
    (v : Value) (n : Nat) (xs : List Value) (hown : w.ownsRow base e size v n xs)
    (a : Addr) (m c : Nat) (news : List Value) (hl : news.length = m * size) (hnews : ∀ j u, news[j]? = some u → w.cell? (a.add j) = some u) (h1 : ∀ u ∈ news, u.oneCell' = true)
    (h63 : n + m ≤ maxLen) (hbytes : (n + m) * bytes ≤ 140737488355328) (hbase : base ≤ w.heap.size) :
    ∃ v' w', (Builtin.append_ #[t, t] ty #[v, .slice (some a) m c]).run P w = .ok v' w' ∧ w'.ownsRow base e size v' (n + m) (xs ++ news) ∧ w.grownBy w' v.ownBlock ∧
      (v'.ownBlock = v.ownBlock ∨ ∃ b, v'.ownBlock = some b ∧ w.heap.size ≤ b) ∧ Kept1 w w' v (n * size) := by
  obtain ⟨v0, w0, hr0, ho0, hg0, _⟩ := run_append_own (P := P) w base t ty e i z size bytes ht hi hz hsize hby hzs hsz v n xs hown a m c news hl hnews h1 h63 hbytes hbase
  refine ⟨v0, w0, hr0, ho0, hg0, ?_⟩
  subst hsize
  subst hby
  have hsmall : n + m ≤ 9223372036854775807 := by simp only [maxLen] at h63; omega
  rcases hown.2 with ⟨rfl, rfl⟩ | ⟨g, cap, cur, rfl, hbg, hg, hnc, hcm, hcs, htake⟩
  · by_cases hm : m = 0
    · subst hm
      have hn : news = [] := List.eq_nil_of_length_eq_zero (by simpa using hl)
      subst hn
      have hr : (Builtin.append_ #[t, t] ty #[.slice none 0 0, .slice (some a) 0 c]).run P w = .ok (.slice none 0 0) w := by
        simp [Builtin.append_, run_underlying ht, sizeOf, typeInfo, hi, Builtin.lenOf, Builtin.firstCells, loadCells, loadCellsFrom]
      rw [hr] at hr0
      injection hr0 with e1 e2
      subst e1 e2
      exact ⟨.inl rfl, fun base e size u m ys h _ => h⟩
    · have hr := run_append_nil (P := P) w t ty e i z ht hi hz a m c news hl hnews (by omega) (by omega) (by have hb := hbytes; simp only [Nat.zero_add] at hb; omega)
      rw [hr] at hr0
      injection hr0 with e1 e2
      subst e1 e2
      exact ⟨.inr ⟨w.heap.size, rfl, Nat.le_refl _⟩, fun base e size u m ys h _ => (show w.drew.ownsRow base e size u m ys from h).alloc _⟩
  · by_cases hroom : n + m ≤ cap
    · have hfit : n * i.size + news.length ≤ cur.size := by rw [hl, hcs, ← Nat.add_mul]; exact Nat.mul_le_mul_right _ hroom
      have hr := run_append_room (P := P) w t ty e i ht hi g n cap cur hg a m c news hl hnews h1 hroom hfit
      rw [hr] at hr0
      injection hr0 with e1 e2
      subst e1 e2
      refine ⟨.inl rfl, fun base' e' size u k ys h hu => ?_⟩
      refine ⟨h.1, ?_⟩
      rcases h.2 with hn | ⟨g', cap', cur', rfl, hb', hg', hk1, hk2, hk3, hk4⟩
      · exact .inl hn
      · by_cases hgg : g' = g
        · subst hgg
          rw [hg] at hg'
          injection hg' with hg'
          injection hg' with c1 c2 c3
          subst c1 c2
          have hkn : k * size ≤ n * i.size := by
            rcases hu rfl with h | h
            · simp [Value.ownBlock] at h
            · exact h
          refine .inr ⟨g', cap', _, rfl, hb', setRow_heap w g' cur _ e _ hg, hk1, hk2, ?_, ?_⟩
          · rw [← hk3]
            simp only [List.size_toArray, List.length_append, List.length_take, List.length_drop, Array.length_toList]
            omega
          · rw [← hk4]
            simp only [List.append_assoc]
            rw [List.take_append_of_le_length (by rw [List.length_take, Array.length_toList]; omega), List.take_take, Nat.min_eq_left hkn]
        · exact .inr ⟨g', cap', cur', rfl, hb', (setRow_other w g g' _ hgg).trans hg', hk1, hk2, hk3, hk4⟩
    · have holds : ∀ j u, xs[j]? = some u → w.cell? ((⟨g, 0, none⟩ : Addr).add j) = some u := hown.cells (g := g) rfl
      have hr := run_append_grow (P := P) w t ty e i z ht hi hz ⟨g, 0, none⟩ n cap xs hown.1 holds a m c news hl hnews (by omega) (by omega) (growslice_fits (by omega) hbytes)
      rw [hr] at hr0
      injection hr0 with e1 e2
      subst e1 e2
      exact ⟨.inr ⟨w.heap.size, rfl, Nat.le_refl _⟩, fun base e size u m ys h _ => (show w.drew.ownsRow base e size u m ys from h).alloc _⟩
/-- append(v, ys...) to a row whose elements have no rows of their own: what becomes of the row, and of those beside it -/
theorem F_append_rows {P : Program} {ops : Array Oper} {rest : List Oper} {o : Oper} {a : Act} {Q : Exit → Act → World → Prop} {α : Type} (d : Kd α) (hfl : Flat d) {w0 W : World} (base : Nat) (hgd : o.guard = none) (s x : Operand) (t e : TypeId) (z : Value) (bytes : Nat)
    (ho : o.op = .call { callee := .builtin .append, args := #[s, x], argTypes := #[t, t] })
    (ht : P.underlying t = some (.slice e)) (hinfo : (P.info? e).map (fun i => (i.zero, i.size, i.bytes)) = some (some z, d.sz, bytes)) (hz : z.cells.size = d.sz) (hs0 : 0 < d.sz) (hb0 : 0 < bytes)
    (v : Value) (xs ys : List α) (A : Option Addr) (m c : Nat) (hs : a.eval s = v) (hx : a.eval x = .slice A m c)
    (HO : d.R e W base (fun _ => True) v xs) (HR : d.C W A m ys) (hKM : ∀ x cs, d.K W x cs → d.M W base (fun _ => False) x cs)
    (HB : Below base w0 W) (hbase : base ≤ W.heap.size) (hl : (xs.length + m) * bytes ≤ 140737488355328)
    (h : ∀ v1 w1, d.R e w1 base (fun _ => True) v1 (xs ++ ys) → Below base w0 w1 → KX [e] W w1 → (v1.ownBlock = v.ownBlock ∨ ∃ b, v1.ownBlock = some b ∧ W.heap.size ≤ b) → Kept1 W w1 v (xs.length * d.sz) → wpList P ops Q rest (a.put o.dst v1) w1) :
    wpList P ops Q (o :: rest) a W := by
  obtain ⟨i0, hi, hzz⟩ := Option.map_eq_some_iff.1 hinfo
  simp only [Prod.mk.injEq] at hzz
  obtain ⟨hz0, hz1, hz2⟩ := hzz
  have hm : ys.length = m := HR.1
  have hlen : xs.length + m ≤ 140737488355328 := Nat.le_trans (Nat.le_mul_of_pos_right _ hb0) hl
  obtain ⟨_, inner, hown, hr⟩ := HO
  have hrun : ∃ v1 w1, (Builtin.append_ #[t, t] o.type #[v, .slice A m c]).run P W = .ok v1 w1 ∧ d.R e w1 base (fun _ => True) v1 (xs ++ ys) ∧ W.grownBy w1 v.ownBlock ∧ (v1.ownBlock = v.ownBlock ∨ ∃ b, v1.ownBlock = some b ∧ W.heap.size ≤ b) ∧ Kept1 W w1 v (xs.length * d.sz) := by
    rcases A with _ | ad
    · have h0 : m = 0 := by
        rcases Nat.eq_zero_or_pos m with h0 | h0
        · exact h0
        · obtain ⟨ad, h, _⟩ := HR.2.2 h0
          cases h
      subst h0
      obtain rfl : ys = [] := List.eq_nil_of_length_eq_zero hm
      refine ⟨v, W, ?_, by rw [List.append_nil]; exact ⟨fun _ _ => trivial, inner, hown, hr⟩, World.grownBy.refl W _, .inl rfl, fun base e size u m ys h _ => h⟩
      rcases hown.2 with ⟨rfl, hn⟩ | ⟨g, cap, cur, rfl, _, _, hnc, _⟩
      · simp [Builtin.append_, run_underlying ht, sizeOf, typeInfo, hi, Builtin.lenOf, Builtin.firstCells]
      · simp [Builtin.append_, run_underlying ht, sizeOf, typeInfo, hi, Builtin.lenOf, Builtin.firstCells, hnc, storeCells]
    · obtain ⟨news, hnr, hnc⟩ := ReadsRow.inner_ HR
      have hnM : Reps (d.M W base (fun _ => False)) d.sz ys news := hnr.imp_ (fun p c hp => hKM p c hp)
      have hone : ∀ u ∈ news, u.oneCell' = true := by
        intro u hu
        obtain ⟨q, hq, rfl⟩ := List.mem_iff_getElem.1 hu
        have hql : q / d.sz < ys.length := by
          rw [Nat.div_lt_iff_lt_mul hs0]
          rw [← hnM.1]
          exact hq
        have hc := hnM.2 (q / d.sz) _ (List.getElem?_eq_getElem hql)
        refine d.K_one (d.K_of_M hc) _ ?_
        rw [List.mem_iff_getElem?]
        refine ⟨q % d.sz, ?_⟩
        rw [List.getElem?_take, if_pos (Nat.mod_lt _ hs0), List.getElem?_drop, Nat.mul_comm, Nat.div_add_mod, List.getElem?_eq_getElem hq]
      obtain ⟨v1, w1, hrun, h2, hg, hat, hk⟩ := run_append_kept (P := P) W base t o.type e i0 z d.sz bytes ht hi hz0 hz1 hz2 hz hs0 v xs.length inner hown ad m c news (by rw [hnM.1, hm]) hnc hone (by simp only [maxLen]; omega) hl hbase
      exact ⟨v1, w1, hrun, ⟨fun _ _ => trivial, inner ++ news, by rw [List.length_append, hm]; exact h2, Kd.reps_append (hr.imp_ (fun _ _ hq => hfl hq)) (hnM.imp_ (fun _ _ hq => hfl hq))⟩, hg, hat, hk⟩
  obtain ⟨v1, w1, hr1, h1, hg, hat, hk⟩ := hrun
  refine wpList_plain hgd fun K hK => ?_
  unfold Oper.wp execOp
  simp only [ho, resolve, invoke, builtin, Sem.run_bind, Sem.run_pure, Result.andThen_ok, List.map_toArray, List.map_cons, List.map_nil, hs, hx, hr1]
  exact hK _ _ (h v1 w1 h1 (HB.grown hg hbase (own_base hown)) (KX.grown hg List.mem_cons_self (fun k hk => (own_typed hown k hk).imp fun cs h => ⟨_, h⟩)) hat hk)
/-- a whole element is written -/
theorem F_store {P : Program} {ops : Array Oper} {rest : List Oper} {o : Oper} {a : Act} {Q : Exit → Act → World → Prop} {α : Type} (d : Kd α) {w0 W : World} (base : Nat) (hN : o.dst = none) (hgd : o.guard = none) (t : TypeId) (p x : Operand) (ho : o.op = .store t p x) (e : TypeId) {g n cap o' : Nat} (k : Nat) (xs : List α) (x' z : α) (u : Value) (seg : List Value)
    (haddr : a.eval p = .pointer (some ⟨g, o', none⟩)) (hoff : o' = k * d.sz) (hx : a.eval x = u) (hu : u.cells.toList = seg) (ht : (P.info? t).map (·.size) = some seg.length) (h1 : ∀ q ∈ seg, q.oneCell' = true)
    (HO : d.R e W base (fun _ => True) (.slice (some ⟨g, 0, none⟩) n cap) xs) (hk : k < n) (hseg : seg.length = d.sz) (hM : d.M W base (fun _ => False) x' seg) (HB : Below base w0 W)
    (h : ∀ w1, d.R e w1 base (fun _ => True) (.slice (some ⟨g, 0, none⟩) n cap) (xs.set k x') → Below base w0 w1 → W.grownBy w1 (some g) → wpList P ops Q rest a w1) : wpList P ops Q (o :: rest) a W := by
  have hC := (Kd.R_reads' HO).2.2
  have hn := (Kd.R_reads' HO).1
  obtain ⟨ad, c, e1, hcl, _, hcc⟩ := Kd.C_get hC z (k : Int) (by omega) (by omega)
  injection e1 with e1
  subst e1
  refine Kd.R_store d base hN hgd t p x ho e (k : Int) 0 xs x' u seg c (fun _ => True) (fun _ => False) haddr (by rw [Int.toNat_natCast]; omega) hx hu ht h1 HO (by omega) (by omega) hcl ?_ (by omega) ?_ (fun _ hk => hk.elim) HB (by rw [Int.toNat_natCast]; exact h)
  · intro j u hj
    have := hcc j u hj
    rw [add_plain] at this
    exact this
  · rw [List.take_zero, List.nil_append, Nat.zero_add, List.drop_of_length_le (by omega), List.append_nil]
    exact hM
theorem R_beside {α : Type} {d : Kd α} (hf : Flat d) {e : Nat} {w w1 : World} {base : Nat} {ok ok' : Nat → Prop} {v : Value} {xs : List α} (h : d.R e w base ok v xs) {row : Option Nat} (hg : w.grownBy w1 row) (hne : v.ownBlock = none ∨ v.ownBlock ≠ row) (hok : ∀ k, v.ownBlock = some k → ok' k) : d.R e w1 base ok' v xs :=
  flat_R hf h hok fun size n ys ho => own_other ho hg hne
/-- lists that lie in a book (a field of a block whose cells are vs), each a row of the call's own, no two in one block -/
structure Held {α : Type} (d : Kd α) (e es f : Nat) (w : World) (base : Nat) (vs : Array Value) (L : List (SV × List α)) : Prop where
  row : ∃ vO, vs[f]? = some vO ∧ dS.R es w base (fun _ => True) vO (L.map (·.1))
  own : ∀ (i : Nat) (p : SV × List α), L[i]? = some p → d.R e w base (fun _ => True) (encS p.1) p.2
  sep : ∀ (i j : Nat) (p q : SV × List α), i ≠ j → L[i]? = some p → L[j]? = some q → (encS p.1).ownBlock = none ∨ (encS p.1).ownBlock ≠ (encS q.1).ownBlock
  few : L.length ≤ 250
  short : ∀ (i : Nat) (p : SV × List α), L[i]? = some p → p.2.length ≤ 100000
section
variable {α : Type} {d : Kd α} {e es f : Nat} {w w1 : World} {base : Nat} {vs : Array Value} {L : List (SV × List α)}
theorem Held.step (h : Held d e es f w base vs L) (hf : Flat d) (hm : ∀ (k : Nat) (cs : Array Value) (t : TypeId), t = e ∨ t = es → w.heap[k]? = some (Obj.cells cs t (0, 0)) → w1.heap[k]? = some (Obj.cells cs t (0, 0))) : Held d e es f w1 base vs L := by
  have mv : ∀ {t size n : Nat} {v : Value} {xs : List Value}, t = e ∨ t = es → w.ownsRow base t size v n xs → w1.ownsRow base t size v n xs := by
    intro t size n v xs ht ho
    refine ⟨ho.1, ?_⟩
    rcases ho.2 with hn | ⟨g, cap, cur, rfl, hb, hgg, rest⟩
    · exact .inl hn
    · exact .inr ⟨g, cap, cur, rfl, hb, hm g cur t ht hgg, rest⟩
  obtain ⟨vO, h1, h2⟩ := h.row
  exact ⟨⟨vO, h1, flat_R (flat_scalar _ _) h2 (fun _ _ => trivial) fun _ _ _ ho => mv (.inr rfl) ho⟩, fun i p hp => flat_R hf (h.own i p hp) (fun _ _ => trivial) fun _ _ _ ho => mv (.inl rfl) ho, h.sep, h.few, h.short⟩
theorem Held.kx (h : Held d e es f w base vs L) (hf : Flat d) {X : List Nat} (hk : KX X w w1) (h1 : e ∉ X) (h2 : es ∉ X) : Held d e es f w1 base vs L :=
  h.step hf fun k cs t ht hc => hk.block hc (by rcases ht with rfl | rfl <;> assumption)
theorem Held.below (h : Held d e es f w base vs L) (hf : Flat d) (hb : Below w.heap.size w w1) : Held d e es f w1 base vs L :=
  h.kx hf (KX.below (X := []) hb) (by simp) (by simp)
theorem Held.cells (h : Held d e es f w base vs L) {vs' : Array Value} (hv : vs'[f]? = vs[f]?) : Held d e es f w base vs' L := by
  obtain ⟨vO, h1, h2⟩ := h.row
  exact ⟨⟨vO, hv.trans h1, h2⟩, h.own, h.sep, h.few, h.short⟩
theorem Held.set (h : Held d e es f w base vs L) (hf : Flat d) (hne : es ≠ e) {k : Nat} {s : SV} {xs ys : List α} (hk : L[k]? = some (s, xs)) (hg : w.grownBy w1 (encS s).ownBlock) (hR : d.R e w1 base (fun _ => True) (encS s) ys) (hl : ys.length ≤ 100000) : Held d e es f w1 base vs (L.set k (s, ys)) := by
  have hlt : k < L.length := (List.getElem?_eq_some_iff.1 hk).1
  have hmap : (L.set k (s, ys)).map (·.1) = L.map (·.1) := by
    rw [List.map_set]
    apply List.ext_getElem? 
    intro i
    rw [List.getElem?_set]
    by_cases hi : k = i
    · subst hi
      rw [if_pos rfl, if_pos (by rw [List.length_map]; exact hlt), List.getElem?_map, hk]
      rfl
    · rw [if_neg hi]
  have hget : ∀ (i : Nat) (p : SV × List α), (L.set k (s, ys))[i]? = some p → (i = k ∧ p = (s, ys)) ∨ (i ≠ k ∧ L[i]? = some p) := by
    intro i p hp
    rw [List.getElem?_set] at hp
    by_cases hi : k = i
    · subst hi
      rw [if_pos rfl, if_pos hlt] at hp
      injection hp with hp
      exact .inl ⟨rfl, hp.symm⟩
    · rw [if_neg hi] at hp
      exact .inr ⟨fun e => hi e.symm, hp⟩
  obtain ⟨vO, h1, h2⟩ := h.row
  have hK := h.own k _ hk
  obtain ⟨_, inner, ho, _⟩ := hK
  have hx : KX [e] w w1 := KX.grown hg List.mem_cons_self fun k hk => (own_typed ho k hk).imp fun cs h => ⟨_, h⟩
  refine ⟨⟨vO, h1, ?_⟩, fun i p hp => ?_, fun i j p q hij hp hq => ?_, by rw [List.length_set]; exact h.few, fun i p hp => ?_⟩
  · rw [hmap]
    exact flat_R (flat_scalar _ _) h2 (fun _ _ => trivial) fun _ _ _ ho => hx.row ho (by simpa using hne)
  · rcases hget i p hp with ⟨_, rfl⟩ | ⟨hi, hp⟩
    · exact hR
    · exact R_beside hf (h.own i p hp) hg (h.sep i k p _ hi hp hk) (fun _ _ => trivial)
  · rcases hget i p hp with ⟨hi, rfl⟩ | ⟨hi, hp⟩
    · rcases hget j q hq with ⟨hj, rfl⟩ | ⟨hj, hq⟩
      · omega
      · exact h.sep k j (s, xs) q (fun e => hj e.symm) hk hq
    · rcases hget j q hq with ⟨hj, rfl⟩ | ⟨hj, hq⟩
      · exact h.sep i k p (s, xs) hi hp hk
      · exact h.sep i j p q hij hp hq
  · rcases hget i p hp with ⟨_, rfl⟩ | ⟨_, hp⟩
    · exact hl
    · exact h.short i p hp
/-- what a walk reads of list i -/
theorem Held.at_ (h : Held d e es f w base vs L) {i : Nat} (hi : i < L.length) : ∃ s xs, L[i]? = some (s, xs) ∧ s.n = xs.length ∧ s.n ≤ s.c ∧ d.C w s.A xs.length xs ∧ xs.length ≤ 100000 := by
  obtain ⟨⟨s, xs⟩, hp⟩ : ∃ p, L[i]? = some p := ⟨L[i], List.getElem?_eq_getElem hi⟩
  have h0 := Kd.R_reads' (A := s.A) (n := s.n) (c := s.c) (h.own i _ hp)
  exact ⟨s, xs, hp, h0.1, h0.2.1, h0.2.2, h.short i _ hp⟩
theorem Held.outer (h : Held d e es f w base vs L) : ∃ A c, vs[f]? = some (.slice A L.length c) ∧ L.length ≤ c ∧ dS.C w A L.length (L.map (·.1)) := by
  obtain ⟨vO, h1, h2⟩ := h.row
  obtain ⟨A, c, rfl, hl, hC⟩ := Kd.R_reads h2
  rw [List.length_map] at h1 hl hC
  exact ⟨A, c, h1, hl, hC⟩
end
theorem SV_cell {α : Type} {w : World} {A : Option Addr} {L : List (SV × List α)} (h : dS.C w A L.length (L.map (·.1))) {i : Nat} {s : SV} {xs : List α} (hi : L[i]? = some (s, xs)) : ∃ ad, A = some ad ∧ w.cell? (ad.add i) = some (.slice s.A s.n s.c) := by
  have hlt : i < L.length := (List.getElem?_eq_some_iff.1 hi).1
  obtain ⟨ad, hA, hx⟩ := SV_at h i hlt (by rw [List.length_map]; exact hlt)
  refine ⟨ad, hA, ?_⟩
  have he : (L.map (·.1))[i]'(by rw [List.length_map]; exact hlt) = s := by
    rw [List.getElem_map]
    have := (List.getElem?_eq_some_iff.1 hi).2
    rw [this]
  rw [he] at hx
  exact hx
theorem flat_R2 {α : Type} {d : Kd α} (hf : Flat d) {e : Nat} {w w' : World} {base : Nat} {ok ok' : Nat → Prop} {v : Value} {xs : List α} (h : d.R e w base ok v xs) (hok : ∀ k, v.ownBlock = some k → ok' k)
    (hm : ∀ ys, w.ownsRow base e d.sz v xs.length ys → w'.ownsRow base e d.sz v xs.length ys) : d.R e w' base ok' v xs := by
  obtain ⟨h0, inner, ho, hr⟩ := h
  exact ⟨hok, inner, hm _ ho, hr.imp_ fun _ _ hp => hf hp⟩
/-- not in one block, but in none -/
def Away (u v : Value) : Prop := u.ownBlock = v.ownBlock → u.ownBlock = none
theorem away_of {u v S : Value} {B : Nat} (h : Away u S) (hu : ∀ b, u.ownBlock = some b → b < B) (hv : v.ownBlock = S.ownBlock ∨ ∀ b, v.ownBlock = some b → B ≤ b) : Away u v := by
  intro e
  rcases hv with hv | hv
  · exact h (e.trans hv)
  · cases hb : u.ownBlock with
    | none => rfl
    | some b =>
      have h1 := hu b hb
      have h2 := hv b (by rw [← e, hb])
      omega
theorem KX.above {X : List Nat} {w wr w1 : World} (h : KX X w wr) {row : Option Nat} (hg : wr.grownBy w1 row) (hr : ∀ k, row = some k → w.heap.size ≤ k) : KX X w w1 := by
  refine ⟨Nat.le_trans h.1 hg.size, fun k o hk ho => ?_⟩
  have h1 := h.2 k o hk ho
  have hlt : k < w.heap.size := (Array.getElem?_eq_some_iff.1 hk).1
  exact (hg.block k (Array.getElem?_eq_some_iff.1 h1).1 (fun e => by have := hr k e.symm; omega)).trans h1
/-- two fields' rows do not lie in one block -/
def SepF (vs : Array Value) (f f1 : Nat) : Prop := ∀ v v' : Value, vs[f]? = some v → vs[f1]? = some v' → v'.ownBlock = none ∨ v'.ownBlock ≠ v.ownBlock
/-- lists that are being grown: Lo, i of them, in a row of their own -/
structure Grow {α : Type} (d : Kd α) (mks : Nat → Nat → Nat → List α) (e es f : Nat) (w wr : World) (base : Nat) (vs : Array Value) (L Lo : List (SV × List α)) (i : Nat) (vOut : Value) : Prop where
  held : Held d e es f wr base vs L
  len : Lo.length = i
  row : dS.R es wr w.heap.size (fun _ => True) vOut (Lo.map (·.1))
  own : ∀ (j : Nat) (p : SV × List α), Lo[j]? = some p → d.R e wr base (fun _ => True) (encS p.1) p.2
  data : ∀ (j : Nat) (p : SV × List α), Lo[j]? = some p → p.2 = mks j 0 p.2.length ∧ p.2.length ≤ 200000
  blk : ∀ (j : Nat) (p q : SV × List α), Lo[j]? = some p → L[j]? = some q → (encS p.1).ownBlock = (encS q.1).ownBlock ∨ ∀ b, (encS p.1).ownBlock = some b → w.heap.size ≤ b
  below : Below base w wr
  kx : KX [e] w wr
section
variable {α : Type} {d : Kd α} {mks : Nat → Nat → Nat → List α} {e es f : Nat} {w wr w1 : World} {base : Nat} {vs : Array Value} {L Lo : List (SV × List α)} {i : Nat} {vOut : Value}
theorem Grow.rows (h : Grow d mks e es f w wr base vs L Lo i vOut) (hf : Flat d) (hne : es ≠ e) (hb : Below base w w1) (hx : KX [e] wr w1)
    (hL : ∀ (j : Nat) (p : SV × List α), L[j]? = some p → ∀ ys, wr.ownsRow base e d.sz (encS p.1) p.2.length ys → w1.ownsRow base e d.sz (encS p.1) p.2.length ys)
    (hO : ∀ (j : Nat) (p : SV × List α), Lo[j]? = some p → ∀ ys, wr.ownsRow base e d.sz (encS p.1) p.2.length ys → w1.ownsRow base e d.sz (encS p.1) p.2.length ys) : Grow d mks e es f w w1 base vs L Lo i vOut := by
  obtain ⟨vO, h1, h2⟩ := h.held.row
  exact ⟨⟨⟨vO, h1, flat_R (flat_scalar _ _) h2 (fun _ _ => trivial) fun _ _ _ ho => hx.row ho (by simpa using hne)⟩, fun j p hp => flat_R2 hf (h.held.own j p hp) (fun _ _ => trivial) (hL j p hp), h.held.sep, h.held.few, h.held.short⟩,
    h.len, flat_R (flat_scalar _ _) h.row (fun _ _ => trivial) fun _ _ _ ho => hx.row ho (by simpa using hne), fun j p hp => flat_R2 hf (h.own j p hp) (fun _ _ => trivial) (hO j p hp), h.data, h.blk, hb, h.kx.trans hx⟩
theorem Grow.quiet (h : Grow d mks e es f w wr base vs L Lo i vOut) (hf : Flat d) (hne : es ≠ e) (hbase : base ≤ w.heap.size) (hb : Below wr.heap.size wr w1) : Grow d mks e es f w w1 base vs L Lo i vOut :=
  h.rows hf hne (h.below.trans (hb.mono (Nat.le_trans hbase h.below.size))) (KX.below hb) (fun _ _ _ _ ho => pw_own_below ho hb) (fun _ _ _ _ ho => pw_own_below ho hb)
/-- list i is appended to -/
theorem Grow.append (h : Grow d mks e es f w wr base vs L Lo i vOut) (hf : Flat d) (hne : es ≠ e) {wA : World} {v : Value} {N : Nat} (h0 : Held d e es f w base vs L) (hA : Grow d mks e es f w wA base vs L Lo i vOut) {s : SV} {xs : List α} (hi : L[i]? = some (s, xs)) (hN : xs.length * d.sz ≤ N)
    (hv : v.ownBlock = (encS s).ownBlock ∨ ∀ b, v.ownBlock = some b → wA.heap.size ≤ b) (hb : Below base w w1) (hx : KX [e] wr w1) (hk : Kept1 wr w1 v N) : Grow d mks e es f w w1 base vs L Lo i vOut := by
  refine h.rows hf hne hb hx (fun j p hp ys ho => hk _ _ _ _ _ _ ho fun heq => ?_) (fun j p hp ys ho => hk _ _ _ _ _ _ ho fun heq => ?_)
  · by_cases hj : j = i
    · subst hj
      rw [hi] at hp
      injection hp with hp
      subst hp
      exact .inr hN
    · refine .inl (away_of (S := encS s) (B := wA.heap.size) (fun e => ?_) (fun b hb => Kd.R_lt (hA.held.own j p hp) b hb) hv heq)
      rcases h0.sep j i p _ hj hp hi with h | h
      · exact h
      · exact absurd e h
  · have hji : j < i := by rw [← h.len]; exact (List.getElem?_eq_some_iff.1 hp).1
    have hiL : i < L.length := (List.getElem?_eq_some_iff.1 hi).1
    have hq : L[j]? = some L[j] := List.getElem?_eq_getElem (by omega)
    refine .inl (away_of (S := encS s) (B := wA.heap.size) (fun e => ?_) (fun b hb => Kd.R_lt (hA.own j p hp) b hb) hv heq)
    rcases h.blk j p _ hp hq with hbk | hbk
    · rw [hbk] at e ⊢
      rcases h0.sep j i _ _ (by omega) hq hi with h | h
      · exact h
      · exact absurd e h
    · cases hbb : (encS p.1).ownBlock with
      | none => rfl
      | some b =>
        have h1 := hbk b hbb
        have h2 := Kd.R_lt (h0.own i _ hi) b (by rw [← e, hbb])
        omega
/-- a grown list is handed out -/
theorem Grow.push (h : Grow d mks e es f w wr base vs L Lo i vOut) (hf : Flat d) (hne : es ≠ e) (h0 : Held d e es f w base vs L) {s s1 : SV} {xs ys : List α} (hi : L[i]? = some (s, xs)) (hR : d.R e wr base (fun _ => True) (encS s1) ys) (hys : ys = mks i 0 ys.length) (hyl : ys.length ≤ 200000)
    (hblk : (encS s1).ownBlock = (encS s).ownBlock ∨ ∀ b, (encS s1).ownBlock = some b → w.heap.size ≤ b) {vO1 : Value} (hbase : base ≤ w.heap.size)
    (hrow : dS.R es w1 w.heap.size (fun _ => True) vO1 (Lo.map (·.1) ++ [s1])) (hb : Below w.heap.size wr w1) (hg : wr.grownBy w1 vOut.ownBlock) : Grow d mks e es f w w1 base vs L (Lo ++ [(s1, ys)]) (i + 1) vO1 := by
  have hob : ∀ k, vOut.ownBlock = some k → w.heap.size ≤ k := Kd.R_base h.row
  obtain ⟨_, inner, hown, _⟩ := h.row
  have hx : KX [es] wr w1 := KX.grown hg List.mem_cons_self fun k hk => (own_typed hown k hk).imp fun cs h => ⟨_, h⟩
  have hee : e ∉ [es] := by simpa using fun h => hne h.symm
  obtain ⟨vO, h1, h2⟩ := h.held.row
  obtain ⟨vO', h1', h2'⟩ := h0.row
  have hvv : vO = vO' := by rw [h1] at h1'; injection h1'
  subst hvv
  have hget : ∀ (j : Nat) (p : SV × List α), (Lo ++ [(s1, ys)])[j]? = some p → (Lo[j]? = some p) ∨ (j = i ∧ p = (s1, ys)) := by
    intro j p hp
    by_cases hj : j < Lo.length
    · rw [List.getElem?_append_left hj] at hp; exact .inl hp
    · rw [List.getElem?_append_right (by omega)] at hp
      have hj0 : j - Lo.length = 0 := by
        by_cases hz : j - Lo.length = 0
        · exact hz
        · rw [List.getElem?_eq_none (by simp; omega)] at hp; cases hp
      rw [hj0] at hp
      injection hp with hp
      exact .inr ⟨by rw [← h.len]; omega, hp.symm⟩
  refine ⟨⟨⟨vO, h1, R_beside (flat_scalar _ _) h2 hg ?_ (fun _ _ => trivial)⟩, fun j p hp => flat_R hf (h.held.own j p hp) (fun _ _ => trivial) fun _ _ _ ho => hx.row ho hee, h.held.sep, h.held.few, h.held.short⟩,
    by rw [List.length_append, h.len]; rfl, by rw [List.map_append]; exact hrow, fun j p hp => ?_, fun j p hp => ?_, fun j p q hp hq => ?_, h.below.trans (hb.mono hbase), h.kx.above hg hob⟩
  · cases hb0 : vO.ownBlock with
    | none => exact .inl rfl
    | some k =>
      refine .inr fun heq => ?_
      have h3 := Kd.R_lt h2' k hb0
      have h4 := hob k heq.symm
      omega
  · rcases hget j p hp with hp | ⟨_, rfl⟩
    · exact flat_R hf (h.own j p hp) (fun _ _ => trivial) fun _ _ _ ho => hx.row ho hee
    · exact flat_R hf hR (fun _ _ => trivial) fun _ _ _ ho => hx.row ho hee
  · rcases hget j p hp with hp | ⟨rfl, rfl⟩
    · exact h.data j p hp
    · exact ⟨hys, hyl⟩
  · rcases hget j p hp with hp | ⟨rfl, rfl⟩
    · exact h.blk j p q hp hq
    · rw [hi] at hq
      injection hq with hq
      subst hq
      exact hblk
end
section
variable {α : Type} {d : Kd α} {e es f : Nat} {w w1 : World} {base : Nat} {vs : Array Value} {L : List (SV × List α)}
theorem Held.outer2 (h : Held d e es f w base vs L) {A : Option Addr} {n c : Nat} (hv : vs[f]? = some (.slice A n c)) : n = L.length ∧ dS.C w A L.length (L.map (·.1)) := by
  obtain ⟨vO, h1, h2⟩ := h.row
  rw [hv] at h1
  injection h1 with h1
  subst h1
  have := Kd.R_reads' h2
  rw [List.length_map] at this
  exact ⟨this.1, this.2.2⟩
theorem Held.reads (h : Held d e es f w base vs L) (j : Nat) (p : SV × List α) (hp : L[j]? = some p) : p.1.n = p.2.length ∧ d.C w p.1.A p.2.length p.2 ∧ p.2.length ≤ 200000 := by
  have h0 := Kd.R_reads' (A := p.1.A) (n := p.1.n) (c := p.1.c) (h.own j p hp)
  exact ⟨h0.1, h0.2.2, by have := h.short j p hp; omega⟩
/-- lists that were handed out -/
def Outs (d : Kd α) (mks : Nat → Nat → Nat → List α) (e es : Nat) (w : World) (base : Nat) (A : Option Addr) (c : Nat) (L : List (SV × List α)) : Prop :=
  dS.R es w base (fun _ => True) (.slice A L.length c) (L.map (·.1)) ∧ ∀ (j : Nat) (p : SV × List α), L[j]? = some p → d.R e w base (fun _ => True) (encS p.1) p.2 ∧ p.2 = mks j 0 p.2.length ∧ p.2.length ≤ 200000
theorem Outs.kx {mks : Nat → Nat → Nat → List α} {A : Option Addr} {c : Nat} (h : Outs d mks e es w base A c L) (hf : Flat d) {X : List Nat} (hk : KX X w w1) (h1 : e ∉ X) (h2 : es ∉ X) : Outs d mks e es w1 base A c L :=
  ⟨flat_R (flat_scalar _ _) h.1 (fun _ _ => trivial) fun _ _ _ ho => hk.row ho h2, fun j p hp => ⟨flat_R hf (h.2 j p hp).1 (fun _ _ => trivial) fun _ _ _ ho => hk.row ho h1, (h.2 j p hp).2⟩⟩
theorem Grow.outs {mks : Nat → Nat → Nat → List α} {wr : World} {Lo : List (SV × List α)} {i : Nat} {A : Option Addr} {n c : Nat} (h : Grow d mks e es f w wr base vs L Lo i (.slice A n c)) (hb : base ≤ w.heap.size) : n = Lo.length ∧ Outs d mks e es wr base A c Lo := by
  have h0 := (Kd.R_reads' h.row).1
  rw [List.length_map] at h0
  subst h0
  exact ⟨rfl, Kd.R_lower h.row hb, fun j p hp => ⟨h.own j p hp, h.data j p hp⟩⟩
theorem Outs.reads {mks : Nat → Nat → Nat → List α} {A : Option Addr} {c : Nat} (h : Outs d mks e es w base A c L) : dS.C w A L.length (L.map (·.1)) ∧ ∀ (j : Nat) (p : SV × List α), L[j]? = some p → p.1.n = p.2.length ∧ d.C w p.1.A p.2.length p.2 ∧ p.2 = mks j 0 p.2.length ∧ p.2.length ≤ 200000 := by
  have h0 := Kd.R_reads' h.1
  rw [List.length_map] at h0
  refine ⟨h0.2.2, fun j p hp => ?_⟩
  have h1 := Kd.R_reads' (A := p.1.A) (n := p.1.n) (c := p.1.c) (h.2 j p hp).1
  exact ⟨h1.1, h1.2.2, (h.2 j p hp).2⟩
end
end Go.Proofs.Ytfblelkegebdiaa.V

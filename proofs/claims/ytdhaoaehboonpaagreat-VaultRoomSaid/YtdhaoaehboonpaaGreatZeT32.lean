/- Of the texts that the row stands on, what it needs (part 32), put together by a program of this session. -/
import Derived.Test.YtdhaoaehboonpaaGreatZeT31
import Derived.Test.YtdhaoaehboonpaaGreatZeT27
import Derived.WalkKit
import Derived.ProofKit
import Derived.OpenShut
import Derived.ChangeOld
import Derived.ChangeSlices
import Derived.Below
import Derived.SizedLaws
import Derived.DataReads
import Derived.DataElems
import Derived.Test.YtdhaoaehboonpaaGreatZeT29
import Derived.Test.YtdhaoaehboonpaaGreatZeT13
section
namespace Go.Proofs.YtdhaoaehboonpaaGreat.V
open Go.RowKit Go.Proofs.YtdhaoaehboonpaaGreatW.PrintWords Go.Proofs.YtdhaoaehboonpaaGreatW.PrintLast Go.Proofs.YtdhaoaehboonpaaGreatW.PrintMore Go.Proofs.YtdhaoaehboonpaaGreatM
set_option linter.unusedVariables false
set_option linter.unusedSimpArgs false
def OthersV (w w' : World) : Prop := ∀ (k : Nat) (cs : Array Value) (t : TypeId), w.heap[k]? = some (.cells cs t (0, 0)) → t ≠ 114 → t ≠ 9 → t ≠ 116 → t ≠ 103 → w'.heap[k]? = some (.cells cs t (0, 0))
theorem OthersV.refl (w : World) : OthersV w w := fun _ _ _ h _ _ _ _ => h
theorem OthersV.trans {a b c : World} (h : OthersV a b) (h2 : OthersV b c) : OthersV a c := fun k cs t hk h1 h3 h4 h5 => h2 k cs t (h k cs t hk h1 h3 h4 h5) h1 h3 h4 h5
theorem OthersV.of {a b : World} (h : VP.Others a b) : OthersV a b := fun k cs t hk h1 h3 h4 _ => h k cs t hk h1 h3 h4
theorem OthersV.below {a b : World} (h : Below a.heap.size a b) : OthersV a b := OthersV.of (Others_below h)
theorem OthersV.set {w : World} {g j : Nat} {v : Value} {cs : Array Value} (hg : w.heap[g]? = some (.cells cs 103 (0, 0))) : OthersV w (w.setCell ⟨g, j, none⟩ v) := fun k c t hk _ _ _ h4 => by
  by_cases e : k = g
  · subst e
    rw [hg] at hk
    injection hk with hk
    injection hk with _ hk
    exact absurd hk.symm h4
  · rw [Below.heap_setCell _ _ _ _ e]; exact hk
structure CanSave (V : VS) (m : Nat) : Prop where
  pages : V.pages = m + 2
  m6 : 6 ≤ m
  m198 : m ≤ 198
  std : V.P.halted = false ∧ VP.pagesOk V.P
  afl : V.P.afl = []
  live : V.live.length ≤ 200
  bytes : ∀ x ∈ V.live, x.2.size = 128
  gen : 0 ≤ V.gen ∧ V.gen < 4611686018427387904
def svP (V : VS) (m : Nat) (l : List R2) : List R2 × Int × Int := planE l V.live (freeL m V.live)
def svE (V : VS) (m : Nat) (l : List R2) : Int := writeE V.P (svP V m l).1 (V.gen + 1) (svP V m l).2.1 V.pages
def svS (V : VS) (m : Nat) (l : List R2) : VP.PS := writeS V.P (svP V m l).1 (V.gen + 1) (svP V m l).2.1 V.pages
def SaveR (V : VS) (m : Nat) (l : List R2) (e : Int) (V' : VS) : Prop :=
  ((svP V m l).2.2 ≠ 0 ∧ e = (svP V m l).2.2 ∧ V' = V) ∨
  ((svP V m l).2.2 = 0 ∧ svE V m l ≠ 0 ∧ e = svE V m l ∧ V' = { V with P := svS V m l, dead := true }) ∨
  ((svP V m l).2.2 = 0 ∧ svE V m l = 0 ∧ e = 0 ∧ ∃ ys, PagesOf (fRead (ldA (V.live ++ (svP V m l).1)) (svP V m l).2.1) ys ∧ V' = { V with P := svS V m l, gen := V.gen + 1, root := (svP V m l).2.1, recs := l, live := ys })
theorem root_ok {V : VS} {m : Nat} {l : List R2} (hc : CanSave V m) (hl : ∀ x ∈ V.live, 2 ≤ x.1 ∧ x.1 < V.pages) (h : (svP V m l).2.2 = 0) : Cr.okC (V.gen + 1) (svP V m l).2.1 V.pages = true := by
  obtain ⟨b, hb⟩ := plan_rootmem h
  have h1 : 2 ≤ (svP V m l).2.1 ∧ (svP V m l).2.1 < V.pages := by
    rcases List.mem_append.1 hb with hb | hb
    · exact hl _ hb
    · have h2 := freeL_mem.1 (plan_out h _ hb)
      have := hc.pages
      exact ⟨h2.1.1, by rw [this]; have := h2.1.2; show (planE l V.live (freeL m V.live)).2.1 < ((m + 2 : Nat) : Int); omega⟩
  have := hc.gen
  have h3 := hc.pages
  have h4 := hc.m6
  have h5 := hc.m198
  exact Cr.okC_iff.2 ⟨by omega, by omega, by omega, by omega, h1.1, h1.2⟩
theorem IsQ.setV {w0 w : World} {gv g j : Nat} {v : Value} {S : VP.PS} {cs : Array Value} (h : VP.IsQ w0 w g S) (hb : w.heap[gv]? = some (.cells cs 103 (0, 0))) (hg : w0.heap.size ≤ gv) : VP.IsQ w0 (w.setCell ⟨gv, j, none⟩ v) g S := by
  refine ⟨below_set h.1 hg, (h.2.narrow.step (fun k hk _ => ?_)).mono (fun k hk => hk.1)⟩
  refine Below.heap_setCell _ _ _ _ ?_
  rintro e
  have e : k = gv := e
  obtain ⟨_, _, _, hO⟩ := hk
  rw [e] at hO
  rcases hO with ⟨cs', q, h1, hq⟩ | ⟨es, c, h1⟩
  · rw [hb] at h1
    simp only [Option.some.injEq, Obj.cells.injEq] at h1
    obtain ⟨_, h1, _⟩ := h1
    rw [← h1] at hq
    exact absurd hq (by decide)
  · rw [hb] at h1; cases h1
theorem T106v : ∀ q, q ∈ 106 :: kR.E → q ≠ 103 := by intro q hq; simp [kR, Kd.pair, Kd.int, Kd.string, Kd.scalar] at hq; omega
theorem T50v : ∀ q, q ∈ 50 :: kR.E → q ≠ 103 := by intro q hq; simp [kR, Kd.pair, Kd.int, Kd.string, Kd.scalar] at hq; omega
def Mid (w0 w W : World) (gv g gb b : Nat) (S : VP.PS) (cs bs : Array Value) (va : Value) (all : List R2) : Prop :=
  VP.IsQ w0 W g S ∧ W.heap[gv]? = some (.cells cs 103 (0, 0)) ∧ w0.heap.size ≤ gv ∧ gb ≠ gv ∧ W.heap[gb]? = some (.cells bs 91 (0, 0)) ∧ kR.R 106 W b (fun _ => True) va all ∧ OthersV w W
theorem Mid.set {w0 w W : World} {gv g gb b : Nat} {S : VP.PS} {cs bs : Array Value} {va : Value} {all : List R2} (h : Mid w0 w W gv g gb b S cs bs va all) (j : Nat) (v : Value) : Mid w0 w (W.setCell ⟨gv, j, none⟩ v) gv g gb b S (cs.setIfInBounds j v) bs va all := by
  obtain ⟨h1, h2, h3, h4, h5, h6, h7⟩ := h
  exact ⟨IsQ.setV h1 h2 h3, blk_set h2 j v, h3, h4, (Below.heap_setCell _ _ _ _ h4).trans h5, Kd.R_set h6 h2 T106v j v, h7.trans (OthersV.set h2)⟩
theorem Mid.below {w0 w W W' : World} {gv g gb b : Nat} {S : VP.PS} {cs bs : Array Value} {va : Value} {all : List R2} (h : Mid w0 w W gv g gb b S cs bs va all) (hb : Below W.heap.size W W') : Mid w0 w W' gv g gb b S cs bs va all := by
  obtain ⟨h1, h2, h3, h4, h5, h6, h7⟩ := h
  exact ⟨h1.below hb, (hb.block _ (blk_lt h2)).trans h2, h3, h4, (hb.block _ (blk_lt h5)).trans h5, Kd.R_below h6 hb, h7.trans (OthersV.below hb)⟩
theorem OthersV_103 {w w1 : World} {g : Nat} {cs : Array Value} (h : VP.Others w w1) (hb : w.heap[g]? = some (.cells cs 103 (0, 0))) : w1.heap[g]? = some (.cells cs 103 (0, 0)) := h _ _ _ hb (by decide) (by decide) (by decide)
theorem read_fine {w : World} {L : Value} {ld : Ld} (HL : LdOk w L ld) (hs : LdSmall ld) (root : Int) (hr : wfI root) {l : List R2} (h1 : (fRead ld root).e = 0) (h2 : (fRead ld root).out = l) :
    Calls Tryz.prog 47 #[.int .i64 root, L] w fun e w' => ∃ A c B d ys, e = .returned (.tuple #[.slice A l.length c, .slice B ys.length d, .int .i64 0]) ∧ kR.R 50 w' w.heap.size (fun _ => True) (.slice A l.length c) l ∧ kR.R 106 w' w.heap.size (fun _ => True) (.slice B ys.length d) ys ∧ PagesOf (fRead ld root) ys ∧ Below w.heap.size w w' := by
  refine (read_any HL hs root hr).mono ?_
  rintro e w' ⟨⟨v, u, ys, rfl, hv, hu, hp, _⟩, hb⟩
  rw [if_pos h1, h2] at hv
  obtain ⟨A, c, rfl⟩ := Kd.R_slice hv
  obtain ⟨B, d, rfl⟩ := Kd.R_slice hu
  exact ⟨A, c, B, d, ys, by rw [h1], hv, hu, hp h1, hb⟩
set_option maxHeartbeats 16000000 in
set_option maxRecDepth 100000 in
theorem save_any {w0 w : World} {gv g : Nat} {V : VS} {m : Nat} (h : IsV w0 w gv g V) (hd : V.dead = false) (hc : CanSave V m) (hlv : ∀ x ∈ V.live, 2 ≤ x.1 ∧ x.1 < V.pages) (A : Option Addr) (c : Nat) (l : List R2) (hC : Kd.C kR w A l.length l) (hc2 : l.length ≤ c) (hl : l.length ≤ 9000)
    (hrd : (svP V m l).2.2 = 0 → (fRead (ldA (V.live ++ (svP V m l).1)) (svP V m l).2.1).e = 0 ∧ (fRead (ldA (V.live ++ (svP V m l).1)) (svP V m l).2.1).out = l) :
    Calls Tryz.prog 15 #[.pointer (some ⟨gv, 0, none⟩), .slice A l.length c] w fun e w' => ∃ r V', e = .returned (.int .i64 r) ∧ SaveR V m l r V' ∧ IsV w0 w' gv g V' ∧ OthersV w w' := by
  have hm6 := hc.m6
  have hm198 := hc.m198
  have HV := Aside0.mk h
  obtain ⟨lA, lc, lB, ld, h2, h3, h4⟩ := h.cells
  obtain ⟨lv, hlvn⟩ : ∃ x, x = V.live.length := ⟨_, rfl⟩
  obtain ⟨gn, hgnd⟩ : ∃ x, x = V.gen := ⟨_, rfl⟩
  obtain ⟨pg, hpg⟩ : ∃ x, x = (V.pages : Int) := ⟨_, rfl⟩
  rw [← hlvn, ← hgnd, ← hpg, hd] at h2
  have H2 := Aside0.mk h2
  have H4 := Aside0.mk h4
  have H3 := Aside0.mk h3
  have HGV := Aside0.mk (show w0.heap.size ≤ gv from by obtain ⟨_, _, _, _, h9, _⟩ := h; exact h9)
  obtain ⟨x0, x1, x2, x3, x4, x5, x6⟩ := cell103 h2
  have HFR := Aside0.mk (fun (W : World) (hq : IsV w0 W gv g V) => vfree_any hq hc.pages (by omega) (Nat.le_trans hc.live (by decide)))
  have hpl := fun (W : World) (hb : Below w.heap.size w W) (D : Option Addr) (f : Nat) (h3 : Kd.C (Kd.int .i64) W D (freeL m V.live).length (freeL m V.live)) (hf : (freeL m V.live).length ≤ f) => plan_any W A c l lB ld V.live D f (freeL m V.live) (Kd.C_below hC hb) hc2 hl (Kd.R_reads' (Kd.R_below h4 hb)).2.2 (Kd.R_reads' h4).2.1 (Nat.le_trans hc.live (by decide)) (fun x hx => by show x.2.size ≤ maxLen; rw [hc.bytes x hx]; decide) h3 hf (Nat.le_trans (freeL_len _ _) (by omega))
  have hpl : ∀ (W : World) (hb : Below w.heap.size w W) (D : Option Addr) (f : Nat) (h3 : Kd.C (Kd.int .i64) W D (freeL m V.live).length (freeL m V.live)) (hf : (freeL m V.live).length ≤ f), Calls Tryz.prog 42 #[.slice A l.length c, .slice lB V.live.length ld, .slice D (freeL m V.live).length f] W fun e w' => ∃ v, e = .returned (.tuple #[v, .int .i64 (svP V m l).2.1, .int .i64 (svP V m l).2.2]) ∧ kR.R 106 w' W.heap.size (fun _ => True) v (svP V m l).1 ∧ Below W.heap.size W w' := hpl
  obtain ⟨P0, hP0⟩ : ∃ P0, P0 = svP V m l := ⟨_, rfl⟩
  obtain ⟨ln, hln⟩ : ∃ x, x = l.length := ⟨_, rfl⟩
  obtain ⟨fl, hfl⟩ : ∃ x, x = freeL m V.live := ⟨_, rfl⟩
  rw [← hP0, ← hln, ← hlvn, ← hfl] at hpl
  rw [← hfl] at HFR
  rw [← hln]
  obtain ⟨fn, hfn⟩ : ∃ x, x = fl.length := ⟨_, rfl⟩
  rw [← hfn] at hpl
  have HPL := Aside0.mk hpl
  have HFN := Aside0.mk hfn
  have HLV := Aside0.mk hlvn
  have HLN := Aside0.mk hln
  have HDEF := Aside0.mk (And.intro hgnd (And.intro hpg hd))
  have HS := Aside0.mk (And.intro hP0 (And.intro hc (And.intro hlv hrd)))
  have HB := Aside0.mk (Below.refl w.heap.size w)
  clear h h2 h3 h4 hd hc hlv hC hc2 hl hrd hpl hln hlvn hfl hfn hgnd hpg
  obtain ⟨O, rt, ec⟩ := P0
  simp only [] at HPL
  go_enter Tryz.func15, Tryz.ntmps15
  go_upto_region 5 with (fail)
  go_region_held3 (fun W' => W'.cell? ⟨gv, 3, none⟩ = some (.int .i64 pg) ∧ W'.cell? ⟨gv, 5, none⟩ = some (.slice lB lv ld)) (go_keep) (first
    | (go_at_call 23; go_must (with_reducible refine (HFR.out _ (HV.out.below (by repeat (first | (with_reducible first | exact HB.out | apply below_alloc | apply pw_below_drewN | apply below_drew1) | exact HB.out)))).mono ?_); rintro e w1 ⟨v1, rfl, hr, hb⟩; obtain ⟨D, f, ev⟩ := Kd.R_slice hr; rw [← HFN.out] at ev; subst ev; have HB1 := Aside0.mk (below_step (by repeat (first | (with_reducible first | exact HB.out | apply below_alloc | apply pw_below_drewN | apply below_drew1) | exact HB.out)) hb); have HPC := Aside0.mk (fun (W : World) (hW : Below w1.heap.size w1 W) => HPL.out W (below_step HB1.out hW) D f (by first | exact (Kd.R_reads' (Kd.R_below hr hW)).2.2 | (rw [HFN.out]; exact (Kd.R_reads' (Kd.R_below hr hW)).2.2)) (by exact (Kd.R_reads' hr).2.1)); have X1 := Aside0.mk ((HB1.out.block _ (blk_lt H2.out)).trans H2.out); clear hr hb HPL HFR HFN; obtain ⟨y0, y1, y2, y3, y4, y5, y6⟩ := cell103 X1.out)
    | (go_at_call 42; go_must (with_reducible refine (HPC.out _ (by repeat (first | (with_reducible first | exact Below.refl _ _ | apply below_alloc | apply pw_below_drewN | apply below_drew1)))).mono ?_); rintro e w2 ⟨v2, rfl, hr, hb⟩; have HB2 := Aside0.mk (below_step (by repeat (first | (with_reducible first | exact HB1.out | apply below_alloc | apply pw_below_drewN | apply below_drew1) | exact HB1.out)) hb); have HR2 := Aside0.mk (Kd.R_lower hr (below_size (by repeat (first | (with_reducible first | exact HB1.out | apply below_alloc | apply pw_below_drewN | apply below_drew1) | exact HB1.out)))); have X2 := Aside0.mk ((HB2.out.block _ (blk_lt H2.out)).trans H2.out); clear hr hb HB1 HPC X1; obtain ⟨z0, z1, z2, z3, z4, z5, z6⟩ := cell103 X2.out))
  clear x0 x1 x2 x3 x4 x5 x6 HB
  obtain ⟨hsP, hc, hlv, hrd⟩ := HS.out
  obtain ⟨A2, c2, ev2⟩ := Kd.R_slice HR2.out
  subst ev2
  have hec : (svP V m l).2.2 = ec := by rw [← hsP]
  by_cases he : ec = 0
  · subst he
    have hok := root_ok hc hlv hec
    have hrd2 := hrd hec
    have hstd := hc.std
    have hlenO : O.length ≤ 200 := by
      have h1 := planE_len l V.live (freeL m V.live)
      have h2 := freeL_len m V.live
      have h3 : (planE l V.live (freeL m V.live)).1 = O := by show (svP V m l).1 = O; rw [← hsP]
      rw [h3] at h1
      omega
    have hgood : ∀ x ∈ O, goodW V.pages x := fun x hx => by
      have h3 : x ∈ (planE l V.live (freeL m V.live)).1 := by show x ∈ (svP V m l).1; rw [← hsP]; exact hx
      refine (plan_good (n := V.pages) hec (fun y hy => ?_) x h3).1
      have h4 := freeL_mem.1 hy
      have h5 := hc.pages
      refine ⟨h4.1.1, ?_⟩
      rw [h5]; have := h4.1.2; show y < ((m + 2 : Nat) : Int); omega
    rw [← hsP] at hok hrd2
    simp only [] at hok hrd2
    have hw := fun (W : World) (hq : VP.IsQ w0 W g V.P) (hr : kR.R 106 W w.heap.size (fun _ => True) (.slice A2 O.length c2) O) => vwrite_any hq hstd.1 hstd.2 A2 c2 O (by rw [hc.afl]; show 0 + O.length ≤ 900; omega) hr (fun x hx => by have h1 := (hgood x hx).1; have := hc.pages; exact wfI_small (by omega) (by omega)) (V.gen + 1) rt V.pages hok
    have hE : svE V m l = writeE V.P O (V.gen + 1) rt V.pages := by unfold svE; rw [← hsP]
    have hS : svS V m l = writeS V.P O (V.gen + 1) rt V.pages := by unfold svS; rw [← hsP]
    have hSV : ∀ e V', SaveR V m l e V' ↔ (((svP V m l).2.2 ≠ 0 ∧ e = (svP V m l).2.2 ∧ V' = V) ∨ ((svP V m l).2.2 = 0 ∧ svE V m l ≠ 0 ∧ e = svE V m l ∧ V' = { V with P := svS V m l, dead := true }) ∨ ((svP V m l).2.2 = 0 ∧ svE V m l = 0 ∧ e = 0 ∧ ∃ ys, PagesOf (fRead (ldA (V.live ++ (svP V m l).1)) (svP V m l).2.1) ys ∧ V' = { V with P := svS V m l, gen := V.gen + 1, root := (svP V m l).2.1, recs := l, live := ys })) := fun _ _ => Iff.rfl
    rw [← hsP] at hSV
    rw [← hE, ← hS] at hw
    obtain ⟨E, hEd⟩ : ∃ E, E = svE V m l := ⟨_, rfl⟩
    obtain ⟨S', hSd⟩ : ∃ S', S' = svS V m l := ⟨_, rfl⟩
    rw [← hEd, ← hSd] at hSV hw
    simp only [] at hSV
    have hbig : ∀ x ∈ V.live ++ O, x.2.size ≤ 1000000 := fun x hx => by
      rcases List.mem_append.1 hx with hx | hx
      · rw [hc.bytes x hx]; decide
      · rw [(hgood x hx).2]; decide
    have hsm := ldA_small hbig
    have hroot : wfI rt := by
      obtain ⟨_, _, h1, h2, h3, h4⟩ := Cr.okC_iff.1 hok
      exact wfI_small (by omega) (by omega)
    have hgn := hc.gen
    have hlive := hc.live
    have hallL : (V.live ++ O).length ≤ 1000000 := by rw [List.length_append]; omega
    have HW := Aside0.mk hw
    have HSV := Aside0.mk hSV
    have HRD := Aside0.mk (And.intro hrd2 (And.intro hsm hroot))
    have HLEN := Aside0.mk (And.intro hlenO (And.intro hlive hallL))
    obtain ⟨hgnd, hpg, hvd⟩ := HDEF.out
    obtain ⟨lO, hlO⟩ : ∃ x, x = O.length := ⟨_, rfl⟩
    have HLO := Aside0.mk hlO
    rw [← hlO] at HW HR2 ⊢
    rw [← hpg] at HW
    rw [← hgnd] at HW hgn
    have hgn0 : 0 ≤ gn := hgn.1
    have hgn1 : gn < 4611686018427387904 := hgn.2
    have hwr : IntKind.i64.wrap (gn + 1) = gn + 1 := by rw [IntKind.wrap_i64]; omega
    have H0 := Aside0.mk (Below.refl w2.heap.size w2)
    have HV2 := Aside0.mk (HV.out.below HB2.out)
    clear hok hrd2 hstd hgood hw hE hS hSV hEd hSd hbig hsm hroot hgn hlive hallL hlenO hgnd hvd hpg hlO hsP hc hlv hrd hec HS hP0 hpl
    go_upto_region 8 with (fail)
    go_cut [8] (fun v8 W => v8 = .pointer (some ⟨w2.heap.size, 0, none⟩) ∧ Aside0 (W.heap[w2.heap.size]? = some (.cells #[.int .i64 (gn + 1), .int .i64 rt, .int .i64 pg] 97 (0, 0))) ∧ Aside0 (Below w2.heap.size w2 W))
    case first =>
      go_region_held3 (fun W' => W'.cell? ⟨gv, 1, none⟩ = some (.int .i64 gn) ∧ W'.cell? ⟨gv, 3, none⟩ = some (.int .i64 pg)) (go_keep) (first | fail)
      all_goals
        go_wp2_with (fail)
        go_meet
        refine ⟨rfl, ⟨?_⟩, ⟨?_⟩⟩
        · first
            | (refine Cr.set3_self (a := .int .i64 0) (b := .int .i64 0) (c := .int .i64 0) ?_; (with_reducible repeat (first | refine blk_drewN ?_ _ | refine blk_drew ?_)); exact Cr.alloc_at (by simp))
            | ((with_reducible repeat (first | refine blk_drewN ?_ _ | refine blk_drew ?_)); exact Cr.alloc_at (by simp))
        · (with_reducible repeat (first | exact H0.out | refine Cr.set3_below ?_ (Nat.le_refl _) | apply below_alloc | apply pw_below_drewN | apply below_drew1))
    case rest =>
      obtain ⟨rfl, X8, HB8⟩ := hcut
      rename World => W8
      have X9 := Aside0.mk ((HB8.out.block _ (blk_lt X2.out)).trans X2.out)
      have HQ8 := Aside0.mk ((HV2.out.1).below HB8.out)
      have HR8 := Aside0.mk (Kd.R_below HR2.out HB8.out)
      have HL8 := Aside0.mk (Kd.R_below (Kd.R_below H4.out HB2.out) HB8.out)
      have HB28 := Aside0.mk (below_step HB2.out HB8.out)
      obtain ⟨gc, hgc⟩ : ∃ x, x = w2.heap.size := ⟨_, rfl⟩
      rw [← hgc] at X8 ⊢
      obtain ⟨y0, y1, y2, y3, y4, y5, y6⟩ := cell103 X9.out
      obtain ⟨t0, t1, t2, _, _, _⟩ := Cr.cell3 X8.out
      clear z0 z1 z2 z3 z4 z5 z6 hwr hgc HB8 X2 HR2 H4 HB2
      go_upto_region 9 with (fail)
      go_still_tail 6, (by kernel_rfl)
      change wpList _ _ _ _ _ W8.drew
      have HD8 := Aside0.mk (below_drew (Below.refl W8.heap.size W8))
      go_upto_region 10 with (go_at_call 45; (with_reducible refine (HW.out _ (HQ8.out.below HD8.out) (Kd.R_below HR8.out HD8.out)).mono ?_); rintro e w4 ⟨rfl, hq, ho⟩; have HQ4 := Aside0.mk hq; have HO4 := Aside0.mk (Others_trans (Others_below HD8.out) ho); clear hq ho)
      have X4 := Aside0.mk (OthersV_103 HO4.out X9.out)
      have XC4 := Aside0.mk (HO4.out _ _ _ X8.out (by decide) (by decide) (by decide))
      have HR4 := Aside0.mk (R_others HR8.out HO4.out T106o)
      have HL4 := Aside0.mk (R_others HL8.out HO4.out T106o)
      have HRC4 := Aside0.mk (show kR.R 50 w4 w0.heap.size (fun _ => True) (.slice lA V.recs.length lc) V.recs from R_others (Kd.R_below H3.out HB28.out) HO4.out T50o)
      have HOV4 := Aside0.mk ((OthersV.below HB28.out).trans (OthersV.of HO4.out))
      have HG := Aside0.mk (show w0.heap.size ≤ gv from HGV.out)
      clear HQ8 HR8 HL8 HW HD8 X9 X8 y0 y1 y2 y3 y4 y5 y6 t0 t1 t2 HO4 HB28 HV2 HV
      obtain ⟨y0, y1, y2, y3, y4, y5, y6⟩ := cell103 X4.out
      have g6 := blk_frozen X4.out 6
      by_cases hE : E = 0
      · subst hE
        have HRES := Aside0.mk (fun (ys : List R2) (hp : PagesOf (fRead (ldA (V.live ++ O)) rt) ys) => (HSV.out 0 { V with P := S', gen := V.gen + 1, root := rt, recs := l, live := ys }).2 (.inr (.inr ⟨by trivial, by trivial, rfl, ys, hp, rfl⟩)))
        have hcl := cloneW HL4.out (Nat.le_trans HLEN.out.2.1 (by decide))
        rw [← HLV.out] at hcl
        have HCL := Aside0.mk hcl
        have hlO : lO ≤ 200 ∧ V.live.length ≤ 200 := ⟨by rw [HLO.out]; exact HLEN.out.1, HLEN.out.2.1⟩
        have HCO := Aside0.mk (fun (W : World) (hb : Below w4.heap.size w4 W) => (show Kd.C kR W A2 lO O from by have := (Kd.R_reads' (Kd.R_below HR4.out hb)).2.2; first | exact this | (rw [HLO.out]; exact this)))
        have HLL := Aside0.mk hlO
        clear hcl HSV hlO
        go_upto_region 13 with (fail)
        go_upto_region 14 with (first
          | (go_at_call 48; (with_reducible refine (HCL.out).mono ?_); rintro e w5 ⟨v5, rfl, hr, hb⟩; have HR5 := Aside0.mk hr; have HB5 := Aside0.mk hb; clear hr hb HCL)
          | ((with_reducible refine gate_builtin (b := .append) (xs := #[.tmp 65, .tmp 66]) rfl ?_); at_builtin; go_must (refine Kd.R_append_rows kR (Rr := kR.K w5) w4.heap.size rfl (.tmp 65) (.tmp 66) 91 106 (.agg #[(.int .i64 0), (.string ⟨#[]⟩)]) 24 rfl Tryz.underlying91 info106 rfl (by decide) (by omega) v5 V.live O A2 lO c2 (fun _ => True) (fun _ => False) rfl rfl HR5.out (HCO.out _ HB5.out) (fun x cs hx => by rw [kR_open hx]; exact kR_mkM _ _ _ _) (fun _ hk => hk.elim) (fun _ _ => trivial) HB5.out HB5.out.size (by have := HLL.out; omega) ?_); intro v6 w6 ho_ hb_ hg_ hat_; obtain ⟨A6, c6, ev6⟩ := Kd.R_slice ho_; subst ev6; have HR6 := Aside0.mk ho_; have HB6 := Aside0.mk hb_; clear ho_ hb_ hg_ hat_))
        obtain ⟨w7, hw7⟩ : ∃ x, x = w6.alloc (.cells #[.slice A6 (V.live.length + O.length) c6] 91) := ⟨_, rfl⟩
        have h67 := below_alloc (Below.refl w6.heap.size w6) (.cells #[.slice A6 (V.live.length + O.length) c6] 91)
        rw [← hw7] at h67
        have XB7 := Aside0.mk (show w7.heap[w6.heap.size]? = some (.cells #[.slice A6 (V.live ++ O).length c6] 91 (0, 0)) from by rw [hw7, List.length_append]; exact Cr.alloc_at rfl)
        have HR7 := Aside0.mk (Kd.R_below HR6.out h67)
        have HB7 := Aside0.mk (below_step HB6.out h67)
        have X7 := Aside0.mk ((HB7.out.block _ (blk_lt X4.out)).trans X4.out)
        have XC7 := Aside0.mk ((HB7.out.block _ (blk_lt XC4.out)).trans XC4.out)
        rw [← hw7]
        obtain ⟨gb, hgb⟩ : ∃ x, x = w6.heap.size := ⟨_, rfl⟩
        rw [← hgb] at XB7 ⊢
        have HBV := Aside0.mk (show gb ≠ gv from by rw [hgb]; have := blk_lt X4.out; have := HB6.out.size; omega)
        have HQ7 := Aside0.mk (HQ4.out.below HB7.out)
        have HRC7 := Aside0.mk (Kd.R_below HRC4.out HB7.out)
        have HL7 := Aside0.mk (Kd.R_below HL4.out HB7.out)
        have HOV7 := Aside0.mk (HOV4.out.trans (OthersV.below HB7.out))
        clear hw7 h67 hgb HR6 HB6 HB5 HR5 HCO X4 XC4 HQ4 HRC4 HL4 HOV4 y0 y1 y2 y3 y4 y5 y6 g6 HB7
        obtain ⟨y0, y1, y2, y3, y4, y5, y6⟩ := cell103 X7.out
        obtain ⟨t0, t1, t2, _, _, _⟩ := Cr.cell3 XC7.out
        have g1 := blk_frozen X7.out 1
        have g2 := blk_frozen X7.out 2
        have g3 := blk_frozen X7.out 3
        go_upto_region 16 with (fail)
        have hmid := ((Mid.set (show Mid w0 w w7 gv g gb w4.heap.size S' _ _ _ _ from ⟨HQ7.out, X7.out, HG.out, HBV.out, XB7.out, HR7.out, HOV7.out⟩) 1 (.int .i64 (gn + 1))).set 2 (.int .i64 rt)).set 3 (.int .i64 pg)
        have hmid : Mid w0 w (((w7.setCell ⟨gv, 1, none⟩ (.int .i64 (gn + 1))).setCell ⟨gv, 2, none⟩ (.int .i64 rt)).setCell ⟨gv, 3, none⟩ (.int .i64 pg)) gv g gb w4.heap.size S' #[.pointer (some ⟨g, 0, none⟩), .int .i64 (gn + 1), .int .i64 rt, .int .i64 pg, .slice lA V.recs.length lc, .slice lB lv ld, .bool false] #[.slice A6 (V.live ++ O).length c6] (.slice A6 (V.live ++ O).length c6) (V.live ++ O) := by simpa using hmid
        obtain ⟨w8, hw8⟩ : ∃ x, x = ((w7.setCell ⟨gv, 1, none⟩ (.int .i64 (gn + 1))).setCell ⟨gv, 2, none⟩ (.int .i64 rt)).setCell ⟨gv, 3, none⟩ (.int .i64 pg) := ⟨_, rfl⟩
        rw [← hw8] at hmid ⊢
        have HM := Aside0.mk hmid
        have hrdc := read_fine (ld_save hmid.2.2.2.2.1 hmid.2.2.2.2.2.1 HLEN.out.2.2) HRD.out.2.1 rt HRD.out.2.2 HRD.out.1.1 HRD.out.1.2
        rw [← HLN.out] at hrdc
        have HRDC := Aside0.mk hrdc
        clear hw8 hmid hrdc HQ7 X7 XB7 HR7 HOV7 HRC7 HL7 XC7 y0 y1 y2 y3 y4 y5 y6 t0 t1 t2 g1 g2 g3
        go_wp2_with (go_at_call 47; (with_reducible refine (HRDC.out).mono ?_); rintro e w9 ⟨A8, c8, A9, c9, ys, rfl, hv, hu, hpo, hb⟩; have HM9 := Aside0.mk (HM.out.below hb); have HV9 := Aside0.mk (Kd.R_lower hv (HM.out.1.1.size)); have HU9 := Aside0.mk (Kd.R_lower hu (HM.out.1.1.size)); have HPO := Aside0.mk hpo; obtain ⟨y0, y1, y2, y3, y4, y5, y6⟩ := cell103 HM9.out.2.1; have g4 := blk_frozen HM9.out.2.1 4; have g5 := blk_frozen HM9.out.2.1 5; clear hv hu hpo hb HRDC HM)
        go_ret
        obtain ⟨hgnd, hpg, hvd⟩ := HDEF.out
        have hfin := (HM9.out.set 4 (.slice A8 ln c8)).set 5 (.slice A9 ys.length c9)
        refine ⟨0, { V with P := S', gen := V.gen + 1, root := rt, recs := l, live := ys }, rfl, HRES.out ys HPO.out, ⟨hfin.1, .slice A8 ln c8, .slice A9 ys.length c9, ?_, hfin.2.2.1, Kd.R_set (Kd.R_set HV9.out HM9.out.2.1 T50v 4 _) (blk_set HM9.out.2.1 4 _) T50v 5 _, Kd.R_set (Kd.R_set HU9.out HM9.out.2.1 T106v 4 _) (blk_set HM9.out.2.1 4 _) T106v 5 _⟩, hfin.2.2.2.2.2.2⟩
        have h9 := hfin.2.1
        rw [hgnd, hpg] at h9
        show _ = some (Obj.cells #[.pointer (some ⟨g, 0, none⟩), .int .i64 (V.gen + 1), .int .i64 rt, .int .i64 (V.pages : Int), .slice A8 ln c8, .slice A9 ys.length c9, .bool V.dead] 103 (0, 0))
        rw [hvd]
        simpa using h9
      · have q1 : (E != 0) = true := by simpa using hE
        have HRES := Aside0.mk ((HSV.out E { V with P := S', dead := true }).2 (.inr (.inl ⟨by trivial, hE, rfl, rfl⟩)))
        clear hE HSV HRD
        go_wp2
        go_ret
        obtain ⟨hgnd, hpg, hvd⟩ := HDEF.out
        refine ⟨E, { V with P := S', dead := true }, rfl, HRES.out, ⟨IsQ.setV HQ4.out X4.out HG.out, _, _, ?_, HG.out, Kd.R_set HRC4.out X4.out T50v 6 _, Kd.R_set HL4.out X4.out T106v 6 _⟩, HOV4.out.trans (OthersV.set X4.out)⟩
        have := blk_set X4.out 6 (.bool true)
        rw [hgnd, hpg, HLV.out] at this
        simpa using this
  · have hne : (svP V m l).2.2 ≠ 0 := by rw [hec]; exact he
    have q1 : (ec != 0) = true := by simpa using he
    have HRES := Aside0.mk (show SaveR V m l ec V from .inl ⟨hne, hec.symm, rfl⟩)
    clear hsP hc hlv hrd hec he hne
    go_wp2
    go_ret
    exact ⟨ec, V, rfl, HRES.out, HV.out.below HB2.out, OthersV.below HB2.out⟩
def Ups (S T : FS) : Prop := (∀ n b, S.pages n = some b → T.pages n = some b) ∧ (T.e = 0 → S.e = 0)
theorem Ups.refl (S : FS) : Ups S S := ⟨fun _ _ h => h, fun h => h⟩
theorem Ups.trans {A B C : FS} (h : Ups A B) (h2 : Ups B C) : Ups A C := ⟨fun n b hn => h2.1 n b (h.1 n b hn), fun he => h.2 (h2.2 he)⟩
theorem Ups.form (S : FS) : Ups S (fForm S) := by
  unfold fForm
  split
  · exact ⟨fun _ _ h => h, fun h => by cases h⟩
  · exact Ups.refl _
theorem Ups.out {S T : FS} (h : Ups S T) (o : List R2) : Ups S { T with out := o } := h
theorem Ups.page (ld : Ld) (S : FS) (n : Int) : Ups S (fPage ld S n).2 := by
  unfold fPage
  cases hp : S.pages n with
  | some b => exact Ups.refl _
  | none =>
    show Ups S (if S.e = 0 then _ else _ : ByteArray × FS).2
    by_cases he : S.e = 0
    · rw [if_pos he]
      by_cases h2 : (ld n).2 = 0
      · rw [if_pos h2]
        refine ⟨fun m b hm => ?_, fun _ => he⟩
        show upd S.pages n (ld n).1 m = some b
        rw [upd_ne _ _ (fun e => by rw [e, hp] at hm; cases hm)]; exact hm
      · rw [if_neg h2]
        exact ⟨fun _ _ h => h, fun _ => he⟩
    · rw [if_neg he]; exact Ups.refl _
theorem Ups.step (ld : Ld) (S : FS) (n z : Int) : Ups S (fStep ld S n z) := by
  unfold fStep
  split
  · exact (Ups.page ld S n).trans (Ups.form _)
  · exact Ups.page ld S n
theorem Ups.chain (ld : Ld) : ∀ (k : Nat) (S : FS) (n z : Int) (o : ByteArray), Ups S (fChain k ld S n z o).2
  | 0, S, _, _, _ => Ups.refl S
  | k + 1, S, n, z, o => by
    show Ups S (if S.e = 0 ∧ 0 < z then _ else _ : ByteArray × FS).2
    split
    · exact (Ups.step ld S n z).trans (Ups.chain ld k _ _ _ _)
    · exact Ups.refl S
theorem Ups.cell (ld : Ld) (S : FS) (c : C4) : Ups S (fCell ld S c).2 := by
  unfold fCell
  split
  · exact Ups.chain ld _ _ _ _ _
  · exact Ups.refl S
theorem Ups.cells (ld : Ld) : ∀ (l : List C4) (S : FS), Ups S (fCells ld l S)
  | [], S => Ups.refl S
  | c :: r, S => by
    show Ups S (if lastGe S.out c.1 = true then fForm S else _)
    split
    · exact Ups.form S
    · exact (((Ups.cell ld S c).out _).trans (Ups.cells ld r _))
theorem Ups.leaf (ld : Ld) (S : FS) (s : S2) : Ups S (fLeaf ld S s) := by
  unfold fLeaf
  split
  · exact (Ups.page ld S s.2).trans (Ups.cells ld _ _)
  · exact (Ups.page ld S s.2).trans (Ups.form _)
theorem Ups.slots (ld : Ld) : ∀ (l : List S2) (S : FS), Ups S (fSlots ld l S)
  | [], S => Ups.refl S
  | s :: t, S => by
    show Ups S (fSlots ld t (if S.e = 0 then fLeaf ld S s else S))
    refine Ups.trans ?_ (Ups.slots ld t _)
    split
    · exact Ups.leaf ld S s
    · exact Ups.refl S
theorem Ups.idx (ld : Ld) (root : Int) : Ups (fPage ld fS0 root).2 (fIdx ld root) := by
  unfold fIdx
  split
  · exact Ups.refl _
  · exact Ups.form _
theorem Con.form {ld : Ld} {S : FS} (h : Con ld S) : Con ld (fForm S) := by unfold fForm; split <;> exact h
theorem Con.page {ld : Ld} {S : FS} (h : Con ld S) (n : Int) : Con ld (fPage ld S n).2 := by
  unfold fPage
  cases hp : S.pages n with
  | some b => exact h
  | none =>
    show Con ld (if S.e = 0 then _ else _ : ByteArray × FS).2
    split
    · split
      · rename_i h2
        intro m b hm
        change upd S.pages n (ld n).1 m = some b at hm
        by_cases e : m = n
        · subst e
          rw [upd_same] at hm
          injection hm with hm
          rw [← hm, ← h2]
        · rw [upd_ne _ _ e] at hm
          exact h m b hm
      · exact h
    · exact h
theorem Con.step {ld : Ld} {S : FS} (h : Con ld S) (n z : Int) : Con ld (fStep ld S n z) := by
  unfold fStep
  split
  · exact (h.page n).form
  · exact h.page n
theorem Con.chain {ld : Ld} : ∀ (k : Nat) {S : FS} (n z : Int) (o : ByteArray), Con ld S → Con ld (fChain k ld S n z o).2
  | 0, S, _, _, _, h => h
  | k + 1, S, n, z, o, h => by
    show Con ld (if S.e = 0 ∧ 0 < z then _ else _ : ByteArray × FS).2
    split
    · exact Con.chain k _ _ _ (h.step n z)
    · exact h
theorem Con.cell {ld : Ld} {S : FS} (h : Con ld S) (c : C4) : Con ld (fCell ld S c).2 := by
  unfold fCell
  split
  · exact Con.chain _ _ _ _ h
  · exact h
theorem Con.cells {ld : Ld} : ∀ (l : List C4) {S : FS}, Con ld S → Con ld (fCells ld l S)
  | [], S, h => h
  | c :: r, S, h => by
    show Con ld (if lastGe S.out c.1 = true then fForm S else _)
    split
    · exact h.form
    · exact Con.cells r (S := { (fCell ld S c).2 with out := _ }) (h.cell c)
theorem Con.leaf {ld : Ld} {S : FS} (h : Con ld S) (s : S2) : Con ld (fLeaf ld S s) := by
  unfold fLeaf
  split
  · exact Con.cells _ (h.page s.2)
  · exact (h.page s.2).form
theorem Con.slots {ld : Ld} : ∀ (l : List S2) {S : FS}, Con ld S → Con ld (fSlots ld l S)
  | [], S, h => h
  | s :: t, S, h => by
    show Con ld (fSlots ld t (if S.e = 0 then fLeaf ld S s else S))
    refine Con.slots t ?_
    split
    · exact h.leaf s
    · exact h
theorem read_con (ld : Ld) (root : Int) : Con ld (fRead ld root) := by
  unfold fRead
  refine Con.slots _ ?_
  have h0 : Con ld fS0 := fun n b h => by cases h
  unfold fIdx
  split
  · exact h0.page root
  · exact (h0.page root).form
section
variable {ld ld' : Ld} {F : FS} (he : F.e = 0) (ha : ∀ n b, F.pages n = some b → ld' n = (b, 0))
include he ha
theorem loc_page {S : FS} {n : Int} (hu : Ups (fPage ld S n).2 F) : fPage ld' S n = fPage ld S n := by
  unfold fPage at hu ⊢
  cases hp : S.pages n with
  | some b => rfl
  | none =>
    rw [hp] at hu
    change Ups (if S.e = 0 then (if (ld n).2 = 0 then ((ld n).1, { S with pages := upd S.pages n (ld n).1 }) else ((ld n).1, { S with e := (ld n).2 })) else (⟨#[]⟩, S) : ByteArray × FS).2 F at hu
    show (if S.e = 0 then _ else _ : ByteArray × FS) = (if S.e = 0 then _ else _ : ByteArray × FS)
    by_cases h0 : S.e = 0
    · rw [if_pos h0] at hu
      rw [if_pos h0, if_pos h0]
      by_cases h2 : (ld n).2 = 0
      · rw [if_pos h2] at hu
        have h3 := ha n (ld n).1 (hu.1 n (ld n).1 (upd_same _ _ _))
        rw [h3, if_pos rfl, if_pos h2]
      · rw [if_neg h2] at hu
        exact absurd (hu.2 he) h2
    · rw [if_neg h0, if_neg h0]
theorem loc_step {S : FS} {n z : Int} (hu : Ups (fStep ld S n z) F) : fStep ld' S n z = fStep ld S n z ∧ fPage ld' S n = fPage ld S n := by
  have hp : Ups (fPage ld S n).2 F := by
    unfold fStep at hu
    split at hu
    · exact (Ups.form _).trans hu
    · exact hu
  have e := loc_page he ha hp
  exact ⟨by unfold fStep; rw [e], e⟩
theorem loc_chain : ∀ (k : Nat) {S : FS} {n z : Int} {o : ByteArray}, Ups (fChain k ld S n z o).2 F → fChain k ld' S n z o = fChain k ld S n z o
  | 0, _, _, _, _, _ => rfl
  | k + 1, S, n, z, o, hu => by
    change Ups (if S.e = 0 ∧ 0 < z then fChain k ld (fStep ld S n z) (linkE (fPage ld S n).1).1 (z - min z 120) (o ++ (linkE (fPage ld S n).1).2.1) else (o, S) : ByteArray × FS).2 F at hu
    show (if S.e = 0 ∧ 0 < z then fChain k ld' (fStep ld' S n z) (linkE (fPage ld' S n).1).1 (z - min z 120) (o ++ (linkE (fPage ld' S n).1).2.1) else (o, S) : ByteArray × FS) = (if S.e = 0 ∧ 0 < z then fChain k ld (fStep ld S n z) (linkE (fPage ld S n).1).1 (z - min z 120) (o ++ (linkE (fPage ld S n).1).2.1) else (o, S) : ByteArray × FS)
    by_cases hc : S.e = 0 ∧ 0 < z
    · rw [if_pos hc] at hu
      rw [if_pos hc, if_pos hc]
      obtain ⟨e1, e2⟩ := loc_step he ha ((Ups.chain ld k _ _ _ _).trans hu)
      rw [e1, e2]
      exact loc_chain k hu
    · rw [if_neg hc, if_neg hc]
theorem loc_cell {S : FS} {c : C4} (hu : Ups (fCell ld S c).2 F) : fCell ld' S c = fCell ld S c := by
  unfold fCell at hu ⊢
  split at hu
  · rename_i h
    rw [if_pos h, if_pos h]
    exact loc_chain he ha _ hu
  · rename_i h
    rw [if_neg h, if_neg h]
theorem loc_cells : ∀ (l : List C4) {S : FS}, Ups (fCells ld l S) F → fCells ld' l S = fCells ld l S
  | [], _, _ => rfl
  | c :: r, S, hu => by
    change Ups (if lastGe S.out c.1 = true then fForm S else fCells ld r { (fCell ld S c).2 with out := S.out ++ [(c.1, (fCell ld S c).1)] }) F at hu
    show (if lastGe S.out c.1 = true then fForm S else fCells ld' r { (fCell ld' S c).2 with out := S.out ++ [(c.1, (fCell ld' S c).1)] }) = (if lastGe S.out c.1 = true then fForm S else fCells ld r { (fCell ld S c).2 with out := S.out ++ [(c.1, (fCell ld S c).1)] })
    by_cases h : lastGe S.out c.1 = true
    · rw [if_pos h, if_pos h]
    · rw [if_neg h] at hu
      rw [if_neg h, if_neg h]
      have h1 : Ups (fCell ld S c).2 F := Ups.trans (B := { (fCell ld S c).2 with out := S.out ++ [(c.1, (fCell ld S c).1)] }) ((Ups.refl _).out _) ((Ups.cells ld r _).trans hu)
      rw [loc_cell he ha h1]
      exact loc_cells r hu
theorem loc_leaf {S : FS} {s : S2} (hu : Ups (fLeaf ld S s) F) : fLeaf ld' S s = fLeaf ld S s := by
  have hp : Ups (fPage ld S s.2).2 F := by
    unfold fLeaf at hu
    split at hu
    · exact (Ups.cells ld _ _).trans hu
    · exact (Ups.form _).trans hu
  have e := loc_page he ha hp
  unfold fLeaf at hu ⊢
  rw [e]
  split at hu
  · rename_i h
    rw [if_pos h, if_pos h]
    exact loc_cells he ha _ hu
  · rename_i h
    rw [if_neg h, if_neg h]
theorem loc_slots : ∀ (l : List S2) {S : FS}, Ups (fSlots ld l S) F → fSlots ld' l S = fSlots ld l S
  | [], _, _ => rfl
  | s :: t, S, hu => by
    change Ups (fSlots ld t (if S.e = 0 then fLeaf ld S s else S)) F at hu
    show fSlots ld' t (if S.e = 0 then fLeaf ld' S s else S) = fSlots ld t (if S.e = 0 then fLeaf ld S s else S)
    have h1 := (Ups.slots ld t _).trans hu
    by_cases h : S.e = 0
    · rw [if_pos h] at hu h1
      rw [if_pos h, if_pos h, loc_leaf he ha h1]
      exact loc_slots t hu
    · rw [if_neg h] at hu
      rw [if_neg h, if_neg h]
      exact loc_slots t hu
end
theorem read_local {ld ld' : Ld} {root : Int} (he : (fRead ld root).e = 0) (ha : ∀ n b, (fRead ld root).pages n = some b → ld' n = (b, 0)) : fRead ld' root = fRead ld root := by
  have h1 : Ups (fIdx ld root) (fRead ld root) := Ups.slots ld _ _
  have h2 : Ups (fPage ld fS0 root).2 (fRead ld root) := (Ups.idx ld root).trans h1
  have e := loc_page (S := fS0) (n := root) he ha h2
  have e2 : fIdx ld' root = fIdx ld root := by unfold fIdx; rw [e]
  have h3 := loc_slots (ld := ld) (ld' := ld') he ha (slotsE (fPage ld fS0 root).1).1 (S := fIdx ld root) (Ups.refl _)
  show fSlots ld' (slotsE (fPage ld' fS0 root).1).1 (fIdx ld' root) = _
  rw [e, e2]
  exact h3
theorem sorted_ext : ∀ {xs ys : List R2}, (xs.Pairwise fun p q => p.1 < q.1) → (ys.Pairwise fun p q => p.1 < q.1) → (∀ n b, (n, b) ∈ xs ↔ (n, b) ∈ ys) → xs = ys
  | [], [], _, _, _ => rfl
  | [], y :: ys, _, _, h => absurd ((h y.1 y.2).2 List.mem_cons_self) (List.not_mem_nil)
  | x :: xs, [], _, _, h => absurd ((h x.1 x.2).1 List.mem_cons_self) (List.not_mem_nil)
  | x :: xs, y :: ys, hx, hy, h => by
    obtain ⟨x1, x2⟩ := List.pairwise_cons.1 hx
    obtain ⟨y1, y2⟩ := List.pairwise_cons.1 hy
    have hxy : x = y := by
      rcases List.mem_cons.1 ((h x.1 x.2).1 List.mem_cons_self) with e | e
      · exact e
      · rcases List.mem_cons.1 ((h y.1 y.2).2 List.mem_cons_self) with e2 | e2
        · exact e2.symm
        · have a := y1 _ e
          have b := x1 _ e2
          exact absurd a (by show ¬ y.1 < x.1; have b : x.1 < y.1 := b; omega)
    subst hxy
    congr 1
    refine sorted_ext x2 y2 (fun n b => ?_)
    have h1 := h n b
    rw [List.mem_cons, List.mem_cons] at h1
    constructor
    · intro hm
      rcases h1.1 (.inr hm) with e | e
      · have := x1 _ hm; rw [← e] at this; exact absurd this (Int.lt_irrefl _)
      · exact e
    · intro hm
      rcases h1.2 (.inr hm) with e | e
      · have := y1 _ hm; rw [← e] at this; exact absurd this (Int.lt_irrefl _)
      · exact e
theorem pages_ext {S T : FS} {xs ys : List R2} (hx : PagesOf S xs) (hy : PagesOf T ys) (h : S.pages = T.pages) : xs = ys :=
  sorted_ext hx.1 hy.1 (fun n b => by rw [hx.2, hy.2, h])
def ldF (sf : List ByteArray) : Ld := fun n => if 0 ≤ n ∧ n < sf.length then (sf.getD n.toNat ⟨#[]⟩, 0) else (⟨#[]⟩, 6)
theorem ldF_at {sf : List ByteArray} {n : Int} {b : ByteArray} (h : sf[n.toNat]? = some b) (h0 : 0 ≤ n) : ldF sf n = (b, 0) := by
  have hl := (List.getElem?_eq_some_iff.1 h).1
  unfold ldF
  rw [if_pos ⟨h0, by omega⟩, List.getD_eq_getElem?_getD, h]; rfl
theorem ldF_ok {sf : List ByteArray} {n : Int} {b : ByteArray} (h : ldF sf n = (b, 0)) : 0 ≤ n ∧ n < sf.length ∧ sf[n.toNat]? = some b := by
  unfold ldF at h
  by_cases hc : 0 ≤ n ∧ n < sf.length
  · rw [if_pos hc] at h
    have h1 := (Prod.mk.inj h).1
    rw [List.getD_eq_getElem?_getD, List.getElem?_eq_getElem (show n.toNat < sf.length by omega)] at h1
    exact ⟨hc.1, hc.2, by rw [List.getElem?_eq_getElem (show n.toNat < sf.length by omega), ← h1]; rfl⟩
  · rw [if_neg hc] at h; cases (Prod.mk.inj h).2
theorem ldP_eq {S : VP.PS} (h1 : S.halted = false) (h2 : S.last = fun _ => none) : ldP S = ldF S.safe := by
  funext n
  unfold ldP VP.loadE ldF VP.mayE
  rw [h1, h2]
  simp only [Bool.false_eq_true, if_false]
  by_cases hn : n < 0
  · rw [if_pos hn, if_neg (by decide), if_neg (by omega)]
  · by_cases hl : (S.safe.length : Int) ≤ n
    · rw [if_neg hn, if_pos hl, if_neg (by decide), if_neg (by omega)]
    · rw [if_neg hn, if_neg hl, if_pos rfl, if_pos ⟨by omega, by omega⟩]; rfl
structure Tree (sf : List ByteArray) (root : Int) (recs live : List R2) : Prop where
  ok : (fRead (ldF sf) root).e = 0
  out : (fRead (ldF sf) root).out = recs
  pages : PagesOf (fRead (ldF sf) root) live
section
variable {sf sf' : List ByteArray} {root : Int} {recs live : List R2}
theorem Tree.mem (h : Tree sf root recs live) {x : R2} (hx : x ∈ live) : 0 ≤ x.1 ∧ x.1 < sf.length ∧ sf[x.1.toNat]? = some x.2 :=
  ldF_ok (read_con (ldF sf) root x.1 x.2 ((h.pages.2 x.1 x.2).1 hx))
theorem Tree.stable (h : Tree sf root recs live) (hs : ∀ x ∈ live, sf'[x.1.toNat]? = some x.2) : Tree sf' root recs live := by
  have e := read_local (ld := ldF sf) (ld' := ldF sf') h.ok (fun n b hn => by
    have hx := (h.pages.2 n b).2 hn
    exact ldF_at (hs _ hx) (h.mem hx).1)
  exact ⟨by rw [e]; exact h.ok, by rw [e]; exact h.out, by rw [e]; exact h.pages⟩
theorem Tree.apart (h : Tree sf root recs live) : live.Pairwise fun p q => p.1 ≠ q.1 := h.pages.1.imp (fun h e => by omega)
end
structure Disk (S : VP.PS) (N : Nat) (gen root : Int) (recs live : List R2) : Prop where
  pg : VP.pagesOk S
  len : S.safe.length = N
  n8 : 8 ≤ N
  n200 : N ≤ 200
  ok : Cr.okC gen root N = true
  crown : S.safe[(gen % 2).toNat]? = some (Cr.encB gen root N)
  other : ∀ b, S.safe[(1 - gen % 2).toNat]? = some b → Cr.isC b = true → Cr.gG b < gen
  tree : Tree S.safe root recs live
  low : ∀ x ∈ live, 2 ≤ x.1 ∧ x.1 < N
  far : ∀ p ∈ S.afl, 2 ≤ p.f0 ∧ ∀ y ∈ live, y.1 ≠ p.f0
  cont : ∀ x ∈ live, ∀ y ∈ live, x.2 = y.2 → x.1 = y.1
section
variable {S : VP.PS} {N : Nat} {gen root : Int} {recs live : List R2}
theorem Disk.live_len (h : Disk S N gen root recs live) : live.length ≤ N - 2 := by
  have h1 := nodup_le (N - 2) (live.map (·.1)) (by
    unfold List.Nodup
    rw [List.pairwise_map]
    exact h.tree.apart) (fun x hx => by
    obtain ⟨y, hy, rfl⟩ := List.mem_map.1 hx
    have := h.low y hy
    have := h.n8
    omega)
  rwa [List.length_map] at h1
theorem Disk.bytes (h : Disk S N gen root recs live) : ∀ x ∈ live, x.2.size = 128 := fun x hx =>
  h.pg.1 _ (List.mem_of_getElem? (h.tree.mem hx).2.2)
theorem load_at (hh : S.halted = false) (hl : S.last = fun _ => none) {n : Int} {b : ByteArray} (h0 : 0 ≤ n) (h : S.safe[n.toNat]? = some b) : VP.loadE S n = (b, 0) := by
  have := congrFun (ldP_eq hh hl) n
  rw [ldF_at h h0] at this
  exact this
theorem Disk.pick (h : Disk S N gen root recs live) (hh : S.halted = false) (hl : S.last = fun _ => none) : pkS S = (gen, root, (N : Int), gen % 2, true) ∧ (VP.loadE S 0).2 = 0 ∧ (VP.loadE S 1).2 = 0 := by
  obtain ⟨b0, hb0⟩ : ∃ b, S.safe[0]? = some b := ⟨_, List.getElem?_eq_getElem (by rw [h.len]; have := h.n8; omega)⟩
  obtain ⟨b1, hb1⟩ : ∃ b, S.safe[1]? = some b := ⟨_, List.getElem?_eq_getElem (by rw [h.len]; have := h.n8; omega)⟩
  have e0 := load_at hh hl (n := 0) (by decide) hb0
  have e1 := load_at hh hl (n := 1) (by decide) hb1
  refine ⟨?_, by rw [e0], by rw [e1]⟩
  unfold pkS
  rw [e0, e1]
  show Cr.pickA b0 b1 = _
  have hc := h.crown
  have ho := h.other
  rcases (by omega : gen % 2 = 0 ∨ gen % 2 = 1) with hg | hg
  · rw [hg] at hc ho
    have hc : S.safe[0]? = _ := hc
    rw [hb0] at hc
    injection hc with hc
    subst hc
    have ho := ho b1 hb1
    unfold Cr.pickA
    rw [if_pos ⟨Cr.isC_encB h.ok, fun hb => by rw [Cr.gG_enc h.ok]; have := ho hb; omega⟩, Cr.gG_enc h.ok, Cr.gR_enc h.ok, Cr.gP_enc h.ok, hg]
  · rw [hg] at hc ho
    have hc : S.safe[1]? = _ := hc
    rw [hb1] at hc
    injection hc with hc
    subst hc
    have ho := ho b0 hb0
    unfold Cr.pickA
    rw [if_neg (fun hn => by
      have h1 := hn.2 (Cr.isC_encB h.ok)
      rw [Cr.gG_enc h.ok] at h1
      have := ho hn.1
      omega), if_pos (Cr.isC_encB h.ok), Cr.gG_enc h.ok, Cr.gR_enc h.ok, Cr.gP_enc h.ok, hg]
theorem Disk.small (h : Disk S N gen root recs live) (hh : S.halted = false) (hl : S.last = fun _ => none) : LdSmall (ldP S) := by
  rw [ldP_eq hh hl]
  intro n
  unfold ldF
  split
  · show (S.safe.getD n.toNat ⟨#[]⟩).size ≤ 1000000
    rw [List.getD_eq_getElem?_getD]
    cases hs : S.safe[n.toNat]? with
    | none => show (0 : Nat) ≤ 1000000; decide
    | some b => show b.size ≤ 1000000; rw [h.pg.1 b (List.mem_of_getElem? hs)]; decide
  · show (0 : Nat) ≤ 1000000; decide
theorem Disk.opE (h : Disk S N gen root recs live) (hh : S.halted = false) (hl : S.last = fun _ => none) : opE S = 0 := by
  obtain ⟨e1, e2, e3⟩ := h.pick hh hl
  unfold V.opE
  rw [if_pos e2, if_pos e3, e1, if_pos ⟨rfl, by rw [h.len]⟩, ldP_eq hh hl]
  exact h.tree.ok
theorem failed_other (S : VP.PS) (cl : List Int) (n : Nat) (h : ∀ p ∈ S.afl, p.f0.toNat ≠ n) : ∀ i, i ≤ S.afl.length → (VP.failed S cl i).1[n]? = S.safe[n]?
  | 0, _ => rfl
  | i + 1, hi => by
    unfold VP.failed
    split
    · show ((VP.failed S cl i).1.set _ _)[n]? = _
      rw [List.getElem?_set_ne (h _ (VP.rd65_mem (by omega))), failed_other S cl n h i (by omega)]
    · exact failed_other S cl n h i (by omega)
theorem Disk.fail (h : Disk S N gen root recs live) (cl : List Int) : Disk (VP.faS S cl) N gen root recs live := by
  have hsame : ∀ n : Nat, (∀ p ∈ S.afl, p.f0.toNat ≠ n) → (VP.faS S cl).safe[n]? = S.safe[n]? := fun n hn => failed_other S cl n hn _ (Nat.le_refl _)
  have hlow : ∀ n : Nat, n < 2 → ∀ p ∈ S.afl, p.f0.toNat ≠ n := fun n hn p hp => by have := (h.far p hp).1; omega
  refine ⟨⟨VP.failed_size h.pg cl _ (Nat.le_refl _), fun p hp => by simp [VP.faS] at hp⟩, (VP.failed_length _ _ _).trans h.len, h.n8, h.n200, h.ok, ?_, ?_, ?_, h.low, fun p hp => by simp [VP.faS] at hp, h.cont⟩
  · rw [hsame _ (hlow _ (by omega))]; exact h.crown
  · intro b hb
    rw [hsame _ (hlow _ (by omega))] at hb
    exact h.other b hb
  · refine h.tree.stable (fun x hx => ?_)
    rw [hsame _ (fun p hp e => (h.far p hp).2 x hx (by have := (h.far p hp).1; have := (h.low x hx).1; omega))]
    exact (h.tree.mem hx).2.2
end
theorem storeG {S : VP.PS} {N : Nat} (hh : S.halted = false) (hN : S.safe.length = N) {n : Int} {b : ByteArray} (h0 : 0 ≤ n) (h1 : n < N) (hb : b.size = 128) :
    (VP.storeE S n b = 0 ∧ (VP.storeS S n b).halted = false ∧ (VP.storeS S n b).safe = S.safe ∧ (VP.storeS S n b).afl = S.afl ++ [⟨n, b⟩]) ∨ (VP.storeE S n b = 7 ∧ VP.storeS S n b = { S with halted := true }) := by
  have hm : VP.mayE S n = 0 := by
    unfold VP.mayE
    rw [hh, if_neg (by decide), if_neg (by omega), if_neg (by rw [hN]; omega)]
  unfold VP.storeE VP.storeS
  rw [if_pos hm, if_pos hm, if_pos hb, if_pos hb]
  by_cases hc : S.halts = true ∧ S.after = 0
  · rw [if_pos hc.1, if_pos hc.2, if_pos hc]
    exact .inr ⟨rfl, rfl⟩
  · rw [if_neg hc]
    refine .inl ⟨?_, hh, rfl, rfl⟩
    by_cases h2 : S.halts = true
    · rw [if_pos h2, if_neg (fun e => hc ⟨h2, e⟩)]
    · rw [if_neg h2]
def toAf (l : List R2) : List VP.S116 := l.map fun x => ⟨x.1, x.2⟩
theorem wrG {N : Nat} : ∀ (l : List R2) {S : VP.PS}, S.halted = false → S.safe.length = N → (∀ x ∈ l, goodW N x) →
    (wrE S l = 0 ∧ (wrS S l).halted = false ∧ (wrS S l).safe = S.safe ∧ (wrS S l).afl = S.afl ++ toAf l) ∨ (wrE S l = 7 ∧ (wrS S l).halted = true ∧ (wrS S l).safe = S.safe ∧ ∃ k, k < l.length ∧ (wrS S l).afl = S.afl ++ toAf (l.take k))
  | [], S, h, _, _ => .inl ⟨rfl, h, rfl, (List.append_nil _).symm⟩
  | x :: t, S, h, hN, hg => by
    obtain ⟨⟨g1, g2⟩, g3⟩ := hg x List.mem_cons_self
    rcases storeG h hN g1 g2 g3 with ⟨e1, e2, e3, e4⟩ | ⟨e1, e2⟩
    · have f1 : wrE S (x :: t) = wrE (VP.storeS S x.1 x.2) t := by show (if _ then _ else _) = _; rw [if_pos e1]
      have f2 : wrS S (x :: t) = wrS (VP.storeS S x.1 x.2) t := by show (if _ then _ else _) = _; rw [if_pos e1]
      rw [f1, f2]
      rcases wrG t e2 (by rw [e3]; exact hN) (fun y hy => hg y (List.mem_cons_of_mem _ hy)) with ⟨a1, a2, a3, a4⟩ | ⟨a1, a2, a3, k, hk, a4⟩
      · exact .inl ⟨a1, a2, a3.trans e3, by rw [a4, e4, List.append_assoc]; rfl⟩
      · exact .inr ⟨a1, a2, a3.trans e3, k + 1, by rw [List.length_cons]; omega, by rw [a4, e4, List.append_assoc]; rfl⟩
    · have f1 : wrE S (x :: t) = VP.storeE S x.1 x.2 := by show (if _ then _ else _) = _; rw [if_neg (by rw [e1]; decide)]
      have f2 : wrS S (x :: t) = VP.storeS S x.1 x.2 := by show (if _ then _ else _) = _; rw [if_neg (by rw [e1]; decide)]
      rw [f1, f2, e2]
      exact .inr ⟨e1, rfl, rfl, 0, by rw [List.length_cons]; omega, (List.append_nil _).symm⟩
theorem writeG {S : VP.PS} {N : Nat} {l : List R2} {g r p : Int} (hh : S.halted = false) (hN : S.safe.length = N) (ha : S.afl = []) (hp : VP.pagesOk S) (hN2 : 2 ≤ N) (hg : ∀ x ∈ l, goodW N x) :
    (writeE S l g r p = 0 ∧ (writeS S l g r p).halted = false ∧ (writeS S l g r p).safe = (putL S.safe l).set (g % 2).toNat (Cr.encB g r p) ∧ (writeS S l g r p).afl = [] ∧ (writeS S l g r p).last = fun _ => none) ∨
    (writeE S l g r p = 7 ∧ (writeS S l g r p).halted = true ∧ (writeS S l g r p).safe = S.safe ∧ ∃ k, (writeS S l g r p).afl = toAf (l.take k)) ∨
    (writeE S l g r p = 7 ∧ (writeS S l g r p).halted = true ∧ (writeS S l g r p).safe = putL S.safe l ∧ (writeS S l g r p).afl = []) := by
  unfold writeE writeS
  rcases wrG l hh hN hg with ⟨a1, a2, a3, a4⟩ | ⟨a1, a2, a3, k, _, a4⟩
  · rw [ha, List.nil_append] at a4
    have hs : (VP.seS (wrS S l)).safe = putL S.safe l := by rw [seS_safe a4, a3]
    have hsl : (VP.seS (wrS S l)).safe.length = N := by rw [hs, putL_len]; exact hN
    rw [if_pos a1, if_pos a1]
    rcases storeG (S := VP.seS (wrS S l)) (n := g % 2) (b := Cr.encB g r p) a2 hsl (by omega) (by omega) (Cr.encB_size _ _ _) with ⟨e1, e2, e3, e4⟩ | ⟨e1, e2⟩
    · rw [if_pos e1]
      refine .inl ⟨e1, e2, ?_, rfl, rfl⟩
      rw [seS_safe (l := [(g % 2, Cr.encB g r p)]) (by rw [e4]; rfl), e3, hs]
      rfl
    · rw [if_neg (by rw [e1]; decide), e2]
      exact .inr (.inr ⟨e1, rfl, hs, rfl⟩)
  · rw [ha, List.nil_append] at a4
    rw [if_neg (by rw [a1]; decide), if_neg (by rw [a1]; decide)]
    exact .inr (.inl ⟨a1, a2, a3, k, a4⟩)
structure VOk (V : VS) (m : Nat) : Prop where
  disk : Disk V.P V.pages V.gen V.root V.recs V.live
  pages : V.pages = m + 2
  halted : V.P.halted = false
  last : V.P.last = fun _ => none
  afl : V.P.afl = []
  dead : V.dead = false
theorem VOk.can {V : VS} {m : Nat} (h : VOk V m) (hg : V.gen < 4611686018427387904) : CanSave V m := by
  have h8 := h.disk.n8
  have h2 := h.disk.n200
  have hp := h.pages
  have hl := h.disk.live_len
  obtain ⟨g1, _⟩ := Cr.okC_iff.1 h.disk.ok
  exact ⟨hp, by omega, by omega, ⟨h.halted, h.disk.pg⟩, h.afl, by omega, h.disk.bytes, by omega, hg⟩
theorem putL_size : ∀ (l : List R2) (sf : List ByteArray), (∀ b ∈ sf, b.size = 128) → (∀ x ∈ l, x.2.size = 128) → ∀ b ∈ putL sf l, b.size = 128
  | [], sf, h, _ => h
  | x :: t, sf, h, hl => putL_size t (sf.set x.1.toNat x.2) (fun b hb => by
      rcases List.mem_or_eq_of_mem_set hb with hb | rfl
      · exact h b hb
      · exact hl x List.mem_cons_self) (fun y hy => hl y (List.mem_cons_of_mem _ hy))
section
variable {V : VS} {m : Nat} {l : List R2}
theorem sv_new (h : VOk V m) (hp : (svP V m l).2.2 = 0) : ∀ x ∈ (svP V m l).1, goodW V.pages x ∧ 2 ≤ x.1 ∧ ∀ y ∈ V.live, y.1 ≠ x.1 := fun x hx => by
  have h1 := freeL_mem.1 (plan_out hp x hx)
  have h2 := plan_good (n := V.pages) hp (fun y hy => by
    have := freeL_mem.1 hy
    have h3 := h.pages
    refine ⟨this.1.1, ?_⟩
    rw [h3]; have := this.1.2; show y < ((m + 2 : Nat) : Int); omega) x hx
  exact ⟨h2.1, h2.2, h1.2⟩
theorem sv_apart (h : VOk V m) (hp : (svP V m l).2.2 = 0) : (V.live ++ (svP V m l).1).Pairwise fun p q => p.1 ≠ q.1 := by
  rw [List.pairwise_append]
  exact ⟨h.disk.tree.apart, plan_apart hp (freeL_nodup _ _), fun x hx y hy => (sv_new h hp y hy).2.2 x hx⟩
theorem sv_known (hp : (svP V m l).2.2 = 0) {b : ByteArray} {n : Int} (hk : (planZ l V.live (freeL m V.live)).2.known b = some n) : (n, b) ∈ V.live ++ (svP V m l).1 := by
  have hk2 : (planZ l V.live (freeL m V.live)).2.known = knF (V.live ++ (planZ l V.live (freeL m V.live)).2.out) := planZ_kn l _ _
  rw [hk2] at hk
  have h1 := knF_mem _ _ _ hk
  have h2 : (svP V m l).1 = (planZ l V.live (freeL m V.live)).2.out := by
    show (planE l V.live (freeL m V.live)).1 = _
    rw [(planE_ok hp).2.2.2.2]
  rw [h2]; exact h1
theorem sv_read (hp : (svP V m l).2.2 = 0) {ld : Ld} (hld : ∀ x ∈ V.live ++ (svP V m l).1, ld x.1 = (x.2, 0)) :
    (fRead ld (svP V m l).2.1).e = 0 ∧ (fRead ld (svP V m l).2.1).out = l ∧ ∀ n b, (fRead ld (svP V m l).2.1).pages n = some b ↔ (b ∈ planB l V.live (freeL m V.live) ∧ (planZ l V.live (freeL m V.live)).2.known b = some n) :=
  plan_read hp (fun b n hk => hld _ (sv_known hp hk))
theorem sv_back (h : VOk V m) (hp : (svP V m l).2.2 = 0) : (fRead (ldA (V.live ++ (svP V m l).1)) (svP V m l).2.1).e = 0 ∧ (fRead (ldA (V.live ++ (svP V m l).1)) (svP V m l).2.1).out = l := by
  obtain ⟨a, b, _⟩ := sv_read hp (ld := ldA (V.live ++ (svP V m l).1)) (fun x hx => ldA_at (sv_apart h hp) hx)
  exact ⟨a, b⟩
theorem plan_errs (hp : (svP V m l).2.2 ≠ 0) : (svP V m l).2.2 = 8 ∨ (svP V m l).2.2 = 9 ∨ (svP V m l).2.2 = 12 := (planE_err l V.live (freeL m V.live)).resolve_left hp
theorem save_ways {e : Int} {V' : VS} (h : VOk V m) (hg : V.gen < 4611686018427387904) (hs : SaveR V m l e V') :
    ((svP V m l).2.2 = e ∧ (e = 8 ∨ e = 9 ∨ e = 12) ∧ V' = V) ∨
    (e = 7 ∧ (svP V m l).2.2 = 0 ∧ svE V m l = 7 ∧ V' = { V with P := svS V m l, dead := true } ∧ Disk V'.P V'.pages V'.gen V'.root V'.recs V'.live ∧ V'.P.halted = true) ∨
    (e = 0 ∧ (svP V m l).2.2 = 0 ∧ VOk V' m ∧ V'.gen = V.gen + 1 ∧ V'.recs = l ∧ V'.root = (svP V m l).2.1 ∧ V'.pages = V.pages ∧ V'.P = svS V m l ∧ svE V m l = 0 ∧ (∀ n b, (n, b) ∈ V'.live ↔ (b ∈ planB l V.live (freeL m V.live) ∧ (planZ l V.live (freeL m V.live)).2.known b = some n))) := by
  have hd := h.disk
  have h8 := hd.n8
  have h200 := hd.n200
  rcases hs with ⟨h1, rfl, rfl⟩ | ⟨h1, h2, rfl, rfl⟩ | ⟨h1, h2, rfl, ys, hy, rfl⟩
  · exact .inl ⟨rfl, plan_errs h1, rfl⟩
  · refine .inr (.inl ?_)
    have hnew := sv_new h h1
    have hW := writeG (g := V.gen + 1) (r := (svP V m l).2.1) (p := V.pages) h.halted hd.len h.afl hd.pg (by omega) (fun x hx => (hnew x hx).1)
    have e1 : svE V m l = writeE V.P (svP V m l).1 (V.gen + 1) (svP V m l).2.1 V.pages := rfl
    have e2 : svS V m l = writeS V.P (svP V m l).1 (V.gen + 1) (svP V m l).2.1 V.pages := rfl
    rw [← e1, ← e2] at hW
    have key : svE V m l = 7 ∧ (svS V m l).halted = true ∧ ((svS V m l).safe = V.P.safe ∨ (svS V m l).safe = putL V.P.safe (svP V m l).1) ∧ ∃ k, (svS V m l).afl = toAf ((svP V m l).1.take k) := by
      rcases hW with ⟨a, _⟩ | ⟨a1, a2, a3, a4⟩ | ⟨a1, a2, a3, a4⟩
      · exact absurd a h2
      · exact ⟨a1, a2, .inl a3, a4⟩
      · exact ⟨a1, a2, .inr a3, 0, a4⟩
    obtain ⟨k1, k2, k3, kk, k4⟩ := key
    refine ⟨k1, h1, k1, rfl, ?_, k2⟩
    have hsame : ∀ n : Nat, (∀ x ∈ (svP V m l).1, x.1.toNat ≠ n) → (svS V m l).safe[n]? = V.P.safe[n]? := fun n hn => by
      rcases k3 with k3 | k3
      · rw [k3]
      · rw [k3]; exact putL_other _ _ _ hn
    have hafl : ∀ p ∈ (svS V m l).afl, ∃ x ∈ (svP V m l).1, p = ⟨x.1, x.2⟩ := fun p hp => by
      rw [k4] at hp
      obtain ⟨x, hx, rfl⟩ := List.mem_map.1 hp
      exact ⟨x, List.mem_of_mem_take hx, rfl⟩
    have hlen : (svS V m l).safe.length = V.pages := by
      rcases k3 with k3 | k3
      · rw [k3]; exact hd.len
      · rw [k3, putL_len]; exact hd.len
    have hlow : ∀ n : Nat, n < 2 → ∀ x ∈ (svP V m l).1, x.1.toNat ≠ n := fun n hn x hx => by have := (hnew x hx).2.1; omega
    refine ⟨⟨?_, fun p hp => ?_⟩, hlen, h8, h200, hd.ok, ?_, ?_, ?_, hd.low, fun p hp => ?_, hd.cont⟩
    · rcases k3 with k3 | k3
      · show ∀ b ∈ (svS V m l).safe, _
        rw [k3]; exact hd.pg.1
      · show ∀ b ∈ (svS V m l).safe, _
        rw [k3]; exact putL_size _ _ hd.pg.1 (fun x hx => (hnew x hx).1.2)
    · obtain ⟨x, hx, rfl⟩ := hafl p hp
      have := (hnew x hx).1
      exact ⟨⟨this.1.1, by show x.1 < (((svS V m l).safe.length : Nat) : Int); rw [hlen]; exact this.1.2⟩, this.2⟩
    · show (svS V m l).safe[(V.gen % 2).toNat]? = _
      rw [hsame _ (hlow _ (by omega))]; exact hd.crown
    · intro b hb
      have hb : (svS V m l).safe[(1 - V.gen % 2).toNat]? = some b := hb
      rw [hsame _ (hlow _ (by omega))] at hb
      exact hd.other b hb
    · refine hd.tree.stable (fun x hx => ?_)
      show (svS V m l).safe[x.1.toNat]? = _
      rw [hsame _ (fun y hy e => (hnew y hy).2.2 x hx (by have := (hnew y hy).2.1; have := (hd.low x hx).1; omega))]
      exact (hd.tree.mem hx).2.2
    · obtain ⟨x, hx, rfl⟩ := hafl p hp
      exact ⟨(hnew x hx).2.1, fun y hy => (hnew x hx).2.2 y hy⟩
  · refine .inr (.inr ?_)
    have hnew := sv_new h h1
    have hap := sv_apart h h1
    have hW := writeG (g := V.gen + 1) (r := (svP V m l).2.1) (p := V.pages) h.halted hd.len h.afl hd.pg (by omega) (fun x hx => (hnew x hx).1)
    have e1 : svE V m l = writeE V.P (svP V m l).1 (V.gen + 1) (svP V m l).2.1 V.pages := rfl
    have e2 : svS V m l = writeS V.P (svP V m l).1 (V.gen + 1) (svP V m l).2.1 V.pages := rfl
    rw [← e1, ← e2] at hW
    obtain ⟨a1, a2, a3, a4, a5⟩ : svE V m l = 0 ∧ (svS V m l).halted = false ∧ (svS V m l).safe = (putL V.P.safe (svP V m l).1).set ((V.gen + 1) % 2).toNat (Cr.encB (V.gen + 1) (svP V m l).2.1 V.pages) ∧ (svS V m l).afl = [] ∧ (svS V m l).last = fun _ => none := by
      rcases hW with hW | ⟨a1, _⟩ | ⟨a1, _⟩
      · exact hW
      · rw [a1] at h2; cases h2
      · rw [a1] at h2; cases h2
    have hok := root_ok (h.can hg) hd.low h1
    have hlen : (svS V m l).safe.length = V.pages := by rw [a3, List.length_set, putL_len]; exact hd.len
    have hpl : (putL V.P.safe (svP V m l).1).length = V.pages := by rw [putL_len]; exact hd.len
    have hpage : ∀ n : Nat, 2 ≤ n → (svS V m l).safe[n]? = (putL V.P.safe (svP V m l).1)[n]? := fun n hn => by rw [a3, List.getElem?_set_ne (by omega)]
    have hsafe : ∀ x ∈ V.live ++ (svP V m l).1, (svS V m l).safe[x.1.toNat]? = some x.2 ∧ 2 ≤ x.1 ∧ x.1 < V.pages := fun x hx => by
      rcases List.mem_append.1 hx with hx | hx
      · have hl := hd.low x hx
        refine ⟨?_, hl⟩
        rw [hpage _ (by omega), putL_other _ _ _ (fun y hy e => (hnew y hy).2.2 x hx (by have := (hnew y hy).2.1; omega))]
        exact (hd.tree.mem hx).2.2
      · have hl := hnew x hx
        refine ⟨?_, hl.2.1, hl.1.1.2⟩
        rw [hpage _ (by omega)]
        exact putL_at _ _ (List.pairwise_append.1 hap).2.1 (fun y hy => by rw [hd.len]; exact (hnew y hy).1.1) x hx
    obtain ⟨r1, r2, r3⟩ := sv_read h1 (ld := ldF (svS V m l).safe) (fun x hx => ldF_at (hsafe x hx).1 (by have := (hsafe x hx).2.1; omega))
    obtain ⟨q1, q2, q3⟩ := sv_read h1 (ld := ldA (V.live ++ (svP V m l).1)) (fun x hx => ldA_at hap hx)
    have hchar : ∀ n b, (n, b) ∈ ys ↔ (b ∈ planB l V.live (freeL m V.live) ∧ (planZ l V.live (freeL m V.live)).2.known b = some n) := fun n b => (hy.2 n b).trans (q3 n b)
    have hys : ∀ x ∈ ys, x ∈ V.live ++ (svP V m l).1 := fun x hx => sv_known h1 ((hchar x.1 x.2).1 hx).2
    refine ⟨rfl, h1, ⟨?_, h.pages, a2, a5, a4, h.dead⟩, rfl, rfl, rfl, rfl, rfl, h2, hchar⟩
    refine ⟨⟨?_, fun p hp => ?_⟩, hlen, h8, h200, hok, ?_, ?_, ⟨r1, r2, hy.1, fun n b => ?_⟩, fun x hx => (hsafe x (hys x hx)).2, fun p hp => ?_, fun x hx y hy2 e => ?_⟩
    · show ∀ b ∈ (svS V m l).safe, _
      rw [a3]
      intro b hb
      rcases List.mem_or_eq_of_mem_set hb with hb | rfl
      · exact putL_size _ _ hd.pg.1 (fun x hx => (hnew x hx).1.2) b hb
      · exact Cr.encB_size _ _ _
    · have hp : p ∈ (svS V m l).afl := hp
      rw [a4] at hp; cases hp
    · show (svS V m l).safe[((V.gen + 1) % 2).toNat]? = _
      rw [a3, List.getElem?_set_self (by rw [hpl]; omega)]
    · intro b hb hc
      have hb : (svS V m l).safe[(1 - (V.gen + 1) % 2).toNat]? = some b := hb
      have hidx : (1 - (V.gen + 1) % 2).toNat = (V.gen % 2).toNat := by omega
      rw [hidx, a3, List.getElem?_set_ne (by omega), putL_other _ _ _ (fun x hx => by have := (hnew x hx).2.1; omega), hd.crown] at hb
      injection hb with hb
      subst hb
      show Cr.gG _ < V.gen + 1
      rw [Cr.gG_enc hd.ok]; omega
    · exact (hchar n b).trans (r3 n b).symm
    · have hp : p ∈ (svS V m l).afl := hp
      rw [a4] at hp; cases hp
    · have k1 := ((hchar x.1 x.2).1 hx).2
      have k2 := ((hchar y.1 y.2).1 hy2).2
      rw [e, k2] at k1
      injection k1 with k1
      exact k1.symm
def opV (S : VP.PS) (N : Nat) (gen root : Int) (recs live : List R2) : VS := ⟨S, gen, root, N, recs, live, false⟩
theorem Disk.vok {S : VP.PS} {N : Nat} {gen root : Int} {recs live : List R2} (h : Disk S N gen root recs live) (hh : S.halted = false) (hl : S.last = fun _ => none) (ha : S.afl = []) (hN : N = m + 2) : VOk (opV S N gen root recs live) m :=
  ⟨h, hN, hh, hl, ha, rfl⟩
end
theorem open_disk {w0 w : World} {g : Nat} {S : VP.PS} {N : Nat} {gen root : Int} {recs live : List R2} (h : VP.IsQ w0 w g S) (hd : Disk S N gen root recs live) (hh : S.halted = false) (hl : S.last = fun _ => none) :
    Calls Tryz.prog 13 #[.pointer (some ⟨g, 0, none⟩)] w fun e w' => ∃ gv, e = .returned (.tuple #[.pointer (some ⟨gv, 0, none⟩), .int .i64 0]) ∧ IsV w0 w' gv g (opV S N gen root recs live) ∧ Below w.heap.size w w' := by
  refine (open_any h (hd.small hh hl)).mono ?_
  rintro e w' ⟨hr, hb⟩
  obtain ⟨hp, _, _⟩ := hd.pick hh hl
  rcases hr with ⟨h1, _⟩ | ⟨_, gv, lv, vv, ys, rfl, hx, hgv, hlv, hvv, hys⟩
  · exact absurd (hd.opE hh hl) h1
  · rw [hp] at hx hlv hys
    simp only [] at hx hlv hys
    rw [ldP_eq hh hl] at hlv hys
    rw [hd.tree.out] at hlv
    have e1 : ys = live := pages_ext hys hd.tree.pages rfl
    subst e1
    exact ⟨gv, rfl, ⟨h.below hb, lv, vv, hx, Nat.le_trans h.1.size hgv, Kd.R_lower hlv h.1.size, Kd.R_lower hvv h.1.size⟩, hb⟩
theorem pgs_sorted (m : Nat) : (pgs m).Pairwise (· < ·) := by
  unfold pgs
  rw [List.pairwise_map]
  exact List.pairwise_lt_range.imp (fun h => by omega)
theorem zero_crown : Cr.isC (VP.zer 128) = false := by decide +kernel
theorem fmt_disk {N : Nat} {l : List R2} (h8 : 8 ≤ N) (h200 : N ≤ 200) (hp : (planE l [] (pgs (N - 2))).2.2 = 0) :
    Disk (fmtS N l) N 1 (planE l [] (pgs (N - 2))).2.1 l (planE l [] (pgs (N - 2))).1 ∧ (fmtS N l).halted = false ∧ (fmtS N l).last = (fun _ => none) ∧ (fmtS N l).afl = [] ∧ (fmtS N l).halts = false := by
  have hgood := plan_good (n := N) hp (fun x hx => by have := pgs_mem.1 hx; omega)
  have hap := plan_apart hp (pgs_nodup (N - 2))
  obtain ⟨O, hO⟩ : ∃ O, O = (planE l [] (pgs (N - 2))).1 := ⟨_, rfl⟩
  obtain ⟨rt, hrt⟩ : ∃ r, r = (planE l [] (pgs (N - 2))).2.1 := ⟨_, rfl⟩
  have hw := write_ok (S := VP.newS N) (N := N) (l := O) (g := 1) (r := rt) (p := N) (newS_std N _) rfl rfl (by omega) (fun x hx => (hgood x (by rw [← hO]; exact hx)).1)
  have hfm : fmtS N l = writeS (VP.newS N) O 1 rt N := by unfold fmtS; rw [hO, hrt]
  rw [← hfm] at hw
  obtain ⟨w1, w2, w3, w4, w5, w6, w7⟩ := hw
  have hok := fmt_ok h8 h200 hp
  rw [← hO] at hgood hap
  rw [← hrt] at hok
  have hnew : (VP.newS N).safe = List.replicate N (VP.zer 128) := rfl
  have hpl : (putL (VP.newS N).safe O).length = N := by rw [putL_len, hnew, List.length_replicate]
  have hsafe : ∀ x ∈ O, (fmtS N l).safe[x.1.toNat]? = some x.2 ∧ 2 ≤ x.1 ∧ x.1 < N := fun x hx => by
    have hl := hgood x hx
    refine ⟨?_, hl.2, hl.1.1.2⟩
    rw [w3, List.getElem?_set_ne (by have := hl.2; omega)]
    exact putL_at _ _ hap (fun y hy => by rw [hnew, List.length_replicate]; exact (hgood y hy).1.1) x hx
  have hkn : ∀ b n, (planZ l [] (pgs (N - 2))).2.known b = some n → (n, b) ∈ O := fun b n hk => by
    have hk2 : (planZ l [] (pgs (N - 2))).2.known = knF ([] ++ (planZ l [] (pgs (N - 2))).2.out) := planZ_kn l _ _
    rw [hk2] at hk
    have h1 := knF_mem _ _ _ hk
    rw [hO, (planE_ok hp).2.2.2.2]; exact h1
  have hK : LdK (ldF (fmtS N l).safe) (planZ l [] (pgs (N - 2))).2.known := fun b n hk => ldF_at (hsafe _ (hkn b n hk)).1 (by have := (hsafe _ (hkn b n hk)).2.1; show (0 : Int) ≤ n; have h : (2 : Int) ≤ n := this; omega)
  obtain ⟨r1, r2, _⟩ := plan_read hp hK
  have r3 := plan_pages hp hK
  rw [← hrt] at r1 r2 r3
  rw [← hO] at r3
  have hsort : O.Pairwise fun p q => p.1 < q.1 := by
    have hz : O = (planZ l [] (pgs (N - 2))).2.out := by rw [hO, (planE_ok hp).2.2.2.2]
    have h1 := (plan_inv l [] (pgs (N - 2))).pages
    have h2 := pgs_sorted (N - 2)
    rw [← h1] at h2
    have h3 := (List.pairwise_append.1 h2).1
    rw [List.pairwise_map] at h3
    rw [hz]; exact h3
  rw [← hO, ← hrt]
  refine ⟨⟨w2.pages, w2.len, h8, h200, hok, ?_, ?_, ⟨r1, r2, hsort, fun n b => (r3 n b).symm⟩, fun x hx => (hsafe x hx).2, fun p hp => (by rw [w4] at hp; cases hp), fun x hx y hy e => ?_⟩, w2.halted, w5, w4, w6⟩
  · show (fmtS N l).safe[((1 : Int) % 2).toNat]? = _
    rw [w3]
    exact List.getElem?_set_self (by rw [hpl]; show (1 : Nat) < N; omega)
  · intro b hb hc
    have hb : (fmtS N l).safe[0]? = some b := hb
    rw [w3, List.getElem?_set_ne (by decide), putL_other _ _ _ (fun x hx => by have := (hgood x hx).2; omega), hnew, List.getElem?_replicate, if_pos (by omega)] at hb
    injection hb with hb
    subst hb
    rw [zero_crown] at hc; cases hc
  · have k1 := (plan_inv l [] (pgs (N - 2))).kn
    have hz : O = (planZ l [] (pgs (N - 2))).2.out := by rw [hO, (planE_ok hp).2.2.2.2]
    rw [hz] at hx hy
    have a := k1 x hx
    rw [e, k1 y hy] at a
    injection a with a
    exact a.symm
theorem freeL_count {m : Nat} {live : List R2} (h : ∀ x ∈ live, 2 ≤ x.1 ∧ x.1 < (m : Int) + 2) (hp : live.Pairwise fun p q => p.1 ≠ q.1) : (freeL m live).length + live.length = m := by
  have hn : (freeL m live ++ live.map (·.1)).Nodup := by
    rw [List.nodup_append]
    refine ⟨freeL_nodup m live, ?_, fun x hx y hy e => ?_⟩
    · unfold List.Nodup; rw [List.pairwise_map]; exact hp
    · obtain ⟨z, hz, rfl⟩ := List.mem_map.1 hy
      exact (freeL_mem.1 hx).2 z hz e.symm
  have h1 := nodup_len _ (pgs m) hn (fun x hx => by
    rw [pgs_mem]
    rcases List.mem_append.1 hx with hx | hx
    · exact (freeL_mem.1 hx).1
    · obtain ⟨z, hz, rfl⟩ := List.mem_map.1 hx; exact h z hz)
  have h2 := nodup_len (pgs m) (freeL m live ++ live.map (·.1)) (pgs_nodup m) (fun x hx => by
    rw [List.mem_append]
    by_cases hx2 : ∃ y ∈ live, y.1 = x
    · obtain ⟨y, hy, rfl⟩ := hx2
      exact .inr (List.mem_map_of_mem hy)
    · exact .inl (freeL_mem.2 ⟨pgs_mem.1 hx, fun y hy e => hx2 ⟨y, hy, e⟩⟩))
  rw [List.length_append, List.length_map, pgs_length] at h1 h2
  omega
theorem live_count {ys all : List R2} {B : List ByteArray} {K : ByteArray → Option Int} (hy : ys.Pairwise fun p q => p.1 ≠ q.1) (ha : all.Pairwise fun p q => p.1 ≠ q.1) (hc : ∀ n b, (n, b) ∈ ys ↔ (b ∈ B ∧ K b = some n)) (hK : ∀ b n, K b = some n → (n, b) ∈ all) :
    ys.length = (all.filter fun x => B.any (fun b => decide (b = x.2)) && decide (K x.2 = some x.1)).length := by
  have nd : ∀ {l : List R2}, (l.Pairwise fun p q => p.1 ≠ q.1) → l.Nodup := fun h => h.imp (fun h e => h (by rw [e]))
  refine Nat.le_antisymm (nodup_len _ _ (nd hy) (fun x hx => ?_)) (nodup_len _ _ ((nd ha).filter _) (fun x hx => ?_))
  · obtain ⟨h1, h2⟩ := (hc x.1 x.2).1 hx
    rw [List.mem_filter]
    have h3 : B.any (fun b => decide (b = x.2)) = true := List.any_eq_true.2 ⟨x.2, h1, decide_eq_true rfl⟩
    exact ⟨hK _ _ h2, by rw [h3, decide_eq_true h2]; rfl⟩
  · rw [List.mem_filter, Bool.and_eq_true, decide_eq_true_eq] at hx
    obtain ⟨b, hb, e⟩ := List.any_eq_true.1 hx.2.1
    have e := of_decide_eq_true e
    subst e
    exact (hc x.1 x.2).2 ⟨hb, hx.2.2⟩
theorem wr_nohalt {N : Nat} : ∀ (l : List R2) {S : VP.PS}, S.halted = false → S.halts = false → S.safe.length = N → (∀ x ∈ l, goodW N x) → wrE S l = 0 ∧ (wrS S l).halts = false
  | [], S, _, h, _, _ => ⟨rfl, h⟩
  | x :: t, S, h, hf, hN, hg => by
    obtain ⟨⟨g1, g2⟩, g3⟩ := hg x List.mem_cons_self
    have hm : VP.mayE S x.1 = 0 := by
      unfold VP.mayE
      rw [h, if_neg (by decide), if_neg (by omega), if_neg (by rw [hN]; omega)]
    have e1 : VP.storeE S x.1 x.2 = 0 := by unfold VP.storeE; rw [if_pos hm, if_pos g3, hf]; rfl
    have e2 : (VP.storeS S x.1 x.2).halts = false := by unfold VP.storeS; rw [if_pos hm, if_pos g3, if_neg (by rw [hf]; intro h; cases h.1)]; exact hf
    have f1 : wrE S (x :: t) = wrE (VP.storeS S x.1 x.2) t := by show (if _ then _ else _) = _; rw [if_pos e1]
    have f2 : wrS S (x :: t) = wrS (VP.storeS S x.1 x.2) t := by show (if _ then _ else _) = _; rw [if_pos e1]
    rw [f1, f2]
    rcases storeG h hN g1 g2 g3 with ⟨_, a2, a3, _⟩ | ⟨a1, _⟩
    · exact wr_nohalt t a2 e2 (by rw [a3]; exact hN) (fun y hy => hg y (List.mem_cons_of_mem _ hy))
    · rw [e1] at a1; cases a1
theorem sv_nohalt {V : VS} {m : Nat} {l : List R2} (h : VOk V m) (hf : V.P.halts = false) (hp : (svP V m l).2.2 = 0) : svE V m l = 0 ∧ (svS V m l).halts = false := by
  have hd := h.disk
  have hnew := sv_new h hp
  obtain ⟨a1, a2⟩ := wr_nohalt (svP V m l).1 h.halted hf hd.len (fun x hx => (hnew x hx).1)
  have a3 := wrG (svP V m l).1 h.halted hd.len (fun x hx => (hnew x hx).1)
  obtain ⟨_, b2, b3, b4⟩ := a3.resolve_right (fun h => by rw [a1] at h; cases h.1)
  have hsl : (VP.seS (wrS V.P (svP V m l).1)).safe.length = V.pages := (VP.settled_length _ _).trans (by rw [b3]; exact hd.len)
  have hm : VP.mayE (VP.seS (wrS V.P (svP V m l).1)) ((V.gen + 1) % 2) = 0 := by
    unfold VP.mayE
    rw [show (VP.seS (wrS V.P (svP V m l).1)).halted = false from b2, if_neg (by decide), if_neg (by omega), if_neg (by rw [hsl]; have := hd.n8; omega)]
  have hf2 : (VP.seS (wrS V.P (svP V m l).1)).halts = false := a2
  have e1 : VP.storeE (VP.seS (wrS V.P (svP V m l).1)) ((V.gen + 1) % 2) (Cr.encB (V.gen + 1) (svP V m l).2.1 V.pages) = 0 := by
    unfold VP.storeE; rw [if_pos hm, if_pos (Cr.encB_size _ _ _), hf2]; rfl
  constructor
  · unfold svE writeE
    rw [if_pos a1]; exact e1
  · unfold svS writeS
    rw [if_pos a1, if_pos e1]
    show (VP.storeS _ _ _).halts = false
    unfold VP.storeS; rw [if_pos hm, if_pos (Cr.encB_size _ _ _), if_neg (by rw [hf2]; intro h; cases h.1)]; exact hf2
def abc : ByteArray := ⟨#[97, 98, 99]⟩
def aP0 : List R2 × Int × Int := planE [] [] (pgs 6)
theorem al1 : aP0.2.2 = 0 := by decide +kernel
def aV0 : VS := opV (fmtS 8 []) 8 1 aP0.2.1 [] aP0.1
theorem al2 : (svP aV0 6 [(3, abc)]).2.2 = 0 := by decide +kernel
theorem al3 : ((aV0.live ++ (svP aV0 6 [(3, abc)]).1).filter fun x => (planB [(3, abc)] aV0.live (freeL 6 aV0.live)).any (fun b => decide (b = x.2)) && decide ((planZ [(3, abc)] aV0.live (freeL 6 aV0.live)).2.known x.2 = some x.1)).length = 2 := by decide +kernel
theorem aV0_ok : VOk aV0 6 ∧ aV0.P.halts = false := by
  obtain ⟨h1, h2, h3, h4, h5⟩ := fmt_disk (N := 8) (l := []) (by decide) (by decide) al1
  exact ⟨h1.vok h2 h3 h4 rfl, h5⟩
theorem al_save {e : Int} {V' : VS} (hs : SaveR aV0 6 [(3, abc)] e V') : e = 0 ∧ VOk V' 6 ∧ V'.gen = 2 ∧ V'.recs = [(3, abc)] ∧ V'.live.length = 2 ∧ V'.pages = 8 := by
  obtain ⟨h0, hf⟩ := aV0_ok
  have hn := sv_nohalt h0 hf al2
  rcases save_ways h0 (by decide) hs with ⟨h1, h2, _⟩ | ⟨_, _, h1, _⟩ | ⟨h1, h2, h3, h4, h5, h6, h7, h8, h9, h10⟩
  · rw [al2] at h1; rcases h2 with h2 | h2 | h2 <;> omega
  · rw [hn.1] at h1; cases h1
  · refine ⟨h1, h3, h4, h5, ?_, h7⟩
    rw [← al3]
    exact live_count h3.disk.tree.apart (sv_apart h0 al2) h10 (fun b n hk => sv_known al2 hk)
theorem one_rec {W : World} {q : Nat} {n : Int} {b : ByteArray} {t : TypeId} (h : W.heap[q]? = some (.cells #[.int .i64 n, .string b] t (0, 0))) : Kd.C kR W (some ⟨q, 0, none⟩) [(n, b)].length [(n, b)] :=
  C_block (d := kR) (xs := [(n, b)]) h ((Reps.none _ _).snoc (kR_mk _ (n, b)) rfl) (by show 1 ≤ 9223372036854775807; omega)
theorem format_law {w0 w : World} (hb : Below w0.heap.size w0 w) (N : Nat) (h8 : 8 ≤ N) (h200 : N ≤ 200) (A : Option Addr) (c : Nat) (l : List R2) (h : Kd.C kR w A l.length l) (hc : l.length ≤ c) (hl : l.length ≤ 9000) (hp : (planE l [] (pgs (N - 2))).2.2 = 0) :
    Calls Tryz.prog 12 #[.int .i64 (N : Int), .slice A l.length c] w fun e w' => ∃ g, e = .returned (.tuple #[.pointer (some ⟨g, 0, none⟩), .int .i64 0]) ∧ VP.IsQ w0 w' g (fmtS N l) ∧ Below w.heap.size w w' := by
  refine (format_any w N A c l h hc hl).mono ?_
  rintro e w' ⟨hf, hb2⟩
  rcases hf with ⟨h1, _⟩ | ⟨h1, h2, _⟩ | ⟨h1, h2, g, rfl, hq⟩
  · omega
  · rw [Int.toNat_natCast] at h2; exact absurd hp h2
  · rw [Int.toNat_natCast] at hq
    exact ⟨g, rfl, IsQ_lift hq hb, hb2⟩
theorem IsV.q {w0 w : World} {gv g : Nat} {V : VS} (h : IsV w0 w gv g V) : VP.IsQ w0 w g V.P := h.1
theorem fail_nil {w0 w : World} {g : Nat} {S : VP.PS} (h : VP.IsQ w0 w g S) (hp : VP.pagesOk S) (hl : S.afl.length ≤ 1000) :
    Calls Tryz.prog 21 #[.pointer (some ⟨g, 0, none⟩), .slice none 0 0] w fun e w' => e = .returned (.int .i64 0) ∧ VP.IsQ w0 w' g (VP.faS S []) ∧ VP.Others w w' := by
  have := q_failO h hp hl none 0 [] (fun W' _ => Kd.C_nil _ _)
  rw [VP.failed_nil] at this
  exact this
set_option maxHeartbeats 16000000 in
set_option maxRecDepth 100000 in
theorem alive_any (w : World) : Calls Tryz.prog 11 #[] w fun e w' => e = .returned (.bool true) ∧ Below w.heap.size w w' := by
  have HFM := Aside0.mk (show Calls Tryz.prog 12 #[.int .i64 8, .slice none 0 0] w fun e w' => ∃ g, e = .returned (.tuple #[.pointer (some ⟨g, 0, none⟩), .int .i64 0]) ∧ VP.IsQ w w' g (fmtS 8 []) ∧ Below w.heap.size w w' from format_law (Below.refl _ _) 8 (by decide) (by decide) none 0 [] (Kd.C_nil _ _) (Nat.le_refl _) (by decide) al1)
  obtain ⟨S0, hS0⟩ : ∃ S, S = fmtS 8 [] := ⟨_, rfl⟩
  have hd := fmt_disk (N := 8) (l := []) (by decide) (by decide) al1
  have HOP := Aside0.mk (fun (W : World) (g : Nat) (hq : VP.IsQ w W g (fmtS 8 [])) => open_disk hq hd.1 hd.2.1 hd.2.2.1)
  have hv0 : opV (fmtS 8 []) 8 1 (planE [] [] (pgs (8 - 2))).2.1 [] (planE [] [] (pgs (8 - 2))).1 = aV0 := rfl
  rw [hv0] at HOP
  rw [← hS0] at HFM HOP
  have HGEN := Aside0.mk (fun (W : World) (gv g : Nat) (V : VS) (h : IsV w W gv g V) => gen_any h)
  have HSV := Aside0.mk (fun (W : World) (gv g : Nat) (h : IsV w W gv g aV0) (q : Nat) (hq : W.heap[q]? = some (.cells #[.int .i64 3, .string ⟨#[97, 98, 99]⟩] 50 (0, 0))) => show Calls Tryz.prog 15 #[.pointer (some ⟨gv, 0, none⟩), .slice (some ⟨q, 0, none⟩) 1 1] W fun e w' => ∃ r V', e = .returned (.int .i64 r) ∧ SaveR aV0 6 [(3, abc)] r V' ∧ IsV w w' gv g V' ∧ OthersV W w' from save_any h rfl (aV0_ok.1.can (by decide)) aV0_ok.1.disk.low (some ⟨q, 0, none⟩) 1 [(3, abc)] (one_rec hq) (Nat.le_refl _) (by decide) (fun _ => sv_back aV0_ok.1 al2))
  have HAS := Aside0.mk (@al_save)
  obtain ⟨V0, hV0⟩ : ∃ V, V = aV0 := ⟨_, rfl⟩
  have HG0 := Aside0.mk (show V0.gen = 1 from by rw [hV0]; rfl)
  rw [← hV0] at HOP HSV HAS
  clear hd hv0 hV0 hS0
  go_enter Tryz.func11, Tryz.ntmps11
  go_upto_region 4 with (go_at_call 12; (with_reducible refine (HFM.out).mono ?_); rintro e w1 ⟨g, rfl, hq, hb⟩; have HQ1 := Aside0.mk hq; clear hq hb HFM)
  go_upto_region 5 with (go_at_call 13; (with_reducible refine (HOP.out _ _ HQ1.out).mono ?_); rintro e w2 ⟨gv, rfl, hv, hb⟩; have HV2 := Aside0.mk hv; clear hv hb HQ1 HOP)
  go_upto_region 7 with (first
    | (go_at_call 16; (with_reducible refine (HGEN.out _ _ _ _ HV2.out).mono ?_); rintro e w3 ⟨rfl, hb⟩; rw [HG0.out]; have HV3 := Aside0.mk (HV2.out.below hb); clear hb HV2)
    | (go_at_call 15; (with_reducible refine (HSV.out _ _ _ (HV3.out.below (below_alloc (Below.refl _ _) _)) _ (Cr.alloc_at rfl)).mono ?_); rintro e w4 ⟨r, V1, rfl, hs, hv, ho⟩; obtain ⟨rfl, hok, hg, hrec, hlv, hpg⟩ := HAS.out hs; have HV4 := Aside0.mk hv; have HOK := Aside0.mk hok; have HG1 := Aside0.mk hg; have HRC := Aside0.mk hrec; have HLV := Aside0.mk hlv; have HPG := Aside0.mk hpg; clear hs hv ho hok hg hrec hlv hpg HV3)
    | (go_at_call 16; (with_reducible refine (HGEN.out _ _ _ _ HV4.out).mono ?_); rintro e w5 ⟨rfl, hb⟩; rw [HG1.out]; have HV5 := Aside0.mk (HV4.out.below hb); clear hb HV4))
  have HRL := Aside0.mk (show V1.recs.length ≤ 1000000 from by rw [HRC.out]; decide)
  have HLL := Aside0.mk (show V1.live.length ≤ 1000000 from by rw [HLV.out]; decide)
  have HFL := Aside0.mk (show (freeL 6 V1.live).length = 4 from by
    have h1 := freeL_count (m := 6) (live := V1.live) (fun x hx => by have h2 := HOK.out.disk.low x hx; have h3 := HPG.out; rw [h3] at h2; exact ⟨h2.1, by have := h2.2; show x.1 < 8; omega⟩) HOK.out.disk.tree.apart
    have h2 := HLV.out
    omega)
  have HF := Aside0.mk (fun (W : World) (hq : VP.IsQ w W g V1.P) => fail_nil hq HOK.out.disk.pg (by rw [HOK.out.afl]; decide))
  go_upto_region 8 with (go_at_call 21; (with_reducible refine (HF.out _ HV5.out.q).mono ?_); rintro e w6 ⟨rfl, hq, ho⟩; have HQ6 := Aside0.mk hq; clear hq ho HV5)
  have HO := Aside0.mk (fun (W : World) (hq : VP.IsQ w W g (VP.faS V1.P [])) => open_disk hq (HOK.out.disk.fail []) rfl rfl)
  obtain ⟨V2, hV2⟩ : ∃ V, V = opV (VP.faS V1.P []) V1.pages V1.gen V1.root V1.recs V1.live := ⟨_, rfl⟩
  have r1 : V2.recs = [(3, abc)] := by rw [hV2]; exact HRC.out
  have r2 : V2.live.length = 2 := by rw [hV2]; exact HLV.out
  have r3 : (freeL 6 V2.live).length = 4 := by rw [hV2]; exact HFL.out
  have r4 : V2.pages = 6 + 2 := by rw [hV2]; exact HPG.out
  rw [← hV2] at HO
  have R1 := Aside0.mk r1
  have R2 := Aside0.mk r2
  have R3 := Aside0.mk r3
  have R4 := Aside0.mk r4
  have HRECS := Aside0.mk (fun (W : World) (gw : Nat) (h : IsV w W gw g V2) => records_any h (by rw [R1.out]; decide))
  have HLIVE := Aside0.mk (fun (W : World) (gw : Nat) (h : IsV w W gw g V2) => live_any h (by rw [R2.out]; decide))
  have HFREE := Aside0.mk (fun (W : World) (gw : Nat) (h : IsV w W gw g V2) => vfree_any h R4.out (by decide) (by rw [R2.out]; decide))
  rw [r1] at HRECS
  clear hV2 r1 r2 r3 r4
  go_upto_region 9 with (go_at_call 13; (with_reducible refine (HO.out _ HQ6.out).mono ?_); rintro e w7 ⟨gw, rfl, hv, hb⟩; have HV7 := Aside0.mk hv; clear hv hb HQ6)
  go_wp2_with (first
    | (go_at_call 18; (with_reducible refine (HRECS.out _ _ HV7.out).mono ?_); rintro e w8 ⟨v8, rfl, hr, hb⟩; obtain ⟨A8, c8, ev⟩ := Kd.R_slice hr; subst ev; have HV8 := Aside0.mk (HV7.out.below hb); clear hr hb HV7)
    | (go_at_call 18; (with_reducible refine (HRECS.out _ _ HV8.out).mono ?_); rintro e w9 ⟨v9, rfl, hr, hb⟩; obtain ⟨A9, c9, ev⟩ := Kd.R_slice hr; subst ev; have HV9 := Aside0.mk (HV8.out.below hb); obtain ⟨ad, ea, x0, x1⟩ := at_R (Kd.R_reads' hr).2.2 0 (by decide); subst ea; have x2 : w9.cell? ⟨ad.block, ad.off + 1, none⟩ = some (.string ⟨#[97, 98, 99]⟩) := (by simpa [Addr.add, atR, abc] using x1); clear hr hb HV8)
    | (go_at_call 22; (with_reducible refine (HLIVE.out _ _ HV9.out).mono ?_); rintro e w10 ⟨v10, rfl, hr, hb⟩; obtain ⟨A10, c10, ev⟩ := Kd.R_slice hr; rw [List.length_map, R2.out] at ev; subst ev; have HV10 := Aside0.mk (HV9.out.below hb); clear hr hb HV9 x0 x1 x2)
    | (go_at_call 23; (with_reducible refine (HFREE.out _ _ HV10.out).mono ?_); rintro e w11 ⟨v11, rfl, hr, hb⟩; obtain ⟨A11, c11, ev⟩ := Kd.R_slice hr; rw [R3.out] at ev; subst ev; have HV11 := Aside0.mk (HV10.out.below hb); clear hr hb HV10))
  go_ret
  exact ⟨rfl, HV11.out.1.1⟩
end Go.Proofs.YtdhaoaehboonpaaGreat.V
end
section
namespace Go.Proofs.YtdhaoaehboonpaaGreat.Th
open Go.ChangeShapes Go.WideShapes Go.ChangeAt Go.RowKit Go.Proofs.YtdhaoaehboonpaaGreatW.PrintWords
open Go.Proofs.YtdhaoaehboonpaaGreat.PSm (S50 k50 k50_mk)
set_option linter.unusedVariables false
set_option linter.unusedSimpArgs false
theorem listed {α : Type} {P : Nat → α → Prop} (n : Nat) (h : ∀ i, i < n → ∃ p, P i p) : ∃ l : List α, l.length = n ∧ ∀ i p, l[i]? = some p → P i p := by
  induction n with
  | zero => exact ⟨[], rfl, fun i p hi => by simp at hi⟩
  | succ n ih =>
    obtain ⟨l, hl, hp⟩ := ih (fun i hi => h i (by omega))
    obtain ⟨p, hpn⟩ := h n (by omega)
    refine ⟨l ++ [p], by rw [List.length_append, hl]; rfl, fun i q hq => ?_⟩
    by_cases hi : i < l.length
    · rw [List.getElem?_append_left hi] at hq; exact hp i q hq
    · rw [List.getElem?_append_right (by omega)] at hq
      by_cases h0 : i - l.length = 0
      · rw [h0] at hq
        simp at hq
        subst hq
        have : i = n := by omega
        rw [this]; exact hpn
      · rw [List.getElem?_eq_none (by simp; omega)] at hq; cases hq
section
variable {H : Type} {enc : TypeId × Value → H} {W : World} {base : Nat} {spare : Nat → Bool} {held : Bool}
end
end Go.Proofs.YtdhaoaehboonpaaGreat.Th
end
section
namespace Go.Proofs.YtdhaoaehboonpaaGreat.V
open Go.RowKit Go.Proofs.YtdhaoaehboonpaaGreatW.PrintWords Go.Proofs.YtdhaoaehboonpaaGreatW.PrintLast Go.Proofs.YtdhaoaehboonpaaGreatW.PrintMore
set_option linter.unusedVariables false
set_option linter.unusedSimpArgs false
end Go.Proofs.YtdhaoaehboonpaaGreat.V
end
section
namespace Go.Proofs.YtdhaoaehboonpaaGreat.V
open Go.RowKit Go.Proofs.YtdhaoaehboonpaaGreatW.PrintWords Go.Proofs.YtdhaoaehboonpaaGreatW.PrintLast Go.Proofs.YtdhaoaehboonpaaGreatW.PrintMore Go.Proofs.YtdhaoaehboonpaaGreatM
open Go.Proofs.YtdhaoaehboonpaaGreat.PSm (S50 k50 maquettelaw16_Few.l0 maquettelaw16_Few.f maquettelaw16_Few.calls maquettebook_SameInts.l0 maquettebook_SameInts.f maquettebook_SameInts.calls)
set_option linter.unusedVariables false
set_option linter.unusedSimpArgs false
theorem may_free {m : Nat} (hm : m ≤ 198) {live : List R2} (h : ∀ x ∈ live, 2 ≤ x.1 ∧ x.1 < (m : Int) + 2) : mayE (live.map (·.1)) (freeL m live) = true := by
  have hbad : ∀ x : Int, 2 ≤ x → x < (m : Int) + 2 → badP x = false := fun x a b => by unfold badP; rw [decide_eq_false (by omega), decide_eq_false (by omega)]; rfl
  unfold mayE
  have h1 : frOk (live.map (·.1)) (freeL m live) (freeL m live).length = true := by
    unfold frOk
    rw [List.all_eq_true]
    intro i hi
    rw [List.mem_range] at hi
    have hg : (freeL m live).getD i 0 = (freeL m live)[i] := by rw [List.getD_eq_getElem?_getD, List.getElem?_eq_getElem hi]; rfl
    rw [hg]
    have hx := freeL_mem.1 (List.getElem_mem hi)
    have n1 : ¬ (freeL m live)[i] ∈ live.map (·.1) := fun hm2 => by
      obtain ⟨y, hy, e⟩ := List.mem_map.1 hm2
      exact hx.2 y hy e
    have n2 : ¬ (freeL m live)[i] ∈ (freeL m live).take i := fun hm2 => by
      obtain ⟨j, hj, e⟩ := List.mem_take_iff_getElem.1 hm2
      have hn := freeL_nodup m live
      unfold List.Nodup at hn
      rw [List.pairwise_iff_getElem] at hn
      exact hn j i (by omega) hi (by omega) e
    rw [decide_eq_false n1, decide_eq_false n2]; rfl
  have h2 : ((live.map (·.1)) ++ freeL m live).any badP = false := by
    rw [List.any_eq_false]
    intro x hx
    rw [Bool.not_eq_true]
    rcases List.mem_append.1 hx with hx | hx
    · obtain ⟨y, hy, rfl⟩ := List.mem_map.1 hx
      exact hbad _ (h y hy).1 (h y hy).2
    · have := (freeL_mem.1 hx).1
      exact hbad _ this.1 this.2
  rw [h1, h2]; rfl
end Go.Proofs.YtdhaoaehboonpaaGreat.V
end

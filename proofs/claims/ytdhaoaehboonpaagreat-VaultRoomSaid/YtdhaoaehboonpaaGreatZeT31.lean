/- Of the texts that the row stands on, what it needs (part 31), put together by a program of this session. -/
import Derived.Test.YtdhaoaehboonpaaGreatZeT30
import Derived.Test.YtdhaoaehboonpaaGreatZeT23
import Derived.Test.YtdhaoaehboonpaaGreatZeT26
import Derived.Ground.SlgnProg
import Derived.Shelf.SlicesE.Clone
import Derived.StillTailTactics
section
namespace Go.Proofs.YtdhaoaehboonpaaGreat.V
open Go.RowKit Go.Proofs.YtdhaoaehboonpaaGreatW.PrintWords Go.Proofs.YtdhaoaehboonpaaGreatW.PrintLast Go.Proofs.YtdhaoaehboonpaaGreatW.PrintMore Go.Proofs.YtdhaoaehboonpaaGreatM
set_option linter.unusedVariables false
set_option linter.unusedSimpArgs false
theorem Others_trans {a b c : World} (h : VP.Others a b) (h2 : VP.Others b c) : VP.Others a c := fun k cs t hk h1 h3 h4 => h2 k cs t (h k cs t hk h1 h3 h4) h1 h3 h4
theorem Others_below {a b : World} (h : Below a.heap.size a b) : VP.Others a b := fun k cs t hk _ _ _ => (h.block k (blk_lt hk)).trans hk
section
variable {w0 w w' : World} {g : Nat} {S : VP.PS}
theorem q_settleO (h : VP.IsQ w0 w g S) (hh : S.halted = false) (hw : ∀ p ∈ S.afl, 0 ≤ p.f0 ∧ p.f0 < S.safe.length) (hl : S.afl.length ≤ 1000) :
    Calls Tryz.prog 104 #[.pointer (some ⟨g, 0, none⟩)] w fun e w' => e = .returned (.int .i64 0) ∧ VP.IsQ w0 w' g (VP.seS S) ∧ VP.Others w w' := by
  refine (VP.settle_any h.2.narrow hh hw (Nat.le_trans hl (by decide))).mono ?_
  rintro e w' ⟨rfl, hi, hk, hb⟩
  refine ⟨rfl, ⟨h.1.trans (hb h.1.size), hi.mono (fun k hk => hk.1)⟩, VP.Others.of_kept (F := fun k => w0.heap.size ≤ k ∧ w0.heap.size ≤ k ∧ k < w.heap.size) ⟨hk.1, fun k h1 h2 => hk.2 k h1 (fun h3 => h2 ⟨⟨h3.1, h3.2.1, h3.2.2.1⟩, h3.2.2.2⟩)⟩⟩
theorem q_failO (h : VP.IsQ w0 w g S) (hw : VP.pagesOk S) (hl : S.afl.length ≤ 1000) (C : Option Addr) (cc : Nat) (cl : List Int) (hC : ∀ W', VP.Others w W' → (Kd.int .i64).C W' C cl.length cl) :
    Calls Tryz.prog 21 #[.pointer (some ⟨g, 0, none⟩), .slice C cl.length cc] w fun e w' => e = .returned (.int .i64 (VP.failed S cl S.afl.length).2) ∧ VP.IsQ w0 w' g (VP.faS S cl) ∧ VP.Others w w' := by
  refine (VP.fail_any h.2.narrow hw (Nat.le_trans hl (by decide)) C cc cl (fun W' hk => hC W' (VP.Others.of_kept (F := fun k => w0.heap.size ≤ k ∧ w0.heap.size ≤ k ∧ k < w.heap.size) ⟨hk.1, fun k h1 h2 => hk.2 k h1 (fun h3 => h2 ⟨⟨h3.1, h3.2.1, h3.2.2.1⟩, h3.2.2.2⟩)⟩))).mono ?_
  rintro e w' ⟨rfl, hi, hk, hb⟩
  refine ⟨rfl, ⟨h.1.trans (hb h.1.size), hi.mono (fun k hk => hk.1)⟩, VP.Others.of_kept (F := fun k => w0.heap.size ≤ k ∧ w0.heap.size ≤ k ∧ k < w.heap.size) ⟨hk.1, fun k h1 h2 => hk.2 k h1 (fun h3 => h2 ⟨⟨h3.1, h3.2.1, h3.2.2.1⟩, h3.2.2.2⟩)⟩⟩
end
theorem R_others {α : Type} {d : Kd α} {e base : Nat} {w w1 : World} {ok : Nat → Prop} {v : Value} {xs : List α} (h : d.R e w base ok v xs) (ho : VP.Others w w1) (ht : ∀ q, q ∈ e :: d.E → q ≠ 114 ∧ q ≠ 9 ∧ q ≠ 116) : d.R e w1 base ok v xs :=
  Kd.R_mono (Kd.R_move (Kd.R_bound h) (fun k hk => by
    obtain ⟨_, _, _, q, hq, cells, hc⟩ := hk
    obtain ⟨t1, t2, t3⟩ := ht q hq
    rw [ho k cells q hc t1 t2 t3, hc])) (fun _ hk => hk.1)
theorem T106o : ∀ q, q ∈ 106 :: kR.E → q ≠ 114 ∧ q ≠ 9 ∧ q ≠ 116 := by intro q hq; simp [kR, Kd.pair, Kd.int, Kd.string, Kd.scalar] at hq; omega
theorem T50o : ∀ q, q ∈ 50 :: kR.E → q ≠ 114 ∧ q ≠ 9 ∧ q ≠ 116 := by intro q hq; simp [kR, Kd.pair, Kd.int, Kd.string, Kd.scalar] at hq; omega
def wrE (S : VP.PS) : List R2 → Int
  | [] => 0
  | x :: t => if VP.storeE S x.1 x.2 = 0 then wrE (VP.storeS S x.1 x.2) t else VP.storeE S x.1 x.2
def wrS (S : VP.PS) : List R2 → VP.PS
  | [] => S
  | x :: t => if VP.storeE S x.1 x.2 = 0 then wrS (VP.storeS S x.1 x.2) t else VP.storeS S x.1 x.2
def writeE (S : VP.PS) (l : List R2) (g r p : Int) : Int :=
  if wrE S l = 0 then VP.storeE (VP.seS (wrS S l)) (g % 2) (Cr.encB g r p) else wrE S l
def writeS (S : VP.PS) (l : List R2) (g r p : Int) : VP.PS :=
  if wrE S l = 0 then (if VP.storeE (VP.seS (wrS S l)) (g % 2) (Cr.encB g r p) = 0 then VP.seS (VP.storeS (VP.seS (wrS S l)) (g % 2) (Cr.encB g r p)) else VP.storeS (VP.seS (wrS S l)) (g % 2) (Cr.encB g r p)) else wrS S l
def goodW (N : Nat) (x : R2) : Prop := (0 ≤ x.1 ∧ x.1 < N) ∧ x.2.size = 128
theorem storeS_pages {S : VP.PS} (h : VP.pagesOk S) {n : Int} {b : ByteArray} : VP.pagesOk (VP.storeS S n b) ∧ (VP.storeS S n b).safe = S.safe ∧ (VP.storeS S n b).afl.length ≤ S.afl.length + 1 := by
  unfold VP.storeS
  by_cases h1 : VP.mayE S n = 0
  · rw [if_pos h1]
    obtain ⟨_, m1, m2⟩ := VP.mayE_ok h1
    by_cases h2 : b.size = 128
    · rw [if_pos h2]
      split
      · exact ⟨h, rfl, Nat.le_succ _⟩
      · refine ⟨⟨h.1, fun p hp => ?_⟩, rfl, by simp⟩
        rcases List.mem_append.1 hp with hp | hp
        · exact h.2 p hp
        · rw [List.mem_singleton] at hp; subst hp; exact ⟨⟨m1, m2⟩, h2⟩
    · rw [if_neg h2]; exact ⟨h, rfl, Nat.le_succ _⟩
  · rw [if_neg h1]; exact ⟨h, rfl, Nat.le_succ _⟩
theorem storeE_ok {S : VP.PS} {n : Int} {b : ByteArray} (h : VP.storeE S n b = 0) : S.halted = false ∧ (VP.storeS S n b).halted = false := by
  unfold VP.storeE at h
  by_cases h1 : VP.mayE S n = 0
  · obtain ⟨m0, _, _⟩ := VP.mayE_ok h1
    refine ⟨m0, ?_⟩
    rw [if_pos h1] at h
    unfold VP.storeS
    rw [if_pos h1]
    by_cases h2 : b.size = 128
    · rw [if_pos h2] at h ⊢
      by_cases h3 : S.halts = true ∧ S.after = 0
      · rw [if_pos h3.1, if_pos h3.2] at h; cases h
      · rw [if_neg h3]; exact m0
    · rw [if_neg h2] at h; cases h
  · rw [if_neg h1] at h; exact absurd h h1
theorem seS_pages {S : VP.PS} (h : VP.pagesOk S) : VP.pagesOk (VP.seS S) ∧ (VP.seS S).safe.length = S.safe.length :=
  ⟨⟨VP.foldl_size h.1 (fun p hp => (h.2 p (List.mem_of_mem_take hp)).2), fun p hp => by simp [VP.seS] at hp⟩, VP.settled_length _ _⟩
set_option maxHeartbeats 8000000 in
set_option maxRecDepth 100000 in
theorem vwrite_any {w0 w : World} {g : Nat} {S : VP.PS} (h : VP.IsQ w0 w g S) (hh : S.halted = false) (hp : VP.pagesOk S) (A : Option Addr) (c : Nat) (l : List R2) (hl : S.afl.length + l.length ≤ 900) {b : Nat}
    (hr : kR.R 106 w b (fun _ => True) (.slice A l.length c) l) (hw : ∀ x ∈ l, wfI x.1) (gn rt pg : Int) (hc : Cr.okC gn rt pg = true) :
    Calls Tryz.prog 45 #[.pointer (some ⟨g, 0, none⟩), .slice A l.length c, .agg #[.int .i64 gn, .int .i64 rt, .int .i64 pg]] w fun e w' => e = .returned (.int .i64 (writeE S l gn rt pg)) ∧ VP.IsQ w0 w' g (writeS S l gn rt pg) ∧ VP.Others w w' := by
  obtain ⟨wa, hwa⟩ : ∃ wa, wa = w.alloc (.cells #[.int .i64 gn, .int .i64 rt, .int .i64 pg] 97) := ⟨_, rfl⟩
  have HQ := Aside0.mk (show VP.IsQ w0 wa g S from by rw [hwa]; exact h.alloc _)
  have HX := Aside0.mk (show wa.heap[w.heap.size]? = some (.cells #[.int .i64 gn, .int .i64 rt, .int .i64 pg] 97 (0, 0)) from by rw [hwa]; exact Cr.alloc_at rfl)
  have HR := Aside0.mk (show kR.R 106 wa b (fun _ => True) (.slice A l.length c) l from by rw [hwa]; exact Kd.R_alloc hr _)
  have HO := Aside0.mk (show VP.Others w wa from by rw [hwa]; exact Others_below (below_alloc (Below.refl _ _) _))
  have HPG := Aside0.mk hp
  have HW := Aside0.mk hw
  have HC := Aside0.mk hc
  have HS := Aside0.mk (fun (S' : VP.PS) (W : World) (hq : VP.IsQ w0 W g S') (n : Int) (b : ByteArray) (hn : wfI n) (hl : S'.afl.length ≤ 1000) => VP.q_storeG hq n b hn hl)
  obtain ⟨n, hn⟩ : ∃ n, n = l.length := ⟨_, rfl⟩
  have HN := Aside0.mk hn
  rw [← hn] at HR hl ⊢
  obtain ⟨E0, hE⟩ : ∃ E0, E0 = wrE S l := ⟨_, rfl⟩
  obtain ⟨S0, hS0⟩ : ∃ S0, S0 = wrS S l := ⟨_, rfl⟩
  have HES := Aside0.mk (And.intro hE hS0)
  have hwe : writeE S l gn rt pg = if E0 = 0 then VP.storeE (VP.seS S0) (gn % 2) (Cr.encB gn rt pg) else E0 := by unfold writeE; rw [hE, hS0]
  have hws : writeS S l gn rt pg = if E0 = 0 then (if VP.storeE (VP.seS S0) (gn % 2) (Cr.encB gn rt pg) = 0 then VP.seS (VP.storeS (VP.seS S0) (gn % 2) (Cr.encB gn rt pg)) else VP.storeS (VP.seS S0) (gn % 2) (Cr.encB gn rt pg)) else S0 := by unfold writeS; rw [hE, hS0]
  obtain ⟨E1, hE1⟩ : ∃ E1, E1 = writeE S l gn rt pg := ⟨_, rfl⟩
  obtain ⟨S1, hS1⟩ : ∃ S1, S1 = writeS S l gn rt pg := ⟨_, rfl⟩
  rw [← hE1] at hwe ⊢
  rw [← hS1] at hws ⊢
  have HWE := Aside0.mk hwe
  have HWS := Aside0.mk hws
  have HH := Aside0.mk hh
  clear h hp hr hw hc hn hE hS0 hwe hws hE1 hS1 hh
  obtain ⟨gc, hgc⟩ : ∃ gc, gc = w.heap.size := ⟨_, rfl⟩
  rw [← hgc] at HX
  go_enter Tryz.func45, Tryz.ntmps45
  go_upto_region 2 with (fail)
  rw [← hwa, ← hgc]
  clear hwa hgc
  go_loopg [16] n (fun kq v16 W => ∃ (i : Nat) (Si : VP.PS), v16 = .int .i64 i ∧ Aside0 (i + kq = n) ∧ Aside0 (E0 = wrE Si (l.drop i) ∧ S0 = wrS Si (l.drop i)) ∧ Aside0 (Si.halted = false ∧ VP.pagesOk Si ∧ Si.safe = S.safe ∧ Si.afl.length ≤ S.afl.length + i) ∧ Aside0 (VP.IsQ w0 W g Si) ∧ Aside0 (W.heap[gc]? = some (.cells #[.int .i64 gn, .int .i64 rt, .int .i64 pg] 97 (0, 0))) ∧ Aside0 (kR.R 106 W b (fun _ => True) (.slice A n c) l) ∧ Aside0 (VP.Others w W))
  case atStart => exact ⟨0, S, rfl, ⟨by omega⟩, HES, ⟨HH.out, HPG.out, rfl, Nat.le_refl _⟩, HQ, HX, HR, HO⟩
  case round =>
    clear HQ HX HR HO HES HPG HH
    obtain ⟨i, Si, rfl, HI, HES, HSI, HQ, HX, HR, HO⟩ := hrel
    rename World => W
    cases gk with
    | zero =>
      have hi : i = n := by have := HI.out; omega
      subst hi
      have d1 : decide ((i : Int) < (i : Int)) = false := decide_eq_false (by omega)
      have d2 : decide (i < i) = false := decide_eq_false (by omega)
      have hes := HES.out
      rw [List.drop_of_length_le (by have := HN.out; omega)] at hes
      change E0 = 0 ∧ S0 = Si at hes
      obtain ⟨e1, e2⟩ := hes
      subst e2
      have hwe := HWE.out
      have hws := HWS.out
      rw [if_pos e1] at hwe hws
      obtain ⟨T, hT⟩ : ∃ T, T = VP.seS S0 := ⟨_, rfl⟩
      rw [← hT] at hwe hws
      have hTp := seS_pages HSI.out.2.1
      rw [← hT] at hTp
      have hTh : T.halted = false := by rw [hT]; exact HSI.out.1
      have hTa : T.afl.length = 0 := by rw [hT]; rfl
      have hset := fun (W' : World) (hq : VP.IsQ w0 W' g S0) => q_settleO hq HSI.out.1 (fun p hp => (HSI.out.2.1.2 p hp).1) (by have := HSI.out.2.2.2; omega)
      rw [← hT] at hset
      have HSET := Aside0.mk hset
      have hput := fun (W' : World) => Cr.put_any gn rt pg W'
      rw [Cr.putA_ok HC.out, HC.out] at hput
      obtain ⟨cb, hcb⟩ : ∃ cb, cb = Cr.encB gn rt pg := ⟨_, rfl⟩
      rw [← hcb] at hput hwe hws
      have HPUT := Aside0.mk hput
      have hst := fun (W' : World) (hq : VP.IsQ w0 W' g T) => HS.out T W' hq (gn % 2) cb (Go.WalkArith.wf_i64 (by omega)) (by omega)
      have hpg := storeS_pages hTp.1 (n := gn % 2) (b := cb)
      have hok := @storeE_ok T (gn % 2) cb
      obtain ⟨se, hse⟩ : ∃ se, se = VP.storeE T (gn % 2) cb := ⟨_, rfl⟩
      obtain ⟨sS, hsS⟩ : ∃ sS, sS = VP.storeS T (gn % 2) cb := ⟨_, rfl⟩
      rw [← hse, ← hsS] at hst hok
      rw [← hse] at hwe
      rw [← hse, ← hsS] at hws
      rw [← hsS] at hpg
      have HST := Aside0.mk hst
      have HE1 := Aside0.mk hwe
      have HS1 := Aside0.mk hws
      have HSLOT := Aside0.mk (fun W' => Cr.slot_any gn W')
      have HFIN := Aside0.mk (fun (W' : World) (hq : VP.IsQ w0 W' g sS) (h0 : se = 0) => q_settleO hq (hok h0).2 (fun p hp => (hpg.1.2 p hp).1) (by have := hpg.2.2; omega))
      clear e1 hwe hws hT hTp hTh hTa hset hput hcb hst hpg hok hse hsS HES HS HN HI
      go_wp2_with (fail)
      with_reducible refine (HSET.out _ HQ.out).mono ?_
      rintro e w2 ⟨rfl, hq2, ho2⟩
      have HQ2 := Aside0.mk hq2
      have HX2 := Aside0.mk (ho2 _ _ _ HX.out (by decide) (by decide) (by decide))
      have HO2 := Aside0.mk (Others_trans HO.out ho2)
      clear hq2 ho2 HQ HX HR HO d1 d2
      have y0 := (blk_cell HX2.out 0).trans rfl
      have y1 := (blk_cell HX2.out 1).trans rfl
      have y2 := (blk_cell HX2.out 2).trans rfl
      go_upto_region 12 with (go_at_call 105; (with_reducible refine (HPUT.out _).mono ?_); rintro e w3 ⟨rfl, hb3⟩; have HQ3 := Aside0.mk (HQ2.out.below hb3); have HX3 := Aside0.mk ((hb3.block _ (blk_lt HX2.out)).trans HX2.out); have HO3 := Aside0.mk (Others_trans HO2.out (Others_below hb3)); clear hb3 HQ2 HX2 HO2)
      have x0 := (blk_cell HX3.out 0).trans rfl
      by_cases he : se = 0
      · subst he
        rw [if_pos rfl] at HS1
        have HFIN2 := Aside0.mk (fun (W' : World) (hq : VP.IsQ w0 W' g sS) => HFIN.out W' hq rfl)
        clear HFIN
        go_upto_region 15 with (first | (go_at_call 106; (with_reducible refine (HSLOT.out _).mono ?_); rintro e w4 ⟨rfl, hd⟩; obtain ⟨nd, rfl⟩ := hd) | (go_at_call 28; (with_reducible refine (HST.out _ (HQ3.out.below (pw_below_drewN (Below.refl _ _) _))).mono ?_); rintro e w5 ⟨rfl, hq5, ho5⟩; have HQ5 := Aside0.mk hq5; have HO5 := Aside0.mk (Others_trans (Others_trans HO3.out (Others_below (pw_below_drewN (Below.refl _ _) _))) ho5); clear hq5 ho5 HQ3 HX3 HO3 x0))
        go_wp2_with (fail)
        with_reducible refine (HFIN2.out _ HQ5.out).mono ?_
        rintro e w6 ⟨rfl, hq6, ho6⟩
        have HQ6 := Aside0.mk hq6
        have HO6 := Aside0.mk (Others_trans HO5.out ho6)
        clear hq6 ho6 HQ5 HO5
        go_wp2_with (fail)
        go_ret
        exact ⟨by rw [HE1.out]; rfl, by rw [HS1.out]; exact HQ6.out, HO6.out⟩
      · rw [if_neg he] at HS1
        have q1 : (se != 0) = true := by simpa using he
        clear HFIN he
        go_upto_region 15 with (first | (go_at_call 106; (with_reducible refine (HSLOT.out _).mono ?_); rintro e w4 ⟨rfl, hd⟩; obtain ⟨nd, rfl⟩ := hd) | (go_at_call 28; (with_reducible refine (HST.out _ (HQ3.out.below (pw_below_drewN (Below.refl _ _) _))).mono ?_); rintro e w5 ⟨rfl, hq5, ho5⟩; have HQ5 := Aside0.mk hq5; have HO5 := Aside0.mk (Others_trans (Others_trans HO3.out (Others_below (pw_below_drewN (Below.refl _ _) _))) ho5); clear hq5 ho5 HQ3 HX3 HO3 x0))
        go_wp2_with (fail)
        go_ret
        exact ⟨by rw [HE1.out]; rfl, by rw [HS1.out]; exact HQ5.out, HO5.out⟩
    | succ gk =>
      have hi : i < n := by have := HI.out; omega
      have d1 : decide ((i : Int) < (n : Int)) = true := decide_eq_true (by omega)
      have d2 : decide (i < n) = true := decide_eq_true hi
      have d3 : (i < n) = True := eq_true hi
      have d4 : ((i : Int) < (n : Int)) = True := eq_true (by omega)
      have d5 : (0 ≤ (i : Int)) = True := eq_true (by omega)
      have hil : i < l.length := by have := HN.out; omega
      obtain ⟨ad, rfl, x0, x1⟩ := at_R (Kd.R_reads' HR.out).2.2 i (by omega)
      rw [atR_get hil] at x0 x1
      have hes := HES.out
      rw [List.drop_eq_getElem_cons hil] at hes
      have hwf := HW.out l[i] (List.getElem_mem hil)
      obtain ⟨⟨xn, xb⟩, hx⟩ : ∃ x, x = l[i] := ⟨_, rfl⟩
      rw [← hx] at x0 x1 hes hwf
      have hes : E0 = (if VP.storeE Si xn xb = 0 then wrE (VP.storeS Si xn xb) (l.drop (i + 1)) else VP.storeE Si xn xb) ∧ S0 = (if VP.storeE Si xn xb = 0 then wrS (VP.storeS Si xn xb) (l.drop (i + 1)) else VP.storeS Si xn xb) := hes
      simp only [] at x0 x1
      have hst := fun (W' : World) (hq : VP.IsQ w0 W' g Si) => HS.out Si W' hq xn xb hwf (by have := HSI.out.2.2.2; omega)
      have hpg := storeS_pages HSI.out.2.1 (n := xn) (b := xb)
      have hok := @storeE_ok Si xn xb
      obtain ⟨se, hse⟩ : ∃ se, se = VP.storeE Si xn xb := ⟨_, rfl⟩
      obtain ⟨sS, hsS⟩ : ∃ sS, sS = VP.storeS Si xn xb := ⟨_, rfl⟩
      rw [← hse, ← hsS] at hes hst hok
      rw [← hsS] at hpg
      have HEN := Aside0.mk hes
      have HST := Aside0.mk hst
      have HPN := Aside0.mk hpg
      have HOK := Aside0.mk hok
      clear hes hst hpg hok hwf hx hse hsS hil HES
      go_upto_region 4 with (fail)
      obtain ⟨wb, hwb⟩ : ∃ wb, wb = W.alloc (.cells #[.int .i64 xn, .string xb] 106) := ⟨_, rfl⟩
      have HBA := Aside0.mk (show Below W.heap.size W wb from by rw [hwb]; exact below_alloc (Below.refl W.heap.size W) _)
      have HXB := Aside0.mk (show wb.heap[W.heap.size]? = some (.cells #[.int .i64 xn, .string xb] 106 (0, 0)) from by rw [hwb]; exact Cr.alloc_at rfl)
      rw [← hwb]
      have HQb := Aside0.mk (HQ.out.below HBA.out)
      have HXb := Aside0.mk ((HBA.out.block _ (blk_lt HX.out)).trans HX.out)
      have HRb := Aside0.mk (Kd.R_below HR.out HBA.out)
      have HOb := Aside0.mk (Others_trans HO.out (Others_below HBA.out))
      have z0 := (blk_cell HXB.out 0).trans rfl
      have z1 := (blk_cell HXB.out 1).trans rfl
      clear hwb HBA HQ HX HR HO x0 x1 HXB
      by_cases he : se = 0
      · subst he
        have hnx := HEN.out
        rw [if_pos rfl, if_pos rfl] at hnx
        have HNX := Aside0.mk hnx
        have HOK2 := Aside0.mk (HOK.out rfl).2
        clear hnx HEN HOK
        go_wp2_with (fail)
        with_reducible refine (HST.out _ HQb.out).mono ?_
        rintro e w2 ⟨rfl, hq2, ho2⟩
        have HQ2 := Aside0.mk hq2
        have HX2 := Aside0.mk (ho2 _ _ _ HXb.out (by decide) (by decide) (by decide))
        have HR2 := Aside0.mk (R_others HRb.out ho2 T106o)
        have HO2 := Aside0.mk (Others_trans HOb.out ho2)
        clear hq2 ho2 HQb HXb HRb HOb z0 z1
        go_wp2_with (fail)
        go_roundg gk
        case measure => omega
        case rel => exact ⟨i + 1, sS, by first | rfl | go_num, ⟨by have := HI.out; omega⟩, HNX, ⟨HOK2.out, HPN.out.1, HPN.out.2.1.trans HSI.out.2.2.1, by have h1 := HPN.out.2.2; have h2 := HSI.out.2.2.2; omega⟩, HQ2, HX2, HR2, HO2⟩
      · have hnx := HEN.out
        rw [if_neg he, if_neg he] at hnx
        have q1 : (se != 0) = true := by simpa using he
        have HE1 := Aside0.mk (show E1 = se from by rw [HWE.out, hnx.1, if_neg he])
        have HS1 := Aside0.mk (show S1 = sS from by rw [HWS.out, hnx.1, if_neg he, hnx.2])
        clear hnx he HEN
        go_wp2_with (fail)
        with_reducible refine (HST.out _ HQb.out).mono ?_
        rintro e w2 ⟨rfl, hq2, ho2⟩
        have HQ2 := Aside0.mk hq2
        have HO2 := Aside0.mk (Others_trans HOb.out ho2)
        clear hq2 ho2 HQb HXb HRb HOb z0 z1
        go_wp2_with (fail)
        go_ret
        exact ⟨by rw [HE1.out]; rfl, by rw [HS1.out]; exact HQ2.out, HO2.out⟩
def Full (S : PS) : Prop := ∀ x ∈ S.out, x.2.size = 128
theorem Full.put {S : PS} (h : Full S) {b : ByteArray} {is : Bool} (hb : is = true → b.size = 128) : Full (putS S b is) := by
  by_cases he : S.e = 0
  · cases is with
    | false =>
      have : putS S b false = { S with e := 9 } := by unfold putS; rw [if_pos he]; rfl
      rw [this]; exact h
    | true =>
      cases hk : S.known b with
      | some n => rw [(put_some he hk).1]; exact h
      | none =>
        cases hf : S.free with
        | nil => rw [put_nil he hk hf]; exact h
        | cons n f =>
          rw [(put_cons he hk hf).1]
          intro x hx
          rcases List.mem_append.1 hx with hx | hx
          · exact h x hx
          · rw [List.mem_singleton] at hx
            rw [hx]; exact hb rfl
  · rw [putS_stuck he]; exact h
theorem chA_full {nx : Int} {x : ByteArray} (h : (chA nx x).2 = true) : (chA nx x).1.size = 128 := by
  unfold chA at h ⊢
  split at h
  · rename_i hc
    rw [if_pos hc]
    refine strOf_pad_size ?_
    rw [chL_length]
    unfold chOk at hc
    simp only [Bool.and_eq_true, decide_eq_true_eq] at hc
    omega
  · cases h
theorem fullA_full {l : List Int} (h : (fullA (strOfNums l)).2 = true) : (fullA (strOfNums l)).1.size = 128 := by
  rw [fullA_pad h]
  rw [fullA_two, decide_eq_true_eq, strOfNums_size] at h
  exact strOf_pad_size h
theorem leafE_full {l : List C4} (h : (leafE l).2 = true) : (leafE l).1.size = 128 := by
  unfold leafE lfA at h ⊢
  split at h
  · rename_i h1
    rw [if_pos h1]
    split at h
    · rename_i h2
      rw [if_pos h2]
      exact fullA_full h
    · cases h
  · cases h
theorem indexE_full {l : List S2} (h : (indexE l).2 = true) : (indexE l).1.size = 128 := by
  unfold indexE idxA at h ⊢
  split at h
  · rename_i h1
    rw [if_pos h1]
    split at h
    · rename_i h2
      rw [if_pos h2]
      exact fullA_full h
    · cases h
  · cases h
theorem Full.chain : ∀ (l : List ByteArray) {S : PS}, Full S → Full (chainF l S).2
  | [], _, h => h
  | x :: t, _, h => by rw [chainF_cons]; exact (Full.chain t h).put chA_full
theorem Full.chains : ∀ (l : List R2) {S : PS}, Full S → Full (chainsF l S).2
  | [], _, h => h
  | x :: t, _, h => by
    rw [chainsF_cons]
    split
    · exact Full.chains t (Full.chain _ h)
    · exact Full.chains t h
theorem Full.slots : ∀ (l : List (List C4)) {S : PS}, Full S → Full (slotsF l S).2
  | [], _, h => h
  | x :: t, _, h => by
    rw [slotsF_cons]
    split
    · exact Full.slots t (h.put leafE_full)
    · exact Full.slots t h
theorem plan_full (l hv : List R2) (fr : List Int) : ∀ x ∈ (planE l hv fr).1, x.2.size = 128 := by
  by_cases h : (planE l hv fr).2.2 = 0
  · rw [(planE_ok h).2.2.2.2]
    have h1 : Full (planS l hv fr) := Full.chains l (S := ⟨knF hv, fr, [], 0⟩) (fun x hx => (List.not_mem_nil hx).elim)
    have h2 : Full (planT l hv fr).2 := Full.slots _ h1
    exact h2.put indexE_full
  · rw [(planE_no h).1]
    exact fun x hx => (List.not_mem_nil hx).elim
def ldP (S : VP.PS) : Ld := fun n => VP.loadE S n
set_option maxHeartbeats 8000000 in
set_option maxRecDepth 100000 in
theorem read_any {w : World} {L : Value} {ld : Ld} (HL : LdOk w L ld) (hs : LdSmall ld) (root : Int) (hr : wfI root) :
    Calls Tryz.prog 47 #[.int .i64 root, L] w fun e w' => ReadR w.heap.size (fRead ld root) e w' ∧ Below w.heap.size w w' := by
  have HLD := Aside0.mk HL
  have HSM := Aside0.mk hs
  obtain ⟨fk, bs, cs, hL, _⟩ := HL
  have hP := fun {w' g m v S} (h : IsFind w w' g m L v S) => page_any HLD.out h root hr
  have HP := Aside0.mk (fun (w' : World) (g m : Nat) (v : Value) (S : FS) (h : IsFind w w' g m L v S) => page_any HLD.out h root hr)
  obtain ⟨b, hb⟩ : ∃ b, b = (fPage ld fS0 root).1 := ⟨_, rfl⟩
  obtain ⟨S1, hS1⟩ : ∃ S1, S1 = (fPage ld fS0 root).2 := ⟨_, rfl⟩
  have hO1 := (fPage_ok hs fS0_ok root).1
  have ho1 := fPage_out ld fS0 root
  have hidx : fIdx ld root = if (slotsE b).2 = true then S1 else fForm S1 := by unfold fIdx; rw [← hb, ← hS1]
  have hrd : fRead ld root = fSlots ld (slotsE b).1 (fIdx ld root) := by unfold fRead; rw [← hb]
  have hP0 := Aside0.mk (fun (w' : World) (g m : Nat) (v : Value) (h : IsFind w w' g m L v fS0) => (show Calls Tryz.prog 109 #[.pointer (some ⟨g, 0, none⟩), .int .i64 root] w' fun e w'' => e = .returned (.string b) ∧ IsFind w w'' g m L v S1 ∧ Kq w' w'' g m from by rw [hb, hS1]; exact page_any HLD.out h root hr))
  have hC := fun W => slots_any b W
  have hok := slotsE_ok b
  obtain ⟨sl, hsl⟩ : ∃ sl, sl = (slotsE b).1 := ⟨_, rfl⟩
  obtain ⟨is, his⟩ : ∃ is, is = (slotsE b).2 := ⟨_, rfl⟩
  rw [← hsl, ← his] at hC
  rw [← hsl] at hok hrd
  rw [← his] at hidx
  rw [← hS1] at hO1 ho1
  obtain ⟨S2, hS2⟩ : ∃ S2, S2 = fIdx ld root := ⟨_, rfl⟩
  have hO2 : FOk S2 := by rw [hS2, hidx]; split; exact hO1; exact fForm_ok hO1
  have ho2 : S2.out = [] := by rw [hS2, hidx]; split; exact ho1; exact (fForm_out _).trans ho1
  rw [← hS2] at hidx hrd
  obtain ⟨R, hR⟩ : ∃ R, R = fRead ld root := ⟨_, rfl⟩
  rw [← hR] at hrd ⊢
  have HC := Aside0.mk hC
  have HOK := Aside0.mk hok
  have HPG := Aside0.mk (show PgR root R from by rw [hR]; exact fRead_pg hs root)
  have HID := Aside0.mk hidx
  have HRD := Aside0.mk hrd
  have HO2 := Aside0.mk (And.intro hO2 ho2)
  clear hs hr hP HP hb hS1 hO1 ho1 hidx hrd hC hok hsl his hS2 hO2 ho2 hR
  subst hL
  have hq : ∀ W, (binOp BinOp.eql 87 (Value.func (Fn.func fk) bs cs) Value.nilFunc).run Tryz.prog W = .ok (.bool false) W := fun W => by first | kernel_rfl | rfl
  have hmm := @run_makeMap Tryz.prog
  go_enter Tryz.func47, Tryz.ntmps47
  go_upto_region 4 with (fail)
  clear hmm hq
  have HB0 := Aside0.mk (Below.refl w.heap.size w)
  have HF0 := Aside0.mk (show IsFind w ((w.alloc (Obj.map #[] 0)).alloc (Obj.cells #[Value.func (Fn.func fk) bs cs, Value.map (some w.heap.size), Value.slice none 0 0, Value.int IntKind.i64 0] 176)) (w.heap.size + 1) w.heap.size (.func (.func fk) bs cs) (.slice none 0 0) fS0 from
    ⟨by
      have h1 := (MapKept.heap_alloc (w.alloc (Obj.map #[] 0)) (Obj.cells #[Value.func (Fn.func fk) bs cs, Value.map (some w.heap.size), Value.slice none 0 0, Value.int IntKind.i64 0] 176)).1
      rw [World.size_alloc] at h1
      exact h1, Nat.le_succ _, Nat.le_refl _, (IsMapB.made w).at ((below_alloc (Below.refl _ _) _).block _ (IsMapB.made (eK := Value.int .i64) (eV := Value.string) (wf := wfI) w).lt), Kd.R_nil _ _ _ _ _, below_alloc (below_alloc HB0.out _) _⟩)
  obtain ⟨w1, hw1⟩ : ∃ w1, w1 = ((w.alloc (Obj.map #[] 0)).alloc (Obj.cells #[Value.func (Fn.func fk) bs cs, Value.map (some w.heap.size), Value.slice none 0 0, Value.int IntKind.i64 0] 176)) := ⟨_, rfl⟩
  rw [← hw1] at HF0 ⊢
  obtain ⟨m, hm⟩ : ∃ m, m = w.heap.size := ⟨_, rfl⟩
  obtain ⟨g, hg⟩ : ∃ g, g = w.heap.size + 1 := ⟨_, rfl⟩
  rw [← hg, ← hm] at HF0
  rw [← hg] at ⊢
  clear hw1 hg hm HB0
  go_upto_region 5 with (first
    | (go_at_call 109; (with_reducible refine (hP0.out _ _ _ _ HF0.out).mono ?_); rintro e w2 ⟨rfl, hf1, hk1⟩; have HF1 := Aside0.mk hf1; clear hf1 hk1 HF0)
    | (go_at_call 108; (with_reducible refine (HC.out _).mono ?_); rintro e w3 ⟨u0, rfl, hR3, hb3⟩; have HR3 := Aside0.mk (Kd.R_lower hR3 HF1.out.2.2.2.2.2.size); have HF3 := Aside0.mk (HF1.out.step hb3); clear hR3 hb3 HF1))
  obtain ⟨n, hn⟩ : ∃ n, n = sl.length := ⟨_, rfl⟩
  have HN := Aside0.mk hn
  obtain ⟨A, c, hu0⟩ := Kd.R_slice HR3.out
  rw [← hn] at hu0
  subst hu0
  have hlen := HOK.out.1
  rw [← hn] at hlen
  clear hn hP0 HC
  go_upto_if 29 with (fail)
  go_cut [7] (fun v7 wx => v7 = .pointer (some ⟨g, 0, none⟩) ∧ Aside0 (IsFind w wx g m (.func (.func fk) bs cs) (.slice none 0 0) S2) ∧ Aside0 (kS.R 165 wx w.heap.size (fun _ => True) (.slice A n c) sl))
  case first =>
    have hid := HID.out
    cases is
    case false =>
      rw [if_neg (by decide)] at hid
      subst hid
      go_wp2_with (go_at_call 110; (with_reducible refine (form_any HF3.out).mono ?_); rintro e w4 ⟨rfl, hf3, hk3⟩; have HF4 := Aside0.mk hf3; have HR4 := Aside0.mk ((hk3.kf HF3.out.2.2.2.1).R HF3.out.1 HR3.out T76); clear hf3 hk3)
      go_meet
      exact ⟨rfl, HF4, HR4⟩
    case true =>
      rw [if_pos rfl] at hid
      subst hid
      go_wp2_with (fail)
      go_meet
      exact ⟨rfl, HF3, HR3⟩
  case rest =>
    obtain ⟨rfl, HF4, HR4⟩ := hcut
    clear HF3 HR3 HID
    go_wp2_with (fail)
    go_loopg [34] n (fun kq v34 w' => ∃ (i : Nat) (v' : Value) (S' : FS), v34 = .int .i64 i ∧ Aside0 (i + kq = n) ∧ Aside0 (FOk S') ∧ Aside0 (S'.out.length ≤ 128 * i) ∧ Aside0 (R = fSlots ld (sl.drop i) S') ∧ Aside0 (kS.R 165 w' w.heap.size (fun _ => True) (.slice A n c) sl) ∧ Aside0 (IsFind w w' g m (.func (.func fk) bs cs) v' S'))
    case atStart => exact ⟨0, _, _, rfl, ⟨by omega⟩, ⟨HO2.out.1⟩, ⟨by rw [HO2.out.2]; exact Nat.zero_le _⟩, HRD, HR4, HF4⟩
    case round =>
      clear HRD HR4 HF4 HO2
      obtain ⟨i, v', S', rfl, HI, HO, HL, HRR, HR4, HF4⟩ := hrel
      cases gk with
      | succ gk =>
        have hi : i < n := by have := HI.out; omega
        have d1 : decide ((i : Int) < (n : Int)) = true := decide_eq_true (by omega)
        have d2 : decide (i < n) = true := decide_eq_true hi
        have d3 : (i < n) = True := eq_true hi
        have d4 : ((i : Int) < (n : Int)) = True := eq_true (by omega)
        have d5 : (0 ≤ (i : Int)) = True := eq_true (by omega)
        have hil : i < sl.length := by have := HN.out; omega
        have hdr : sl.drop i = atS sl i :: sl.drop (i + 1) := by
          rw [List.drop_eq_getElem_cons hil]
          congr 1
          unfold atS
          rw [List.getD_eq_getElem?_getD, List.getElem?_eq_getElem hil]; rfl
        obtain ⟨ad, ea, x0, x1⟩ := at_S (Kd.R_reads' HR4.out).2.2 i (by have := (Kd.R_reads' HR4.out).1; omega)
        have hgood := HOK.out.2 (atS sl i) (by
          unfold atS
          rw [List.getD_eq_getElem?_getD, List.getElem?_eq_getElem hil]
          exact List.getElem_mem hil)
        have hR := HRR.out
        rw [hdr] at hR
        obtain ⟨⟨kk, pp⟩, hx⟩ : ∃ x, x = atS sl i := ⟨_, rfl⟩
        rw [← hx] at x0 x1 hgood hR
        have HG := Aside0.mk hgood
        have HR1 := Aside0.mk hR
        subst ea
        clear hgood hR hx hdr hil HRR
        simp only [] at x0 x1
        go_upto_region 10 with (fail)
        obtain ⟨w4, hw4⟩ : ∃ w4, w4 = wr.alloc (.cells #[.int .i64 kk, .int .i64 pp] 165) := ⟨_, rfl⟩
        have HBA := Aside0.mk (below_alloc (Below.refl wr.heap.size wr) (.cells #[.int .i64 kk, .int .i64 pp] 165))
        rw [← hw4] at HBA ⊢
        have HX4 := Aside0.mk (show w4.heap[wr.heap.size]? = some (.cells #[.int .i64 kk, .int .i64 pp] 165 (0, 0)) from by rw [hw4]; exact (MapKept.heap_alloc wr _).1)
        have HF5 := Aside0.mk (HF4.out.step HBA.out)
        have HR5 := Aside0.mk (Kd.R_below HR4.out HBA.out)
        obtain ⟨q, hq⟩ : ∃ q, q = wr.heap.size := ⟨_, rfl⟩
        rw [← hq] at HX4 ⊢
        clear hw4 x0 x1 HF4 HR4 hq HBA
        have y0 : w4.cell? ⟨q, 0, none⟩ = some (.int .i64 kk) := (blk_cell HX4.out 0).trans rfl
        have y1 : w4.cell? ⟨q, 1, none⟩ = some (.int .i64 pp) := (blk_cell HX4.out 1).trans rfl
        obtain ⟨c0, c1, c2, c3⟩ := cell104 HF5.out.1
        have hR1 := HR1.out
        by_cases he : S'.e = 0
        · have e1 : (S'.e == 0) = true := by simpa using he
          rw [show fSlots ld ((kk, pp) :: sl.drop (i + 1)) S' = fSlots ld (sl.drop (i + 1)) (fLeaf ld S' (kk, pp)) from by show fSlots ld _ (if S'.e = 0 then _ else _) = _; rw [if_pos he]] at hR1
          have HR2 := Aside0.mk hR1
          have hl6 : S'.out.length ≤ 100000 := by have := HL.out; omega
          have HLF := Aside0.mk (fleaf_any HLD.out HSM.out HF5.out HO.out hl6 kk pp HG.out)
          have HO6 := Aside0.mk (And.intro (fLeaf_ok HSM.out HO.out (kk, pp)) (show (fLeaf ld S' (kk, pp)).out.length ≤ 128 * (i + 1) from by have h1 := fLeaf_len ld S' (kk, pp); have h2 := HL.out; omega))
          clear he hR1 HR1 hl6
          go_wp2_with (fail)
          with_reducible refine (HLF.out).mono ?_
          rintro e w6 ⟨rfl, ⟨v6, hf6⟩, hk6⟩
          have HF6 := Aside0.mk hf6
          have HR6 := Aside0.mk (hk6.R HF5.out.1 HR5.out T76)
          clear hf6 hk6
          go_wp2_with (fail)
          go_roundg gk
          case measure => omega
          case rel => exact ⟨i + 1, _, _, by first | rfl | go_num, ⟨by have := HI.out; omega⟩, ⟨HO6.out.1⟩, ⟨HO6.out.2⟩, HR2, HR6, HF6⟩
        · have e1 : (S'.e == 0) = false := by simpa using he
          rw [show fSlots ld ((kk, pp) :: sl.drop (i + 1)) S' = fSlots ld (sl.drop (i + 1)) S' from by show fSlots ld _ (if S'.e = 0 then _ else _) = _; rw [if_neg he]] at hR1
          have HR2 := Aside0.mk hR1
          clear he hR1 HR1
          go_wp2_with (fail)
          go_roundg gk
          case measure => omega
          case rel => exact ⟨i + 1, _, _, by first | rfl | go_num, ⟨by have := HI.out; omega⟩, HO, ⟨by have := HL.out; omega⟩, HR2, HR5, HF5⟩
      | zero =>
        have hi : i = n := by have := HI.out; omega
        subst hi
        have d1 : decide ((i : Int) < (i : Int)) = false := decide_eq_false (by omega)
        have d2 : decide (i < i) = false := decide_eq_false (by omega)
        have hR := HRR.out
        rw [List.drop_of_length_le (by have := HN.out; omega)] at hR
        change R = S' at hR
        subst hR
        clear HRR HL HI HR4
        go_upto_region 13 with (fail)
        obtain ⟨k1, k2, k3, k4, k5, k6⟩ := HF4.out
        have K1 := Aside0.mk k1
        have K4 := Aside0.mk k4
        have K5 := Aside0.mk k5
        have K6 := Aside0.mk k6
        have K23 := Aside0.mk (And.intro k2 k3)
        obtain ⟨c0, c1, c2, c3⟩ := cell104 k1
        clear k1 k2 k3 k4 k5 k6 d1 d2
        by_cases he : R.e = 0
        · have e1 : (R.e != 0) = false := by simpa using he
          have HE := Aside0.mk he
          clear he
          go_wp2_with (at_range; go_must (refine wpList_range_b keysI rfl (.tmp 59) 111 rfl 9 Tryz.underlying111 rfl K4.out ?_); intro w5 cnt hrg hg5 hs5; have HRG := Aside0.mk hrg; have H5 := Aside0.mk hg5; have HS5 := Aside0.mk hs5; clear hrg hg5 hs5)
          go_frame
          obtain ⟨r, hr⟩ : ∃ r, r = wr.heap.size := ⟨_, rfl⟩
          rw [← hr] at HRG ⊢
          have G5 := Aside0.mk ((H5.out.block g (blk_lt K1.out) (by simp)).trans K1.out)
          have Q5 := Aside0.mk (Kd.R_grown K5.out H5.out (fun k _ => by simp))
          have B5 := Aside0.mk (pw_below_grown K6.out _ K6.out.size H5.out (by rintro k e; cases e))
          have HWR := Aside0.mk (show w.heap.size ≤ r from by rw [hr]; exact K6.out.size)
          clear hr HF4 K1 K5 K6 c0 c1 c2 c3 H5 HS5 e1
          go_loopg [12, 13, 14] cnt (fun kq v12 v13 v14 w' => ∃ (left : Int → Prop) (cn : Nat) (ys : List R2), Aside0 (cn ≤ kq) ∧ Aside0 (RngB (Value.int .i64) Value.string wfI w' m r R.pages left cn) ∧ Aside0 (kR.R 106 w' w.heap.size (fun _ => True) v12 ys) ∧ Aside0 (ys = [] → v12 = .slice none 0 0) ∧ Aside0 (ys.Pairwise fun p q => p.1 ≠ q.1) ∧ Aside0 (∀ a b, (a, b) ∈ ys ↔ (R.pages a = some b ∧ ¬ left a)) ∧ Aside0 (w'.heap[g]? = some (.cells #[Value.func (Fn.func fk) bs cs, .map (some m), v', .int .i64 R.e] 176 (0, 0))) ∧ Aside0 (kR.R 50 w' w.heap.size (fun _ => True) v' R.out) ∧ Aside0 (Below w.heap.size w w'))
          case atStart => exact ⟨_, _, [], ⟨Nat.le_refl _⟩, HRG, ⟨Kd.R_nil _ _ _ _ _⟩, ⟨fun _ => rfl⟩, ⟨List.Pairwise.nil⟩, ⟨fun a b => ⟨fun h => (List.not_mem_nil h).elim, fun h => absurd (by rw [h.1]; exact Option.some_ne_none _) h.2⟩⟩, G5, Q5, B5⟩
          case round =>
            clear HRG G5 Q5 B5 K4
            obtain ⟨left, cn, ys, HCN, HRG, HY, HNIL, HPW, HME, G5, Q5, B5⟩ := hrel
            go_wp2_with (at_next; refine wpList_next_b keysI rfl (.tmp 60) rfl rfl HRG.out ?_ ?_)
            case refine_1 =>
              intro _ hl
              have hl2 : ys.length ≤ 1000000 := by
                have := few_pages HPG.out HPW.out (fun x hx => ((HME.out x.1 x.2).1 hx).1)
                omega
              have HSW := Aside0.mk (sort_writes HY.out HNIL.out hl2)
              have HNL := Aside0.mk hl
              clear hl hl2
              go_wp2_with (fail)
              with_reducible refine (HSW.out).mono ?_
              rintro e w6 ⟨rfl, ys2, hp2, hs2, hR6, hg6⟩
              have HP2 := Aside0.mk hp2
              have HS2 := Aside0.mk hs2
              have HR6 := Aside0.mk hR6
              have HG6 := Aside0.mk hg6
              have K6 := Aside0.mk ((hg6.block g (blk_lt G5.out) (Kd.R_ne HY.out G5.out (by decide))).trans G5.out)
              have c2 := (cell104 K6.out).2.2.1
              clear hp2 hs2 hR6 hg6
              go_wp2_with (fail)
              go_ret3
              refine ⟨⟨v', u12, ys2, by rw [HE.out]; rfl, by rw [if_pos HE.out]; exact Kd.R_over Q5.out HY.out (by intro q hq; simp [kR, Kd.pair, Kd.int, Kd.string, Kd.scalar] at hq; omega) HG6.out, HR6.out, fun _ => ⟨?_, fun a b => ?_⟩, fun h => absurd HE.out h⟩, pw_below_grown B5.out _ B5.out.size HG6.out (fun k hk => Kd.R_base HY.out k hk)⟩
              · have h1 : ys2.Pairwise fun p q => p.1 ≠ q.1 := (HP2.out.pairwise_iff (fun h e => h e.symm)).2 HPW.out
                exact (h1.and HS2.out).imp (fun h => by have := h.1; have := h.2; omega)
              · rw [HP2.out.mem_iff, HME.out]
                exact ⟨fun h => h.1, fun h => ⟨h, HNL.out a⟩⟩
            case refine_2 =>
              intro n2 s2 w2 cnt2 hln hpg2 hrg2 hlt2 hg2 hs2 hen
              clear hs2
              have HLN := Aside0.mk hln
              have HPG2 := Aside0.mk hpg2
              have HRG2 := Aside0.mk hrg2
              have HLT := Aside0.mk hlt2
              have G2 := Aside0.mk ((hg2.block g (blk_lt G5.out) (iter_ne HRG.out G5.out)).trans G5.out)
              have Q2 := Aside0.mk (R_iter Q5.out HRG.out hg2)
              have HY2 := Aside0.mk (R_iter HY.out HRG.out hg2)
              have B2 := Aside0.mk (pw_below_grown B5.out _ B5.out.size hg2 (by rintro k e; injection e with e; rw [← e]; exact HWR.out))
              have hl2 : ys.length ≤ 201 := few_pages HPG.out HPW.out (fun x hx => ((HME.out x.1 x.2).1 hx).1)
              clear hln hpg2 hrg2 hlt2 hg2 HRG HY Q5 G5 B5
              cases gk with
              | zero => have := HLT.out; have := HCN.out; omega
              | succ gk =>
                go_wp2_with (first | ((with_reducible refine gate_builtin (b := .append) (xs := #[.tmp 66, .tmp 70]) rfl ?_); at_builtin; go_must (refine Kd.R_append kR w.heap.size rfl (.tmp 66) (.tmp 70) 91 106 (.agg #[(.int .i64 0), (.string ⟨#[]⟩)]) 24 rfl Tryz.underlying91 info106 rfl (by decide) (by omega) u12 ys (n2, s2) [.int .i64 n2, .string s2] (fun _ => True) (fun _ => False) rfl rfl (kR_mkM _ _ _ (n2, s2)) (fun _ hk => hk.elim) (fun _ _ => trivial) HY2.out B2.out B2.out.size (by omega) ?_); intro v3 w3 ho_ hb_ hg_ hat_; have R3 := Aside0.mk ho_; have B3 := Aside0.mk hb_; have G3 := Aside0.mk hg_; clear ho_ hb_ hg_ hat_))
                go_roundg gk
                case measure => omega
                case rel =>
                  obtain ⟨i1, i2⟩ := iter_ne_row HY2.out HRG2.out
                  refine ⟨_, cnt2, ys ++ [(n2, s2)], ⟨by have := HLT.out; have := HCN.out; omega⟩, ⟨HRG2.out.kept G3.out i2 i1⟩, R3, ⟨fun h => absurd h (by simp)⟩, ⟨?_⟩, ⟨fun a b => ?_⟩, ⟨(G3.out.block g (blk_lt G2.out) (Kd.R_ne HY2.out G2.out (by decide))).trans G2.out⟩, ⟨Kd.R_over Q2.out HY2.out (by intro q hq; simp [kR, Kd.pair, Kd.int, Kd.string, Kd.scalar] at hq; omega) G3.out⟩, B3⟩
                  · rw [List.pairwise_append]
                    refine ⟨HPW.out, List.pairwise_singleton _ _, fun x hx y hy => ?_⟩
                    rw [List.mem_singleton] at hy
                    subst hy
                    intro e
                    have := ((HME.out x.1 x.2).1 hx).2
                    rw [e] at this
                    exact this HLN.out
                  · rw [List.mem_append, List.mem_singleton, HME.out]
                    constructor
                    · rintro (⟨h1, h2⟩ | h)
                      · exact ⟨h1, fun h => h2 h.1⟩
                      · injection h with h1 h2
                        subst h1 h2
                        exact ⟨HPG2.out, fun h => h.2 rfl⟩
                    · rintro ⟨h1, h2⟩
                      by_cases e : a = n2
                      · subst e
                        refine .inr ?_
                        have := HPG2.out
                        rw [h1] at this
                        injection this with this
                        rw [this]
                      · exact .inl ⟨h1, fun h => h2 ⟨h, e⟩⟩
        · have e1 : (R.e != 0) = true := by simpa using he
          have HE := Aside0.mk he
          clear he
          go_wp2_with (fail)
          go_quiet (fail)
          all_goals
            go_wp2
            go_ret3
            exact ⟨⟨_, _, [], rfl, by rw [if_neg HE.out]; exact Kd.R_nil _ _ _ _ _, Kd.R_nil _ _ _ _ _, fun h => absurd h HE.out, fun _ => rfl⟩, by repeat (first | (with_reducible first | exact K6.out | apply below_alloc | apply pw_below_drewN | apply below_drew1) | exact K6.out)⟩
theorem ldOk_plat {w0 W : World} {g : Nat} {S : VP.PS} (h : VP.IsQ w0 W g S) : LdOk W (.func (.func 39) #[.pointer (some ⟨g, 0, none⟩)] #[]) (ldP S) :=
  ⟨39, _, _, rfl, enters_of Tryz.func39 (by kernel_rfl) rfl, fun W' n hn hb => VP.load_any (h.below hb).2 n hn⟩
def pkS (S : VP.PS) : Int × Int × Int × Int × Bool := Cr.pickA (VP.loadE S 0).1 (VP.loadE S 1).1
def opE (S : VP.PS) : Int :=
  if (VP.loadE S 0).2 = 0 then (if (VP.loadE S 1).2 = 0 then (if (pkS S).2.2.2.2 = true ∧ (pkS S).2.2.1 = (S.safe.length : Int) then (fRead (ldP S) (pkS S).2.1).e else 5) else (VP.loadE S 1).2) else (VP.loadE S 0).2
theorem pk_root (a b : ByteArray) : wfI (Cr.pickA a b).2.1 := by
  unfold Cr.pickA
  split
  · rename_i h
    obtain ⟨_, _, h1, h2, h3, h4⟩ := Cr.okC_iff.1 (Cr.isC_enc h.1).1
    exact wfI_small (by show -9223372036854775808 ≤ Cr.gR a; omega) (by show Cr.gR a ≤ 9223372036854775807; omega)
  · split
    · rename_i h
      obtain ⟨_, _, h1, h2, h3, h4⟩ := Cr.okC_iff.1 (Cr.isC_enc h).1
      exact wfI_small (by show -9223372036854775808 ≤ Cr.gR b; omega) (by show Cr.gR b ≤ 9223372036854775807; omega)
    · exact wfI_small (by decide) (by decide)
def OpenR (w : World) (g : Nat) (S : VP.PS) (e : Ending) (w' : World) : Prop :=
  (opE S ≠ 0 ∧ e = .returned (.tuple #[.pointer none, .int .i64 (opE S)])) ∨
  (opE S = 0 ∧ ∃ gv lv vv ys, e = .returned (.tuple #[.pointer (some ⟨gv, 0, none⟩), .int .i64 0]) ∧
    w'.heap[gv]? = some (.cells #[.pointer (some ⟨g, 0, none⟩), .int .i64 (pkS S).1, .int .i64 (pkS S).2.1, .int .i64 (pkS S).2.2.1, lv, vv, .bool false] 103 (0, 0)) ∧ w.heap.size ≤ gv ∧
    kR.R 50 w' w.heap.size (fun _ => True) lv (fRead (ldP S) (pkS S).2.1).out ∧ kR.R 106 w' w.heap.size (fun _ => True) vv ys ∧ PagesOf (fRead (ldP S) (pkS S).2.1) ys)
set_option maxHeartbeats 8000000 in
set_option maxRecDepth 100000 in
theorem open_any {w0 w : World} {g : Nat} {S : VP.PS} (h : VP.IsQ w0 w g S) (hs : LdSmall (ldP S)) :
    Calls Tryz.prog 13 #[.pointer (some ⟨g, 0, none⟩)] w fun e w' => OpenR w g S e w' ∧ Below w.heap.size w w' := by
  have HQ := Aside0.mk h
  have HB := Aside0.mk (Below.refl w.heap.size w)
  have HL0 := Aside0.mk (fun (W : World) (hb : Below w.heap.size w W) => VP.load_any (h.below hb).2 0 (by decide))
  have HL1 := Aside0.mk (fun (W : World) (hb : Below w.heap.size w W) => VP.load_any (h.below hb).2 1 (by decide))
  have hop : opE S = if (VP.loadE S 0).2 = 0 then (if (VP.loadE S 1).2 = 0 then (if (pkS S).2.2.2.2 = true ∧ (pkS S).2.2.1 = (S.safe.length : Int) then (fRead (ldP S) (pkS S).2.1).e else 5) else (VP.loadE S 1).2) else (VP.loadE S 0).2 := rfl
  have hpk : pkS S = Cr.pickA (VP.loadE S 0).1 (VP.loadE S 1).1 := rfl
  have hwr := pk_root (VP.loadE S 0).1 (VP.loadE S 1).1
  rw [← hpk] at hwr
  have HPK := Aside0.mk (fun (W : World) => Cr.pick_any (VP.loadE S 0).1 (VP.loadE S 1).1 W)
  rw [← hpk] at HPK
  have HPG := Aside0.mk (fun (W : World) (hb : Below w.heap.size w W) => VP.pages_any (h.below hb).2)
  have HRD := Aside0.mk (fun (W : World) (hb : Below w.heap.size w W) => read_any (ldOk_plat (h.below hb)) hs (pkS S).2.1 hwr)
  obtain ⟨⟨a1, a2⟩, ha⟩ : ∃ a, a = VP.loadE S 0 := ⟨_, rfl⟩
  obtain ⟨⟨b1, b2⟩, hb⟩ : ∃ a, a = VP.loadE S 1 := ⟨_, rfl⟩
  rw [← ha, ← hb] at hop HPK
  rw [← ha] at HL0
  rw [← hb] at HL1
  obtain ⟨N, hN⟩ : ∃ N, N = S.safe.length := ⟨_, rfl⟩
  rw [← hN] at hop HPG
  have hOR : ∀ e w', OpenR w g S e w' ↔ ((opE S ≠ 0 ∧ e = .returned (.tuple #[.pointer none, .int .i64 (opE S)])) ∨
  (opE S = 0 ∧ ∃ gv lv vv ys, e = .returned (.tuple #[.pointer (some ⟨gv, 0, none⟩), .int .i64 0]) ∧
    w'.heap[gv]? = some (.cells #[.pointer (some ⟨g, 0, none⟩), .int .i64 (pkS S).1, .int .i64 (pkS S).2.1, .int .i64 (pkS S).2.2.1, lv, vv, .bool false] 103 (0, 0)) ∧ w.heap.size ≤ gv ∧
    kR.R 50 w' w.heap.size (fun _ => True) lv (fRead (ldP S) (pkS S).2.1).out ∧ kR.R 106 w' w.heap.size (fun _ => True) vv ys ∧ PagesOf (fRead (ldP S) (pkS S).2.1) ys)) := fun e w' => Iff.rfl
  obtain ⟨OR, hORd⟩ : ∃ OR, OR = OpenR w g S := ⟨_, rfl⟩
  rw [← hORd] at hOR ⊢
  obtain ⟨E, hE⟩ : ∃ E, E = opE S := ⟨_, rfl⟩
  obtain ⟨⟨p1, p2, p3, p4, p5⟩, hp⟩ : ∃ p, p = pkS S := ⟨_, rfl⟩
  rw [← hE] at hop hOR
  rw [← hp] at hop hOR HPK HRD
  obtain ⟨R, hR⟩ : ∃ R, R = fRead (ldP S) p2 := ⟨_, rfl⟩
  simp only [] at hop hOR HPK HRD HL0 HL1
  rw [← hR] at hop hOR HRD
  have HOP := Aside0.mk hop
  have HOR := Aside0.mk hOR
  clear h hs hop hpk hwr ha hb hN hORd hE hp hR hOR
  go_enter Tryz.func13, Tryz.ntmps13
  by_cases ha : a2 = 0
  · subst ha
    have h1 := HOP.out
    rw [if_pos rfl] at h1
    have HOP1 := Aside0.mk h1
    clear h1 HOP
    go_upto_region 6 with (go_at_call 39; (with_reducible refine (HL0.out _ HB.out).mono ?_); rintro e w1 ⟨rfl, hb⟩; have HB1 := Aside0.mk (below_step HB.out hb); clear hb HB)
    by_cases hb : b2 = 0
    · subst hb
      have h1 := HOP1.out
      rw [if_pos rfl] at h1
      have HOP2 := Aside0.mk h1
      clear h1 HOP1
      go_upto_region 9 with (go_at_call 39; (with_reducible refine (HL1.out _ HB1.out).mono ?_); rintro e w2 ⟨rfl, hb⟩; have HB2 := Aside0.mk (below_step HB1.out hb); clear hb HB1)
      go_upto_region 10 with (go_at_call 46; (with_reducible refine (HPK.out _).mono ?_); rintro e w3 ⟨rfl, hb⟩; have HB3 := Aside0.mk (below_step HB2.out hb); clear hb HB2)
      obtain ⟨wA, hwA⟩ : ∃ wA, wA = w3.alloc (.cells #[.int .i64 p1, .int .i64 p2, .int .i64 p3] 97) := ⟨_, rfl⟩
      have HX := Aside0.mk (show wA.heap[w3.heap.size]? = some (.cells #[.int .i64 p1, .int .i64 p2, .int .i64 p3] 97 (0, 0)) from by rw [hwA]; exact Cr.alloc_at rfl)
      have HBA := Aside0.mk (show Below w.heap.size w wA from by rw [hwA]; exact below_alloc HB3.out _)
      rw [← hwA]
      obtain ⟨gc, hgc⟩ : ∃ gc, gc = w3.heap.size := ⟨_, rfl⟩
      rw [← hgc] at HX ⊢
      clear hwA hgc HB3
      cases p5 with
      | false =>
        have HE := Aside0.mk (show E = 5 from by rw [HOP2.out, if_neg (by rintro ⟨h, _⟩; cases h)])
        clear HOP2
        go_quiet (fail)
        go_wp2
        go_ret2
        exact ⟨(HOR.out _ _).2 (.inl ⟨by rw [HE.out]; decide, by rw [HE.out]; rfl⟩), by repeat (first | (with_reducible first | exact HBA.out | apply below_alloc | apply pw_below_drewN | apply below_drew1) | exact HBA.out)⟩
      | true =>
        have y2 := (blk_cell HX.out 2).trans rfl
        have step : ∀ (P : Prop), P → P := fun _ h => h
        by_cases hN : p3 = (N : Int)
        · have h1 := HOP2.out
          rw [if_pos ⟨rfl, hN⟩] at h1
          have HOP3 := Aside0.mk h1
          subst hN
          have q1 : ((N : Int) != (N : Int)) = false := by simp
          clear h1 HOP2 step
          go_region_held3 (fun W' => W'.cell? ⟨gc, 2, none⟩ = some (.int .i64 (N : Int))) (go_keep) (first
            | (go_at_call 26; go_must (with_reducible refine (HPG.out _ (by repeat (first | (with_reducible first | exact HBA.out | apply below_alloc | apply pw_below_drewN | apply below_drew1) | exact HBA.out))).mono ?_); rintro e w4 ⟨rfl, hb⟩; have n0_ := Aside0.mk (below_step (by repeat (first | (with_reducible first | exact HBA.out | apply below_alloc | apply pw_below_drewN | apply below_drew1) | exact HBA.out)) hb); have n1_ := Aside0.mk ((hb.block _ (blk_lt HX.out)).trans HX.out); clear hb HBA HX; have HBA := n0_; have HX := n1_; clear n0_ n1_; have z2 := (blk_cell HX.out 2).trans rfl))
          have z1 := (blk_cell HX.out 1).trans rfl
          go_upto_region 13 with (go_at_call 47; (with_reducible refine (HRD.out _ HBA.out).mono ?_); rintro e w5 ⟨⟨v, u, ys, rfl, hv, hu, hpo, _⟩, hb⟩; have HB5 := Aside0.mk (below_step HBA.out hb); have HX5 := Aside0.mk ((hb.block _ (blk_lt HX.out)).trans HX.out); have HV := Aside0.mk (Kd.R_lower hv HBA.out.size); have HU := Aside0.mk (Kd.R_lower hu HBA.out.size); have HPO := Aside0.mk hpo; clear hb hv hu hpo HBA HX)
          clear z1
          obtain ⟨x0, x1, x2, _, _, _⟩ := Cr.cell3 HX5.out
          by_cases he : R.e = 0
          · have q2 : (R.e != 0) = false := by simpa using he
            have HE := Aside0.mk (show E = 0 from by rw [HOP3.out, he])
            have hv := HV.out
            rw [if_pos he] at hv
            have HV2 := Aside0.mk hv
            have HPO2 := Aside0.mk (HPO.out he)
            obtain ⟨A1, c1, e1⟩ := Kd.R_slice HV2.out
            obtain ⟨A2, c2, e2⟩ := Kd.R_slice HU.out
            subst e1 e2
            clear hv he HV HPO HOP3
            go_wp2
            go_ret2
            refine ⟨(HOR.out _ _).2 (.inr ⟨HE.out, w5.heap.size, _, _, ys, rfl, Cr.alloc_at rfl, HB5.out.size, Kd.R_alloc HV2.out _, Kd.R_alloc HU.out _, HPO2.out⟩), below_alloc HB5.out _⟩
          · have q2 : (R.e != 0) = true := by simpa using he
            have HE := Aside0.mk HOP3.out
            have HNE := Aside0.mk he
            clear he HOP3
            go_wp2
            go_ret2
            exact ⟨(HOR.out _ _).2 (.inl ⟨by rw [HE.out]; exact HNE.out, by rw [HE.out]; rfl⟩), HB5.out⟩
        · have HE := Aside0.mk (show E = 5 from by rw [HOP2.out, if_neg (fun h => hN h.2)])
          have q1 : (p3 != (N : Int)) = true := by simpa using hN
          clear HOP2 step hN
          go_region_held3 (fun W' => W'.cell? ⟨gc, 2, none⟩ = some (.int .i64 p3)) (go_keep) (first
            | (go_at_call 26; go_must (with_reducible refine (HPG.out _ (by repeat (first | (with_reducible first | exact HBA.out | apply below_alloc | apply pw_below_drewN | apply below_drew1) | exact HBA.out))).mono ?_); rintro e w4 ⟨rfl, hb⟩; have n0_ := Aside0.mk (below_step (by repeat (first | (with_reducible first | exact HBA.out | apply below_alloc | apply pw_below_drewN | apply below_drew1) | exact HBA.out)) hb); have n1_ := Aside0.mk ((hb.block _ (blk_lt HX.out)).trans HX.out); clear hb HBA HX; have HBA := n0_; have HX := n1_; clear n0_ n1_; have z2 := (blk_cell HX.out 2).trans rfl))
          all_goals
            go_wp2
            go_ret2
            exact ⟨(HOR.out _ _).2 (.inl ⟨by rw [HE.out]; decide, by rw [HE.out]; rfl⟩), by repeat (first | (with_reducible first | exact HBA.out | apply below_alloc | apply pw_below_drewN | apply below_drew1) | exact HBA.out)⟩
    · have HE := Aside0.mk (show E = b2 from by rw [HOP1.out, if_neg hb])
      have q1 : (b2 != 0) = true := by simpa using hb
      have HNE := Aside0.mk hb
      clear HOP1 hb
      go_wp2_with (go_at_call 39; (with_reducible refine (HL1.out _ HB1.out).mono ?_); rintro e w2 ⟨rfl, hb⟩; have HB2 := Aside0.mk (below_step HB1.out hb); clear hb HB1)
      go_ret2
      exact ⟨(HOR.out _ _).2 (.inl ⟨by rw [HE.out]; exact HNE.out, by rw [HE.out]; rfl⟩), HB2.out⟩
  · have HE := Aside0.mk (show E = a2 from by rw [HOP.out, if_neg ha])
    have q1 : (a2 != 0) = true := by simpa using ha
    have HNE := Aside0.mk ha
    clear HOP ha
    go_wp2_with (go_at_call 39; (with_reducible refine (HL0.out _ HB.out).mono ?_); rintro e w1 ⟨rfl, hb⟩; have HB1 := Aside0.mk (below_step HB.out hb); clear hb HB)
    go_ret2
    exact ⟨(HOR.out _ _).2 (.inl ⟨by rw [HE.out]; exact HNE.out, by rw [HE.out]; rfl⟩), HB1.out⟩
theorem freeL_nil (m : Nat) : freeL m [] = pgs m := by
  unfold freeL
  rw [List.filter_eq_self]
  intro x _
  rfl
theorem pgs_nodup (m : Nat) : (pgs m).Nodup := by
  unfold pgs List.Nodup
  rw [List.pairwise_map]
  exact List.nodup_range.imp (fun h e => h (by omega))
theorem freeL_nodup (m : Nat) (live : List R2) : (freeL m live).Nodup := (pgs_nodup m).filter _
theorem freeL_mem {m : Nat} {live : List R2} {x : Int} : x ∈ freeL m live ↔ (2 ≤ x ∧ x < (m : Int) + 2) ∧ ∀ y ∈ live, y.1 ≠ x := by
  unfold freeL
  rw [List.mem_filter, pgs_mem]
  refine and_congr_right (fun _ => ?_)
  unfold notIn
  rw [Bool.not_eq_true', List.any_eq_false]
  unfold isPg
  simp
theorem plan_out {l hv : List R2} {fr : List Int} (h : (planE l hv fr).2.2 = 0) : ∀ x ∈ (planE l hv fr).1, x.1 ∈ fr := by
  intro x hx
  rw [(planE_ok h).2.2.2.2] at hx
  have hp := (plan_inv l hv fr).pages
  rw [← hp]
  exact List.mem_append.2 (.inl (List.mem_map_of_mem hx))
theorem plan_apart {l hv : List R2} {fr : List Int} (h : (planE l hv fr).2.2 = 0) (hf : fr.Nodup) : (planE l hv fr).1.Pairwise fun p q => p.1 ≠ q.1 := by
  rw [(planE_ok h).2.2.2.2]; exact out_apart hf
theorem plan_rootmem {l hv : List R2} {fr : List Int} (h : (planE l hv fr).2.2 = 0) : ∃ b, ((planE l hv fr).2.1, b) ∈ hv ++ (planE l hv fr).1 := by
  obtain ⟨h1, h2, h3, h4, h5⟩ := planE_ok h
  have hkn : (planZ l hv fr).2.known (indexE (planT l hv fr).1).1 = some (planZ l hv fr).1 := put_known h4
  refine ⟨(indexE (planT l hv fr).1).1, ?_⟩
  have e1 : (planE l hv fr).2.1 = (planZ l hv fr).1 := by rw [h5]
  have e2 : (planE l hv fr).1 = (planZ l hv fr).2.out := by rw [h5]
  rw [e1, e2]
  have hk2 : (planZ l hv fr).2.known = knF (hv ++ (planZ l hv fr).2.out) := planZ_kn l hv fr
  rw [hk2] at hkn
  exact knF_mem _ _ _ hkn
theorem nodup_le : ∀ (k : Nat) (l : List Int), l.Nodup → (∀ x ∈ l, 2 ≤ x ∧ x < (k : Int) + 2) → l.length ≤ k := by
  intro k l h1 h2
  have := nodup_len l (pgs k) h1 (fun x hx => pgs_mem.2 (h2 x hx))
  rwa [pgs_length] at this
structure Std (S : VP.PS) (N : Nat) (k : Nat) : Prop where
  halted : S.halted = false
  room : S.halts = false ∨ (k : Int) ≤ S.after
  small : 0 ≤ S.after ∧ S.after ≤ 9223372036854775807
  pages : VP.pagesOk S
  len : S.safe.length = N
theorem Std.store {S : VP.PS} {N k : Nat} (h : Std S N (k + 1)) {n : Int} {b : ByteArray} (h0 : 0 ≤ n) (h1 : n < N) (hb : b.size = 128) :
    VP.storeE S n b = 0 ∧ VP.storeS S n b = { S with after := max (S.after - 1) 0, afl := S.afl ++ [⟨n, b⟩], last := VP.upd S.last n b } ∧ Std (VP.storeS S n b) N k := by
  have hm : VP.mayE S n = 0 := by
    unfold VP.mayE
    rw [h.halted, if_neg (by decide), if_neg (by omega), if_neg (by rw [h.len]; omega)]
  have hw : wrap64 (S.after - 1) = S.after - 1 := by have := h.small; unfold wrap64; omega
  have hnot : ¬ (S.halts = true ∧ S.after = 0) := by
    rintro ⟨a, b⟩
    rcases h.room with c | c
    · rw [a] at c; cases c
    · omega
  have e1 : VP.storeE S n b = 0 := by
    unfold VP.storeE
    rw [if_pos hm, if_pos hb]
    by_cases hh : S.halts = true
    · rw [if_pos hh, if_neg (fun e => hnot ⟨hh, e⟩)]
    · rw [if_neg hh]
  have e2 : VP.storeS S n b = { S with after := max (S.after - 1) 0, afl := S.afl ++ [⟨n, b⟩], last := VP.upd S.last n b } := by
    unfold VP.storeS
    rw [if_pos hm, if_pos hb, if_neg hnot, hw]
  refine ⟨e1, e2, ?_⟩
  have hp := storeS_pages h.pages (n := n) (b := b)
  rw [e2] at hp ⊢
  refine ⟨h.halted, ?_, ?_, hp.1, h.len⟩
  · rcases h.room with c | c
    · exact .inl c
    · refine .inr ?_
      show (k : Int) ≤ max (S.after - 1) 0
      omega
  · show 0 ≤ max (S.after - 1) 0 ∧ max (S.after - 1) 0 ≤ 9223372036854775807
    have := h.small; omega
def putL (sf : List ByteArray) (l : List R2) : List ByteArray := l.foldl (fun sf x => sf.set x.1.toNat x.2) sf
theorem putL_len (sf : List ByteArray) (l : List R2) : (putL sf l).length = sf.length := by
  unfold putL
  induction l generalizing sf with
  | nil => rfl
  | cons x t ih => rw [List.foldl_cons, ih, List.length_set]
theorem putL_other : ∀ (l : List R2) (sf : List ByteArray) (n : Nat), (∀ x ∈ l, x.1.toNat ≠ n) → (putL sf l)[n]? = sf[n]?
  | [], sf, n, _ => rfl
  | x :: t, sf, n, h => by
    show (putL (sf.set x.1.toNat x.2) t)[n]? = _
    rw [putL_other t _ n (fun y hy => h y (List.mem_cons_of_mem _ hy)), List.getElem?_set_ne (h x List.mem_cons_self)]
theorem putL_at : ∀ (l : List R2) (sf : List ByteArray), (l.Pairwise fun p q => p.1 ≠ q.1) → (∀ x ∈ l, 0 ≤ x.1 ∧ x.1 < sf.length) → ∀ x ∈ l, (putL sf l)[x.1.toNat]? = some x.2
  | [], sf, _, _, x, hx => (List.not_mem_nil hx).elim
  | y :: t, sf, h, hr, x, hx => by
    obtain ⟨h1, h2⟩ := List.pairwise_cons.1 h
    show (putL (sf.set y.1.toNat y.2) t)[x.1.toNat]? = some x.2
    rcases List.mem_cons.1 hx with rfl | hx
    · have hb := hr x List.mem_cons_self
      rw [putL_other t _ _ (fun z hz e => h1 z hz (by have := hr z (List.mem_cons_of_mem _ hz); omega)), List.getElem?_set_self (by omega)]
    · exact putL_at t _ h2 (fun z hz => by rw [List.length_set]; exact hr z (List.mem_cons_of_mem _ hz)) x hx
theorem wr_ok {N : Nat} : ∀ (l : List R2) {S : VP.PS} {k : Nat}, Std S N (k + l.length) → (∀ x ∈ l, goodW N x) → wrE S l = 0 ∧ Std (wrS S l) N k ∧ (wrS S l).safe = S.safe ∧ (wrS S l).afl = S.afl ++ l.map (fun x => ⟨x.1, x.2⟩) ∧ (wrS S l).halts = S.halts ∧ (wrS S l).after = max (S.after - l.length) 0
  | [], S, k, h, _ => ⟨rfl, h, rfl, (List.append_nil _).symm, rfl, by have := h.small; show S.after = max (S.after - ((0 : Nat) : Int)) 0; omega⟩
  | x :: t, S, k, h, hg => by
    obtain ⟨⟨g1, g2⟩, g3⟩ := hg x List.mem_cons_self
    have h' : Std S N (k + t.length + 1) := by rw [List.length_cons] at h; exact h
    obtain ⟨e1, e2, e3⟩ := h'.store g1 g2 g3
    obtain ⟨a1, a2, a3, a4, a5, a6⟩ := wr_ok t e3 (fun y hy => hg y (List.mem_cons_of_mem _ hy))
    have f1 : wrE S (x :: t) = wrE (VP.storeS S x.1 x.2) t := by show (if _ then _ else _) = _; rw [if_pos e1]
    have f2 : wrS S (x :: t) = wrS (VP.storeS S x.1 x.2) t := by show (if _ then _ else _) = _; rw [if_pos e1]
    rw [f1, f2]
    refine ⟨a1, a2, a3.trans (by rw [e2]), ?_, a5.trans (by rw [e2]), ?_⟩
    · rw [a4, e2, List.map_cons, List.append_assoc]; rfl
    · rw [a6, e2, List.length_cons]
      show max (max (S.after - 1) 0 - (t.length : Int)) 0 = max (S.after - ((t.length + 1 : Nat) : Int)) 0
      have := h.small; omega
theorem seS_safe {S : VP.PS} {l : List R2} (h : S.afl = l.map (fun x => (⟨x.1, x.2⟩ : VP.S116))) : (VP.seS S).safe = putL S.safe l := by
  show VP.settled S S.afl.length = _
  unfold VP.settled putL
  rw [List.take_length, h, List.foldl_map]
theorem Std.settle {S : VP.PS} {N k : Nat} (h : Std S N k) : Std (VP.seS S) N k := ⟨h.halted, h.room, h.small, (seS_pages h.pages).1, (seS_pages h.pages).2.trans h.len⟩
theorem write_ok {S : VP.PS} {N : Nat} {l : List R2} {g r p : Int} (h : Std S N (1 + l.length)) (ha : S.afl = []) (hl : S.last = fun _ => none) (hN : 2 ≤ N) (hg : ∀ x ∈ l, goodW N x) :
    writeE S l g r p = 0 ∧ Std (writeS S l g r p) N 0 ∧ (writeS S l g r p).safe = (putL S.safe l).set (g % 2).toNat (Cr.encB g r p) ∧ (writeS S l g r p).afl = [] ∧ (writeS S l g r p).last = (fun _ => none) ∧ (writeS S l g r p).halts = S.halts ∧ (writeS S l g r p).after = max (S.after - l.length - 1) 0 := by
  obtain ⟨a1, a2, a3, a4, a5, a6⟩ := wr_ok l h hg
  rw [ha, List.nil_append] at a4
  have a2' := a2.settle
  obtain ⟨b1, b2, b3⟩ := a2'.store (k := 0) (n := g % 2) (b := Cr.encB g r p) (by omega) (by omega) (Cr.encB_size _ _ _)
  have e1 : writeE S l g r p = 0 := by unfold writeE; rw [if_pos a1]; exact b1
  have e2 : writeS S l g r p = VP.seS (VP.storeS (VP.seS (wrS S l)) (g % 2) (Cr.encB g r p)) := by unfold writeS; rw [if_pos a1, if_pos b1]
  rw [e1, e2]
  have hs : (VP.seS (wrS S l)).safe = putL S.safe l := by rw [seS_safe a4, a3]
  refine ⟨rfl, b3.settle, ?_, rfl, rfl, ?_, ?_⟩
  · rw [seS_safe (l := [(g % 2, Cr.encB g r p)]) (by rw [b2]; rfl)]
    rw [b2]
    show putL (VP.seS (wrS S l)).safe [(g % 2, Cr.encB g r p)] = _
    rw [hs]
    rfl
  · show (VP.storeS (VP.seS (wrS S l)) (g % 2) (Cr.encB g r p)).halts = _
    rw [b2]; exact a5
  · show (VP.storeS (VP.seS (wrS S l)) (g % 2) (Cr.encB g r p)).after = _
    rw [b2]
    show max ((wrS S l).after - 1) 0 = _
    rw [a6]; have := h.small; omega
def Bi (P : Int → Int → Prop) : Prop := ∀ n m n' m', P n m → P n' m' → (n = n' ↔ m = m')
def L2 {α β : Type} (R : α → β → Prop) : List α → List β → Prop
  | [], [] => True
  | x :: l, y :: m => R x y ∧ L2 R l m
  | _, _ => False
theorem L2_same {α β : Type} {R : α → β → Prop} (h : ∀ x y x' y', R x y → R x' y' → (x = x' ↔ y = y')) : ∀ {l : List α} {m : List β} {l' : List α} {m' : List β}, L2 R l m → L2 R l' m' → (l = l' ↔ m = m')
  | [], [], [], [], _, _ => ⟨fun _ => rfl, fun _ => rfl⟩
  | [], [], _ :: _, _ :: _, _, _ => ⟨fun e => (List.cons_ne_nil _ _ e.symm).elim, fun e => (List.cons_ne_nil _ _ e.symm).elim⟩
  | _ :: _, _ :: _, [], [], _, _ => ⟨fun e => (List.cons_ne_nil _ _ e).elim, fun e => (List.cons_ne_nil _ _ e).elim⟩
  | x :: l, y :: m, x' :: l', y' :: m', ⟨h1, h2⟩, ⟨h3, h4⟩ => by
    have e1 := h _ _ _ _ h1 h3
    have e2 := L2_same h h2 h4
    rw [List.cons.injEq, List.cons.injEq, e1, e2]
  | [], _ :: _, _, _, h, _ => h.elim
  | _ :: _, [], _, _, h, _ => h.elim
  | [], [], [], _ :: _, _, h => h.elim
  | [], [], _ :: _, [], _, h => h.elim
  | _ :: _, _ :: _, [], _ :: _, _, h => h.elim
  | _ :: _, _ :: _, _ :: _, [], _, h => h.elim
theorem L2_mono {α β : Type} {R Q : α → β → Prop} (h : ∀ x y, R x y → Q x y) : ∀ {l : List α} {m : List β}, L2 R l m → L2 Q l m
  | [], [], _ => trivial
  | x :: l, y :: m, h1 => ⟨h _ _ h1.1, L2_mono h h1.2⟩
  | [], _ :: _, h1 => h1.elim
  | _ :: _, [], h1 => h1.elim
theorem L2_append {α β : Type} {R : α → β → Prop} : ∀ {l : List α} {m : List β} {l' : List α} {m' : List β}, L2 R l m → L2 R l' m' → L2 R (l ++ l') (m ++ m')
  | [], [], _, _, _, h => h
  | x :: l, y :: m, _, _, h1, h2 => ⟨h1.1, L2_append h1.2 h2⟩
  | [], _ :: _, _, _, h1, _ => h1.elim
  | _ :: _, [], _, _, h1, _ => h1.elim
def CC (P : Int → Int → Prop) (x x' : C4) : Prop := x.1 = x'.1 ∧ x.2.1 = x'.2.1 ∧ x.2.2.2 = x'.2.2.2 ∧ P x.2.2.1 x'.2.2.1
def SS (P : Int → Int → Prop) (x x' : S2) : Prop := x.1 = x'.1 ∧ P x.2 x'.2
theorem CC_same {P : Int → Int → Prop} (hP : Bi P) (x y x' y' : C4) (h : CC P x y) (h' : CC P x' y') : x = x' ↔ y = y' := by
  obtain ⟨a, b, c, d⟩ := x
  obtain ⟨a2, b2, c2, d2⟩ := y
  obtain ⟨a3, b3, c3, d3⟩ := x'
  obtain ⟨a4, b4, c4, d4⟩ := y'
  obtain ⟨h1, h2, h3, h4⟩ := h
  obtain ⟨k1, k2, k3, k4⟩ := h'
  simp only at h1 h2 h3 h4 k1 k2 k3 k4
  subst h1 h2 h3 k1 k2 k3
  have := hP _ _ _ _ h4 k4
  simp only [Prod.mk.injEq, this]
theorem SS_same {P : Int → Int → Prop} (hP : Bi P) (x y x' y' : S2) (h : SS P x y) (h' : SS P x' y') : x = x' ↔ y = y' := by
  obtain ⟨a, b⟩ := x
  obtain ⟨a2, b2⟩ := y
  obtain ⟨a3, b3⟩ := x'
  obtain ⟨a4, b4⟩ := y'
  obtain ⟨h1, h2⟩ := h
  obtain ⟨k1, k2⟩ := h'
  simp only at h1 h2 k1 k2
  subst h1 k1
  have := hP _ _ _ _ h2 k2
  simp only [Prod.mk.injEq, this]
inductive CR (P : Int → Int → Prop) : ByteArray → ByteArray → Prop
  | chain (nx nx' : Int) (x : ByteArray) : P nx nx' → (chA nx x).2 = true → (chA nx' x).2 = true → CR P (chA nx x).1 (chA nx' x).1
  | leaf (l l' : List C4) : L2 (CC P) l l' → (leafE l).2 = true → (leafE l').2 = true → CR P (leafE l).1 (leafE l').1
  | index (l l' : List S2) : L2 (SS P) l l' → (indexE l).2 = true → (indexE l').2 = true → CR P (indexE l).1 (indexE l').1
theorem CR.mono {P Q : Int → Int → Prop} (h : ∀ n m, P n m → Q n m) {a b : ByteArray} (hc : CR P a b) : CR Q a b := by
  cases hc with
  | chain nx nx' x h1 h2 h3 => exact .chain nx nx' x (h _ _ h1) h2 h3
  | leaf l l' h1 h2 h3 => exact .leaf l l' (L2_mono (fun _ _ h4 => ⟨h4.1, h4.2.1, h4.2.2.1, h _ _ h4.2.2.2⟩) h1) h2 h3
  | index l l' h1 h2 h3 => exact .index l l' (L2_mono (fun _ _ h4 => ⟨h4.1, h _ _ h4.2⟩) h1) h2 h3
def hd (b : ByteArray) : Option UInt8 := b.data.toList.head?
theorem hd_str (x : Int) (t : List Int) : hd (strOfNums (pad (x :: t))) = hd (strOfNums [x]) := by
  unfold hd
  rw [strOfNums_data, strOfNums_data]
  unfold pad
  rfl
theorem hd_chain {nx : Int} {x : ByteArray} (h : (chA nx x).2 = true) : hd (chA nx x).1 = some 67 := by
  unfold chA at h ⊢
  cases hc : chOk nx x with
  | false => rw [hc, if_neg (by decide)] at h; cases h
  | true =>
    rw [if_pos rfl]
    show hd (strOfNums (pad (67 :: (byL nx 2 2 ++ ([(x.size : Int) % 256] ++ bytesOf x))))) = _
    rw [hd_str]; decide +kernel
theorem hd_leaf {l : List C4} (h : (leafE l).2 = true) : hd (leafE l).1 = some 76 := by
  rw [leafE_is] at h ⊢
  unfold PRd.leafR at h ⊢
  cases hk : PRd.leafOk (l.map toC) with
  | false => rw [hk, if_neg (by decide)] at h; cases h
  | true =>
    rw [if_pos rfl]
    show hd (strOfNums (pad (76 :: _))) = _
    rw [hd_str]; decide +kernel
theorem hd_index {l : List S2} (h : (indexE l).2 = true) : hd (indexE l).1 = some 73 := by
  rw [indexE_is] at h ⊢
  unfold PRd.idxR at h ⊢
  cases hk : PRd.idxOk (l.map toS) with
  | false => rw [hk, if_neg (by decide)] at h; cases h
  | true =>
    rw [if_pos rfl]
    show hd (strOfNums (pad (73 :: _))) = _
    rw [hd_str]; decide +kernel
theorem hd_ne {a b : ByteArray} {x y : UInt8} (h1 : hd a = some x) (h2 : hd b = some y) (hne : x ≠ y) : a ≠ b := by
  rintro rfl
  rw [h1] at h2
  injection h2 with h2
  exact hne h2
theorem CR_same {P : Int → Int → Prop} (hP : Bi P) {a b a' b' : ByteArray} (h : CR P a b) (h' : CR P a' b') : a = a' ↔ b = b' := by
  cases h with
  | chain nx mx x h1 h2 h3 =>
    cases h' with
    | chain nx' mx' x' k1 k2 k3 =>
      have hb := hP _ _ _ _ h1 k1
      constructor
      · intro e
        have := congrArg linkE e
        rw [linkE_back h2, linkE_back k2] at this
        simp only [Prod.mk.injEq, and_true] at this
        rw [hb.1 this.1, this.2]
      · intro e
        have := congrArg linkE e
        rw [linkE_back h3, linkE_back k3] at this
        simp only [Prod.mk.injEq, and_true] at this
        rw [hb.2 this.1, this.2]
    | leaf l l' k1 k2 k3 => exact ⟨fun e => absurd e (hd_ne (hd_chain h2) (hd_leaf k2) (by decide)), fun e => absurd e (hd_ne (hd_chain h3) (hd_leaf k3) (by decide))⟩
    | index l l' k1 k2 k3 => exact ⟨fun e => absurd e (hd_ne (hd_chain h2) (hd_index k2) (by decide)), fun e => absurd e (hd_ne (hd_chain h3) (hd_index k3) (by decide))⟩
  | leaf l l' h1 h2 h3 =>
    cases h' with
    | chain nx mx x k1 k2 k3 => exact ⟨fun e => absurd e (hd_ne (hd_leaf h2) (hd_chain k2) (by decide)), fun e => absurd e (hd_ne (hd_leaf h3) (hd_chain k3) (by decide))⟩
    | leaf m m' k1 k2 k3 =>
      have hb := L2_same (CC_same hP) h1 k1
      constructor
      · intro e
        have := congrArg cellsE e
        rw [cellsE_back h2, cellsE_back k2] at this
        simp only [Prod.mk.injEq, and_true] at this
        rw [hb.1 this]
      · intro e
        have := congrArg cellsE e
        rw [cellsE_back h3, cellsE_back k3] at this
        simp only [Prod.mk.injEq, and_true] at this
        rw [hb.2 this]
    | index m m' k1 k2 k3 => exact ⟨fun e => absurd e (hd_ne (hd_leaf h2) (hd_index k2) (by decide)), fun e => absurd e (hd_ne (hd_leaf h3) (hd_index k3) (by decide))⟩
  | index l l' h1 h2 h3 =>
    cases h' with
    | chain nx mx x k1 k2 k3 => exact ⟨fun e => absurd e (hd_ne (hd_index h2) (hd_chain k2) (by decide)), fun e => absurd e (hd_ne (hd_index h3) (hd_chain k3) (by decide))⟩
    | leaf m m' k1 k2 k3 => exact ⟨fun e => absurd e (hd_ne (hd_index h2) (hd_leaf k2) (by decide)), fun e => absurd e (hd_ne (hd_index h3) (hd_leaf k3) (by decide))⟩
    | index m m' k1 k2 k3 =>
      have hb := L2_same (SS_same hP) h1 k1
      constructor
      · intro e
        have := congrArg slotsE e
        rw [slotsE_back h2, slotsE_back k2] at this
        simp only [Prod.mk.injEq, and_true] at this
        rw [hb.1 this]
      · intro e
        have := congrArg slotsE e
        rw [slotsE_back h3, slotsE_back k3] at this
        simp only [Prod.mk.injEq, and_true] at this
        rw [hb.2 this]
structure Jn (S : PS) : Prop where
  inj : ∀ a b n, S.known a = some n → S.known b = some n → a = b
  nod : S.free.Nodup
  fresh : ∀ n ∈ S.free, ∀ a, S.known a ≠ some n
  pg : PgOk S
theorem Jn.put {S : PS} (h : Jn S) (b : ByteArray) (is : Bool) : Jn (putS S b is) := by
  by_cases he : S.e = 0
  · cases is with
    | false =>
      have : putS S b false = { S with e := 9 } := by unfold putS; rw [if_pos he]; rfl
      rw [this]
      exact ⟨h.inj, h.nod, h.fresh, h.pg⟩
    | true =>
      cases hk : S.known b with
      | some n => rw [(put_some he hk).1]; exact h
      | none =>
        cases hf : S.free with
        | nil => rw [put_nil he hk hf]; exact ⟨h.inj, h.nod, h.fresh, h.pg⟩
        | cons n f =>
          have hpg := putS_pg h.pg b true
          rw [(put_cons he hk hf).1] at hpg ⊢
          have hn := h.nod
          rw [hf] at hn
          obtain ⟨n1, n2⟩ := List.nodup_cons.1 hn
          have hfr := h.fresh n (by rw [hf]; exact List.mem_cons_self)
          refine ⟨fun x y m hx hy => ?_, n2, fun m hm x hx => ?_, hpg⟩
          · change upd S.known b n x = some m at hx
            change upd S.known b n y = some m at hy
            by_cases e1 : x = b
            · by_cases e2 : y = b
              · rw [e1, e2]
              · rw [upd_ne _ _ e2] at hy
                rw [e1, upd_same] at hx
                injection hx with hx
                subst hx
                exact absurd hy (hfr y)
            · rw [upd_ne _ _ e1] at hx
              by_cases e2 : y = b
              · rw [e2, upd_same] at hy
                injection hy with hy
                subst hy
                exact absurd hx (hfr x)
              · rw [upd_ne _ _ e2] at hy
                exact h.inj x y m hx hy
          · change upd S.known b n x = some m at hx
            by_cases e1 : x = b
            · rw [e1, upd_same] at hx
              injection hx with hx
              subst hx
              exact n1 hm
            · rw [upd_ne _ _ e1] at hx
              exact h.fresh m (by rw [hf]; exact List.mem_cons_of_mem _ hm) x hx
  · rw [putS_stuck he]; exact h
def PR (S T : PS) (E : List (ByteArray × ByteArray)) (n m : Int) : Prop := (n = 0 ∧ m = 0) ∨ ∃ p ∈ E, S.known p.1 = some n ∧ T.known p.2 = some m
theorem PR.mono {S T S' T' : PS} {E E' : List (ByteArray × ByteArray)} (h1 : Ext S.known S'.known) (h2 : Ext T.known T'.known) (h3 : ∀ p ∈ E, p ∈ E') (n m : Int) (h : PR S T E n m) : PR S' T' E' n m :=
  h.imp id (fun ⟨p, hp, a, b⟩ => ⟨p, h3 p hp, h1 _ _ a, h2 _ _ b⟩)
structure Iso (hv : List R2) (fr : List Int) (S T : PS) (E : List (ByteArray × ByteArray)) : Prop where
  eS : S.e = 0
  eT : T.e = 0
  len : E.length = S.out.length
  kn : ∀ p ∈ E, (∃ n, S.known p.1 = some n) ∧ ∃ m, T.known p.2 = some m
  same : ∀ p ∈ E, ∀ q ∈ E, p.1 = q.1 ↔ p.2 = q.2
  cr : ∀ p ∈ E, CR (PR S T E) p.1 p.2
  all : ∀ a n, S.known a = some n → ∃ p ∈ E, p.1 = a
  nod : (E.map (·.1)).Nodup
  jS : Jn S
  jT : Jn T
  inv : PInv hv fr T
  invS : PInv [] (pgs 198) S
  outT : ∀ x ∈ T.out, ∃ p ∈ E, p.2 = x.2
section
variable {hv : List R2} {fr : List Int} {S T : PS} {E : List (ByteArray × ByteArray)}
theorem Iso.bi (h : Iso hv fr S T E) : Bi (PR S T E) := by
  intro n m n' m' h1 h2
  have gS : ∀ p ∈ E, ∀ k, S.known p.1 = some k → 2 ≤ k := fun p _ k hk => (PRd.okP_range (h.jS.pg.1 _ _ hk)).1
  have gT : ∀ p ∈ E, ∀ k, T.known p.2 = some k → 2 ≤ k := fun p _ k hk => (PRd.okP_range (h.jT.pg.1 _ _ hk)).1
  rcases h1 with ⟨rfl, rfl⟩ | ⟨p, hp, a1, a2⟩
  · rcases h2 with ⟨rfl, rfl⟩ | ⟨q, hq, b1, b2⟩
    · exact ⟨fun _ => rfl, fun _ => rfl⟩
    · have := gS q hq _ b1
      have := gT q hq _ b2
      constructor <;> intro e <;> omega
  · rcases h2 with ⟨rfl, rfl⟩ | ⟨q, hq, b1, b2⟩
    · have := gS p hp _ a1
      have := gT p hp _ a2
      constructor <;> intro e <;> omega
    · have hs := h.same p hp q hq
      constructor
      · rintro rfl
        have e := hs.1 (h.jS.inj _ _ _ a1 b1)
        rw [e, b2] at a2
        injection a2 with a2
        exact a2.symm
      · rintro rfl
        have e := hs.2 (h.jT.inj _ _ _ a2 b2)
        rw [e, b1] at a1
        injection a1 with a1
        exact a1.symm
theorem Iso.few (h : Iso hv fr S T E) : T.out.length ≤ S.out.length := by
  have h1 := nodup_len (T.out.map (·.2)) (E.map (·.2)) (by
    unfold List.Nodup
    rw [List.pairwise_map]; exact h.inv.apart) (fun b hb => by
    obtain ⟨x, hx, rfl⟩ := List.mem_map.1 hb
    obtain ⟨p, hp, e⟩ := h.outT x hx
    exact List.mem_map.2 ⟨p, hp, e⟩)
  rw [List.length_map, List.length_map, h.len] at h1
  exact h1
theorem iso_put (h : Iso hv fr S T E) {a b : ByteArray} (hc : CR (PR S T E) a b) :
    (∃ E', Iso hv fr (putS S a true) (putS T b true) E' ∧ PR (putS S a true) (putS T b true) E' (putN S a true) (putN T b true) ∧ (∀ p ∈ E, p ∈ E') ∧ (∃ p ∈ E', p.2 = b) ∧ ∀ p ∈ E', p ∈ E ∨ p.2 = b) ∨ Rk fr.length (putS S a true) (putS T b true) := by
  have hbi := h.bi
  have hsm : ∀ p ∈ E, a = p.1 ↔ b = p.2 := fun p hp => CR_same hbi hc (h.cr p hp)
  cases hk : S.known a with
  | some n =>
    obtain ⟨p, hp, e⟩ := h.all a n hk
    have eb := (hsm p hp).1 e.symm
    obtain ⟨_, m, hm⟩ := h.kn p hp
    rw [← eb] at hm
    rw [(put_some h.eS hk).1, (put_some h.eS hk).2, (put_some h.eT hm).1, (put_some h.eT hm).2]
    exact .inl ⟨E, h, .inr ⟨p, hp, by rw [e]; exact hk, by rw [← eb]; exact hm⟩, fun _ h => h, ⟨p, hp, eb.symm⟩, fun _ h => .inl h⟩
  | none =>
    have hna : ∀ p ∈ E, p.1 ≠ a := fun p hp e => by
      obtain ⟨⟨n, hn⟩, _⟩ := h.kn p hp
      rw [e, hk] at hn; cases hn
    cases hf : S.free with
    | nil =>
      have hE : E.length = 198 := by
        have h1 := h.invS.pages
        rw [hf, List.append_nil] at h1
        have h3 := congrArg List.length h1
        rw [List.length_map, pgs_length] at h3
        rw [h.len, h3]
      have hall : ∀ k, okP k = true → ∃ p ∈ E, T.known p.2 = some k := by
        intro k hk2
        have hkm : k ∈ pgs 198 := pgs_mem.2 (by have := PRd.okP_range hk2; omega)
        have hval : ∀ p ∈ E, T.known p.2 = some ((T.known p.2).getD 0) := fun p hp => by
          obtain ⟨_, m, hm⟩ := h.kn p hp
          rw [hm]; rfl
        by_cases hin : k ∈ E.map (fun p => (T.known p.2).getD 0)
        · obtain ⟨p, hp, e⟩ := List.mem_map.1 hin
          exact ⟨p, hp, by rw [hval p hp, e]⟩
        · exfalso
          have hnd : (E.map (fun p => (T.known p.2).getD 0)).Nodup := by
            have hn := h.nod
            unfold List.Nodup at hn ⊢
            rw [List.pairwise_map] at hn ⊢
            refine hn.imp_of_mem (fun {p q} hp hq hne e => hne ((h.same p hp q hq).2 ?_))
            exact h.jT.inj _ _ _ (hval p hp) (by rw [hval q hq, e])
          have h1 := nodup_len (k :: E.map (fun p => (T.known p.2).getD 0)) (pgs 198) (List.nodup_cons.2 ⟨hin, hnd⟩) (fun x hx => by
            rcases List.mem_cons.1 hx with rfl | hx
            · exact hkm
            · obtain ⟨p, hp, rfl⟩ := List.mem_map.1 hx
              have := PRd.okP_range (h.jT.pg.1 _ _ (hval p hp))
              exact pgs_mem.2 (by omega))
          rw [List.length_cons, List.length_map, hE, pgs_length] at h1
          omega
      refine .inr ⟨?_, fun h0 => ?_⟩
      · cases hm : T.known b with
        | some k =>
          exfalso
          obtain ⟨p, hp, e⟩ := hall k (h.jT.pg.1 _ _ hm)
          have := h.jT.inj _ _ _ e hm
          exact hna p hp ((hsm p hp).2 this.symm).symm
        | none =>
          cases hg : T.free with
          | nil => rw [put_nil h.eT hm hg]; show ¬ (8 : Int) = 0; decide
          | cons k g =>
            exfalso
            obtain ⟨p, hp, e⟩ := hall k (h.jT.pg.2 k (by rw [hg]; exact List.mem_cons_self))
            exact h.jT.fresh k (by rw [hg]; exact List.mem_cons_self) _ e
      · rw [put_nil h.eS hk hf] at h0
        exact absurd h0 (by show ¬ (8 : Int) = 0; decide)
    | cons n f =>
      have eS1 := (put_cons h.eS hk hf).1
      have eS2 := (put_cons h.eS hk hf).2
      have jS' := h.jS.put a true
      have jT' := h.jT.put b true
      have iS' := h.invS.put a true
      have hs : (putS S a true).e = 0 := by rw [eS1]; exact h.eS
      have iT' := h.inv.put b true
      have xS := putS_ext S a true
      have xT := putS_ext T b true
      have nodE : (((a, b) :: E).map (·.1)).Nodup := by
        rw [List.map_cons, List.nodup_cons]
        refine ⟨fun hm => ?_, h.nod⟩
        obtain ⟨p, hp, e⟩ := List.mem_map.1 hm
        exact hna p hp e
      have sameE : ∀ p ∈ (a, b) :: E, ∀ q ∈ (a, b) :: E, p.1 = q.1 ↔ p.2 = q.2 := by
        intro p hp q hq
        rcases List.mem_cons.1 hp with rfl | hp
        · rcases List.mem_cons.1 hq with rfl | hq
          · exact ⟨fun _ => rfl, fun _ => rfl⟩
          · exact hsm q hq
        · rcases List.mem_cons.1 hq with rfl | hq
          · have := hsm p hp
            exact ⟨fun e => (this.1 e.symm).symm, fun e => (this.2 e.symm).symm⟩
          · exact h.same p hp q hq
      have kS : (putS S a true).known a = some n := by rw [eS1]; exact upd_same _ _ _
      have allE : ∀ x k, (putS S a true).known x = some k → ∃ p ∈ (a, b) :: E, p.1 = x := fun x k hx => by
        by_cases e : x = a
        · exact ⟨_, List.mem_cons_self, e.symm⟩
        · rw [eS1] at hx
          change upd S.known a n x = some k at hx
          rw [upd_ne _ _ e] at hx
          obtain ⟨p, hp, e2⟩ := h.all x k hx
          exact ⟨p, List.mem_cons_of_mem _ hp, e2⟩
      have lenE : ((a, b) :: E).length = (putS S a true).out.length := by
        rw [eS1]
        show E.length + 1 = (S.out ++ [(n, a)]).length
        rw [List.length_append, h.len]; rfl
      have fin : ∀ m, (putS T b true).e = 0 → (putS T b true).known b = some m → putN T b true = m → (∀ x ∈ (putS T b true).out, ∃ p ∈ (a, b) :: E, p.2 = x.2) →
          ∃ E', Iso hv fr (putS S a true) (putS T b true) E' ∧ PR (putS S a true) (putS T b true) E' (putN S a true) (putN T b true) ∧ (∀ p ∈ E, p ∈ E') ∧ (∃ p ∈ E', p.2 = b) ∧ ∀ p ∈ E', p ∈ E ∨ p.2 = b := fun m e0 km hN ho => by
        have mono := PR.mono xS xT (E := E) (E' := (a, b) :: E) (fun p hp => List.mem_cons_of_mem _ hp)
        refine ⟨(a, b) :: E, ⟨hs, e0, lenE, fun p hp => ?_, sameE, fun p hp => ?_, allE, nodE, jS', jT', iT', iS', ho⟩, .inr ⟨_, List.mem_cons_self, by rw [eS2]; exact kS, by rw [hN]; exact km⟩, fun p hp => List.mem_cons_of_mem _ hp, ⟨_, List.mem_cons_self, rfl⟩, fun p hp => ?_⟩
        · rcases List.mem_cons.1 hp with rfl | hp
          · exact ⟨⟨n, kS⟩, ⟨m, km⟩⟩
          · obtain ⟨⟨n1, h1⟩, ⟨m1, h2⟩⟩ := h.kn p hp
            exact ⟨⟨n1, xS _ _ h1⟩, ⟨m1, xT _ _ h2⟩⟩
        · rcases List.mem_cons.1 hp with rfl | hp
          · exact hc.mono mono
          · exact (h.cr p hp).mono mono
        · rcases List.mem_cons.1 hp with rfl | hp
          · exact .inr rfl
          · exact .inl hp
      cases hm : T.known b with
      | some m =>
        have eT1 := (put_some h.eT hm).1
        refine .inl (fin m (by rw [eT1]; exact h.eT) (by rw [eT1]; exact hm) (put_some h.eT hm).2 (fun x hx => ?_))
        rw [eT1] at hx
        obtain ⟨p, hp, e⟩ := h.outT x hx
        exact ⟨p, List.mem_cons_of_mem _ hp, e⟩
      | none =>
        cases hg : T.free with
        | nil =>
          refine .inr ⟨?_, fun _ => ?_⟩
          · rw [put_nil h.eT hm hg]; show ¬ (8 : Int) = 0; decide
          · have h1 := h.inv.pages
            rw [hg, List.append_nil] at h1
            have h2 := h.few
            rw [← h1, List.length_map, ← lenE, List.length_cons, h.len]; omega
        | cons m g =>
          have eT1 := (put_cons h.eT hm hg).1
          refine .inl (fin m (by rw [eT1]; exact h.eT) (by rw [eT1]; exact upd_same _ _ _) (put_cons h.eT hm hg).2 (fun x hx => ?_))
          rw [eT1] at hx
          rcases List.mem_append.1 hx with hx | hx
          · obtain ⟨p, hp, e⟩ := h.outT x hx
            exact ⟨p, List.mem_cons_of_mem _ hp, e⟩
          · rw [List.mem_singleton] at hx
            exact ⟨_, List.mem_cons_self, by rw [hx]⟩
end
end Go.Proofs.YtdhaoaehboonpaaGreat.V
end
section
namespace Go.Proofs.YtdhaoaehboonpaaGreat.V
open Go.RowKit Go.Proofs.YtdhaoaehboonpaaGreatW.PrintWords Go.Proofs.YtdhaoaehboonpaaGreatW.PrintLast Go.Proofs.YtdhaoaehboonpaaGreatW.PrintMore Go.Proofs.YtdhaoaehboonpaaGreatM
set_option linter.unusedVariables false
set_option linter.unusedSimpArgs false
variable {hv : List R2} {fr : List Int}
theorem chain_iso : ∀ (l : List ByteArray) {S T : PS} {E : List (ByteArray × ByteArray)}, (∀ x ∈ l, 1 ≤ x.size ∧ x.size ≤ 120) → Iso hv fr S T E →
    (∃ E', Iso hv fr (chainF l S).2 (chainF l T).2 E' ∧ PR (chainF l S).2 (chainF l T).2 E' (chainF l S).1 (chainF l T).1 ∧ (∀ p ∈ E, p ∈ E') ∧ (∀ b ∈ chainB l T, ∃ p ∈ E', p.2 = b) ∧ ∀ p ∈ E', p ∈ E ∨ p.2 ∈ chainB l T) ∨ Rk fr.length (chainF l S).2 (chainF l T).2
  | [], S, T, E, _, h => .inl ⟨E, h, .inl ⟨rfl, rfl⟩, fun _ h => h, fun b hb => (List.not_mem_nil hb).elim, fun _ h => .inl h⟩
  | x :: t, S, T, E, hx, h => by
    rw [chainF_cons, chainF_cons]
    obtain ⟨x1, x2⟩ := hx x List.mem_cons_self
    rcases chain_iso t (fun y hy => hx y (List.mem_cons_of_mem _ hy)) h with ⟨E1, h1, hp, he, hb, hn⟩ | hr
    · have okS : (chA (chainF t S).1 x).2 = true := chA_ok (by
        rcases hp with ⟨h0, _⟩ | ⟨p, hp, h0, _⟩
        · exact .inl h0
        · exact .inr (h1.jS.pg.1 _ _ h0)) x1 x2
      have okT : (chA (chainF t T).1 x).2 = true := chA_ok (by
        rcases hp with ⟨_, h0⟩ | ⟨p, hp, _, h0⟩
        · exact .inl h0
        · exact .inr (h1.jT.pg.1 _ _ h0)) x1 x2
      rw [okS, okT]
      rcases iso_put h1 (.chain _ _ x hp okS okT) with ⟨E2, h2, hp2, he2, ⟨q, hq, eq⟩, hn2⟩ | hr
      · refine .inl ⟨E2, h2, hp2, fun p hp => he2 p (he p hp), fun b hb2 => ?_, fun p hp => ?_⟩
        · rcases List.mem_cons.1 hb2 with rfl | hb2
          · exact ⟨q, hq, eq⟩
          · obtain ⟨p, hp, e⟩ := hb b hb2
            exact ⟨p, he2 p hp, e⟩
        · rcases hn2 p hp with hp | hp
          · exact (hn p hp).imp id (fun h => List.mem_cons_of_mem _ h)
          · exact .inr (by rw [hp]; exact List.mem_cons_self)
      · exact .inr hr
    · exact .inr (put_rk hr _ _ _ _)
theorem CC_mono {P Q : Int → Int → Prop} (h : ∀ n m, P n m → Q n m) (x y : C4) (hc : CC P x y) : CC Q x y := ⟨hc.1, hc.2.1, hc.2.2.1, h _ _ hc.2.2.2⟩
theorem chains_iso : ∀ (l : List R2) {S T : PS} {E : List (ByteArray × ByteArray)}, Iso hv fr S T E →
    (∃ E', Iso hv fr (chainsF l S).2 (chainsF l T).2 E' ∧ L2 (CC (PR (chainsF l S).2 (chainsF l T).2 E')) (chainsF l S).1 (chainsF l T).1 ∧ (∀ p ∈ E, p ∈ E') ∧ (∀ b ∈ chainsB l T, ∃ p ∈ E', p.2 = b) ∧ ∀ p ∈ E', p ∈ E ∨ p.2 ∈ chainsB l T) ∨ Rk fr.length (chainsF l S).2 (chainsF l T).2
  | [], S, T, E, h => .inl ⟨E, h, trivial, fun _ h => h, fun b hb => (List.not_mem_nil hb).elim, fun _ h => .inl h⟩
  | r :: t, S, T, E, h => by
    rw [chainsF_cons, chainsF_cons, chainsB_cons]
    by_cases h24 : 24 < r.2.size
    · rw [if_pos h24, if_pos h24, if_pos h24]
      rcases chain_iso (pieces r.2) (fun x hx => piecesF_size _ _ x hx) h with ⟨E1, h1, hp1, he1, hb1, hn1⟩ | hr
      · rcases chains_iso t h1 with ⟨E2, h2, hc2, he2, hb2, hn2⟩ | hr
        · refine .inl ⟨E2, h2, ⟨?_, hc2⟩, fun p hp => he2 p (he1 p hp), fun b hb => ?_, fun p hp => ?_⟩
          · have := PR.mono (chainsF_ext t (chainF (pieces r.2) S).2) (chainsF_ext t (chainF (pieces r.2) T).2) he2 _ _ hp1
            unfold cellE
            rw [if_neg (by omega), if_neg (by omega)]
            exact ⟨rfl, rfl, rfl, this⟩
          · rcases List.mem_append.1 hb with hb | hb
            · obtain ⟨p, hp, e⟩ := hb1 b hb
              exact ⟨p, he2 p hp, e⟩
            · exact hb2 b hb
          · rcases hn2 p hp with hp | hp
            · exact (hn1 p hp).imp id (fun h => List.mem_append_left _ h)
            · exact .inr (List.mem_append_right _ hp)
        · exact .inr hr
      · exact .inr (chains_rk t hr)
    · rw [if_neg h24, if_neg h24, if_neg h24]
      rcases chains_iso t h with ⟨E2, h2, hc2, he2, hb2, hn2⟩ | hr
      · refine .inl ⟨E2, h2, ⟨?_, hc2⟩, he2, hb2, hn2⟩
        unfold cellE
        rw [if_pos (by omega)]
        exact ⟨rfl, rfl, rfl, .inl ⟨rfl, rfl⟩⟩
      · exact .inr hr
theorem L2_shC {P : Int → Int → Prop} : ∀ {l l' : List C4}, L2 (CC P) l l' → (∀ x ∈ l, cellOk x) → (∀ x ∈ l', cellOk x) → l.map shC = l'.map shC
  | [], [], _, _, _ => rfl
  | x :: l, y :: m, h, h1, h2 => by
    rw [List.map_cons, List.map_cons, L2_shC h.2 (fun z hz => h1 z (List.mem_cons_of_mem _ hz)) (fun z hz => h2 z (List.mem_cons_of_mem _ hz))]
    have e1 := (h1 x List.mem_cons_self).2
    have e2 := (h2 y List.mem_cons_self).2
    unfold shC
    rw [e1, e2, h.1.1, h.1.2.1, h.1.2.2.1]
  | [], _ :: _, h, _, _ => h.elim
  | _ :: _, [], h, _, _ => h.elim
theorem lvs_iso {P : Int → Int → Prop} : ∀ (r r' cur cur' : List C4), L2 (CC P) r r' → L2 (CC P) cur cur' → (∀ x ∈ r, cellOk x) → (∀ x ∈ r', cellOk x) → (∀ x ∈ cur, cellOk x) → (∀ x ∈ cur', cellOk x) → L2 (L2 (CC P)) (lvs cur r) (lvs cur' r')
  | [], [], cur, cur', _, h, _, _, _, _ => by
    unfold lvs
    cases cur with
    | nil => cases cur' with
      | nil => trivial
      | cons a t => exact h.elim
    | cons a t => cases cur' with
      | nil => exact h.elim
      | cons b u => exact ⟨h, trivial⟩
  | x :: r, y :: s, cur, cur', h, h2, a1, a2, a3, a4 => by
    have b1 := a1 x List.mem_cons_self
    have b2 := a2 y List.mem_cons_self
    have c1 := fun z hz => a1 z (List.mem_cons_of_mem _ hz)
    have c2 := fun z hz => a2 z (List.mem_cons_of_mem _ hz)
    have h3 : L2 (CC P) (cur ++ [x]) (cur' ++ [y]) := L2_append h2 ⟨h.1, trivial⟩
    have d1 : ∀ z ∈ cur ++ [x], cellOk z := fun z hz => by
      rcases List.mem_append.1 hz with hz | hz
      · exact a3 z hz
      · rw [List.mem_singleton] at hz; rw [hz]; exact b1
    have d2 : ∀ z ∈ cur' ++ [y], cellOk z := fun z hz => by
      rcases List.mem_append.1 hz with hz | hz
      · exact a4 z hz
      · rw [List.mem_singleton] at hz; rw [hz]; exact b2
    unfold lvs
    rw [leafE_same (L2_shC h3 d1 d2)]
    split
    · exact lvs_iso r s _ _ h.2 h3 c1 c2 d1 d2
    · exact ⟨h2, lvs_iso r s [x] [y] h.2 ⟨h.1, trivial⟩ c1 c2 (fun z hz => by rw [List.mem_singleton] at hz; rw [hz]; exact b1) (fun z hz => by rw [List.mem_singleton] at hz; rw [hz]; exact b2)⟩
  | [], _ :: _, _, _, h, _, _, _, _, _ => h.elim
  | _ :: _, [], _, _, h, _, _, _, _, _ => h.elim
theorem L2_hd {P : Int → Int → Prop} {l l' : List C4} (h : L2 (CC P) l l') : (atC l 0).1 = (atC l' 0).1 := by
  cases l with
  | nil => cases l' with
    | nil => rfl
    | cons a t => exact h.elim
  | cons a t => cases l' with
    | nil => exact h.elim
    | cons b u => exact h.1.1
theorem slots_iso : ∀ (L L' : List (List C4)) {S T : PS} {E : List (ByteArray × ByteArray)}, Iso hv fr S T E → L2 (L2 (CC (PR S T E))) L L' → (∀ y ∈ L, (leafE y).2 = true) → (∀ y ∈ L', (leafE y).2 = true) →
    (∃ E', Iso hv fr (slotsF L S).2 (slotsF L' T).2 E' ∧ L2 (SS (PR (slotsF L S).2 (slotsF L' T).2 E')) (slotsF L S).1 (slotsF L' T).1 ∧ (∀ p ∈ E, p ∈ E') ∧ (∀ b ∈ L'.map (fun x => (leafE x).1), ∃ p ∈ E', p.2 = b) ∧ ∀ p ∈ E', p ∈ E ∨ p.2 ∈ L'.map (fun x => (leafE x).1)) ∨ Rk fr.length (slotsF L S).2 (slotsF L' T).2
  | [], [], S, T, E, h, _, _, _ => .inl ⟨E, h, trivial, fun _ h => h, fun b hb => (List.not_mem_nil hb).elim, fun _ h => .inl h⟩
  | x :: t, y :: u, S, T, E, h, hl, ok1, ok2 => by
    have o1 := ok1 x List.mem_cons_self
    have o2 := ok2 y List.mem_cons_self
    have t1 := fun z hz => ok1 z (List.mem_cons_of_mem _ hz)
    have t2 := fun z hz => ok2 z (List.mem_cons_of_mem _ hz)
    rw [slotsF_cons, slotsF_cons, if_pos h.eS, if_pos h.eT]
    rw [o1, o2]
    rcases iso_put h (.leaf x y hl.1 o1 o2) with ⟨E1, h1, hp1, he1, ⟨q, hq, eq⟩, hn1⟩ | hr
    · have mono := PR.mono (putS_ext S (leafE x).1 true) (putS_ext T (leafE y).1 true) he1
      rcases slots_iso t u h1 (L2_mono (fun _ _ h => L2_mono (CC_mono mono) h) hl.2) t1 t2 with ⟨E2, h2, hc2, he2, hb2, hn2⟩ | hr
      · refine .inl ⟨E2, h2, ⟨⟨L2_hd hl.1, PR.mono (slotsF_ext t _) (slotsF_ext u _) he2 _ _ hp1⟩, hc2⟩, fun p hp => he2 p (he1 p hp), fun b hb => ?_, fun p hp => ?_⟩
        · rw [List.map_cons] at hb
          rcases List.mem_cons.1 hb with rfl | hb
          · exact ⟨q, he2 q hq, eq⟩
          · exact hb2 b hb
        · rw [List.map_cons]
          rcases hn2 p hp with hp | hp
          · exact (hn1 p hp).imp id (fun h => by rw [h]; exact List.mem_cons_self)
          · exact .inr (List.mem_cons_of_mem _ hp)
      · exact .inr hr
    · exact .inr (slots_rk t u hr)
  | [], _ :: _, _, _, _, _, h, _, _ => h.elim
  | _ :: _, [], _, _, _, _, h, _, _ => h.elim
theorem L2_len {α β : Type} {R : α → β → Prop} : ∀ {l : List α} {m : List β}, L2 R l m → l.length = m.length
  | [], [], _ => rfl
  | x :: l, y :: m, h => by rw [List.length_cons, List.length_cons, L2_len h.2]
  | [], _ :: _, h => h.elim
  | _ :: _, [], h => h.elim
set_option maxRecDepth 10000 in
theorem plan_two {l : List R2} (h2 : mayE (hv.map (·.1)) fr = true) (hap : hv.Pairwise fun p q => p.1 ≠ q.1) (hnd : fr.Nodup) (hdj : ∀ n ∈ fr, ∀ x ∈ hv, x.1 ≠ n) (a1 : rightF (-1) l = true) (a3 : ¬ 21 < (lvs [] (l.map (cellE · 2))).length) :
    ((planE l hv fr).2.2 = 0 ∧ 0 < needE l ∧ ∃ B : List ByteArray, B.Nodup ∧ B.length = needE l ∧ (∀ b, b ∈ B ↔ b ∈ planB l hv fr) ∧ ∀ b ∈ B, ∃ n, (planZ l hv fr).2.known b = some n) ∨ ((planE l hv fr).2.2 ≠ 0 ∧ (0 < needE l → fr.length < needE l)) := by
  have hne : (planZ l [] (pgs 198)).2.e = 0 → needE l = (planZ l [] (pgs 198)).2.out.length := fun h0 => by
    unfold needE planE
    rw [if_pos (by rw [a1, List.map_nil, pgs_may (by decide)]; rfl), if_neg a3, if_pos h0]
  have hne0 : 0 < needE l → (planZ l [] (pgs 198)).2.e = 0 := fun h0 => by
    by_cases he : (planE l [] (pgs 198)).2.2 = 0
    · exact (planE_ok he).2.2.2.1
    · exfalso
      unfold needE at h0
      rw [(planE_no he).1] at h0
      exact absurd h0 (by decide)
  obtain ⟨pv, pf⟩ := mayE_pg h2
  have hpv : ∀ x ∈ hv, okP x.1 = true := fun x hx => pv _ (List.mem_map_of_mem hx)
  obtain ⟨_, pf0⟩ := mayE_pg (pgs_may (m := 198) (by decide))
  have hr := rightF_mem l (-1) (by omega) a1
  have i0 : Iso hv fr ⟨knF [], pgs 198, [], 0⟩ ⟨knF hv, fr, [], 0⟩ [] := by
    refine ⟨rfl, rfl, rfl, fun p hp => (List.not_mem_nil hp).elim, fun p hp => (List.not_mem_nil hp).elim, fun p hp => (List.not_mem_nil hp).elim, fun a n h => (by cases h), List.Pairwise.nil, ⟨fun a b n h => (by cases h), pgs_nodup _, fun n _ a h => (by cases h), ⟨fun b n h => (by cases h), pf0⟩⟩, ⟨fun a b n ha hb => ?_, hnd, fun n hn a ha => ?_, ⟨knF_pg hpv, pf⟩⟩, ⟨fun x hx => (List.not_mem_nil hx).elim, List.Pairwise.nil, rfl, knF_old hv, fun x hx => (List.not_mem_nil hx).elim⟩, ⟨fun x hx => (List.not_mem_nil hx).elim, List.Pairwise.nil, rfl, knF_old [], fun x hx => (List.not_mem_nil hx).elim⟩, fun x hx => (List.not_mem_nil hx).elim⟩
    · have m1 := knF_mem _ _ _ ha
      have m2 := knF_mem _ _ _ hb
      have H : ∀ (l : List R2), l.Pairwise (fun p q => p.1 ≠ q.1) → (n, a) ∈ l → (n, b) ∈ l → a = b := by
        intro l
        induction l with
        | nil => intro _ h _; cases h
        | cons x t ih =>
          intro hp h1 h2
          obtain ⟨p1, p2⟩ := List.pairwise_cons.1 hp
          rcases List.mem_cons.1 h1 with h1 | h1
          · rcases List.mem_cons.1 h2 with h2 | h2
            · rw [← h1] at h2; injection h2 with _ h2; exact h2.symm
            · exact absurd (by rw [← h1]) (p1 _ h2)
          · rcases List.mem_cons.1 h2 with h2 | h2
            · exact absurd (by rw [← h2]) (p1 _ h1)
            · exact ih p2 h1 h2
      exact H hv hap m1 m2
    · exact hdj n hn _ (knF_mem _ _ _ ha) rfl
  have hA : (rightF (-1) l && mayE (List.map (fun x => x.1) hv) fr) = true := by rw [a1, h2]; rfl
  have key : (∃ E, Iso hv fr (planZ l [] (pgs 198)).2 (planZ l hv fr).2 E ∧ ∀ b, (∃ p ∈ E, p.2 = b) ↔ b ∈ planB l hv fr) ∨ Rk fr.length (planZ l [] (pgs 198)).2 (planZ l hv fr).2 := by
    rcases chains_iso l i0 with ⟨E1, h1, hc1, _, hb1, hn1⟩ | hk
    · have okS : ∀ x ∈ planC l [] (pgs 198), cellOk x := chainsF_ok l ⟨knF [], pgs 198, [], 0⟩ ⟨fun b n h => (by cases h), pf0⟩ hr h1.eS
      have okT : ∀ x ∈ planC l hv fr, cellOk x := chainsF_ok l ⟨knF hv, fr, [], 0⟩ ⟨knF_pg hpv, pf⟩ hr h1.eT
      have hl := lvs_iso (planC l [] (pgs 198)) (planC l hv fr) [] [] hc1 trivial okS okT (fun x hx => (List.not_mem_nil hx).elim) (fun x hx => (List.not_mem_nil hx).elim)
      have lfT := lvs_leaf _ _ okT (.inl rfl)
      have lfS := lvs_leaf _ _ okS (.inl rfl)
      rcases slots_iso (lvs [] (planC l [] (pgs 198))) (lvs [] (planC l hv fr)) h1 hl lfS lfT with ⟨E2, h2', hc2, he2, hb2, hn2⟩ | hk
      · have e2 := L2_len hl
        have e4 : (lvs [] (planC l [] (pgs 198))).length = (lvs [] (l.map (cellE · 2))).length := by
          refine lvs_same _ _ [] [] ?_ rfl
          have H : ∀ (l : List R2) (S : PS), (∀ r ∈ l, -1 < r.1 ∧ r.1 ≤ 2147483647 ∧ r.2.size ≤ 900) → (∀ x ∈ (chainsF l S).1, cellOk x) → (chainsF l S).1.map shC = (l.map (cellE · 2)).map shC := by
            intro l
            induction l with
            | nil => intro S _ _; rfl
            | cons r t ih =>
              intro S hr hx
              have hc : ∀ p, cellOk (cellE r p) → shC (cellE r p) = shC (cellE r 2) := by
                intro p hp
                have hr1 := hr r List.mem_cons_self
                have h2 := cellE_ok (p := 2) hr1.1 hr1.2.1 hr1.2.2 (fun _ => by decide)
                have e1 : okR (cellE r p).2.1 (cellE r p).2.2.1 (cellE r p).2.2.2 = true := hp.2
                have e2 : okR (cellE r 2).2.1 (cellE r 2).2.2.1 (cellE r 2).2.2.2 = true := h2.2
                unfold shC
                rw [e1, e2]
                unfold cellE
                split <;> rfl
              rw [chainsF_cons] at hx ⊢
              split
              · rename_i h24
                rw [if_pos h24] at hx
                rw [List.map_cons, List.map_cons, List.map_cons, hc _ (hx _ List.mem_cons_self), ih _ (fun y hy => hr y (List.mem_cons_of_mem _ hy)) (fun y hy => hx y (List.mem_cons_of_mem _ hy))]
              · rename_i h24
                rw [if_neg h24] at hx
                rw [List.map_cons, List.map_cons, List.map_cons, ih _ (fun y hy => hr y (List.mem_cons_of_mem _ hy)) (fun y hy => hx y (List.mem_cons_of_mem _ hy))]
          exact H l _ hr okS
        have iS : (indexE (planT l [] (pgs 198)).1).2 = true := by
          have g0 : Gd 0 0 (chainsF l ⟨knF [], pgs 198, [], 0⟩).2 := ⟨h1.jS.pg, .inl ⟨h1.eS, Nat.zero_le _⟩⟩
          obtain ⟨_, g3⟩ := Gd.slots (lvs [] (planC l [] (pgs 198))) (lo := -1) g0 lfS (lvs_asc _ [] (-1) okS (chainsF_kin l _ (-1) a1))
          obtain ⟨g5, g6⟩ := g3 h2'.eS
          refine index_ok g5 ?_
          have e3 : (planT l [] (pgs 198)).1.length = (lvs [] (planC l [] (pgs 198))).length := g6
          rw [e3, e4]
          omega
        have iT : (indexE (planT l hv fr).1).2 = true := by
          have g0 : Gd 0 0 (chainsF l ⟨knF hv, fr, [], 0⟩).2 := ⟨h1.jT.pg, .inl ⟨h1.eT, Nat.zero_le _⟩⟩
          obtain ⟨_, g3⟩ := Gd.slots (lvs [] (planC l hv fr)) (lo := -1) g0 lfT (lvs_asc _ [] (-1) okT (chainsF_kin l _ (-1) a1))
          obtain ⟨g5, g6⟩ := g3 h2'.eT
          refine index_ok g5 ?_
          have e3 : (planT l hv fr).1.length = (lvs [] (planC l hv fr)).length := g6
          rw [e3, ← e2, e4]
          omega
        unfold planZ
        rw [iS, iT]
        rcases iso_put h2' (.index _ _ hc2 iS iT) with ⟨E3, h3, _, he3, ⟨q, hq, eq⟩, hn3⟩ | hk
        · refine .inl ⟨E3, h3, fun b => ?_⟩
          unfold planB
          rw [List.mem_cons, List.mem_append]
          constructor
          · rintro ⟨p, hp, rfl⟩
            rcases hn3 p hp with hp | hp
            · rcases hn2 p hp with hp | hp
              · rcases hn1 p hp with hp | hp
                · cases hp
                · exact .inr (.inr hp)
              · exact .inr (.inl hp)
            · exact .inl hp
          · rintro (rfl | hb | hb)
            · exact ⟨q, hq, eq⟩
            · obtain ⟨p, hp, e⟩ := hb2 b hb
              exact ⟨p, he3 p hp, e⟩
            · obtain ⟨p, hp, e⟩ := hb1 b hb
              exact ⟨p, he3 p (he2 p hp), e⟩
        · exact .inr hk
      · exact .inr (put_rk hk _ _ _ _)
    · exact .inr (put_rk (slots_rk _ _ hk) _ _ _ _)
  rcases key with ⟨E, hE, hB⟩ | hk
  · have hn0 := hne hE.eS
    have hpos : 0 < E.length := by
      obtain ⟨p, hp, _⟩ := (hB (indexE (planT l hv fr).1).1).2 (by unfold planB; exact List.mem_cons_self)
      exact List.length_pos_of_mem hp
    refine .inl ⟨?_, by rw [hn0, ← hE.len]; exact hpos, E.map (·.2), ?_, ?_, fun b => ?_, fun b hb => ?_⟩
    · unfold planE
      rw [if_pos hA, if_neg a3, if_pos hE.eT]
    · have hn := hE.nod
      unfold List.Nodup at hn ⊢
      rw [List.pairwise_map] at hn ⊢
      exact hn.imp_of_mem (fun {p q} hp hq h e => h ((hE.same p hp q hq).2 e))
    · rw [List.length_map, hE.len, hn0]
    · rw [← hB b, List.mem_map]
    · obtain ⟨p, hp, rfl⟩ := List.mem_map.1 hb
      exact (hE.kn p hp).2
  · refine .inr ⟨?_, ?_⟩
    · unfold planE
      rw [if_pos hA, if_neg a3, if_neg hk.1]
      exact hk.1
    · intro h0
      rw [hne (hne0 h0)]; exact hk.2 (hne0 h0)
end Go.Proofs.YtdhaoaehboonpaaGreat.V
end
section
namespace Go.Proofs.YtdhaoaehboonpaaGreat.V
open Go.RowKit Go.Proofs.YtdhaoaehboonpaaGreatW.PrintWords Go.Proofs.YtdhaoaehboonpaaGreatW.PrintLast Go.Proofs.YtdhaoaehboonpaaGreatW.PrintMore Go.Proofs.YtdhaoaehboonpaaGreatM
set_option linter.unusedVariables false
set_option linter.unusedSimpArgs false
theorem IsQ_lift {w0 w1 w : World} {g : Nat} {S : VP.PS} (h : VP.IsQ w1 w g S) (hb : Below w0.heap.size w0 w1) : VP.IsQ w0 w g S :=
  ⟨hb.trans (h.1.mono hb.size), (h.2.lower hb.size).mono (fun k hk => Nat.le_trans hb.size hk)⟩
theorem newS_std (n : Nat) (k : Nat) : Std (VP.newS n) n k :=
  ⟨rfl, .inl rfl, ⟨(by decide : (0 : Int) ≤ 0), (by decide : (0 : Int) ≤ 9223372036854775807)⟩, ⟨fun b hb => by obtain ⟨_, rfl⟩ := List.mem_replicate.1 hb; exact VP.zer_size _, fun p hp => by simp [VP.newS] at hp⟩, List.length_replicate⟩
def fmtS (n : Nat) (l : List R2) : VP.PS := writeS (VP.newS n) (planE l [] (pgs (n - 2))).1 1 (planE l [] (pgs (n - 2))).2.1 n
theorem plan_good {l hv : List R2} {fr : List Int} {n : Nat} (h : (planE l hv fr).2.2 = 0) (hf : ∀ x ∈ fr, 2 ≤ x ∧ x < (n : Int)) : ∀ x ∈ (planE l hv fr).1, goodW n x ∧ 2 ≤ x.1 := fun x hx => by
  have h1 := hf _ (plan_out h x hx)
  exact ⟨⟨⟨by omega, h1.2⟩, plan_full l hv fr x hx⟩, h1.1⟩
theorem fmt_root {l : List R2} {n : Nat} (hn : 8 ≤ n) (h : (planE l [] (pgs (n - 2))).2.2 = 0) : 2 ≤ (planE l [] (pgs (n - 2))).2.1 ∧ (planE l [] (pgs (n - 2))).2.1 < (n : Int) := by
  obtain ⟨b, hb⟩ := plan_rootmem h
  rw [List.nil_append] at hb
  have h1 := plan_good (n := n) h (fun x hx => by have := pgs_mem.1 hx; omega) _ hb
  exact ⟨h1.2, h1.1.1.2⟩
theorem fmt_ok {l : List R2} {n : Nat} (h : 8 ≤ n) (h2 : n ≤ 200) (hp : (planE l [] (pgs (n - 2))).2.2 = 0) : Cr.okC 1 (planE l [] (pgs (n - 2))).2.1 n = true := by
  obtain ⟨h3, h4⟩ := fmt_root h hp
  exact Cr.okC_iff.2 ⟨by decide, by decide, by omega, by omega, h3, h4⟩
def FmtR (w : World) (n : Int) (l : List R2) (e : Ending) (w' : World) : Prop :=
  ((n < 8 ∨ 200 < n) ∧ e = .returned (.tuple #[.pointer none, .int .i64 9])) ∨
  ((8 ≤ n ∧ n ≤ 200) ∧ (planE l [] (pgs (n.toNat - 2))).2.2 ≠ 0 ∧ e = .returned (.tuple #[.pointer none, .int .i64 (planE l [] (pgs (n.toNat - 2))).2.2])) ∨
  ((8 ≤ n ∧ n ≤ 200) ∧ (planE l [] (pgs (n.toNat - 2))).2.2 = 0 ∧ ∃ g, e = .returned (.tuple #[.pointer (some ⟨g, 0, none⟩), .int .i64 0]) ∧ VP.IsQ w w' g (fmtS n.toNat l))
set_option maxHeartbeats 8000000 in
set_option maxRecDepth 100000 in
theorem format_any (w : World) (n : Int) (A : Option Addr) (c : Nat) (l : List R2) (h : Kd.C kR w A l.length l) (hc : l.length ≤ c) (hl : l.length ≤ 9000) :
    Calls Tryz.prog 12 #[.int .i64 n, .slice A l.length c] w fun e w' => FmtR w n l e w' ∧ Below w.heap.size w w' := by
  have HB := Aside0.mk (Below.refl w.heap.size w)
  have hFR : ∀ e w', FmtR w n l e w' ↔ (((n < 8 ∨ 200 < n) ∧ e = .returned (.tuple #[.pointer none, .int .i64 9])) ∨
  ((8 ≤ n ∧ n ≤ 200) ∧ (planE l [] (pgs (n.toNat - 2))).2.2 ≠ 0 ∧ e = .returned (.tuple #[.pointer none, .int .i64 (planE l [] (pgs (n.toNat - 2))).2.2])) ∨
  ((8 ≤ n ∧ n ≤ 200) ∧ (planE l [] (pgs (n.toNat - 2))).2.2 = 0 ∧ ∃ g, e = .returned (.tuple #[.pointer (some ⟨g, 0, none⟩), .int .i64 0]) ∧ VP.IsQ w w' g (fmtS n.toNat l))) := fun _ _ => Iff.rfl
  obtain ⟨FR, hFRd⟩ : ∃ OR, OR = FmtR w n l := ⟨_, rfl⟩
  rw [← hFRd] at hFR ⊢
  have HFR := Aside0.mk hFR
  obtain ⟨ln, hln⟩ : ∃ x, x = l.length := ⟨_, rfl⟩
  by_cases h8 : n < 8
  · have d1 : decide (n < 8) = true := decide_eq_true h8
    have HN := Aside0.mk h8
    rw [← hln]
    clear hFR hFRd h hc hl h8 hln
    go_enter Tryz.func12, Tryz.ntmps12
    go_wp2
    go_ret2
    exact ⟨(HFR.out _ _).2 (.inl ⟨.inl HN.out, rfl⟩), HB.out⟩
  · have d1 : decide (n < 8) = false := decide_eq_false h8
    by_cases h200 : 200 < n
    · have d2 : decide (200 < n) = true := decide_eq_true h200
      have HN := Aside0.mk h200
      rw [← hln]
      clear hFR hFRd h hc hl h8 h200 hln
      go_enter Tryz.func12, Tryz.ntmps12
      go_wp2
      go_ret2
      exact ⟨(HFR.out _ _).2 (.inl ⟨.inr HN.out, rfl⟩), HB.out⟩
    · have d2 : decide (200 < n) = false := decide_eq_false h200
      obtain ⟨m, rfl⟩ : ∃ m : Nat, n = ((m + 2 : Nat) : Int) := ⟨(n - 2).toNat, by omega⟩
      have em : ((m + 2 : Nat) : Int).toNat - 2 = m := by omega
      have em2 : ((m + 2 : Nat) : Int).toNat = m + 2 := by omega
      have hm6 : 6 ≤ m := by omega
      have hm198 : m ≤ 198 := by omega
      have hfr := fun (W : World) => free_any W m (by omega) none 0 [] (Kd.C_nil _ _) (by simp)
      rw [freeL_nil] at hfr
      simp only [List.length_nil] at hfr
      have hcast : ((m : Int) + 2) = ((m + 2 : Nat) : Int) := by omega
      rw [hcast] at hfr
      have HF := Aside0.mk hfr
      have hpl := fun (W : World) (hb : Below w.heap.size w W) (D : Option Addr) (f : Nat) (h3 : Kd.C (Kd.int .i64) W D (pgs m).length (pgs m)) (hf : (pgs m).length ≤ f) => plan_any W A c l none 0 [] D f (pgs m) (Kd.C_below h hb) hc hl (Kd.C_nil _ _) (Nat.le_refl _) (by simp) (by intro x hx; cases hx) h3 hf (by rw [pgs_length]; omega)
      simp only [pgs_length, List.length_nil] at hpl
      have hroot := @fmt_ok l (m + 2) (by omega) (by omega)
      have hgood := @plan_good l [] (pgs m) (m + 2)
      have hlen := planE_len l [] (pgs m)
      rw [pgs_length] at hlen
      have hFR := HFR.out
      rw [em, em2] at hFR
      have hfm : fmtS (m + 2) l = writeS (VP.newS (m + 2)) (planE l [] (pgs m)).1 1 (planE l [] (pgs m)).2.1 (m + 2 : Nat) := rfl
      rw [show m + 2 - 2 = m from rfl] at hroot
      obtain ⟨⟨O, rt, ec⟩, hP⟩ : ∃ P, P = planE l [] (pgs m) := ⟨_, rfl⟩
      rw [← hP] at hpl hroot hgood hlen hFR hfm
      simp only [] at hpl hroot hgood hlen hFR hfm
      have HFR2 := Aside0.mk hFR
      have HPL := Aside0.mk hpl
      have HM := Aside0.mk (And.intro hm6 hm198)
      have HLEN := Aside0.mk hlen
      have HGOOD := Aside0.mk (fun (h0 : ec = 0) => hgood h0 (fun x hx => by have := pgs_mem.1 hx; omega))
      have HROOT := Aside0.mk hroot
      have HFM := Aside0.mk hfm
      rw [← hln] at HPL ⊢
      clear hFRd h hc hl h8 h200 hln hfr hpl hroot hgood hlen hFR hfm hP HFR hm6 hm198 em em2
      have d1 : decide ((((m + 2 : Nat) : Int)) < 8) = false := d1
      obtain ⟨N, hN⟩ : ∃ N, N = m + 2 := ⟨_, rfl⟩
      rw [← hN] at d1 d2 HF HFR2 HROOT HGOOD HFM ⊢
      have HNM := Aside0.mk hN
      have HNEW := Aside0.mk (fun (W : World) => VP.new_any W N (by have := HM.out; omega) (by have := HM.out; omega))
      clear hN hcast
      go_enter Tryz.func12, Tryz.ntmps12
      go_upto_region 4 with (first
        | (go_at_call 43; (with_reducible refine (HF.out _).mono ?_); rintro e w1 ⟨v1, rfl, hr, hb⟩; obtain ⟨D, f, ev⟩ := Kd.R_slice hr; rw [pgs_length] at ev; subst ev; have HB1 := Aside0.mk (below_step HB.out hb); have HPC := Aside0.mk (HPL.out _ HB1.out D f (by have := (Kd.R_reads' hr).2.2; rwa [pgs_length] at this) (Kd.R_reads' hr).2.1); clear hr hb HB HF HPL)
        | (go_at_call 42; (with_reducible refine (HPC.out).mono ?_); rintro e w2 ⟨v2, rfl, hr, hb⟩; have HR2 := Aside0.mk (Kd.R_lower hr HB1.out.size); have HB2 := Aside0.mk (below_step HB1.out hb); clear hr hb HB1 HPC))
      by_cases he : ec = 0
      · subst he
        have hok := HROOT.out rfl
        have hgd := HGOOD.out rfl
        obtain ⟨A2, c2, ev⟩ := Kd.R_slice HR2.out
        subst ev
        have hw := fun (W : World) (g : Nat) (hq : VP.IsQ w W g (VP.newS N)) (hr : kR.R 106 W w.heap.size (fun _ => True) (.slice A2 O.length c2) O) => vwrite_any hq rfl (newS_std N 0).pages A2 c2 O (by show 0 + O.length ≤ 900; have := HLEN.out; have := HM.out; omega) hr (fun x hx => by have h1 := (hgd x hx).1.1; have := HM.out; have := HNM.out; exact wfI_small (by omega) (by omega)) 1 rt N hok
        have hwok := write_ok (S := VP.newS N) (N := N) (l := O) (g := 1) (r := rt) (p := N) (newS_std N _) rfl rfl (by have := HNM.out; omega) (fun x hx => (hgd x hx).1)
        rw [hwok.1] at hw
        rw [← HFM.out] at hw
        have HW := Aside0.mk hw
        obtain ⟨lo, hlo⟩ : ∃ lo, lo = O.length := ⟨_, rfl⟩
        rw [← hlo] at HW HR2 ⊢
        clear hok hgd hw hwok HROOT HGOOD hlo
        go_upto_region 7 with (go_at_call 44; (with_reducible refine (HNEW.out _).mono ?_); rintro e w3 ⟨g, rfl, hi3, hb3⟩; have HQ3 := Aside0.mk (show VP.IsQ w w3 g (VP.newS N) from ⟨below_step HB2.out hb3, (hi3.lower HB2.out.size).mono (fun k hk => Nat.le_trans HB2.out.size hk)⟩); have HR3 := Aside0.mk (Kd.R_below HR2.out hb3); clear hi3 hb3 HB2 HR2 HNEW)
        go_wp2_with (go_at_call 45; (with_reducible refine (HW.out _ _ HQ3.out HR3.out).mono ?_); rintro e w4 ⟨rfl, hq4, _⟩; have HQ4 := Aside0.mk hq4; clear hq4 HQ3 HR3)
        go_ret2
        exact ⟨(HFR2.out _ _).2 (.inr (.inr ⟨by have := HM.out; have := HNM.out; omega, by trivial, g, rfl, HQ4.out⟩)), HQ4.out.1⟩
      · have q1 : (ec != 0) = true := by simpa using he
        have HNE := Aside0.mk he
        clear he
        go_wp2
        go_ret2
        exact ⟨(HFR2.out _ _).2 (.inr (.inl ⟨by have := HM.out; have := HNM.out; omega, HNE.out, rfl⟩)), HB2.out⟩
set_option maxHeartbeats 8000000 in
set_option maxRecDepth 100000 in
theorem need_any (w : World) (A : Option Addr) (c : Nat) (l : List R2) (h : Kd.C kR w A l.length l) (hc : l.length ≤ c) (hl : l.length ≤ 9000) :
    Calls Tryz.prog 30 #[.slice A l.length c] w fun e w' => e = .returned (.int .i64 (needE l : Int)) ∧ Below w.heap.size w w' := by
  have hpl := fun (W : World) (hb : Below w.heap.size w W) (D : Option Addr) (f : Nat) (h3 : Kd.C (Kd.int .i64) W D (pgs 198).length (pgs 198)) (hf : (pgs 198).length ≤ f) => plan_any W A c l none 0 [] D f (pgs 198) (Kd.C_below h hb) hc hl (Kd.C_nil _ _) (Nat.le_refl _) (by simp) (by intro x hx; cases hx) h3 hf (by rw [pgs_length]; omega)
  simp only [pgs_length, List.length_nil] at hpl
  obtain ⟨nd, hnd⟩ : ∃ n, n = needE l := ⟨_, rfl⟩
  have hnd2 : nd = (planE l [] (pgs 198)).1.length := hnd
  obtain ⟨⟨O, rt, ec⟩, hP⟩ : ∃ P, P = planE l [] (pgs 198) := ⟨_, rfl⟩
  rw [← hP] at hpl hnd2
  simp only [] at hpl hnd2
  obtain ⟨ln, hln⟩ : ∃ x, x = l.length := ⟨_, rfl⟩
  rw [← hln] at hpl ⊢
  rw [← hnd]
  have HPL := Aside0.mk hpl
  have HND := Aside0.mk hnd2
  have HB0 := Aside0.mk (Below.refl w.heap.size w)
  clear hpl hnd hnd2 hP hln h hc hl
  go_enter Tryz.func30, Tryz.ntmps30
  go_wp2_with (fail)
  go_loopg [3, 4] 198 (fun kq v3 v4 W => ∃ (i : Nat), v4 = .int .i64 ((i : Int) + 2) ∧ Aside0 (i + kq = 198) ∧ Aside0 ((Kd.int .i64).R 3 W w.heap.size (fun _ => True) v3 (pgs i)) ∧ Aside0 (Below w.heap.size w W))
  case atStart => exact ⟨0, rfl, ⟨rfl⟩, ⟨Kd.R_nil _ _ _ _ _⟩, HB0⟩
  case round =>
    clear HB0
    obtain ⟨i, rfl, HI, HR, HB⟩ := hrel
    rename World => W
    cases gk with
    | zero =>
      have hi : i = 198 := by have := HI.out; omega
      subst hi
      obtain ⟨D, f, ev⟩ := Kd.R_slice HR.out
      rw [pgs_length] at ev
      subst ev
      have hrd := Kd.R_reads' HR.out
      have HRD := Aside0.mk (And.intro hrd.2.2 hrd.2.1)
      clear hrd
      go_wp2_with (go_at_call 42; (with_reducible refine (HPL.out _ HB.out _ _ HRD.out.1 HRD.out.2).mono ?_); rintro e w2 ⟨v, rfl, hr, hb⟩; obtain ⟨A2, c2, ev⟩ := Kd.R_slice hr; rw [← HND.out] at ev; subst ev; have HB2 := Aside0.mk (below_step HB.out hb); clear hr hb HR)
      go_ret
      exact ⟨rfl, HB2.out⟩
    | succ gk =>
      have hi : i < 198 := by have := HI.out; omega
      have d1 : decide ((i : Int) + 2 < 200) = true := decide_eq_true (by omega)
      have d2 : decide (i < 198) = true := decide_eq_true hi
      have d3 : ((i : Int) < 198) = True := eq_true (by omega)
      have d4 : decide ((i : Int) < 198) = true := decide_eq_true (by omega)
      have hq : (i : Int) + 2 + 1 = ((i + 1 : Nat) : Int) + 2 := by omega
      have hlm : (pgs i).length ≤ 1000 := by rw [pgs_length]; omega
      go_wp2_with (first | ((with_reducible refine gate_builtin (b := .append) (xs := #[.tmp 12, .tmp 14]) rfl ?_); at_builtin; go_must (refine Kd.R_append (Kd.int .i64) w.heap.size rfl (.tmp 12) (.tmp 14) 40 3 (.int .i64 0) 8 rfl Tryz.underlying40 info3 rfl (by decide) (by omega) u3 (pgs i) ((i : Int) + 2) [.int .i64 ((i : Int) + 2)] (fun _ => True) (fun _ => False) rfl rfl rfl (fun _ hk => hk.elim) (fun _ _ => trivial) HR.out HB.out HB.out.size (by omega) ?_); intro v3 w3 ho_ hb_ hg_ hat_; have HR3 := Aside0.mk ho_; have HB3 := Aside0.mk hb_; clear ho_ hb_ hg_ hat_))
      go_roundg gk
      case measure => omega
      case rel =>
        refine ⟨i + 1, ?_, ⟨by have := HI.out; omega⟩, ⟨?_⟩, HB3⟩
        · first | (rw [← hq]; first | rfl | go_num) | go_num
        · rw [pgs_snoc]; exact HR3.out
end Go.Proofs.YtdhaoaehboonpaaGreat.V
end
section
namespace Go.Proofs
def Tryz.clW_ren : Go.Shelf.Ren := ⟨fun | 41 => 48 | n => n, fun | 22 => 91 | 23 => 106 | 4 => 4 | n => n, fun | n => n⟩
theorem Tryz.clW : Go.Proofs.SlLaysE0.n41 Tryz.prog Tryz.clW_ren := {
  mixed := by kernel_rfl
  f41 := ⟨Tryz.f48.name, by decide, Tryz.func48.trans (congrArg some (by kernel_rfl))⟩
  t4 := Tryz.underlying4
  a4 := Tryz.isAgg4
  z4 := Tryz.sizeOf4
  v4 := Tryz.zeroValue4
  t22 := Tryz.underlying91
  a22 := Tryz.isAgg91
  z22 := Tryz.sizeOf91
  v22 := Tryz.zeroValue91 }
def Tryz.clR_ren : Go.Shelf.Ren := ⟨fun | 41 => 52 | n => n, fun | 22 => 31 | 23 => 50 | 4 => 4 | n => n, fun | n => n⟩
theorem Tryz.clR : Go.Proofs.SlLaysE0.n41 Tryz.prog Tryz.clR_ren := {
  mixed := by kernel_rfl
  f41 := ⟨Tryz.f52.name, by decide, Tryz.func52.trans (congrArg some (by kernel_rfl))⟩
  t4 := Tryz.underlying4
  a4 := Tryz.isAgg4
  z4 := Tryz.sizeOf4
  v4 := Tryz.zeroValue4
  t22 := Tryz.underlying31
  a22 := Tryz.isAgg31
  z22 := Tryz.sizeOf31
  v22 := Tryz.zeroValue31 }
end Go.Proofs
namespace Go.Proofs.YtdhaoaehboonpaaGreat.V
open Go.RowKit Go.Proofs.YtdhaoaehboonpaaGreatW.PrintWords Go.Proofs.YtdhaoaehboonpaaGreatW.PrintLast Go.Proofs.YtdhaoaehboonpaaGreatW.PrintMore Go.Proofs.YtdhaoaehboonpaaGreatM
set_option linter.unusedVariables false
set_option linter.unusedSimpArgs false
theorem info_at {t : Nat} (e : (Tryz.prog.info? t).map (fun i => (i.zero, i.size, i.bytes)) = some (some (.agg #[(.int .i64 0), (.string ⟨#[]⟩)]), 2, 24)) : ∃ i, Tryz.prog.info? t = some i ∧ i.zero = some (.agg #[(.int .i64 0), (.string ⟨#[]⟩)]) ∧ i.size = 2 ∧ i.bytes = 24 := by
  cases h : Tryz.prog.info? t with
  | none => rw [h] at e; cases e
  | some i =>
    rw [h] at e
    simp at e
    exact ⟨i, rfl, e.1, e.2.1, e.2.2⟩
theorem size_106 : ∀ w, (Go.sizeOf 106).run Tryz.prog w = .ok 2 w := fun w => by kernel_rfl
theorem size_50 : ∀ w, (Go.sizeOf 50).run Tryz.prog w = .ok 2 w := fun w => by kernel_rfl
theorem clone_at {f t e : Nat} {ren : Go.Shelf.Ren}
    (hnil : ∀ w, Calls Tryz.prog f #[.slice none 0 0] w fun e w' => e = .returned (.slice none 0 0) ∧ w' = w)
    (hone : ∀ (g cap n : Nat) (inner : List Value) (w : World), inner.length = n * 2 → n ≤ 1000000 → (∀ (j : Nat) (u : Value), inner[j]? = some u → w.cell? ⟨g, 0 + j, none⟩ = some u) → (∀ u ∈ inner, (∃ k x, u = .int k x) ∨ ∃ s, u = .string s) → Calls Tryz.prog f #[.slice (some ⟨g, 0, none⟩) n cap] w fun e' w' => ∃ v', e' = .returned v' ∧ w'.ownsRow w.heap.size e 2 v' n inner ∧ Below w.heap.size w w')
    {w : World} {base : Nat} {F : Nat → Prop} {v : Value} {xs : List R2} (h : kR.R e w base F v xs) (hl : xs.length ≤ 1000000) :
    Calls Tryz.prog f #[v] w fun e' w' => ∃ v', e' = .returned v' ∧ kR.R e w' w.heap.size (fun _ => True) v' xs ∧ Below w.heap.size w w' := by
  obtain ⟨h0, inner, hown, hr⟩ := h
  obtain ⟨hlen, hnl | ⟨g, cap, cur, rfl, hg, hh, hcap, hmax, hsz, htk⟩⟩ := hown
  · obtain ⟨rfl, hx⟩ := hnl
    have hx0 : xs = [] := by first | exact hx | exact hx.1 | (exact List.eq_nil_of_length_eq_zero hx) | (exact List.eq_nil_of_length_eq_zero hx.1)
    subst hx0
    refine (hnil w).mono ?_
    rintro e w' ⟨rfl, rfl⟩
    exact ⟨_, rfl, Kd.R_nil _ _ _ _ _, Below.refl _ _⟩
  · have e2 : kR.sz = 2 := rfl
    rw [e2] at hlen hsz htk
    refine (hone g cap xs.length inner w hlen hl ?_ ?_).mono ?_
    · intro j u hu
      rw [Nat.zero_add, blk_cell hh]
      have : (cur.toList.take (xs.length * 2))[j]? = some u := by rw [htk]; exact hu
      rw [List.getElem?_take] at this
      split at this
      · simpa using this
      · cases this
    · intro u hu
      obtain ⟨j, hj⟩ := List.getElem?_of_mem hu
      have hj2 : j < xs.length * 2 := by
        have := (List.getElem?_eq_some_iff.1 hj).1
        omega
      have hp := hr.2 (j / 2) _ (List.getElem?_eq_getElem (show j / 2 < xs.length by omega))
      have hc := kR_openM hp
      have hu2 : ((inner.drop (j / 2 * kR.sz)).take kR.sz)[j % 2]? = some u := by
        rw [e2, List.getElem?_take, if_pos (by omega), List.getElem?_drop, show j / 2 * 2 + j % 2 = j by omega]
        exact hj
      rw [hc] at hu2
      have := List.mem_of_getElem? hu2
      simp at this
      rcases this with rfl | rfl
      · exact .inl ⟨_, _, rfl⟩
      · exact .inr ⟨_, rfl⟩
    · rintro e w' ⟨v', rfl, ho, hb⟩
      refine ⟨v', rfl, ⟨fun _ _ => trivial, inner, ho, hr.imp_ ?_⟩, hb⟩
      intro x cs hx
      rw [kR_openM hx]
      exact kR_mkM _ _ _ _
theorem cloneW {w : World} {base : Nat} {F : Nat → Prop} {v : Value} {xs : List R2} (h : kR.R 106 w base F v xs) (hl : xs.length ≤ 1000000) :
    Calls Tryz.prog 48 #[v] w fun e' w' => ∃ v', e' = .returned v' ∧ kR.R 106 w' w.heap.size (fun _ => True) v' xs ∧ Below w.heap.size w w' := by
  obtain ⟨i0, hi, hz0, hz1, hz2⟩ := info_at info106
  refine clone_at (f := 48) (t := 91) (ren := Tryz.clW_ren) (fun w => Go.Proofs.AnyE.slices_Clone_nil Go.Proofs.Tryz.clW 0 0 w) (fun g cap n inner w h1 h2 h3 h4 => ?_) h hl
  refine (Go.Proofs.AnyE.slices_Clone Go.Proofs.Tryz.clW i0 _ 2 24 hi hz0 hz1 hz2 rfl (by decide) size_106 g 0 n cap inner w h1 (by unfold maxLen; omega) (by omega) h3 (fun u hu => by rcases h4 u hu with ⟨k, x, rfl⟩ | ⟨s, rfl⟩ <;> rfl)).mono ?_
  rintro e w' ⟨v', rfl, ho, hne, hb⟩
  exact ⟨v', rfl, ho, hb⟩
theorem cloneR {w : World} {base : Nat} {F : Nat → Prop} {v : Value} {xs : List R2} (h : kR.R 50 w base F v xs) (hl : xs.length ≤ 1000000) :
    Calls Tryz.prog 52 #[v] w fun e' w' => ∃ v', e' = .returned v' ∧ kR.R 50 w' w.heap.size (fun _ => True) v' xs ∧ Below w.heap.size w w' := by
  obtain ⟨i0, hi, hz0, hz1, hz2⟩ := info_at info50
  refine clone_at (f := 52) (t := 31) (ren := Tryz.clR_ren) (fun w => Go.Proofs.AnyE.slices_Clone_nil Go.Proofs.Tryz.clR 0 0 w) (fun g cap n inner w h1 h2 h3 h4 => ?_) h hl
  refine (Go.Proofs.AnyE.slices_Clone Go.Proofs.Tryz.clR i0 _ 2 24 hi hz0 hz1 hz2 rfl (by decide) size_50 g 0 n cap inner w h1 (by unfold maxLen; omega) (by omega) h3 (fun u hu => by rcases h4 u hu with ⟨k, x, rfl⟩ | ⟨s, rfl⟩ <;> rfl)).mono ?_
  rintro e w' ⟨v', rfl, ho, hne, hb⟩
  exact ⟨v', rfl, ho, hb⟩
end Go.Proofs.YtdhaoaehboonpaaGreat.V
end
section
namespace Go.Proofs.YtdhaoaehboonpaaGreat.V
open Go.RowKit Go.Proofs.YtdhaoaehboonpaaGreatW.PrintWords Go.Proofs.YtdhaoaehboonpaaGreatW.PrintLast Go.Proofs.YtdhaoaehboonpaaGreatW.PrintMore Go.Proofs.YtdhaoaehboonpaaGreatM
set_option linter.unusedVariables false
set_option linter.unusedSimpArgs false
structure VS where
  P : VP.PS
  gen : Int
  root : Int
  pages : Nat
  recs : List R2
  live : List R2
  dead : Bool
def IsV (w0 w : World) (gv g : Nat) (V : VS) : Prop :=
  VP.IsQ w0 w g V.P ∧ ∃ lv vv, w.heap[gv]? = some (.cells #[.pointer (some ⟨g, 0, none⟩), .int .i64 V.gen, .int .i64 V.root, .int .i64 (V.pages : Int), lv, vv, .bool V.dead] 103 (0, 0)) ∧ w0.heap.size ≤ gv ∧ kR.R 50 w w0.heap.size (fun _ => True) lv V.recs ∧ kR.R 106 w w0.heap.size (fun _ => True) vv V.live
theorem cell103 {w : World} {g : Nat} {a b c d e f k : Value} (h : w.heap[g]? = some (.cells #[a, b, c, d, e, f, k] 103 (0, 0))) :
    w.cell? ⟨g, 0, none⟩ = some a ∧ w.cell? ⟨g, 1, none⟩ = some b ∧ w.cell? ⟨g, 2, none⟩ = some c ∧ w.cell? ⟨g, 3, none⟩ = some d ∧ w.cell? ⟨g, 4, none⟩ = some e ∧ w.cell? ⟨g, 5, none⟩ = some f ∧ w.cell? ⟨g, 6, none⟩ = some k :=
  ⟨(blk_cell h 0).trans rfl, (blk_cell h 1).trans rfl, (blk_cell h 2).trans rfl, (blk_cell h 3).trans rfl, (blk_cell h 4).trans rfl, (blk_cell h 5).trans rfl, (blk_cell h 6).trans rfl⟩
section
variable {w0 w w' : World} {gv g : Nat} {V : VS}
theorem IsV.below (h : IsV w0 w gv g V) (hb : Below w.heap.size w w') : IsV w0 w' gv g V := by
  obtain ⟨h1, lv, vv, h2, h3, h4, h5⟩ := h
  exact ⟨h1.below hb, lv, vv, (hb.block _ (blk_lt h2)).trans h2, h3, Kd.R_below h4 hb, Kd.R_below h5 hb⟩
theorem IsV.cells (h : IsV w0 w gv g V) : ∃ A c B d, w.heap[gv]? = some (.cells #[.pointer (some ⟨g, 0, none⟩), .int .i64 V.gen, .int .i64 V.root, .int .i64 (V.pages : Int), .slice A V.recs.length c, .slice B V.live.length d, .bool V.dead] 103 (0, 0)) ∧ kR.R 50 w w0.heap.size (fun _ => True) (.slice A V.recs.length c) V.recs ∧ kR.R 106 w w0.heap.size (fun _ => True) (.slice B V.live.length d) V.live := by
  obtain ⟨h1, lv, vv, h2, h3, h4, h5⟩ := h
  obtain ⟨A, c, rfl⟩ := Kd.R_slice h4
  obtain ⟨B, d, rfl⟩ := Kd.R_slice h5
  exact ⟨A, c, B, d, h2, h4, h5⟩
end
set_option maxHeartbeats 8000000 in
set_option maxRecDepth 100000 in
theorem gen_any {w0 w : World} {gv g : Nat} {V : VS} (h : IsV w0 w gv g V) :
    Calls Tryz.prog 16 #[.pointer (some ⟨gv, 0, none⟩)] w fun e w' => e = .returned (.int .i64 V.gen) ∧ Below w.heap.size w w' := by
  obtain ⟨A, c, B, d, h2, _⟩ := h.cells
  obtain ⟨c0, c1, c2, c3, c4, c5, c6⟩ := cell103 h2
  have HB := Aside0.mk (Below.refl w.heap.size w)
  clear h h2
  go_enter Tryz.func16, Tryz.ntmps16
  go_wp2
  go_ret
  exact ⟨rfl, HB.out⟩
set_option maxHeartbeats 8000000 in
set_option maxRecDepth 100000 in
theorem records_any {w0 w : World} {gv g : Nat} {V : VS} (h : IsV w0 w gv g V) (hl : V.recs.length ≤ 1000000) :
    Calls Tryz.prog 18 #[.pointer (some ⟨gv, 0, none⟩)] w fun e w' => ∃ v, e = .returned v ∧ kR.R 50 w' w.heap.size (fun _ => True) v V.recs ∧ Below w.heap.size w w' := by
  obtain ⟨A, c, B, d, h2, h3, _⟩ := h.cells
  obtain ⟨c0, c1, c2, c3, c4, c5, c6⟩ := cell103 h2
  have HC := Aside0.mk (cloneR h3 hl)
  obtain ⟨n, hn⟩ : ∃ n, n = V.recs.length := ⟨_, rfl⟩
  rw [← hn] at HC c4
  clear h h2 h3 hl hn
  go_enter Tryz.func18, Tryz.ntmps18
  go_wp2_with (go_at_call 52; (with_reducible refine (HC.out).mono ?_); rintro e w1 ⟨v, rfl, hr, hb⟩; have HR := Aside0.mk hr; have HB := Aside0.mk hb; clear hr hb)
  go_ret
  exact ⟨v, rfl, HR.out, HB.out⟩
set_option maxHeartbeats 8000000 in
set_option maxRecDepth 100000 in
theorem vfree_any {w0 w : World} {gv g : Nat} {V : VS} (h : IsV w0 w gv g V) {m : Nat} (hm : V.pages = m + 2) (hm2 : m ≤ 1000) (hl : V.live.length ≤ 1000000) :
    Calls Tryz.prog 23 #[.pointer (some ⟨gv, 0, none⟩)] w fun e w' => ∃ v, e = .returned v ∧ (Kd.int .i64).R 3 w' w.heap.size (fun _ => True) v (freeL m V.live) ∧ Below w.heap.size w w' := by
  obtain ⟨A, c, B, d, h2, _, h3⟩ := h.cells
  obtain ⟨c0, c1, c2, c3, c4, c5, c6⟩ := cell103 h2
  have hcast : ((V.pages : Nat) : Int) = (m : Int) + 2 := by rw [hm]; omega
  rw [hcast] at c3
  have HC := Aside0.mk (fun (W : World) (hb : Below w.heap.size w W) => free_any W m hm2 B d V.live (Kd.R_reads' (Kd.R_below h3 hb)).2.2 hl)
  obtain ⟨n, hn⟩ : ∃ n, n = V.live.length := ⟨_, rfl⟩
  rw [← hn] at HC c5
  have HD := Aside0.mk (below_drew (Below.refl w.heap.size w))
  clear h h2 h3 hl hn hm hcast
  go_enter Tryz.func23, Tryz.ntmps23
  go_upto_region 3 with (fail)
  go_still_tail 9, (by kernel_rfl)
  change wpList _ _ _ _ _ w.drew
  go_wp2_with (go_at_call 43; (with_reducible refine (HC.out _ HD.out).mono ?_); rintro e w1 ⟨v, rfl, hr, hb⟩; have HR := Aside0.mk hr; have HB := Aside0.mk (below_step HD.out hb); clear hr hb)
  go_ret
  exact ⟨v, rfl, HR.out, HB.out⟩
set_option maxHeartbeats 8000000 in
set_option maxRecDepth 100000 in
theorem live_any {w0 w : World} {gv g : Nat} {V : VS} (h : IsV w0 w gv g V) (hl : V.live.length ≤ 1000000) :
    Calls Tryz.prog 22 #[.pointer (some ⟨gv, 0, none⟩)] w fun e w' => ∃ v, e = .returned v ∧ (Kd.int .i64).R 3 w' w.heap.size (fun _ => True) v (V.live.map (·.1)) ∧ Below w.heap.size w w' := by
  obtain ⟨A, c, B, d, h2, _, h3⟩ := h.cells
  obtain ⟨c0, c1, c2, c3, c4, c5, c6⟩ := cell103 h2
  obtain ⟨l, hll⟩ : ∃ l, l = V.live := ⟨_, rfl⟩
  rw [← hll] at h3 c5 hl ⊢
  have HC := Aside0.mk (Kd.R_reads' h3).2.2
  obtain ⟨hv, hhv⟩ : ∃ hv, hv = l.map (·.1) := ⟨_, rfl⟩
  obtain ⟨n, hn⟩ : ∃ n, n = l.length := ⟨_, rfl⟩
  have HN := Aside0.mk hn
  have hvl : hv.length = n := by rw [hhv, List.length_map, hn]
  have HV := Aside0.mk hhv
  have HVL := Aside0.mk hvl
  rw [← hn] at HC c5 hl
  rw [← hhv]
  clear h h2 h3 hn hll hhv hvl
  go_enter Tryz.func22, Tryz.ntmps22
  go_wp2_with (fail)
  go_loopg [3, 13] n (fun kx v3 v13 wr => ∃ i : Nat, v13 = .int .i64 i ∧ Aside0 (i + kx = n) ∧ Aside0 ((Kd.int .i64).R 3 wr w.heap.size (fun k => w.heap.size ≤ k) v3 (hv.take i)) ∧ Aside0 (Below w.heap.size w wr))
  case atStart => exact ⟨0, rfl, ⟨by omega⟩, ⟨Kd.R_nil _ _ _ _ _⟩, ⟨Below.refl _ _⟩⟩
  case round =>
    obtain ⟨i, rfl, HI, HR, HB⟩ := hrel
    cases gk with
    | zero =>
      have hi : i = n := by have := HI.out; omega
      subst hi
      have d1 : decide ((i : Int) < (i : Int)) = false := decide_eq_false (by omega)
      have d2 : decide (i < i) = false := decide_eq_false (by omega)
      have hR := HR.out
      rw [List.take_of_length_le (by have := HVL.out; omega)] at hR
      have HR2 := Aside0.mk hR
      clear hR
      go_wp2_with (fail)
      go_ret
      exact ⟨_, rfl, Kd.R_mono HR2.out (fun _ _ => trivial), HB.out⟩
    | succ gk =>
      have hi : i < n := by have := HI.out; omega
      have hil : i < l.length := by have := HN.out; omega
      have d1 : decide ((i : Int) < (n : Int)) = true := decide_eq_true (by omega)
      have d2 : decide (i < n) = true := decide_eq_true hi
      have d3 : (i < n) = True := eq_true hi
      have d4 : ((i : Int) < (n : Int)) = True := eq_true (by omega)
      have d5 : (0 ≤ (i : Int)) = True := eq_true (by omega)
      obtain ⟨ad, rfl, x0, x1⟩ := at_R (Kd.C_below HC.out HB.out) i hi
      have hvi : hv.take (i + 1) = hv.take i ++ [(atR l i).1] := by
        rw [List.take_succ_eq_append_getElem (by have := HVL.out; omega)]
        congr 2
        simp only [HV.out, List.getElem_map]
        unfold atR
        simp [List.getD, hil]
      obtain ⟨a, ha⟩ : ∃ a, a = (atR l i).1 := ⟨_, rfl⟩
      obtain ⟨b, hb⟩ : ∃ b, b = (atR l i).2 := ⟨_, rfl⟩
      rw [← ha] at x0 hvi
      rw [← hb] at x1
      have HVI := Aside0.mk hvi
      have hlt : (hv.take i).length ≤ 1000000 := by rw [List.length_take]; omega
      clear hvi ha hb hil
      go_wp2_with (first
        | ((with_reducible refine gate_builtin (b := .append) (xs := #[.tmp 17, .tmp 20]) rfl ?_); at_builtin; go_must (refine Kd.R_append (W := wr.alloc (.cells #[.int .i64 a, .string b] 106)) (Kd.int .i64) w.heap.size rfl (.tmp 17) (.tmp 20) 40 3 (.int .i64 0) 8 rfl Tryz.underlying40 info3 rfl (by decide) (by omega) u3 (hv.take i) a [.int .i64 a] (fun k => w.heap.size ≤ k) (fun _ => False) rfl (congrArg (fun k => Value.slice (some ⟨k, 0, none⟩) 1 1) (show wr.heap.size + 1 = (wr.alloc (.cells #[.int .i64 a, .string b] 106)).heap.size by rw [World.size_alloc])) (ki_mkM _ _ _ _) (fun _ hk => hk.elim) ?aF (Kd.R_alloc HR.out _) (below_alloc HB.out _) (below_size (below_alloc HB.out _)) (by omega) ?_); (case aF => exact fun k hk => Nat.le_trans (below_size (below_alloc HB.out _)) hk); intro v5_ w5_ ho_ hb_ hg_ hat_; rw [← HVI.out] at ho_; have HR2 := Aside0.mk ho_; have HB2 := Aside0.mk hb_; clear ho_ hb_ hg_ hat_))
      go_roundg gk
      case measure => omega
      case rel => exact ⟨i + 1, by first | rfl | go_num, ⟨by have := HI.out; omega⟩, HR2, HB2⟩
def ldA (all : List R2) : Ld := fun n => if idxP (isPg n) all < 0 then (⟨#[]⟩, 6) else ((atR all (idxP (isPg n) all).toNat).2, 0)
theorem idxP_spec {P : R2 → Bool} {l : List R2} (h : 0 ≤ idxP P l) : ∃ i : Nat, ∃ hi : i < l.length, idxP P l = i ∧ P l[i] = true := by
  unfold idxP at h ⊢
  cases hf : l.findIdx? P with
  | none => rw [hf] at h; simp at h
  | some i =>
    obtain ⟨hi, hp, _⟩ := List.findIdx?_eq_some_iff_getElem.1 hf
    exact ⟨i, hi, rfl, hp⟩
theorem ldA_at {all : List R2} (h : all.Pairwise fun p q => p.1 ≠ q.1) {n : Int} {b : ByteArray} (hm : (n, b) ∈ all) : ldA all n = (b, 0) := by
  have h0 : 0 ≤ idxP (isPg n) all := (idxP_any _ _).2 (List.any_eq_true.2 ⟨_, hm, decide_eq_true rfl⟩)
  obtain ⟨i, hi, e, hp⟩ := idxP_spec h0
  unfold ldA
  rw [if_neg (by omega), e, Int.toNat_natCast, atR_get hi]
  have e1 : all[i].1 = n := of_decide_eq_true hp
  obtain ⟨j, hj, e2⟩ := List.mem_iff_getElem.1 hm
  have hij : i = j := by
    rw [List.pairwise_iff_getElem] at h
    rcases Nat.lt_trichotomy i j with hlt | heq | hgt
    · exact absurd (e1.trans (by rw [e2])) (h i j hi hj hlt)
    · exact heq
    · exact absurd ((by rw [e2] : all[j].1 = n).trans e1.symm) (h j i hj hi hgt)
  subst hij
  rw [e2]
theorem ldA_small {all : List R2} (h : ∀ x ∈ all, x.2.size ≤ 1000000) : LdSmall (ldA all) := by
  intro n
  unfold ldA
  split
  · show (0 : Nat) ≤ 1000000; decide
  · rename_i h1
    obtain ⟨i, hi, e, _⟩ := idxP_spec (Int.not_lt.1 h1)
    rw [e, Int.toNat_natCast, atR_get hi]
    exact h _ (List.getElem_mem hi)
set_option maxHeartbeats 8000000 in
set_option maxRecDepth 100000 in
theorem ld_save {w : World} {b base : Nat} {ok : Nat → Prop} {A : Option Addr} {c : Nat} {all : List R2} (hb : w.heap[b]? = some (.cells #[.slice A all.length c] 91 (0, 0))) (hr : kR.R 106 w base ok (.slice A all.length c) all) (hl : all.length ≤ 1000000) :
    LdOk w (.func (.func 49) #[] #[.pointer (some ⟨b, 0, none⟩)]) (ldA all) := by
  refine ⟨49, _, _, rfl, enters_of Tryz.func49 (by kernel_rfl) rfl, fun W n hn hW => ?_⟩
  have hb' := (hW.block _ (blk_lt hb)).trans hb
  have hr' := Kd.R_below hr hW
  clear hb hr hn
  show Calls Tryz.prog 49 #[.int .i64 n, .pointer (some ⟨b, 0, none⟩)] W _
  have hI := fun (W2 : World) (hx : W2.heap[W.heap.size]? = some (.cells #[.int .i64 n] 3 (0, 0))) (h2 : Below W.heap.size W W2) => indexW_any (fn_save hx) A c all (Kd.R_reads' (Kd.R_below hr' h2)).2.2 hl
  have HR := Aside0.mk hr'
  have HI := Aside0.mk hI
  have HBK := Aside0.mk hb'
  have HB1 := Aside0.mk (below_alloc (Below.refl W.heap.size W) (.cells #[.int .i64 n] 3))
  have HX := Aside0.mk (Cr.alloc_at (w := W) (cs := #[.int .i64 n]) (t := 3) rfl)
  have HC := Aside0.mk ((HB1.out.block _ (blk_lt HBK.out)).trans HBK.out)
  have hld : ldA all n = if idxP (isPg n) all < 0 then (⟨#[]⟩, 6) else ((atR all (idxP (isPg n) all).toNat).2, 0) := rfl
  have hsp := @idxP_spec (isPg n) all
  obtain ⟨ix, hix⟩ : ∃ ix, ix = idxP (isPg n) all := ⟨_, rfl⟩
  rw [← hix] at HI hld hsp
  obtain ⟨⟨r1, r2⟩, hrr⟩ : ∃ r, r = ldA all n := ⟨_, rfl⟩
  rw [← hrr] at hld ⊢
  have HLD := Aside0.mk hld
  have HSP := Aside0.mk hsp
  obtain ⟨m, hm⟩ : ∃ m, m = all.length := ⟨_, rfl⟩
  have HM := Aside0.mk hm
  rw [← hm] at HI HR HC HBK hl
  have y0 : W.cell? ⟨b, 0, none⟩ = some (.slice A m c) := (blk_cell HBK.out 0).trans rfl
  clear hr' hI hb' hld hsp hix hrr hm hW HBK
  go_enter Tryz.func49, Tryz.ntmps49
  go_upto_region 1 with (fail)
  obtain ⟨W1, hW1⟩ : ∃ W1, W1 = W.alloc (.cells #[.int .i64 n] 3) := ⟨_, rfl⟩
  rw [← hW1] at HB1 HX HC ⊢
  obtain ⟨gq, hgq⟩ : ∃ g, g = W.heap.size := ⟨_, rfl⟩
  have HIX := Aside0.mk (HI.out W1 HX.out HB1.out)
  rw [← hgq] at HX HIX ⊢
  have y1 : W1.cell? ⟨b, 0, none⟩ = some (.slice A m c) := (blk_cell HC.out 0).trans rfl
  clear hW1 HI hgq y0
  go_upto_region 2 with (go_at_call 50; (with_reducible refine (HIX.out).mono ?_); rintro e w2 ⟨rfl, h2⟩; have HB2 := Aside0.mk h2; clear h2 HIX)
  have HBF := Aside0.mk (below_step HB1.out HB2.out)
  have y2 : w2.cell? ⟨b, 0, none⟩ = some (.slice A m c) := (blk_cell ((HB2.out.block _ (blk_lt HC.out)).trans HC.out) 0).trans rfl
  have HR2 := Aside0.mk (Kd.R_below HR.out HBF.out)
  by_cases hx : ix < 0
  · have d1 := decide_eq_true hx
    have HL := HLD.out
    rw [if_pos hx] at HL
    obtain ⟨e1, e2⟩ := Prod.mk.inj HL
    subst e1 e2
    clear HL HLD hx y1
    go_wp2
    go_ret2
    exact ⟨rfl, HBF.out⟩
  · have d1 := decide_eq_false hx
    obtain ⟨i, hi, e0, hpi⟩ := HSP.out (Int.not_lt.1 hx)
    have HL := HLD.out
    rw [if_neg hx, e0, Int.toNat_natCast, atR_get hi] at HL
    obtain ⟨e1, e2⟩ := Prod.mk.inj HL
    subst e2
    obtain ⟨ad, rfl, x0, x1⟩ := at_R (Kd.R_reads' HR2.out).2.2 i (by omega)
    rw [atR_get hi, ← e1] at x1
    rw [e0] at d1
    subst e0
    have him : i < m := by rw [HM.out]; exact hi
    have d2 : decide (i < m) = true := decide_eq_true him
    have d3 : (i < m) = True := eq_true him
    have d4 : ((i : Int) < (m : Int)) = True := eq_true (by omega)
    have d5 : (0 ≤ (i : Int)) = True := eq_true (by omega)
    clear HL HLD hx y1 e1 HSP x0 hpi hi
    go_wp2
    go_ret2
    exact ⟨rfl, HBF.out⟩
end Go.Proofs.YtdhaoaehboonpaaGreat.V
end

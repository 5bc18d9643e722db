/- Of the texts that the row stands on, what it needs (part 39), put together by a program of this session. -/
import Derived.Test.YtdhaoaehboonpaaGreatZdT35
import Derived.Test.YtdhaoaehboonpaaGreatZdT38
namespace Go.Proofs.YtdhaoaehboonpaaGreat.V
open Go.RowKit Go.Proofs.YtdhaoaehboonpaaGreatW.PrintWords Go.Proofs.YtdhaoaehboonpaaGreatW.PrintLast Go.Proofs.YtdhaoaehboonpaaGreatW.PrintMore Go.Proofs.YtdhaoaehboonpaaGreatM
open Go.Proofs.YtdhaoaehboonpaaGreat.PSm (S50 k50)
open Go.Proofs.YtdhaoaehboonpaaGreat.Th (Rw IsRows)
set_option linter.unusedVariables false
set_option linter.unusedSimpArgs false
theorem zero4 (w : World) : (zeroValue 4).run Tryz.prog w = .ok (.bool false) w := by kernel_rfl
theorem int_at {w : World} {A : Option Addr} {l : List Int} (h : Kd.C (Kd.int .i64) w A l.length l) (j : Nat) (hj : j < l.length) : ∃ ad, A = some ad ∧ w.cell? (ad.add j) = some (.int .i64 l[j]) := by
  obtain ⟨ad, e, hc⟩ := h.2.2 (by omega)
  obtain ⟨c, h1, h2, h3⟩ := hc j l[j] (List.getElem?_eq_getElem hj)
  have h4 : c = [.int .i64 l[j]] := h2
  subst h4
  have := h3 0 _ rfl
  refine ⟨ad, e, ?_⟩
  have e1 : j * (Kd.int .i64).sz + 0 = j := by show j * 1 + 0 = j; omega
  rw [e1] at this
  exact this
def SavR (V : VS) (m : Nat) (l : List R2) (ec : Int) (V2 : VS) : Prop :=
  (ec = 0 ∧ V2.live.length = needE l) ∨ ((ec = 8 ∨ ec = 9 ∨ ec = 12) ∧ (0 < needE l → m < needE l + V.live.length))
theorem save_law {w0 w : World} {gv g : Nat} {V : VS} {m : Nat} (h : IsV w0 w gv g V) (hv : VOk V m) (hm : m ≤ 198) (hf : V.P.halts = false) (hg : V.gen < 4611686018427387904) (A : Option Addr) (c : Nat) (l : List R2) (hC : Kd.C kR w A l.length l) (hc2 : l.length ≤ c) (hl : l.length ≤ 9000) :
    Calls Tryz.prog 15 #[.pointer (some ⟨gv, 0, none⟩), .slice A l.length c] w fun e w' => ∃ ec V2, e = .returned (.int .i64 ec) ∧ IsV w0 w' gv g V2 ∧ VOk V2 m ∧ V2.P.halts = false ∧ (V.gen ≤ V2.gen ∧ V2.gen ≤ V.gen + 1) ∧ SavR V m l ec V2 := by
  obtain ⟨h1, h2⟩ := save_need h hv hm hf hg A c l hC hc2 hl
  by_cases hz : (svP V m l).2.2 = 0
  · refine (h2 hz).mono ?_
    rintro e w' ⟨V', he, hi, ho, hok, hh, hg2, hlv⟩
    exact ⟨0, V', he, hi, hok, hh, ⟨by omega, by omega⟩, .inl ⟨rfl, hlv⟩⟩
  · obtain ⟨hr, hc⟩ := h1 hz
    refine hc.mono ?_
    rintro e w' ⟨he, hi, ho⟩
    exact ⟨_, V, he, hi, hv, hf, ⟨by omega, by omega⟩, .inr ⟨plan_errs hz, hr⟩⟩
set_option maxHeartbeats 64000000 in
set_option maxRecDepth 100000 in
theorem pages_any (w : World) (n : Int) (A : Option Addr) (c : Nat) (LL : List Rw) (wn : (Lit.int .i64 n).wf = true) (hr : IsRows w A LL) (hc : LL.length ≤ c) :
    Calls Tryz.prog 10 #[.int .i64 n, .slice A LL.length c] w fun e w' => e = .returned (.bool true) ∧ Below w.heap.size w w' := by
  have HAL := Aside0.mk (fun W => alive_any W)
  obtain ⟨nn, hnn⟩ : ∃ n, n = LL.length := ⟨_, rfl⟩
  have HR := Aside0.mk hr
  have HN := Aside0.mk hnn
  rw [← hnn]
  clear hr hc hnn wn
  have HB0 := Aside0.mk (Below.refl w.heap.size w)
  by_cases h8 : n < 8
  · have d1 := decide_eq_true h8
    clear h8 HR HN
    go_enter Tryz.func10, Tryz.ntmps10
    go_wp2_with (go_at_call 11; (with_reducible refine (HAL.out _).mono ?_); rintro e w2 ⟨rfl, hb2⟩; have n0_ := Aside0.mk (below_step HB0.out hb2); clear hb2 HB0; have HB0 := n0_; clear n0_)
    go_ret
    exact ⟨rfl, HB0.out⟩
  have d1 := decide_eq_false h8
  by_cases h200 : 200 < n
  · have d2 := decide_eq_true h200
    clear h8 h200 HR HN
    go_enter Tryz.func10, Tryz.ntmps10
    go_wp2_with (go_at_call 11; (with_reducible refine (HAL.out _).mono ?_); rintro e w2 ⟨rfl, hb2⟩; have n0_ := Aside0.mk (below_step HB0.out hb2); clear hb2 HB0; have HB0 := n0_; clear n0_)
    go_ret
    exact ⟨rfl, HB0.out⟩
  have d2 := decide_eq_false h200
  by_cases h12 : 12 < nn
  · have d3 : decide (12 < (nn : Int)) = true := decide_eq_true (by omega)
    have d4 : decide (12 < nn) = true := decide_eq_true h12
    clear h8 h200 h12 HR HN
    go_enter Tryz.func10, Tryz.ntmps10
    go_wp2_with (go_at_call 11; (with_reducible refine (HAL.out _).mono ?_); rintro e w2 ⟨rfl, hb2⟩; have n0_ := Aside0.mk (below_step HB0.out hb2); clear hb2 HB0; have HB0 := n0_; clear n0_)
    go_ret
    exact ⟨rfl, HB0.out⟩
  have HN12 := Aside0.mk (show nn ≤ 12 from by omega)
  have d3 : decide (12 < (nn : Int)) = false := decide_eq_false (by omega)
  have d4 : decide (12 < nn) = false := decide_eq_false h12
  obtain ⟨m, hnm⟩ : ∃ m : Nat, n = ((m + 2 : Nat) : Int) := ⟨(n - 2).toNat, by omega⟩
  have hm6 : 6 ≤ m := by omega
  have hm198 : m ≤ 198 := by omega
  obtain ⟨hp, _⟩ := plan_none (m := m) (by omega) (by omega)
  obtain ⟨hd, hh, hl2, ha, hf⟩ := fmt_disk (N := m + 2) (l := []) (by omega) (by omega) hp
  have hv := fmtV_ok (N := m + 2) (m := m) (l := []) (by omega) (by omega) rfl hp
  have HFM := Aside0.mk (fun (W : World) (hb : Below w.heap.size w W) => show Calls Tryz.prog 12 #[.int .i64 n, .slice none 0 0] W fun e w' => ∃ g, e = .returned (.tuple #[.pointer (some ⟨g, 0, none⟩), .int .i64 0]) ∧ VP.IsQ w w' g (fmtS (m + 2) []) ∧ Below W.heap.size W w' from by rw [hnm]; exact format_law hb (m + 2) (by omega) (by omega) none 0 [] (Kd.C_nil _ _) (Nat.le_refl _) (by decide) hp)
  have HOP := Aside0.mk (fun (W : World) (g : Nat) (hq : VP.IsQ w W g (fmtS (m + 2) [])) => (show Calls Tryz.prog 13 #[.pointer (some ⟨g, 0, none⟩)] W fun e w' => ∃ gv, e = .returned (.tuple #[.pointer (some ⟨gv, 0, none⟩), .int .i64 0]) ∧ IsV w w' gv g (fmtV (m + 2) []) ∧ Below W.heap.size W w' from open_disk hq hd hh hl2))
  obtain ⟨V0, hV0⟩ : ∃ V, V = fmtV (m + 2) [] := ⟨_, rfl⟩
  have HV0 := Aside0.mk (show VOk V0 m ∧ V0.P.halts = false ∧ V0.gen = 1 from by rw [hV0]; exact ⟨hv, hf, rfl⟩)
  rw [← hV0] at HOP
  obtain ⟨S0, hS0⟩ : ∃ S, S = fmtS (m + 2) [] := ⟨_, rfl⟩
  rw [← hS0] at HFM HOP
  have HM := Aside0.mk (And.intro hnm (And.intro hm6 hm198))
  obtain ⟨mm, hmm⟩ : ∃ x : Int, x = (m : Int) := ⟨_, rfl⟩
  have hw2 : IntKind.i64.wrap (n - 2) = mm := by rw [IntKind.wrap_i64, hmm]; omega
  have HMM0 := Aside0.mk hmm
  clear hp hd hh hl2 ha hf hv hV0 hS0 h8 h200 h12 hnm hm6 hm198 hmm
  go_enter Tryz.func10, Tryz.ntmps10
  go_upto_region 6 with (first
    | (go_at_call 11; (with_reducible refine (HAL.out _).mono ?_); rintro e w2 ⟨rfl, hb2⟩; have HB2 := Aside0.mk (below_step HB0.out hb2); clear hb2 HB0)
    | (go_at_call 12; (with_reducible refine (HFM.out _ HB2.out).mono ?_); rintro e w3 ⟨g, rfl, hq, hb⟩; have HQ3 := Aside0.mk hq; clear hq hb HFM HB2))
  go_upto_region 9 with (go_at_call 13; (with_reducible refine (HOP.out _ _ HQ3.out).mono ?_); rintro e w4 ⟨gv, rfl, hv, hb⟩; have HV4 := Aside0.mk hv; clear hv hb HQ3 HOP)
  clear d3 d4
  go_wp2_with (fail)
  go_loopg [54] nn (fun kq v54 W => ∃ (i : Nat) (V : VS), v54 = .int .i64 i ∧ Aside0 (i + kq = nn) ∧ Aside0 (1 ≤ V.gen ∧ V.gen ≤ 1 + i) ∧ Aside0 (VOk V m ∧ V.P.halts = false) ∧ Aside0 (IsV w W gv g V))
  case atStart => exact ⟨0, V0, rfl, ⟨by omega⟩, ⟨by have := HV0.out.2.2; omega, by have := HV0.out.2.2; omega⟩, ⟨HV0.out.1, HV0.out.2.1⟩, HV4⟩
  case round =>
    clear HV4 HV0
    obtain ⟨i, V, rfl, HI, HG, HVO, HV⟩ := hrel
    rename World => W
    cases gk with
    | zero =>
      have hi : i = nn := by have := HI.out; omega
      subst hi
      have e1 : decide ((i : Int) < (i : Int)) = false := decide_eq_false (by omega)
      have e2 : decide (i < i) = false := decide_eq_false (by omega)
      obtain ⟨b0, hb0⟩ : ∃ b, V.P.safe[0]? = some b := ⟨_, List.getElem?_eq_getElem (by rw [HVO.out.1.disk.len]; have := HVO.out.1.disk.n8; omega)⟩
      have hs0 := HVO.out.1.disk.pg.1 b0 (List.mem_of_getElem? hb0)
      have hl0 := load_at HVO.out.1.halted HVO.out.1.last (n := 0) (by decide) hb0
      have HLD := Aside0.mk (fun (W : World) (h : IsV w W gv g V) => VP.q_load h.q 0 (by decide) hl0)
      obtain ⟨fz, hfz⟩ : ∃ f, f = VP.fill ⟨#[]⟩ := ⟨_, rfl⟩
      have HFZ := Aside0.mk (fun (W : World) => VP.fill_any ⟨#[]⟩ W)
      rw [← hfz] at HFZ
      have hfs : fz.size = 128 := by rw [hfz]; exact VP.fill_size _
      have q1 : (b0.size == fz.size) = true := by rw [hs0, hfs]; rfl
      have q2 : ((b0.size : Int) == (fz.size : Int)) = true := by rw [hs0, hfs]; rfl
      clear hb0 hs0 hl0 hfz hfs
      go_wp2_with (first
        | (go_at_call 39; (with_reducible refine (HLD.out _ HV.out).mono ?_); rintro e w5 ⟨rfl, hq⟩; have HQ5 := Aside0.mk (IsQ_bel hq); clear hq HV)
        | (go_at_call 29; (with_reducible refine (HFZ.out _).mono ?_); rintro e w6 ⟨rfl, hb⟩; have HQ6 := Aside0.mk (below_step HQ5.out hb); clear hb HQ5))
      go_ret
      exact ⟨rfl, HQ6.out⟩
    | succ og =>
      have hi : i < nn := by have := HI.out; omega
      have hil : i < LL.length := by have := HN.out; omega
      have d3 : decide ((i : Int) < (nn : Int)) = true := decide_eq_true (by omega)
      have d4 : decide (i < nn) = true := decide_eq_true hi
      have d5 : (i < nn) = True := eq_true hi
      have d6 : ((i : Int) < (nn : Int)) = True := eq_true (by omega)
      have d7 : (0 ≤ (i : Int)) = True := eq_true (by omega)
      obtain ⟨⟨ad, ea, hx0⟩, hxC, hxc⟩ := HR.out i LL[i] (List.getElem?_eq_getElem hil)
      subst ea
      obtain ⟨⟨xA, xc, xl⟩, hx⟩ : ∃ x, x = LL[i] := ⟨_, rfl⟩
      rw [← hx] at hx0 hxC hxc
      simp only [] at hx0 hxC hxc
      have x0 : W.cell? (ad.add i) = some (.slice xA xl.length xc) := ((IsQ_bel HV.out.q).cell (World.block_lt_of_cell? w _ hx0)).trans hx0
      obtain ⟨fw, hfw, hfc⟩ := few_any xA xc xl w hxC hxc
      have HF := Aside0.mk (fun (W : World) (hb : Below w.heap.size w W) => hfc W hb)
      obtain ⟨xn, hxn⟩ : ∃ k, k = xl.length := ⟨_, rfl⟩
      have HXN := Aside0.mk hxn
      have HXC := Aside0.mk (And.intro hxC hxc)
      rw [← hxn] at x0 HF
      cases fw with
      | false =>
        clear hx0 hxC hxc hfw hfc hx hil hxn
        go_wp2_with (go_at_call 14; (with_reducible refine (HF.out _ (IsQ_bel HV.out.q)).mono ?_); rintro e w5 ⟨rfl, hb⟩; have HV5 := Aside0.mk (HV.out.below hb); clear hb)
        go_ret
        exact ⟨rfl, IsQ_bel HV5.out.q⟩
      | true =>
        have hl := hfw rfl
        have HCR := Aside0.mk (show ∀ W, Below w.heap.size w W → Kd.C kR W xA (tR5 xl).length (tR5 xl) from fun W hb => Kd.C_below (C_tR5 hxC) hb)
        obtain ⟨X, hX⟩ : ∃ X, X = tR5 xl := ⟨_, rfl⟩
        have hXl : X.length = xl.length := by rw [hX, tR5_len]
        rw [← hX] at HCR
        have hsv := fun (W : World) (h : IsV w W gv g V) => save_law h HVO.out.1 HM.out.2.2 HVO.out.2 (by have := HG.out.2; have := HN12.out; omega) xA xc X (HCR.out W (IsQ_bel h.q)) (by rw [hXl]; exact hxc) (by rw [hXl]; omega)
        have hnd := fun (W : World) (hb : Below w.heap.size w W) => need_any W xA xc X (HCR.out W hb) (by rw [hXl]; exact hxc) (by rw [hXl]; omega)
        rw [hXl, ← hxn] at hsv hnd
        obtain ⟨nI, hnI⟩ : ∃ x : Int, x = (needE X : Int) := ⟨_, rfl⟩
        rw [← hnI] at hnd
        have HSV := Aside0.mk hsv
        have HND := Aside0.mk hnd
        have HNI := Aside0.mk hnI
        have hll := HVO.out.1.disk.live_len
        rw [HVO.out.1.pages] at hll
        have HLL := Aside0.mk (show V.live.length ≤ m from hll)
        have HLIVE := Aside0.mk (fun (W : World) (V : VS) (h : IsV w W gv g V) (hv : VOk V m) => live_any h (by have := hv.disk.live_len; have := hv.disk.n200; omega))
        have HFREE := Aside0.mk (fun (W : World) (V : VS) (h : IsV w W gv g V) (hv : VOk V m) => vfree_any (m := m) h hv.pages (by have := HM.out.2.2; omega) (by have := hv.disk.live_len; have := hv.disk.n200; omega))
        obtain ⟨lw, hlw⟩ : ∃ k, k = (V.live.map (·.1)).length := ⟨_, rfl⟩
        have HLW := Aside0.mk hlw
        clear hx0 hxC hxc hfw hfc hx hil hxn hl hX hXl hsv hnd hnI hll hlw
        go_upto_region 14 with (go_at_call 14; (with_reducible refine (HF.out _ (IsQ_bel HV.out.q)).mono ?_); rintro e w5 ⟨rfl, hb⟩; have HV5 := Aside0.mk (HV.out.below hb); clear hb HV)
        go_upto_region 15 with (go_at_call 22; (with_reducible refine (HLIVE.out _ _ HV5.out HVO.out.1).mono ?_); rintro e w6 ⟨v6, rfl, hr, hb⟩; obtain ⟨A6, c6, ev⟩ := Kd.R_slice hr; rw [← HLW.out] at ev; subst ev; have HV6 := Aside0.mk (HV5.out.below hb); clear hr hb HV5)
        go_upto_region 16 with (go_at_call 30; (with_reducible refine (HND.out _ (IsQ_bel HV6.out.q)).mono ?_); rintro e w7 ⟨rfl, hb⟩; have HV7 := Aside0.mk (HV6.out.below hb); clear hb HV6)
        go_upto_region 17 with (go_at_call 15; (with_reducible refine (HSV.out _ HV7.out).mono ?_); rintro e w8 ⟨ec, V2, rfl, hv, hok, hh, hg, hsr⟩; have HV8 := Aside0.mk hv; have HOK8 := Aside0.mk (And.intro hok hh); have HG8 := Aside0.mk hg; have HSR := Aside0.mk hsr; clear hv hok hh hg hsr HV7 HSV)
        obtain ⟨sm, hsm⟩ : ∃ x, x = IntKind.i64.wrap (nI + (lw : Int)) := ⟨_, rfl⟩
        have hwr : IntKind.i64.wrap (nI + (lw : Int)) = sm := hsm.symm
        have hnd2 : needE X ≤ 198 := by have := planE_len X [] (pgs 198); rw [pgs_length] at this; exact this
        have hsv : sm = nI + (lw : Int) := by
          rw [hsm, IntKind.wrap_i64]
          have h1 := HNI.out
          have h2 := HLW.out
          rw [List.length_map] at h2
          have h3 := HLL.out
          have h4 := HM.out.2.2
          omega
        clear hsm
        rcases HSR.out with ⟨hec, hlv⟩ | ⟨hec, hroom⟩
        rotate_left
        rcases hec with rfl | rfl | rfl
        by_cases hpos : 0 < nI
        have b1 : decide (0 < nI) = true := decide_eq_true hpos
        have b2 : decide (sm ≤ mm) = false := decide_eq_false (by
          have h1 := HNI.out
          have h2 := HLW.out
          rw [List.length_map] at h2
          have h3 := hroom (by omega)
          have h4 := HMM0.out
          omega)
        clear hpos
        clear hroom hnd2 hsv
        go_upto_region 19 with (fail)
        rotate_left
        have b1 : decide (0 < nI) = false := decide_eq_false hpos
        clear hpos
        clear hroom hnd2 hsv
        go_upto_region 19 with (fail)
        rotate_left
        clear hroom hnd2 hsv
        go_upto_region 19 with (fail)
        rotate_left
        clear hroom hnd2 hsv
        go_upto_region 19 with (fail)
        rotate_left
        subst hec
        obtain ⟨k2, hk2⟩ : ∃ k, k = (V2.live.map (·.1)).length := ⟨_, rfl⟩
        have HK2 := Aside0.mk hk2
        have qn : ((k2 : Int) != nI) = false := by rw [hk2, List.length_map, hlv, HNI.out]; simp
        clear hlv hk2 hnd2 hsv
        go_upto_region 19 with (go_at_call 22; (with_reducible refine (HLIVE.out _ _ HV8.out HOK8.out.1).mono ?_); rintro e w8 ⟨v9, rfl, hr, hb⟩; obtain ⟨A9, c9, ev⟩ := Kd.R_slice hr; rw [← HK2.out] at ev; subst ev; have HVn := Aside0.mk (HV8.out.below hb); clear hr hb HV8; have HV8 := HVn; clear HVn)
        all_goals
          have hlow : ∀ x ∈ V2.live, 2 ≤ x.1 ∧ x.1 < (m : Int) + 2 := fun x hx => by
            have h1 := HOK8.out.1.disk.low x hx
            have h2 := HOK8.out.1.pages
            exact ⟨h1.1, by have := h1.2; omega⟩
          obtain ⟨K, hK⟩ : ∃ K, K = V2.live.map (·.1) := ⟨_, rfl⟩
          obtain ⟨FL, hFL⟩ : ∃ K, K = freeL m V2.live := ⟨_, rfl⟩
          have hcnt := freeL_count hlow HOK8.out.1.disk.tree.apart
          have hKl : K.length = V2.live.length := by rw [hK, List.length_map]
          obtain ⟨PL, hPL⟩ : ∃ P, P = K ++ FL := ⟨_, rfl⟩
          have hPLl : PL.length = m := by rw [hPL, List.length_append, hKl, hFL]; omega
          have hPLn : PL.Nodup := by
            rw [hPL, List.nodup_append]
            refine ⟨?_, by rw [hFL]; exact freeL_nodup _ _, fun a ha b hb e => ?_⟩
            · rw [hK]
              unfold List.Nodup
              rw [List.pairwise_map]
              exact HOK8.out.1.disk.tree.apart
            · subst e
              rw [hFL] at hb
              rw [hK] at ha
              obtain ⟨x, hx, rfl⟩ := List.mem_map.1 ha
              exact (freeL_mem.1 hb).2 x hx rfl
          have hPLb : ∀ x ∈ PL, 2 ≤ x ∧ x < (m : Int) + 2 := fun x hx => by
            rw [hPL] at hx
            rcases List.mem_append.1 hx with hx | hx
            · rw [hK] at hx
              obtain ⟨y, hy, rfl⟩ := List.mem_map.1 hx
              exact hlow y hy
            · rw [hFL] at hx
              exact (freeL_mem.1 hx).1
          have HPL := Aside0.mk (And.intro hPL (And.intro hPLl (And.intro hPLn hPLb)))
          obtain ⟨kn, hkn⟩ : ∃ k, k = K.length := ⟨_, rfl⟩
          obtain ⟨fn, hfn⟩ : ∃ k, k = FL.length := ⟨_, rfl⟩
          obtain ⟨tl, htl⟩ : ∃ k, k = PL.length := ⟨_, rfl⟩
          have HKN := Aside0.mk hkn
          have HFN := Aside0.mk hfn
          have HTL := Aside0.mk htl
          have HKF := Aside0.mk (show kn ≤ 198 ∧ fn ≤ 198 ∧ tl = m from by have := HM.out.2.2; rw [hFL] at hfn; omega)
          have HL3 := Aside0.mk (fun (W : World) (h : IsV w W gv g V2) => HLIVE.out W V2 h HOK8.out.1)
          rw [← hK] at HL3
          have HF3 := Aside0.mk (fun (W : World) (h : IsV w W gv g V2) => HFREE.out W V2 h HOK8.out.1)
          rw [← hFL] at HF3
          have HAF := Aside0.mk (fun (W : World) (h : IsV w W gv g V2) => (show Calls Tryz.prog 27 #[.pointer (some ⟨g, 0, none⟩)] W fun e w' => e = .returned (.int .i64 0) ∧ Below W.heap.size W w' from (VP.afloat_any h.q.2).mono (by rintro e w' ⟨rfl, hb⟩; rw [HOK8.out.1.afl]; exact ⟨rfl, hb⟩)))
          have qtl : ((tl : Int) != mm) = false := by have h1 := HKF.out.2.2; have h2 := HMM0.out; rw [h2, h1]; simp
          clear hlow hK hFL hcnt hKl hPL hPLl hPLn hPLb hkn hfn htl
          have hmkm := @run_makeMap Tryz.prog
          go_upto_region 20 with (fail)
          clear hmkm
          obtain ⟨mb, hmb⟩ : ∃ mb, mb = w8.heap.size := ⟨_, rfl⟩
          obtain ⟨Wm, hWm⟩ : ∃ X, X = w8.alloc (.map #[] 0) := ⟨_, rfl⟩
          have HVm := Aside0.mk (HV8.out.below (below_alloc (Below.refl _ _) (.map #[] 0)))
          have HBm := Aside0.mk (below_alloc (Below.refl w8.heap.size w8) (.map #[] 0))
          have M0 := Aside0.mk (show IsMap (Value.int .i64) Value.bool wfI (w8.alloc (.map #[] 0)) mb (seenF PL 0) from by rw [hmb]; exact (IsMap.made w8).congr (fun n => by unfold seenF; simp))
          rw [← hWm] at HVm HBm M0 ⊢
          have HMG := Aside0.mk (show w8.heap.size ≤ mb ∧ mb < Wm.heap.size from by rw [hmb, hWm, World.size_alloc]; omega)
          rw [← hmb]
          clear hmb hWm
          go_wp2_with (first
            | (go_at_call 22; (with_reducible refine (HL3.out _ HVm.out).mono ?_); rintro e w10 ⟨v10, rfl, hr, hb⟩; obtain ⟨A10, c10, ev⟩ := Kd.R_slice hr; rw [← HKN.out] at ev; subst ev; have HC10 := Aside0.mk (Kd.R_reads' hr).2.2; have HB10 := Aside0.mk hb; clear hr hb)
            | ((with_reducible refine gate_builtin (b := .append) (xs := #[.const (.slice none 0 0), .tmp 112]) rfl ?_); at_builtin; go_must (refine Kd.R_append_rows (Kd.int .i64) (Rr := (Kd.int .i64).K w10) w10.heap.size rfl (.const (.slice none 0 0)) (.tmp 112) 40 3 (.int .i64 0) 8 rfl Tryz.underlying40 info3 rfl (by decide) (by omega) (.slice none 0 0) [] K A10 kn c10 (fun _ => True) (fun _ => False) rfl rfl (Kd.R_nil _ _ _ _ _) (by have := HC10.out; rw [← HKN.out] at this; exact this) (fun x cs hx => by rw [show cs = [.int .i64 x] from hx]; exact ki_mkM _ _ _ _) (fun _ hk => hk.elim) (fun _ _ => trivial) (Below.refl w10.heap.size w10) (Nat.le_refl _) (by have := HKF.out; simp; omega) ?_); intro v11 w11 ho_ hb_ hg_ hat_; rw [List.nil_append] at ho_; obtain ⟨A11, c11, ev⟩ := Kd.R_slice ho_; rw [← HKN.out] at ev; subst ev; have HR11 := Aside0.mk ho_; have HX11 := Aside0.mk hb_; have HB11 := Aside0.mk (below_step HB10.out hb_); clear ho_ hb_ hg_ hat_)
            | (go_at_call 23; (with_reducible refine (HF3.out _ (HVm.out.below HB11.out)).mono ?_); rintro e w12 ⟨v12, rfl, hr, hb⟩; obtain ⟨A12, c12, ev⟩ := Kd.R_slice hr; rw [← HFN.out] at ev; subst ev; have HC12 := Aside0.mk (Kd.R_reads' hr).2.2; have HR12 := Aside0.mk (Kd.R_below HR11.out hb); have HX12 := Aside0.mk (below_step HX11.out hb); have HB12 := Aside0.mk (below_step HB11.out hb); clear hr hb)
            | ((with_reducible refine gate_builtin (b := .append) (xs := #[.tmp 113, .tmp 115]) rfl ?_); at_builtin; go_must (refine Kd.R_append_rows (Kd.int .i64) (Rr := (Kd.int .i64).K w12) w10.heap.size rfl (.tmp 113) (.tmp 115) 40 3 (.int .i64 0) 8 rfl Tryz.underlying40 info3 rfl (by decide) (by omega) (.slice A11 kn c11) K FL A12 fn c12 (fun _ => True) (fun _ => False) rfl rfl HR12.out (by have := HC12.out; rw [← HFN.out] at this; exact this) (fun x cs hx => by rw [show cs = [.int .i64 x] from hx]; exact ki_mkM _ _ _ _) (fun _ hk => hk.elim) (fun _ _ => trivial) HX12.out HX12.out.size (by have := HKF.out; have := HKN.out; omega) ?_); intro v13 w13 ho_ hb_ hg_ hat_; rw [← HPL.out.1] at ho_; obtain ⟨A13, c13, ev⟩ := Kd.R_slice ho_; subst ev; have HR13 := Aside0.mk ho_; have HB13 := Aside0.mk (below_step HB10.out hb_); rw [← HTL.out]; clear ho_ hb_ hg_ hat_))
          have HRL := Aside0.mk (show (Kd.int .i64).R 3 w13 w10.heap.size (fun k => k ≠ mb) (.slice A13 PL.length c13) PL from Kd.R_mono (Kd.R_bound HR13.out) (fun k hk => by have h1 := hk.2.1; have h2 := HMG.out.2; have h3 := HB10.out.size; omega))
          have M13 := Aside0.mk (M0.out.at (HB13.out.block mb HMG.out.2))
          have HBL := Aside0.mk (HBm.out.trans (HB13.out.mono (show w8.heap.size ≤ Wm.heap.size from HBm.out.size)))
          clear M0 HB10 HB11 HB12 HB13 HX11 HX12 HR11 HR12 HR13 HC10 HC12 HBm
          go_loopg [118] tl (fun kx v118 wr => ∃ j : Nat, v118 = .int .i64 j ∧ Aside0 (j + kx = tl) ∧ Aside0 (IsMap (Value.int .i64) Value.bool wfI wr mb (seenF PL j)) ∧ Aside0 ((Kd.int .i64).R 3 wr w10.heap.size (fun k => k ≠ mb) (.slice A13 PL.length c13) PL) ∧ Aside0 (Below w8.heap.size w8 wr))
          case atStart => exact ⟨0, rfl, ⟨by omega⟩, M13, HRL, HBL⟩
          case round =>
            clear M13 HRL HBL
            obtain ⟨j, rfl, HJ, HMM, HRR, HBB⟩ := hrel
            rename World => wr
            cases gk with
            | zero =>
              have hj : j = tl := by have := HJ.out; omega
              subst hj
              have f1 : decide ((j : Int) < (j : Int)) = false := decide_eq_false (by omega)
              have f2 : decide (j < j) = false := decide_eq_false (by omega)
              have hlen := fun ty => seen_len (l := PL) (by have := HMM.out; rw [HTL.out] at this; exact this) HPL.out.2.2.1 Tryz.underlying89 ty
              rw [← HTL.out] at hlen
              have HVe := Aside0.mk (HV8.out.below HBB.out)
              have hi12 : i < 12 := by have := HN12.out; omega
              go_wp2_with (go_at_call 27; (with_reducible refine (HAF.out _ HVe.out).mono ?_); rintro e w15 ⟨rfl, hb⟩; have HVf := Aside0.mk (HVe.out.below hb); clear hb)
              go_roundg og
              case measure => omega
              case rel => exact ⟨i + 1, V2, by first | rfl | go_num, ⟨by have := HI.out; omega⟩, ⟨by have := HG8.out; have := HG.out; omega, by have := HG8.out; have := HG.out; omega⟩, HOK8, HVf⟩
            | succ gk =>
              have hj : j < tl := by have := HJ.out; omega
              have f1 : decide ((j : Int) < (tl : Int)) = true := decide_eq_true (by omega)
              have f2 : decide (j < tl) = true := decide_eq_true hj
              have f3 : (j < tl) = True := eq_true hj
              have f4 : ((j : Int) < (tl : Int)) = True := eq_true (by omega)
              have f5 : (0 ≤ (j : Int)) = True := eq_true (by omega)
              have hj198 : j < 198 := by have := HKF.out.2.2; have := HM.out.2.2; omega
              have hjp : j < PL.length := by rw [← HTL.out]; exact hj
              obtain ⟨ad, ea, y0⟩ := int_at (Kd.R_reads' HRR.out).2.2 j hjp
              subst ea
              have hb := HPL.out.2.2.2 PL[j] (List.getElem_mem hjp)
              have hsn := seenF_snoc PL j hjp
              have hnew := seenF_new HPL.out.2.2.1 hjp
              obtain ⟨x, hx⟩ : ∃ x, x = PL[j] := ⟨_, rfl⟩
              rw [← hx] at y0 hb hsn hnew
              have g1 : decide (x < 2) = false := decide_eq_false (by omega)
              have g2 : decide (n ≤ x) = false := decide_eq_false (by have := HM.out.1; omega)
              have hwf : wfI x := wfI_small (by omega) (by have := HM.out.2.2; omega)
              have hlk := IsMap.look keysI HMM.out Tryz.underlying89 (.bool false) (zero4 _) x hwf
              rw [hnew] at hlk
              change (Instr.lookup 89 (.map (some mb)) (.int .i64 x) false).run Tryz.prog _ = .ok (.bool false) _ at hlk
              have HWF := Aside0.mk hwf
              have HSN := Aside0.mk hsn
              clear hb hsn hnew hx hwf hjp
              go_wp2_with (at_mapUpdate; go_must (refine wpList_mapUpdate_g keysI _ rfl _ _ _ 89 rfl 4 Tryz.underlying89 mb (seenF PL j) x true rfl rfl rfl HMM.out HWF.out ?_); intro w14 hm4 hg4; have M4 := Aside0.mk (hm4.congr HSN.out); have B4 := Aside0.mk (pw_below_grown HBB.out _ HBB.out.size hg4 (by rintro k' e; injection e with e; rw [← e]; exact HMG.out.1)); have R4 := Aside0.mk (Kd.R_grown HRR.out hg4 (fun k hk e => hk (by injection e))); clear hm4 hg4)
              go_roundg gk
              case measure => omega
              case rel => exact ⟨j + 1, by first | rfl | go_num, ⟨by have := HJ.out; omega⟩, M4, R4, B4⟩
end Go.Proofs.YtdhaoaehboonpaaGreat.V

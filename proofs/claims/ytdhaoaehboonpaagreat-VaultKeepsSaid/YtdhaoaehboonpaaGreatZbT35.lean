/- Of the texts that the row stands on, what it needs (part 35), put together by a program of this session. -/
import Derived.Test.YtdhaoaehboonpaaGreatZbT33
namespace Go.Proofs.YtdhaoaehboonpaaGreat.V
open Go.RowKit Go.Proofs.YtdhaoaehboonpaaGreatW.PrintWords Go.Proofs.YtdhaoaehboonpaaGreatW.PrintLast Go.Proofs.YtdhaoaehboonpaaGreatW.PrintMore Go.Proofs.YtdhaoaehboonpaaGreatM
open Go.Proofs.YtdhaoaehboonpaaGreat.PSm (S50 k50)
set_option linter.unusedVariables false
set_option linter.unusedSimpArgs false
theorem IsQ_bel {w0 w : World} {g : Nat} {S : VP.PS} (h : VP.IsQ w0 w g S) : Below w0.heap.size w0 w := h.1
def keptR : List R2 := [(1, ⟨#[107, 101, 112, 116]⟩)]
theorem kept_need : needE keptR = 2 := by decide +kernel
theorem kept_plan {m : Nat} (h1 : 6 ≤ m) (h2 : m ≤ 198) : (planE keptR [] (pgs m)).2.2 = 0 := (plan_few h2 (by rw [kept_need]; decide)).2 (by rw [kept_need]; omega)
theorem save_two {w0 w : World} {gv g : Nat} {V : VS} {m : Nat} (h : IsV w0 w gv g V) (hv : VOk V m) (hf : V.P.halts = false) (hg : V.gen < 4611686018427387904) (A : Option Addr) (c : Nat) (l : List R2) (hC : Kd.C kR w A l.length l) (hc2 : l.length ≤ c) (hl : l.length ≤ 9000) :
    ((svP V m l).2.2 ≠ 0 → Calls Tryz.prog 15 #[.pointer (some ⟨gv, 0, none⟩), .slice A l.length c] w fun e w' => e = .returned (.int .i64 (svP V m l).2.2) ∧ IsV w0 w' gv g V ∧ OthersV w w') ∧
    ((svP V m l).2.2 = 0 → Calls Tryz.prog 15 #[.pointer (some ⟨gv, 0, none⟩), .slice A l.length c] w fun e w' => ∃ V', e = .returned (.int .i64 0) ∧ IsV w0 w' gv g V' ∧ OthersV w w' ∧ VOk V' m ∧ V'.P.halts = false ∧ V'.gen = V.gen + 1 ∧ V'.recs = l ∧ V'.pages = V.pages ∧ (∀ n b, (n, b) ∈ V'.live ↔ (b ∈ planB l V.live (freeL m V.live) ∧ (planZ l V.live (freeL m V.live)).2.known b = some n))) := by
  have hs := save_any h hv.dead (hv.can hg) hv.disk.low A c l hC hc2 hl (fun hp => sv_back hv hp)
  constructor
  · intro hne
    refine hs.mono ?_
    rintro e w' ⟨r, V', rfl, hsr, hiv, ho⟩
    rcases save_ways hv hg hsr with ⟨h1, h2, rfl⟩ | ⟨_, h2, _⟩ | ⟨_, h2, _⟩
    · exact ⟨by rw [h1], hiv, ho⟩
    · exact absurd h2 hne
    · exact absurd h2 hne
  · intro hz
    have hn := sv_nohalt hv hf hz
    refine hs.mono ?_
    rintro e w' ⟨r, V', rfl, hsr, hiv, ho⟩
    rcases save_ways hv hg hsr with ⟨h1, h2, _⟩ | ⟨_, _, h1, _⟩ | ⟨h1, h2, h3, h4, h5, h6, h7, h8, h9, h10⟩
    · rw [hz] at h1; rcases h2 with h2 | h2 | h2 <;> omega
    · rw [hn.1] at h1; cases h1
    · exact ⟨V', by rw [h1], hiv, ho, h3, by rw [h8]; exact hn.2, h4, h5, h7, h10⟩
set_option maxHeartbeats 16000000 in
set_option maxRecDepth 100000 in
theorem keeps_any (w : World) (A : Option Addr) (c : Nat) (l : List S50) (n : Int) (hr : Kd.C k50 w A l.length l) (hc : l.length ≤ c) (wn : (Lit.int .i64 n).wf = true) :
    Calls Tryz.prog 7 #[.slice A l.length c, .int .i64 n] w fun e w' => e = .returned (.bool true) ∧ Below w.heap.size w w' := by
  have HAL := Aside0.mk (fun W => alive_any W)
  obtain ⟨fw, hfw, hfc⟩ := few_any A c l w hr hc
  have HF := Aside0.mk (hfc w (Below.refl _ _))
  cases fw with
  | false =>
    obtain ⟨k, hk⟩ : ∃ n, n = l.length := ⟨_, rfl⟩
    rw [← hk] at HF ⊢
    clear hfw hfc hr hc hk wn
    go_enter Tryz.func7, Tryz.ntmps7
    go_wp2_with (first
      | (go_at_call 14; (with_reducible refine (HF.out).mono ?_); rintro e w1 ⟨rfl, hb1⟩; have HB1 := Aside0.mk hb1; clear hb1 HF)
      | (go_at_call 11; (with_reducible refine (HAL.out _).mono ?_); rintro e w2 ⟨rfl, hb2⟩; have HB2 := Aside0.mk (below_step HB1.out hb2); clear hb2))
    go_ret
    exact ⟨rfl, HB2.out⟩
  | true =>
    have hl := hfw rfl
    obtain ⟨L, hL⟩ : ∃ L, L = tR5 l := ⟨_, rfl⟩
    have hCL : Kd.C kR w A L.length L := by rw [hL, tR5, List.length_map]; exact C_iso hr
    have hLl : L.length = l.length := by rw [hL, tR5, List.length_map]
    rw [← hLl] at hl hc HF ⊢
    clear hfw hfc hr hL hLl wn
    obtain ⟨k, hk⟩ : ∃ n, n = L.length := ⟨_, rfl⟩
    by_cases h8 : n < 8
    · have d1 := decide_eq_true h8
      rw [← hk] at HF ⊢
      clear hl hc hCL hk h8
      go_enter Tryz.func7, Tryz.ntmps7
      go_wp2_with (first
        | (go_at_call 14; (with_reducible refine (HF.out).mono ?_); rintro e w1 ⟨rfl, hb1⟩; have HB1 := Aside0.mk hb1; clear hb1 HF)
        | (go_at_call 11; (with_reducible refine (HAL.out _).mono ?_); rintro e w2 ⟨rfl, hb2⟩; have HB2 := Aside0.mk (below_step HB1.out hb2); clear hb2))
      go_ret
      exact ⟨rfl, HB2.out⟩
    · have d1 := decide_eq_false h8
      by_cases h30 : 30 < n
      · have d2 := decide_eq_true h30
        rw [← hk] at HF ⊢
        clear hl hc hCL hk h8 h30
        go_enter Tryz.func7, Tryz.ntmps7
        go_wp2_with (first
          | (go_at_call 14; (with_reducible refine (HF.out).mono ?_); rintro e w1 ⟨rfl, hb1⟩; have HB1 := Aside0.mk hb1; clear hb1 HF)
          | (go_at_call 11; (with_reducible refine (HAL.out _).mono ?_); rintro e w2 ⟨rfl, hb2⟩; have HB2 := Aside0.mk (below_step HB1.out hb2); clear hb2))
        go_ret
        exact ⟨rfl, HB2.out⟩
      · have d2 := decide_eq_false h30
        obtain ⟨N, rfl⟩ : ∃ N : Nat, n = (N : Int) := ⟨n.toNat, by omega⟩
        obtain ⟨m, rfl⟩ : ∃ m, N = m + 2 := ⟨N - 2, by omega⟩
        have hm6 : 6 ≤ m := by omega
        have hm28 : m ≤ 28 := by omega
        have hp := kept_plan (m := m) hm6 (by omega)
        obtain ⟨hd, hh, hl2, ha, hf⟩ := fmt_disk (N := m + 2) (l := keptR) (by omega) (by omega) hp
        have hv := fmtV_ok (N := m + 2) (m := m) (l := keptR) (by omega) (by omega) rfl hp
        have HFM := Aside0.mk (fun (W : World) (hb : Below w.heap.size w W) (q : Nat) (hq : W.heap[q]? = some (.cells #[.int .i64 1, .string ⟨#[107, 101, 112, 116]⟩] 50 (0, 0))) => (show Calls Tryz.prog 12 #[.int .i64 ((m + 2 : Nat) : Int), .slice (some ⟨q, 0, none⟩) 1 1] W fun e w' => ∃ g, e = .returned (.tuple #[.pointer (some ⟨g, 0, none⟩), .int .i64 0]) ∧ VP.IsQ w w' g (fmtS (m + 2) keptR) ∧ Below W.heap.size W w' from format_law hb (m + 2) (by omega) (by omega) (some ⟨q, 0, none⟩) 1 keptR (one_rec hq) (by decide) (by decide) hp))
        have HOP := Aside0.mk (fun (W : World) (g : Nat) (hq : VP.IsQ w W g (fmtS (m + 2) keptR)) => (show Calls Tryz.prog 13 #[.pointer (some ⟨g, 0, none⟩)] W fun e w' => ∃ gv, e = .returned (.tuple #[.pointer (some ⟨gv, 0, none⟩), .int .i64 0]) ∧ IsV w w' gv g (fmtV (m + 2) keptR) ∧ Below W.heap.size W w' from open_disk hq hd hh hl2))
        obtain ⟨V, hV⟩ : ∃ V, V = fmtV (m + 2) keptR := ⟨_, rfl⟩
        have v1 : V.gen = 1 := by rw [hV]; rfl
        have v2 : V.recs = keptR := by rw [hV]; rfl
        have v3 : V.P.halts = false := by rw [hV]; exact hf
        have v4 : V.P.afl = [] := by rw [hV]; exact ha
        rw [← hV] at HOP hv
        have hlen := hv.disk.live_len
        rw [hv.pages] at hlen
        have HGEN := Aside0.mk (fun (W : World) (gv g : Nat) (V : VS) (h : IsV w W gv g V) => gen_any h)
        have HLIVE := Aside0.mk (fun (W : World) (gv g : Nat) (h : IsV w W gv g V) => live_any h (by omega))
        have htwo := fun (W : World) (gv g : Nat) (h : IsV w W gv g V) => save_two h hv v3 (by rw [v1]; decide) A c L (Kd.C_below hCL h.q.1) hc (by omega)
        obtain ⟨K, hK⟩ : ∃ K, K = V.live.map (·.1) := ⟨_, rfl⟩
        have hKl : K.length ≤ 28 := by rw [hK, List.length_map]; omega
        rw [← hK] at HLIVE
        obtain ⟨kn, hkn⟩ : ∃ k, k = K.length := ⟨_, rfl⟩
        have HKL := Aside0.mk hkn
        have HKN := Aside0.mk hKl
        have HV1 := Aside0.mk v1
        have HV2 := Aside0.mk v2
        have HV4 := Aside0.mk v4
        obtain ⟨S0, hS0⟩ : ∃ S, S = fmtS (m + 2) keptR := ⟨_, rfl⟩
        rw [← hS0] at HFM HOP
        have HCL := Aside0.mk (And.intro hCL (And.intro hc hl))
        have HKK := Aside0.mk hk
        rw [← hk] at HF htwo ⊢
        obtain ⟨ec, hec⟩ : ∃ e, e = (svP V m L).2.2 := ⟨_, rfl⟩
        rw [← hec] at htwo
        obtain ⟨N, hN⟩ : ∃ N, N = ((m + 2 : Nat) : Int) := ⟨_, rfl⟩
        rw [← hN] at d1 d2 HFM ⊢
        by_cases he : ec = 0
        · have HSV := Aside0.mk (fun (W : World) (gv g : Nat) (h : IsV w W gv g V) => (htwo W gv g h).2 he)
          have HRECS := Aside0.mk (fun (W : World) (gv g : Nat) (V : VS) (h : IsV w W gv g V) (he : V.recs = L) => records_any h (by rw [he]; have := HCL.out.2.2; omega))
          have HREM := Aside0.mk (fun (W : World) (hb : Below w.heap.size w W) => (show Calls Tryz.prog 19 #[.slice A k c] W fun e w' => ∃ v : Value, e = .returned v ∧ kR.R 109 w' W.heap.size (fun _ => True) v L ∧ Below W.heap.size W w' from by have := recs_any A c L W (Kd.C_below HCL.out.1 hb) HCL.out.2.1 (by have := HCL.out.2.2; omega); rw [← HKK.out] at this; exact this))
          have HSA := Aside0.mk (fun (W : World) (B : Option Addr) (d : Nat) (B2 : Option Addr) (d2 : Nat) (h1 : kR.R 50 W w.heap.size (fun _ => True) (.slice B k d) L) (h2 : kR.R 109 W w.heap.size (fun _ => True) (.slice B2 k d2) L) => (show Calls Tryz.prog 17 #[.slice B k d, .slice B2 k d2] W fun e w' => e = .returned (.bool true) ∧ Below W.heap.size W w' from by
            rw [HKK.out] at h1 h2 ⊢
            have := same_any B d L B2 d2 L W (Kd.R_reads' h1).2.2 (Kd.R_reads' h1).2.1 (by have := HCL.out.2.2; omega) (Kd.R_reads' h2).2.2 (Kd.R_reads' h2).2.1
            rwa [decide_eq_true rfl] at this))
          clear hl hc hCL hk h8 h30 hm6 hm28 hp hd hh hl2 ha hf hv hV v1 v2 v3 v4 hlen htwo hK hKl hkn hS0 hec he hN
          go_enter Tryz.func7, Tryz.ntmps7
          go_upto_region 4 with (first
            | (go_at_call 14; (with_reducible refine (HF.out).mono ?_); rintro e w1 ⟨rfl, hb1⟩; have HB1 := Aside0.mk hb1; clear hb1 HF)
            | (go_at_call 11; (with_reducible refine (HAL.out _).mono ?_); rintro e w2 ⟨rfl, hb2⟩; have HB2 := Aside0.mk (below_step HB1.out hb2); clear hb2 HB1)
            | (go_at_call 12; (with_reducible refine (HFM.out _ (below_alloc HB2.out _) _ (Cr.alloc_at rfl)).mono ?_); rintro e w3 ⟨g, rfl, hq, hb⟩; have HQ3 := Aside0.mk hq; clear hq hb HFM HB2))
          go_upto_region 9 with (go_at_call 13; (with_reducible refine (HOP.out _ _ HQ3.out).mono ?_); rintro e w4 ⟨gv, rfl, hv, hb⟩; have HV4b := Aside0.mk hv; clear hv hb HQ3 HOP)
          go_upto_region 10 with (go_at_call 22; (with_reducible refine (HLIVE.out _ _ _ HV4b.out).mono ?_); rintro e w5 ⟨v5, rfl, hr, hb⟩; obtain ⟨A5, c5, ev⟩ := Kd.R_slice hr; subst ev; have HV5 := Aside0.mk (HV4b.out.below hb); clear hr hb HV4b HLIVE)
          go_upto_region 11 with (go_at_call 15; (with_reducible refine (HSV.out _ _ _ HV5.out).mono ?_); rintro e w7 ⟨V', rfl, hv, ho, _, _, hg, hrc, _⟩; have HV7 := Aside0.mk hv; have HG := Aside0.mk hg; have HRC := Aside0.mk hrc; clear hv ho hg hrc HV5 HSV)
          go_wp2_with (first
            | (go_at_call 16; (with_reducible refine (HGEN.out _ _ _ _ HV7.out).mono ?_); rintro e w8 ⟨rfl, hb⟩; rw [HG.out, HV1.out]; have HV8 := Aside0.mk (HV7.out.below hb); clear hb HV7)
            | (go_at_call 18; (with_reducible refine (HRECS.out _ _ _ _ HV8.out HRC.out).mono ?_); rintro e w9 ⟨v9, rfl, hr, hb⟩; rw [HRC.out] at hr; obtain ⟨A9, c9, ev⟩ := Kd.R_slice hr; rw [← HKK.out] at ev; subst ev; have HR9 := Aside0.mk (Kd.R_lower hr HV8.out.q.1.size); have HV9 := Aside0.mk (HV8.out.below hb); clear hr hb HV8)
            | (go_at_call 19; (with_reducible refine (HREM.out _ (IsQ_bel HV9.out.q)).mono ?_); rintro e w10 ⟨v10, rfl, hr, hb⟩; obtain ⟨A10, c10, ev⟩ := Kd.R_slice hr; rw [← HKK.out] at ev; subst ev; have HR10b := Aside0.mk (Kd.R_lower hr HV9.out.q.1.size); have HR10 := Aside0.mk (Kd.R_below HR9.out hb); have HV10 := Aside0.mk (HV9.out.below hb); clear hr hb HV9 HR9)
            | (go_at_call 17; (with_reducible refine (HSA.out _ _ _ _ _ HR10.out HR10b.out).mono ?_); rintro e w11 ⟨rfl, hb⟩; have HV11 := Aside0.mk (HV10.out.below hb); clear hb HV10 HR10 HR10b))
          go_ret
          exact ⟨rfl, HV11.out.q.1⟩
        · have HSV := Aside0.mk (fun (W : World) (gv g : Nat) (h : IsV w W gv g V) => (htwo W gv g h).1 he)
          have q1 : (ec == 0) = false := by simpa using he
          have HRECS := Aside0.mk (fun (W : World) (gv g : Nat) (h : IsV w W gv g V) => records_any h (by rw [HV2.out]; decide))
          rw [v2] at HRECS
          have HLIVE2 := Aside0.mk HLIVE.out
          have HSI := Aside0.mk (fun (W : World) (B : Option Addr) (d : Nat) (B2 : Option Addr) (d2 : Nat) (h1 : (Kd.int .i64).R 3 W w.heap.size (fun _ => True) (.slice B kn d) K) (h2 : (Kd.int .i64).R 3 W w.heap.size (fun _ => True) (.slice B2 kn d2) K) => (show Calls Tryz.prog 24 #[.slice B kn d, .slice B2 kn d2] W fun e w' => e = .returned (.bool true) ∧ Below W.heap.size W w' from by
            rw [HKL.out] at h1 h2 ⊢
            have := sameInts_any B d K B2 d2 K W (Kd.R_reads' h1).2.2 (Kd.R_reads' h1).2.1 (Kd.R_reads' h2).2.2 (Kd.R_reads' h2).2.1 (by have := HKN.out; omega)
            rwa [decide_eq_true rfl] at this))
          have HAF := Aside0.mk (fun (W : World) (g : Nat) (h : VP.IsQ w W g V.P) => VP.q_afloat h (n := 0) (by rw [HV4.out]; rfl))
          clear hl hc hCL hk h8 h30 hm6 hm28 hp hd hh hl2 ha hf hv hV v1 v2 v3 v4 hlen htwo hK hKl hkn hS0 hec he hN
          go_enter Tryz.func7, Tryz.ntmps7
          go_upto_region 4 with (first
            | (go_at_call 14; (with_reducible refine (HF.out).mono ?_); rintro e w1 ⟨rfl, hb1⟩; have HB1 := Aside0.mk hb1; clear hb1 HF)
            | (go_at_call 11; (with_reducible refine (HAL.out _).mono ?_); rintro e w2 ⟨rfl, hb2⟩; have HB2 := Aside0.mk (below_step HB1.out hb2); clear hb2 HB1)
            | (go_at_call 12; (with_reducible refine (HFM.out _ (below_alloc HB2.out _) _ (Cr.alloc_at rfl)).mono ?_); rintro e w3 ⟨g, rfl, hq, hb⟩; have HQ3 := Aside0.mk hq; clear hq hb HFM HB2))
          go_upto_region 9 with (go_at_call 13; (with_reducible refine (HOP.out _ _ HQ3.out).mono ?_); rintro e w4 ⟨gv, rfl, hv, hb⟩; have HV4b := Aside0.mk hv; clear hv hb HQ3 HOP)
          go_upto_region 10 with (go_at_call 22; (with_reducible refine (HLIVE.out _ _ _ HV4b.out).mono ?_); rintro e w5 ⟨v5, rfl, hr, hb⟩; obtain ⟨A5, c5, ev⟩ := Kd.R_slice hr; rw [← HKL.out] at ev; subst ev; have HR5 := Aside0.mk (Kd.R_lower hr HV4b.out.q.1.size); have HV5 := Aside0.mk (HV4b.out.below hb); clear hr hb HV4b HLIVE)
          go_upto_region 11 with (go_at_call 15; (with_reducible refine (HSV.out _ _ _ HV5.out).mono ?_); rintro e w7 ⟨rfl, hv, ho⟩; have HV7 := Aside0.mk hv; have HR7 := Aside0.mk (R_othersV HR5.out ho T3ov); clear hv ho HV5 HSV HR5)
          go_upto_region 14 with (go_at_call 18; (with_reducible refine (HRECS.out _ _ _ HV7.out).mono ?_); rintro e w8 ⟨v8, rfl, hr, hb⟩; obtain ⟨A8, c8, ev⟩ := Kd.R_slice hr; subst ev; have HRR8 := Aside0.mk (Kd.R_lower hr HV7.out.q.1.size); have HR8 := Aside0.mk (Kd.R_below HR7.out hb); have HV8 := Aside0.mk (HV7.out.below hb); clear hr hb HV7 HR7)
          go_wp2_with (first
            | (go_at_call 16; (with_reducible refine (HGEN.out _ _ _ _ HV8.out).mono ?_); rintro e w9 ⟨rfl, hb⟩; rw [HV1.out]; have HV9 := Aside0.mk (HV8.out.below hb); have HR9 := Aside0.mk (Kd.R_below HR8.out hb); have HRR9 := Kd.R_below HRR8.out hb; obtain ⟨ad, ea, x0, x1⟩ := at_R (Kd.R_reads' HRR9).2.2 0 (by decide); subst ea; have x2 : w9.cell? ⟨ad.block, ad.off + 1, none⟩ = some (.string ⟨#[107, 101, 112, 116]⟩) := (by simpa [Addr.add, atR, keptR] using x1); clear hb HV8 HR8 HRR8 HRR9 x0 x1)
            | (go_at_call 22; (with_reducible refine (HLIVE2.out _ _ _ HV9.out).mono ?_); rintro e w10 ⟨v10, rfl, hr, hb⟩; obtain ⟨A10, c10, ev⟩ := Kd.R_slice hr; rw [← HKL.out] at ev; subst ev; have HR10b := Aside0.mk (Kd.R_lower hr HV9.out.q.1.size); have HR10 := Aside0.mk (Kd.R_below HR9.out hb); have HV10 := Aside0.mk (HV9.out.below hb); clear hr hb HV9 HR9 x2)
            | (go_at_call 24; (with_reducible refine (HSI.out _ _ _ _ _ HR10b.out HR10.out).mono ?_); rintro e w11 ⟨rfl, hb⟩; have HV11 := Aside0.mk (HV10.out.below hb); clear hb HV10 HR10 HR10b)
            | (go_at_call 27; (with_reducible refine (HAF.out _ _ HV11.out.q).mono ?_); rintro e w12 ⟨rfl, hq⟩; have HQ12 := Aside0.mk hq; clear hq HV11))
          go_ret
          exact ⟨rfl, HQ12.out.1⟩
end Go.Proofs.YtdhaoaehboonpaaGreat.V

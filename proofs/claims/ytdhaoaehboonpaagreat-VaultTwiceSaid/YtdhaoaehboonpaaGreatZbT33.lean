/- Of the texts that the row stands on, what it needs (part 33), put together by a program of this session. -/
import Derived.Test.YtdhaoaehboonpaaGreatZbT32
namespace Go.Proofs.YtdhaoaehboonpaaGreat.V
open Go.RowKit Go.Proofs.YtdhaoaehboonpaaGreatW.PrintWords Go.Proofs.YtdhaoaehboonpaaGreatW.PrintLast Go.Proofs.YtdhaoaehboonpaaGreatW.PrintMore Go.Proofs.YtdhaoaehboonpaaGreatM
open Go.Proofs.YtdhaoaehboonpaaGreat.PSm (S50 k50)
set_option linter.unusedVariables false
set_option linter.unusedSimpArgs false
def fmtV (N : Nat) (l : List R2) : VS := opV (fmtS N l) N 1 (planE l [] (pgs (N - 2))).2.1 l (planE l [] (pgs (N - 2))).1
theorem fmtV_ok {N m : Nat} {l : List R2} (h8 : 8 ≤ N) (h200 : N ≤ 200) (hm : N = m + 2) (hp : (planE l [] (pgs (N - 2))).2.2 = 0) : VOk (fmtV N l) m := by
  obtain ⟨h1, h2, h3, h4, _⟩ := fmt_disk h8 h200 hp
  exact h1.vok h2 h3 h4 hm
def V1 (l : List R2) : VS := { fmtV 200 l with P := VP.haltE (fmtS 200 l) 1 }
theorem V1_ok {l : List R2} (hp : (planE l [] (pgs 198)).2.2 = 0) : VOk (V1 l) 198 := VOk.halt (fmtV_ok (N := 200) (m := 198) (by decide) (by decide) rfl hp) 1
theorem twice_plan {l : List R2} (hp : (planE l [] (pgs 198)).2.2 = 0) : svP (V1 l) 198 l = ([], (planE l [] (pgs 198)).2.1, 0) := by
  have hok := V1_ok hp
  have hm := may_free (m := 198) (by decide) (live := (V1 l).live) (fun x hx => by have := hok.disk.low x hx; exact ⟨this.1, by have h2 := this.2; show x.1 < 200; exact h2⟩)
  exact (plan_again2 hp hm).1
theorem twice_save {l : List R2} (hp : (planE l [] (pgs 198)).2.2 = 0) {e : Int} {V' : VS} (hs : SaveR (V1 l) 198 l e V') : e = 0 ∧ VOk V' 198 ∧ V'.gen = 2 ∧ V'.live = (fmtV 200 l).live ∧ V'.P.halted = false := by
  have hok := V1_ok hp
  have hpl := twice_plan hp
  obtain ⟨hd, hh, hl, ha, hf⟩ := fmt_disk (N := 200) (l := l) (by decide) (by decide) hp
  have hP : (V1 l).P = { fmtS 200 l with halts := true, after := 1 } := by
    show VP.haltE (fmtS 200 l) 1 = _
    unfold VP.haltE
    rw [if_neg (by rw [hh]; decide)]; rfl
  have hE : svE (V1 l) 198 l = 0 ∧ (svS (V1 l) 198 l).safe = (fmtS 200 l).safe.set 0 (Cr.encB 2 (planE l [] (pgs 198)).2.1 200) := by
    have hg : (V1 l).gen + 1 = 2 := rfl
    have hpg : ((V1 l).pages : Int) = 200 := rfl
    unfold svE svS
    rw [hpl, hg, hpg, hP]
    obtain ⟨Q, hQ⟩ : ∃ Q, Q = ({ fmtS 200 l with halts := true, after := 1 } : VP.PS) := ⟨_, rfl⟩
    have q1 : Q.halted = false := by rw [hQ]; exact hh
    have q2 : Q.safe = (fmtS 200 l).safe := by rw [hQ]
    have q3 : Q.afl = [] := by rw [hQ]; exact ha
    have q4 : Q.halts = true ∧ Q.after = 1 := by rw [hQ]; exact ⟨rfl, rfl⟩
    rw [← hQ]
    have hseS : VP.seS Q = { Q with safe := Q.safe, afl := [], last := fun _ => none } := by
      unfold VP.seS VP.settled; rw [q3]; rfl
    have hm : VP.mayE (VP.seS Q) (2 % 2) = 0 := by
      unfold VP.mayE
      rw [hseS]
      show (if Q.halted = true then _ else _) = _
      rw [q1, if_neg (by decide), if_neg (by decide), if_neg (by show ¬ ((Q.safe.length : Int) ≤ 2 % 2); rw [q2, hd.len]; decide)]
    have e1 : VP.storeE (VP.seS Q) (2 % 2) (Cr.encB 2 (planE l [] (pgs 198)).2.1 200) = 0 := by
      unfold VP.storeE
      rw [if_pos hm, if_pos (Cr.encB_size _ _ _), hseS]
      show (if Q.halts = true then (if Q.after = 0 then (7 : Int) else 0) else 0) = 0
      rw [q4.1, q4.2]; rfl
    constructor
    · unfold writeE
      rw [show wrE Q [] = 0 from rfl, if_pos rfl]; exact e1
    · unfold writeS
      rw [show wrE Q [] = 0 from rfl, if_pos rfl, show wrS Q [] = Q from rfl, if_pos e1]
      have e2 : (VP.storeS (VP.seS Q) (2 % 2) (Cr.encB 2 (planE l [] (pgs 198)).2.1 200)).afl = toAf [(0, Cr.encB 2 (planE l [] (pgs 198)).2.1 200)] ∧ (VP.storeS (VP.seS Q) (2 % 2) (Cr.encB 2 (planE l [] (pgs 198)).2.1 200)).safe = Q.safe := by
        unfold VP.storeS
        rw [if_pos hm, if_pos (Cr.encB_size _ _ _), if_neg (by rw [hseS]; rintro ⟨_, h⟩; rw [show ({ Q with safe := Q.safe, afl := [], last := fun _ => none } : VP.PS).after = Q.after from rfl, q4.2] at h; cases h), hseS]
        exact ⟨rfl, rfl⟩
      rw [seS_safe e2.1, e2.2, q2]; rfl
  rcases save_ways hok (by show (1 : Int) < _; decide) hs with ⟨h1, h2, _⟩ | ⟨_, _, h1, _⟩ | ⟨h1, h2, h3, h4, h5, h6, h7, h8, h9, h10⟩
  · rw [hpl] at h1; rcases h2 with h2 | h2 | h2 <;> (rw [h2] at h1; cases h1)
  · rw [hE.1] at h1; cases h1
  · refine ⟨h1, h3, h4, ?_, h3.halted⟩
    rw [hpl] at h6
    have ht : Tree V'.P.safe (planE l [] (pgs 198)).2.1 l (fmtV 200 l).live := hd.tree.stable (fun x hx => by
      rw [h8, hE.2, List.getElem?_set_ne (by have := (hd.low x hx).1; omega)]
      exact (hd.tree.mem hx).2.2)
    have ht2 := h3.disk.tree
    rw [h6] at ht2
    exact pages_ext ht2.pages ht.pages rfl
theorem R_othersV {α : Type} {d : Kd α} {e base : Nat} {w w1 : World} {ok : Nat → Prop} {v : Value} {xs : List α} (h : d.R e w base ok v xs) (ho : OthersV w w1) (ht : ∀ q, q ∈ e :: d.E → q ≠ 114 ∧ q ≠ 9 ∧ q ≠ 116 ∧ q ≠ 103) : d.R e w1 base ok v xs :=
  Kd.R_mono (Kd.R_move (Kd.R_bound h) (fun k hk => by
    obtain ⟨_, _, _, q, hq, cells, hc⟩ := hk
    obtain ⟨t1, t2, t3, t4⟩ := ht q hq
    rw [ho k cells q hc t1 t2 t3 t4, hc])) (fun _ hk => hk.1)
theorem T3ov : ∀ q, q ∈ 3 :: (Kd.int .i64).E → q ≠ 114 ∧ q ≠ 9 ∧ q ≠ 116 ∧ q ≠ 103 := by intro q hq; simp [Kd.int, Kd.scalar] at hq; omega
theorem format_two {w0 w : World} (hb : Below w0.heap.size w0 w) (N : Nat) (h8 : 8 ≤ N) (h200 : N ≤ 200) (A : Option Addr) (c : Nat) (l : List R2) (h : Kd.C kR w A l.length l) (hc : l.length ≤ c) (hl : l.length ≤ 9000) (hp : (planE l [] (pgs (N - 2))).2.2 ≠ 0) :
    Calls Tryz.prog 12 #[.int .i64 (N : Int), .slice A l.length c] w fun e w' => e = .returned (.tuple #[.pointer none, .int .i64 (planE l [] (pgs (N - 2))).2.2]) ∧ Below w.heap.size w w' := by
  refine (format_any w N A c l h hc hl).mono ?_
  rintro e w' ⟨hf, hb2⟩
  rcases hf with ⟨h1, _⟩ | ⟨h1, h2, he⟩ | ⟨h1, h2, _⟩
  · omega
  · rw [Int.toNat_natCast] at he; exact ⟨he, hb2⟩
  · rw [Int.toNat_natCast] at h2; exact absurd h2 hp
def tR5 (l : List S50) : List R2 := l.map fun x => (x.f0, x.f1)
set_option maxHeartbeats 16000000 in
set_option maxRecDepth 100000 in
theorem twice_any (w : World) (A : Option Addr) (c : Nat) (l : List S50) (hr : Kd.C k50 w A l.length l) (hc : l.length ≤ c) :
    Calls Tryz.prog 5 #[.slice A l.length c] w fun e w' => e = .returned (.bool true) ∧ Below w.heap.size w w' := by
  have HAL := Aside0.mk (fun W => alive_any W)
  obtain ⟨fw, hfw, hfc⟩ := few_any A c l w hr hc
  have HF := Aside0.mk (hfc w (Below.refl _ _))
  cases fw with
  | false =>
    obtain ⟨n, hn⟩ : ∃ n, n = l.length := ⟨_, rfl⟩
    rw [← hn] at HF ⊢
    clear hfw hfc hr hc hn
    go_enter Tryz.func5, Tryz.ntmps5
    go_wp2_with (first
      | (go_at_call 14; (with_reducible refine (HF.out).mono ?_); rintro e w1 ⟨rfl, hb1⟩; have HB1 := Aside0.mk hb1; clear hb1 HF)
      | (go_at_call 11; (with_reducible refine (HAL.out _).mono ?_); rintro e w2 ⟨rfl, hb2⟩; have HB2 := Aside0.mk (below_step HB1.out hb2); clear hb2))
    go_ret
    exact ⟨rfl, HB2.out⟩
  | true =>
    have hl := hfw rfl
    obtain ⟨L, hL⟩ : ∃ L, L = tR5 l := ⟨_, rfl⟩
    have hCL : Kd.C kR w A L.length L := by rw [hL, tR5, List.length_map]; exact C_iso hr
    have hLl : L.length = l.length := by rw [hL, tR5, List.length_map]
    rw [← hLl] at hl hc HF ⊢
    clear hfw hfc hr hL hLl
    obtain ⟨n, hn⟩ : ∃ n, n = L.length := ⟨_, rfl⟩
    by_cases hp : (planE L [] (pgs 198)).2.2 = 0
    · obtain ⟨hd, hh, hl2, ha, hf⟩ := fmt_disk (N := 200) (l := L) (by decide) (by decide) hp
      have HFM := Aside0.mk (fun (W : World) (hb : Below w.heap.size w W) => (show Calls Tryz.prog 12 #[.int .i64 200, .slice A L.length c] W fun e w' => ∃ g, e = .returned (.tuple #[.pointer (some ⟨g, 0, none⟩), .int .i64 0]) ∧ VP.IsQ w w' g (fmtS 200 L) ∧ Below W.heap.size W w' from format_law hb 200 (by decide) (by decide) A c L (Kd.C_below hCL hb) hc (by omega) hp))
      have HOP := Aside0.mk (fun (W : World) (g : Nat) (hq : VP.IsQ w W g (fmtS 200 L)) => (show Calls Tryz.prog 13 #[.pointer (some ⟨g, 0, none⟩)] W fun e w' => ∃ gv, e = .returned (.tuple #[.pointer (some ⟨gv, 0, none⟩), .int .i64 0]) ∧ IsV w w' gv g (fmtV 200 L) ∧ Below W.heap.size W w' from open_disk hq hd hh hl2))
      have HLIVE := Aside0.mk (fun (W : World) (gv g : Nat) (h : IsV w W gv g (fmtV 200 L)) => live_any h (by have := (V1_ok hp).disk.live_len; show (fmtV 200 L).live.length ≤ 1000000; have h2 : (fmtV 200 L).live.length ≤ 200 - 2 := this; omega))
      have HHALT := Aside0.mk (fun (W : World) (gv g : Nat) (h : IsV w W gv g (fmtV 200 L)) => (show Calls Tryz.prog 20 #[.pointer (some ⟨g, 0, none⟩), .int .i64 1] W fun e w' => e = .returned (.tuple #[]) ∧ IsV w w' gv g (V1 L) ∧ VP.Others W w' from (q_haltO h.q 1).mono (by rintro e w' ⟨rfl, hq, ho⟩; exact ⟨rfl, h.others hq ho, ho⟩)))
      have HSV := Aside0.mk (fun (W : World) (gv g : Nat) (h : IsV w W gv g (V1 L)) => (save_any h rfl ((V1_ok hp).can (by show (1 : Int) < _; decide)) (V1_ok hp).disk.low A c L (Kd.C_below hCL h.q.1) hc (by omega) (fun _ => sv_back (V1_ok hp) (by rw [twice_plan hp]))).mono (R' := fun e w' => ∃ V', e = .returned (.int .i64 0) ∧ IsV w w' gv g V' ∧ V'.gen = 2 ∧ V'.live = (fmtV 200 L).live ∧ V'.P.halted = false ∧ OthersV W w') (by
        rintro e w' ⟨r, V', rfl, hs, hv, ho⟩
        obtain ⟨rfl, _, h2, h3, h4⟩ := twice_save hp hs
        exact ⟨V', rfl, hv, h2, h3, h4, ho⟩))
      have HGEN := Aside0.mk (fun (W : World) (gv g : Nat) (V : VS) (h : IsV w W gv g V) => gen_any h)
      have HLV2 := Aside0.mk (fun (W : World) (gv g : Nat) (V : VS) (h : IsV w W gv g V) (he : V.live = (fmtV 200 L).live) => live_any h (by rw [he]; have := (V1_ok hp).disk.live_len; have h2 : (fmtV 200 L).live.length ≤ 200 - 2 := this; omega))
      have HHD := Aside0.mk (fun (W : World) (g : Nat) (S : VP.PS) (h : VP.IsQ w W g S) (he : S.halted = false) => VP.q_halted h he)
      have hln : ((fmtV 200 L).live.map (·.1)).length ≤ 198 := by rw [List.length_map]; exact (V1_ok hp).disk.live_len
      obtain ⟨K, hK⟩ : ∃ K, K = (fmtV 200 L).live.map (·.1) := ⟨_, rfl⟩
      obtain ⟨V0, hV0⟩ : ∃ V, V = fmtV 200 L := ⟨_, rfl⟩
      rw [← hV0] at HOP HLIVE HHALT HSV HLV2 hK
      rw [← hK] at HLIVE
      have hln2 : K.length ≤ 198 := by rw [hK, hV0]; exact hln
      have HKN := Aside0.mk (And.intro hK hln2)
      obtain ⟨VH, hVH⟩ : ∃ V, V = V1 L := ⟨_, rfl⟩
      rw [← hVH] at HHALT HSV
      obtain ⟨S0, hS0⟩ : ∃ S, S = fmtS 200 L := ⟨_, rfl⟩
      rw [← hS0] at HFM HOP
      rw [← hn] at HF HFM HSV ⊢
      obtain ⟨kn, hkn⟩ : ∃ k, k = K.length := ⟨_, rfl⟩
      have HKL := Aside0.mk hkn
      clear hCL hl hc hn hp hd hh hl2 ha hf hln hK hln2 hV0 hVH hS0 hkn
      go_enter Tryz.func5, Tryz.ntmps5
      go_upto_region 6 with (first
        | (go_at_call 14; (with_reducible refine (HF.out).mono ?_); rintro e w1 ⟨rfl, hb1⟩; have HB1 := Aside0.mk hb1; clear hb1 HF)
        | (go_at_call 11; (with_reducible refine (HAL.out _).mono ?_); rintro e w2 ⟨rfl, hb2⟩; have HB2 := Aside0.mk (below_step HB1.out hb2); clear hb2 HB1)
        | (go_at_call 12; (with_reducible refine (HFM.out _ HB2.out).mono ?_); rintro e w3 ⟨g, rfl, hq, hb⟩; have HQ3 := Aside0.mk hq; clear hq hb HFM HB2))
      go_upto_region 9 with (go_at_call 13; (with_reducible refine (HOP.out _ _ HQ3.out).mono ?_); rintro e w4 ⟨gv, rfl, hv, hb⟩; have HV4 := Aside0.mk hv; clear hv hb HQ3 HOP)
      go_upto_region 10 with (go_at_call 22; (with_reducible refine (HLIVE.out _ _ _ HV4.out).mono ?_); rintro e w5 ⟨v5, rfl, hr, hb⟩; obtain ⟨A5, c5, ev⟩ := Kd.R_slice hr; rw [← HKL.out] at ev; subst ev; have HR5 := Aside0.mk (Kd.R_lower hr HV4.out.q.1.size); have HV5 := Aside0.mk (HV4.out.below hb); clear hr hb HV4 HLIVE)
      go_upto_region 11 with (go_at_call 20; (with_reducible refine (HHALT.out _ _ _ HV5.out).mono ?_); rintro e w6 ⟨rfl, hv, ho⟩; have HV6 := Aside0.mk hv; have HR6 := Aside0.mk (R_others HR5.out ho T3o); clear hv ho HV5 HR5 HHALT)
      go_upto_region 12 with (go_at_call 15; (with_reducible refine (HSV.out _ _ _ HV6.out).mono ?_); rintro e w7 ⟨V', rfl, hv, hg, hlv, hht, ho⟩; have HV7 := Aside0.mk hv; have HR7 := Aside0.mk (R_othersV HR6.out ho T3ov); have HG := Aside0.mk hg; have HLE := Aside0.mk hlv; have HHT := Aside0.mk hht; clear hv ho hg hlv hht HV6 HR6 HSV)
      have HSI := Aside0.mk (fun (W : World) (B : Option Addr) (d : Nat) (h1 : (Kd.int .i64).R 3 W w.heap.size (fun _ => True) (.slice A5 kn c5) K) (h2 : (Kd.int .i64).R 3 W w.heap.size (fun _ => True) (.slice B kn d) K) => (show Calls Tryz.prog 24 #[.slice B kn d, .slice A5 kn c5] W fun e w' => e = .returned (.bool true) ∧ Below W.heap.size W w' from by
        rw [HKL.out] at h1 h2 ⊢
        have := sameInts_any B d K A5 c5 K W (Kd.R_reads' h2).2.2 (Kd.R_reads' h2).2.1 (Kd.R_reads' h1).2.2 (Kd.R_reads' h1).2.1 (by have := HKN.out.2; omega)
        rwa [decide_eq_true rfl] at this))
      go_wp2_with (first
        | (go_at_call 16; (with_reducible refine (HGEN.out _ _ _ _ HV7.out).mono ?_); rintro e w8 ⟨rfl, hb⟩; rw [HG.out]; have HV8 := Aside0.mk (HV7.out.below hb); have HR8 := Aside0.mk (Kd.R_below HR7.out hb); clear hb HV7 HR7)
        | (go_at_call 22; (with_reducible refine (HLV2.out _ _ _ _ HV8.out HLE.out).mono ?_); rintro e w9 ⟨v9, rfl, hr, hb⟩; rw [HLE.out, ← HKN.out.1] at hr; obtain ⟨A9, c9, ev⟩ := Kd.R_slice hr; rw [← HKL.out] at ev; subst ev; have HR9b := Aside0.mk (Kd.R_lower hr HV8.out.q.1.size); have HR9 := Aside0.mk (Kd.R_below HR8.out hb); have HV9 := Aside0.mk (HV8.out.below hb); clear hr hb HV8 HR8)
        | (go_at_call 24; (with_reducible refine (HSI.out _ _ _ HR9.out HR9b.out).mono ?_); rintro e w10 ⟨rfl, hb⟩; have HV10 := Aside0.mk (HV9.out.below hb); clear hb HV9 HR9 HR9b)
        | (go_at_call 25; (with_reducible refine (HHD.out _ _ _ HV10.out.q HHT.out).mono ?_); rintro e w11 ⟨rfl, hq⟩; have HQ11 := Aside0.mk hq; clear hq HV10))
      go_ret
      exact ⟨rfl, HQ11.out.1⟩
    · have HFM := Aside0.mk (fun (W : World) (hb : Below w.heap.size w W) => (show Calls Tryz.prog 12 #[.int .i64 200, .slice A L.length c] W fun e w' => e = .returned (.tuple #[.pointer none, .int .i64 (planE L [] (pgs 198)).2.2]) ∧ Below W.heap.size W w' from format_two hb 200 (by decide) (by decide) A c L (Kd.C_below hCL hb) hc (by omega) hp))
      obtain ⟨ec, hec⟩ : ∃ e, e = (planE L [] (pgs 198)).2.2 := ⟨_, rfl⟩
      rw [← hec] at HFM hp
      have q1 : (ec != 0) = true := by simpa using hp
      rw [← hn] at HF HFM ⊢
      clear hCL hl hc hn hp hec
      go_enter Tryz.func5, Tryz.ntmps5
      go_wp2_with (first
        | (go_at_call 14; (with_reducible refine (HF.out).mono ?_); rintro e w1 ⟨rfl, hb1⟩; have HB1 := Aside0.mk hb1; clear hb1 HF)
        | (go_at_call 11; (with_reducible refine (HAL.out _).mono ?_); rintro e w2 ⟨rfl, hb2⟩; have HB2 := Aside0.mk (below_step HB1.out hb2); clear hb2 HB1)
        | (go_at_call 12; (with_reducible refine (HFM.out _ HB2.out).mono ?_); rintro e w3 ⟨rfl, hb⟩; have HB3 := Aside0.mk (below_step HB2.out hb); clear hb HFM HB2))
      go_ret
      exact ⟨rfl, HB3.out⟩
end Go.Proofs.YtdhaoaehboonpaaGreat.V

/- Of the texts that the row stands on, what it needs (part 40), put together by a program of this session. -/
import Derived.Test.YtdhaoaehboonpaaGreatZcT39
namespace Go.Proofs.YtdhaoaehboonpaaGreat.V
open Go.RowKit Go.Proofs.YtdhaoaehboonpaaGreatW.PrintWords Go.Proofs.YtdhaoaehboonpaaGreatW.PrintLast Go.Proofs.YtdhaoaehboonpaaGreatW.PrintMore Go.Proofs.YtdhaoaehboonpaaGreatM
open Go.Proofs.YtdhaoaehboonpaaGreat.PSm (S50 k50)
set_option linter.unusedVariables false
set_option linter.unusedSimpArgs false
set_option maxHeartbeats 64000000 in
set_option maxRecDepth 100000 in
theorem atomic_any (w : World) (A : Option Addr) (c : Nat) (la : List S50) (B : Option Addr) (d : Nat) (lb : List S50) (n : Int) (C : Option Addr) (cc : Nat) (cl : List Int) (D : Option Addr) (dd : Nat) (ag : List Int) (hra : Kd.C k50 w A la.length la) (hca : la.length ≤ c) (hrb : Kd.C k50 w B lb.length lb) (hcb : lb.length ≤ d) (wn : (Lit.int .i64 n).wf = true) (hrc : Kd.C (Kd.int .i64) w C cl.length cl) (hcc : cl.length ≤ cc) (hrd : Kd.C (Kd.int .i64) w D ag.length ag) (hcd : ag.length ≤ dd) :
    Calls Tryz.prog 4 #[.slice A la.length c, .slice B lb.length d, .int .i64 n, .slice C cl.length cc, .slice D ag.length dd] w fun e w' => e = .returned (.bool true) ∧ Below w.heap.size w w' := by
  have HAL := Aside0.mk (fun W => alive_any W)
  obtain ⟨fa, hfa, hfca⟩ := few_any A c la w hra hca
  obtain ⟨fb, hfb, hfcb⟩ := few_any B d lb w hrb hcb
  obtain ⟨nc, hnc⟩ : ∃ n, n = cl.length := ⟨_, rfl⟩
  obtain ⟨nd, hnd⟩ : ∃ n, n = ag.length := ⟨_, rfl⟩
  have HCC := Aside0.mk (And.intro hrc hnc)
  have HDD := Aside0.mk (And.intro hrd hnd)
  rw [← hnc, ← hnd]
  have HF := Aside0.mk (hfca w (Below.refl _ _))
  have HFB := Aside0.mk (fun (W : World) (hb : Below w.heap.size w W) => hfcb W hb)
  cases fa with
  | false =>
    obtain ⟨na, hna⟩ : ∃ n, n = la.length := ⟨_, rfl⟩
    obtain ⟨nb, hnb⟩ : ∃ n, n = lb.length := ⟨_, rfl⟩
    rw [← hna] at HF ⊢
    rw [← hnb] at HFB ⊢
    clear hfa hfb hfca hfcb hra hca hrb hcb hrc hcc hrd hcd hnc hnd hna hnb wn HCC HDD HFB
    go_enter Tryz.func4, Tryz.ntmps4
    go_wp2_with (first
      | (go_at_call 14; (with_reducible refine (HF.out).mono ?_); rintro e w1 ⟨rfl, hb1⟩; have HB1 := Aside0.mk hb1; clear hb1 HF)
      | (go_at_call 11; (with_reducible refine (HAL.out _).mono ?_); rintro e w2 ⟨rfl, hb2⟩; have HB2 := Aside0.mk (below_step HB1.out hb2); clear hb2))
    go_ret
    exact ⟨rfl, HB2.out⟩
  | true =>
  cases fb with
  | false =>
    obtain ⟨na, hna⟩ : ∃ n, n = la.length := ⟨_, rfl⟩
    obtain ⟨nb, hnb⟩ : ∃ n, n = lb.length := ⟨_, rfl⟩
    rw [← hna] at HF ⊢
    rw [← hnb] at HFB ⊢
    clear hfa hfb hfca hfcb hra hca hrb hcb hrc hcc hrd hcd hnc hnd hna hnb wn HCC HDD
    go_enter Tryz.func4, Tryz.ntmps4
    go_wp2_with (first
      | (go_at_call 14; (with_reducible refine (HF.out).mono ?_); rintro e w1 ⟨rfl, hb1⟩; have HB1 := Aside0.mk hb1; clear hb1 HF)
      | (go_at_call 14; (with_reducible refine (HFB.out _ HB1.out).mono ?_); rintro e w1 ⟨rfl, hb1⟩; have HB2 := Aside0.mk (below_step HB1.out hb1); clear hb1 HFB HB1; have HB1 := HB2; clear HB2)
      | (go_at_call 11; (with_reducible refine (HAL.out _).mono ?_); rintro e w2 ⟨rfl, hb2⟩; have HB2 := Aside0.mk (below_step HB1.out hb2); clear hb2))
    go_ret
    exact ⟨rfl, HB2.out⟩
  | true =>
  by_cases h1 : 150 < nc
  · have d1 : decide (150 < (nc : Int)) = true := decide_eq_true (by omega)
    have d2 : decide (150 < nc) = true := decide_eq_true h1
    obtain ⟨na, hna⟩ : ∃ n, n = la.length := ⟨_, rfl⟩
    obtain ⟨nb, hnb⟩ : ∃ n, n = lb.length := ⟨_, rfl⟩
    rw [← hna] at HF ⊢
    rw [← hnb] at HFB ⊢
    clear hfa hfb hfca hfcb hra hca hrb hcb hrc hcc hrd hcd hnc hnd hna hnb wn HCC HDD h1
    go_enter Tryz.func4, Tryz.ntmps4
    go_wp2_with (first
      | (go_at_call 14; (with_reducible refine (HF.out).mono ?_); rintro e w1 ⟨rfl, hb1⟩; have HB1 := Aside0.mk hb1; clear hb1 HF)
      | (go_at_call 14; (with_reducible refine (HFB.out _ HB1.out).mono ?_); rintro e w1 ⟨rfl, hb1⟩; have HB2 := Aside0.mk (below_step HB1.out hb1); clear hb1 HFB HB1; have HB1 := HB2; clear HB2)
      | (go_at_call 11; (with_reducible refine (HAL.out _).mono ?_); rintro e w2 ⟨rfl, hb2⟩; have HB2 := Aside0.mk (below_step HB1.out hb2); clear hb2))
    go_ret
    exact ⟨rfl, HB2.out⟩
  by_cases h2 : 150 < nd
  · have d1 : decide (150 < (nc : Int)) = false := decide_eq_false (by omega)
    have d2 : decide (150 < nc) = false := decide_eq_false h1
    have d3 : decide (150 < (nd : Int)) = true := decide_eq_true (by omega)
    have d4 : decide (150 < nd) = true := decide_eq_true h2
    obtain ⟨na, hna⟩ : ∃ n, n = la.length := ⟨_, rfl⟩
    obtain ⟨nb, hnb⟩ : ∃ n, n = lb.length := ⟨_, rfl⟩
    rw [← hna] at HF ⊢
    rw [← hnb] at HFB ⊢
    clear hfa hfb hfca hfcb hra hca hrb hcb hrc hcc hrd hcd hnc hnd hna hnb wn HCC HDD h1 h2
    go_enter Tryz.func4, Tryz.ntmps4
    go_wp2_with (first
      | (go_at_call 14; (with_reducible refine (HF.out).mono ?_); rintro e w1 ⟨rfl, hb1⟩; have HB1 := Aside0.mk hb1; clear hb1 HF)
      | (go_at_call 14; (with_reducible refine (HFB.out _ HB1.out).mono ?_); rintro e w1 ⟨rfl, hb1⟩; have HB2 := Aside0.mk (below_step HB1.out hb1); clear hb1 HFB HB1; have HB1 := HB2; clear HB2)
      | (go_at_call 11; (with_reducible refine (HAL.out _).mono ?_); rintro e w2 ⟨rfl, hb2⟩; have HB2 := Aside0.mk (below_step HB1.out hb2); clear hb2))
    go_ret
    exact ⟨rfl, HB2.out⟩
  have d1 : decide (150 < (nc : Int)) = false := decide_eq_false (by omega)
  have d2 : decide (150 < nc) = false := decide_eq_false h1
  have d3 : decide (150 < (nd : Int)) = false := decide_eq_false (by omega)
  have d4 : decide (150 < nd) = false := decide_eq_false h2
  have hla := hfa rfl
  have hlb := hfb rfl
  obtain ⟨LA, hLA⟩ : ∃ L, L = tR5 la := ⟨_, rfl⟩
  obtain ⟨LB, hLB⟩ : ∃ L, L = tR5 lb := ⟨_, rfl⟩
  have hCA : Kd.C kR w A LA.length LA := by rw [hLA, tR5, List.length_map]; exact C_iso hra
  have hCB : Kd.C kR w B LB.length LB := by rw [hLB, tR5, List.length_map]; exact C_iso hrb
  have hLl : LA.length = la.length := by rw [hLA, tR5, List.length_map]
  have hLm : LB.length = lb.length := by rw [hLB, tR5, List.length_map]
  rw [← hLl] at hla hca HF ⊢
  rw [← hLm] at hlb hcb HFB ⊢
  clear hfa hfca hra hLA hLl hfb hfcb hrb hLB hLm hrc hcc hrd hcd hnc hnd h1 h2
  obtain ⟨na, hna⟩ : ∃ n, n = LA.length := ⟨_, rfl⟩
  obtain ⟨nb, hnb⟩ : ∃ n, n = LB.length := ⟨_, rfl⟩
  have HA := Aside0.mk (And.intro hCA (And.intro hca (And.intro hla hna)))
  have HBB := Aside0.mk (And.intro hCB (And.intro hcb (And.intro hlb hnb)))
  by_cases hp : (planE LA [] (pgs 198)).2.2 = 0
  · obtain ⟨hd, hh, hl2, ha, hf⟩ := fmt_disk (N := 200) (l := LA) (by decide) (by decide) hp
    have HFM := Aside0.mk (fun (W : World) (hb : Below w.heap.size w W) => (show Calls Tryz.prog 12 #[.int .i64 200, .slice A LA.length c] W fun e w' => ∃ g, e = .returned (.tuple #[.pointer (some ⟨g, 0, none⟩), .int .i64 0]) ∧ VP.IsQ w w' g (fmtS 200 LA) ∧ Below W.heap.size W w' from format_law hb 200 (by decide) (by decide) A c LA (Kd.C_below hCA hb) hca (by omega) hp))
    have HOP := Aside0.mk (fun (W : World) (g : Nat) (hq : VP.IsQ w W g (fmtS 200 LA)) => (show Calls Tryz.prog 13 #[.pointer (some ⟨g, 0, none⟩)] W fun e w' => ∃ gv, e = .returned (.tuple #[.pointer (some ⟨gv, 0, none⟩), .int .i64 0]) ∧ IsV w w' gv g (fmtV 200 LA) ∧ Below W.heap.size W w' from open_disk hq hd hh hl2))
    obtain ⟨V0, hV0⟩ : ∃ V, V = fmtV 200 LA := ⟨_, rfl⟩
    have hok : VOk { V0 with P := VP.haltE V0.P n } 198 := by rw [hV0]; exact VOk.halt (fmtV_ok (N := 200) (m := 198) (by decide) (by decide) rfl hp) n
    have hr0 : V0.recs = LA ∧ V0.pages = 200 ∧ V0.gen = 1 := by rw [hV0]; exact ⟨rfl, rfl, rfl⟩
    rw [← hV0] at HOP
    obtain ⟨VH, hVH⟩ : ∃ V : VS, V = { V0 with P := VP.haltE V0.P n } := ⟨_, rfl⟩
    have hr1 : VH.recs = LA ∧ VH.pages = 200 ∧ VH.gen = 1 := by rw [hVH]; exact hr0
    have HHALT := Aside0.mk (fun (W : World) (gv g : Nat) (h : IsV w W gv g V0) => (show Calls Tryz.prog 20 #[.pointer (some ⟨g, 0, none⟩), .int .i64 n] W fun e w' => e = .returned (.tuple #[]) ∧ IsV w w' gv g { V0 with P := VP.haltE V0.P n } from (q_haltO h.q n).mono (by rintro e w' ⟨rfl, hq, ho⟩; exact ⟨rfl, h.others hq ho⟩)))
    rw [← hVH] at hok HHALT
    have HSV := Aside0.mk (fun (W : World) (gv g : Nat) (h : IsV w W gv g VH) => (save_any h hok.dead (hok.can (by rw [hr1.2.2]; decide)) hok.disk.low B d LB (Kd.C_below hCB h.q.1) hcb (by omega) (fun hp => sv_back hok hp)).mono (R' := fun e w' => ∃ r V', e = .returned (.int .i64 r) ∧ IsV w w' gv g V' ∧ SaveO V' LA LB r) (by
      rintro e w' ⟨r, V', rfl, hs, hv, ho⟩
      exact ⟨r, V', rfl, hv, hr1.1 ▸ save_o hok hr1.2.1 (by rw [hr1.2.2]; decide) hs⟩))
    obtain ⟨S0, hS0⟩ : ∃ S, S = fmtS 200 LA := ⟨_, rfl⟩
    rw [← hS0] at HFM HOP
    rw [← hna] at HF HFM ⊢
    rw [← hnb] at HFB HSV ⊢
    clear hCA hCB hca hcb hla hlb hna hnb hp hd hh hl2 ha hf hV0 hok hr0 hVH hr1 hS0
    go_enter Tryz.func4, Tryz.ntmps4
    go_upto_region 6 with (first
      | (go_at_call 14; (with_reducible refine (HF.out).mono ?_); rintro e w1 ⟨rfl, hb1⟩; have HB1 := Aside0.mk hb1; clear hb1 HF)
      | (go_at_call 14; (with_reducible refine (HFB.out _ HB1.out).mono ?_); rintro e w1 ⟨rfl, hb1⟩; have HB2 := Aside0.mk (below_step HB1.out hb1); clear hb1 HFB HB1; have HB1 := HB2; clear HB2)
      | (go_at_call 11; (with_reducible refine (HAL.out _).mono ?_); rintro e w2 ⟨rfl, hb2⟩; have HB2 := Aside0.mk (below_step HB1.out hb2); clear hb2 HB1)
      | (go_at_call 12; (with_reducible refine (HFM.out _ HB2.out).mono ?_); rintro e w3 ⟨g, rfl, hq, hb⟩; have HQ3 := Aside0.mk hq; clear hq hb HFM HB2))
    go_upto_region 9 with (go_at_call 13; (with_reducible refine (HOP.out _ _ HQ3.out).mono ?_); rintro e w4 ⟨gv, rfl, hv, hb⟩; have HV4 := Aside0.mk hv; clear hv hb HQ3 HOP)
    go_upto_region 10 with (go_at_call 20; (with_reducible refine (HHALT.out _ _ _ HV4.out).mono ?_); rintro e w6 ⟨rfl, hv⟩; have HV6 := Aside0.mk hv; clear hv HV4 HHALT)
    go_upto_region 11 with (go_at_call 15; (with_reducible refine (HSV.out _ _ _ HV6.out).mono ?_); rintro e w7 ⟨r, V', rfl, hv, hso⟩; have HV7 := Aside0.mk hv; have HSO := Aside0.mk hso; clear hv hso HV6 HSV)
    obtain ⟨gen, root, L, live, hD, hrb, hra⟩ := HSO.out.disk
    have HLL := Aside0.mk (show L.length ≤ 120 from by
      by_cases h : r = 0
      · rw [hrb h]; exact HBB.out.2.2.1
      · rw [hra h]; exact HA.out.2.2.1)
    have hSS : Disk (VP.faS V'.P cl) 200 gen root L live := hD.fail cl
    have HFAIL := Aside0.mk (fun (W : World) (h : VP.IsQ w W g V'.P) => (show Calls Tryz.prog 21 #[.pointer (some ⟨g, 0, none⟩), .slice C nc cc] W fun e w' => ∃ r, e = .returned (.int .i64 r) ∧ VP.IsQ w w' g (VP.faS V'.P cl) from by rw [HCC.out.2]; exact q_failB h hD.pg HSO.out.afl C cc cl HCC.out.1))
    obtain ⟨S1, hS1⟩ : ∃ S, S = VP.faS V'.P cl := ⟨_, rfl⟩
    have HS1 := Aside0.mk (show Disk S1 200 gen root L live ∧ S1.halted = false ∧ S1.last = (fun _ => none) ∧ S1.afl = [] from by rw [hS1]; exact ⟨hSS, rfl, rfl, rfl⟩)
    rw [← hS1] at HFAIL
    obtain ⟨kn, hkn⟩ : ∃ k, k = L.length := ⟨_, rfl⟩
    obtain ⟨ln, hln⟩ : ∃ k, k = (live.map (·.1)).length := ⟨_, rfl⟩
    obtain ⟨fn, hfn⟩ : ∃ k, k = (freeL 198 live).length := ⟨_, rfl⟩
    have hcnt := freeL_count (m := 198) (live := live) (fun x hx => by have := hD.low x hx; omega) hD.tree.apart
    have hwr : IntKind.i64.wrap ((ln : Int) + (fn : Int)) = 198 := by
      rw [List.length_map] at hln
      rw [IntKind.wrap_i64]; omega
    have HKN := Aside0.mk hkn
    have HLN := Aside0.mk hln
    have HFN := Aside0.mk hfn
    have HLV := Aside0.mk (show live.length ≤ 1000 from by omega)
    have HREMA := Aside0.mk (fun (W : World) (hb : Below w.heap.size w W) => (show Calls Tryz.prog 19 #[.slice A na c] W fun e w' => ∃ v : Value, e = .returned v ∧ kR.R 109 w' W.heap.size (fun _ => True) v LA ∧ Below W.heap.size W w' from by have := recs_any A c LA W (Kd.C_below HA.out.1 hb) HA.out.2.1 (by have := HA.out.2.2.1; omega); rw [← HA.out.2.2.2] at this; exact this))
    have HREMB := Aside0.mk (fun (W : World) (hb : Below w.heap.size w W) => (show Calls Tryz.prog 19 #[.slice B nb d] W fun e w' => ∃ v : Value, e = .returned v ∧ kR.R 109 w' W.heap.size (fun _ => True) v LB ∧ Below W.heap.size W w' from by have := recs_any B d LB W (Kd.C_below HBB.out.1 hb) HBB.out.2.1 (by have := HBB.out.2.2.1; omega); rw [← HBB.out.2.2.2] at this; exact this))
    obtain ⟨bo, hbo⟩ : ∃ b, b = decide (L = LA) := ⟨_, rfl⟩
    obtain ⟨bn, hbn⟩ : ∃ b, b = decide (L = LB) := ⟨_, rfl⟩
    have HSA := Aside0.mk (fun (W : World) (X : Option Addr) (x : Nat) (Y : Option Addr) (y : Nat) (h1 : kR.R 50 W w.heap.size (fun _ => True) (.slice X kn x) L) (h2 : kR.R 109 W w.heap.size (fun _ => True) (.slice Y na y) LA) => (show Calls Tryz.prog 17 #[.slice X kn x, .slice Y na y] W fun e w' => e = .returned (.bool bo) ∧ Below W.heap.size W w' from by
      rw [HKN.out] at h1 ⊢
      rw [HA.out.2.2.2] at h2 ⊢
      rw [hbo]
      exact same_any X x L Y y LA W (Kd.R_reads' h1).2.2 (Kd.R_reads' h1).2.1 (by have := HLL.out; omega) (Kd.R_reads' h2).2.2 (Kd.R_reads' h2).2.1))
    have HSB := Aside0.mk (fun (W : World) (X : Option Addr) (x : Nat) (Y : Option Addr) (y : Nat) (h1 : kR.R 50 W w.heap.size (fun _ => True) (.slice X kn x) L) (h2 : kR.R 109 W w.heap.size (fun _ => True) (.slice Y nb y) LB) => (show Calls Tryz.prog 17 #[.slice X kn x, .slice Y nb y] W fun e w' => e = .returned (.bool bn) ∧ Below W.heap.size W w' from by
      rw [HKN.out] at h1 ⊢
      rw [HBB.out.2.2.2] at h2 ⊢
      rw [hbn]
      exact same_any X x L Y y LB W (Kd.R_reads' h1).2.2 (Kd.R_reads' h1).2.1 (by have := HLL.out; omega) (Kd.R_reads' h2).2.2 (Kd.R_reads' h2).2.1))
    have hb0 : r = 0 → bn = true := fun h => by rw [hbn]; exact decide_eq_true (hrb h)
    have hb1 : r ≠ 0 → bo = true := fun h => by rw [hbo]; exact decide_eq_true (hra h)
    have HDEAD := Aside0.mk HSO.out.dead
    clear hD hrb hra hSS hS1 hkn hln hfn hcnt hbo hbn HSO
    by_cases h7 : r = 7
    · subst h7
      have hbt := hb1 (by decide)
      subst hbt
      have HS2 := Aside0.mk (fun (W : World) (h : IsV w W gv g V') => save_dead h (HDEAD.out rfl) (.slice B nb d))
      clear hb0 hb1 HDEAD
      go_upto_region 13 with (go_at_call 15; (with_reducible refine (HS2.out _ HV7.out).mono ?_); rintro e w8 ⟨rfl, hv, ho⟩; have HV8 := Aside0.mk hv; clear hv ho HV7 HS2)
      go_upto_region 14 with (go_at_call 21; (with_reducible refine (HFAIL.out _ HV8.out.q).mono ?_); rintro e w8 ⟨r8, rfl, hq⟩; have HQ8 := Aside0.mk hq; clear hq HV8 HFAIL)
      have HRECS := Aside0.mk (fun (W : World) (gw : Nat) (V : VS) (h : IsV w W gw g V) (he : V.recs = L) => records_any h (by rw [he]; have := HLL.out; omega))
      have HLIVE := Aside0.mk (fun (W : World) (gw : Nat) (V : VS) (h : IsV w W gw g V) (he : V.live = live) => live_any h (by rw [he]; have := HLV.out; omega))
      have HFREE := Aside0.mk (fun (W : World) (gw : Nat) (V : VS) (h : IsV w W gw g V) (he : V.live = live) (hp : V.pages = 200) => vfree_any (m := 198) h hp (by decide) (by rw [he]; have := HLV.out; omega))
      go_wp2_with (fail)
      go_loopg [15, 16] 3 (fun kq v15 v16 W => ∃ (i : Nat) (fr : Bool) (S : VP.PS), v16 = .int .i64 i ∧ v15 = .bool fr ∧ Aside0 (i + kq = 3) ∧ Aside0 (fr = (decide (0 < i) && bn)) ∧ Aside0 (Disk S 200 gen root L live ∧ S.halted = false ∧ S.last = (fun _ => none) ∧ S.afl = []) ∧ Aside0 (VP.IsQ w W g S))
      case atStart => exact ⟨0, false, S1, rfl, rfl, ⟨rfl⟩, ⟨rfl⟩, HS1, HQ8⟩
      case round =>
        clear HQ8 HS1
        obtain ⟨i, fr, S, rfl, rfl, HI, HFR, HS, HQ⟩ := hrel
        rename World => W
        cases gk with
        | zero =>
          have hi : i = 3 := by have := HI.out; omega
          subst hi
          go_wp2_with (fail)
          go_ret
          exact ⟨rfl, HQ.out.1⟩
        | succ gk =>
          have hi : i < 3 := by have := HI.out; omega
          have e1 : decide ((i : Int) < 3) = true := decide_eq_true (by omega)
          have e2 : decide (i < 3) = true := decide_eq_true hi
          have HOP2 := Aside0.mk (fun (W : World) (hq : VP.IsQ w W g S) => open_disk hq HS.out.1 HS.out.2.1 HS.out.2.2.1)
          obtain ⟨VO, hVO⟩ : ∃ X, X = opV S 200 gen root L live := ⟨_, rfl⟩
          have HVO := Aside0.mk (show VO.P = S ∧ VO.recs = L ∧ VO.live = live ∧ VO.pages = 200 from by rw [hVO]; exact ⟨rfl, rfl, rfl, rfl⟩)
          rw [← hVO] at HOP2
          have HFAIL2 := Aside0.mk (fun (W : World) (h : VP.IsQ w W g VO.P) => (show Calls Tryz.prog 21 #[.pointer (some ⟨g, 0, none⟩), .slice D nd dd] W fun e w' => ∃ r, e = .returned (.int .i64 r) ∧ VP.IsQ w w' g (VP.faS S ag) from by rw [HDD.out.2]; rw [HVO.out.1] at h; exact q_failB h HS.out.1.pg (by rw [HS.out.2.2.2]; exact Nat.zero_le _) D dd ag HDD.out.1))
          clear hVO
          obtain ⟨pz, hpz⟩ : ∃ b, b = decide (0 < i) := ⟨_, rfl⟩
          have g1 : decide (0 < (i : Int)) = pz := by rw [hpz, decide_eq_decide]; omega
          have g2 : decide (0 < i) = pz := hpz.symm
          have f1 := HFR.out
          rw [g2] at f1
          have g3 : (0 < i) = (pz = true) := by rw [hpz]; simp
          have g4 : (0 < (i : Int)) = (pz = true) := by rw [hpz]; simp
          clear hpz
          cases pz
          all_goals cases bn
          all_goals
            simp only [Bool.true_and, Bool.false_and, Bool.and_true, Bool.and_false, Bool.false_eq_true] at f1 g3 g4
            subst f1
            go_upto_region 19 with (go_at_call 13; (with_reducible refine (HOP2.out _ HQ.out).mono ?_); rintro e w9 ⟨gw, rfl, hv, hb⟩; have HW9 := Aside0.mk hv; clear hv hb HQ HOP2)
            go_upto_region 22 with (go_at_call 18; (with_reducible refine (HRECS.out _ _ _ HW9.out HVO.out.2.1).mono ?_); rintro e w10 ⟨v10, rfl, hr, hb⟩; rw [HVO.out.2.1] at hr; obtain ⟨A10, c10, ev⟩ := Kd.R_slice hr; rw [← HKN.out] at ev; subst ev; have HR10 := Aside0.mk (Kd.R_lower hr HW9.out.q.1.size); have HW10 := Aside0.mk (HW9.out.below hb); clear hr hb HW9)
            go_upto_region 23 with (first
              | (go_at_call 19; (with_reducible refine (HREMA.out _ (IsQ_bel HW10.out.q)).mono ?_); rintro e w11 ⟨v11, rfl, hr, hb⟩; obtain ⟨A11, c11, ev⟩ := Kd.R_slice hr; rw [← HA.out.2.2.2] at ev; subst ev; have HR11b := Aside0.mk (Kd.R_lower hr HW10.out.q.1.size); have HR11 := Aside0.mk (Kd.R_below HR10.out hb); have HW11 := Aside0.mk (HW10.out.below hb); clear hr hb HW10 HR10)
              | (go_at_call 17; (with_reducible refine (HSA.out _ _ _ _ _ HR11.out HR11b.out).mono ?_); rintro e w12 ⟨rfl, hb⟩; have HR12 := Aside0.mk (Kd.R_below HR11.out hb); have HW12 := Aside0.mk (HW11.out.below hb); clear hb HW11 HR11 HR11b)
              | (go_at_call 19; (with_reducible refine (HREMB.out _ (IsQ_bel HW12.out.q)).mono ?_); rintro e w13 ⟨v13, rfl, hr, hb⟩; obtain ⟨A13, c13, ev⟩ := Kd.R_slice hr; rw [← HBB.out.2.2.2] at ev; subst ev; have HR13b := Aside0.mk (Kd.R_lower hr HW12.out.q.1.size); have HR13 := Aside0.mk (Kd.R_below HR12.out hb); have HW13 := Aside0.mk (HW12.out.below hb); clear hr hb HW12 HR12)
              | (go_at_call 17; (with_reducible refine (HSB.out _ _ _ _ _ HR13.out HR13b.out).mono ?_); rintro e w14 ⟨rfl, hb⟩; have HW14 := Aside0.mk (HW13.out.below hb); clear hb HW13 HR13 HR13b))
            go_upto_region 26 with (fail)
            go_wp2_with (first
              | (go_at_call 22; (with_reducible refine (HLIVE.out _ _ _ HW14.out HVO.out.2.2.1).mono ?_); rintro e w15 ⟨v15, rfl, hr, hb⟩; rw [HVO.out.2.2.1] at hr; obtain ⟨A15, c15, ev⟩ := Kd.R_slice hr; rw [← HLN.out] at ev; subst ev; have HW15 := Aside0.mk (HW14.out.below hb); clear hr hb HW14)
              | (go_at_call 23; (with_reducible refine (HFREE.out _ _ _ HW15.out HVO.out.2.2.1 HVO.out.2.2.2).mono ?_); rintro e w16 ⟨v16, rfl, hr, hb⟩; rw [HVO.out.2.2.1] at hr; obtain ⟨A16, c16, ev⟩ := Kd.R_slice hr; rw [← HFN.out] at ev; subst ev; have HW16 := Aside0.mk (HW15.out.below hb); clear hr hb HW15)
              | (go_at_call 21; (with_reducible refine (HFAIL2.out _ HW16.out.q).mono ?_); rintro e w17 ⟨r2, rfl, hq⟩; have HQ17 := Aside0.mk hq; clear hq HW16 HFAIL2))
            go_roundg gk
            case measure => omega
            case rel => exact ⟨i + 1, _, VP.faS S ag, by first | rfl | go_num, rfl, ⟨by have := HI.out; omega⟩, ⟨by simp⟩, ⟨HS.out.1.fail ag, rfl, rfl, rfl⟩, HQ17⟩
    · by_cases h0 : r = 0
      · subst h0
        have hbt := hb0 rfl
        subst hbt
        clear hb0 hb1 HDEAD h7
        go_upto_region 14 with (go_at_call 21; (with_reducible refine (HFAIL.out _ HV7.out.q).mono ?_); rintro e w8 ⟨r8, rfl, hq⟩; have HQ8 := Aside0.mk hq; clear hq HV7 HFAIL)
        have HRECS := Aside0.mk (fun (W : World) (gw : Nat) (V : VS) (h : IsV w W gw g V) (he : V.recs = L) => records_any h (by rw [he]; have := HLL.out; omega))
        have HLIVE := Aside0.mk (fun (W : World) (gw : Nat) (V : VS) (h : IsV w W gw g V) (he : V.live = live) => live_any h (by rw [he]; have := HLV.out; omega))
        have HFREE := Aside0.mk (fun (W : World) (gw : Nat) (V : VS) (h : IsV w W gw g V) (he : V.live = live) (hp : V.pages = 200) => vfree_any (m := 198) h hp (by decide) (by rw [he]; have := HLV.out; omega))
        go_wp2_with (fail)
        go_loopg [15, 16] 3 (fun kq v15 v16 W => ∃ (i : Nat) (fr : Bool) (S : VP.PS), v16 = .int .i64 i ∧ v15 = .bool fr ∧ Aside0 (i + kq = 3) ∧ Aside0 (fr = (decide (0 < i) && true)) ∧ Aside0 (Disk S 200 gen root L live ∧ S.halted = false ∧ S.last = (fun _ => none) ∧ S.afl = []) ∧ Aside0 (VP.IsQ w W g S))
        case atStart => exact ⟨0, false, S1, rfl, rfl, ⟨rfl⟩, ⟨rfl⟩, HS1, HQ8⟩
        case round =>
          clear HQ8 HS1
          obtain ⟨i, fr, S, rfl, rfl, HI, HFR, HS, HQ⟩ := hrel
          rename World => W
          cases gk with
          | zero =>
            have hi : i = 3 := by have := HI.out; omega
            subst hi
            go_wp2_with (fail)
            go_ret
            exact ⟨rfl, HQ.out.1⟩
          | succ gk =>
            have hi : i < 3 := by have := HI.out; omega
            have e1 : decide ((i : Int) < 3) = true := decide_eq_true (by omega)
            have e2 : decide (i < 3) = true := decide_eq_true hi
            have HOP2 := Aside0.mk (fun (W : World) (hq : VP.IsQ w W g S) => open_disk hq HS.out.1 HS.out.2.1 HS.out.2.2.1)
            obtain ⟨VO, hVO⟩ : ∃ X, X = opV S 200 gen root L live := ⟨_, rfl⟩
            have HVO := Aside0.mk (show VO.P = S ∧ VO.recs = L ∧ VO.live = live ∧ VO.pages = 200 from by rw [hVO]; exact ⟨rfl, rfl, rfl, rfl⟩)
            rw [← hVO] at HOP2
            have HFAIL2 := Aside0.mk (fun (W : World) (h : VP.IsQ w W g VO.P) => (show Calls Tryz.prog 21 #[.pointer (some ⟨g, 0, none⟩), .slice D nd dd] W fun e w' => ∃ r, e = .returned (.int .i64 r) ∧ VP.IsQ w w' g (VP.faS S ag) from by rw [HDD.out.2]; rw [HVO.out.1] at h; exact q_failB h HS.out.1.pg (by rw [HS.out.2.2.2]; exact Nat.zero_le _) D dd ag HDD.out.1))
            clear hVO
            obtain ⟨pz, hpz⟩ : ∃ b, b = decide (0 < i) := ⟨_, rfl⟩
            have g1 : decide (0 < (i : Int)) = pz := by rw [hpz, decide_eq_decide]; omega
            have g2 : decide (0 < i) = pz := hpz.symm
            have f1 := HFR.out
            rw [g2] at f1
            have g3 : (0 < i) = (pz = true) := by rw [hpz]; simp
            have g4 : (0 < (i : Int)) = (pz = true) := by rw [hpz]; simp
            clear hpz
            cases pz
            all_goals cases bo
            all_goals
              simp only [Bool.true_and, Bool.false_and, Bool.and_true, Bool.and_false, Bool.false_eq_true] at f1 g3 g4
              subst f1
              go_upto_region 19 with (go_at_call 13; (with_reducible refine (HOP2.out _ HQ.out).mono ?_); rintro e w9 ⟨gw, rfl, hv, hb⟩; have HW9 := Aside0.mk hv; clear hv hb HQ HOP2)
              go_upto_region 22 with (go_at_call 18; (with_reducible refine (HRECS.out _ _ _ HW9.out HVO.out.2.1).mono ?_); rintro e w10 ⟨v10, rfl, hr, hb⟩; rw [HVO.out.2.1] at hr; obtain ⟨A10, c10, ev⟩ := Kd.R_slice hr; rw [← HKN.out] at ev; subst ev; have HR10 := Aside0.mk (Kd.R_lower hr HW9.out.q.1.size); have HW10 := Aside0.mk (HW9.out.below hb); clear hr hb HW9)
              go_upto_region 23 with (first
                | (go_at_call 19; (with_reducible refine (HREMA.out _ (IsQ_bel HW10.out.q)).mono ?_); rintro e w11 ⟨v11, rfl, hr, hb⟩; obtain ⟨A11, c11, ev⟩ := Kd.R_slice hr; rw [← HA.out.2.2.2] at ev; subst ev; have HR11b := Aside0.mk (Kd.R_lower hr HW10.out.q.1.size); have HR11 := Aside0.mk (Kd.R_below HR10.out hb); have HW11 := Aside0.mk (HW10.out.below hb); clear hr hb HW10 HR10)
                | (go_at_call 17; (with_reducible refine (HSA.out _ _ _ _ _ HR11.out HR11b.out).mono ?_); rintro e w12 ⟨rfl, hb⟩; have HR12 := Aside0.mk (Kd.R_below HR11.out hb); have HW12 := Aside0.mk (HW11.out.below hb); clear hb HW11 HR11 HR11b)
                | (go_at_call 19; (with_reducible refine (HREMB.out _ (IsQ_bel HW12.out.q)).mono ?_); rintro e w13 ⟨v13, rfl, hr, hb⟩; obtain ⟨A13, c13, ev⟩ := Kd.R_slice hr; rw [← HBB.out.2.2.2] at ev; subst ev; have HR13b := Aside0.mk (Kd.R_lower hr HW12.out.q.1.size); have HR13 := Aside0.mk (Kd.R_below HR12.out hb); have HW13 := Aside0.mk (HW12.out.below hb); clear hr hb HW12 HR12)
                | (go_at_call 17; (with_reducible refine (HSB.out _ _ _ _ _ HR13.out HR13b.out).mono ?_); rintro e w14 ⟨rfl, hb⟩; have HW14 := Aside0.mk (HW13.out.below hb); clear hb HW13 HR13 HR13b))
              go_upto_region 26 with (fail)
              go_wp2_with (first
                | (go_at_call 22; (with_reducible refine (HLIVE.out _ _ _ HW14.out HVO.out.2.2.1).mono ?_); rintro e w15 ⟨v15, rfl, hr, hb⟩; rw [HVO.out.2.2.1] at hr; obtain ⟨A15, c15, ev⟩ := Kd.R_slice hr; rw [← HLN.out] at ev; subst ev; have HW15 := Aside0.mk (HW14.out.below hb); clear hr hb HW14)
                | (go_at_call 23; (with_reducible refine (HFREE.out _ _ _ HW15.out HVO.out.2.2.1 HVO.out.2.2.2).mono ?_); rintro e w16 ⟨v16, rfl, hr, hb⟩; rw [HVO.out.2.2.1] at hr; obtain ⟨A16, c16, ev⟩ := Kd.R_slice hr; rw [← HFN.out] at ev; subst ev; have HW16 := Aside0.mk (HW15.out.below hb); clear hr hb HW15)
                | (go_at_call 21; (with_reducible refine (HFAIL2.out _ HW16.out.q).mono ?_); rintro e w17 ⟨r2, rfl, hq⟩; have HQ17 := Aside0.mk hq; clear hq HW16 HFAIL2))
              go_roundg gk
              case measure => omega
              case rel => exact ⟨i + 1, _, VP.faS S ag, by first | rfl | go_num, rfl, ⟨by have := HI.out; omega⟩, ⟨by simp⟩, ⟨HS.out.1.fail ag, rfl, rfl, rfl⟩, HQ17⟩
      · have hbt := hb1 h0
        subst hbt
        have q1 : (r == 7) = false := by simpa using h7
        have q2 : (r == 0) = false := by simpa using h0
        have q3 : (r != 7) = true := by simpa using h7
        have q4 : (r != 0) = true := by simpa using h0
        clear hb0 hb1 HDEAD h7 h0
        go_upto_region 14 with (go_at_call 21; (with_reducible refine (HFAIL.out _ HV7.out.q).mono ?_); rintro e w8 ⟨r8, rfl, hq⟩; have HQ8 := Aside0.mk hq; clear hq HV7 HFAIL)
        have HRECS := Aside0.mk (fun (W : World) (gw : Nat) (V : VS) (h : IsV w W gw g V) (he : V.recs = L) => records_any h (by rw [he]; have := HLL.out; omega))
        have HLIVE := Aside0.mk (fun (W : World) (gw : Nat) (V : VS) (h : IsV w W gw g V) (he : V.live = live) => live_any h (by rw [he]; have := HLV.out; omega))
        have HFREE := Aside0.mk (fun (W : World) (gw : Nat) (V : VS) (h : IsV w W gw g V) (he : V.live = live) (hp : V.pages = 200) => vfree_any (m := 198) h hp (by decide) (by rw [he]; have := HLV.out; omega))
        go_wp2_with (fail)
        go_loopg [15, 16] 3 (fun kq v15 v16 W => ∃ (i : Nat) (fr : Bool) (S : VP.PS), v16 = .int .i64 i ∧ v15 = .bool fr ∧ Aside0 (i + kq = 3) ∧ Aside0 (fr = (decide (0 < i) && bn)) ∧ Aside0 (Disk S 200 gen root L live ∧ S.halted = false ∧ S.last = (fun _ => none) ∧ S.afl = []) ∧ Aside0 (VP.IsQ w W g S))
        case atStart => exact ⟨0, false, S1, rfl, rfl, ⟨rfl⟩, ⟨rfl⟩, HS1, HQ8⟩
        case round =>
          clear HQ8 HS1
          obtain ⟨i, fr, S, rfl, rfl, HI, HFR, HS, HQ⟩ := hrel
          rename World => W
          cases gk with
          | zero =>
            have hi : i = 3 := by have := HI.out; omega
            subst hi
            go_wp2_with (fail)
            go_ret
            exact ⟨rfl, HQ.out.1⟩
          | succ gk =>
            have hi : i < 3 := by have := HI.out; omega
            have e1 : decide ((i : Int) < 3) = true := decide_eq_true (by omega)
            have e2 : decide (i < 3) = true := decide_eq_true hi
            have HOP2 := Aside0.mk (fun (W : World) (hq : VP.IsQ w W g S) => open_disk hq HS.out.1 HS.out.2.1 HS.out.2.2.1)
            obtain ⟨VO, hVO⟩ : ∃ X, X = opV S 200 gen root L live := ⟨_, rfl⟩
            have HVO := Aside0.mk (show VO.P = S ∧ VO.recs = L ∧ VO.live = live ∧ VO.pages = 200 from by rw [hVO]; exact ⟨rfl, rfl, rfl, rfl⟩)
            rw [← hVO] at HOP2
            have HFAIL2 := Aside0.mk (fun (W : World) (h : VP.IsQ w W g VO.P) => (show Calls Tryz.prog 21 #[.pointer (some ⟨g, 0, none⟩), .slice D nd dd] W fun e w' => ∃ r, e = .returned (.int .i64 r) ∧ VP.IsQ w w' g (VP.faS S ag) from by rw [HDD.out.2]; rw [HVO.out.1] at h; exact q_failB h HS.out.1.pg (by rw [HS.out.2.2.2]; exact Nat.zero_le _) D dd ag HDD.out.1))
            clear hVO
            obtain ⟨pz, hpz⟩ : ∃ b, b = decide (0 < i) := ⟨_, rfl⟩
            have g1 : decide (0 < (i : Int)) = pz := by rw [hpz, decide_eq_decide]; omega
            have g2 : decide (0 < i) = pz := hpz.symm
            have f1 := HFR.out
            rw [g2] at f1
            have g3 : (0 < i) = (pz = true) := by rw [hpz]; simp
            have g4 : (0 < (i : Int)) = (pz = true) := by rw [hpz]; simp
            clear hpz
            cases pz
            all_goals cases bn
            all_goals
              simp only [Bool.true_and, Bool.false_and, Bool.and_true, Bool.and_false, Bool.false_eq_true] at f1 g3 g4
              subst f1
              go_upto_region 19 with (go_at_call 13; (with_reducible refine (HOP2.out _ HQ.out).mono ?_); rintro e w9 ⟨gw, rfl, hv, hb⟩; have HW9 := Aside0.mk hv; clear hv hb HQ HOP2)
              go_upto_region 22 with (go_at_call 18; (with_reducible refine (HRECS.out _ _ _ HW9.out HVO.out.2.1).mono ?_); rintro e w10 ⟨v10, rfl, hr, hb⟩; rw [HVO.out.2.1] at hr; obtain ⟨A10, c10, ev⟩ := Kd.R_slice hr; rw [← HKN.out] at ev; subst ev; have HR10 := Aside0.mk (Kd.R_lower hr HW9.out.q.1.size); have HW10 := Aside0.mk (HW9.out.below hb); clear hr hb HW9)
              go_upto_region 23 with (first
                | (go_at_call 19; (with_reducible refine (HREMA.out _ (IsQ_bel HW10.out.q)).mono ?_); rintro e w11 ⟨v11, rfl, hr, hb⟩; obtain ⟨A11, c11, ev⟩ := Kd.R_slice hr; rw [← HA.out.2.2.2] at ev; subst ev; have HR11b := Aside0.mk (Kd.R_lower hr HW10.out.q.1.size); have HR11 := Aside0.mk (Kd.R_below HR10.out hb); have HW11 := Aside0.mk (HW10.out.below hb); clear hr hb HW10 HR10)
                | (go_at_call 17; (with_reducible refine (HSA.out _ _ _ _ _ HR11.out HR11b.out).mono ?_); rintro e w12 ⟨rfl, hb⟩; have HR12 := Aside0.mk (Kd.R_below HR11.out hb); have HW12 := Aside0.mk (HW11.out.below hb); clear hb HW11 HR11 HR11b)
                | (go_at_call 19; (with_reducible refine (HREMB.out _ (IsQ_bel HW12.out.q)).mono ?_); rintro e w13 ⟨v13, rfl, hr, hb⟩; obtain ⟨A13, c13, ev⟩ := Kd.R_slice hr; rw [← HBB.out.2.2.2] at ev; subst ev; have HR13b := Aside0.mk (Kd.R_lower hr HW12.out.q.1.size); have HR13 := Aside0.mk (Kd.R_below HR12.out hb); have HW13 := Aside0.mk (HW12.out.below hb); clear hr hb HW12 HR12)
                | (go_at_call 17; (with_reducible refine (HSB.out _ _ _ _ _ HR13.out HR13b.out).mono ?_); rintro e w14 ⟨rfl, hb⟩; have HW14 := Aside0.mk (HW13.out.below hb); clear hb HW13 HR13 HR13b))
              go_upto_region 26 with (fail)
              go_wp2_with (first
                | (go_at_call 22; (with_reducible refine (HLIVE.out _ _ _ HW14.out HVO.out.2.2.1).mono ?_); rintro e w15 ⟨v15, rfl, hr, hb⟩; rw [HVO.out.2.2.1] at hr; obtain ⟨A15, c15, ev⟩ := Kd.R_slice hr; rw [← HLN.out] at ev; subst ev; have HW15 := Aside0.mk (HW14.out.below hb); clear hr hb HW14)
                | (go_at_call 23; (with_reducible refine (HFREE.out _ _ _ HW15.out HVO.out.2.2.1 HVO.out.2.2.2).mono ?_); rintro e w16 ⟨v16, rfl, hr, hb⟩; rw [HVO.out.2.2.1] at hr; obtain ⟨A16, c16, ev⟩ := Kd.R_slice hr; rw [← HFN.out] at ev; subst ev; have HW16 := Aside0.mk (HW15.out.below hb); clear hr hb HW15)
                | (go_at_call 21; (with_reducible refine (HFAIL2.out _ HW16.out.q).mono ?_); rintro e w17 ⟨r2, rfl, hq⟩; have HQ17 := Aside0.mk hq; clear hq HW16 HFAIL2))
              go_roundg gk
              case measure => omega
              case rel => exact ⟨i + 1, _, VP.faS S ag, by first | rfl | go_num, rfl, ⟨by have := HI.out; omega⟩, ⟨by simp⟩, ⟨HS.out.1.fail ag, rfl, rfl, rfl⟩, HQ17⟩
  · have HFM := Aside0.mk (fun (W : World) (hb : Below w.heap.size w W) => (show Calls Tryz.prog 12 #[.int .i64 200, .slice A LA.length c] W fun e w' => e = .returned (.tuple #[.pointer none, .int .i64 (planE LA [] (pgs 198)).2.2]) ∧ Below W.heap.size W w' from format_two hb 200 (by decide) (by decide) A c LA (Kd.C_below hCA hb) hca (by omega) hp))
    obtain ⟨ec, hec⟩ : ∃ e, e = (planE LA [] (pgs 198)).2.2 := ⟨_, rfl⟩
    rw [← hec] at HFM hp
    have q1 : (ec != 0) = true := by simpa using hp
    rw [← hna] at HF HFM ⊢
    rw [← hnb] at HFB ⊢
    clear hCA hCB hca hcb hla hlb hna hnb hp hec HCC HDD HA HBB wn
    go_enter Tryz.func4, Tryz.ntmps4
    go_wp2_with (first
      | (go_at_call 14; (with_reducible refine (HF.out).mono ?_); rintro e w1 ⟨rfl, hb1⟩; have HB1 := Aside0.mk hb1; clear hb1 HF)
      | (go_at_call 14; (with_reducible refine (HFB.out _ HB1.out).mono ?_); rintro e w1 ⟨rfl, hb1⟩; have HB2 := Aside0.mk (below_step HB1.out hb1); clear hb1 HFB HB1; have HB1 := HB2; clear HB2)
      | (go_at_call 11; (with_reducible refine (HAL.out _).mono ?_); rintro e w2 ⟨rfl, hb2⟩; have HB2 := Aside0.mk (below_step HB1.out hb2); clear hb2 HB1)
      | (go_at_call 12; (with_reducible refine (HFM.out _ HB2.out).mono ?_); rintro e w3 ⟨rfl, hb⟩; have HB3 := Aside0.mk (below_step HB2.out hb); clear hb HFM HB2))
    go_ret
    exact ⟨rfl, HB3.out⟩
end Go.Proofs.YtdhaoaehboonpaaGreat.V

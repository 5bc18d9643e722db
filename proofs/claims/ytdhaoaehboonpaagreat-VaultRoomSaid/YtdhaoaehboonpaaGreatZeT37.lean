/- Of the texts that the row stands on, what it needs (part 37), put together by a program of this session. -/
import Derived.Test.YtdhaoaehboonpaaGreatZeT35
import Derived.Test.YtdhaoaehboonpaaGreatZeT36
namespace Go.Proofs.YtdhaoaehboonpaaGreat.V
open Go.RowKit Go.Proofs.YtdhaoaehboonpaaGreatW.PrintWords Go.Proofs.YtdhaoaehboonpaaGreatW.PrintLast Go.Proofs.YtdhaoaehboonpaaGreatW.PrintMore Go.Proofs.YtdhaoaehboonpaaGreatM
set_option linter.unusedVariables false
set_option linter.unusedSimpArgs false
def Rm (m : Nat) (k : Int) (V : VS) : Prop := VOk V m ∧ V.P.halts = false ∧ OldIx k V.live ∧ V.live.length + 1 ≤ m
theorem OldIx.mono {k j : Int} {l : List R2} (h : OldIx k l) (hj : k ≤ j) : OldIx j l := by
  obtain ⟨x, hx, sl, a, b, c⟩ := h
  exact ⟨x, hx, sl, a, b, fun y hy => by have := c y hy; omega⟩
theorem room_save {w0 w : World} {gv g : Nat} {V : VS} {m : Nat} {k : Int} (h : IsV w0 w gv g V) (hm : m ≤ 198) (hR : Rm m k V) (hg : V.gen < 4611686018427387904) (A : Option Addr) (c : Nat) (r : R2) (hk : r.1 = k) (h1 : 0 ≤ k) (h2 : k ≤ 1000) (h3 : r.2.size ≤ 900) (hC : Kd.C kR w A [r].length [r]) (hc2 : [r].length ≤ c) :
    Calls Tryz.prog 15 #[.pointer (some ⟨gv, 0, none⟩), .slice A [r].length c] w fun e w' => ∃ ec V2, e = .returned (.int .i64 ec) ∧ IsV w0 w' gv g V2 ∧ OthersV w w' ∧ Rm m (k + 1) V2 ∧ (V.gen ≤ V2.gen ∧ V2.gen ≤ V.gen + 1) ∧ (ec = 0 ∨ (ec = 8 ∧ m < needE [r] + V.live.length)) := by
  obtain ⟨hv, hf, ho, hl⟩ := hR
  subst hk
  obtain ⟨s1, s2⟩ := save_two h hv hf hg A c [r] hC hc2 (by show 1 ≤ 9000; decide)
  rcases room_ways (r := r) hv hm h1 (by omega) h3 with hz | ⟨hz, hroom⟩
  · refine (s2 hz).mono ?_
    rintro e w' ⟨V', he, hi, hoth, hok, hh, hg2, hr, hp, hc⟩
    obtain ⟨a, b⟩ := room_step hv hok hz hc ho
    exact ⟨0, V', he, hi, hoth, ⟨hok, hh, b, a⟩, ⟨by omega, by omega⟩, .inl rfl⟩
  · refine (s1 (by rw [hz]; decide)).mono ?_
    rintro e w' ⟨he, hi, hoth⟩
    rw [hz] at he
    exact ⟨8, V, he, hi, hoth, ⟨hv, hf, ho.mono (by omega), hl⟩, ⟨by omega, by omega⟩, .inr ⟨rfl, hroom⟩⟩
theorem need_nil : needE [] = 1 := (plan_none (m := 198) (by decide) (by decide)).2
theorem room_last {w0 w : World} {gv g : Nat} {V : VS} {m : Nat} {k : Int} (h : IsV w0 w gv g V) (hm : m ≤ 198) (hR : Rm m k V) (hg : V.gen < 4611686018427387904) :
    Calls Tryz.prog 15 #[.pointer (some ⟨gv, 0, none⟩), .slice none 0 0] w fun e w' => ∃ V2, e = .returned (.int .i64 0) ∧ IsV w0 w' gv g V2 ∧ VOk V2 m ∧ V2.recs = [] ∧ V2.live.length = 1 := by
  obtain ⟨hv, hf, ho, hl⟩ := hR
  obtain ⟨s1, s2⟩ := save_two h hv hf hg none 0 [] (Kd.C_nil _ _) (Nat.le_refl _) (by decide)
  rcases sv_two (l := []) hv hm with ⟨hz, _, B, b1, b2, b3, b4⟩ | ⟨_, hb⟩
  · refine (s2 hz).mono ?_
    rintro e w' ⟨V', he, hi, hoth, hok, hh, hg2, hr, hp, hc⟩
    exact ⟨V', he, hi, hok, hr, by rw [live_need hok.disk.tree.apart hc b1 b3 b4, b2, need_nil]⟩
  · have := hb (by rw [need_nil]; decide)
    rw [need_nil] at this
    omega
theorem room_first {m : Nat} (h6 : 6 ≤ m) (h198 : m ≤ 198) : Rm m 0 (fmtV (m + 2) []) := by
  obtain ⟨hp, hp1⟩ := plan_none (m := m) (by omega) (by omega)
  obtain ⟨hd, hh, hl2, ha, hf⟩ := fmt_disk (N := m + 2) (l := []) (by omega) (by omega) hp
  refine ⟨fmtV_ok (N := m + 2) (m := m) (l := []) (by omega) (by omega) rfl hp, hf, ?_, ?_⟩
  · have hk := put_known (planE_ok hp).2.2.2.1
    have iS := putS_is (planE_ok hp).2.2.2.1
    change (planZ [] [] (pgs m)).2.known _ = some _ at hk
    rw [planZ_kn] at hk
    have hm2 := knF_mem _ _ _ hk
    rw [List.nil_append] at hm2
    refine ⟨((planZ [] [] (pgs m)).1, (indexE (planT [] [] (pgs m)).1).1), ?_, (planT [] [] (pgs m)).1, rfl, iS, fun y hy => ?_⟩
    · show _ ∈ (planE [] [] (pgs m)).1
      rw [(planE_ok hp).2.2.2.2]
      exact hm2
    · cases hy
  · show (planE [] [] (pgs m)).1.length + 1 ≤ m
    rw [hp1]; omega
end Go.Proofs.YtdhaoaehboonpaaGreat.V

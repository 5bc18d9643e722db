/- Of the texts that the row stands on, what it needs (part 34), put together by a program of this session. -/
import Derived.Test.YtdhaoaehboonpaaGreatZeT33
namespace Go.Proofs.YtdhaoaehboonpaaGreat.V
open Go.RowKit Go.Proofs.YtdhaoaehboonpaaGreatW.PrintWords Go.Proofs.YtdhaoaehboonpaaGreatW.PrintLast Go.Proofs.YtdhaoaehboonpaaGreatW.PrintMore Go.Proofs.YtdhaoaehboonpaaGreatM
open Go.Proofs.YtdhaoaehboonpaaGreat.PSm (S50 k50)
set_option linter.unusedVariables false
set_option linter.unusedSimpArgs false
theorem IsQ_bel {w0 w : World} {g : Nat} {S : VP.PS} (h : VP.IsQ w0 w g S) : Below w0.heap.size w0 w := h.1
theorem save_two {w0 w : World} {gv g : Nat} {V : VS} {m : Nat} (h : IsV w0 w gv g V) (hv : VOk V m) (hf : V.P.halts = false) (hg : V.gen < 4611686018427387904) (A : Option Addr) (c : Nat) (l : List R2) (hC : Kd.C kR w A l.length l) (hc2 : l.length ≤ c) (hl : l.length ≤ 9000) :
    ((svP V m l).2.2 ≠ 0 → Calls Tryz.prog 15 #[.pointer (some ⟨gv, 0, none⟩), .slice A l.length c] w fun e w' => e = .returned (.int .i64 (svP V m l).2.2) ∧ IsV w0 w' gv g V ∧ OthersV w w') ∧
    ((svP V m l).2.2 = 0 → Calls Tryz.prog 15 #[.pointer (some ⟨gv, 0, none⟩), .slice A l.length c] w fun e w' => ∃ V', e = .returned (.int .i64 0) ∧ IsV w0 w' gv g V' ∧ OthersV w w' ∧ VOk V' m ∧ V'.P.halts = false ∧ V'.gen = V.gen + 1 ∧ V'.recs = l ∧ V'.pages = V.pages ∧ (∀ n b, (n, b) ∈ V'.live ↔ (b ∈ planB l V.live (freeL m V.live) ∧ (planZ l V.live (freeL m V.live)).2.known b = some n))) := by
  have hs := save_any h hv.dead (hv.can hg) hv.disk.low A c l hC hc2 hl (fun hp => sv_back hv hp)
  constructor
  · intro hne
    refine hs.mono ?_
    rintro e w' ⟨r, V', rfl, hsr, hiv, ho⟩
    rcases save_ways hv hg hsr with ⟨h1, h2, rfl⟩ | ⟨_, h2, _⟩ | ⟨_, h2, _⟩
    · exact ⟨by rw [h1], hiv, ho⟩
    · exact absurd h2 hne
    · exact absurd h2 hne
  · intro hz
    have hn := sv_nohalt hv hf hz
    refine hs.mono ?_
    rintro e w' ⟨r, V', rfl, hsr, hiv, ho⟩
    rcases save_ways hv hg hsr with ⟨h1, h2, _⟩ | ⟨_, _, h1, _⟩ | ⟨h1, h2, h3, h4, h5, h6, h7, h8, h9, h10⟩
    · rw [hz] at h1; rcases h2 with h2 | h2 | h2 <;> omega
    · rw [hn.1] at h1; cases h1
    · exact ⟨V', by rw [h1], hiv, ho, h3, by rw [h8]; exact hn.2, h4, h5, h7, h10⟩
end Go.Proofs.YtdhaoaehboonpaaGreat.V

/- Of the texts that the row stands on, what it needs (part 33), put together by a program of this session. -/
import Derived.Test.YtdhaoaehboonpaaGreatZeT32
namespace Go.Proofs.YtdhaoaehboonpaaGreat.V
open Go.RowKit Go.Proofs.YtdhaoaehboonpaaGreatW.PrintWords Go.Proofs.YtdhaoaehboonpaaGreatW.PrintLast Go.Proofs.YtdhaoaehboonpaaGreatW.PrintMore Go.Proofs.YtdhaoaehboonpaaGreatM
open Go.Proofs.YtdhaoaehboonpaaGreat.PSm (S50 k50)
set_option linter.unusedVariables false
set_option linter.unusedSimpArgs false
def fmtV (N : Nat) (l : List R2) : VS := opV (fmtS N l) N 1 (planE l [] (pgs (N - 2))).2.1 l (planE l [] (pgs (N - 2))).1
theorem fmtV_ok {N m : Nat} {l : List R2} (h8 : 8 ≤ N) (h200 : N ≤ 200) (hm : N = m + 2) (hp : (planE l [] (pgs (N - 2))).2.2 = 0) : VOk (fmtV N l) m := by
  obtain ⟨h1, h2, h3, h4, _⟩ := fmt_disk h8 h200 hp
  exact h1.vok h2 h3 h4 hm
def V1 (l : List R2) : VS := { fmtV 200 l with P := VP.haltE (fmtS 200 l) 1 }
theorem R_othersV {α : Type} {d : Kd α} {e base : Nat} {w w1 : World} {ok : Nat → Prop} {v : Value} {xs : List α} (h : d.R e w base ok v xs) (ho : OthersV w w1) (ht : ∀ q, q ∈ e :: d.E → q ≠ 114 ∧ q ≠ 9 ∧ q ≠ 116 ∧ q ≠ 103) : d.R e w1 base ok v xs :=
  Kd.R_mono (Kd.R_move (Kd.R_bound h) (fun k hk => by
    obtain ⟨_, _, _, q, hq, cells, hc⟩ := hk
    obtain ⟨t1, t2, t3, t4⟩ := ht q hq
    rw [ho k cells q hc t1 t2 t3 t4, hc])) (fun _ hk => hk.1)
end Go.Proofs.YtdhaoaehboonpaaGreat.V

/- A stable sort in plain terms: what a search in two rows has found. -/
import Derived.Test.YtfblelkegebdiaaQA
namespace Go.Proofs.Ytfblelkegebdiaa.V
open Go.Proofs Go.Shelf Go.Sort
set_option linter.unusedVariables false
variable {α : Type} [Inhabited α]
def BA (cf : α → α → Int) (d : Array α) (a b i j : Nat) : Prop := (i = a + 1 ∨ cf d[i - 1]! d[a]! < 0) ∧ (j = b ∨ ¬ cf d[j]! d[a]! < 0)
theorem BA.lo {cf : α → α → Int} {d : Array α} {a b i j c : Nat} (h : BA cf d a b i j) (hc : cf d[c]! d[a]! < 0) : BA cf d a b (c + 1) j := ⟨.inr hc, h.2⟩
theorem BA.hi {cf : α → α → Int} {d : Array α} {a b i j c : Nat} (h : BA cf d a b i j) (hc : ¬ cf d[c]! d[a]! < 0) : BA cf d a b i c := ⟨h.1, .inr hc⟩
theorem BA.start (cf : α → α → Int) (d : Array α) (a b : Nat) : BA cf d a b (a + 1) b := ⟨.inl rfl, .inl rfl⟩
def BB (cf : α → α → Int) (d : Array α) (a m i j : Nat) : Prop := (i = a ∨ ¬ cf d[m]! d[i - 1]! < 0) ∧ (j = m ∨ cf d[m]! d[j]! < 0)
theorem BB.lo {cf : α → α → Int} {d : Array α} {a m i j c : Nat} (h : BB cf d a m i j) (hc : ¬ cf d[m]! d[c]! < 0) : BB cf d a m (c + 1) j := ⟨.inr hc, h.2⟩
theorem BB.hi {cf : α → α → Int} {d : Array α} {a m i j c : Nat} (h : BB cf d a m i j) (hc : cf d[m]! d[c]! < 0) : BB cf d a m i c := ⟨h.1, .inr hc⟩
theorem BB.start (cf : α → α → Int) (d : Array α) (a m : Nat) : BB cf d a m a m := ⟨.inl rfl, .inl rfl⟩
def BS (cf : α → α → Int) (d : Array α) (lo hi n i j : Nat) : Prop := (i = lo ∨ ¬ cf d[n - i]! d[i - 1]! < 0) ∧ (j = hi ∨ cf d[n - j - 1]! d[j]! < 0)
theorem BS.start (cf : α → α → Int) (d : Array α) (lo hi n : Nat) : BS cf d lo hi n lo hi := ⟨.inl rfl, .inl rfl⟩
theorem BS.low {cf : α → α → Int} {d : Array α} {lo hi n i j c : Nat} (h : BS cf d lo hi n i j) (hc : ¬ cf d[n - 1 - c]! d[c]! < 0) : BS cf d lo hi n (c + 1) j :=
  ⟨.inr (by rw [show n - (c + 1) = n - 1 - c by omega]; exact hc), h.2⟩
theorem BS.high {cf : α → α → Int} {d : Array α} {lo hi n i j c : Nat} (h : BS cf d lo hi n i j) (hc : cf d[n - 1 - c]! d[c]! < 0) : BS cf d lo hi n i c :=
  ⟨h.1, .inr (by rw [show n - c - 1 = n - 1 - c by omega]; exact hc)⟩
end Go.Proofs.Ytfblelkegebdiaa.V

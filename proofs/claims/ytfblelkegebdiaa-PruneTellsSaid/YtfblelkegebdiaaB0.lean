/- Between the sort's words and the rows of the call's own, for any one-cell kind and for pairs. -/
import Derived.Test.YtfblelkegebdiaaPL
import Derived.Sort.OwnSortedInts
import Derived.Shelf.SlSortCmp.WholeK
namespace Go.Proofs.Ytfblelkegebdiaa.V
open Go.Proofs Go.Shelf Go.RowKit Go.Lib Go.Sort
set_option linter.unusedVariables false
set_option linter.unusedSimpArgs false
variable {α : Type} [Inhabited α]

theorem holds_of_own {enc : α → Value} {w : World} {g n cap base : Nat} {e : TypeId} {ss : List α} {k : Nat} {xs : List Value} (h : w.ownsRow base e k (.slice (some ⟨g, 0, none⟩) n cap) n xs) (hx : xs = ss.map enc) : Holds enc w g 0 ss.toArray := by
  subst hx
  rcases h.2 with ⟨h0, _⟩ | ⟨g', cap', cur, hv, hg, hb, hn, hcap, hsz, ht⟩
  · cases h0
  cases hv
  intro j hj
  have hj' : j < ss.length := by simpa using hj
  refine ⟨?_, by simp [World.frozen?, hb]⟩
  have hl := h.1
  rw [List.length_map] at hl
  have h1 : (cur.toList.take (n * k))[j]? = (ss.map enc)[j]? := by rw [ht]
  rw [List.getElem?_take_of_lt (by omega)] at h1
  simp only [World.cell?, hb, Nat.zero_add]
  simp only [Option.isSome_none, Bool.false_eq_true, if_false]
  rw [← Array.getElem?_toList, h1]
  simp [hj']
theorem heap_sortedG {enc : α → Value} {w : World} {g n : Nat} {os : Array Obj} {cur : Array Value} {e : TypeId} {fr : Nat × Nat} (d : Array α) (hb : w.heap[g]? = some (.cells cur e fr)) :
    (grow (putRow enc (Sort.ahead w n) g 0 d) os).heap[g]? = some (.cells (putCells enc 0 d cur) e fr) := by
  have hg : g < w.heap.size := (Array.getElem?_eq_some_iff.1 hb).1
  rw [heap_grow_old _ _ (by simpa using hg)]
  simp [putRow, mapBlock, Sort.ahead, Array.getElem?_modify, hb, onCells]
theorem grownBy_sortedG {enc : α → Value} {w : World} {g n : Nat} {os : Array Obj} (d : Array α) : w.grownBy (grow (putRow enc (Sort.ahead w n) g 0 d) os) (some g) := by
  refine ⟨rfl, rfl, rfl, by simp, fun k hk hne => ?_⟩
  rw [heap_grow_old _ _ (by simpa using hk)]
  have : g ≠ k := fun e => hne (by rw [e])
  simp [putRow, mapBlock, Sort.ahead, Array.getElem?_modify, this]
theorem take_putCellsG {enc : α → Value} (cur : Array Value) (ts : List α) (h : ts.length ≤ cur.size) : (putCells enc 0 ts.toArray cur).toList.take ts.length = ts.map enc := by
  apply List.ext_getElem?
  intro j
  by_cases hj : j < ts.length
  · rw [List.getElem?_take_of_lt hj, Array.getElem?_toList]
    simp [putCells, hj, show j < cur.size by omega]
  · rw [List.getElem?_take_eq_none (by omega), List.getElem?_eq_none (by simp; omega)]
theorem own_sorted {enc : α → Value} {w : World} {base g cap n q k : Nat} {e : TypeId} {os : Array Obj} {xs : List Value} {ts : List α} (h : w.ownsRow base e k (.slice (some ⟨g, 0, none⟩) n cap) n xs) (hl : ts.length = n * k) :
    (grow (putRow enc (Sort.ahead w q) g 0 ts.toArray) os).ownsRow base e k (.slice (some ⟨g, 0, none⟩) n cap) n (ts.map enc) := by
  rcases h.2 with ⟨h0, _⟩ | ⟨g', cap', cur, hv, hg, hb, hn, hcap, hsz, ht⟩
  · cases h0
  cases hv
  exact ⟨by rw [List.length_map]; exact hl, .inr ⟨g, cap, _, rfl, hg, heap_sortedG _ hb, hn, hcap, by simp [putCells, hsz], by rw [← hl]; exact take_putCellsG cur ts (by rw [hl, hsz]; exact Nat.mul_le_mul_right k hn)⟩⟩
end Go.Proofs.Ytfblelkegebdiaa.V

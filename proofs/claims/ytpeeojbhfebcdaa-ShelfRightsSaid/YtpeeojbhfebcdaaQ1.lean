/- alive, Need, Few, plain. -/
import Derived.Test.YtpeeojbhfebcdaaPAllx2
namespace Go.Proofs.Ytpeeojbhfebcdaa.V
open Go.RowKit Go.Proofs.YtpeeojbhfebcdaaW.PrintWords Go.Proofs.YtpeeojbhfebcdaaW.PrintLast Go.Proofs.YtpeeojbhfebcdaaW.PrintMore Go.Proofs.YtpeeojbhfebcdaaM
open Go.Proofs.Ytpeeojbhfebcdaa.PAll
set_option linter.unusedVariables false
set_option linter.unusedSimpArgs false

/-- the pages from 2 on -/
def pgs (n : Nat) : List Int := (List.range n).map fun (i : Nat) => (i : Int) + 2
theorem pgs_length (n : Nat) : (pgs n).length = n := by unfold pgs; simp
theorem pgs_snoc (n : Nat) : pgs (n + 1) = pgs n ++ [(n : Int) + 2] := by unfold pgs; rw [List.range_succ, List.map_append]; rfl
abbrev tR (l : List S45) : List R2 := l.map fun x => (x.f0, x.f1)
abbrev tW (l : List S28) : List R2 := l.map fun x => (x.f0, x.f1)
abbrev fW (l : List R2) : List S28 := l.map fun x => (⟨x.1, x.2⟩ : S28)
theorem tW_fW (l : List R2) : tW (fW l) = l := by
  unfold tW fW
  rw [List.map_map]
  conv => rhs; rw [← List.map_id l]
  rfl
theorem plan_f (l : List S45) (h : List S28) (f : List Int) (h1 : l.length ≤ 9000) (h2 : h.length ≤ 10000) (h3 : f.length ≤ 10000) (h4 : ∀ x ∈ h, x.f1.size ≤ 1000000) :
    shelf_Plan.f l h f = some (fW (planE (tR l) (tW h) f).1, (planE (tR l) (tW h) f).2.1, (planE (tR l) (tW h) f).2.2) := by
  unfold shelf_Plan.f
  rw [if_pos ⟨h1, h2, h3, List.all_eq_true.2 fun x hx => decide_eq_true (h4 x hx)⟩]
theorem need_l0 (l : List S45) (hl : l.length ≤ 9000) (d : Nat) : ∀ (k i : Nat), 198 - i = d → i ≤ 198 → d < k → shelf_Need.l0 k l (pgs i) ((i : Int) + 2) = some ((planE (tR l) [] (pgs 198)).1.length : Int) := by
  induction d with
  | zero =>
    intro k i hd hi hk
    obtain ⟨k, rfl⟩ : ∃ m, k = m + 1 := ⟨k - 1, by omega⟩
    obtain rfl : i = 198 := by omega
    unfold shelf_Need.l0
    rw [if_neg (by omega), plan_f l [] (pgs 198) hl (by simp) (by rw [pgs_length]; omega) (by intro x hx; cases hx), Option.bind_some]
    simp only [fW, List.length_map]
    rfl
  | succ d ih =>
    intro k i hd hi hk
    obtain ⟨k, rfl⟩ : ∃ m, k = m + 1 := ⟨k - 1, by omega⟩
    unfold shelf_Need.l0
    rw [if_pos (by omega), if_pos (by rw [pgs_length]; omega), ← pgs_snoc, show wrap64 ((i : Int) + 2 + 1) = ((i + 1 : Nat) : Int) + 2 from by unfold wrap64; omega]
    exact ih k (i + 1) (by omega) (by omega) (by omega)
def needE (l : List R2) : Nat := (planE l [] (pgs 198)).1.length
theorem need_f (l : List S45) (hl : l.length ≤ 9000) (k : Nat) (hk : 199 ≤ k) : shelf_Need.f k l = some (needE (tR l) : Int) := by
  unfold shelf_Need.f
  exact need_l0 l hl 198 k 0 (by omega) (by omega) (by omega)
theorem alive1 : (planE [(1, ⟨#[97, 98, 99]⟩)] [] [4, 5, 6]).2 = (5, 0) := by decide +kernel
theorem alive2 : (planE [(1, ⟨#[97, 98, 99]⟩)] [] [4, 5, 6]).1.map (·.1) = [4, 5] := by decide +kernel
theorem alive3 : needE [(1, ⟨#[97, 98, 99]⟩)] = 2 := by decide +kernel
theorem two_of {α : Type} : ∀ (o : List α), o.length = 2 → ∃ a b, o = [a, b]
  | [a, b], _ => ⟨a, b, rfl⟩
  | [], h => by simp at h
  | [_], h => by simp at h
  | _ :: _ :: _ :: _, h => by simp at h
set_option maxRecDepth 100000 in
theorem alive_f (k : Nat) (hk : 200 ≤ k) : maquettelaw16_alive.f k = some true := by
  obtain ⟨k, rfl⟩ : ∃ m, k = m + 1 := ⟨k - 1, by omega⟩
  unfold maquettelaw16_alive.f
  rw [plan_f _ _ _ (by decide) (by decide) (by decide) (by intro x hx; cases hx), Option.bind_some]
  have h2 := alive2
  have h1 := alive1
  have h3 := need_f [(⟨1, ⟨#[97, 98, 99]⟩⟩ : S45)] (by decide) (k + 1) (by omega)
  rw [show tR [(⟨1, ⟨#[97, 98, 99]⟩⟩ : S45)] = [(1, ⟨#[97, 98, 99]⟩)] from rfl] at h3 ⊢
  rw [alive3] at h3
  rw [show tW ([] : List S28) = [] from rfl, h1]
  obtain ⟨o, ho⟩ : ∃ o, o = (planE [(1, ⟨#[97, 98, 99]⟩)] [] [4, 5, 6]).1 := ⟨_, rfl⟩
  rw [← ho] at h2 ⊢
  clear ho h1
  have hlen : o.length = 2 := by have := congrArg List.length h2; simpa using this
  obtain ⟨a, b, rfl⟩ : ∃ a b, o = [a, b] := two_of _ hlen
  · clear hlen
    simp only [List.map_cons, List.map_nil, List.cons.injEq, and_true] at h2
    obtain ⟨e1, e2⟩ := h2
    show (if (0 : Int) = 0 then (if ((fW [a, b]).length : Int) = 2 then (if (5 : Int) = 5 then (if 0 < ((fW [a, b]).length : Int) then (if a.1 = 4 then (if 1 < ((fW [a, b]).length : Int) then (if b.1 = 5 then ((shelf_Need.f (k + 1) [(⟨1, ⟨#[97, 98, 99]⟩⟩ : S45)]).bind fun t163 => (maquettelaw16_alive.j0 (k + 1) (t163 == 2))) else (maquettelaw16_alive.j0 (k + 1) false)) else (none)) else (maquettelaw16_alive.j0 (k + 1) false)) else (none)) else (maquettelaw16_alive.j0 (k + 1) false)) else (maquettelaw16_alive.j0 (k + 1) false)) else (maquettelaw16_alive.j0 (k + 1) false)) = some true
    rw [if_pos (show (0 : Int) = 0 from rfl), if_pos (show ((fW [a, b]).length : Int) = 2 from rfl), if_pos (show (5 : Int) = 5 from rfl), if_pos (show 0 < ((fW [a, b]).length : Int) from by show (0 : Int) < 2; decide), if_pos e1, if_pos (show 1 < ((fW [a, b]).length : Int) from by show (1 : Int) < 2; decide), if_pos e2, h3]
    rfl
theorem few_l0 (l : List S45) (hl : l.length ≤ 9223372036854775807) (d : Nat) : ∀ (k i : Nat) (acc : Int), l.length - i = d → i ≤ l.length → d < k → ∃ b, maquettelaw16_Few.l0 k l acc (l.length : Int) (i : Int) = some b ∧ (b = true → l.length ≤ 120) := by
  induction d with
  | zero =>
    intro k i acc hd hi hk
    obtain ⟨k, rfl⟩ : ∃ m, k = m + 1 := ⟨k - 1, by omega⟩
    unfold maquettelaw16_Few.l0
    rw [if_neg (by omega)]
    by_cases h : (l.length : Int) ≤ 120
    · rw [if_pos h]; exact ⟨_, rfl, fun _ => by omega⟩
    · rw [if_neg h]; exact ⟨_, rfl, fun h => by cases h⟩
  | succ d ih =>
    intro k i acc hd hi hk
    obtain ⟨k, rfl⟩ : ∃ m, k = m + 1 := ⟨k - 1, by omega⟩
    unfold maquettelaw16_Few.l0
    rw [if_pos (by omega), if_pos (by omega), if_pos (by omega), show wrap64 ((i : Int) + 1) = ((i + 1 : Nat) : Int) from by unfold wrap64; omega]
    exact ih k (i + 1) _ (by omega) (by omega) (by omega)
theorem few_f (l : List S45) (hl : l.length ≤ 9223372036854775807) (k : Nat) (hk : l.length < k) : ∃ b, maquettelaw16_Few.f k l = some b ∧ (b = true → l.length ≤ 120) := by
  unfold maquettelaw16_Few.f
  exact few_l0 l hl l.length k 0 0 (by omega) (by omega) (by omega)
end Go.Proofs.Ytpeeojbhfebcdaa.V

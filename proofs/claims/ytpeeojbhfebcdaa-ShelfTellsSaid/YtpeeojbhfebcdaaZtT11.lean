/- Of the texts that the row stands on, what it needs (part 11), put together by a program of this session. -/
import Derived.Test.YtpeeojbhfebcdaaZtT10
namespace Go.Proofs.Ytpeeojbhfebcdaa.V
open Go.RowKit Go.Proofs.YtpeeojbhfebcdaaW.PrintWords Go.Proofs.YtpeeojbhfebcdaaW.PrintLast Go.Proofs.YtpeeojbhfebcdaaW.PrintMore
set_option linter.unusedVariables false
set_option linter.unusedSimpArgs false
def byI (x : Int) (i : Int) : Int := (shr .i64 x (wrap64 (8 * i))) % 256
def byL (x n : Int) (j : Nat) : List Int := (List.range j).map fun (i : Nat) => byI x (n - 1 - i)
theorem byL_length (x n : Int) (j : Nat) : (byL x n j).length = j := by unfold byL; simp
theorem byL_snoc (x n : Int) (j : Nat) : byL x n (j + 1) = byL x n j ++ [byI x (n - 1 - j)] := by
  unfold byL; rw [List.range_succ, List.map_append]; rfl
theorem number_loop (x : Int) (n : Nat) (hn : n ≤ 8) (d : Nat) : ∀ (k j : Nat), n - j = d → j ≤ n → d < k → PBase.sheet_number.l0 k x ((n : Int) - 1 - (j : Int)) (byL x n j) = some (strOfNums (byL x n n)) := by
 induction d with
 | zero =>
  intro k j hd hj hk
  obtain ⟨k, rfl⟩ : ∃ m, k = m + 1 := ⟨k - 1, by omega⟩
  have : j = n := by omega
  subst this
  simp only [PBase.sheet_number.l0]
  rw [if_neg (by omega)]
 | succ d ih =>
  intro k j hd hj hk
  obtain ⟨k, rfl⟩ : ∃ m, k = m + 1 := ⟨k - 1, by omega⟩
  simp only [PBase.sheet_number.l0]
  rw [if_pos (by omega), if_pos (by unfold wrap64; omega), if_pos (by rw [byL_length]; omega), show wrap64 ((n : Int) - 1 - (j : Int) - 1) = (n : Int) - 1 - ((j + 1 : Nat) : Int) from by unfold wrap64; omega]
  have h := ih k (j + 1) (by omega) (by omega) (by omega)
  rw [byL_snoc] at h
  exact h
theorem number_f (x : Int) (n : Nat) (hn : n ≤ 8) (k : Nat) (hk : 10 ≤ k) : PBase.sheet_number.f k x (n : Int) = some (strOfNums (byL x n n)) := by
  unfold PBase.sheet_number.f
  have h := number_loop x n hn n k 0 (by omega) (by omega) (by omega)
  rw [show wrap64 ((n : Int) - 1) = (n : Int) - 1 - ((0 : Nat) : Int) from by unfold wrap64; omega]
  exact h
def okK (k a : Int) : Bool := decide (a < k) && decide (k ≤ 2147483647)
def okP (p : Int) : Bool := decide (2 ≤ p) && decide (p < 200)
def okR (sz pg : Int) (bt : ByteArray) : Bool := if sz ≤ 24 then (decide ((bt.size : Int) = sz) && (pg == 0)) else (decide (sz ≤ 900) && (decide (bt = ⟨#[]⟩) && okP pg))
theorem key_f (k a : Int) : PBase.sheet_key.f k a = some (okK k a) := by
  unfold PBase.sheet_key.f okK
  by_cases h : k > a
  · rw [if_pos h, decide_eq_true (show a < k from h)]; rfl
  · rw [if_neg h, decide_eq_false (show ¬ a < k from h)]; rfl
theorem page_f (p : Int) : PBase.sheet_page.f p = some (okP p) := by
  unfold PBase.sheet_page.f okP
  by_cases h : p ≥ 2
  · rw [if_pos h, decide_eq_true (show 2 ≤ p from h)]; rfl
  · rw [if_neg h, decide_eq_false (show ¬ 2 ≤ p from h)]; rfl
theorem toList_nil_iff {a : ByteArray} : a.toList = [] ↔ a = ⟨#[]⟩ := by
  rw [ByteArray.toList_eq]
  constructor
  · intro h; cases a; congr 1; exact Array.toList_inj.1 h
  · rintro rfl; rfl
theorem right_f (k sz pg : Int) (bt : ByteArray) : PBase.sheet_right.f k sz pg bt = some (okR sz pg bt) := by
 unfold PBase.sheet_right.f okR
 by_cases h : sz ≤ 24
 ·rw [if_pos h, if_pos h]
  by_cases h2 : (bt.size : Int) = sz
  ·rw [if_pos h2, decide_eq_true h2]; rfl
  ·rw [if_neg h2, decide_eq_false h2]; rfl
 ·rw [if_neg h, if_neg h]
  by_cases h2 : sz ≤ 900
  ·rw [if_pos h2, decide_eq_true h2]
   by_cases h3 : bt.toList = []
   ·rw [if_pos h3, decide_eq_true (toList_nil_iff.1 h3), page_f]; rfl
   ·rw [if_neg h3, decide_eq_false (fun e => h3 (toList_nil_iff.2 e))]; rfl
  ·rw [if_neg h2, decide_eq_false h2]; rfl
def fullA (s : ByteArray) : ByteArray × Bool := if s.size ≤ 128 then (s ++ zer (128 - s.size), true) else (⟨#[]⟩, false)
theorem full_f (s : ByteArray) : PBase.sheet_full.f s = some (fullA s) := by
  unfold PBase.sheet_full.f fullA; split <;> rfl
def ahK (Ky : Int → Int) (i : Int) : Int := if i = 0 then -1 else Ky (i - 1)
def idxV (Ky Pg : Int → Int) (n : Nat) : Bool := (List.range n).all fun j => okK (Ky j) (ahK Ky j) && okP (Pg j)
def idxB (Ky Pg : Int → Int) (n j : Nat) : List Int := [73, (n : Int) % 256] ++ ((List.range j).map fun (i : Nat) => byL (Ky i) 4 4 ++ byL (Pg i) 2 2).flatten
def idxA (Ky Pg : Int → Int) (n : Nat) : ByteArray × Bool := if n ≤ 21 then (if idxV Ky Pg n = true then fullA (strOfNums (idxB Ky Pg n n)) else (⟨#[]⟩, false)) else (⟨#[]⟩, false)
def lfT (sz pg : Int) : List Int := if 24 < sz then byL pg 2 2 else []
def lfV (Ky Sz Pg : Int → Int) (Bt : Int → ByteArray) (n : Nat) : Bool := (List.range n).all fun j => okK (Ky j) (ahK Ky j) && okR (Sz j) (Pg j) (Bt j)
def lfB (Ky Sz Pg : Int → Int) (Bt : Int → ByteArray) (n j : Nat) : List Int := [76, (n : Int) % 256] ++ ((List.range j).map fun (i : Nat) => byL (Ky i) 4 4 ++ (byL (Sz i) 2 2 ++ (bytesOf (Bt i) ++ lfT (Sz i) (Pg i)))).flatten
def lfA (Ky Sz Pg : Int → Int) (Bt : Int → ByteArray) (n : Nat) : ByteArray × Bool := if n ≤ 128 then (if lfV Ky Sz Pg Bt n = true then fullA (strOfNums (lfB Ky Sz Pg Bt n n)) else (⟨#[]⟩, false)) else (⟨#[]⟩, false)
theorem strOf_append (a b : List Int) : strOfNums a ++ strOfNums b = strOfNums (a ++ b) := by
 have : (strOfNums a ++ strOfNums b).data.toList = (strOfNums (a ++ b)).data.toList := by
  rw [strOfNums_data, List.map_append, ← strOfNums_data, ← strOfNums_data]; simp
 cases h : strOfNums a ++ strOfNums b with
 | mk d => rw [h] at this; cases h2 : strOfNums (a ++ b) with
  | mk e => rw [h2] at this; congr 1; exact Array.toList_inj.1 this
theorem strOf_bytesOf (s : ByteArray) : strOfNums (bytesOf s) = s := by
 have : (strOfNums (bytesOf s)).data.toList = s.data.toList := by
  rw [strOfNums_data]
  unfold bytesOf
  rw [List.map_map]
  conv => rhs; rw [← List.map_id s.data.toList]
  apply List.map_congr_left
  intro x hx
  show UInt8.ofNat ((x.toNat : Int)).toNat = x
  rw [Int.toNat_natCast]
  exact UInt8.ofNat_toNat
 cases s with
 | mk d =>
  cases h : strOfNums (bytesOf ⟨d⟩) with
  | mk e => rw [h] at this; congr 1; exact Array.toList_inj.1 this
theorem idxB_snoc (Ky Pg : Int → Int) (n j : Nat) : idxB Ky Pg n (j + 1) = idxB Ky Pg n j ++ (byL (Ky j) 4 4 ++ byL (Pg j) 2 2) := by
  unfold idxB; rw [List.range_succ, List.map_append, List.flatten_append]; simp [List.append_assoc]
theorem lfB_snoc (Ky Sz Pg : Int → Int) (Bt : Int → ByteArray) (n j : Nat) : lfB Ky Sz Pg Bt n (j + 1) = lfB Ky Sz Pg Bt n j ++ (byL (Ky j) 4 4 ++ (byL (Sz j) 2 2 ++ (bytesOf (Bt j) ++ lfT (Sz j) (Pg j)))) := by
  unfold lfB; rw [List.range_succ, List.map_append, List.flatten_append]; simp [List.append_assoc]
theorem idxB_length (Ky Pg : Int → Int) (n j : Nat) : (idxB Ky Pg n j).length = 2 + 6 * j := by
  induction j with
  | zero => rfl
  | succ j ih => rw [idxB_snoc, List.length_append, List.length_append, byL_length, byL_length, ih]; omega
theorem lfT_length (sz pg : Int) : (lfT sz pg).length ≤ 2 := by unfold lfT; split <;> simp [byL_length]
theorem okR_size {sz pg : Int} {bt : ByteArray} (h : okR sz pg bt = true) : bt.size ≤ 24 := by
 unfold okR at h
 split at h
 ·simp at h; omega
 ·simp at h
  rw [h.2.1]; decide
theorem all_at {n : Nat} {f : Nat → Bool} : ((List.range n).all f = true) ↔ ∀ j, j < n → f j = true := by simp [List.all_eq_true]
theorem index_all (A : Option Addr) (n c : Nat) (w : World) (Ky Pg : Int → Int)
  (HR : ∀ i : Int, 0 ≤ i → i < n → ∃ ad, A = some ad ∧ w.cell? (ad.add (i.toNat * 2)) = some (.int .i64 (Ky i)) ∧ w.cell? ⟨(ad.add (i.toNat * 2)).block, (ad.add (i.toNat * 2)).off + 1, none⟩ = some (.int .i64 (Pg i))) :
  Calls Try.prog 32 #[.slice A n c] w fun e w' => e = .returned (.tuple #[.string (idxA Ky Pg n).1, .bool (idxA Ky Pg n).2]) ∧ Below w.heap.size w w' := by
 unfold idxA
 by_cases hn : n ≤ 21
 ·rw [if_pos hn]
  refine index_any A n c w Ky Pg (ahK Ky) (fun i => strOfNums (byL (Ky i) 4 4)) (fun i => strOfNums (byL (Pg i) 2 2)) (fun i => okK (Ky i) (ahK Ky i)) (fun i => okP (Pg i)) (fun j => strOfNums (idxB Ky Pg n j)) HR hn rfl
   (fun j => by unfold ahK; rw [if_neg (by omega), show ((j + 1 : Nat) : Int) - 1 = (j : Int) from by omega]) (fun i => key_f _ _) (fun i => page_f _) (fun i => number_f _ 4 (by decide) _ (by decide)) (fun i => number_f _ 2 (by decide) _ (by decide))
   (by simp [idxB]) (fun j => by show _ = _ ++ (_ ++ _); rw [strOf_append, strOf_append, ← idxB_snoc]) (fun j hj => by show (strOfNums _).size ≤ _; rw [strOfNums_size, idxB_length]; omega) (fun i => by show (strOfNums _ ++ strOfNums _).size ≤ _; rw [strOf_append, strOfNums_size, List.length_append, byL_length, byL_length]; decide) _ _ ?_ ?_
  ·intro h
   have : idxV Ky Pg n = true := by unfold idxV; rw [all_at]; intro j hj; simp only [Bool.and_eq_true]; exact h j hj
   rw [if_pos this]; exact full_f _
  ·rintro ⟨j, hj, h⟩
   have : ¬ idxV Ky Pg n = true := by
    unfold idxV; rw [all_at]; intro h2
    have h3 := h2 j hj
    simp only [Bool.and_eq_true] at h3
    rcases h with h | h
    ·rw [h3.1] at h; cases h
    ·rw [h3.2] at h; cases h
   rw [if_neg this]; exact ⟨rfl, rfl⟩
 ·rw [if_neg hn]
  exact index_many A n c w (by omega)
theorem leaf_all (A : Option Addr) (n c : Nat) (w : World) (Ky Sz Pg : Int → Int) (Bt : Int → ByteArray)
  (HR : ∀ i : Int, 0 ≤ i → i < n → ∃ ad, A = some ad ∧ w.cell? (ad.add (i.toNat * 4)) = some (.int .i64 (Ky i)) ∧ w.cell? ⟨(ad.add (i.toNat * 4)).block, (ad.add (i.toNat * 4)).off + 1, none⟩ = some (.int .i64 (Sz i)) ∧ w.cell? ⟨(ad.add (i.toNat * 4)).block, (ad.add (i.toNat * 4)).off + 2, none⟩ = some (.int .i64 (Pg i)) ∧ w.cell? ⟨(ad.add (i.toNat * 4)).block, (ad.add (i.toNat * 4)).off + 3, none⟩ = some (.string (Bt i))) :
  Calls Try.prog 31 #[.slice A n c] w fun e w' => e = .returned (.tuple #[.string (lfA Ky Sz Pg Bt n).1, .bool (lfA Ky Sz Pg Bt n).2]) ∧ Below w.heap.size w w' := by
 unfold lfA
 by_cases hn : n ≤ 128
 ·rw [if_pos hn]
  have hlen : ∀ j : Nat, (∀ i : Nat, i < j → okK (Ky i) (ahK Ky i) = true ∧ okR (Sz i) (Pg i) (Bt i) = true) → (lfB Ky Sz Pg Bt n j).length ≤ 2 + 40 * j := by
   intro j
   induction j with
   | zero => intro _; exact Nat.le_refl _
   | succ j ih =>
    intro h
    have h1 := ih (fun i hi => h i (by omega))
    have h2 := okR_size (h j (by omega)).2
    have h3 := lfT_length (Sz j) (Pg j)
    rw [lfB_snoc]
    simp only [List.length_append, byL_length, bytesOf_length]
    omega
  refine leaf_any A n c w Ky Sz Pg (ahK Ky) Bt (fun i => strOfNums (byL (Ky i) 4 4)) (fun i => strOfNums (byL (Sz i) 2 2)) (fun i => strOfNums (byL (Pg i) 2 2)) (fun i => strOfNums (lfT (Sz i) (Pg i))) (fun i => okK (Ky i) (ahK Ky i)) (fun i => okR (Sz i) (Pg i) (Bt i)) (fun j => strOfNums (lfB Ky Sz Pg Bt n j)) HR hn rfl
   (fun j => by unfold ahK; rw [if_neg (by omega), show ((j + 1 : Nat) : Int) - 1 = (j : Int) from by omega]) (fun i => key_f _ _) (fun i => right_f _ _ _ _) (fun i => number_f _ 4 (by decide) _ (by decide)) (fun i => number_f _ 2 (by decide) _ (by decide)) (fun i => number_f _ 2 (by decide) _ (by decide))
   (fun i h => by show strOfNums (lfT _ _) = _; unfold lfT; rw [if_pos h]) (fun i h => by show strOfNums (lfT _ _) = _; unfold lfT; rw [if_neg (by omega)]; rfl)
   (by simp [lfB]) (fun j => by
    show _ = _ ++ (_ ++ _ ++ _) ++ _
    conv => rhs; rw [← strOf_bytesOf (Bt j)]
    rw [strOf_append, strOf_append, strOf_append, strOf_append, ← show lfB Ky Sz Pg Bt n (j + 1) = lfB Ky Sz Pg Bt n j ++ (byL (Ky j) 4 4 ++ byL (Sz j) 2 2 ++ bytesOf (Bt j)) ++ lfT (Sz j) (Pg j) from by rw [lfB_snoc]; simp only [List.append_assoc]]) (fun j hj hv => by show (strOfNums _).size ≤ _; rw [strOfNums_size]; have := hlen j hv; omega) (fun i hv => by show (strOfNums _).size + (strOfNums _).size + _ ≤ _; rw [strOfNums_size, strOfNums_size, byL_length, byL_length]; have := okR_size hv; omega) (fun i => by show (strOfNums _).size ≤ _; rw [strOfNums_size, byL_length]; decide) _ _ ?_ ?_
  ·intro h
   have : lfV Ky Sz Pg Bt n = true := by unfold lfV; rw [all_at]; intro j hj; simp only [Bool.and_eq_true]; exact h j hj
   rw [if_pos this]; exact full_f _
  ·rintro ⟨j, hj, h⟩
   have : ¬ lfV Ky Sz Pg Bt n = true := by
    unfold lfV; rw [all_at]; intro h2
    have h3 := h2 j hj
    simp only [Bool.and_eq_true] at h3
    rcases h with h | h
    ·rw [h3.1] at h; cases h
    ·rw [h3.2] at h; cases h
   rw [if_neg this]; exact ⟨rfl, rfl⟩
 ·rw [if_neg hn]
  exact leaf_many A n c w (by omega)
end Go.Proofs.Ytpeeojbhfebcdaa.V


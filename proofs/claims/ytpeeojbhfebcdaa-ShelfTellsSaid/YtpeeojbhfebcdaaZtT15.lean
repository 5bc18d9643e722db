/- Of the texts that the row stands on, what it needs (part 15), put together by a program of this session. -/
import Derived.Test.YtpeeojbhfebcdaaZtT13
import Derived.Test.YtpeeojbhfebcdaaZtT14
import Derived.Deep.LoopGhost
import Derived.StillTailTactics
import Derived.BigQuiet
section
namespace Go.Proofs.Ytpeeojbhfebcdaa.V
open Go.RowKit Go.Proofs.YtpeeojbhfebcdaaW.PrintWords Go.Proofs.YtpeeojbhfebcdaaW.PrintLast Go.Proofs.YtpeeojbhfebcdaaW.PrintMore
set_option linter.unusedVariables false
set_option linter.unusedSimpArgs false
set_option linter.unusedVariables false
theorem pow256 (i : Nat) : (256 : Int) ^ i = 2 ^ (8 * i) := by
  rw [Int.pow_mul]; rfl
theorem byI_plain (x : Int) (i : Nat) (hi : i ≤ 7) : byI x i = (x / 256 ^ i) % 256 := by
  unfold byI
  have e : wrap64 (8 * (i : Int)) = ((8 * i : Nat) : Int) := by unfold wrap64; omega
  rw [e, pow256]
  have hs : shr .i64 x ((8 * i : Nat) : Int) = x / 2 ^ (8 * i) := (shr_small (k := .i64) (x := x) (y := ((8 * i : Nat) : Int)) rfl (by show ((8 * i : Nat) : Int) ≤ ((64 : Nat) : Int); omega)).symm
  rw [hs]
def pad (l : List Int) : List Int := l ++ List.replicate (128 - l.length) 0
theorem pad_length {l : List Int} (h : l.length ≤ 128) : (pad l).length = 128 := by unfold pad; simp; omega
theorem zer_is (n : Nat) : zer n = strOfNums (List.replicate n 0) := by
 unfold zer
 cases h : strOfNums (List.replicate n 0) with
 | mk d =>
  congr 1
  have := strOfNums_data (List.replicate n 0)
  rw [h, List.map_replicate] at this
  exact Array.toList_inj.1 (by rw [this]; first | rfl | simp)
theorem fullA_k (l : List Int) : fullA (strOfNums l) = if l.length ≤ 128 then (strOfNums (pad l), true) else (⟨#[]⟩, false) := by
  unfold fullA
  rw [strOfNums_size]
  split
  · rw [zer_is, strOf_append]; rfl
  · rfl
theorem toList_ne {a b : ByteArray} : (a.toList != b.toList) = !decide (a = b) := by
 rw [ByteArray.toList_eq, ByteArray.toList_eq]
 by_cases h : a = b
 ·subst h; simp
 ·rw [decide_eq_false h, Bool.not_false, bne_iff_ne]
  intro h2; apply h
  cases a; cases b; congr 1; exact Array.toList_inj.1 h2
theorem toList_nil_size {a : ByteArray} : a.toList = [] ↔ a.size = 0 := by
 rw [ByteArray.toList_eq]
 constructor
 ·intro h
  have := congrArg List.length h
  rw [Array.length_toList] at this
  exact this
 ·intro h
  apply List.length_eq_zero_iff.1
  rw [Array.length_toList]
  exact h
def chL (nx : Int) (b : ByteArray) : List Int := [67] ++ (byL nx 2 2 ++ ([(b.size : Int) % 256] ++ bytesOf b))
def chOk (nx : Int) (b : ByteArray) : Bool := (decide (nx = 0) || okP nx) && (decide (1 ≤ b.size) && decide (b.size ≤ 120))
theorem bytesOf_len (b : ByteArray) : (bytesOf b).length = b.size := by unfold bytesOf; rw [List.length_map, Array.length_toList]; rfl
theorem chL_length (nx : Int) (b : ByteArray) : (chL nx b).length = 4 + b.size := by
  unfold chL; simp only [List.length_append, List.length_singleton, byL_length, bytesOf_len]; omega
theorem chain_j0 (nx : Int) (b : ByteArray) (bad : Bool) (hs : b.size ≤ 100000000) (k : Nat) (hk : 11 ≤ k) : PBase.sheet_Chain.j0 k nx b bad = some (if bad = true then (⟨#[]⟩, false) else if b.size ≤ 124 then (strOfNums (pad (chL nx b)), true) else (⟨#[]⟩, false)) := by
 obtain ⟨k, rfl⟩ : ∃ m, k = m + 1 := ⟨k - 1, by omega⟩
 simp only [PBase.sheet_Chain.j0]
 cases bad with
 | true => rfl
 | false =>
  rw [if_neg (by decide), if_neg (by decide), Option.bind_some, show (2 : Int) = ((2 : Nat) : Int) from rfl, number_f _ 2 (by decide) _ (by omega), Option.bind_some]
  have l2 := byL_length nx ((2 : Nat) : Int) 2
  rw [if_pos (by rw [strOfNums_size, strOfNums_size, l2, List.length_singleton]; omega), Option.bind_some,
   if_pos (by rw [ByteArray.size_append, strOfNums_size, strOfNums_size, strOfNums_size, l2, List.length_singleton, List.length_singleton]; omega),
   if_pos (by rw [ByteArray.size_append, ByteArray.size_append, strOfNums_size, strOfNums_size, strOfNums_size, l2, List.length_singleton, List.length_singleton]; omega)]
  have e : ((strOfNums [67] ++ strOfNums (byL nx ((2 : Nat) : Int) 2)) ++ strOfNums [(b.size : Int) % 256]) ++ b = strOfNums (chL nx b) := by
   conv => lhs; rw [← strOf_bytesOf b]
   simp only [strOf_append]
   unfold chL
   rw [strOf_bytesOf]
   simp only [List.append_assoc]
   rfl
  rw [e]
  rw [full_f]
  rw [fullA_k, chL_length, Option.bind_some]
  by_cases h : b.size ≤ 124
  ·rw [if_pos (by omega), if_pos h]
  ·rw [if_neg (by omega), if_neg h]
def chA (nx : Int) (b : ByteArray) : ByteArray × Bool := if chOk nx b = true then (strOfNums (pad (chL nx b)), true) else (⟨#[]⟩, false)
theorem chain_k (nx : Int) (b : ByteArray) (hs : b.size ≤ 100000000) (k : Nat) (hk : 11 ≤ k) : PBase.sheet_Chain.f k nx b = some (chA nx b) := by
 have hj := fun bad => chain_j0 nx b bad hs k hk
 have hmid : (decide (nx = 0) || okP nx) = true → (if b.toList = ([] : List UInt8) then (PBase.sheet_Chain.j0 k nx b true) else (PBase.sheet_Chain.j0 k nx b (decide ((b.size : Int) > 120)))) = some (chA nx b) := by
  intro hp
  unfold chA chOk
  rw [hp, Bool.true_and]
  by_cases h : b.toList = []
  ·rw [if_pos h, hj, if_pos rfl, decide_eq_false (show ¬ 1 ≤ b.size by rw [toList_nil_size.1 h]; decide)]; rfl
  ·have h1 : 1 ≤ b.size := by
    rcases Nat.eq_zero_or_pos b.size with h0 | h0
    ·exact absurd (toList_nil_size.2 h0) h
    ·exact h0
   rw [if_neg h, hj, decide_eq_true h1, Bool.true_and]
   by_cases h2 : b.size ≤ 120
   ·rw [decide_eq_false (by omega), if_neg (by decide), if_pos (by omega), decide_eq_true h2]; rfl
   ·rw [decide_eq_true (by omega), if_pos rfl, decide_eq_false h2]; rfl
 unfold PBase.sheet_Chain.f
 by_cases h0 : nx = 0
 ·rw [if_pos h0]; exact hmid (by rw [decide_eq_true h0]; rfl)
 ·rw [if_neg h0, page_f, Option.bind_some]
  cases hp : okP nx with
  | true => rw [if_pos rfl]; exact hmid (by rw [hp, Bool.or_true])
  | false =>
   rw [if_neg (by decide), hj, if_pos rfl]
   unfold chA chOk
   rw [decide_eq_false h0, hp]; rfl
end Go.Proofs.Ytpeeojbhfebcdaa.V
end
section
namespace Go.Proofs.Ytpeeojbhfebcdaa.V
open Go.RowKit Go.Proofs.YtpeeojbhfebcdaaW.PrintWords Go.Proofs.YtpeeojbhfebcdaaW.PrintLast Go.Proofs.YtpeeojbhfebcdaaW.PrintMore Go.Proofs.YtpeeojbhfebcdaaM
set_option linter.unusedVariables false
set_option linter.unusedSimpArgs false
def piecesF : Nat → ByteArray → List ByteArray
  | 0, _ => []
  | k + 1, b => if b.size = 0 then [] else b.extract 0 (min b.size 120) :: piecesF k (b.extract (min b.size 120) b.size)
def pieces (b : ByteArray) : List ByteArray := piecesF b.size b
theorem pieces_l0 (n : Nat) : ∀ (k : Nat) (b : ByteArray) (acc : List ByteArray), b.size ≤ n → n < k → acc.length + n ≤ 1000000 → PShelfMore.shelf_pieces.l0 k b acc = some (acc ++ piecesF n b) := by
 induction n with
 | zero =>
  intro k b acc hb hk hl
  obtain ⟨k, rfl⟩ : ∃ m, k = m + 1 := ⟨k - 1, by omega⟩
  simp only [PShelfMore.shelf_pieces.l0, piecesF]
  rw [if_neg (by omega), List.append_nil]
 | succ n ih =>
  intro k b acc hb hk hl
  obtain ⟨k, rfl⟩ : ∃ m, k = m + 1 := ⟨k - 1, by omega⟩
  simp only [PShelfMore.shelf_pieces.l0, piecesF]
  by_cases h0 : b.size = 0
  ·rw [if_neg (by omega), if_pos h0, List.append_nil]
  ·have hm : mn (b.size : Int) 120 = ((min b.size 120 : Nat) : Int) := by unfold mn; split <;> omega
   rw [if_pos (by omega), hm, if_pos (by omega), if_pos (by omega), if_pos (by omega), if_neg h0, Int.toNat_natCast, ih k _ _ (by rw [ByteArray.size_extract]; omega) (by omega) (by simp; omega), List.append_assoc]
   rfl
theorem pieces_f (b : ByteArray) (h : b.size ≤ 1000000) : PShelfMore.shelf_pieces.f (b.size + 1) b = some (pieces b) := by
  unfold PShelfMore.shelf_pieces.f
  rw [pieces_l0 b.size (b.size + 1) b [] (Nat.le_refl _) (by omega) (by simpa using h)]
  rfl
theorem piecesF_size (n : Nat) : ∀ b, ∀ x ∈ piecesF n b, 1 ≤ x.size ∧ x.size ≤ 120 := by
 induction n with
 | zero => intro b x hx; cases hx
 | succ n ih =>
  intro b x hx
  unfold piecesF at hx
  split at hx
  ·cases hx
  ·rw [List.mem_cons] at hx
   rcases hx with rfl | hx
   ·rw [ByteArray.size_extract]; omega
   ·exact ih _ x hx
theorem piecesF_length (n : Nat) : ∀ b : ByteArray, (piecesF n b).length ≤ n := by
 induction n with
 | zero => intro b; exact Nat.le_refl _
 | succ n ih =>
  intro b
  unfold piecesF
  split
  ·simp
  ·rw [List.length_cons]; have := ih (b.extract (min b.size 120) b.size); omega
def chainF (l : List ByteArray) (S : PS) : Int × PS := l.foldr (fun x p => (putN p.2 (chA p.1 x).1 (chA p.1 x).2, putS p.2 (chA p.1 x).1 (chA p.1 x).2)) (0, S)
theorem putS_out (S : PS) (b : ByteArray) (is : Bool) : (putS S b is).out.length ≤ S.out.length + 1 := by
 unfold putS
 split
 ·split
  ·split
   ·omega
   ·split <;> simp
  ·simp
 ·omega
theorem chainF_cons (x : ByteArray) (l : List ByteArray) (S : PS) : chainF (x :: l) S = (putN (chainF l S).2 (chA (chainF l S).1 x).1 (chA (chainF l S).1 x).2, putS (chainF l S).2 (chA (chainF l S).1 x).1 (chA (chainF l S).1 x).2) := rfl
theorem chainF_out (l : List ByteArray) (S : PS) : (chainF l S).2.out.length ≤ S.out.length + l.length := by
 induction l with
 | nil => simp [chainF]
 | cons x l ih =>
  have h := putS_out (chainF l S).2 (chA (chainF l S).1 x).1 (chA (chainF l S).1 x).2
  rw [List.length_cons, chainF_cons]
  show (putS (chainF l S).2 _ _).out.length ≤ _
  omega
theorem strOf_pad_size {l : List Int} (h : l.length ≤ 128) : (strOfNums (pad l)).size = 128 := by rw [strOfNums_size, pad_length h]
theorem chA_size (nx : Int) (b : ByteArray) : (chA nx b).1.size ≤ 128 := by
 unfold chA
 split
 ·rename_i h
  have h2 : b.size ≤ 120 := by unfold chOk at h; simp at h; exact h.2.2
  show (strOfNums (pad (chL nx b))).size ≤ 128
  rw [strOf_pad_size (by rw [chL_length]; omega)]
  exact Nat.le_refl _
 ·exact Nat.zero_le _
theorem wfS_small {s : ByteArray} (h : s.size ≤ 1000000) : wfS s := Nat.le_trans h (by decide)
set_option maxHeartbeats 8000000 in
set_option maxRecDepth 100000 in
theorem chain_any {w0 w : World} {g m : Nat} {S : PS} (h : IsPlan w0 w g m S) (b : ByteArray) (hb : b.size ≤ 10000) (ho : S.out.length ≤ 80000) :
  Calls Try.prog 29 #[.pointer (some ⟨g, 0, none⟩), .string b] w fun e w' => e = .returned (.int .i64 (chainF (pieces b) S).1) ∧ IsPlan w0 w' g m (chainF (pieces b) S).2 ∧ Kw w w' g := by
 have HP := Aside0.mk h
 have HS := Aside0.mk ho
 have HPI := Aside0.mk (PShelfMore.shelf_pieces.calls (b.size + 1) b (pieces b) w (pieces_f b (by omega)))
 have hpl : (pieces b).length ≤ 10000 := Nat.le_trans (piecesF_length _ _) hb
 have hps : ∀ x ∈ pieces b, 1 ≤ x.size ∧ x.size ≤ 120 := piecesF_size _ _
 obtain ⟨l, hl⟩ : ∃ l, l = pieces b := ⟨_, rfl⟩
 rw [← hl] at hpl hps HPI ⊢
 have HPS := Aside0.mk hps
 have HPL := Aside0.mk hpl
 clear h hb ho hl hps hpl
 go_enter Try.func29, Try.ntmps29
 go_wp2_with (fail)
 refine (HPI.out).mono ?_
 rintro e w1 ⟨v, rfl, hR, hb1⟩
 obtain ⟨A, c, rfl, hc, hC⟩ := Kd.R_reads hR
 obtain ⟨n, hn⟩ : ∃ n, n = l.length := ⟨_, rfl⟩
 rw [← hn] at hR ⊢
 have HN := Aside0.mk hn
 have hn1 : n ≤ 10000 := by rw [hn]; exact HPL.out
 have P1 := Aside0.mk (HP.out.step hb1)
 have R1 := Aside0.mk hR
 have W1 := Aside0.mk (Kw.below hb1 g)
 clear hR hb1 hC hc HPI hn
 go_wp2_with (fail)
 go_loopg [5, 7] n (fun kx v5 v7 wr => v5 = .int .i64 (chainF (l.drop kx) S).1 ∧ v7 = .int .i64 ((kx : Int) - 1) ∧ Aside0 (kx ≤ n) ∧ Aside0 (IsPlan w0 wr g m (chainF (l.drop kx) S).2) ∧ Aside0 (Kd.R Kd.string 9 wr w.heap.size (fun _ => True) (.slice A n c) l) ∧ Aside0 (Kw w wr g))
 case atStart => exact ⟨by rw [HN.out, List.drop_length]; rfl, by first | rfl | go_num, ⟨Nat.le_refl _⟩, ⟨by rw [HN.out, List.drop_length]; exact P1.out⟩, R1, W1⟩
 case round =>
  clear P1 R1 W1
  obtain ⟨rfl, rfl, HK, P1, R1, W1⟩ := hrel
  cases gk with
  | zero =>
   have e1 : decide ((0 : Int) ≤ ((0 : Nat) : Int) - 1) = false := by decide
   go_wp2_with (fail)
   go_ret
   exact ⟨rfl, P1.out, W1.out⟩
  | succ k =>
   have hk : k < n := HK.out
   have hkl : k < l.length := by have := HN.out; omega
   rw [show ((k + 1 : Nat) : Int) - 1 = (k : Int) by omega]
   have d1 : decide ((0 : Int) ≤ (k : Int)) = true := decide_eq_true (by omega)
   have d3 : (k < n) = True := eq_true hk
   have d4 : ((k : Int) < (n : Int)) = True := eq_true (by omega)
   have d5 : (0 ≤ (k : Int)) = True := eq_true (by omega)
   have hC := (Kd.R_reads' R1.out).2.2
   rw [← HN.out] at hC
   obtain ⟨ad, rfl, x0⟩ := Kd.at_string hC (k : Int) (by omega) (by omega)
   have hx : rdOf ByteArray.empty l (k : Int) = l[k] := by unfold rdOf; simp [hkl]
   rw [hx, Int.toNat_natCast] at x0
   have hd : l.drop k = l[k] :: l.drop (k + 1) := List.drop_eq_getElem_cons hkl
   have hxs := HPS.out _ (List.getElem_mem hkl)
   have ho := chainF_out (l.drop (k + 1)) S
   obtain ⟨x, hxx⟩ : ∃ x, x = l[k] := ⟨_, rfl⟩
   rw [← hxx] at x0 hd hxs
   obtain ⟨N, hN⟩ : ∃ N, N = (chainF (l.drop (k + 1)) S).1 := ⟨_, rfl⟩
   obtain ⟨T, hT⟩ : ∃ T, T = (chainF (l.drop (k + 1)) S).2 := ⟨_, rfl⟩
   have hc2 : chainF (l.drop k) S = (putN T (chA N x).1 (chA N x).2, putS T (chA N x).1 (chA N x).2) := by rw [hd, chainF_cons, hN, hT]
   rw [← hT] at P1 ho
   rw [← hN]
   have HC2 := Aside0.mk hc2
   have hcc := fun W => PBase.sheet_Chain.calls 11 N x (chA N x).1 (chA N x).2 W (chain_k N x (by omega) 11 (Nat.le_refl _))
   have hsz := chA_size N x
   obtain ⟨cb, hcb⟩ : ∃ cb, cb = (chA N x).1 := ⟨_, rfl⟩
   obtain ⟨ci, hci⟩ : ∃ ci, ci = (chA N x).2 := ⟨_, rfl⟩
   rw [← hcb, ← hci] at hcc HC2
   rw [← hcb] at hsz
   have HCC := Aside0.mk hcc
   have HSZ := Aside0.mk hsz
   have HTO := Aside0.mk (show T.out.length ≤ 100000 by rw [List.length_drop] at ho; have := HS.out; have := HN.out; omega)
   clear hC hx hxs ho hxx hd hN hT hc2 hcc hcb hci hsz hkl
   go_wp2_with (fail)
   refine (HCC.out _).mono ?_
   rintro e w2 ⟨rfl, hb2⟩
   have P2 := Aside0.mk (P1.out.step hb2)
   have R2_ := Aside0.mk (Kd.R_below R1.out hb2)
   have W2 := Aside0.mk (W1.out.trans (Kw.below hb2 g))
   clear hb2 P1 R1 W1 x0
   go_wp2_with (fail)
   refine (put_any P2.out cb ci (wfS_small (by have := HSZ.out; omega)) HTO.out).mono ?_
   rintro e w3 ⟨rfl, hp3, hw3⟩
   have P3 := Aside0.mk hp3
   have W3 := Aside0.mk (W2.out.trans hw3)
   obtain ⟨cs, hcs⟩ := P2.out.blk
   have R3 := Aside0.mk (hw3.R hcs R2_.out (by intro q hq; simp [Kd.string, Kd.scalar] at hq; omega))
   clear hp3 hw3 hcs
   go_wp2_with (fail)
   go_roundg k
   case measure => omega
   case rel => exact ⟨by rw [HC2.out], by first | rfl | go_num, ⟨by omega⟩, ⟨by rw [HC2.out]; exact P3.out⟩, R3, W3⟩
def leafE (l : List C4) : ByteArray × Bool := lfA (fun i => (atC l i.toNat).1) (fun i => (atC l i.toNat).2.1) (fun i => (atC l i.toNat).2.2.1) (fun i => (atC l i.toNat).2.2.2) l.length
def indexE (l : List S2) : ByteArray × Bool := idxA (fun i => (atS l i.toNat).1) (fun i => (atS l i.toNat).2) l.length
theorem leaf_list (A : Option Addr) (c : Nat) (l : List C4) (w : World) (h : Kd.C kC w A l.length l) :
  Calls Try.prog 31 #[.slice A l.length c] w fun e w' => e = .returned (.tuple #[.string (leafE l).1, .bool (leafE l).2]) ∧ Below w.heap.size w w' :=
 leaf_all A l.length c w _ _ _ _ (fun i h0 h1 => at_C h i.toNat (by omega))
theorem index_list (A : Option Addr) (c : Nat) (l : List S2) (w : World) (h : Kd.C kS w A l.length l) :
  Calls Try.prog 32 #[.slice A l.length c] w fun e w' => e = .returned (.tuple #[.string (indexE l).1, .bool (indexE l).2]) ∧ Below w.heap.size w w' :=
 index_all A l.length c w _ _ (fun i h0 h1 => at_S h i.toNat (by omega))
theorem fullA_size (s : ByteArray) : (fullA s).1.size ≤ 128 := by
 unfold fullA
 split
 ·show (s ++ zer (128 - s.size)).size ≤ 128
  rw [ByteArray.size_append, zer_size]; omega
 ·exact Nat.zero_le _
theorem leafE_size (l : List C4) : (leafE l).1.size ≤ 128 := by
 unfold leafE lfA
 split
 ·split
  ·exact fullA_size _
  ·exact Nat.zero_le _
 ·exact Nat.zero_le _
theorem indexE_size (l : List S2) : (indexE l).1.size ≤ 128 := by
 unfold indexE idxA
 split
 ·split
  ·exact fullA_size _
  ·exact Nat.zero_le _
 ·exact Nat.zero_le _
set_option maxHeartbeats 1000000 in
theorem fits_any (A : Option Addr) (c : Nat) (l : List C4) (w : World) (h : Kd.C kC w A l.length l) :
  Calls Try.prog 53 #[.slice A l.length c] w fun e w' => e = .returned (.bool (leafE l).2) ∧ Below w.heap.size w w' := by
 have HL := Aside0.mk (leaf_list A c l w h)
 obtain ⟨r1, h1⟩ : ∃ r, r = (leafE l).1 := ⟨_, rfl⟩
 obtain ⟨r2, h2⟩ : ∃ r, r = (leafE l).2 := ⟨_, rfl⟩
 obtain ⟨n, hn⟩ : ∃ n, n = l.length := ⟨_, rfl⟩
 rw [← h1, ← h2, ← hn] at HL
 rw [← h2, ← hn]
 clear h h1 h2 hn
 go_enter Try.func53, Try.ntmps53
 go_wp2_with (fail)
 with_reducible refine (HL.out).mono ?_
 rintro e w1 ⟨rfl, hb⟩
 have HB := Aside0.mk hb
 clear hb HL
 go_wp2_with (fail)
 go_ret
 exact ⟨rfl, HB.out⟩
def lvs : List C4 → List C4 → List (List C4)
  | cur, [] => (match cur with | [] => [] | _ :: _ => [cur])
  | cur, c :: r => if (leafE (cur ++ [c])).2 = true then lvs (cur ++ [c]) r else cur :: lvs [c] r
theorem lvs_length : ∀ (r cur : List C4), (lvs cur r).length ≤ r.length + 1
 | [], cur => by unfold lvs; cases cur <;> simp
 | c :: r, cur => by
  unfold lvs
  split
  ·have := lvs_length r (cur ++ [c]); rw [List.length_cons]; omega
  ·have := lvs_length r [c]; rw [List.length_cons, List.length_cons]; omega
abbrev kL (w : World) : Kd (List C4) := Kd.fixed (Kd.slice 61 kC) w
theorem kL_mk {w w' : World} {base : Nat} {ok : Nat → Prop} {A : Option Addr} {c : Nat} {xs : List C4} (hl : xs.length ≤ c) (h : Kd.C kC w A xs.length xs) : (kL w).M w' base ok xs [.slice A xs.length c] := ⟨A, c, rfl, hl, h⟩
theorem take_drop_len {l : List C4} {a b : Nat} (h1 : a ≤ b) (h2 : b ≤ l.length) : ((l.take b).drop a).length = b - a := by rw [List.length_drop, List.length_take]; omega
set_option maxHeartbeats 8000000 in
set_option maxRecDepth 100000 in
theorem leaves_any (w Wf : World) (A : Option Addr) (c : Nat) (l : List C4) (h : Kd.C kC w A l.length l) (hW : Kd.C kC Wf A l.length l) (hc : l.length ≤ c) (hl : l.length ≤ 100000) :
  Calls Try.prog 28 #[.slice A l.length c] w fun e w' => ∃ v, e = .returned v ∧ (kL Wf).R 59 w' w.heap.size (fun k => w.heap.size ≤ k) v (lvs [] l) ∧ Below w.heap.size w w' := by
 have HC := Aside0.mk h
 have HL := Aside0.mk hl
 obtain ⟨i0, hi0, hz0⟩ := Option.map_eq_some_iff.1 info61
 have hsz0 : i0.size = 4 := by simp only [Prod.mk.injEq] at hz0; exact hz0.2.1
 have hcut := fun (lo hi : Nat) (h1 : lo ≤ hi) (h2 : hi ≤ l.length) => cut_mid (P := Try.prog) 59 61 .i64 .i64 Try.underlying59 hi0 4 hsz0 A l.length c (lo : Int) (hi : Int) (by omega) (by omega) (by omega) hc
 have hcut2 := fun (lo : Nat) (h1 : lo ≤ l.length) => cut_from (P := Try.prog) 59 61 .i64 Try.underlying59 hi0 4 hsz0 A l.length c (lo : Int) (by omega) (by omega)
 have hmid := fun (lo hi : Nat) (h1 : lo ≤ hi) (h2 : hi ≤ l.length) => Kd.C_mid h h1 h2 hc
 have hmidW := fun (lo hi : Nat) (h1 : lo ≤ hi) (h2 : hi ≤ l.length) => Kd.C_mid hW h1 h2 hc
 have hdr := fun (lo : Nat) (h1 : lo ≤ l.length) => Kd.C_drop hW h1 hc
 obtain ⟨n, hn⟩ : ∃ n, n = l.length := ⟨_, rfl⟩
 have HN := Aside0.mk hn
 rw [← hn] at hcut hcut2 hmid hmidW hdr hl hc
 rw [← hn]
 have HCUT := Aside0.mk hcut
 have HCUT2 := Aside0.mk hcut2
 have HMID := Aside0.mk hmid
 have HDR := Aside0.mk hdr
 have HMIDW := Aside0.mk hmidW
 have HCC := Aside0.mk hc
 clear h hW hc hcut hcut2 hmid hmidW hdr hn hi0 hz0 hsz0
 go_enter Try.func28, Try.ntmps28
 go_wp2_with (fail)
 go_loopg [3, 4, 8] n (fun kx v3 v4 v8 wr => ∃ (i f : Nat) (out : List (List C4)), v8 = .int .i64 i ∧ v4 = .int .i64 f ∧ f ≤ i ∧ Aside0 (i + kx = n) ∧ Aside0 (out ++ lvs ((l.take i).drop f) (l.drop i) = lvs [] l) ∧ Aside0 (out.length ≤ i) ∧ Aside0 ((kL Wf).R 59 wr w.heap.size (fun k => w.heap.size ≤ k) v3 out) ∧ Aside0 (Below w.heap.size w wr))
 case atStart => exact ⟨0, 0, [], rfl, rfl, Nat.le_refl _, ⟨by omega⟩, ⟨by simp⟩, ⟨Nat.le_refl _⟩, ⟨Kd.R_nil _ _ _ _ _⟩, ⟨Below.refl _ _⟩⟩
 case round =>
  obtain ⟨i, f, out, rfl, rfl, hfi, HI, HX, HO, HR, HB⟩ := hrel
  have HFI := Aside0.mk hfi
  cases gk with
  | zero =>
   have hi : i = n := by have := HI.out; omega
   have d1 : decide ((i : Int) < (n : Int)) = false := decide_eq_false (by omega)
   have d2 : decide (i < n) = false := decide_eq_false (by omega)
   have hX := HX.out
   rw [show l.drop i = [] from List.drop_of_length_le (by have := HN.out; omega), show l.take i = l from List.take_of_length_le (by have := HN.out; omega)] at hX
   by_cases hf : f < n
   ·have d3 : decide ((f : Int) < (n : Int)) = true := decide_eq_true (by omega)
    have d4 : decide (f < n) = true := decide_eq_true hf
    have hne : ∃ a t, l.drop f = a :: t := by
     cases hd : l.drop f with
     | nil => have h2 := congrArg List.length hd; rw [List.length_drop, List.length_nil] at h2; have := HN.out; omega
     | cons a t => exact ⟨a, t, rfl⟩
    obtain ⟨a, t, hat⟩ := hne
    have hX2 : out ++ [l.drop f] = lvs [] l := by rw [← hX, hat]; rfl
    have hrun := HCUT2.out f (by omega)
    rw [Int.toNat_natCast] at hrun
    have hcd := HDR.out f (by omega)
    have hln : (l.drop f).length = n - f := by rw [List.length_drop, HN.out]
    obtain ⟨A2, hA2⟩ : ∃ A2, A2 = (if c = f then A else A.map (·.add (f * 4))) := ⟨_, rfl⟩
    rw [← hA2] at hrun
    have hcd2 : Kd.C kC Wf A2 (l.drop f).length (l.drop f) := by rw [hA2]; exact hcd
    obtain ⟨q, hq⟩ : ∃ q, q = (l.drop f).length := ⟨_, rfl⟩
    rw [show n - f = q by omega] at hrun
    have HQ := Aside0.mk hq
    have HCD := Aside0.mk hcd2
    have HX2 := Aside0.mk hX2
    have hlen : out.length ≤ 100000 := by have := HO.out; omega
    clear hX hX2 hat hcd hcd2 hln hA2 hq hi
    have HQC := Aside0.mk (show (l.drop f).length ≤ c - f by rw [List.length_drop]; have := HN.out; have := HCC.out; omega)
    go_wp2_with (first
     | ((with_reducible refine gate_builtin (b := .append) (xs := #[.tmp 31, .tmp 35]) rfl ?_); at_builtin; go_must (refine Kd.R_append (kL Wf) w.heap.size rfl (.tmp 31) (.tmp 35) 63 59 (.slice none 0 0) 24 rfl Try.underlying63 info59 rfl Nat.one_pos (by omega) u3 out (l.drop f) [.slice A2 q (c - f)] (fun k => w.heap.size ≤ k) (fun _ => False) rfl rfl (by rw [HQ.out]; exact kL_mk HQC.out HCD.out) (fun _ hk => hk.elim) ?aF HR.out HB.out HB.out.size (by omega) ?_); (case aF => exact fun k hk => Nat.le_trans HB.out.size hk); intro v5_ w5_ ho_ hb_ hg_ hat_; rw [HX2.out] at ho_; have HR2 := Aside0.mk ho_; have HB2 := Aside0.mk hb_; clear ho_ hb_ hg_ hat_))
    go_ret
    exact ⟨_, rfl, HR2.out, HB2.out⟩
   ·have d3 : decide ((f : Int) < (n : Int)) = false := decide_eq_false (by omega)
    have d4 : decide (f < n) = false := decide_eq_false hf
    have hX2 : out = lvs [] l := by rw [← hX, show l.drop f = [] from List.drop_of_length_le (by have := HN.out; omega)]; simp [lvs]
    have HX2 := Aside0.mk hX2
    clear hX hX2 hi hf
    go_wp2_with (fail)
    go_ret
    exact ⟨_, rfl, by rw [← HX2.out]; exact HR.out, HB.out⟩
  | succ gk =>
   have hi : i < n := by have := HI.out; omega
   have hil : i < l.length := by have := HN.out; omega
   have d1 : decide ((i : Int) < (n : Int)) = true := decide_eq_true (by omega)
   have d2 : decide (i < n) = true := decide_eq_true hi
   have hX := HX.out
   rw [List.drop_eq_getElem_cons hil] at hX
   have htk : (l.take i).drop f ++ [l[i]] = (l.take (i + 1)).drop f := by
    rw [List.take_succ_eq_append_getElem hil, List.drop_append_of_le_length (by rw [List.length_take]; omega)]
   rw [show ∀ cur c r, lvs cur (c :: r) = if (leafE (cur ++ [c])).2 = true then lvs (cur ++ [c]) r else cur :: lvs [c] r from fun _ _ _ => rfl, htk] at hX
   have hrun := HCUT.out f (i + 1) (by omega) (by omega)
   rw [Int.toNat_natCast, Int.toNat_natCast] at hrun
   have hcd := HMID.out f (i + 1) (by omega) (by omega)
   have hln : ((l.take (i + 1)).drop f).length = i + 1 - f := take_drop_len (by omega) (by omega)
   obtain ⟨A2, hA2⟩ : ∃ A2, A2 = (if c = f then A else A.map (·.add (f * 4))) := ⟨_, rfl⟩
   rw [← hA2] at hrun
   have hcd2 : Kd.C kC w A2 ((l.take (i + 1)).drop f).length ((l.take (i + 1)).drop f) := by rw [hA2]; exact hcd
   obtain ⟨xs, hxs⟩ : ∃ xs, xs = (l.take (i + 1)).drop f := ⟨_, rfl⟩
   rw [← hxs] at hcd2 hX hln
   have hfit := fits_any A2 (c - f) xs wr (Kd.C_below hcd2 HB.out)
   rw [hln] at hfit
   rw [show ((i + 1 : Nat) : Int) = (i : Int) + 1 by omega] at hrun
   cases hb : (leafE xs).2 with
   | true =>
    rw [hb] at hfit hX
    rw [if_pos rfl, hxs] at hX
    have HX2 := Aside0.mk hX
    have HF := Aside0.mk hfit
    clear hX hxs hln hcd hcd2 htk hA2 hb hfit hil
    go_wp2_with (fail)
    with_reducible refine (HF.out).mono ?_
    rintro e w2 ⟨rfl, hb2⟩
    have HR2 := Aside0.mk (Kd.R_below HR.out hb2)
    have HB2 := Aside0.mk (below_step HB.out hb2)
    clear hb2 HF hrun
    go_wp2_with (fail)
    go_roundg gk
    case measure => omega
    case rel => exact ⟨i + 1, f, out, by first | rfl | go_num, rfl, by omega, ⟨by have := HI.out; omega⟩, HX2, ⟨by have := HO.out; omega⟩, HR2, HB2⟩
   | false =>
    rw [hb] at hfit hX
    rw [if_neg (by decide), show [l[i]] = (l.take (i + 1)).drop i from by rw [List.take_succ_eq_append_getElem hil, List.drop_append_of_le_length (by rw [List.length_take]; omega), List.drop_of_length_le (by rw [List.length_take]; omega)]; rfl] at hX
    have hrun3 := HCUT.out f i (by omega) (by omega)
    rw [Int.toNat_natCast, Int.toNat_natCast] at hrun3
    have hcd3 := HMIDW.out f i (by omega) (by omega)
    have hln3 : ((l.take i).drop f).length = i - f := take_drop_len (by omega) (by omega)
    rw [← hA2] at hrun3
    have hcd4 : Kd.C kC Wf A2 ((l.take i).drop f).length ((l.take i).drop f) := by rw [hA2]; exact hcd3
    obtain ⟨ys, hys⟩ : ∃ ys, ys = (l.take i).drop f := ⟨_, rfl⟩
    rw [← hys] at hcd4 hX hln3
    have HX2 := Aside0.mk (show (out ++ [ys]) ++ lvs ((l.take (i + 1)).drop i) (l.drop (i + 1)) = lvs [] l by rw [List.append_assoc]; exact hX)
    have HF := Aside0.mk hfit
    have HCD := Aside0.mk hcd4
    obtain ⟨q, hq⟩ : ∃ q, q = i - f := ⟨_, rfl⟩
    rw [← hq] at hrun3
    have HQ := Aside0.mk (show q = ys.length by omega)
    have HQC := Aside0.mk (show ys.length ≤ c - f by have := HCC.out; omega)
    have hlen : out.length ≤ 100000 := by have := HO.out; omega
    clear hX hxs hln hcd hcd2 htk hA2 hb hfit hil hcd3 hcd4 hln3 hys hq
    go_wp2_with (fail)
    with_reducible refine (HF.out).mono ?_
    rintro e w2 ⟨rfl, hb2⟩
    have HR2 := Aside0.mk (Kd.R_below HR.out hb2)
    have HB2 := Aside0.mk (below_step HB.out hb2)
    clear hb2 HF hrun
    go_wp2_with (first
     | ((with_reducible refine gate_builtin (b := .append) (xs := #[.tmp 18, .tmp 23]) rfl ?_); at_builtin; go_must (refine Kd.R_append (kL Wf) w.heap.size rfl (.tmp 18) (.tmp 23) 63 59 (.slice none 0 0) 24 rfl Try.underlying63 info59 rfl Nat.one_pos (by omega) u3 out ys [.slice A2 q (c - f)] (fun k => w.heap.size ≤ k) (fun _ => False) rfl rfl (by rw [HQ.out]; exact kL_mk HQC.out HCD.out) (fun _ hk => hk.elim) ?aF HR2.out HB2.out HB2.out.size (by omega) ?_); (case aF => exact fun k hk => Nat.le_trans HB2.out.size hk); intro v5_ w5_ ho_ hb_ hg_ hat_; have HR3 := Aside0.mk ho_; have HB3 := Aside0.mk hb_; clear ho_ hb_ hg_ hat_))
    go_roundg gk
    case measure => omega
    case rel => exact ⟨i + 1, i, out ++ [ys], by first | rfl | go_num, rfl, by omega, ⟨by have := HI.out; omega⟩, HX2, ⟨by rw [List.length_append]; have := HO.out; simp; omega⟩, HR3, HB3⟩
theorem index_l0 (l : List Int) (x : Int) (hl : l.length ≤ 1000000) (d : Nat) : ∀ (k i : Nat), l.length - i = d → i ≤ l.length → d < k → ∃ r, PShelfMore.slices_Index_int_int.l0 k l x (l.length : Int) (i : Int) = some r ∧ (0 ≤ r ↔ x ∈ l.drop i) := by
  induction d with
  | zero =>
    intro k i hd hi hk
    obtain ⟨k, rfl⟩ : ∃ m, k = m + 1 := ⟨k - 1, by omega⟩
    refine ⟨-1, ?_, ?_⟩
    · simp only [PShelfMore.slices_Index_int_int.l0]; rw [if_neg (by omega)]
    · rw [List.drop_of_length_le (by omega)]; simp
  | succ d ih =>
    intro k i hd hi hk
    obtain ⟨k, rfl⟩ : ∃ m, k = m + 1 := ⟨k - 1, by omega⟩
    have hi2 : i < l.length := by omega
    simp only [PShelfMore.slices_Index_int_int.l0]
    rw [if_pos (by omega), if_pos (by omega), if_pos (by omega), List.drop_eq_getElem_cons hi2]
    have hrd : rd l (i : Int) = l[i] := by unfold rd; simp [hi2]
    rw [hrd]
    by_cases h : x = l[i]
    · rw [if_pos h]; exact ⟨_, rfl, by constructor; · intro _; rw [h]; exact List.mem_cons_self
                                       · intro _; omega⟩
    · rw [if_neg h]
      obtain ⟨r, h1, h2⟩ := ih k (i + 1) (by omega) (by omega) (by omega)
      rw [show wrap64 ((i : Int) + 1) = ((i + 1 : Nat) : Int) from by unfold wrap64; omega]
      exact ⟨r, h1, by rw [h2, List.mem_cons]; exact ⟨.inr, fun h3 => h3.resolve_left h⟩⟩
theorem contains_f (l : List Int) (x : Int) (hl : l.length ≤ 1000000) : PShelfMore.slices_Contains_int_int.f (l.length + 1) l x = some (decide (x ∈ l)) := by
  unfold PShelfMore.slices_Contains_int_int.f PShelfMore.slices_Index_int_int.f
  obtain ⟨r, h1, h2⟩ := index_l0 l x hl l.length (l.length + 1) 0 (by omega) (by omega) (by omega)
  rw [List.drop_zero] at h2
  rw [show ((0 : Nat) : Int) = 0 from rfl] at h1
  rw [h1, Option.bind_some]
  congr 1
  exact decide_eq_decide.2 h2
theorem contains_any (A : Option Addr) (c : Nat) (l : List Int) (x : Int) (w : World) (h : Kd.C (Kd.int .i64) w A l.length l) (hc : l.length ≤ c) (hl : l.length ≤ 1000000) :
  Calls Try.prog 50 #[.slice A l.length c, .int .i64 x] w fun e w' => e = .returned (.bool (decide (x ∈ l))) ∧ Below w.heap.size w w' :=
 (PShelfMore.slices_Contains_int_int.calls (l.length + 1) A c l x _ w h hc (contains_f l x hl)).mono fun _ _ ⟨he, hb⟩ => ⟨he, by first | exact hb | exact hb.below⟩
def badP (n : Int) : Bool := decide (n < 2) || decide (200 ≤ n)
set_option maxHeartbeats 1000000 in
theorem bad_any (n : Int) (w : World) : Calls Try.prog 52 #[.int .i64 n] w fun e w' => e = .returned (.bool (badP n)) ∧ w' = w := by
 unfold badP
 by_cases h1 : n < 2
 ·have d1 := decide_eq_true h1
  clear h1
  go_enter Try.func52, Try.ntmps52
  go_wp2
  go_ret
  exact ⟨by rw [d1]; rfl, rfl⟩
 ·have d1 := decide_eq_false h1
  obtain ⟨b, hb⟩ : ∃ b, b = decide (200 ≤ n) := ⟨_, rfl⟩
  have d2 := hb.symm
  rw [d1, ← hb]
  clear h1 hb
  cases b
  all_goals
   go_enter Try.func52, Try.ntmps52
   go_wp2
   go_ret
   exact ⟨by first | rfl | (rw [d2]; rfl), rfl⟩
set_option maxHeartbeats 4000000 in
set_option maxRecDepth 100000 in
theorem indexFunc_any (A : Option Addr) (c : Nat) (l : List Int) (w : World) (h : Kd.C (Kd.int .i64) w A l.length l) (hl : l.length ≤ 1000000) :
  Calls Try.prog 79 #[.slice A l.length c, .func (.func 52) #[] #[]] w fun e w' => ∃ r : Int, e = .returned (.int .i64 r) ∧ (0 ≤ r ↔ l.any badP = true) ∧ -1 ≤ r ∧ w' = w := by
 have HC := Aside0.mk h
 obtain ⟨n, hn⟩ : ∃ n, n = l.length := ⟨_, rfl⟩
 have HN := Aside0.mk hn
 rw [← hn] at HC hl ⊢
 have eg : ∀ args w, (callFunc 52 args).run Try.prog w = .ok (.enter 52 args) w := enters_of Try.func52 (by kernel_rfl) rfl
 clear h hn
 go_enter Try.func79, Try.ntmps79
 go_wp2_with (fail)
 go_loopg [8] n (fun kx v8 wr => ∃ i : Nat, v8 = .int .i64 i ∧ Aside0 (i + kx = n) ∧ Aside0 ((l.take i).any badP = false) ∧ wr = w)
 case atStart => exact ⟨0, rfl, ⟨by omega⟩, ⟨by simp⟩, rfl⟩
 case round =>
  obtain ⟨i, rfl, HI, HA, rfl⟩ := hrel
  cases gk with
  | zero =>
   have hi : i = n := by have := HI.out; omega
   subst hi
   have d1 : decide ((i : Int) < (i : Int)) = false := decide_eq_false (by omega)
   have d2 : decide (i < i) = false := decide_eq_false (by omega)
   go_wp2_with (fail)
   go_ret
   have hA := HA.out
   rw [List.take_of_length_le (by have := HN.out; omega)] at hA
   exact ⟨-1, rfl, by rw [hA]; simp, by omega, rfl⟩
  | succ gk =>
   have hi : i < n := by have := HI.out; omega
   have hil : i < l.length := by have := HN.out; omega
   have d1 : decide ((i : Int) < (n : Int)) = true := decide_eq_true (by omega)
   have d2 : decide (i < n) = true := decide_eq_true hi
   have d3 : (i < n) = True := eq_true hi
   have d4 : ((i : Int) < (n : Int)) = True := eq_true (by omega)
   have d5 : (0 ≤ (i : Int)) = True := eq_true (by omega)
   obtain ⟨ad, rfl, x0⟩ := Kd.at_int HC.out (i : Int) (by omega) (by omega)
   have hrd : rd l (i : Int) = l[i] := by unfold rd; simp [hil]
   rw [hrd, Int.toNat_natCast] at x0
   obtain ⟨x, hx⟩ : ∃ x, x = l[i] := ⟨_, rfl⟩
   rw [← hx] at x0
   have hany : (l.take (i + 1)).any badP = badP x := by
    rw [List.take_succ_eq_append_getElem hil, List.any_append, HA.out, ← hx]; simp
   have HB := Aside0.mk (bad_any x wr)
   cases hb : badP x with
   | true =>
    rw [hb] at HB hany
    have hall : l.any badP = true := by
     have h1 := congrArg (fun m => m.any badP) (List.take_append_drop (i + 1) l)
     simp only [List.any_append] at h1
     rw [← h1, hany]; rfl
    have HALL := Aside0.mk hall
    clear hall hany hb hx hrd hil
    go_wp2_with (fail)
    with_reducible refine (HB.out).mono ?_
    rintro e w' ⟨rfl, rfl⟩
    go_wp2_with (fail)
    go_ret
    exact ⟨i, rfl, by rw [HALL.out]; simp, by omega, rfl⟩
   | false =>
    rw [hb] at HB hany
    have HANY := Aside0.mk hany
    clear hany hb hx hrd hil
    go_wp2_with (fail)
    with_reducible refine (HB.out).mono ?_
    rintro e w' ⟨rfl, rfl⟩
    go_wp2_with (fail)
    go_roundg gk
    case measure => omega
    case rel => exact ⟨i + 1, by first | rfl | go_num, ⟨by have := HI.out; omega⟩, HANY, rfl⟩
set_option maxHeartbeats 4000000 in
theorem containsFunc_any (A : Option Addr) (c : Nat) (l : List Int) (w : World) (h : Kd.C (Kd.int .i64) w A l.length l) (hl : l.length ≤ 1000000) :
  Calls Try.prog 51 #[.slice A l.length c, .func (.func 52) #[] #[]] w fun e w' => e = .returned (.bool (l.any badP)) ∧ w' = w := by
 have HI := Aside0.mk (indexFunc_any A c l w h hl)
 obtain ⟨n, hn⟩ : ∃ n, n = l.length := ⟨_, rfl⟩
 obtain ⟨r0, hr0⟩ : ∃ r, r = l.any badP := ⟨_, rfl⟩
 rw [← hn, ← hr0] at HI
 rw [← hn, ← hr0]
 clear h hn hr0 hl
 go_enter Try.func51, Try.ntmps51
 go_wp2_with (fail)
 with_reducible refine (HI.out).mono ?_
 rintro e w' ⟨r, rfl, hr, hr1, rfl⟩
 have HE := Aside0.mk (show r0 = decide (0 ≤ r) by cases r0 with
  | true => rw [decide_eq_true (hr.2 rfl)]
  | false => rw [decide_eq_false (fun h => by have := hr.1 h; cases this)])
 clear hr
 go_wp2_with (fail)
 go_ret
 exact ⟨by rw [HE.out]; rfl, rfl⟩
def frOk (hv fr : List Int) (k : Nat) : Bool := (List.range k).all fun i => !decide (fr.getD i 0 ∈ hv) && !decide (fr.getD i 0 ∈ fr.take i)
def mayE (hv fr : List Int) : Bool := frOk hv fr fr.length && !((hv ++ fr).any badP)
theorem frOk_snoc (hv fr : List Int) (k : Nat) : frOk hv fr (k + 1) = (frOk hv fr k && (!decide (fr.getD k 0 ∈ hv) && !decide (fr.getD k 0 ∈ fr.take k))) := by
  unfold frOk; rw [List.range_succ, List.all_append]; simp
theorem frOk_more (hv fr : List Int) (k : Nat) (h : frOk hv fr k = false) : ∀ d, frOk hv fr (k + d) = false
  | 0 => h
  | d + 1 => by rw [← Nat.add_assoc, frOk_snoc, frOk_more hv fr k h d]; rfl
set_option maxHeartbeats 8000000 in
set_option maxRecDepth 100000 in
theorem may_any (w : World) (A : Option Addr) (c : Nat) (l : List R2) (B : Option Addr) (d : Nat) (fr : List Int) (h : Kd.C kR w A l.length l) (hc : l.length ≤ c) (hl : l.length ≤ 100000) (h2 : Kd.C (Kd.int .i64) w B fr.length fr) (hd : fr.length ≤ d) (hl2 : fr.length ≤ 100000) :
  Calls Try.prog 26 #[.slice A l.length c, .slice B fr.length d] w fun e w' => e = .returned (.bool (mayE (l.map (·.1)) fr)) ∧ Below w.heap.size w w' := by
 have HC := Aside0.mk h
 have HD := Aside0.mk h2
 have HCC := Aside0.mk hc
 have HDD := Aside0.mk hd
 obtain ⟨n, hn⟩ : ∃ n, n = l.length := ⟨_, rfl⟩
 obtain ⟨q, hq⟩ : ∃ q, q = fr.length := ⟨_, rfl⟩
 obtain ⟨hv, hhv⟩ : ∃ hv, hv = l.map (·.1) := ⟨_, rfl⟩
 have hvl : hv.length = n := by rw [hhv, List.length_map, hn]
 have HN := Aside0.mk hn
 have HQ := Aside0.mk hq
 have HV := Aside0.mk hhv
 have HVL := Aside0.mk hvl
 rw [← hn] at hl ⊢
 rw [← hq] at hl2 ⊢
 rw [← hhv]
 obtain ⟨i3, hi3, hz3⟩ := Option.map_eq_some_iff.1 info3
 have hsz3 : i3.size = 1 := by simp only [Prod.mk.injEq] at hz3; exact hz3.2.1
 have hcut := fun (k : Nat) (hk : k ≤ q) => print_take_of (P := Try.prog) (Value.int .i64) (0 : Int) 24 3 .i64 Try.underlying24 hi3 hsz3 B d fr (k : Int) (by omega) (by omega) hd
 have HCUT := Aside0.mk hcut
 clear h hc h2 hd hn hq hhv hvl hi3 hz3 hsz3 hcut
 go_enter Try.func26, Try.ntmps26
 go_wp2_with (fail)
 go_loopg [5, 12] n (fun kx v5 v12 wr => ∃ i : Nat, v12 = .int .i64 i ∧ Aside0 (i + kx = n) ∧ Aside0 ((Kd.int .i64).R 3 wr w.heap.size (fun k => w.heap.size ≤ k) v5 (hv.take i)) ∧ Aside0 (Below w.heap.size w wr))
 case atStart => exact ⟨0, rfl, ⟨by omega⟩, ⟨Kd.R_nil _ _ _ _ _⟩, ⟨Below.refl _ _⟩⟩
 case round =>
  obtain ⟨i, rfl, HI, HR, HB⟩ := hrel
  cases gk with
  | zero =>
   have hi : i = n := by have := HI.out; omega
   subst hi
   have d1 : decide ((i : Int) < (i : Int)) = false := decide_eq_false (by omega)
   have d2 : decide (i < i) = false := decide_eq_false (by omega)
   have hR := HR.out
   rw [List.take_of_length_le (by have := HVL.out; omega)] at hR
   obtain ⟨A2, c2, rfl, hc2, hC2⟩ := Kd.R_reads hR
   rw [HVL.out] at hR hc2 hC2 ⊢
   have HR2 := Aside0.mk hR
   have HC2 := Aside0.mk hC2
   have hctn := fun (x : Int) (W : World) (hW : Below wr.heap.size wr W) => contains_any A2 c2 hv x W (by rw [HVL.out]; exact Kd.C_below HC2.out hW) (by have := HVL.out; omega) (by have := HVL.out; omega)
   rw [HVL.out] at hctn
   have HCT := Aside0.mk hctn
   have hctn2 := fun (k : Nat) (hk : k ≤ q) (x : Int) (W : World) (hW : Below wr.heap.size wr W) => contains_any B d (fr.take k) x W (Kd.C_take (Kd.C_below (Kd.C_below HD.out HB.out) hW) (by have := HQ.out; omega)) (by rw [List.length_take]; have := HDD.out; omega) (by rw [List.length_take]; have := HQ.out; omega)
   have HCT2 := Aside0.mk hctn2
   clear hR hc2 hC2 hctn hctn2 HR
   go_wp2_with (fail)
   clear d1 d2
   go_loopg [24] q (fun kx v24 W => ∃ j : Nat, v24 = .int .i64 j ∧ Aside0 (j + kx = q) ∧ Aside0 (frOk hv fr j = true) ∧ Aside0 (Below wr.heap.size wr W))
   case atStart => exact ⟨0, rfl, ⟨by omega⟩, ⟨rfl⟩, ⟨Below.refl _ _⟩⟩
   case round =>
    obtain ⟨j, rfl, HJ, HF, HW⟩ := hrel
    rename World => W
    cases gk with
    | zero =>
     have hj : j = q := by have := HJ.out; omega
     have d1 : decide ((j : Int) < (q : Int)) = false := decide_eq_false (by omega)
     have d2 : decide (j < q) = false := decide_eq_false (by omega)
     have hF := HF.out
     have hm : mayE hv fr = !((hv ++ fr).any badP) := by unfold mayE; rw [← HQ.out, ← hj, hF]; rfl
     have hRW := Kd.R_below HR2.out HW.out
     have hDW := Kd.C_below (Kd.C_below HD.out HB.out) HW.out
     rw [← HQ.out] at hDW
     have HRW := Aside0.mk hRW
     have HDW := Aside0.mk hDW
     have HBW := Aside0.mk (below_step HB.out HW.out)
     have hlv : hv.length + q ≤ 300000 := by have := HVL.out; omega
     obtain ⟨r0, hr0⟩ : ∃ r, r = (hv ++ fr).any badP := ⟨_, rfl⟩
     have HR0 := Aside0.mk hr0
     rw [← hr0] at hm
     have HM := Aside0.mk hm
     clear hj hF hm hRW hDW hr0
     go_wp2_with (first
      | ((with_reducible refine gate_builtin (b := .append) (xs := #[.tmp 40, .tmp 41]) rfl ?_); at_builtin; go_must (refine Kd.R_append_rows (Kd.int .i64) (Rr := (Kd.int .i64).K W) w.heap.size rfl (.tmp 40) (.tmp 41) 24 3 (.int .i64 0) 8 rfl Try.underlying24 info3 rfl (by decide) (by omega) (.slice A2 i c2) hv fr B q d (fun k => w.heap.size ≤ k) (fun _ => False) rfl rfl HRW.out HDW.out (fun x cs hx => hx) (fun _ hk => hk.elim) ?aF HBW.out HBW.out.size (by omega) ?_); (case aF => exact fun k hk => Nat.le_trans HBW.out.size hk); intro v5_ w5_ ho_ hb_ hg_ hat_; obtain ⟨A3, c3, rfl, hc3, hC3⟩ := Kd.R_reads ho_; have HB5 := Aside0.mk hb_; have HCF := Aside0.mk (containsFunc_any A3 c3 (hv ++ fr) w5_ hC3 (by rw [List.length_append]; have := HVL.out; have := HQ.out; omega)); obtain ⟨l3, hl3⟩ : ∃ l3, l3 = (hv ++ fr).length := ⟨_, rfl⟩; rw [← hl3, ← HR0.out] at HCF; rw [← hl3]; clear ho_ hb_ hg_ hat_ hc3 hC3 hl3))
     with_reducible refine (HCF.out).mono ?_
     rintro e w6 ⟨rfl, rfl⟩
     go_wp2_with (fail)
     go_ret
     exact ⟨by rw [HM.out]; rfl, HB5.out⟩
    | succ gk =>
     have hj : j < q := by have := HJ.out; omega
     have hjl : j < fr.length := by have := HQ.out; omega
     have d1 : decide ((j : Int) < (q : Int)) = true := decide_eq_true (by omega)
     have d2 : decide (j < q) = true := decide_eq_true hj
     have d3 : (j < q) = True := eq_true hj
     have d4 : ((j : Int) < (q : Int)) = True := eq_true (by omega)
     have d5 : (0 ≤ (j : Int)) = True := eq_true (by omega)
     have hCW := Kd.C_below (Kd.C_below HD.out HB.out) HW.out
     rw [← HQ.out] at hCW
     obtain ⟨ad, rfl, x0⟩ := Kd.at_int hCW (j : Int) (by omega) (by omega)
     have hrd : rd fr (j : Int) = fr.getD j 0 := by unfold rd; rw [Int.toNat_natCast]
     rw [hrd, Int.toNat_natCast] at x0
     have hsn := frOk_snoc hv fr j
     obtain ⟨x, hx⟩ : ∃ x, x = fr.getD j 0 := ⟨_, rfl⟩
     rw [← hx, HF.out] at hsn
     rw [← hx] at x0
     have hc1 := HCT.out x W HW.out
     have hno : frOk hv fr (j + 1) = false → mayE hv fr = false := fun h => by
      unfold mayE
      have h2 := frOk_more hv fr (j + 1) h (fr.length - (j + 1))
      rw [show j + 1 + (fr.length - (j + 1)) = fr.length by omega] at h2
      rw [h2]; rfl
     obtain ⟨hrun, _, _⟩ := HCUT.out j (by omega)
     rw [Int.toNat_natCast] at hrun
     have hlj : (fr.take j).length = j := by rw [List.length_take]; have := HQ.out; omega
     rw [hlj, ← HQ.out] at hrun
     by_cases m1 : x ∈ hv
     ·rw [decide_eq_true m1] at hsn hc1
      have hmf := hno hsn
      have HMF := Aside0.mk hmf
      have HC1 := Aside0.mk hc1
      clear hsn hc1 hno hmf m1 hx hrd hCW hjl hlj
      go_wp2_with (fail)
      with_reducible refine (HC1.out).mono ?_
      rintro e w6 ⟨rfl, hb⟩
      have HB6 := Aside0.mk (below_step (below_step HB.out HW.out) hb)
      clear hb
      go_wp2_with (fail)
      go_ret
      exact ⟨by rw [HMF.out]; rfl, HB6.out⟩
     ·rw [decide_eq_false m1] at hsn hc1
      have HC1 := Aside0.mk hc1
      have hc2 := fun (w6 : World) (hb : Below W.heap.size W w6) => HCT2.out j (by omega) x w6 (below_step HW.out hb)
      rw [hlj] at hc2
      by_cases m2 : x ∈ fr.take j
      ·rw [decide_eq_true m2] at hsn hc2
       have hmf := hno hsn
       have HMF := Aside0.mk hmf
       have HC2 := Aside0.mk hc2
       clear hsn hc1 hc2 hno hmf m1 m2 hx hrd hCW hjl hlj
       go_wp2_with (fail)
       with_reducible refine (HC1.out).mono ?_
       rintro e w6 ⟨rfl, hb⟩
       have HB6 := Aside0.mk hb
       clear hb
       go_wp2_with (fail)
       with_reducible refine (HC2.out _ HB6.out).mono ?_
       rintro e w7 ⟨rfl, hb⟩
       have HB7 := Aside0.mk (below_step (below_step (below_step HB.out HW.out) HB6.out) hb)
       clear hb
       go_wp2_with (fail)
       go_ret
       exact ⟨by rw [HMF.out]; rfl, HB7.out⟩
      ·rw [decide_eq_false m2] at hsn hc2
       have HC2 := Aside0.mk hc2
       have HS := Aside0.mk hsn
       clear hsn hc1 hc2 hno m1 m2 hx hrd hCW hjl hlj
       go_wp2_with (fail)
       with_reducible refine (HC1.out).mono ?_
       rintro e w6 ⟨rfl, hb⟩
       have HB6 := Aside0.mk hb
       clear hb
       go_wp2_with (fail)
       with_reducible refine (HC2.out _ HB6.out).mono ?_
       rintro e w7 ⟨rfl, hb⟩
       have HB7 := Aside0.mk (below_step (below_step HW.out HB6.out) hb)
       clear hb
       go_wp2_with (fail)
       go_roundg gk
       case measure => omega
       case rel => exact ⟨j + 1, by first | rfl | go_num, ⟨by have := HJ.out; omega⟩, HS, HB7⟩
  | succ gk =>
   have hi : i < n := by have := HI.out; omega
   have hil : i < l.length := by have := HN.out; omega
   have d1 : decide ((i : Int) < (n : Int)) = true := decide_eq_true (by omega)
   have d2 : decide (i < n) = true := decide_eq_true hi
   have d3 : (i < n) = True := eq_true hi
   have d4 : ((i : Int) < (n : Int)) = True := eq_true (by omega)
   have d5 : (0 ≤ (i : Int)) = True := eq_true (by omega)
   have hCW := Kd.C_below HC.out HB.out
   rw [← HN.out] at hCW
   obtain ⟨ad, rfl, x0, x1⟩ := at_R hCW i hi
   have hvi : hv.take (i + 1) = hv.take i ++ [(atR l i).1] := by
    rw [List.take_succ_eq_append_getElem (by have := HVL.out; omega)]
    congr 2
    simp only [HV.out, List.getElem_map]
    unfold atR
    simp [List.getD, hil]
   obtain ⟨a, ha⟩ : ∃ a, a = (atR l i).1 := ⟨_, rfl⟩
   obtain ⟨b, hb⟩ : ∃ b, b = (atR l i).2 := ⟨_, rfl⟩
   rw [← ha] at x0 hvi
   rw [← hb] at x1
   have HVI := Aside0.mk hvi
   have hlt : (hv.take i).length ≤ 100000 := by rw [List.length_take]; omega
   clear hvi ha hb hCW hil
   go_wp2_with (first
    | ((with_reducible refine gate_builtin (b := .append) (xs := #[.tmp 16, .tmp 19]) rfl ?_); at_builtin; go_must (refine Kd.R_append (W := wr.alloc (.cells #[.int .i64 a, .string b] 28)) (Kd.int .i64) w.heap.size rfl (.tmp 16) (.tmp 19) 24 3 (.int .i64 0) 8 rfl Try.underlying24 info3 rfl (by decide) (by omega) u5 (hv.take i) a [.int .i64 a] (fun k => w.heap.size ≤ k) (fun _ => False) rfl (congrArg (fun k => Value.slice (some ⟨k, 0, none⟩) 1 1) (show wr.heap.size + 1 = (wr.alloc (.cells #[.int .i64 a, .string b] 28)).heap.size by rw [World.size_alloc])) (ki_mkM _ _ _ _) (fun _ hk => hk.elim) ?aF (Kd.R_alloc HR.out _) (below_alloc HB.out _) (below_size (below_alloc HB.out _)) (by omega) ?_); (case aF => exact fun k hk => Nat.le_trans (below_size (below_alloc HB.out _)) hk); intro v5_ w5_ ho_ hb_ hg_ hat_; rw [← HVI.out] at ho_; have HR2 := Aside0.mk ho_; have HB2 := Aside0.mk hb_; clear ho_ hb_ hg_ hat_))
   go_roundg gk
   case measure => omega
   case rel => exact ⟨i + 1, by first | rfl | go_num, ⟨by have := HI.out; omega⟩, HR2, HB2⟩
def rightF : Int → List R2 → Bool
  | _, [] => true
  | a, r :: t => decide (a < r.1) && (decide (r.1 ≤ 2147483647) && (decide (r.2.size ≤ 900) && rightF r.1 t))
def toS45 (r : R2) : PShelfMore.S45 := ⟨r.1, r.2⟩
theorem right_l0 (d : Nat) : ∀ (l : List R2) (a : Int) (i k : Nat), l.length ≤ 1000000 → l.length - i = d → i ≤ l.length → d < k → PShelfMore.shelf_Right.l0 k a (l.map toS45) (l.length : Int) (i : Int) = some (rightF a (l.drop i)) := by
 induction d with
 | zero =>
  intro l a i k hl hd hi hk
  obtain ⟨k, rfl⟩ : ∃ m, k = m + 1 := ⟨k - 1, by omega⟩
  simp only [PShelfMore.shelf_Right.l0]
  rw [if_neg (by omega), List.drop_of_length_le (by omega)]
  rfl
 | succ d ih =>
  intro l a i k hl hd hi hk
  obtain ⟨k, rfl⟩ : ∃ m, k = m + 1 := ⟨k - 1, by omega⟩
  have hi2 : i < l.length := by omega
  have hrd : PShelfMore.rd_T45 (l.map toS45) (i : Int) = toS45 l[i] := by unfold PShelfMore.rd_T45; simp [hi2]
  have h2 := ih l l[i].1 (i + 1) k hl (by omega) (by omega) (by omega)
  simp only [PShelfMore.shelf_Right.l0]
  rw [if_pos (by omega), if_pos (by omega), if_pos (by rw [List.length_map]; omega), hrd, List.drop_eq_getElem_cons hi2]
  rw [show wrap64 ((i : Int) + 1) = ((i + 1 : Nat) : Int) from by unfold wrap64; omega]
  change (if l[i].1 ≤ a then some false else if l[i].1 > 2147483647 then some false else if (l[i].2.size : Int) > 900 then some false else PShelfMore.shelf_Right.l0 k l[i].1 (l.map toS45) (l.length : Int) ((i + 1 : Nat) : Int)) = some (decide (a < l[i].1) && (decide (l[i].1 ≤ 2147483647) && (decide (l[i].2.size ≤ 900) && rightF l[i].1 (l.drop (i + 1)))))
  rw [h2]
  by_cases c1 : l[i].1 ≤ a
  ·rw [if_pos c1, decide_eq_false (by omega)]; rfl
  ·rw [if_neg c1, decide_eq_true (by omega)]
   by_cases c2 : l[i].1 > 2147483647
   ·rw [if_pos c2, decide_eq_false (by omega)]; rfl
   ·rw [if_neg c2, decide_eq_true (by omega)]
    by_cases c3 : (l[i].2.size : Int) > 900
    ·rw [if_pos c3, decide_eq_false (by omega)]; rfl
    ·rw [if_neg c3, decide_eq_true (by omega)]; rfl
theorem rightF_f (l : List R2) (hl : l.length ≤ 1000000) : PShelfMore.shelf_Right.f (l.length + 1) (l.map toS45) = some (rightF (-1) l) := by
  unfold PShelfMore.shelf_Right.f
  rw [List.length_map]
  exact right_l0 l.length l (-1) 0 (l.length + 1) hl (by omega) (by omega) (by omega)
theorem map_S45 (l : List R2) : (l.map toS45).map (fun x : PShelfMore.S45 => (x.f0, x.f1)) = l := by
  rw [List.map_map]
  conv => rhs; rw [← List.map_id l]
  rfl
theorem C_S45 {w : World} {A : Option Addr} {n : Nat} {l : List R2} (h : Kd.C kR w A n l) : Kd.C PShelfMore.k45 w A n (l.map toS45) :=
  C_iso_mk (f := fun x : PShelfMore.S45 => (x.f0, x.f1)) (by rw [map_S45]; exact h)
theorem right_any (A : Option Addr) (c : Nat) (l : List R2) (w : World) (h : Kd.C kR w A l.length l) (hc : l.length ≤ c) (hl : l.length ≤ 1000000) :
  Calls Try.prog 18 #[.slice A l.length c] w fun e w' => e = .returned (.bool (rightF (-1) l)) ∧ Below w.heap.size w w' := by
 have := PShelfMore.shelf_Right.calls (l.length + 1) A c (l.map toS45) _ w (by rw [List.length_map]; exact C_S45 h) (by rw [List.length_map]; exact hc) (rightF_f l hl)
 rw [List.length_map] at this
 exact this
def cellE (r : R2) (p : Int) : C4 := if r.2.size ≤ 24 then (r.1, (r.2.size : Int), 0, r.2) else (r.1, (r.2.size : Int), p, ⟨#[]⟩)
theorem cell_any (r : R2) (p : Int) (w : World) : Calls Try.prog 27 #[.agg #[.int .i64 r.1, .string r.2], .int .i64 p] w fun e w' => e = .returned (.agg #[.int .i64 (cellE r p).1, .int .i64 (cellE r p).2.1, .int .i64 (cellE r p).2.2.1, .string (cellE r p).2.2.2]) ∧ Below w.heap.size w w' :=
 PShelfMore.shelf_cell.calls r.1 r.2 p _ _ _ _ w (by
  unfold PShelfMore.shelf_cell.f cellE
  by_cases h : r.2.size ≤ 24
  ·rw [if_pos (by omega), if_pos h]
  ·rw [if_neg (by omega), if_neg h])
def knS (k : ByteArray → Option Int) (x : R2) : ByteArray → Option Int := match k x.2 with | some _ => k | none => upd k x.2 x.1
def knF (l : List R2) : ByteArray → Option Int := l.foldl knS (fun _ => none)
def chainsF : List R2 → PS → List C4 × PS
  | [], S => ([], S)
  | r :: t, S => if 24 < r.2.size then (cellE r (chainF (pieces r.2) S).1 :: (chainsF t (chainF (pieces r.2) S).2).1, (chainsF t (chainF (pieces r.2) S).2).2) else (cellE r 2 :: (chainsF t S).1, (chainsF t S).2)
def slotsF : List (List C4) → PS → List S2 × PS
  | [], S => ([], S)
  | x :: t, S => if S.e = 0 then (((atC x 0).1, putN S (leafE x).1 (leafE x).2) :: (slotsF t (putS S (leafE x).1 (leafE x).2)).1, (slotsF t (putS S (leafE x).1 (leafE x).2)).2) else slotsF t S
def planS (l hv : List R2) (fr : List Int) : PS := (chainsF l ⟨knF hv, fr, [], 0⟩).2
def planC (l hv : List R2) (fr : List Int) : List C4 := (chainsF l ⟨knF hv, fr, [], 0⟩).1
def planT (l hv : List R2) (fr : List Int) : List S2 × PS := slotsF (lvs [] (planC l hv fr)) (planS l hv fr)
def planZ (l hv : List R2) (fr : List Int) : Int × PS := (putN (planT l hv fr).2 (indexE (planT l hv fr).1).1 (indexE (planT l hv fr).1).2, putS (planT l hv fr).2 (indexE (planT l hv fr).1).1 (indexE (planT l hv fr).1).2)
def planE (l hv : List R2) (fr : List Int) : List R2 × Int × Int :=
  if (rightF (-1) l && mayE (hv.map (·.1)) fr) = true then
    (if 21 < (lvs [] (l.map (cellE · 2))).length then ([], 0, 12)
     else if (planZ l hv fr).2.e = 0 then ((planZ l hv fr).2.out, (planZ l hv fr).1, 0) else ([], 0, (planZ l hv fr).2.e))
  else ([], 0, 9)
theorem piecesF_len (n : Nat) : ∀ b : ByteArray, (piecesF n b).length * 120 ≤ b.size + 119 := by
 induction n with
 | zero => intro b; simp [piecesF]
 | succ n ih =>
  intro b
  unfold piecesF
  split
  ·simp
  ·rw [List.length_cons]
   have := ih (b.extract (min b.size 120) b.size)
   rw [ByteArray.size_extract] at this
   omega
theorem rightF_mem : ∀ (l : List R2) (a : Int), -1 ≤ a → rightF a l = true → ∀ r ∈ l, -1 < r.1 ∧ r.1 ≤ 2147483647 ∧ r.2.size ≤ 900
 | [], _, _, _, r, h => by cases h
 | x :: t, a, ha, h, r, hm => by
  unfold rightF at h
  simp only [Bool.and_eq_true, decide_eq_true_eq] at h
  obtain ⟨h1, h2, h3, h4⟩ := h
  rcases List.mem_cons.1 hm with rfl | hm
  ·exact ⟨by omega, h2, h3⟩
  ·exact rightF_mem t x.1 (by omega) h4 r hm
def PgOk (S : PS) : Prop := (∀ b n, S.known b = some n → okP n = true) ∧ ∀ n ∈ S.free, okP n = true
theorem putS_pg {S : PS} (h : PgOk S) (b : ByteArray) (is : Bool) : PgOk (putS S b is) := by
 unfold putS
 split
 ·split
  ·split
   ·exact h
   ·split
    ·exact h
    ·rename_i n fr hf
     refine ⟨fun b2 m hm => ?_, fun m hm => h.2 m (by rw [hf]; exact List.mem_cons_of_mem _ hm)⟩
     by_cases e : b2 = b
     ·change upd S.known b n b2 = some m at hm
      rw [e, upd_same] at hm
      injection hm with hm
      rw [← hm]; exact h.2 n (by rw [hf]; exact List.mem_cons_self)
     ·change upd S.known b n b2 = some m at hm
      rw [upd_ne _ _ e] at hm
      exact h.1 _ _ hm
  ·exact h
 ·exact h
theorem putS_e {S : PS} {b : ByteArray} {is : Bool} (h : (putS S b is).e = 0) : S.e = 0 := by
  by_cases e : S.e = 0
  · exact e
  · unfold putS at h; rw [if_neg e] at h; exact h
theorem putN_pg {S : PS} (h : PgOk S) (b : ByteArray) (is : Bool) (he : (putS S b is).e = 0) : okP (putN S b is) = true := by
 have h0 := putS_e he
 unfold putS at he
 unfold putN
 rw [if_pos h0] at he ⊢
 cases is with
 | false => exact absurd he (by show ¬ ((9 : Int) = 0); decide)
 | true =>
  rw [if_pos rfl] at he ⊢
  cases hn : S.known b with
  | some n => exact h.1 _ _ hn
  | none =>
   rw [hn] at he
   cases hf : S.free with
   | nil => rw [hf] at he; exact absurd he (by show ¬ ((8 : Int) = 0); decide)
   | cons n fr => exact h.2 n (by rw [hf]; exact List.mem_cons_self)
theorem chainF_pg (l : List ByteArray) {S : PS} (h : PgOk S) : PgOk (chainF l S).2 := by
  induction l with
  | nil => exact h
  | cons x l ih => rw [chainF_cons]; exact putS_pg ih _ _
theorem chainF_e {l : List ByteArray} {S : PS} (h : (chainF l S).2.e = 0) : S.e = 0 := by
  induction l with
  | nil => exact h
  | cons x l ih => rw [chainF_cons] at h; exact ih (putS_e h)
theorem chainsF_e : ∀ {l : List R2} {S : PS}, (chainsF l S).2.e = 0 → S.e = 0
 | [], S, h => h
 | r :: t, S, h => by
  unfold chainsF at h
  split at h
  ·exact chainF_e (chainsF_e h)
  ·exact chainsF_e h
theorem slotsF_e : ∀ {l : List (List C4)} {S : PS}, (slotsF l S).2.e = 0 → S.e = 0
 | [], S, h => h
 | r :: t, S, h => by
  by_cases e : S.e = 0
  ·exact e
  ·unfold slotsF at h; rw [if_neg e] at h; exact slotsF_e h
theorem chainsF_out : ∀ (l : List R2) (S : PS), (∀ r ∈ l, r.2.size ≤ 900) → (chainsF l S).2.out.length ≤ S.out.length + 8 * l.length
 | [], S, _ => by simp [chainsF]
 | r :: t, S, h => by
  have h1 := h r List.mem_cons_self
  have h2 := piecesF_len r.2.size r.2
  have h3 := chainF_out (pieces r.2) S
  unfold pieces at h3
  unfold chainsF
  rw [List.length_cons]
  split
  ·have := chainsF_out t (chainF (pieces r.2) S).2 (fun x hx => h x (List.mem_cons_of_mem _ hx))
   unfold pieces at this ⊢
   show (chainsF t (chainF (piecesF r.2.size r.2) S).2).2.out.length ≤ _
   omega
  ·have := chainsF_out t S (fun x hx => h x (List.mem_cons_of_mem _ hx))
   show (chainsF t S).2.out.length ≤ _
   omega
theorem chainsF_length : ∀ (l : List R2) (S : PS), (chainsF l S).1.length = l.length
 | [], _ => rfl
 | r :: t, S => by
  unfold chainsF
  split <;> simp [chainsF_length t]
theorem slotsF_out : ∀ (l : List (List C4)) (S : PS), (slotsF l S).2.out.length ≤ S.out.length + l.length
 | [], S => Nat.le_refl _
 | x :: t, S => by
  unfold slotsF
  rw [List.length_cons]
  split
  ·have := slotsF_out t (putS S (leafE x).1 (leafE x).2)
   have := putS_out S (leafE x).1 (leafE x).2
   show (slotsF t (putS S (leafE x).1 (leafE x).2)).2.out.length ≤ _
   omega
  ·have := slotsF_out t S; omega
def cellOk (x : C4) : Prop := okK x.1 (-1) = true ∧ okR x.2.1 x.2.2.1 x.2.2.2 = true
theorem cellE_ok {r : R2} {p : Int} (h1 : -1 < r.1) (h2 : r.1 ≤ 2147483647) (h3 : r.2.size ≤ 900) (hp : 24 < r.2.size → okP p = true) : cellOk (cellE r p) := by
 unfold cellOk cellE
 by_cases h : r.2.size ≤ 24
 ·rw [if_pos h]
  refine ⟨by unfold okK; simp; omega, ?_⟩
  unfold okR
  rw [if_pos (show (r.2.size : Int) ≤ 24 by omega)]
  simp
 ·rw [if_neg h]
  refine ⟨by unfold okK; simp; omega, ?_⟩
  unfold okR
  rw [if_neg (show ¬ (r.2.size : Int) ≤ 24 by omega), hp (by omega)]
  simp; omega
theorem chainsF_ok : ∀ (l : List R2) (S : PS), PgOk S → (∀ r ∈ l, -1 < r.1 ∧ r.1 ≤ 2147483647 ∧ r.2.size ≤ 900) → (chainsF l S).2.e = 0 → ∀ x ∈ (chainsF l S).1, cellOk x
 | [], S, _, _, _, x, hx => by cases hx
 | r :: t, S, hS, h, he, x, hx => by
  have h1 := h r List.mem_cons_self
  have ht : ∀ y ∈ t, -1 < y.1 ∧ y.1 ≤ 2147483647 ∧ y.2.size ≤ 900 := fun y hy => h y (List.mem_cons_of_mem _ hy)
  unfold chainsF at he hx
  split at he
  ·rename_i h24
   rw [if_pos h24] at hx
   rcases List.mem_cons.1 hx with rfl | hx
   ·refine cellE_ok h1.1 h1.2.1 h1.2.2 (fun _ => ?_)
    have he2 := chainsF_e he
    cases hp : pieces r.2 with
    | nil =>
     have h5 := piecesF_len r.2.size r.2
     unfold pieces at hp
     exfalso
     obtain ⟨k, hk⟩ : ∃ k, r.2.size = k + 1 := ⟨r.2.size - 1, by omega⟩
     rw [hk] at hp
     unfold piecesF at hp
     rw [if_neg (by omega)] at hp
     cases hp
    | cons y ys =>
     rw [hp, chainF_cons] at he2
     rw [chainF_cons]
     exact putN_pg (chainF_pg ys hS) _ _ he2
   ·exact chainsF_ok t _ (chainF_pg _ hS) ht he x hx
  ·rename_i h24
   rw [if_neg h24] at hx
   rcases List.mem_cons.1 hx with rfl | hx
   ·exact cellE_ok h1.1 h1.2.1 h1.2.2 (fun h => absurd h h24)
   ·exact chainsF_ok t _ hS ht he x hx
theorem leaf_one {x : C4} (h : cellOk x) : (leafE [x]).2 = true := by
 unfold leafE lfA
 have hv : lfV (fun i => (atC [x] i.toNat).1) (fun i => (atC [x] i.toNat).2.1) (fun i => (atC [x] i.toNat).2.2.1) (fun i => (atC [x] i.toNat).2.2.2) [x].length = true := by
  unfold lfV
  rw [all_at]
  intro j hj
  have : j = 0 := by simpa using hj
  subst this
  show (okK x.1 (-1) && okR x.2.1 x.2.2.1 x.2.2.2) = true
  rw [h.1, h.2]; rfl
 rw [if_pos (by simp), if_pos hv]
 unfold fullA
 rw [if_pos]
 rw [strOfNums_size]
 have h2 := okR_size h.2
 have hb : lfB (fun i => (atC [x] i.toNat).1) (fun i => (atC [x] i.toNat).2.1) (fun i => (atC [x] i.toNat).2.2.1) (fun i => (atC [x] i.toNat).2.2.2) [x].length [x].length = [76, 1 % 256] ++ (byL x.1 4 4 ++ (byL x.2.1 2 2 ++ (bytesOf x.2.2.2 ++ lfT x.2.1 x.2.2.1))) := by
  unfold lfB
  show _ ++ (List.flatten [_]) = _
  rw [List.flatten_cons, List.flatten_nil, List.append_nil]
  rfl
 rw [hb]
 simp only [List.length_append, byL_length, bytesOf_len, List.length_cons, List.length_nil]
 have := lfT_length x.2.1 x.2.2.1
 omega
theorem lvs_full : ∀ (r cur : List C4), (∀ x ∈ r, cellOk x) → ∀ y ∈ lvs cur r, y ≠ []
 | [], cur, _, y, hy => by
  unfold lvs at hy
  cases cur with
  | nil => cases hy
  | cons a t => rw [List.mem_singleton] at hy; rw [hy]; exact List.cons_ne_nil _ _
 | c :: r, cur, h, y, hy => by
  unfold lvs at hy
  have hr : ∀ x ∈ r, cellOk x := fun x hx => h x (List.mem_cons_of_mem _ hx)
  split at hy
  ·exact lvs_full r _ hr y hy
  ·rename_i hn
   rcases List.mem_cons.1 hy with rfl | hy
   ·rintro rfl
    exact hn (leaf_one (h c List.mem_cons_self))
   ·exact lvs_full r _ hr y hy
theorem knF_pg {l : List R2} (h : ∀ x ∈ l, okP x.1 = true) : ∀ b n, knF l b = some n → okP n = true := by
 unfold knF
 suffices H : ∀ (l : List R2) (k : ByteArray → Option Int), (∀ x ∈ l, okP x.1 = true) → (∀ b n, k b = some n → okP n = true) → ∀ b n, l.foldl knS k b = some n → okP n = true from H l _ h (fun _ _ h => by cases h)
 intro l
 induction l with
 | nil => intro k _ h; exact h
 | cons x t ih =>
  intro k hl hk
  refine ih _ (fun y hy => hl y (List.mem_cons_of_mem _ hy)) ?_
  intro b n hb
  unfold knS at hb
  cases hx : k x.2 with
  | some m => rw [hx] at hb; exact hk _ _ hb
  | none =>
   rw [hx] at hb
   change upd k x.2 x.1 b = some n at hb
   by_cases e : b = x.2
   ·rw [e, upd_same] at hb; injection hb with hb; rw [← hb]; exact hl x List.mem_cons_self
   ·rw [upd_ne _ _ e] at hb; exact hk _ _ hb
theorem mayE_pg {hv fr : List Int} (h : mayE hv fr = true) : (∀ x ∈ hv, okP x = true) ∧ ∀ x ∈ fr, okP x = true := by
 unfold mayE at h
 rw [Bool.and_eq_true, Bool.not_eq_true'] at h
 have h2 : ∀ x ∈ hv ++ fr, badP x = false := by
  intro x hx
  cases hb : badP x with
  | false => rfl
  | true => exact absurd (List.any_eq_true.2 ⟨x, hx, hb⟩) (by rw [h.2]; decide)
 have h3 : ∀ x ∈ hv ++ fr, okP x = true := fun x hx => by
  have := h2 x hx
  unfold badP at this
  unfold okP
  simp at this ⊢
  omega
 exact ⟨fun x hx => h3 x (List.mem_append_left _ hx), fun x hx => h3 x (List.mem_append_right _ hx)⟩
def K61 (w w1 : World) : Prop := ∀ (k : Nat) (c : Array Value), w.heap[k]? = some (Obj.cells c 61 (0, 0)) → w1.heap[k]? = some (Obj.cells c 61 (0, 0))
theorem K61.refl (w : World) : K61 w w := fun _ _ h => h
theorem K61.trans {a b c : World} (h : K61 a b) (h2 : K61 b c) : K61 a c := fun k x hk => h2 k x (h k x hk)
theorem K61.below {w w1 : World} (h : Below w.heap.size w w1) : K61 w w1 := fun k c hk => (h.block k (blk_lt hk)).trans hk
theorem K61.kw {w w1 : World} {g : Nat} {cs : Array Value} (h : Kw w w1 g) (hg : w.heap[g]? = some (.cells cs 68 (0, 0))) : K61 w w1 := fun k c hk => h.2 k c 61 (by decide) (by
  rintro rfl; rw [hg] at hk; injection hk with hk; injection hk with _ hk; exact absurd hk (by decide)) hk
theorem K61.row {α : Type} {d : Kd α} {e b : Nat} {w w1 : World} {ok : Nat → Prop} {v : Value} {xs : List α} (hr : d.R e w b ok v xs) (he : e ≠ 61) (hg : w.grownBy w1 v.ownBlock) : K61 w w1 := fun k c hk => (hg.block k (blk_lt hk) (Kd.R_ne hr hk he)).trans hk
theorem C_mv {α : Type} {d : Kd α} {w w' : World} (hK : ∀ x c, d.K w x c → d.K w' x c) (hm : ∀ a u, w.cell? a = some u → w'.cell? a = some u) {A : Option Addr} {n : Nat} {xs : List α} (h : Kd.C d w A n xs) : Kd.C d w' A n xs := by
  obtain ⟨h1, h2, h3⟩ := h
  refine ⟨h1, h2, fun hp => ?_⟩
  obtain ⟨ad, e, hc⟩ := h3 hp
  refine ⟨ad, e, fun j p hj => ?_⟩
  obtain ⟨c, k1, k2, k3⟩ := hc j p hj
  exact ⟨c, k1, hK _ _ k2, fun i u hu => hm _ _ (k3 i u hu)⟩
theorem kC_all (w w' : World) (x : C4) (c : List Value) (h : kC.K w x c) : kC.K w' x c := by
  obtain rfl := kC_open h
  exact kC_mk w' x
theorem cell_blk {w w' : World} {a : Addr} (h : w'.heap[a.block]? = w.heap[a.block]?) : w'.cell? a = w.cell? a := by
  unfold World.cell?
  rw [h]
def onlyW (w : World) (b : Nat) (o : Obj) : World := { w with heap := (Array.replicate b (Obj.cells #[] 0 (0, 0))).push o }
theorem onlyW_at (w : World) (b : Nat) (o : Obj) : (onlyW w b o).heap[b]? = some o := by
  unfold onlyW
  simp only [Array.getElem?_push, Array.size_replicate, if_pos]
theorem onlyW_blk {w : World} {b : Nat} {o : Obj} {a : Addr} {u : Value} (h : (onlyW w b o).cell? a = some u) : a.block = b := by
 rcases Nat.lt_trichotomy a.block b with h1 | h1 | h1
 ·exfalso
  have : (onlyW w b o).heap[a.block]? = some (Obj.cells #[] 0 (0, 0)) := by
   unfold onlyW
   simp [Array.getElem?_push, h1]; omega
  unfold World.cell? at h
  rw [this] at h
  simp at h
 ·exact h1
 ·exfalso
  have : (onlyW w b o).heap[a.block]? = none := by
   unfold onlyW
   simp; omega
  unfold World.cell? at h
  rw [this] at h
  cases h
theorem cells_only {w : World} {base : Nat} {ok : Nat → Prop} {v : Value} {xs : List C4} (h : kC.R 61 w base ok v xs) : ∃ A c Wf, v = .slice A xs.length c ∧ xs.length ≤ c ∧ Kd.C kC w A xs.length xs ∧ Kd.C kC Wf A xs.length xs ∧ ∀ w1, K61 w w1 → ∀ a u, Wf.cell? a = some u → w1.cell? a = some u := by
 obtain ⟨A, c, rfl, hc, hC⟩ := Kd.R_reads h
 by_cases hp : 0 < xs.length
 ·obtain ⟨g, cap, e, _, _, cells, hb⟩ := Kd.R_form h hp
  injection e with e1 e2 e3
  subst e1 e3
  refine ⟨_, _, onlyW w g (Obj.cells cells 61 (0, 0)), rfl, hc, hC, ?_, fun w1 hk a u hu => ?_⟩
  ·obtain ⟨h1, h2, h3⟩ := hC
   refine ⟨h1, h2, fun hp => ?_⟩
   obtain ⟨ad, e, hcc⟩ := h3 hp
   injection e with e
   subst e
   refine ⟨_, rfl, fun j p hj => ?_⟩
   obtain ⟨c, k1, k2, k3⟩ := hcc j p hj
   exact ⟨c, k1, kC_all _ _ _ _ k2, fun i u hu => by
    rw [cell_blk (w := w)]
    ·exact k3 i u hu
    ·rw [show ((⟨g, 0, none⟩ : Addr).add (j * kC.sz + i)).block = g from by unfold Addr.add; split <;> rfl, onlyW_at, hb]⟩
  ·have := onlyW_blk hu
   rw [cell_blk (w := onlyW w g (Obj.cells cells 61 (0, 0)))]
   ·exact hu
   ·rw [this, hk g cells hb, onlyW_at]
 ·refine ⟨_, _, { w with heap := #[] }, rfl, hc, hC, ⟨rfl, hC.2.1, fun h => absurd h hp⟩, fun w1 _ a u hu => ?_⟩
  unfold World.cell? at hu
  simp at hu
theorem R_map {α : Type} {d : Kd α} {e b m : Nat} {w w1 : World} {ok : Nat → Prop} {v : Value} {xs : List α} {f : ByteArray → Option Int} (h : d.R e w b ok v xs) (hm : IsKn w m f) (hg : w.grownBy w1 (some m)) : d.R e w1 b ok v xs :=
 Kd.R_mono (Kd.R_grown (ok := fun k => ok k ∧ k ≠ m) (Kd.R_mono (Kd.R_bound h) (fun k hk => ⟨hk.1, fun e => by
  obtain ⟨_, _, _, q, hq, cells, hc⟩ := hk
  obtain ⟨es, cl, h1, _⟩ := hm
  rw [e, h1] at hc; cases hc⟩)) hg (fun k hk e => hk.2 (by injection e))) (fun _ h => h.1)
theorem IsPlan.mapped {w0 w w1 : World} {g m : Nat} {S : PS} {k : ByteArray → Option Int} (h : IsPlan w0 w g m S) (hm : IsKn w1 m k) (hg : w.grownBy w1 (some m)) : IsPlan w0 w1 g m { S with known := k } := by
  obtain ⟨A, c, v, h1, h2, h3, h4, h5, h6, h7, h8⟩ := h
  have hgm : some g ≠ some m := fun e => map_ne h4 h1 (by injection e with e; exact e.symm)
  exact ⟨A, c, v, (hg.block g (blk_lt h1) hgm).trans h1, h2, h3, hm, h5, h6, R_map h7 h4 hg, pw_below_grown h8 _ h8.size hg (by rintro k e; injection e with e; rw [← e]; exact h3)⟩
theorem IsPlan.kn {w0 w : World} {g m : Nat} {S : PS} (h : IsPlan w0 w g m S) : IsKn w m S.known := by
  obtain ⟨A, c, v, h1, h2, h3, h4, h5, h6, h7, h8⟩ := h
  exact h4
theorem IsPlan.cells {w0 w : World} {g m : Nat} {S : PS} (h : IsPlan w0 w g m S) : ∃ A c v, w.cell? ⟨g, 0, none⟩ = some (.map (some m)) ∧ w.cell? ⟨g, 1, none⟩ = some (.slice A S.free.length c) ∧ w.cell? ⟨g, 2, none⟩ = some v ∧ w.cell? ⟨g, 3, none⟩ = some (.int .i64 S.e) ∧ kR.R 28 w w0.heap.size (fun _ => True) v S.out := by
  obtain ⟨A, c, v, h1, h2, h3, h4, h5, h6, h7, h8⟩ := h
  obtain ⟨c0, c1, c2, c3⟩ := cell68 h1
  exact ⟨A, c, v, c0, c1, c2, c3, h7⟩
theorem slotsF_cons (x : List C4) (t : List (List C4)) (S : PS) : slotsF (x :: t) S = if S.e = 0 then (((atC x 0).1, putN S (leafE x).1 (leafE x).2) :: (slotsF t (putS S (leafE x).1 (leafE x).2)).1, (slotsF t (putS S (leafE x).1 (leafE x).2)).2) else slotsF t S := rfl
theorem chainsF_cons (r : R2) (t : List R2) (S : PS) : chainsF (r :: t) S = if 24 < r.2.size then (cellE r (chainF (pieces r.2) S).1 :: (chainsF t (chainF (pieces r.2) S).2).1, (chainsF t (chainF (pieces r.2) S).2).2) else (cellE r 2 :: (chainsF t S).1, (chainsF t S).2) := rfl
theorem addr0 (g k : Nat) : (⟨g, 0, none⟩ : Addr).add k = ⟨g, k, none⟩ := by
  unfold Addr.add
  split <;> simp_all
set_option maxHeartbeats 16000000 in
set_option maxRecDepth 100000 in
theorem plan_any (w : World) (A : Option Addr) (c : Nat) (l : List R2) (B : Option Addr) (d : Nat) (hv : List R2) (D : Option Addr) (f : Nat) (fr : List Int)
    (h : Kd.C kR w A l.length l) (hc : l.length ≤ c) (hl : l.length ≤ 9000)
    (h2 : Kd.C kR w B hv.length hv) (hd : hv.length ≤ d) (hl2 : hv.length ≤ 10000) (hw2 : ∀ x ∈ hv, wfS x.2)
    (h3 : Kd.C (Kd.int .i64) w D fr.length fr) (hf : fr.length ≤ f) (hl3 : fr.length ≤ 10000) :
    Calls Try.prog 12 #[.slice A l.length c, .slice B hv.length d, .slice D fr.length f] w fun e w' => ∃ v, e = .returned (.tuple #[v, .int .i64 (planE l hv fr).2.1, .int .i64 (planE l hv fr).2.2]) ∧ kR.R 28 w' w.heap.size (fun _ => True) v (planE l hv fr).1 ∧ Below w.heap.size w w' := by
  have HA := Aside0.mk h
  have HB := Aside0.mk h2
  have HD := Aside0.mk h3
  have HAC := Aside0.mk hc
  have HBC := Aside0.mk hd
  have HDC := Aside0.mk hf
  have HW2 := Aside0.mk hw2
  have HR := Aside0.mk (right_any A c l w h hc (by omega))
  have HM := Aside0.mk (fun (W : World) (hb : Below w.heap.size w W) => may_any W B d hv D f fr (Kd.C_below h2 hb) hd (by omega) (Kd.C_below h3 hb) hf (by omega))
  obtain ⟨rt, hrt⟩ : ∃ r, r = rightF (-1) l := ⟨_, rfl⟩
  obtain ⟨my, hmy⟩ : ∃ r, r = mayE (hv.map (·.1)) fr := ⟨_, rfl⟩
  obtain ⟨res, hres⟩ : ∃ r, r = planE l hv fr := ⟨_, rfl⟩
  obtain ⟨n, hn⟩ : ∃ n, n = l.length := ⟨_, rfl⟩
  obtain ⟨p, hp⟩ : ∃ p, p = hv.length := ⟨_, rfl⟩
  obtain ⟨q, hq⟩ : ∃ q, q = fr.length := ⟨_, rfl⟩
  have HN := Aside0.mk hn
  have HP := Aside0.mk hp
  have HQ := Aside0.mk hq
  have HRT := Aside0.mk hrt
  have HMY := Aside0.mk hmy
  have HRES := Aside0.mk hres
  have hmm := @run_makeMap Try.prog
  rw [← hrt, ← hn] at HR
  rw [← hmy, ← hp, ← hq] at HM
  rw [← hres, ← hn, ← hp, ← hq]
  rw [← hn] at hl
  rw [← hp] at hl2
  rw [← hq] at hl3
  clear h hc h2 hd h3 hf hw2 hrt hmy hres hn hp hq
  cases rt with
  | false =>
    have HE := Aside0.mk (show res = ([], 0, 9) by rw [HRES.out]; unfold planE; rw [← HRT.out]; rfl)
    go_enter Try.func12, Try.ntmps12
    go_wp2_with (fail)
    with_reducible refine (HR.out).mono ?_
    rintro e w1 ⟨rfl, hb1⟩
    have HB1 := Aside0.mk hb1
    clear hb1
    go_wp2_with (fail)
    go_ret3
    exact ⟨_, by rw [HE.out]; rfl, by rw [HE.out]; exact Kd.R_nil _ _ _ _ _, HB1.out⟩
  | true =>
    cases my with
    | false =>
      have HE := Aside0.mk (show res = ([], 0, 9) by rw [HRES.out]; unfold planE; rw [← HRT.out, ← HMY.out]; rfl)
      go_enter Try.func12, Try.ntmps12
      go_wp2_with (fail)
      with_reducible refine (HR.out).mono ?_
      rintro e w1 ⟨rfl, hb1⟩
      have HB1 := Aside0.mk hb1
      clear hb1
      go_wp2_with (fail)
      with_reducible refine (HM.out _ HB1.out).mono ?_
      rintro e w2 ⟨rfl, hb2⟩
      have HB2 := Aside0.mk (below_step HB1.out hb2)
      clear hb2
      go_wp2_with (fail)
      go_ret3
      exact ⟨_, by rw [HE.out]; rfl, by rw [HE.out]; exact Kd.R_nil _ _ _ _ _, HB2.out⟩
    | true =>
      have HPL := Aside0.mk (show planE l hv fr = (if 21 < (lvs [] (l.map (cellE · 2))).length then ([], 0, 12)
     else if (planZ l hv fr).2.e = 0 then ((planZ l hv fr).2.out, (planZ l hv fr).1, 0) else ([], 0, (planZ l hv fr).2.e)) by unfold planE; rw [← HRT.out, ← HMY.out]; rfl)
      go_enter Try.func12, Try.ntmps12
      go_wp2_with (fail)
      with_reducible refine (HR.out).mono ?_
      rintro e w1 ⟨rfl, hb1⟩
      have HB1 := Aside0.mk hb1
      clear hb1
      go_wp2_with (fail)
      with_reducible refine (HM.out _ HB1.out).mono ?_
      rintro e w2 ⟨rfl, hb2⟩
      have HB2 := Aside0.mk (below_step HB1.out hb2)
      clear hb2
      clear HR HM HB1
      go_wp2_with (fail)
      go_loopg [9, 34] n (fun kx v9 v34 wr => ∃ i : Nat, v34 = .int .i64 i ∧ Aside0 (i + kx = n) ∧ Aside0 (kC.R 61 wr w.heap.size (fun k => w.heap.size ≤ k) v9 ((l.take i).map (cellE · 2))) ∧ Aside0 (Below w.heap.size w wr))
      case atStart => exact ⟨0, rfl, ⟨by omega⟩, ⟨Kd.R_nil _ _ _ _ _⟩, HB2⟩
      case round =>
        clear HB2
        obtain ⟨i, rfl, HI, HR, HBR⟩ := hrel
        cases gk with
        | succ gk =>
          have hi : i < n := by have := HI.out; omega
          have hil : i < l.length := by have := HN.out; omega
          have d1 : decide ((i : Int) < (n : Int)) = true := decide_eq_true (by omega)
          have d2 : decide (i < n) = true := decide_eq_true hi
          have d3 : (i < n) = True := eq_true hi
          have d4 : ((i : Int) < (n : Int)) = True := eq_true (by omega)
          have d5 : (0 ≤ (i : Int)) = True := eq_true (by omega)
          have hCW := Kd.C_below HA.out HBR.out
          rw [← HN.out] at hCW
          obtain ⟨ad, rfl, x0, x1⟩ := at_R hCW i hi
          have hvi : (l.take (i + 1)).map (cellE · 2) = (l.take i).map (cellE · 2) ++ [cellE (atR l i) 2] := by
            rw [List.take_succ_eq_append_getElem hil, List.map_append]
            congr 2
            unfold atR
            simp [List.getD, hil]
          have hcell := fun W => cell_any (atR l i) 2 W
          obtain ⟨a, ha⟩ : ∃ a, a = (atR l i).1 := ⟨_, rfl⟩
          obtain ⟨b, hb⟩ : ∃ b, b = (atR l i).2 := ⟨_, rfl⟩
          obtain ⟨ce, hce⟩ : ∃ ce, ce = cellE (atR l i) 2 := ⟨_, rfl⟩
          rw [← hce] at hvi
          rw [← hce, ← ha, ← hb] at hcell
          rw [← ha] at x0
          rw [← hb] at x1
          have HVI := Aside0.mk hvi
          have HCE := Aside0.mk hcell
          have hlt : ((l.take i).map (cellE · 2)).length ≤ 10000 := by rw [List.length_map, List.length_take]; omega
          have HBA := Aside0.mk (show Below w.heap.size w (wr.alloc (.cells #[.int .i64 a, .string b] 45)) from below_alloc HBR.out _)
          have HRA := Aside0.mk (Kd.R_alloc HR.out (.cells #[.int .i64 a, .string b] 45))
          clear hvi hcell ha hb hce hCW hil
          go_wp2_with (fail)
          with_reducible refine (HCE.out _).mono ?_
          rintro e w3 ⟨rfl, hb3⟩
          have HB3 := Aside0.mk (below_step HBA.out hb3)
          have HR3 := Aside0.mk (Kd.R_below HRA.out hb3)
          clear hb3 HBA HRA
          go_wp2_with (first
            | ((with_reducible refine gate_builtin (b := .append) (xs := #[.tmp 38, .tmp 41]) rfl ?_); at_builtin; go_must (refine Kd.R_append kC w.heap.size rfl (.tmp 38) (.tmp 41) 59 61 (.agg #[(.int .i64 0), (.int .i64 0), (.int .i64 0), (.string ⟨#[]⟩)]) 40 rfl Try.underlying59 info61 rfl (by decide) (by omega) u9 ((l.take i).map (cellE · 2)) ce [.int .i64 ce.1, .int .i64 ce.2.1, .int .i64 ce.2.2.1, .string ce.2.2.2] (fun k => w.heap.size ≤ k) (fun _ => False) rfl rfl (kC_mkM _ _ _ ce) (fun _ hk => hk.elim) ?aF HR3.out HB3.out HB3.out.size (by omega) ?_); (case aF => exact fun k hk => Nat.le_trans HB3.out.size hk); intro v5_ w5_ ho_ hb_ hg_ hat_; rw [← HVI.out] at ho_; have HR5 := Aside0.mk ho_; have HB5 := Aside0.mk hb_; clear ho_ hb_ hg_ hat_))
          go_roundg gk
          case measure => omega
          case rel => exact ⟨i + 1, by first | rfl | go_num, ⟨by have := HI.out; omega⟩, HR5, HB5⟩
        | zero =>
          have hi : n = i := by have := HI.out; omega
          subst hi
          have d1 : decide ((n : Int) < (n : Int)) = false := decide_eq_false (by omega)
          have d2 : decide (n < n) = false := decide_eq_false (by omega)
          have hR := HR.out
          rw [List.take_of_length_le (by have := HN.out; omega)] at hR
          obtain ⟨A1, c1, Wf0, rfl, hc1, hC1, hWf, _⟩ := cells_only hR
          have hll : (l.map (cellE · 2)).length = n := by rw [List.length_map, HN.out]
          have hle := leaves_any wr Wf0 A1 c1 _ hC1 hWf hc1 (by omega)
          rw [hll] at hle hR
          have HR1 := Aside0.mk hR
          have HLE := Aside0.mk hle
          have hlv := lvs_length (l.map (cellE · 2)) []
          have HLV := Aside0.mk hlv
          rw [hll]
          clear hR hc1 hC1 hWf hle HR hlv hll
          go_wp2_with (fail)
          with_reducible refine (HLE.out).mono ?_
          rintro e w3 ⟨v, rfl, hr3, hb3⟩
          obtain ⟨A2, c2, rfl⟩ := Kd.R_slice hr3
          have HB3 := Aside0.mk (below_step HBR.out hb3)
          have HR3 := Aside0.mk (Kd.R_below HR1.out hb3)
          obtain ⟨m, hm⟩ : ∃ m, m = (lvs [] (l.map (cellE · 2))).length := ⟨_, rfl⟩
          have HMM := Aside0.mk hm
          rw [← hm]
          clear hr3 hb3 HBR HR1 hm HLE
          by_cases h21 : 21 < m
          · have d3 : decide (m > 21) = true := decide_eq_true h21
            have d4 : decide ((m : Int) > 21) = true := decide_eq_true (by omega)
            have HE := Aside0.mk (show res = ([], 0, 12) by rw [HRES.out, HPL.out, if_pos (by rw [← HMM.out]; exact h21)])
            go_wp2_with (fail)
            go_ret3
            exact ⟨_, by rw [HE.out]; rfl, by rw [HE.out]; exact Kd.R_nil _ _ _ _ _, HB3.out⟩
          · have d3 : decide (m > 21) = false := decide_eq_false h21
            have d4 : decide ((m : Int) > 21) = false := decide_eq_false (by omega)
            have HE := Aside0.mk (show res = if (planZ l hv fr).2.e = 0 then ((planZ l hv fr).2.out, (planZ l hv fr).1, 0) else ([], 0, (planZ l hv fr).2.e) by rw [HRES.out, HPL.out, if_neg (by rw [← HMM.out]; exact h21)])
            clear HPL HRES HMM HLV
            go_upto_region 12 with (fail)
            clear hmm d3 d4
            obtain ⟨g0, hg0⟩ : ∃ g0, g0 = w3.heap.size := ⟨_, rfl⟩
            have HPS := Aside0.mk (show IsPlan w ((w3.alloc (Obj.map #[] 0)).alloc (Obj.cells #[Value.map (some w3.heap.size), Value.slice D q f, Value.slice none 0 0, Value.int IntKind.i64 0] 68)) (w3.heap.size + 1) w3.heap.size ⟨knF (hv.take 0), fr, [], 0⟩ from
              ⟨D, f, .slice none 0 0, by
                have h1 := (MapKept.heap_alloc (w3.alloc (Obj.map #[] 0)) (Obj.cells #[Value.map (some w3.heap.size), Value.slice D q f, Value.slice none 0 0, Value.int IntKind.i64 0] 68)).1
                rw [World.size_alloc] at h1
                rw [h1, HQ.out], Nat.le_succ_of_le HB3.out.size, HB3.out.size, (IsMap.made w3).at ((below_alloc (Below.refl _ _) _).block _ (IsMap.made (eK := Value.string) (eV := Value.int .i64) (wf := wfS) w3).lt), HD.out, HDC.out, Kd.R_nil _ _ _ _ _, below_alloc (below_alloc HB3.out _) _⟩)
            have HR4 := Aside0.mk (Kd.R_alloc (Kd.R_alloc HR3.out (Obj.map #[] 0)) (Obj.cells #[Value.map (some w3.heap.size), Value.slice D q f, Value.slice none 0 0, Value.int IntKind.i64 0] 68))
            obtain ⟨w4, hw4⟩ : ∃ w4, w4 = ((w3.alloc (Obj.map #[] 0)).alloc (Obj.cells #[Value.map (some w3.heap.size), Value.slice D q f, Value.slice none 0 0, Value.int IntKind.i64 0] 68)) := ⟨_, rfl⟩
            rw [← hw4] at HPS HR4 ⊢
            rw [← hg0] at HPS ⊢
            clear hw4 hg0 HR3 HB3
            go_wp2_with (fail)
            go_loopg [54] p (fun kx v54 wr => ∃ i : Nat, v54 = .int .i64 i ∧ Aside0 (i + kx = p) ∧ Aside0 (IsPlan w wr (g0 + 1) g0 ⟨knF (hv.take i), fr, [], 0⟩) ∧ Aside0 (kC.R 61 wr w.heap.size (fun k => w.heap.size ≤ k) (.slice A1 n c1) (l.map (cellE · 2))))
            case atStart => exact ⟨0, rfl, ⟨by omega⟩, HPS, HR4⟩
            case round =>
              clear HPS HR4 d1 d2 HI
              obtain ⟨i, rfl, HI, HPS, HR4⟩ := hrel
              cases gk with
              | succ gk =>
                have hi : i < p := by have := HI.out; omega
                have hil : i < hv.length := by have := HP.out; omega
                have d1 : decide ((i : Int) < (p : Int)) = true := decide_eq_true (by omega)
                have d2 : decide (i < p) = true := decide_eq_true hi
                have d3 : (i < p) = True := eq_true hi
                have d4 : ((i : Int) < (p : Int)) = True := eq_true (by omega)
                have d5 : (0 ≤ (i : Int)) = True := eq_true (by omega)
                have hCW := Kd.C_below HB.out HPS.out.bel
                rw [← HP.out] at hCW
                obtain ⟨ad, rfl, x0, x1⟩ := at_R hCW i hi
                have hvi : knF (hv.take (i + 1)) = knS (knF (hv.take i)) (atR hv i) := by
                  rw [List.take_succ_eq_append_getElem hil]
                  unfold knF
                  rw [List.foldl_append]
                  unfold atR
                  simp [List.getD, hil]
                have hwf : wfS (atR hv i).2 := by
                  unfold atR
                  rw [List.getD_eq_getElem?_getD, List.getElem?_eq_getElem hil]
                  exact HW2.out _ (List.getElem_mem hil)
                unfold knS at hvi
                obtain ⟨a, ha⟩ : ∃ a, a = (atR hv i).1 := ⟨_, rfl⟩
                obtain ⟨b, hb⟩ : ∃ b, b = (atR hv i).2 := ⟨_, rfl⟩
                rw [← ha] at x0 hvi
                rw [← hb] at x1 hvi hwf
                have HWF := Aside0.mk hwf
                obtain ⟨kn, hkn⟩ : ∃ kn, kn = knF (hv.take i) := ⟨_, rfl⟩
                rw [← hkn] at hvi HPS
                have P5 := Aside0.mk (HPS.out.step (below_drew1 (below_alloc (Below.refl _ _) (.cells #[.int .i64 a, .string b] 28))))
                have R5 := Aside0.mk (Kd.R_drew (Kd.R_alloc HR4.out (.cells #[.int .i64 a, .string b] 28)))
                obtain ⟨E1, c5, v5, hbk, hq1, hq2, hkm, hq3, hq4, hq5, hq6⟩ := P5.out
                have hlk := hkm.look_ok keysS Try.underlying66 (.int .i64 0) (zero3 _) b hwf
                change (Instr.lookup 66 (.map (some g0)) (.string b) true).run Try.prog (wr.alloc (.cells #[.int .i64 a, .string b] 28)).drew = .ok (.tuple #[((kn b).map (Value.int .i64)).getD (.int .i64 0), .bool (kn b).isSome]) _ at hlk
                obtain ⟨y0, y1, y2, y3⟩ := cell68 hbk
                change (wr.alloc (.cells #[.int .i64 a, .string b] 28)).drew.cell? ⟨g0 + 1, 0, none⟩ = some (.map (some g0)) at y0
                have hzb := (MapKept.heap_alloc wr (.cells #[.int .i64 a, .string b] 28)).1
                have z0 : (wr.alloc (.cells #[.int .i64 a, .string b] 28)).drew.cell? ⟨wr.heap.size, 0, none⟩ = some (.int .i64 a) := (blk_cell (w := (wr.alloc (.cells #[.int .i64 a, .string b] 28)).drew) hzb 0).trans rfl
                have z1 : (wr.alloc (.cells #[.int .i64 a, .string b] 28)).drew.cell? ⟨wr.heap.size, 1, none⟩ = some (.string b) := (blk_cell (w := (wr.alloc (.cells #[.int .i64 a, .string b] 28)).drew) hzb 1).trans rfl
                clear hbk hq1 hq2 hkm hq3 hq4 hq5 hq6 y1 y2 y3 hwf hzb
                cases hkb : kn b with
                | some m0 =>
                  rw [hkb] at hvi hlk
                  change (Instr.lookup 66 (.map (some g0)) (.string b) true).run Try.prog (wr.alloc (.cells #[.int .i64 a, .string b] 28)).drew = .ok (.tuple #[.int .i64 m0, .bool true]) _ at hlk
                  have HVI := Aside0.mk (show knF (hv.take (i + 1)) = kn from hvi)
                  clear hvi ha hb hkn hkb hCW hil
                  go_upto_region 15 with (fail)
                  obtain ⟨wd, hwd⟩ : ∃ wd, wd = (wr.alloc (.cells #[.int .i64 a, .string b] 28)) := ⟨_, rfl⟩
                  rw [← hwd] at P5 R5 y0 hlk z0 z1 ⊢
                  clear hwd x0 x1
                  go_region
                  clear hlk
                  go_wp2_with (fail)
                  go_roundg gk
                  case measure => omega
                  case rel => exact ⟨i + 1, by first | rfl | go_num, ⟨by have := HI.out; omega⟩, by rw [HVI.out]; exact P5, R5⟩
                | none =>
                  rw [hkb] at hvi hlk
                  change (Instr.lookup 66 (.map (some g0)) (.string b) true).run Try.prog (wr.alloc (.cells #[.int .i64 a, .string b] 28)).drew = .ok (.tuple #[.int .i64 0, .bool false]) _ at hlk
                  have HVI := Aside0.mk (show knF (hv.take (i + 1)) = upd kn b a from hvi)
                  clear hvi ha hb hkn hkb hCW hil
                  go_upto_region 15 with (fail)
                  obtain ⟨wd, hwd⟩ : ∃ wd, wd = (wr.alloc (.cells #[.int .i64 a, .string b] 28)) := ⟨_, rfl⟩
                  rw [← hwd] at P5 R5 y0 hlk z0 z1 ⊢
                  clear hwd x0 x1
                  go_region
                  clear hlk
                  obtain ⟨we, hwe⟩ : ∃ we, we = wd.drew := ⟨_, rfl⟩
                  rw [← hwe] at P5 R5 y0 z0 z1 ⊢
                  clear hwe
                  go_upto_region 17 with (fail)
                  go_still_tail 8, (by kernel_rfl)
                  change wpList _ _ _ _ _ we.drew
                  have P6 := Aside0.mk (P5.out.step (below_drew1 (Below.refl _ _)))
                  have R6 := Aside0.mk (Kd.R_drew R5.out)
                  obtain ⟨wf, hwf⟩ : ∃ wf, wf = we.drew := ⟨_, rfl⟩
                  rw [← hwf] at P6 R6 ⊢
                  clear hwf y0 z0 z1 P5 R5
                  go_wp2_with (at_mapUpdate; go_must (refine wpList_mapUpdate_g keysS _ rfl _ _ _ 66 rfl 3 Try.underlying66 g0 kn b a rfl rfl rfl P6.out.kn HWF.out ?_); intro w7 hm7 hg7; have P7 := Aside0.mk (P6.out.mapped hm7 hg7); have R7 := Aside0.mk (R_map R6.out P6.out.kn hg7); clear hm7 hg7)
                  go_roundg gk
                  case measure => omega
                  case rel => exact ⟨i + 1, by first | rfl | go_num, ⟨by have := HI.out; omega⟩, by rw [HVI.out]; exact P7, R7⟩
              | zero =>
                have hi : p = i := by have := HI.out; omega
                subst hi
                have d1 : decide ((p : Int) < (p : Int)) = false := decide_eq_false (by omega)
                have d2 : decide (p < p) = false := decide_eq_false (by omega)
                rw [List.take_of_length_le (by have := HP.out; omega)] at HPS
                go_wp2_with (fail)
                clear d1 d2 HI
                go_loopg [81] n (fun kx v81 wr => ∃ (i : Nat) (done : List C4) (S : PS), v81 = .int .i64 i ∧ Aside0 (i + kx = n) ∧ Aside0 (done.length = i) ∧ Aside0 (done ++ (chainsF (l.drop i) S).1 = planC l hv fr ∧ (chainsF (l.drop i) S).2 = planS l hv fr) ∧ Aside0 (S.out.length ≤ 8 * i) ∧ Aside0 (IsPlan w wr (g0 + 1) g0 S) ∧ Aside0 (kC.R 61 wr w.heap.size (fun k => w.heap.size ≤ k) (.slice A1 n c1) (done ++ (l.drop i).map (cellE · 2))))
                case atStart => exact ⟨0, [], ⟨knF hv, fr, [], 0⟩, rfl, ⟨by omega⟩, ⟨rfl⟩, ⟨by rw [List.nil_append, List.drop_zero]; exact ⟨rfl, rfl⟩⟩, ⟨Nat.le_refl _⟩, HPS, HR4⟩
                case round =>
                  clear HPS HR4
                  obtain ⟨i, done, S, rfl, HI, HDL, HX, HSO, HPS, HR4⟩ := hrel
                  cases gk with
                  | succ gk =>
                    have hi : i < n := by have := HI.out; omega
                    have hil : i < l.length := by have := HN.out; omega
                    have d1 : decide ((i : Int) < (n : Int)) = true := decide_eq_true (by omega)
                    have d2 : decide (i < n) = true := decide_eq_true hi
                    have d3 : (i < n) = True := eq_true hi
                    have d4 : ((i : Int) < (n : Int)) = True := eq_true (by omega)
                    have d5 : (0 ≤ (i : Int)) = True := eq_true (by omega)
                    have hCW := Kd.C_below HA.out HPS.out.bel
                    rw [← HN.out] at hCW
                    obtain ⟨ad, rfl, x0, x1⟩ := at_R hCW i hi
                    have hdr : l.drop i = atR l i :: l.drop (i + 1) := by
                      rw [List.drop_eq_getElem_cons hil]
                      unfold atR
                      simp [List.getD, hil]
                    have hrr := rightF_mem l (-1) (by omega) HRT.out.symm (atR l i) (by unfold atR; rw [List.getD_eq_getElem?_getD, List.getElem?_eq_getElem hil]; exact List.getElem_mem hil)
                    have hX := HX.out
                    have hR4 := HR4.out
                    rw [hdr] at hX hR4
                    obtain ⟨rec, hrec⟩ : ∃ rec, rec = atR l i := ⟨_, rfl⟩
                    rw [← hrec] at hX hR4 x0 x1 hrr
                    obtain ⟨a, b⟩ := rec
                    change wr.cell? (ad.add (i * 2)) = some (.int .i64 a) at x0
                    change wr.cell? ⟨(ad.add (i * 2)).block, (ad.add (i * 2)).off + 1, none⟩ = some (.string b) at x1
                    have hbs : b.size ≤ 900 := hrr.2.2
                    rw [List.map_cons] at hR4
                    have P5 := Aside0.mk (HPS.out.step (below_alloc (Below.refl _ _) (.cells #[.int .i64 a, .string b] 45)))
                    have R5 := Aside0.mk (Kd.R_alloc hR4 (.cells #[.int .i64 a, .string b] 45))
                    have hzb := (MapKept.heap_alloc wr (.cells #[.int .i64 a, .string b] 45)).1
                    have HX2 := Aside0.mk hX
                    have HBS := Aside0.mk hbs
                    by_cases h24 : 24 < b.size
                    · have d6 : decide ((b.size : Int) > 24) = true := decide_eq_true (by omega)
                      have d7 : decide (b.size > 24) = true := decide_eq_true h24
                      have H24 := Aside0.mk h24
                      clear hX hR4 hrec hdr hrr hbs hCW hil HX HR4 hzb h24
                      go_wp2_with (fail)
                      with_reducible refine (chain_any P5.out b (by have := HBS.out; omega) (by have := HSO.out; omega)).mono ?_
                      rintro e w6 ⟨rfl, hp6, hk6⟩
                      have P6 := Aside0.mk hp6
                      obtain ⟨cs, hcs⟩ := P5.out.blk
                      have R6 := Aside0.mk (hk6.R hcs R5.out (by intro q hq; simp [kC, Kd.pair, Kd.int, Kd.string, Kd.scalar] at hq; omega))
                      have ho6 := chainF_out (pieces b) S
                      have hpl := piecesF_len b.size b
                      have HSO6 := Aside0.mk (show (chainF (pieces b) S).2.out.length ≤ 8 * (i + 1) by unfold pieces at ho6 ⊢; have := HSO.out; have := HBS.out; omega)
                      have HX3 := Aside0.mk (show (done ++ [cellE (a, b) (chainF (pieces b) S).1]) ++ (chainsF (l.drop (i + 1)) (chainF (pieces b) S).2).1 = planC l hv fr ∧ (chainsF (l.drop (i + 1)) (chainF (pieces b) S).2).2 = planS l hv fr by
                        have hX := HX2.out
                        unfold chainsF at hX; rw [if_pos H24.out] at hX; rw [List.append_assoc]; exact hX)
                      obtain ⟨N, hN⟩ : ∃ N, N = (chainF (pieces b) S).1 := ⟨_, rfl⟩
                      obtain ⟨T, hT⟩ : ∃ T, T = (chainF (pieces b) S).2 := ⟨_, rfl⟩
                      rw [← hN, ← hT] at HX3
                      rw [← hT] at P6 HSO6
                      rw [← hN]
                      have hce : ∀ N, cellE (a, b) N = (a, (b.size : Int), N, ⟨#[]⟩) := fun N => by unfold cellE; rw [if_neg (show ¬ b.size ≤ 24 by have := H24.out; omega)]
                      rw [hce] at HX3
                      obtain ⟨rest, hrest⟩ : ∃ rest, rest = (l.drop (i + 1)).map (cellE · 2) := ⟨_, rfl⟩
                      rw [hce, ← hrest] at R6
                      have HRS := Aside0.mk hrest
                      obtain ⟨xs, hxs⟩ : ∃ xs, xs = done ++ ((a, (b.size : Int), 2, ⟨#[]⟩) : C4) :: rest := ⟨_, rfl⟩
                      rw [← hxs] at R6
                      have hxl : i < xs.length := by rw [hxs, List.length_append, List.length_cons, HDL.out]; omega
                      have hxi : xs.getD (i : Int).toNat zC = (a, (b.size : Int), 2, ⟨#[]⟩) := by
                        rw [Int.toNat_natCast, hxs, List.getD_eq_getElem?_getD, List.getElem?_append_right (by have := HDL.out; omega), HDL.out, Nat.sub_self]; rfl
                      have hxset : xs.set i (a, (b.size : Int), N, ⟨#[]⟩) = (done ++ [(a, (b.size : Int), N, ⟨#[]⟩)]) ++ rest := by
                        rw [hxs, List.set_append_right _ _ (by have := HDL.out; omega), HDL.out, Nat.sub_self, List.append_assoc]; rfl
                      obtain ⟨gc, cap, e, hg1, hg2, cells, hgb⟩ := Kd.R_form R6.out (by omega)
                      injection e with e1 e2 e3
                      subst e1 e3
                      obtain ⟨ad2, ck, e4, hlen, hK, hcc⟩ := Kd.C_get (Kd.R_reads' R6.out).2.2 zC (i : Int) (by omega) (by omega)
                      injection e4 with e4
                      subst e4
                      rw [hxi] at hK
                      obtain rfl := kC_open hK
                      have hcc2 : ∀ j u, ([.int .i64 a, .int .i64 b.size, .int .i64 2, .string ⟨#[]⟩] : List Value)[j]? = some u → w6.cell? ⟨gc, (i : Int).toNat * kC.sz + j, none⟩ = some u := fun j u hu => by
                        have := hcc j u hu
                        rw [addr0] at this
                        exact this
                      have HCC2 := Aside0.mk hcc2
                      have HXL := Aside0.mk hxl
                      have HXSET := Aside0.mk hxset
                      have HXE := Aside0.mk e2
                      clear hp6 hk6 hcs ho6 hpl hce hN hT hrest hxs hxl hxi hxset hg1 hg2 hgb hlen hK hcc hcc2 e2 R5 P5 HX2
                      go_wp2_with (((refine gate_ (.store 3 (.tmp 97) (.tmp 95)) rfl ?_); go_must (refine Kd.R_store kC w.heap.size rfl rfl 3 (.tmp 97) (.tmp 95) rfl 61 (g := gc) (n := n) (cap := c1) (i : Int) 2 xs (a, (b.size : Int), N, ⟨#[]⟩) (.int .i64 N) [.int .i64 N] [.int .i64 a, .int .i64 b.size, .int .i64 2, .string ⟨#[]⟩] (fun k => w.heap.size ≤ k) (fun _ => False) rfl ?aO rfl rfl ?aT (by intro q hq; rw [List.mem_singleton] at hq; rw [hq]; rfl) R6.out (by omega) (by omega) rfl HCC2.out (by show 3 ≤ 4; decide) (kC_mkM _ _ _ (a, (b.size : Int), N, ⟨#[]⟩)) (fun _ hk => hk.elim) P6.out.bel ?_); (case aO => first | rfl | (rw [Int.toNat_natCast]; rfl) | (rw [Int.toNat_natCast]; show _ = i * 4 + 2; omega)); (case aT => kernel_rfl); intro w8 ho8 hb8 hg8; rw [Int.toNat_natCast, HXSET.out] at ho8; have R8 := Aside0.mk ho8; have P8 := Aside0.mk (P6.out.grown R6.out (Nat.le_refl _) (by decide) (by decide) (by simpa [Value.ownBlock] using hg8)); clear ho8 hb8 hg8))
                      rw [HRS.out] at R8
                      go_roundg gk
                      case measure => omega
                      case rel => exact ⟨i + 1, done ++ [(a, (b.size : Int), N, ⟨#[]⟩)], T, by first | rfl | go_num, ⟨by have := HI.out; omega⟩, ⟨by rw [List.length_append, HDL.out]; rfl⟩, HX3, HSO6, P8, R8⟩
                    · have d6 : decide ((b.size : Int) > 24) = false := decide_eq_false (by omega)
                      have d7 : decide (b.size > 24) = false := decide_eq_false h24
                      have HX3 := Aside0.mk (show (done ++ [cellE (a, b) 2]) ++ (chainsF (l.drop (i + 1)) S).1 = planC l hv fr ∧ (chainsF (l.drop (i + 1)) S).2 = planS l hv fr by
                        unfold chainsF at hX; rw [if_neg h24] at hX; rw [List.append_assoc]; exact hX)
                      have R6 := Aside0.mk (show kC.R 61 (wr.alloc (.cells #[.int .i64 a, .string b] 45)) w.heap.size (fun k => w.heap.size ≤ k) (.slice A1 n c1) ((done ++ [cellE (a, b) 2]) ++ (l.drop (i + 1)).map (cellE · 2)) by rw [List.append_assoc]; exact R5.out)
                      clear hX hR4 hrec hdr hrr hbs hCW hil HX HR4 hzb h24 R5
                      go_wp2_with (fail)
                      go_roundg gk
                      case measure => omega
                      case rel => exact ⟨i + 1, done ++ [cellE (a, b) 2], S, by first | rfl | go_num, ⟨by have := HI.out; omega⟩, ⟨by rw [List.length_append, HDL.out]; rfl⟩, HX3, ⟨by have := HSO.out; omega⟩, P5, R6⟩
                  | zero =>
                    have hi : n = i := by have := HI.out; omega
                    subst hi
                    have d1 : decide ((n : Int) < (n : Int)) = false := decide_eq_false (by omega)
                    have d2 : decide (n < n) = false := decide_eq_false (by omega)
                    have hX := HX.out
                    have hR := HR4.out
                    rw [List.drop_of_length_le (by have := HN.out; omega)] at hX hR
                    have hX1 : done = planC l hv fr := by rw [← hX.1]; simp [chainsF]
                    have hX2 : S = planS l hv fr := hX.2
                    rw [List.map_nil, List.append_nil, hX1] at hR
                    have hdl := HDL.out
                    rw [hX1] at hdl
                    subst hX2
                    obtain ⟨A4, c4, Wf, e4, hc4, hC4, hWf, hKK⟩ := cells_only hR
                    rw [hdl] at e4
                    injection e4 with e4 _ e5
                    subst e4 e5
                    have hle := leaves_any wr Wf A1 c1 _ hC4 hWf hc4 (by omega)
                    rw [hdl] at hle
                    have HLE := Aside0.mk hle
                    have hlv := lvs_length (planC l hv fr) []
                    rw [hdl] at hlv
                    have HLV := Aside0.mk hlv
                    have HKK := Aside0.mk hKK
                    have HFULL := Aside0.mk (show (planS l hv fr).e = 0 → ∀ y ∈ lvs [] (planC l hv fr), y ≠ [] from fun he => lvs_full _ _ (chainsF_ok l _ ⟨knF_pg (fun x hx => (mayE_pg HMY.out.symm).1 _ (List.mem_map_of_mem hx)), (mayE_pg HMY.out.symm).2⟩ (rightF_mem l (-1) (by omega) HRT.out.symm) he))
                    have HSO2 := Aside0.mk (show (planS l hv fr).out.length ≤ 72000 by have := HSO.out; omega)
                    clear hR hX hX1 hdl hc4 hC4 hWf hKK hle hlv HDL HX HSO HR4
                    go_wp2_with (fail)
                    with_reducible refine (HLE.out).mono ?_
                    rintro e w7 ⟨v, rfl, hr3, hb3⟩
                    obtain ⟨A3, c3, rfl⟩ := Kd.R_slice hr3
                    have P7 := Aside0.mk (HPS.out.step hb3)
                    have K7 := Aside0.mk (K61.below hb3)
                    have L7 := Aside0.mk (Kd.R_lower hr3 HPS.out.bel.size)
                    clear hr3 hb3 HLE HPS d1 d2
                    obtain ⟨LL, hLL⟩ : ∃ LL, LL = lvs [] (planC l hv fr) := ⟨_, rfl⟩
                    rw [← hLL] at L7 HFULL HLV ⊢
                    have HLL := Aside0.mk hLL
                    obtain ⟨m, hm⟩ : ∃ m, m = LL.length := ⟨_, rfl⟩
                    rw [← hm] at HLV L7 ⊢
                    have HMM := Aside0.mk hm
                    have hml : m ≤ 9001 := by have := HLV.out; omega
                    clear hLL hm
                    go_wp2_with (fail)
                    go_loopg [19, 102] m (fun kx v19 v102 wz => ∃ (i : Nat) (done : List S2) (S : PS), v102 = .int .i64 i ∧ Aside0 (i + kx = m) ∧ Aside0 (done.length ≤ i) ∧ Aside0 (done ++ (slotsF (LL.drop i) S).1 = (slotsF LL (planS l hv fr)).1 ∧ (slotsF (LL.drop i) S).2 = (slotsF LL (planS l hv fr)).2) ∧ Aside0 (S.out.length ≤ 72000 + i) ∧ Aside0 (S.e = 0 → (planS l hv fr).e = 0) ∧ Aside0 (IsPlan w wz (g0 + 1) g0 S) ∧ Aside0 ((kL Wf).R 59 wz w.heap.size (fun k => wr.heap.size ≤ k) (.slice A3 m c3) LL) ∧ Aside0 (K61 wr wz) ∧ Aside0 (kS.R 76 wz w.heap.size (fun k => w.heap.size ≤ k) v19 done))
                    case atStart => exact ⟨0, [], planS l hv fr, rfl, ⟨by omega⟩, ⟨Nat.le_refl _⟩, ⟨by rw [List.nil_append, List.drop_zero]; exact ⟨rfl, rfl⟩⟩, ⟨HSO2.out⟩, ⟨id⟩, P7, L7, K7, ⟨Kd.R_nil _ _ _ _ _⟩⟩
                    case round =>
                      clear P7 L7 K7
                      obtain ⟨i, done, S, rfl, HI, HDL, HX, HSO, HSE, HPS, HL4, HK4, HR4⟩ := hrel
                      rename World => wz
                      cases gk with
                      | succ gk =>
                        have hi : i < m := by have := HI.out; omega
                        have hil : i < LL.length := by have := HMM.out; omega
                        have d1 : decide ((i : Int) < (m : Int)) = true := decide_eq_true (by omega)
                        have d2 : decide (i < m) = true := decide_eq_true hi
                        have d3 : (i < m) = True := eq_true hi
                        have d4 : ((i : Int) < (m : Int)) = True := eq_true (by omega)
                        have d5 : (0 ≤ (i : Int)) = True := eq_true (by omega)
                        obtain ⟨ad3, ck, e5, hlen, hK, hcc⟩ := Kd.C_get (Kd.R_reads' HL4.out).2.2 ([] : List C4) (i : Int) (by omega) (by omega)
                        subst e5
                        have hdr : LL.drop i = LL.getD (i : Int).toNat [] :: LL.drop (i + 1) := by
                          rw [List.drop_eq_getElem_cons hil]
                          simp [List.getD, hil]
                        have hmem : LL.getD (i : Int).toNat [] ∈ LL := by
                          rw [Int.toNat_natCast, List.getD_eq_getElem?_getD, List.getElem?_eq_getElem hil]; exact List.getElem_mem hil
                        have hX := HX.out
                        rw [hdr] at hX
                        obtain ⟨x, hx⟩ : ∃ x, x = LL.getD (i : Int).toNat [] := ⟨_, rfl⟩
                        rw [← hx] at hX hK hmem
                        obtain ⟨A6, c6, rfl, hc6, hC6⟩ := hK
                        have x0 : wz.cell? (ad3.add i) = some (.slice A6 x.length c6) := by
                          have := hcc 0 _ rfl
                          rw [Int.toNat_natCast] at this
                          simpa [Kd.fixed, Kd.slice] using this
                        obtain ⟨E1, f1, v1, y0, y1, y2, y3, _⟩ := HPS.out.cells
                        have HX2 := Aside0.mk hX
                        have hlf := fun (W : World) (hk : K61 wr W) => leaf_list A6 c6 x W (C_mv (fun x c h => kC_all _ _ x c h) (HKK.out W hk) hC6)
                        have hLE := leafE_size x
                        obtain ⟨q6, hq6⟩ : ∃ q6, q6 = x.length := ⟨_, rfl⟩
                        have hC7 := fun (W : World) (hk : K61 wr W) => C_mv (w' := W) (fun x c h => kC_all _ _ x c h) (HKK.out W hk) hC6
                        rw [← hq6] at hlf x0 hC7
                        have HLF := Aside0.mk hlf
                        have HC7 := Aside0.mk hC7
                        have HLEs := Aside0.mk hLE
                        have HMEM := Aside0.mk hmem
                        have HQ6 := Aside0.mk hq6
                        clear hlf hC7 hLE hmem hX hx hdr hil hc6 hC6 hlen hcc hq6 HX
                        by_cases he : S.e = 0
                        · have d6 : (S.e == 0) = true := by simpa using he
                          have d7 : decide (S.e = 0) = true := decide_eq_true he
                          have HEE := Aside0.mk he
                          clear he
                          have hne : x ≠ [] := HFULL.out (HSE.out HEE.out) x HMEM.out
                          have hq7 : 0 < q6 := by rw [HQ6.out]; exact List.length_pos_iff.2 hne
                          have HX3 := Aside0.mk (show (done ++ [((atC x 0).1, putN S (leafE x).1 (leafE x).2)]) ++ (slotsF (LL.drop (i + 1)) (putS S (leafE x).1 (leafE x).2)).1 = (slotsF LL (planS l hv fr)).1 ∧ (slotsF (LL.drop (i + 1)) (putS S (leafE x).1 (leafE x).2)).2 = (slotsF LL (planS l hv fr)).2 by
                            have hX := HX2.out
                            rw [slotsF_cons, if_pos HEE.out] at hX
                            rw [List.append_assoc]; exact hX)
                          obtain ⟨ky, hky⟩ : ∃ ky, ky = (atC x 0).1 := ⟨_, rfl⟩
                          obtain ⟨bb, hbb⟩ : ∃ bb, bb = (leafE x).1 := ⟨_, rfl⟩
                          obtain ⟨bi, hbi⟩ : ∃ bi, bi = (leafE x).2 := ⟨_, rfl⟩
                          obtain ⟨ad6, e6⟩ : ∃ ad6, A6 = some ad6 := by
                            obtain ⟨ad, h1, _⟩ := at_C (HC7.out _ HK4.out) 0 hq7
                            exact ⟨ad, h1⟩
                          subst e6
                          have hz := fun (W : World) (hk : K61 wr W) => show W.cell? ad6 = some (.int .i64 ky) by
                            obtain ⟨ad, h1, h2, _⟩ := at_C (HC7.out W hk) 0 hq7
                            injection h1 with h1
                            subst h1
                            rw [hky]
                            have e0 : ad6.add (0 * 4) = ad6 := by simp [Addr.add]
                            rw [e0] at h2
                            exact h2
                          have HZ := Aside0.mk hz
                          rw [← hky, ← hbb, ← hbi] at HX3
                          rw [← hbb, ← hbi] at HLF
                          rw [← hbb] at HLEs
                          have K5 := Aside0.mk (HK4.out.trans (K61.below (below_drew1 (Below.refl _ _))))
                          have P5 := Aside0.mk (HPS.out.step (below_drew1 (Below.refl _ _)))
                          have L5 := Aside0.mk (Kd.R_drew HL4.out)
                          have R5 := Aside0.mk (Kd.R_drew HR4.out)
                          have z5 := HZ.out _ K5.out
                          have d8 : (0 < q6) = True := eq_true hq7
                          have d9 : ((0 : Int) < (q6 : Int)) = True := eq_true (by omega)
                          have hdl2 : done.length ≤ 10000 := by have := HDL.out; omega
                          clear hne hky hbb hbi hz HX2 HC7 HMEM
                          go_upto_region 30 with (fail)
                          clear x0 y0 y1 y2 y3
                          go_region_law (first
                            | (go_simp; go_at_call 31; (refine (HLF.out _ K5.out).mono ?_); rintro e w8 ⟨rfl, hb8⟩; have P8 := Aside0.mk (P5.out.step hb8); have L8 := Aside0.mk (Kd.R_below L5.out hb8); have R8 := Aside0.mk (Kd.R_below R5.out hb8); have K8 := Aside0.mk (K5.out.trans (K61.below hb8)); have z8 := HZ.out _ K8.out; clear hb8)
                            | (go_simp; go_at_call 30; (refine (put_any P8.out bb bi (wfS_small (by have := HLEs.out; omega)) (by have := HSO.out; omega)).mono ?_); rintro e w9 ⟨rfl, hp9, hk9⟩; have P9 := Aside0.mk hp9; obtain ⟨cs, hcs⟩ := P8.out.blk; have L9 := Aside0.mk (hk9.R hcs L8.out (by intro q hq; simp [Kd.fixed] at hq; omega)); have R9 := Aside0.mk (hk9.R hcs R8.out (by intro q hq; simp [kS, Kd.pair, Kd.int, Kd.scalar] at hq; omega)); have K9 := Aside0.mk (K8.out.trans (K61.kw hk9 hcs)); have z9 := HZ.out _ K9.out; obtain ⟨nn, hnn⟩ : ∃ nn, nn = putN S bb bi := ⟨_, rfl⟩; rw [← hnn] at HX3 ⊢; clear hp9 hk9 hcs hnn)
                            | (refine Kd.R_append_step kS w.heap.size rfl (.tmp 111) (.tmp 123) 71 76 (.agg #[(.int .i64 0), (.int .i64 0)]) 16 rfl Try.underlying71 info76 rfl (by decide) (by omega) u19 done (ky, nn) [.int .i64 ky, .int .i64 nn] (fun k => w.heap.size ≤ k) (fun _ => False) rfl rfl (kS_mkM _ _ _ (ky, nn)) (fun _ hk => hk.elim) (fun k hk => Nat.le_trans P9.out.bel.size hk) R9.out P9.out.bel P9.out.bel.size (by omega) ?_; intro v10 w10 ho_ hb_ hg_ hat_; have R10 := Aside0.mk ho_; have P10 := Aside0.mk (P9.out.grown R9.out (Nat.le_refl _) (by decide) (by decide) hg_); have L10 := Aside0.mk (Kd.R_over L9.out R9.out (by intro q hq; simp [Kd.fixed] at hq; omega) hg_); have K10 := Aside0.mk (K9.out.trans (K61.row R9.out (by decide) hg_)); clear ho_ hb_ hg_ hat_))
                          all_goals
                            go_wp2_with (fail)
                            go_roundg gk
                            case measure => omega
                            case rel => exact ⟨i + 1, done ++ [(ky, nn)], putS S bb bi, by first | rfl | go_num, ⟨by have := HI.out; omega⟩, ⟨by rw [List.length_append]; have := HDL.out; simp; omega⟩, HX3, ⟨by have := putS_out S bb bi; have := HSO.out; omega⟩, ⟨fun h => HSE.out (putS_e h)⟩, P10, L10, K10, R10⟩
                        · have d6 : (S.e == 0) = false := by simpa using he
                          have d7 : decide (S.e = 0) = false := decide_eq_false he
                          have HX3 := Aside0.mk (show done ++ (slotsF (LL.drop (i + 1)) S).1 = (slotsF LL (planS l hv fr)).1 ∧ (slotsF (LL.drop (i + 1)) S).2 = (slotsF LL (planS l hv fr)).2 by
                            have hX := HX2.out
                            rw [slotsF_cons, if_neg he] at hX; exact hX)
                          clear he HX2
                          go_wp2_with (fail)
                          go_roundg gk
                          case measure => omega
                          case rel => exact ⟨i + 1, done, S, by first | rfl | go_num, ⟨by have := HI.out; omega⟩, ⟨by have := HDL.out; omega⟩, HX3, ⟨by have := HSO.out; omega⟩, HSE, HPS, HL4, HK4, HR4⟩
                      | zero =>
                        have hi : m = i := by have := HI.out; omega
                        subst hi
                        have d1 : decide ((m : Int) < (m : Int)) = false := decide_eq_false (by omega)
                        have d2 : decide (m < m) = false := decide_eq_false (by omega)
                        have hX := HX.out
                        rw [List.drop_of_length_le (by have := HMM.out; omega)] at hX
                        have hX1 : done = (planT l hv fr).1 := by have := hX.1; rw [HLL.out] at this; unfold planT; rw [← this]; simp [slotsF]
                        have hX2 : S = (planT l hv fr).2 := by have := hX.2; rw [HLL.out] at this; exact this
                        obtain ⟨A9, c9, rfl, hc9, hC9⟩ := Kd.R_reads HR4.out
                        have hix := index_list A9 c9 done wz hC9
                        have hsz := indexE_size done
                        have hZ : planZ l hv fr = (putN S (indexE done).1 (indexE done).2, putS S (indexE done).1 (indexE done).2) := by unfold planZ; rw [← hX1, ← hX2]
                        obtain ⟨ib, hib⟩ : ∃ ib, ib = (indexE done).1 := ⟨_, rfl⟩
                        obtain ⟨is, his⟩ : ∃ is, is = (indexE done).2 := ⟨_, rfl⟩
                        rw [← hib, ← his] at hix hZ
                        rw [← hib] at hsz
                        have HIX := Aside0.mk hix
                        have HSZ := Aside0.mk hsz
                        have hE := HE.out
                        rw [hZ] at hE
                        change res = if (putS S ib is).e = 0 then ((putS S ib is).out, putN S ib is, 0) else ([], 0, (putS S ib is).e) at hE
                        have HE2 := Aside0.mk hE
                        clear hX hX1 hX2 hc9 hC9 hix hsz hZ hib his hE HE HX
                        go_wp2_with (fail)
                        with_reducible refine (HIX.out).mono ?_
                        rintro e w8 ⟨rfl, hb8⟩
                        have P8 := Aside0.mk (HPS.out.step hb8)
                        clear hb8 HPS HL4 HK4 HR4
                        go_wp2_with (fail)
                        with_reducible refine (put_any P8.out ib is (wfS_small (by have := HSZ.out; omega)) (by have := HSO.out; have := HLV.out; omega)).mono ?_
                        rintro e w9 ⟨rfl, hp9, hk9⟩
                        have P9 := Aside0.mk hp9
                        obtain ⟨N, hN⟩ : ∃ N, N = putN S ib is := ⟨_, rfl⟩
                        obtain ⟨T, hT⟩ : ∃ T, T = putS S ib is := ⟨_, rfl⟩
                        rw [← hT] at P9
                        rw [← hN, ← hT] at HE2
                        rw [← hN]
                        clear hp9 hk9 hN hT
                        by_cases he : T.e = 0
                        · have d6 : (T.e != 0) = false := by simpa using he
                          have d7 : (T.e == 0) = true := by simpa using he
                          have HE3 := Aside0.mk (show res = (T.out, N, 0) by rw [HE2.out, if_pos he])
                          obtain ⟨E1, f1, v1, y0, y1, y2, y3, hr⟩ := P9.out.cells
                          have HR9 := Aside0.mk hr
                          clear hr he
                          go_wp2_with (fail)
                          go_ret3
                          exact ⟨_, by rw [HE3.out]; rfl, by rw [HE3.out]; exact HR9.out, P9.out.bel⟩
                        · have d6 : (T.e != 0) = true := by simpa using he
                          have d7 : (T.e == 0) = false := by simpa using he
                          have HE3 := Aside0.mk (show res = ([], 0, T.e) by rw [HE2.out, if_neg he])
                          obtain ⟨E1, f1, v1, y0, y1, y2, y3, hr⟩ := P9.out.cells
                          obtain ⟨_, _, _, z0, z1, z2, z3, _⟩ := (P9.out.step (below_drew1 (Below.refl _ _))).cells
                          clear hr he
                          go_upto_region 34 with (fail)
                          go_region
                          go_wp2_with (fail)
                          go_ret3
                          exact ⟨_, by rw [HE3.out]; rfl, by rw [HE3.out]; exact Kd.R_nil _ _ _ _ _, below_drew1 P9.out.bel⟩
end Go.Proofs.Ytpeeojbhfebcdaa.V
end


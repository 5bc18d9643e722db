/- A plan's chain, walked. -/
import Derived.Test.YtpeeojbhfebcdaaP1
import Derived.Test.YtpeeojbhfebcdaaCC
import Derived.Deep.LoopGhost
namespace Go.Proofs.Ytpeeojbhfebcdaa.V
open Go.RowKit Go.Proofs.YtpeeojbhfebcdaaW.PrintWords Go.Proofs.YtpeeojbhfebcdaaW.PrintLast Go.Proofs.YtpeeojbhfebcdaaW.PrintMore Go.Proofs.YtpeeojbhfebcdaaM
set_option linter.unusedVariables false
set_option linter.unusedSimpArgs false

/-- a record's pieces -/
def piecesF : Nat → ByteArray → List ByteArray
  | 0, _ => []
  | k + 1, b => if b.size = 0 then [] else b.extract 0 (min b.size 120) :: piecesF k (b.extract (min b.size 120) b.size)
def pieces (b : ByteArray) : List ByteArray := piecesF b.size b
theorem pieces_l0 (n : Nat) : ∀ (k : Nat) (b : ByteArray) (acc : List ByteArray), b.size ≤ n → n < k → acc.length + n ≤ 1000000 → PShelfMore.shelf_pieces.l0 k b acc = some (acc ++ piecesF n b) := by
  induction n with
  | zero =>
    intro k b acc hb hk hl
    obtain ⟨k, rfl⟩ : ∃ m, k = m + 1 := ⟨k - 1, by omega⟩
    simp only [PShelfMore.shelf_pieces.l0, piecesF]
    rw [if_neg (by omega), List.append_nil]
  | succ n ih =>
    intro k b acc hb hk hl
    obtain ⟨k, rfl⟩ : ∃ m, k = m + 1 := ⟨k - 1, by omega⟩
    simp only [PShelfMore.shelf_pieces.l0, piecesF]
    by_cases h0 : b.size = 0
    · rw [if_neg (by omega), if_pos h0, List.append_nil]
    · have hm : mn (b.size : Int) 120 = ((min b.size 120 : Nat) : Int) := by unfold mn; split <;> omega
      rw [if_pos (by omega), hm, if_pos (by omega), if_pos (by omega), if_pos (by omega), if_neg h0, Int.toNat_natCast, ih k _ _ (by rw [ByteArray.size_extract]; omega) (by omega) (by simp; omega), List.append_assoc]
      rfl
theorem pieces_f (b : ByteArray) (h : b.size ≤ 1000000) : PShelfMore.shelf_pieces.f (b.size + 1) b = some (pieces b) := by
  unfold PShelfMore.shelf_pieces.f
  rw [pieces_l0 b.size (b.size + 1) b [] (Nat.le_refl _) (by omega) (by simpa using h)]
  rfl
theorem piecesF_size (n : Nat) : ∀ b, ∀ x ∈ piecesF n b, 1 ≤ x.size ∧ x.size ≤ 120 := by
  induction n with
  | zero => intro b x hx; cases hx
  | succ n ih =>
    intro b x hx
    unfold piecesF at hx
    split at hx
    · cases hx
    · rw [List.mem_cons] at hx
      rcases hx with rfl | hx
      · rw [ByteArray.size_extract]; omega
      · exact ih _ x hx
theorem piecesF_length (n : Nat) : ∀ b : ByteArray, (piecesF n b).length ≤ n := by
  induction n with
  | zero => intro b; exact Nat.le_refl _
  | succ n ih =>
    intro b
    unfold piecesF
    split
    · simp
    · rw [List.length_cons]; have := ih (b.extract (min b.size 120) b.size); omega
def chainF (l : List ByteArray) (S : PS) : Int × PS := l.foldr (fun x p => (putN p.2 (chA p.1 x).1 (chA p.1 x).2, putS p.2 (chA p.1 x).1 (chA p.1 x).2)) (0, S)
theorem putS_out (S : PS) (b : ByteArray) (is : Bool) : (putS S b is).out.length ≤ S.out.length + 1 := by
  unfold putS
  split
  · split
    · split
      · omega
      · split <;> simp
    · simp
  · omega
theorem chainF_cons (x : ByteArray) (l : List ByteArray) (S : PS) : chainF (x :: l) S = (putN (chainF l S).2 (chA (chainF l S).1 x).1 (chA (chainF l S).1 x).2, putS (chainF l S).2 (chA (chainF l S).1 x).1 (chA (chainF l S).1 x).2) := rfl
theorem chainF_out (l : List ByteArray) (S : PS) : (chainF l S).2.out.length ≤ S.out.length + l.length := by
  induction l with
  | nil => simp [chainF]
  | cons x l ih =>
    have h := putS_out (chainF l S).2 (chA (chainF l S).1 x).1 (chA (chainF l S).1 x).2
    rw [List.length_cons, chainF_cons]
    show (putS (chainF l S).2 _ _).out.length ≤ _
    omega
theorem strOf_pad_size {l : List Int} (h : l.length ≤ 128) : (strOfNums (pad l)).size = 128 := by rw [strOfNums_size, pad_length h]
theorem chA_size (nx : Int) (b : ByteArray) : (chA nx b).1.size ≤ 128 := by
  unfold chA
  split
  · rename_i h
    have h2 : b.size ≤ 120 := by unfold chOk at h; simp at h; exact h.2.2
    show (strOfNums (pad (chL nx b))).size ≤ 128
    rw [strOf_pad_size (by rw [chL_length]; omega)]
    exact Nat.le_refl _
  · exact Nat.zero_le _
theorem wfS_small {s : ByteArray} (h : s.size ≤ 1000000) : wfS s := Nat.le_trans h (by decide)
set_option maxHeartbeats 8000000 in
set_option maxRecDepth 100000 in
theorem chain_any {w0 w : World} {g m : Nat} {S : PS} (h : IsPlan w0 w g m S) (b : ByteArray) (hb : b.size ≤ 10000) (ho : S.out.length ≤ 80000) :
    Calls Try.prog 29 #[.pointer (some ⟨g, 0, none⟩), .string b] w fun e w' => e = .returned (.int .i64 (chainF (pieces b) S).1) ∧ IsPlan w0 w' g m (chainF (pieces b) S).2 ∧ Kw w w' g := by
  have HP := Aside0.mk h
  have HS := Aside0.mk ho
  have HPI := Aside0.mk (PShelfMore.shelf_pieces.calls (b.size + 1) b (pieces b) w (pieces_f b (by omega)))
  have hpl : (pieces b).length ≤ 10000 := Nat.le_trans (piecesF_length _ _) hb
  have hps : ∀ x ∈ pieces b, 1 ≤ x.size ∧ x.size ≤ 120 := piecesF_size _ _
  obtain ⟨l, hl⟩ : ∃ l, l = pieces b := ⟨_, rfl⟩
  rw [← hl] at hpl hps HPI ⊢
  have HPS := Aside0.mk hps
  have HPL := Aside0.mk hpl
  clear h hb ho hl hps hpl
  go_enter Try.func29, Try.ntmps29
  go_wp2_with (fail)
  refine (HPI.out).mono ?_
  rintro e w1 ⟨v, rfl, hR, hb1⟩
  obtain ⟨A, c, rfl, hc, hC⟩ := Kd.R_reads hR
  obtain ⟨n, hn⟩ : ∃ n, n = l.length := ⟨_, rfl⟩
  rw [← hn] at hR ⊢
  have HN := Aside0.mk hn
  have hn1 : n ≤ 10000 := by rw [hn]; exact HPL.out
  have P1 := Aside0.mk (HP.out.step hb1)
  have R1 := Aside0.mk hR
  have W1 := Aside0.mk (Kw.below hb1 g)
  clear hR hb1 hC hc HPI hn
  go_wp2_with (fail)
  go_loopg [5, 7] n (fun kx v5 v7 wr => v5 = .int .i64 (chainF (l.drop kx) S).1 ∧ v7 = .int .i64 ((kx : Int) - 1) ∧ Aside0 (kx ≤ n) ∧ Aside0 (IsPlan w0 wr g m (chainF (l.drop kx) S).2) ∧ Aside0 (Kd.R Kd.string 9 wr w.heap.size (fun _ => True) (.slice A n c) l) ∧ Aside0 (Kw w wr g))
  case atStart => exact ⟨by rw [HN.out, List.drop_length]; rfl, by first | rfl | go_num, ⟨Nat.le_refl _⟩, ⟨by rw [HN.out, List.drop_length]; exact P1.out⟩, R1, W1⟩
  case round =>
    clear P1 R1 W1
    obtain ⟨rfl, rfl, HK, P1, R1, W1⟩ := hrel
    cases gk with
    | zero =>
      have e1 : decide ((0 : Int) ≤ ((0 : Nat) : Int) - 1) = false := by decide
      go_wp2_with (fail)
      go_ret
      exact ⟨rfl, P1.out, W1.out⟩
    | succ k =>
      have hk : k < n := HK.out
      have hkl : k < l.length := by have := HN.out; omega
      rw [show ((k + 1 : Nat) : Int) - 1 = (k : Int) by omega]
      have d1 : decide ((0 : Int) ≤ (k : Int)) = true := decide_eq_true (by omega)
      have d3 : (k < n) = True := eq_true hk
      have d4 : ((k : Int) < (n : Int)) = True := eq_true (by omega)
      have d5 : (0 ≤ (k : Int)) = True := eq_true (by omega)
      have hC := (Kd.R_reads' R1.out).2.2
      rw [← HN.out] at hC
      obtain ⟨ad, rfl, x0⟩ := Kd.at_string hC (k : Int) (by omega) (by omega)
      have hx : rdOf ByteArray.empty l (k : Int) = l[k] := by unfold rdOf; simp [hkl]
      rw [hx, Int.toNat_natCast] at x0
      have hd : l.drop k = l[k] :: l.drop (k + 1) := List.drop_eq_getElem_cons hkl
      have hxs := HPS.out _ (List.getElem_mem hkl)
      have ho := chainF_out (l.drop (k + 1)) S
      obtain ⟨x, hxx⟩ : ∃ x, x = l[k] := ⟨_, rfl⟩
      rw [← hxx] at x0 hd hxs
      obtain ⟨N, hN⟩ : ∃ N, N = (chainF (l.drop (k + 1)) S).1 := ⟨_, rfl⟩
      obtain ⟨T, hT⟩ : ∃ T, T = (chainF (l.drop (k + 1)) S).2 := ⟨_, rfl⟩
      have hc2 : chainF (l.drop k) S = (putN T (chA N x).1 (chA N x).2, putS T (chA N x).1 (chA N x).2) := by rw [hd, chainF_cons, hN, hT]
      rw [← hT] at P1 ho
      rw [← hN]
      have HC2 := Aside0.mk hc2
      have hcc := fun W => PBase.sheet_Chain.calls 11 N x (chA N x).1 (chA N x).2 W (chain_k N x (by omega) 11 (Nat.le_refl _))
      have hsz := chA_size N x
      obtain ⟨cb, hcb⟩ : ∃ cb, cb = (chA N x).1 := ⟨_, rfl⟩
      obtain ⟨ci, hci⟩ : ∃ ci, ci = (chA N x).2 := ⟨_, rfl⟩
      rw [← hcb, ← hci] at hcc HC2
      rw [← hcb] at hsz
      have HCC := Aside0.mk hcc
      have HSZ := Aside0.mk hsz
      have HTO := Aside0.mk (show T.out.length ≤ 100000 by rw [List.length_drop] at ho; have := HS.out; have := HN.out; omega)
      clear hC hx hxs ho hxx hd hN hT hc2 hcc hcb hci hsz hkl
      go_wp2_with (fail)
      refine (HCC.out _).mono ?_
      rintro e w2 ⟨rfl, hb2⟩
      have P2 := Aside0.mk (P1.out.step hb2)
      have R2_ := Aside0.mk (Kd.R_below R1.out hb2)
      have W2 := Aside0.mk (W1.out.trans (Kw.below hb2 g))
      clear hb2 P1 R1 W1 x0
      go_wp2_with (fail)
      refine (put_any P2.out cb ci (wfS_small (by have := HSZ.out; omega)) HTO.out).mono ?_
      rintro e w3 ⟨rfl, hp3, hw3⟩
      have P3 := Aside0.mk hp3
      have W3 := Aside0.mk (W2.out.trans hw3)
      obtain ⟨cs, hcs⟩ := P2.out.blk
      have R3 := Aside0.mk (hw3.R hcs R2_.out (by intro q hq; simp [Kd.string, Kd.scalar] at hq; omega))
      clear hp3 hw3 hcs
      go_wp2_with (fail)
      go_roundg k
      case measure => omega
      case rel => exact ⟨by rw [HC2.out], by first | rfl | go_num, ⟨by omega⟩, ⟨by rw [HC2.out]; exact P3.out⟩, R3, W3⟩
end Go.Proofs.Ytpeeojbhfebcdaa.V

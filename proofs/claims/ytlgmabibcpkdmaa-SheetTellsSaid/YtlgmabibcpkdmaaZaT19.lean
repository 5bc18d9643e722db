/- Of the texts that the row stands on, what it needs (part 19), put together by a program of this session. -/
import Derived.Test.YtlgmabibcpkdmaaZaT10
import Derived.Test.YtlgmabibcpkdmaaZaT12
import Derived.Test.YtlgmabibcpkdmaaZaT18
import Derived.Test.YtlgmabibcpkdmaaZaT17
section
namespace Go.Proofs.Ytlgmabibcpkdmaa.PAll
open Go.RowKit Go.Proofs.YtlgmabibcpkdmaaW.PrintWords Go.Proofs.YtlgmabibcpkdmaaW.PrintLast Go.Proofs.YtlgmabibcpkdmaaW.PrintMore
attribute [local go_sem] max2_int min2_int max_two min_two max_three min_three max_four min_four
set_option linter.unusedVariables false
set_option linter.unusedSimpArgs false
def maquetteref13_Of.l0 : Nat → ByteArray → Int → Int → Option (Int)
  | 0, _, _, _ => none
  | k + 1, x0, x3, x4 => if x4 < (x0.size : Int) then (if 0 ≤ x4 then (maquetteref13_Of.l0 k x0 (Go.bits .or .i64 (wrap64 (x3 * 256)) (wrap64 (bt x0 x4))) (wrap64 (x4 + 1))) else (none)) else (some x3)
def maquetteref13_Of.f (k : Nat) (a0 : ByteArray) : Option (Int) := maquetteref13_Of.l0 k a0 0 0
set_option maxHeartbeats 8000000 in
set_option maxRecDepth 100000 in
theorem maquetteref13_Of.calls (k : Nat) (a0 : ByteArray) (r : Int) (w : World) (h : maquetteref13_Of.f k a0 = some r) :
    Calls Try.prog 44 #[.string a0] w fun e w' => e = .returned (.int .i64 r) ∧ Drawn0 w w' := by
  have H : (maquetteref13_Of.l0 k a0 0 0) = some r := h
  clear h
  have H' := Aside0.mk H
  clear H
  go_enter Try.func44, Try.ntmps44
  go_wp2
  go_loopg [3, 4] k (fun kq v3 v4 w' => ∃ (x3_1 : Int) (x4_1 : Int), v3 = .int .i64 x3_1 ∧ v4 = .int .i64 x4_1 ∧ Aside0 (maquetteref13_Of.l0 kq a0 x3_1 x4_1 = some r) ∧ Aside0 (kq ≤ k) ∧ Drawn0 w w')
  case atStart => exact ⟨(0), (0), (by first | rfl | (simp; done) | (simp [*]; done)), (by first | rfl | (simp; done) | (simp [*]; done)), H', ⟨Nat.le_refl _⟩, by repeat (first | exact Drawn0.refl _ | apply Drawn0.step)⟩
  case round =>
    clear H'
    obtain ⟨x3_1, x4_1, rfl, rfl, HA, HK1, ⟨m1, rfl⟩⟩ := hrel
    cases gk with
    | zero => exact absurd HA.out (by simp [maquetteref13_Of.l0])
    | succ k1 =>
      have H := HA.out
      clear HA
      simp only [maquetteref13_Of.l0] at H
      by_cases c2 : x4_1 < (a0.size : Int)
      · rw [if_pos c2] at H
        have c2b0 : decide (x4_1 < (a0.size : Int)) = true := decide_eq_true c2
        clear c2
        by_cases c3 : 0 ≤ x4_1
        · rw [if_pos c3] at H
          have c3b0 : decide (0 ≤ x4_1) = true := decide_eq_true c3
          clear c3
          have H' := Aside0.mk H
          clear H
          have p4 : 0 ≤ (x4_1 : Int) := of_decide_eq_true (by first | (with_reducible assumption) | assumption)
          have q4 : x4_1 < (a0.size : Int) := of_decide_eq_true (by first | (with_reducible assumption) | assumption)
          have hx4 := bt_at a0 x4_1
          replace p4 := eq_true p4
          replace q4 := eq_true q4
          go_wp2
          go_roundg k1
          case measure => have := HK1.out; omega
          case rel => exact ⟨(Go.bits .or .i64 (wrap64 (x3_1 * 256)) (wrap64 (bt a0 x4_1))), (wrap64 (x4_1 + 1)), (by first | rfl | (simp; done) | (simp [*]; done)), (by first | rfl | (simp; done) | (simp [*]; done)), H', ⟨by have := HK1.out; omega⟩, by repeat (first | exact Drawn0.refl _ | apply Drawn0.step)⟩
        · rw [if_neg c3] at H
          exact absurd H (by simp)
      · rw [if_neg c2] at H
        have c2b0 : decide (x4_1 < (a0.size : Int)) = false := decide_eq_false c2
        clear c2
        obtain rfl := Option.some.inj H
        go_wp2
        go_ret
        exact ⟨by first | rfl | (simp; done) | (simp [*]; done), by repeat (first | exact Drawn0.refl _ | apply Drawn0.step)⟩
end Go.Proofs.Ytlgmabibcpkdmaa.PAll
end
section
namespace Go.Proofs.Ytlgmabibcpkdmaa.PAll
open Go.RowKit Go.Proofs.YtlgmabibcpkdmaaW.PrintWords Go.Proofs.YtlgmabibcpkdmaaW.PrintLast Go.Proofs.YtlgmabibcpkdmaaW.PrintMore
open Go.Proofs.Ytlgmabibcpkdmaa.V (byI byL byL_length byL_snoc strOf_bytesOf strOf_append okK okP okR ahK idxV idxB idxA idxB_length lfT lfV lfB lfA lfT_length okR_size all_at fullA zer)
set_option linter.unusedSimpArgs false
set_option linter.unusedVariables false
theorem wrap64_id {x : Int} (h0 : 0 ≤ x) (h1 : x < 1000000000) : wrap64 x = x := by unfold wrap64; omega
theorem and255 (x : Int) : Go.bits .and .i64 x 255 % 256 = x % 256 := by
  unfold Go.bits
  show IntKind.i64.wrap ((BitVec.ofInt 64 x &&& BitVec.ofInt 64 255).toNat : Int) % 256 = _
  rw [BitVec.toNat_and, show (BitVec.ofInt 64 255).toNat = 2 ^ 8 - 1 by decide, Nat.and_two_pow_sub_one_eq_mod, BitVec.toNat_ofInt, IntKind.wrap_i64]
  omega
theorem byL_drop (x : Int) (n i : Nat) (hi : i < n) : (byL x n n).drop i = byI x ((n - 1 - i : Nat) : Int) :: (byL x n n).drop (i + 1) := by
  rw [List.drop_eq_getElem_cons (by rw [byL_length]; exact hi)]
  congr 1
  unfold byL
  rw [List.getElem_map, List.getElem_range]
  congr 1; omega
theorem big_loop (x : Int) (n : Nat) (hn : n ≤ 7) (i : Nat) : ∀ (k : Nat), i ≤ n → i < k → maquetteref13_Big.l0 k (x / 256 ^ (n - i)) (List.replicate i 0 ++ (byL x n n).drop i) ((i : Int) - 1) = some (strOfNums (byL x n n)) := by
  induction i with
  | zero =>
    intro k _ hk
    obtain ⟨k, rfl⟩ : ∃ m, k = m + 1 := ⟨k - 1, by omega⟩
    simp only [maquetteref13_Big.l0]
    rw [if_neg (by omega)]; rfl
  | succ i ih =>
    intro k hi hk
    obtain ⟨k, rfl⟩ : ∃ m, k = m + 1 := ⟨k - 1, by omega⟩
    simp only [maquetteref13_Big.l0]
    have hlen : (List.replicate (i + 1) (0 : Int) ++ (byL x n n).drop (i + 1)).length = n := by
      rw [List.length_append, List.length_replicate, List.length_drop, byL_length]; omega
    rw [if_pos (by omega), if_pos (by omega), if_pos (by rw [hlen]; omega), and255]
    have e1 : x / 256 ^ (n - (i + 1)) / 256 = x / 256 ^ (n - i) := by
      rw [Int.ediv_ediv_of_nonneg (by exact Int.pow_nonneg (by decide)), ← Int.pow_succ]
      congr 2; omega
    have e2 : (x / 256 ^ (n - (i + 1))) % 256 = byI x ((n - 1 - i : Nat) : Int) := by
      rw [byI_plain x (n - 1 - i) (by omega)]; congr 3
      omega
    have e3 : ((((i + 1 : Nat) : Int) - 1)).toNat = i := by omega
    have e4 : wrap64 (((i + 1 : Nat) : Int) - 1 - 1) = (i : Int) - 1 := by unfold wrap64; omega
    have e5 : (List.replicate (i + 1) (0 : Int) ++ (byL x n n).drop (i + 1)).set i (byI x ((n - 1 - i : Nat) : Int)) = List.replicate i 0 ++ (byL x n n).drop i := by
      rw [byL_drop x n i (by omega), List.replicate_succ', List.append_assoc, List.set_append, if_neg (by rw [List.length_replicate]; omega), List.length_replicate, Nat.sub_self]
      rfl
    rw [e1, e2, e3, e4, e5]
    exact ih k (by omega) (by omega)
theorem big_k (x : Int) (n : Nat) (hn : n ≤ 7) (m : Int) (hm : m = n) (k : Nat) (hk : n < k) : maquetteref13_Big.f k x m = some (strOfNums (byL x m n)) := by
  subst hm
  unfold maquetteref13_Big.f
  have h := big_loop x n hn n k (Nat.le_refl _) hk
  rw [Nat.sub_self, Int.pow_zero, Int.ediv_one, List.drop_of_length_le (by rw [byL_length]; omega), List.append_nil] at h
  rw [if_pos (by omega), Int.toNat_natCast, if_pos (by omega), show wrap64 ((n : Int) - 1) = (n : Int) - 1 from by unfold wrap64; omega]
  exact h
theorem of_loop {L : List Int} (hL : okB L) (hl : L.length ≤ 100000) (d : Nat) : ∀ (k i : Nat) (v : Int), L.length - i = d → i ≤ L.length → d < k → maquetteref13_Of.l0 k (strOfNums L) v (i : Int) = some ((L.drop i).foldl vst v) := by
  induction d with
  | zero =>
    intro k i v hd hi hk
    obtain ⟨k, rfl⟩ : ∃ m, k = m + 1 := ⟨k - 1, by omega⟩
    simp only [maquetteref13_Of.l0, strOfNums_size]
    rw [if_neg (by omega), List.drop_of_length_le (by omega)]; rfl
  | succ d ih =>
    intro k i v hd hi hk
    obtain ⟨k, rfl⟩ : ∃ m, k = m + 1 := ⟨k - 1, by omega⟩
    have hlt : i < L.length := by omega
    simp only [maquetteref13_Of.l0, strOfNums_size]
    rw [if_pos (by omega), if_pos (by omega), show wrap64 ((i : Int) + 1) = ((i + 1 : Nat) : Int) from by unfold wrap64; omega, ih k (i + 1) _ (by omega) (by omega) (by omega), bt_strOf hL, List.drop_eq_getElem_cons hlt, List.foldl_cons]
    have : rd L (i : Int) = L[i] := by simp [rd, List.getD, List.getElem?_eq_getElem hlt]
    rw [this]; rfl
theorem of_k {L : List Int} (hL : okB L) (hl : L.length ≤ 100000) (k : Nat) (hk : L.length < k) : maquetteref13_Of.f k (strOfNums L) = some (rdV L) := by
  unfold maquetteref13_Of.f
  have := of_loop hL hl L.length k 0 0 (by omega) (by omega) hk
  rw [List.drop_zero] at this
  exact this
theorem of_at {L : List Int} (hL : okB L) (i j : Nat) (hj : j - i ≤ 100) (k : Nat) (hk : 100 < k) : maquetteref13_Of.f k ((strOfNums L).extract i j) = some (rdV ((L.drop i).take (j - i))) := by
  rw [extract_strOf]
  have : ((L.drop i).take (j - i)).length ≤ 100 := by rw [List.length_take]; omega
  exact of_k (okB_take (okB_drop hL i) _) (by omega) k (by omega)
theorem rd_range2 {L : List Int} (hL : okB L) (i : Nat) : 0 ≤ rd L (i : Int) ∧ rd L (i : Int) < 256 := by
  unfold rd
  rw [Int.toNat_natCast, List.getD]
  by_cases h : i < L.length
  · rw [List.getElem?_eq_getElem h]; exact hL _ (List.getElem_mem h)
  · rw [List.getElem?_eq_none (by omega)]; decide
def okQ (k : Int) : Bool := decide (0 ≤ k) && decide (k ≤ 2147483647)
theorem rkey_f (a : Int) : maquetteref13_key.f a = some (okQ a) := by
  unfold maquetteref13_key.f okQ
  by_cases h : a ≥ 0
  · rw [if_pos h, decide_eq_true (show 0 ≤ a from h)]; rfl
  · rw [if_neg h, decide_eq_false (show ¬ 0 ≤ a from h)]; rfl
theorem rpage_f (a : Int) : maquetteref13_page.f a = some (okP a) := by
  unfold maquetteref13_page.f okP
  by_cases h : a ≥ 2
  · rw [if_pos h, decide_eq_true (show 2 ≤ a from h)]; rfl
  · rw [if_neg h, decide_eq_false (show ¬ 2 ≤ a from h)]; rfl
theorem fill_k (L : List Int) (h : L.length ≤ 128) : maquetteref13_fill.f (strOfNums L) = some (strOfNums (pad L)) := by
  unfold maquetteref13_fill.f maquetteref13_Zeros.f
  have e : mx (wrap64 (128 - ((strOfNums L).size : Int))) 0 = ((128 - L.length : Nat) : Int) := by
    rw [strOfNums_size]; unfold mx wrap64; split <;> omega
  rw [e, if_pos (by omega), Int.toNat_natCast, if_pos (by omega), Option.bind_some, strOfNums_size, strOfNums_size, List.length_replicate, if_pos (by omega), strOf_append]
  rfl
theorem lit73 : (⟨#[73]⟩ : ByteArray) = strOfNums [73] := by decide +kernel
theorem lit76 : (⟨#[76]⟩ : ByteArray) = strOfNums [76] := by decide +kernel
theorem lit67 : (⟨#[67]⟩ : ByteArray) = strOfNums [67] := by decide +kernel
theorem byL1 (x : Int) : byL x 1 1 = [x % 256] := by
  unfold byL
  simp only [List.range_one, List.map_cons, List.map_nil]
  rw [show (1 : Int) - 1 - ((0 : Nat) : Int) = ((0 : Nat) : Int) from rfl, byI_plain _ 0 (by decide), Int.pow_zero, Int.ediv_one]
theorem key_ahead (Ky : Int → Int) (i : Nat) (hp : ∀ j : Nat, j < i → okK (Ky j) (ahK Ky j) = true) : okK (Ky i) (ahK Ky i) = (okQ (Ky i) && !(decide ((i : Int) > 0) && decide (Ky ((i : Int) - 1) ≥ Ky i))) := by
  unfold okK okQ ahK
  cases i with
  | zero =>
    rw [if_pos (show ((0 : Nat) : Int) = 0 from rfl), decide_eq_false (show ¬ ((0 : Nat) : Int) > 0 by decide), Bool.false_and, Bool.not_false, Bool.and_true, Bool.eq_iff_iff]
    simp only [Bool.and_eq_true, decide_eq_true_eq]
    omega
  | succ i =>
    have h0 := (keys_pos hp i (by omega)).1
    have e : ((i + 1 : Nat) : Int) - 1 = (i : Int) := by omega
    rw [if_neg (by omega), e, decide_eq_true (show ((i + 1 : Nat) : Int) > 0 by omega), Bool.true_and, Bool.eq_iff_iff]
    simp only [Bool.and_eq_true, decide_eq_true_eq, Bool.not_eq_true', decide_eq_false_iff_not]
    omega
end Go.Proofs.Ytlgmabibcpkdmaa.PAll
end

/- Of the texts that the row stands on, what it needs (part 23), put together by a program of this session. -/
import Derived.Test.YtdhaoaehboonpaaGreatZcT22
import Derived.Deep.RegionHeld3
import Derived.Deep.RegionWith
import Derived.Deep.DeepMust
import Derived.Test.YtdhaoaehboonpaaGreatZcT13
import Derived.Deep.DeepCutAuto
import Derived.Deep.CutBlock
import Derived.Outline
import Derived.Test.YtdhaoaehboonpaaGreatZcT15
import Derived.Deep.LoopGhost
section
namespace Go.Proofs.YtdhaoaehboonpaaGreat.Cr
open Go.RowKit Go.Proofs.YtdhaoaehboonpaaGreat.PRd Go.Proofs.YtdhaoaehboonpaaGreatW.PrintWords Go.Proofs.YtdhaoaehboonpaaGreatW.PrintLast Go.Proofs.YtdhaoaehboonpaaGreatW.PrintMore
set_option linter.unusedSimpArgs false
set_option linter.unusedVariables false
def by8 (x : Int) : UInt8 := UInt8.ofNat (x % 256).toNat
def be8 (v : Int) : List UInt8 := [by8 (v / 2 ^ 56), by8 (v / 2 ^ 48), by8 (v / 2 ^ 40), by8 (v / 2 ^ 32), by8 (v / 2 ^ 24), by8 (v / 2 ^ 16), by8 (v / 2 ^ 8), by8 (v / 2 ^ 0)]
def be2 (v : Int) : List UInt8 := [by8 (v / 2 ^ 8), by8 (v / 2 ^ 0)]
theorem num_step (k : Nat) (v : Int) (i : Nat) (l : List Int) (hi : i ≤ 7) (hl : l.length ≤ 100) :
    crown_number.l0 (k + 1) v (i : Int) l = crown_number.l0 k v ((i : Int) - 1) (l ++ [(v / 2 ^ (8 * i)) % 256]) := by
  have e1 : wrap64 (8 * (i : Int)) = ((8 * i : Nat) : Int) := by unfold wrap64; omega
  have e2 : wrap64 ((i : Int) - 1) = (i : Int) - 1 := by unfold wrap64; omega
  have e3 : shr .i64 v ((8 * i : Nat) : Int) = v / 2 ^ (8 * i) := by
    unfold shr
    show v / 2 ^ min (((8 * i : Nat) : Int).toNat) 64 = _
    rw [Int.toNat_natCast, Nat.min_eq_left (by omega)]
  simp only [crown_number.l0]
  rw [if_pos (by omega), e1, if_pos (by omega), if_pos (by omega), e2, e3]
theorem num_end (k : Nat) (v : Int) (l : List Int) : crown_number.l0 (k + 1) v (-1) l = some (strOfNums l) := by
  simp only [crown_number.l0]; rw [if_neg (by omega)]
theorem number8 (v : Int) (m : Nat) : crown_number.f (m + 10) v 8 = some ⟨(be8 v).toArray⟩ := by
  unfold crown_number.f
  rw [show wrap64 (8 - 1) = ((7 : Nat) : Int) from by unfold wrap64; decide]
  rw [num_step _ _ _ _ (by decide) (by simp), show ((7 : Nat) : Int) - 1 = ((6 : Nat) : Int) from rfl,
    num_step _ _ _ _ (by decide) (by simp), show ((6 : Nat) : Int) - 1 = ((5 : Nat) : Int) from rfl,
    num_step _ _ _ _ (by decide) (by simp), show ((5 : Nat) : Int) - 1 = ((4 : Nat) : Int) from rfl,
    num_step _ _ _ _ (by decide) (by simp), show ((4 : Nat) : Int) - 1 = ((3 : Nat) : Int) from rfl,
    num_step _ _ _ _ (by decide) (by simp), show ((3 : Nat) : Int) - 1 = ((2 : Nat) : Int) from rfl,
    num_step _ _ _ _ (by decide) (by simp), show ((2 : Nat) : Int) - 1 = ((1 : Nat) : Int) from rfl,
    num_step _ _ _ _ (by decide) (by simp), show ((1 : Nat) : Int) - 1 = ((0 : Nat) : Int) from rfl,
    num_step _ _ _ _ (by decide) (by simp), show ((0 : Nat) : Int) - 1 = -1 from rfl, num_end]
  rfl
theorem number2 (v : Int) (m : Nat) : crown_number.f (m + 10) v 2 = some ⟨(be2 v).toArray⟩ := by
  unfold crown_number.f
  rw [show wrap64 (2 - 1) = ((1 : Nat) : Int) from by unfold wrap64; decide]
  rw [num_step _ _ _ _ (by decide) (by simp), show ((1 : Nat) : Int) - 1 = ((0 : Nat) : Int) from rfl,
    num_step _ _ _ _ (by decide) (by simp), show ((0 : Nat) : Int) - 1 = -1 from rfl, num_end]
  rfl
def okC (g r p : Int) : Bool := decide (1 ≤ g) && decide (g ≤ 4611686018427387904) && decide (8 ≤ p) && decide (p ≤ 200) && decide (2 ≤ r) && decide (r < p)
theorem okC_iff {g r p : Int} : okC g r p = true ↔ 1 ≤ g ∧ g ≤ 4611686018427387904 ∧ 8 ≤ p ∧ p ≤ 200 ∧ 2 ≤ r ∧ r < p := by
  unfold okC; simp [and_assoc]
def enc (g r p : Int) : List UInt8 := be8 g ++ (be2 r ++ (be2 p ++ (List.replicate 108 0 ++ be8 g)))
def encB (g r p : Int) : ByteArray := ⟨(enc g r p).toArray⟩
theorem enc_length (g r p : Int) : (enc g r p).length = 128 := by
  unfold enc; simp only [List.length_append, List.length_replicate]; rfl
theorem encB_size (g r p : Int) : (encB g r p).size = 128 := by
  show (enc g r p).toArray.size = 128
  rw [List.size_toArray, enc_length]
def putA (g r p : Int) : ByteArray := if okC g r p = true then encB g r p else ⟨#[]⟩
theorem mk_append (a b : List UInt8) : (⟨a.toArray⟩ : ByteArray) ++ ⟨b.toArray⟩ = ⟨(a ++ b).toArray⟩ := by
  apply ByteArray.ext
  simp
theorem mk_size (a : List UInt8) : (⟨a.toArray⟩ : ByteArray).size = a.length := by
  show a.toArray.size = _; simp
theorem be8_len (v : Int) : (be8 v).length = 8 := rfl
theorem be2_len (v : Int) : (be2 v).length = 2 := rfl
def vstep (v : Int) (c : UInt8) : Int := Go.bits .or .i64 (wrap64 (v * 256)) (wrap64 (c.toNat : Int))
def val (l : List UInt8) : Int := l.foldl vstep 0
theorem bt_get (b : ByteArray) (i : Nat) (h : i < b.size) : bt b (i : Int) = (b[i].toNat : Int) := by
  unfold bt; simp [h]
theorem value_loop (b : ByteArray) (hb : b.size ≤ 1000) (d : Nat) : ∀ (k i : Nat) (v : Int), b.size - i = d → i ≤ b.size → d < k →
    crown_value.l0 k b v (b.size : Int) (i : Int) = some ((b.data.toList.drop i).foldl vstep v) := by
  induction d with
  | zero =>
    intro k i v hd hi hk
    obtain ⟨k, rfl⟩ : ∃ m, k = m + 1 := ⟨k - 1, by omega⟩
    simp only [crown_value.l0]
    rw [if_neg (by omega), List.drop_of_length_le (by simp; omega)]
    rfl
  | succ d ih =>
    intro k i v hd hi hk
    obtain ⟨k, rfl⟩ : ∃ m, k = m + 1 := ⟨k - 1, by omega⟩
    have hlt : i < b.size := by omega
    simp only [crown_value.l0]
    rw [if_pos (by omega), if_pos (by omega), if_pos (by omega), show wrap64 ((i : Int) + 1) = ((i + 1 : Nat) : Int) from by unfold wrap64; omega,
      ih k (i + 1) _ (by omega) (by omega) (by omega), bt_get b i hlt]
    have hl : i < b.data.toList.length := by simpa using hlt
    rw [List.drop_eq_getElem_cons hl, List.foldl_cons]
    rfl
theorem value_f (b : ByteArray) (hb : b.size ≤ 1000) (k : Nat) (hk : b.size < k) : crown_value.f k b = some (val b.data.toList) := by
  unfold crown_value.f
  have := value_loop b hb b.size k 0 0 (by omega) (by omega) hk
  rw [List.drop_zero] at this
  exact this
theorem vstep_plain {v : Int} {c : UInt8} (h0 : 0 ≤ v) (h1 : v < 36028797018963968) : vstep v c = v * 256 + c.toNat := by
  have hc := c.toNat_lt
  unfold vstep
  have e1 : wrap64 (v * 256) = v * 256 := by unfold wrap64; omega
  have e2 : wrap64 (c.toNat : Int) = c.toNat := by unfold wrap64; omega
  rw [e1, e2]
  have hw : ∀ n : Int, 0 ≤ n → n < 2 ^ 63 → IntKind.i64.wrap n = n := fun n a b => by
    have b' : n < 9223372036854775808 := b
    rw [IntKind.wrap_i64]; omega
  have h64 : v * 256 < 2 ^ 63 := by show v * 256 < 9223372036854775808; omega
  have c64 : (c.toNat : Int) < 2 ^ 63 := by show (c.toNat : Int) < 9223372036854775808; omega
  exact bits_join .i64 63 (by decide) hw 8 _ _ (by omega) (by omega) h64 (by omega) (by omega) c64
theorem by8_nat {x : Int} : ((by8 x).toNat : Int) = x % 256 := by
  unfold by8
  rw [UInt8.toNat_ofNat']
  omega
theorem vstep_div {x y : Int} (h0 : 0 ≤ x) (h1 : x ≤ 4611686018427387904) (e : y = x / 256) : vstep y (by8 x) = x := by
  subst e
  rw [vstep_plain (by omega) (by omega), by8_nat]
  omega
theorem fold_step {y z : Int} {c : UInt8} {l : List UInt8} {r : Int} (h : vstep y c = z) (k : l.foldl vstep z = r) : (c :: l).foldl vstep y = r := by
  rw [List.foldl_cons, h]; exact k
theorem val2 {v : Int} (h0 : 0 ≤ v) (h1 : v < 65536) : val (be2 v) = v := by
  have s1 : vstep 0 (by8 (v / 2 ^ 8)) = v / 2 ^ 8 := vstep_div (by omega) (by omega) (by omega)
  have s2 : vstep (v / 2 ^ 8) (by8 (v / 2 ^ 0)) = v / 2 ^ 0 := vstep_div (by omega) (by omega) (by omega)
  have e : v / 2 ^ 0 = v := by omega
  unfold val be2
  exact fold_step s1 (fold_step s2 e)
theorem val8 {v : Int} (h0 : 0 ≤ v) (h1 : v ≤ 4611686018427387904) : val (be8 v) = v := by
  have s1 : vstep 0 (by8 (v / 2 ^ 56)) = v / 2 ^ 56 := vstep_div (by omega) (by omega) (by omega)
  have s2 : vstep (v / 2 ^ 56) (by8 (v / 2 ^ 48)) = v / 2 ^ 48 := vstep_div (by omega) (by omega) (by omega)
  have s3 : vstep (v / 2 ^ 48) (by8 (v / 2 ^ 40)) = v / 2 ^ 40 := vstep_div (by omega) (by omega) (by omega)
  have s4 : vstep (v / 2 ^ 40) (by8 (v / 2 ^ 32)) = v / 2 ^ 32 := vstep_div (by omega) (by omega) (by omega)
  have s5 : vstep (v / 2 ^ 32) (by8 (v / 2 ^ 24)) = v / 2 ^ 24 := vstep_div (by omega) (by omega) (by omega)
  have s6 : vstep (v / 2 ^ 24) (by8 (v / 2 ^ 16)) = v / 2 ^ 16 := vstep_div (by omega) (by omega) (by omega)
  have s7 : vstep (v / 2 ^ 16) (by8 (v / 2 ^ 8)) = v / 2 ^ 8 := vstep_div (by omega) (by omega) (by omega)
  have s8 : vstep (v / 2 ^ 8) (by8 (v / 2 ^ 0)) = v / 2 ^ 0 := vstep_div (by omega) (by omega) (by omega)
  have e : v / 2 ^ 0 = v := by omega
  unfold val be8
  exact fold_step s1 (fold_step s2 (fold_step s3 (fold_step s4 (fold_step s5 (fold_step s6 (fold_step s7 (fold_step s8 e)))))))
def gG (b : ByteArray) : Int := val (b.data.toList.take 8)
def gR (b : ByteArray) : Int := val ((b.data.toList.drop 8).take 2)
def gP (b : ByteArray) : Int := val ((b.data.toList.drop 10).take 2)
def isC (b : ByteArray) : Bool := okC (gG b) (gR b) (gP b) && decide (b.data.toList = enc (gG b) (gR b) (gP b))
def getA (b : ByteArray) : Int × Int × Int × Bool := if isC b = true then (gG b, gR b, gP b, true) else (0, 0, 0, false)
theorem extract_list (b : ByteArray) (i j : Nat) : (b.extract i j).data.toList = (b.data.toList.drop i).take (j - i) := by
  rw [ByteArray.data_extract, Array.toList_extract, List.extract_eq_take_drop]
theorem gG_enc {g r p : Int} (h : okC g r p = true) : gG (encB g r p) = g := by
  obtain ⟨h1, h2, _⟩ := okC_iff.1 h
  unfold gG
  have : (encB g r p).data.toList.take 8 = be8 g := rfl
  rw [this, val8 (by omega) (by omega)]
theorem gR_enc {g r p : Int} (h : okC g r p = true) : gR (encB g r p) = r := by
  obtain ⟨h1, h2, _⟩ := okC_iff.1 h
  unfold gR
  have : ((encB g r p).data.toList.drop 8).take 2 = be2 r := rfl
  rw [this, val2 (by omega) (by omega)]
theorem gP_enc {g r p : Int} (h : okC g r p = true) : gP (encB g r p) = p := by
  obtain ⟨h1, h2, _⟩ := okC_iff.1 h
  unfold gP
  have : ((encB g r p).data.toList.drop 10).take 2 = be2 p := rfl
  rw [this, val2 (by omega) (by omega)]
theorem getA_enc {g r p : Int} (h : okC g r p = true) : getA (encB g r p) = (g, r, p, true) := by
  have : isC (encB g r p) = true := by
    unfold isC
    rw [gG_enc h, gR_enc h, gP_enc h, h]
    exact decide_eq_true rfl
  unfold getA
  rw [if_pos this, gG_enc h, gR_enc h, gP_enc h]
theorem isC_enc {b : ByteArray} (h : isC b = true) : okC (gG b) (gR b) (gP b) = true ∧ b.data.toList = enc (gG b) (gR b) (gP b) := by
  unfold isC at h
  rw [Bool.and_eq_true] at h
  exact ⟨h.1, of_decide_eq_true h.2⟩
def pickA (a b : ByteArray) : Int × Int × Int × Int × Bool :=
  if isC a = true ∧ (isC b = true → gG b ≤ gG a) then (gG a, gR a, gP a, 0, true)
  else if isC b = true then (gG b, gR b, gP b, 1, true) else (0, 0, 0, 0, false)
theorem and1 (n : Int) : Go.bits .and .i64 n 1 = n % 2 := by
  unfold Go.bits
  show IntKind.i64.wrap ((BitVec.ofInt 64 n &&& BitVec.ofInt 64 1).toNat : Int) = _
  rw [BitVec.toNat_and, show (BitVec.ofInt 64 1).toNat = 2 ^ 1 - 1 by decide, Nat.and_two_pow_sub_one_eq_mod, BitVec.toNat_ofInt, IntKind.wrap_i64]
  omega
theorem slot_f (n : Int) : crown_Slot.f n = some (n % 2) := by unfold crown_Slot.f; rw [and1]
theorem isC_encB {g r p : Int} (h : okC g r p = true) : isC (encB g r p) = true := by
  have := getA_enc h
  unfold getA at this
  cases hc : isC (encB g r p)
  · rw [hc] at this; simp at this
  · rfl
theorem putA_ok {g r p : Int} (h : okC g r p = true) : putA g r p = encB g r p := by unfold putA; rw [if_pos h]
end Go.Proofs.YtdhaoaehboonpaaGreat.Cr
end
section
namespace Go.Proofs.YtdhaoaehboonpaaGreat.Cr
open Go.RowKit Go.Proofs.YtdhaoaehboonpaaGreat.PRd Go.Proofs.YtdhaoaehboonpaaGreatW.PrintWords Go.Proofs.YtdhaoaehboonpaaGreatW.PrintLast Go.Proofs.YtdhaoaehboonpaaGreatW.PrintMore
set_option linter.unusedSimpArgs false
set_option linter.unusedVariables false
theorem num8_any (v : Int) (w : World) : Calls Tryz.prog 158 #[.int .i64 v, .int .i64 8] w fun e w' => e = .returned (.string ⟨(be8 v).toArray⟩) ∧ Below w.heap.size w w' := crown_number.calls 10 v 8 _ w (number8 v 0)
theorem num2_any (v : Int) (w : World) : Calls Tryz.prog 158 #[.int .i64 v, .int .i64 2] w fun e w' => e = .returned (.string ⟨(be2 v).toArray⟩) ∧ Below w.heap.size w w' := crown_number.calls 10 v 2 _ w (number2 v 0)
theorem value_any (b : ByteArray) (hb : b.size ≤ 1000) (w : World) : Calls Tryz.prog 159 #[.string b] w fun e w' => e = .returned (.int .i64 (val b.data.toList)) ∧ Drawn0 w w' := crown_value.calls (b.size + 1) b _ w (value_f b hb _ (by omega))
theorem slot_any (n : Int) (w : World) : Calls Tryz.prog 106 #[.int .i64 n] w fun e w' => e = .returned (.int .i64 (n % 2)) ∧ Drawn0 w w' := crown_Slot.calls n _ w (slot_f n)
def zer108 : ByteArray := ⟨(List.replicate 108 (0 : UInt8)).toArray⟩
theorem zer108_size : zer108.size = 108 := by decide +kernel
theorem rep_any (w : World) : Calls Tryz.prog 103 #[.string ⟨#[0]⟩, .int .i64 108] w fun e w' => e = .returned (.string zer108) ∧ Below w.heap.size w w' := by
  have h := Tryz.strings_Repeat ⟨#[0]⟩ 108 w (by decide) (by decide)
  have e : (⟨(Lib.repeatL (⟨#[0]⟩ : ByteArray).data.toList 108).toArray⟩ : ByteArray) = zer108 := by decide +kernel
  rw [e] at h
  exact h
theorem enc_join (g r p : Int) : (⟨(be8 g).toArray⟩ : ByteArray) ++ ⟨(be2 r).toArray⟩ ++ ⟨(be2 p).toArray⟩ ++ zer108 ++ ⟨(be8 g).toArray⟩ = encB g r p := by
  unfold zer108 encB enc
  simp only [mk_append, List.append_assoc]
theorem put_bad (g r p : Int) (hk : okC g r p = false) : putA g r p = ⟨#[]⟩ := by unfold putA; rw [hk]; rfl
set_option maxHeartbeats 8000000 in
set_option maxRecDepth 100000 in
theorem put_any (g r p : Int) (w : World) :
    Calls Tryz.prog 105 #[.agg #[.int .i64 g, .int .i64 r, .int .i64 p]] w fun e w' => e = .returned (.tuple #[.string (putA g r p), .bool (okC g r p)]) ∧ Below w.heap.size w w' := by
  have HB := Aside0.mk (below_alloc (Below.refl w.heap.size w) (.cells #[.int .i64 g, .int .i64 r, .int .i64 p] 97))
  have h := @okC_iff g r p
  cases hk : okC g r p with
  | false =>
    have hn : ¬ (1 ≤ g ∧ g ≤ 4611686018427387904 ∧ 8 ≤ p ∧ p ≤ 200 ∧ 2 ≤ r ∧ r < p) := fun hh => by rw [h.2 hh] at hk; cases hk
    rw [put_bad g r p hk]
    clear h hk
    by_cases c1 : g < 1
    · have d1 := decide_eq_true c1
      clear c1 hn
      go_enter Tryz.func105, Tryz.ntmps105
      go_wp2
      go_ret2
      exact ⟨rfl, by repeat (first | (with_reducible first | exact HB.out | apply below_alloc | apply pw_below_drewN | apply below_drew1) | exact HB.out)⟩
    · have d1 := decide_eq_false c1
      by_cases c2 : 4611686018427387904 < g
      · have d2 := decide_eq_true c2
        clear c1 c2 hn
        go_enter Tryz.func105, Tryz.ntmps105
        go_wp2
        go_ret2
        exact ⟨rfl, by repeat (first | (with_reducible first | exact HB.out | apply below_alloc | apply pw_below_drewN | apply below_drew1) | exact HB.out)⟩
      · have d2 := decide_eq_false c2
        by_cases c3 : p < 8
        · have d3 := decide_eq_true c3
          clear c1 c2 c3 hn
          go_enter Tryz.func105, Tryz.ntmps105
          go_wp2
          go_ret2
          exact ⟨rfl, by repeat (first | (with_reducible first | exact HB.out | apply below_alloc | apply pw_below_drewN | apply below_drew1) | exact HB.out)⟩
        · have d3 := decide_eq_false c3
          by_cases c4 : 200 < p
          · have d4 := decide_eq_true c4
            clear c1 c2 c3 c4 hn
            go_enter Tryz.func105, Tryz.ntmps105
            go_wp2
            go_ret2
            exact ⟨rfl, by repeat (first | (with_reducible first | exact HB.out | apply below_alloc | apply pw_below_drewN | apply below_drew1) | exact HB.out)⟩
          · have d4 := decide_eq_false c4
            by_cases c5 : r < 2
            · have d5 := decide_eq_true c5
              clear c1 c2 c3 c4 c5 hn
              go_enter Tryz.func105, Tryz.ntmps105
              go_wp2
              go_ret2
              exact ⟨rfl, by repeat (first | (with_reducible first | exact HB.out | apply below_alloc | apply pw_below_drewN | apply below_drew1) | exact HB.out)⟩
            · have d5 := decide_eq_false c5
              have d6 : decide (p ≤ r) = true := decide_eq_true (by omega)
              clear c1 c2 c3 c4 c5 hn
              go_enter Tryz.func105, Tryz.ntmps105
              go_wp2
              go_ret2
              exact ⟨rfl, by repeat (first | (with_reducible first | exact HB.out | apply below_alloc | apply pw_below_drewN | apply below_drew1) | exact HB.out)⟩
  | true =>
    obtain ⟨h1, h2, h3, h4, h5, h6⟩ := h.1 hk
    have d1 : decide (g < 1) = false := decide_eq_false (by omega)
    have d2 : decide (4611686018427387904 < g) = false := decide_eq_false (by omega)
    have d3 : decide (p < 8) = false := decide_eq_false (by omega)
    have d4 : decide (200 < p) = false := decide_eq_false (by omega)
    have d5 : decide (r < 2) = false := decide_eq_false (by omega)
    have d6 : decide (p ≤ r) = false := decide_eq_false (by omega)
    have hpa : putA g r p = encB g r p := by unfold putA; rw [if_pos hk]
    have hj := enc_join g r p
    have N8 := num8_any g
    have N2 := num2_any r
    have N3 := num2_any p
    have NR := rep_any
    obtain ⟨G, hG⟩ : ∃ G : ByteArray, G = ⟨(be8 g).toArray⟩ := ⟨_, rfl⟩
    obtain ⟨R, hR⟩ : ∃ R : ByteArray, R = ⟨(be2 r).toArray⟩ := ⟨_, rfl⟩
    obtain ⟨P, hP⟩ : ∃ P : ByteArray, P = ⟨(be2 p).toArray⟩ := ⟨_, rfl⟩
    obtain ⟨Z, hZ⟩ : ∃ Z : ByteArray, Z = zer108 := ⟨_, rfl⟩
    have sG : G.size = 8 := by rw [hG, mk_size, be8_len]
    have sR : R.size = 2 := by rw [hR, mk_size, be2_len]
    have sP : P.size = 2 := by rw [hP, mk_size, be2_len]
    have sZ : Z.size = 108 := by rw [hZ, zer108_size]
    rw [← hG, ← hR, ← hP, ← hZ] at hj
    rw [← hG] at N8
    rw [← hR] at N2
    rw [← hP] at N3
    rw [← hZ] at NR
    rw [hpa, ← hj]
    have t1 : (9223372036854775807 < G.size + R.size) = False := eq_false (by omega)
    have t2 : (9223372036854775807 < G.size + R.size + P.size) = False := eq_false (by omega)
    have t3 : (9223372036854775807 < G.size + R.size + P.size + Z.size) = False := eq_false (by omega)
    have t4 : (9223372036854775807 < G.size + R.size + P.size + Z.size + G.size) = False := eq_false (by omega)
    have N8 := Aside0.mk N8
    have N2 := Aside0.mk N2
    have N3 := Aside0.mk N3
    have NR := Aside0.mk NR
    have HX := Aside0.mk (MapKept.heap_alloc w (.cells #[.int .i64 g, .int .i64 r, .int .i64 p] 97)).1
    clear h hk h1 h2 h3 h4 h5 h6 hpa hj hG hR hP hZ sG sR sP sZ
    go_enter Tryz.func105, Tryz.ntmps105
    go_upto_region 4 with (go_at_call 158; (with_reducible refine (N8.out _).mono ?_); rintro e w1 ⟨rfl, hb⟩; have HB1 := Aside0.mk (below_step HB.out hb); have HX1 := Aside0.mk ((hb.block _ (blk_lt HX.out)).trans HX.out); clear hb HB HX)
    have x1 := (blk_cell HX1.out 1).trans rfl
    have x2 := (blk_cell HX1.out 2).trans rfl
    go_region_held3 (fun W' => W'.cell? ⟨w.heap.size, 1, none⟩ = some (.int .i64 r) ∧ W'.cell? ⟨w.heap.size, 2, none⟩ = some (.int .i64 p)) (go_keep) (first
      | (go_at_call 158; go_must (first | (with_reducible refine (N2.out _).mono ?_) | (with_reducible refine (N3.out _).mono ?_)); rintro e w2 ⟨rfl, hb⟩; have n0_ := Aside0.mk (below_step (by repeat (first | (with_reducible first | exact HB1.out | apply below_alloc | apply pw_below_drewN | apply below_drew1) | exact HB1.out)) hb); have n1_ := Aside0.mk ((hb.block _ (blk_lt HX1.out)).trans HX1.out); clear hb HB1 HX1; have HB1 := n0_; have HX1 := n1_; clear n0_ n1_; have y1 := (blk_cell HX1.out 1).trans rfl; have y2 := (blk_cell HX1.out 2).trans rfl)
      | (go_at_call 103; go_must (with_reducible refine (NR.out _).mono ?_); rintro e w2 ⟨rfl, hb⟩; have n0_ := Aside0.mk (below_step (by repeat (first | (with_reducible first | exact HB1.out | apply below_alloc | apply pw_below_drewN | apply below_drew1) | exact HB1.out)) hb); have n1_ := Aside0.mk ((hb.block _ (blk_lt HX1.out)).trans HX1.out); clear hb HB1 HX1; have HB1 := n0_; have HX1 := n1_; clear n0_ n1_; have y1 := (blk_cell HX1.out 1).trans rfl; have y2 := (blk_cell HX1.out 2).trans rfl))
    all_goals
      go_wp2
      go_ret2
      exact ⟨rfl, by repeat (first | (with_reducible first | exact HB1.out | apply below_alloc | apply pw_below_drewN | apply below_drew1) | exact HB1.out)⟩
end Go.Proofs.YtdhaoaehboonpaaGreat.Cr
end
section
namespace Go.Proofs.YtdhaoaehboonpaaGreat.Cr
open Go.RowKit Go.Proofs.YtdhaoaehboonpaaGreat.PRd Go.Proofs.YtdhaoaehboonpaaGreatW.PrintWords Go.Proofs.YtdhaoaehboonpaaGreatW.PrintLast Go.Proofs.YtdhaoaehboonpaaGreatW.PrintMore
set_option linter.unusedSimpArgs false
set_option linter.unusedVariables false
theorem isC_size {b : ByteArray} (h : isC b = true) : b.size = 128 := by
  have := congrArg List.length (isC_enc h).2
  rw [enc_length] at this
  have e : b.data.toList.length = b.size := by simp
  omega
theorem set3_other {w : World} {g k : Nat} {x y z : Value} {o : Obj} (hne : k ≠ g) (h : w.heap[k]? = some o) : (((w.setCell ⟨g, 0, none⟩ x).setCell ⟨g, 1, none⟩ y).setCell ⟨g, 2, none⟩ z).heap[k]? = some o := by
  rw [Below.heap_setCell _ _ _ _ hne, Below.heap_setCell _ _ _ _ hne, Below.heap_setCell _ _ _ _ hne, h]
theorem set3_self {w : World} {g : Nat} {x y z a b c : Value} {t : TypeId} (h : w.heap[g]? = some (.cells #[a, b, c] t (0, 0))) : (((w.setCell ⟨g, 0, none⟩ x).setCell ⟨g, 1, none⟩ y).setCell ⟨g, 2, none⟩ z).heap[g]? = some (.cells #[x, y, z] t (0, 0)) := by
  have h1 := blk_set h 0 x
  have h2 := blk_set h1 1 y
  have h3 := blk_set h2 2 z
  simpa using h3
theorem set3_below {w0 w : World} {g : Nat} {x y z : Value} (h : Below w0.heap.size w0 w) (hg : w0.heap.size ≤ g) : Below w0.heap.size w0 (((w.setCell ⟨g, 0, none⟩ x).setCell ⟨g, 1, none⟩ y).setCell ⟨g, 2, none⟩ z) := below_set (below_set (below_set h hg) hg) hg
theorem alloc_at {w : World} {cs : Array Value} {t : TypeId} {k : Nat} (h : k = w.heap.size) : (w.alloc (.cells cs t)).heap[k]? = some (.cells cs t (0, 0)) := by subst h; exact (MapKept.heap_alloc w _).1
theorem getA_no {b : ByteArray} (h : isC b = false) : getA b = (0, 0, 0, false) := by unfold getA; rw [h]; rfl
theorem getA_yes {b : ByteArray} (h : isC b = true) : getA b = (gG b, gR b, gP b, true) := by unfold getA; rw [h]; rfl
set_option maxHeartbeats 8000000 in
set_option maxRecDepth 100000 in
theorem get_any (b : ByteArray) (w : World) :
    Calls Tryz.prog 107 #[.string b] w fun e w' => e = .returned (.tuple #[.agg #[.int .i64 (getA b).1, .int .i64 (getA b).2.1, .int .i64 (getA b).2.2.1], .bool (getA b).2.2.2]) ∧ Below w.heap.size w w' := by
  have HB := Aside0.mk (below_alloc (Below.refl w.heap.size w) (.cells #[.int .i64 0, .int .i64 0, .int .i64 0] 97))
  have H0 := Aside0.mk (alloc_at (w := w) (cs := #[.int .i64 0, .int .i64 0, .int .i64 0]) (t := 97) rfl)
  by_cases hs : b.size = 128
  · have d1 : ((b.size : Int) == 128) = true := beq_iff_eq.2 (by omega)
    have d2 : ((b.size : Int) != 128) = false := by rw [hs]; rfl
    have k1 : (8 ≤ b.size) = True := eq_true (by omega)
    have k2 : (10 ≤ b.size) = True := eq_true (by omega)
    have k3 : (12 ≤ b.size) = True := eq_true (by omega)
    have k4 : ((8 : Int) ≤ (b.size : Int)) = True := eq_true (by omega)
    have k5 : ((10 : Int) ≤ (b.size : Int)) = True := eq_true (by omega)
    have k6 : ((12 : Int) ≤ (b.size : Int)) = True := eq_true (by omega)
    have v1 := value_any (b.extract 0 8) (by rw [ByteArray.size_extract]; omega)
    have v2 := value_any (b.extract 8 10) (by rw [ByteArray.size_extract]; omega)
    have v3 := value_any (b.extract 10 12) (by rw [ByteArray.size_extract]; omega)
    rw [extract_list] at v1 v2 v3
    change ∀ w, Calls Tryz.prog 159 #[.string (b.extract 0 8)] w fun e w' => e = .returned (.int .i64 (gG b)) ∧ Drawn0 w w' at v1
    change ∀ w, Calls Tryz.prog 159 #[.string (b.extract 8 10)] w fun e w' => e = .returned (.int .i64 (gR b)) ∧ Drawn0 w w' at v2
    change ∀ w, Calls Tryz.prog 159 #[.string (b.extract 10 12)] w fun e w' => e = .returned (.int .i64 (gP b)) ∧ Drawn0 w w' at v3
    have hpt := fun w => put_any (gG b) (gR b) (gP b) w
    have hya : isC b = true → getA b = (gG b, gR b, gP b, true) := getA_yes
    have hno : isC b = false → getA b = (0, 0, 0, false) := getA_no
    have hic : isC b = (okC (gG b) (gR b) (gP b) && decide (putA (gG b) (gR b) (gP b) = b)) := by
      unfold isC
      cases hk : okC (gG b) (gR b) (gP b) with
      | false => rfl
      | true =>
        have e1 : putA (gG b) (gR b) (gP b) = encB (gG b) (gR b) (gP b) := by unfold putA; rw [if_pos hk]
        rw [e1]
        simp only [Bool.true_and]
        refine decide_eq_decide.2 ⟨fun h => ?_, fun h => ?_⟩
        · apply ByteArray.ext
          apply Array.ext'
          rw [h]; rfl
        · have h2 := congrArg (fun x : ByteArray => x.data.toList) h
          exact h2.symm
    obtain ⟨G, hG⟩ : ∃ G, G = gG b := ⟨_, rfl⟩
    obtain ⟨R, hR⟩ : ∃ G, G = gR b := ⟨_, rfl⟩
    obtain ⟨P, hP⟩ : ∃ G, G = gP b := ⟨_, rfl⟩
    rw [← hG, ← hR, ← hP] at hic hya hpt
    rw [← hG] at v1
    rw [← hR] at v2
    rw [← hP] at v3
    obtain ⟨b8, hb8⟩ : ∃ x, x = b.extract 0 8 := ⟨_, rfl⟩
    obtain ⟨b10, hb10⟩ : ∃ x, x = b.extract 8 10 := ⟨_, rfl⟩
    obtain ⟨b12, hb12⟩ : ∃ x, x = b.extract 10 12 := ⟨_, rfl⟩
    have V1 := Aside0.mk v1
    have V2 := Aside0.mk v2
    have V3 := Aside0.mk v3
    obtain ⟨A, hA⟩ : ∃ A, A = getA b := ⟨_, rfl⟩
    rw [← hA] at hya hno ⊢
    have HY := Aside0.mk hya
    have HN := Aside0.mk hno
    have HIC := Aside0.mk hic
    have HPT := Aside0.mk hpt
    clear hs v1 v2 v3 hya hno hic hpt hG hR hP hA
    go_enter Tryz.func107, Tryz.ntmps107
    go_upto_region 3 with (fail)
    go_cut [4] (fun v4 W => v4 = .pointer (some ⟨w.heap.size + 1, 0, none⟩) ∧ Aside0 (W.heap[w.heap.size]? = some (.cells #[.int .i64 0, .int .i64 0, .int .i64 0] 97 (0, 0))) ∧ Aside0 (W.heap[w.heap.size + 1]? = some (.cells #[.int .i64 G, .int .i64 R, .int .i64 P] 97 (0, 0))) ∧ Aside0 (Below w.heap.size w W))
    case first =>
      go_region_with (first
        | (go_at_call 159; go_must (first | (with_reducible refine (V1.out _).mono ?_) | (with_reducible refine (V2.out _).mono ?_) | (with_reducible refine (V3.out _).mono ?_)); rintro e w2 ⟨rfl, hd⟩; obtain ⟨nd, rfl⟩ := hd))
      all_goals
        go_wp2_with (fail)
        go_meet
        refine ⟨rfl, ⟨?_⟩, ⟨?_⟩, ⟨?_⟩⟩
        · (with_reducible repeat (first | exact H0.out | refine blk_drewN ?_ _ | refine blk_drew ?_ | refine blk_alloc ?_ _ | refine set3_other (Nat.ne_of_lt (Nat.lt_succ_self _)) ?_))
        · first
            | (refine set3_self (a := .int .i64 0) (b := .int .i64 0) (c := .int .i64 0) ?_; (with_reducible repeat (first | refine blk_drewN ?_ _ | refine blk_drew ?_)); exact alloc_at (by simp))
            | ((with_reducible repeat (first | refine blk_drewN ?_ _ | refine blk_drew ?_)); exact alloc_at (by simp))
        · (with_reducible repeat (first | exact HB.out | refine set3_below ?_ (Nat.le_succ _) | apply below_alloc | apply pw_below_drewN | apply below_drew1))
    case rest =>
      obtain ⟨rfl, X0, X1, HB1⟩ := hcut
      have c1 := (blk_cell X1.out 0).trans rfl
      have c2 := (blk_cell X1.out 1).trans rfl
      have c3 := (blk_cell X1.out 2).trans rfl
      have z1 := (blk_cell X0.out 0).trans rfl
      have z2 := (blk_cell X0.out 1).trans rfl
      have z3 := (blk_cell X0.out 2).trans rfl
      have f1 := blk_frozen X0.out 0
      have f2 := blk_frozen X0.out 1
      have f3 := blk_frozen X0.out 2
      clear V1 V2 V3 H0
      cases hk : okC G R P with
      | false =>
        have HA := Aside0.mk (HN.out (by rw [HIC.out, hk]; rfl))
        have HPT2 := HPT.out
        rw [hk] at HPT2
        have HP := Aside0.mk HPT2
        clear HN HY HIC HPT HPT2 hk
        go_wp2_with (go_at_call 105; (with_reducible refine (HP.out _).mono ?_); rintro e w2 ⟨rfl, hb⟩; have n0_ := Aside0.mk (below_step HB1.out hb); have n1_ := Aside0.mk ((hb.block _ (blk_lt X0.out)).trans X0.out); have n2_ := Aside0.mk ((hb.block _ (blk_lt X1.out)).trans X1.out); clear hb HB1 X0 X1; have HB1 := n0_; have X0 := n1_; have X1 := n2_; clear n0_ n1_ n2_; have e1 := blk_frozen X0.out 0; have e2 := blk_frozen X0.out 1; have e3 := blk_frozen X0.out 2; have y1 := (blk_cell X0.out 0).trans rfl; have y2 := (blk_cell X0.out 1).trans rfl; have y3 := (blk_cell X0.out 2).trans rfl; have v1 := (blk_cell X1.out 0).trans rfl; have v2 := (blk_cell X1.out 1).trans rfl; have v3 := (blk_cell X1.out 2).trans rfl)
        refine bodyPost_ret (results_ct rfl _ _ w.heap.size 97 #[.int .i64 0, .int .i64 0, .int .i64 0] (0, 0) _ rfl (by exact set3_self X0.out) Tryz.underlying97 rfl (by kernel_rfl)) rfl ?_
        exact ⟨by rw [HA.out]; rfl, set3_below HB1.out (Nat.le_refl _)⟩
      | true =>
        have HPT2 := HPT.out
        rw [hk] at HPT2
        have hic := HIC.out
        rw [hk, Bool.true_and] at hic
        obtain ⟨pb, hpb⟩ : ∃ x, x = putA G R P := ⟨_, rfl⟩
        rw [← hpb] at HPT2 hic
        have HP := Aside0.mk HPT2
        by_cases he : pb = b
        · have HA := Aside0.mk (HY.out (by rw [hic, decide_eq_true he]))
          have k7 : decide (pb = b) = true := decide_eq_true he
          have k8 : (pb.toList == b.toList) = true := by rw [he]; simp
          have k9 : (pb.toList != b.toList) = false := by rw [he]; simp
          clear HN HY HIC HPT HPT2 hk hic hpb he
          go_wp2_with (go_at_call 105; (with_reducible refine (HP.out _).mono ?_); rintro e w2 ⟨rfl, hb⟩; have n0_ := Aside0.mk (below_step HB1.out hb); have n1_ := Aside0.mk ((hb.block _ (blk_lt X0.out)).trans X0.out); have n2_ := Aside0.mk ((hb.block _ (blk_lt X1.out)).trans X1.out); clear hb HB1 X0 X1; have HB1 := n0_; have X0 := n1_; have X1 := n2_; clear n0_ n1_ n2_; have e1 := blk_frozen X0.out 0; have e2 := blk_frozen X0.out 1; have e3 := blk_frozen X0.out 2; have y1 := (blk_cell X0.out 0).trans rfl; have y2 := (blk_cell X0.out 1).trans rfl; have y3 := (blk_cell X0.out 2).trans rfl; have v1 := (blk_cell X1.out 0).trans rfl; have v2 := (blk_cell X1.out 1).trans rfl; have v3 := (blk_cell X1.out 2).trans rfl)
          refine bodyPost_ret (results_ct rfl _ _ w.heap.size 97 #[.int .i64 G, .int .i64 R, .int .i64 P] (0, 0) _ rfl (by exact set3_self X0.out) Tryz.underlying97 rfl (by kernel_rfl)) rfl ?_
          exact ⟨by rw [HA.out]; rfl, set3_below HB1.out (Nat.le_refl _)⟩
        · have HA := Aside0.mk (HN.out (by rw [hic, decide_eq_false he]))
          have k7 : decide (pb = b) = false := decide_eq_false he
          have k8 : (pb.toList == b.toList) = false := by
            rw [ByteArray.toList_eq, ByteArray.toList_eq]
            refine beq_eq_false_iff_ne.2 (fun h => he ?_)
            apply ByteArray.ext
            exact Array.ext' h
          have k9 : (pb.toList != b.toList) = true := by unfold bne; rw [k8]; rfl
          clear HN HY HIC HPT HPT2 hk hic hpb he
          go_wp2_with (go_at_call 105; (with_reducible refine (HP.out _).mono ?_); rintro e w2 ⟨rfl, hb⟩; have n0_ := Aside0.mk (below_step HB1.out hb); have n1_ := Aside0.mk ((hb.block _ (blk_lt X0.out)).trans X0.out); have n2_ := Aside0.mk ((hb.block _ (blk_lt X1.out)).trans X1.out); clear hb HB1 X0 X1; have HB1 := n0_; have X0 := n1_; have X1 := n2_; clear n0_ n1_ n2_; have e1 := blk_frozen X0.out 0; have e2 := blk_frozen X0.out 1; have e3 := blk_frozen X0.out 2; have y1 := (blk_cell X0.out 0).trans rfl; have y2 := (blk_cell X0.out 1).trans rfl; have y3 := (blk_cell X0.out 2).trans rfl; have v1 := (blk_cell X1.out 0).trans rfl; have v2 := (blk_cell X1.out 1).trans rfl; have v3 := (blk_cell X1.out 2).trans rfl)
          refine bodyPost_ret (results_ct rfl _ _ w.heap.size 97 #[.int .i64 0, .int .i64 0, .int .i64 0] (0, 0) _ rfl (by exact set3_self X0.out) Tryz.underlying97 rfl (by kernel_rfl)) rfl ?_
          exact ⟨by rw [HA.out]; rfl, set3_below HB1.out (Nat.le_refl _)⟩
  · have hn : isC b = false := by
      cases h : isC b with
      | false => rfl
      | true => exact absurd (isC_size h) hs
    rw [getA_no hn]
    have c2b0 : ((b.size : Int) == 128) = false := beq_eq_false_iff_ne.mpr (by omega)
    have c2b1 : ((b.size : Int) != 128) = true := bne_iff_ne.mpr (by omega)
    clear hs hn
    go_enter Tryz.func107, Tryz.ntmps107
    go_wp2
    refine bodyPost_ret (results_ct rfl _ _ w.heap.size 97 #[.int .i64 0, .int .i64 0, .int .i64 0] (0, 0) _ rfl (by exact H0.out) Tryz.underlying97 rfl (by kernel_rfl)) rfl ?_
    exact ⟨rfl, HB.out⟩
end Go.Proofs.YtdhaoaehboonpaaGreat.Cr
end
section
namespace Go.Proofs.YtdhaoaehboonpaaGreat.Cr
open Go.RowKit Go.Proofs.YtdhaoaehboonpaaGreat.PRd Go.Proofs.YtdhaoaehboonpaaGreatW.PrintWords Go.Proofs.YtdhaoaehboonpaaGreatW.PrintLast Go.Proofs.YtdhaoaehboonpaaGreatW.PrintMore
set_option linter.unusedSimpArgs false
set_option linter.unusedVariables false
theorem cell3 {w : World} {g : Nat} {a b c : Value} {t : TypeId} (h : w.heap[g]? = some (.cells #[a, b, c] t (0, 0))) :
    w.cell? ⟨g, 0, none⟩ = some a ∧ w.cell? ⟨g, 1, none⟩ = some b ∧ w.cell? ⟨g, 2, none⟩ = some c ∧ w.frozen? ⟨g, 0, none⟩ = false ∧ w.frozen? ⟨g, 1, none⟩ = false ∧ w.frozen? ⟨g, 2, none⟩ = false :=
  ⟨(blk_cell h 0).trans rfl, (blk_cell h 1).trans rfl, (blk_cell h 2).trans rfl, blk_frozen h 0, blk_frozen h 1, blk_frozen h 2⟩
set_option maxHeartbeats 8000000 in
set_option maxRecDepth 100000 in
theorem pick_any (a b : ByteArray) (w : World) :
    Calls Tryz.prog 46 #[.string a, .string b] w fun e w' => e = .returned (.tuple #[.agg #[.int .i64 (pickA a b).1, .int .i64 (pickA a b).2.1, .int .i64 (pickA a b).2.2.1], .int .i64 (pickA a b).2.2.2.1, .bool (pickA a b).2.2.2.2]) ∧ Below w.heap.size w w' := by
  have HB := Aside0.mk (below_alloc (Below.refl w.heap.size w) (.cells #[.int .i64 0, .int .i64 0, .int .i64 0] 97))
  have H0 := Aside0.mk (alloc_at (w := w) (cs := #[.int .i64 0, .int .i64 0, .int .i64 0]) (t := 97) rfl)
  have ga := get_any a
  have gb := get_any b
  have key : ∀ (x1 x2 x3 : Int) (ia : Bool) (y1 y2 y3 : Int) (ib : Bool), getA a = (x1, x2, x3, ia) → getA b = (y1, y2, y3, ib) → pickA a b = if ia = true ∧ (ib = true → y1 ≤ x1) then (x1, x2, x3, 0, true) else if ib = true then (y1, y2, y3, 1, true) else (0, 0, 0, 0, false) := by
    intro x1 x2 x3 ia y1 y2 y3 ib h1 h2
    unfold pickA
    unfold getA at h1 h2
    cases ha : isC a <;> cases hb : isC b <;> rw [ha] at h1 <;> rw [hb] at h2 <;> simp at h1 h2 <;> obtain ⟨rfl, rfl, rfl, rfl⟩ := h1 <;> obtain ⟨rfl, rfl, rfl, rfl⟩ := h2 <;> simp
  obtain ⟨⟨x1, x2, x3, ia⟩, hx⟩ : ∃ x, x = getA a := ⟨_, rfl⟩
  obtain ⟨⟨y1, y2, y3, ib⟩, hy⟩ : ∃ x, x = getA b := ⟨_, rfl⟩
  have hk := key _ _ _ _ _ _ _ _ hx.symm hy.symm
  rw [← hx] at ga
  rw [← hy] at gb
  obtain ⟨pk, hpk⟩ : ∃ x, x = pickA a b := ⟨_, rfl⟩
  rw [← hpk] at hk ⊢
  have GA := Aside0.mk ga
  have GB := Aside0.mk gb
  clear key ga gb hx hy hpk
  have HK := Aside0.mk hk
  clear hk
  go_enter Tryz.func46, Tryz.ntmps46
  go_upto_region 2 with (go_at_call 107; (with_reducible refine (GA.out _).mono ?_); rintro e w1 ⟨rfl, hb⟩; have HB1 := Aside0.mk (below_step HB.out hb); have X0 := Aside0.mk ((hb.block _ (blk_lt H0.out)).trans H0.out); clear hb HB H0)
  obtain ⟨wA, hwA⟩ : ∃ wA, wA = w1.alloc (.cells #[.int .i64 x1, .int .i64 x2, .int .i64 x3] 97) := ⟨_, rfl⟩
  have X1 := Aside0.mk (show wA.heap[w1.heap.size]? = some (.cells #[.int .i64 x1, .int .i64 x2, .int .i64 x3] 97 (0, 0)) from by rw [hwA]; exact alloc_at rfl)
  have XA := Aside0.mk (show wA.heap[w.heap.size]? = some (.cells #[.int .i64 0, .int .i64 0, .int .i64 0] 97 (0, 0)) from by rw [hwA]; exact blk_alloc X0.out _)
  have HBA := Aside0.mk (show Below w.heap.size w wA from by rw [hwA]; exact below_alloc HB1.out _)
  have HG := Aside0.mk (show w.heap.size < w1.heap.size from blk_lt X0.out)
  rw [← hwA]
  obtain ⟨gx, hgx⟩ : ∃ g, g = w1.heap.size := ⟨_, rfl⟩
  rw [← hgx] at X1 HG ⊢
  clear hwA X0 HB1 hgx GA
  go_upto_region 3 with (go_at_call 107; (with_reducible refine (GB.out _).mono ?_); rintro e w2 ⟨rfl, hb⟩; have HB2 := Aside0.mk (below_step HBA.out hb); have X2 := Aside0.mk ((hb.block _ (blk_lt XA.out)).trans XA.out); have Y1 := Aside0.mk ((hb.block _ (blk_lt X1.out)).trans X1.out); clear hb HBA XA X1)
  obtain ⟨wB, hwB⟩ : ∃ wB, wB = w2.alloc (.cells #[.int .i64 y1, .int .i64 y2, .int .i64 y3] 97) := ⟨_, rfl⟩
  have Z2 := Aside0.mk (show wB.heap[w2.heap.size]? = some (.cells #[.int .i64 y1, .int .i64 y2, .int .i64 y3] 97 (0, 0)) from by rw [hwB]; exact alloc_at rfl)
  have Z1 := Aside0.mk (show wB.heap[gx]? = some (.cells #[.int .i64 x1, .int .i64 x2, .int .i64 x3] 97 (0, 0)) from by rw [hwB]; exact blk_alloc Y1.out _)
  have Z0 := Aside0.mk (show wB.heap[w.heap.size]? = some (.cells #[.int .i64 0, .int .i64 0, .int .i64 0] 97 (0, 0)) from by rw [hwB]; exact blk_alloc X2.out _)
  have HBB := Aside0.mk (show Below w.heap.size w wB from by rw [hwB]; exact below_alloc HB2.out _)
  rw [← hwB]
  obtain ⟨gy, hgy⟩ : ∃ g, g = w2.heap.size := ⟨_, rfl⟩
  rw [← hgy] at Z2 ⊢
  clear hwB X2 HB2 hgy GB Y1
  obtain ⟨p0, p1, p2, p3, p4, p5⟩ := cell3 Z0.out
  obtain ⟨q0, q1, q2, q3, q4, q5⟩ := cell3 Z1.out
  obtain ⟨r0, r1, r2, r3, r4, r5⟩ := cell3 Z2.out
  cases ia
  case false =>
    cases ib
    case false =>
      obtain rfl : pk = (0, 0, 0, 0, false) := HK.out.trans (by simp)
      clear HK
      go_wp2
      refine bodyPost_ret (results_ctt rfl _ _ w.heap.size 97 #[.int .i64 0, .int .i64 0, .int .i64 0] (0, 0) _ rfl (by exact set3_self Z0.out) Tryz.underlying97 rfl (by kernel_rfl)) rfl ?_
      exact ⟨rfl, set3_below HBB.out (Nat.le_refl _)⟩
    case true =>
      obtain rfl : pk = (y1, y2, y3, 1, true) := HK.out.trans (by simp)
      clear HK
      go_wp2
      refine bodyPost_ret (results_ctt rfl _ _ w.heap.size 97 #[.int .i64 y1, .int .i64 y2, .int .i64 y3] (0, 0) _ rfl (by exact set3_self Z0.out) Tryz.underlying97 rfl (by kernel_rfl)) rfl ?_
      exact ⟨rfl, set3_below HBB.out (Nat.le_refl _)⟩
  case true =>
    cases ib
    case false =>
      obtain rfl : pk = (x1, x2, x3, 0, true) := HK.out.trans (by simp)
      clear HK
      go_wp2
      refine bodyPost_ret (results_ctt rfl _ _ w.heap.size 97 #[.int .i64 x1, .int .i64 x2, .int .i64 x3] (0, 0) _ rfl (by exact set3_self Z0.out) Tryz.underlying97 rfl (by kernel_rfl)) rfl ?_
      exact ⟨rfl, set3_below HBB.out (Nat.le_refl _)⟩
    case true =>
      by_cases hle : y1 ≤ x1
      · have d1 : decide (y1 ≤ x1) = true := decide_eq_true hle
        obtain rfl : pk = (x1, x2, x3, 0, true) := HK.out.trans (if_pos ⟨rfl, fun _ => hle⟩)
        clear HK
        go_wp2
        refine bodyPost_ret (results_ctt rfl _ _ w.heap.size 97 #[.int .i64 x1, .int .i64 x2, .int .i64 x3] (0, 0) _ rfl (by exact set3_self Z0.out) Tryz.underlying97 rfl (by kernel_rfl)) rfl ?_
        exact ⟨rfl, set3_below HBB.out (Nat.le_refl _)⟩
      · have d1 : decide (y1 ≤ x1) = false := decide_eq_false hle
        obtain rfl : pk = (y1, y2, y3, 1, true) := HK.out.trans ((if_neg (fun h => hle (h.2 rfl))).trans (if_pos rfl))
        clear HK
        go_wp2
        refine bodyPost_ret (results_ctt rfl _ _ w.heap.size 97 #[.int .i64 y1, .int .i64 y2, .int .i64 y3] (0, 0) _ rfl (by exact set3_self Z0.out) Tryz.underlying97 rfl (by kernel_rfl)) rfl ?_
        exact ⟨rfl, set3_below HBB.out (Nat.le_refl _)⟩
end Go.Proofs.YtdhaoaehboonpaaGreat.Cr
end
section
namespace Go.Proofs.YtdhaoaehboonpaaGreat.V
open Go.RowKit Go.Proofs.YtdhaoaehboonpaaGreatW.PrintWords Go.Proofs.YtdhaoaehboonpaaGreatW.PrintLast Go.Proofs.YtdhaoaehboonpaaGreatW.PrintMore Go.Proofs.YtdhaoaehboonpaaGreatM
set_option linter.unusedVariables false
set_option linter.unusedSimpArgs false
structure PS where
  known : ByteArray → Option Int
  free : List Int
  out : List R2
  e : Int
def putN (S : PS) (b : ByteArray) (is : Bool) : Int :=
  if S.e = 0 then (if is = true then (match S.known b with | some n => n | none => (match S.free with | [] => 0 | n :: _ => n)) else 0) else 0
def putS (S : PS) (b : ByteArray) (is : Bool) : PS :=
  if S.e = 0 then (if is = true then (match S.known b with | some _ => S | none => (match S.free with | [] => { S with e := 8 } | n :: fr => { S with known := upd S.known b n, free := fr, out := S.out ++ [(n, b)] })) else { S with e := 9 }) else S
end Go.Proofs.YtdhaoaehboonpaaGreat.V
end
section
namespace Go.Proofs.YtdhaoaehboonpaaGreat.V
open Go.RowKit Go.Proofs.YtdhaoaehboonpaaGreatW.PrintWords Go.Proofs.YtdhaoaehboonpaaGreatW.PrintLast Go.Proofs.YtdhaoaehboonpaaGreatW.PrintMore Go.Proofs.YtdhaoaehboonpaaGreatM
set_option linter.unusedVariables false
set_option linter.unusedSimpArgs false
def wfS (s : ByteArray) : Prop := s.size ≤ maxLen
theorem keysS : Keys Tryz.prog 9 Value.string wfS where
  inj := fun x y h => by injection h
  keyed := Go.Maps.string_keyed Tryz.underlying9
  key := fun x h => by
    refine ⟨.string x.data.toList, ?_⟩
    unfold keyOf
    rw [Tryz.underlying9]
    simp only [mapKey, Tryz.underlying9]
    exact if_pos h
theorem zero3 (w : World) : (zeroValue 3).run Tryz.prog w = .ok (.int .i64 0) w := by kernel_rfl
abbrev IsKn := @IsMap ByteArray Int Value.string (Value.int .i64) wfS
def IsPlan (w0 w : World) (g m : Nat) (S : PS) : Prop :=
  ∃ A c v, w.heap[g]? = some (.cells #[.map (some m), .slice A S.free.length c, v, .int .i64 S.e] 158 (0, 0)) ∧ w0.heap.size ≤ g ∧ w0.heap.size ≤ m ∧ IsKn w m S.known ∧ Kd.C (Kd.int .i64) w0 A S.free.length S.free ∧ S.free.length ≤ c ∧ kR.R 106 w w0.heap.size (fun _ => True) v S.out ∧ Below w0.heap.size w0 w
def Kw (w w1 : World) (g : Nat) : Prop := w.heap.size ≤ w1.heap.size ∧ ∀ k c t, t ≠ 106 → k ≠ g → w.heap[k]? = some (.cells c t (0, 0)) → w1.heap[k]? = some (.cells c t (0, 0))
theorem Kw.refl (w : World) (g : Nat) : Kw w w g := ⟨Nat.le_refl _, fun _ _ _ _ _ h => h⟩
theorem Kw.trans {a b c : World} {g : Nat} (h : Kw a b g) (h2 : Kw b c g) : Kw a c g := ⟨Nat.le_trans h.1 h2.1, fun k x t ht hk hb => h2.2 k x t ht hk (h.2 k x t ht hk hb)⟩
theorem Kw.below {w w1 : World} (h : Below w.heap.size w w1) (g : Nat) : Kw w w1 g := ⟨h.size, fun k c t _ _ hb => (h.block k (blk_lt hb)).trans hb⟩
theorem Kw.set {w : World} {g j : Nat} {v : Value} : Kw w (w.setCell ⟨g, j, none⟩ v) g := ⟨by simp [World.setCell], fun k c t _ hk hb => (Below.heap_setCell w ⟨g, j, none⟩ v k hk).trans hb⟩
theorem Kw.map {w w1 : World} {g m : Nat} {f : ByteArray → Option Int} (hm : IsKn w m f) (h : w.grownBy w1 (some m)) : Kw w w1 g := ⟨h.size, fun k c t _ _ hb => (h.block k (blk_lt hb) (by
  intro e; injection e with e; subst e
  obtain ⟨es, cl, h1, _⟩ := hm
  rw [hb] at h1; cases h1)).trans hb⟩
theorem Kw.row {w w1 : World} {g b : Nat} {ok : Nat → Prop} {v : Value} {xs : List R2} (hr : kR.R 106 w b ok v xs) (h : w.grownBy w1 v.ownBlock) : Kw w w1 g := ⟨h.size, fun k c t ht _ hb => (h.block k (blk_lt hb) (Kd.R_ne hr hb (Ne.symm ht))).trans hb⟩
theorem Kw.R {α : Type} {d : Kd α} {e : Nat} {w w1 : World} {g base : Nat} {ok : Nat → Prop} {v : Value} {xs : List α} {cs : Array Value} (h : Kw w w1 g) (hg : w.heap[g]? = some (.cells cs 158 (0, 0))) (hr : d.R e w base ok v xs) (ht : ∀ q, q ∈ e :: d.E → q ≠ 106 ∧ q ≠ 158) : d.R e w1 base ok v xs :=
  Kd.R_mono (Kd.R_move (Kd.R_bound hr) (fun k hk => by
    obtain ⟨_, _, _, q, hq, cells, hc⟩ := hk
    have hkg : k ≠ g := by
      rintro rfl
      rw [hc] at hg
      injection hg with hg
      injection hg with _ hg
      exact (ht q hq).2 hg
    rw [h.2 k cells q (ht q hq).1 hkg hc, hc])) (fun _ h => h.1)
theorem cell68 {w : World} {g : Nat} {a b c d : Value} (h : w.heap[g]? = some (.cells #[a, b, c, d] 158 (0, 0))) :
    w.cell? ⟨g, 0, none⟩ = some a ∧ w.cell? ⟨g, 1, none⟩ = some b ∧ w.cell? ⟨g, 2, none⟩ = some c ∧ w.cell? ⟨g, 3, none⟩ = some d :=
  ⟨(blk_cell h 0).trans rfl, (blk_cell h 1).trans rfl, (blk_cell h 2).trans rfl, (blk_cell h 3).trans rfl⟩
theorem map_ne {w : World} {g m : Nat} {f : ByteArray → Option Int} {cs : Array Value} {t : TypeId} (hm : IsKn w m f) (hb : w.heap[g]? = some (.cells cs t (0, 0))) : m ≠ g := by
  rintro rfl
  obtain ⟨es, cl, h1, _⟩ := hm
  rw [hb] at h1; cases h1
theorem IsPlan.blk {w0 w : World} {g m : Nat} {S : PS} (h : IsPlan w0 w g m S) : ∃ cs, w.heap[g]? = some (.cells cs 158 (0, 0)) := by
  obtain ⟨A, c, v, h1, _⟩ := h
  exact ⟨_, h1⟩
theorem IsPlan.bel {w0 w : World} {g m : Nat} {S : PS} (h : IsPlan w0 w g m S) : Below w0.heap.size w0 w := by
  obtain ⟨A, c, v, _, _, _, _, _, _, _, h1⟩ := h
  exact h1
theorem IsPlan.step {w0 w w1 : World} {g m : Nat} {S : PS} (h : IsPlan w0 w g m S) (hb : Below w.heap.size w w1) : IsPlan w0 w1 g m S := by
  obtain ⟨A, c, v, h1, h2, h3, h4, h5, h6, h7, h8⟩ := h
  exact ⟨A, c, v, (hb.block _ (blk_lt h1)).trans h1, h2, h3, h4.at (hb.block _ h4.lt), h5, h6, Kd.R_below h7 hb, below_step h8 hb⟩
theorem IsPlan.grown {α : Type} {d : Kd α} {e : Nat} {b : Nat} {ok : Nat → Prop} {u : Value} {xs : List α} {w0 w w1 : World} {g m : Nat} {S : PS} (h : IsPlan w0 w g m S) (hr : d.R e w b ok u xs) (hb : w0.heap.size ≤ b) (he : e ≠ 158) (he2 : e ≠ 106) (hg : w.grownBy w1 u.ownBlock) : IsPlan w0 w1 g m S := by
  obtain ⟨A, c, v, h1, h2, h3, h4, h5, h6, h7, h8⟩ := h
  refine ⟨A, c, v, (hg.block _ (blk_lt h1) (Kd.R_ne hr h1 he)).trans h1, h2, h3, h4.at (hg.block _ h4.lt ?_), h5, h6, Kd.R_over h7 hr (by intro q hq; simp [kR, Kd.pair, Kd.int, Kd.string, Kd.scalar] at hq; omega) hg, pw_below_grown h8 _ h8.size hg (fun k hk => Nat.le_trans hb (Kd.R_base hr k hk))⟩
  intro e1
  obtain ⟨c1, e2⟩ := Kd.R_typed hr m e1.symm
  obtain ⟨es, cl, e3, _⟩ := h4
  rw [e2] at e3
  cases e3
theorem row_ne_map {α : Type} {d : Kd α} {e b m : Nat} {w : World} {o : Nat → Prop} {v : Value} {xs : List α} {f : ByteArray → Option Int} (h : d.R e w b o v xs) (hm : IsKn w m f) : some m ≠ v.ownBlock := by
  intro hk
  obtain ⟨c1, e1⟩ := Kd.R_typed h m hk.symm
  obtain ⟨es, c, e2, _⟩ := hm
  rw [e1] at e2
  cases e2
theorem len0 {l : List Int} (h : 0 < l.length) : ∃ n fr, l = n :: fr := by
  cases l with
  | nil => simp at h
  | cons n fr => exact ⟨n, fr, rfl⟩
set_option maxHeartbeats 8000000 in
set_option maxRecDepth 100000 in
theorem put_new {w0 w : World} {g m : Nat} {f : ByteArray → Option Int} {n : Int} {fr : List Int} {out : List R2} (h : IsPlan w0 w g m ⟨f, n :: fr, out, 0⟩) (b : ByteArray) (hb : wfS b) (hk : f b = none) (ho : out.length ≤ 100000) :
    Calls Tryz.prog 97 #[.pointer (some ⟨g, 0, none⟩), .string b, .bool true] w fun e w' => e = .returned (.int .i64 n) ∧ IsPlan w0 w' g m ⟨upd f b n, fr, out ++ [(n, b)], 0⟩ ∧ Kw w w' g := by
  obtain ⟨A, c, v, h1, h2, h3, h4, h5, h6, h7, h8⟩ := h
  change w.heap[g]? = some (.cells #[.map (some m), .slice A (fr.length + 1) c, v, .int .i64 0] 158 (0, 0)) at h1
  have hlk := h4.look_ok keysS Tryz.underlying156 (.int .i64 0) (zero3 w) b hb
  rw [show (⟨f, n :: fr, out, 0⟩ : PS).known b = none from hk] at hlk
  change (Instr.lookup 156 (.map (some m)) (.string b) true).run Tryz.prog w = .ok (.tuple #[.int .i64 0, .bool false]) w at hlk
  obtain ⟨c0, c1, c2, c3⟩ := cell68 h1
  have f1 := blk_frozen h1 1
  obtain ⟨i3, hi3, hz3⟩ := Option.map_eq_some_iff.1 info3
  have hsz3 : i3.size = 1 := by simp only [Prod.mk.injEq] at hz3; exact hz3.2.1
  obtain ⟨ad, rfl, hx0⟩ := Kd.at_int h5 0 (by omega) (by simp)
  have hx1 : w.cell? ad = some (.int .i64 n) := by
    have e0 : ad.add (0 : Int).toNat = ad := by simp [Addr.add]
    rw [e0] at hx0
    exact (h8.cell (World.block_lt_of_cell? w0 _ hx0)).trans hx0
  change fr.length + 1 ≤ c at h6
  obtain ⟨A', hcut, hread, hcap⟩ := print_drop_of (P := Tryz.prog) (Value.int .i64) (0 : Int) 40 3 .i64 Tryz.underlying40 hi3 hsz3 (some ad) c (n :: fr) 1 (by omega) (by simp; omega) (by simpa using h6)
  change ∀ W, (Instr.slice 40 (.slice (some ad) (fr.length + 1) c) (some (.int .i64 1)) none none).run Tryz.prog W = .ok (.slice A' fr.length (c - 1)) W at hcut
  change fr.length ≤ c - 1 at hcap
  have hC' : Kd.C (Kd.int .i64) w0 A' fr.length fr := by
    have := hread w0 (Kd.reads_of_C (d := (0 : Int)) h5)
    exact Kd.C_of_reads this
  have H1 := Aside0.mk h1
  have H2 := Aside0.mk h2
  have H3 := Aside0.mk h3
  have H4 := Aside0.mk h4
  have H7 := Aside0.mk h7
  have H8 := Aside0.mk h8
  have HC' := Aside0.mk hC'
  have HCAP := Aside0.mk hcap
  obtain ⟨nf, hnf⟩ : ∃ nf, nf = fr.length := ⟨_, rfl⟩
  have HNF := Aside0.mk hnf
  rw [← hnf] at hcut c1
  have hnm : nf + 1 ≤ 9223372036854775807 := by
    have h9 : fr.length + 1 ≤ 9223372036854775807 := h5.2.1
    rw [hnf]; exact h9
  have d5 : (0 < nf + 1) = True := eq_true (by omega)
  have d6 : ((0 : Int) < (nf : Int) + 1) = True := eq_true (by omega)
  have d7 : ((nf : Int) + 1 == 0) = false := by simp; omega
  have d8 : (nf + 1 == 0) = false := by simp
  have hb0 := hb
  have ho0 := ho
  clear h1 h2 h3 h4 h5 h6 h7 h8 hb hk hx0 hread hC' hcap hi3 hz3 hsz3 hnf ho
  go_enter Tryz.func97, Tryz.ntmps97
  go_upto_region 14 with (fail)
  obtain ⟨w1, hw1⟩ : ∃ w1, w1 = w.setCell ⟨g, 1, none⟩ (.slice A' nf (c - 1)) := ⟨_, rfl⟩
  rw [← hw1]
  have K1 := Aside0.mk (show w1.heap[g]? = some (.cells #[.map (some m), .slice A' nf (c - 1), v, .int .i64 0] 158 (0, 0)) from by rw [hw1]; simpa using blk_set H1.out 1 (.slice A' nf (c - 1)))
  have M1 := Aside0.mk (show IsKn w1 m f from by rw [hw1]; exact H4.out.at (Below.heap_setCell _ _ _ m (map_ne H4.out H1.out)))
  have R1 := Aside0.mk (show kR.R 106 w1 w0.heap.size (fun _ => True) v out from by rw [hw1]; exact Kd.R_set H7.out H1.out (by intro q hq; simp [kR, Kd.pair, Kd.int, Kd.string, Kd.scalar] at hq; omega) 1 _)
  have B1 := Aside0.mk (show Below w0.heap.size w0 w1 from by rw [hw1]; exact below_set H8.out H2.out)
  have W1 := Aside0.mk (show Kw w w1 g from by rw [hw1]; exact Kw.set)
  obtain ⟨e0, e1, e2, e3⟩ := cell68 K1.out
  have HB := Aside0.mk hb0
  have HO := Aside0.mk ho0
  clear hw1 c0 c1 c2 c3 f1 d5 d6 d7 d8 hcut hx1 hlk hb0 ho0
  go_upto_region 15 with (at_mapUpdate; go_must (refine wpList_mapUpdate_g keysS _ rfl _ _ _ 156 rfl 3 Tryz.underlying156 m f b n rfl rfl rfl M1.out HB.out ?_); intro w2 hm2 hg2; have M2 := Aside0.mk hm2; have G2 := Aside0.mk hg2; clear hm2 hg2)
  have hgm : some g ≠ some m := fun e => map_ne M1.out K1.out (by injection e with e; exact e.symm)
  have K2 := Aside0.mk ((G2.out.block g (blk_lt K1.out) hgm).trans K1.out)
  have R2' := Aside0.mk (Kd.R_grown (ok := fun k => k ≠ m) (Kd.R_mono (Kd.R_bound R1.out) (fun k hk e => by
    obtain ⟨_, _, _, q, hq, cells, hc⟩ := hk
    obtain ⟨es, cl, h1, _⟩ := M1.out
    rw [e, h1] at hc; cases hc)) G2.out (fun k hk e => hk (by injection e)))
  have B2 := Aside0.mk (pw_below_grown B1.out _ B1.out.size G2.out (by rintro k e; injection e with e; rw [← e]; exact H3.out))
  have W2 := Aside0.mk (W1.out.trans (Kw.map M1.out G2.out))
  obtain ⟨y0, y1, y2, y3⟩ := cell68 K2.out
  clear hgm e0 e1 e2 e3
  go_wp2_with (first
    | ((with_reducible refine gate_builtin (b := .append) (xs := #[.tmp 68, .tmp 72]) rfl ?_); at_builtin; go_must (refine Kd.R_append kR w0.heap.size rfl (.tmp 68) (.tmp 72) 91 106 (.agg #[(.int .i64 0), (.string ⟨#[]⟩)]) 24 rfl Tryz.underlying91 info106 rfl (by decide) (by omega) v out (n, b) [.int .i64 n, .string b] (fun k => True) (fun _ => False) rfl rfl (kR_mkM _ _ _ (n, b)) (fun _ hk => hk.elim) (fun _ _ => trivial) (Kd.R_mono R2'.out (fun _ _ => trivial)) B2.out B2.out.size (by have := HO.out; omega) ?_); intro v3 w3 ho_ hb_ hg_ hat_; obtain ⟨A3, d3, e3⟩ := Kd.R_slice ho_; obtain ⟨l3, hl3⟩ : ∃ l3 : Nat, l3 = (out ++ [(n, b)]).length := ⟨_, rfl⟩; rw [← hl3] at e3; clear hl3; subst e3; have R3 := Aside0.mk ho_; have B3 := Aside0.mk hb_; have K3 := Aside0.mk ((hg_.block g (blk_lt K2.out) (Kd.R_ne R2'.out K2.out (by decide))).trans K2.out); have M3 := Aside0.mk (M2.out.at (hg_.block m M2.out.lt (row_ne_map R2'.out M2.out))); have W3 := Aside0.mk (W2.out.trans (Kw.row R2'.out hg_)); have z2 := (cell68 K3.out).2.2.1; have zf2 := blk_frozen K3.out 2; clear ho_ hb_ hg_ hat_))
  go_ret
  refine ⟨rfl, ⟨A', c - 1, _, by rw [← HNF.out]; simpa using blk_set K3.out 2 (.slice A3 l3 d3), H2.out, H3.out, M3.out.at (Below.heap_setCell _ _ _ m (map_ne M3.out K3.out)), HC'.out, HCAP.out, Kd.R_set R3.out K3.out (by intro q hq; simp [kR, Kd.pair, Kd.int, Kd.string, Kd.scalar] at hq; omega) 2 _, below_set B3.out H2.out⟩, W3.out.trans Kw.set⟩
set_option maxHeartbeats 8000000 in
set_option maxRecDepth 100000 in
theorem put_any {w0 w : World} {g m : Nat} {S : PS} (h : IsPlan w0 w g m S) (b : ByteArray) (is : Bool) (hb : wfS b) (ho : S.out.length ≤ 100000) :
    Calls Tryz.prog 97 #[.pointer (some ⟨g, 0, none⟩), .string b, .bool is] w fun e w' => e = .returned (.int .i64 (putN S b is)) ∧ IsPlan w0 w' g m (putS S b is) ∧ Kw w w' g := by
  have hP := Aside0.mk h
  obtain ⟨A, c, v, h1, h2, h3, h4, h5, h6, h7, h8⟩ := h
  have H1 := Aside0.mk h1
  have H4 := Aside0.mk h4
  have H7 := Aside0.mk h7
  have H8 := Aside0.mk h8
  obtain ⟨c0, c1, c2, c3⟩ := cell68 h1
  have hlk := h4.look_ok keysS Tryz.underlying156 (.int .i64 0) (zero3 w) b hb
  by_cases he : S.e = 0
  · have d1 : (S.e != 0) = false := by simpa using he
    have d2 : (S.e == 0) = true := by simpa using he
    have f3 := blk_frozen h1 3
    cases is with
    | false =>
      have e1 : putN S b false = 0 := by unfold putN; rw [if_pos he]; rfl
      have e2 : putS S b false = { S with e := 9 } := by unfold putS; rw [if_pos he]; rfl
      rw [e1, e2]
      obtain ⟨r1, hr1⟩ : ∃ r, r = ((S.known b).map (Value.int .i64)).getD (.int .i64 0) := ⟨_, rfl⟩
      obtain ⟨r2, hr2⟩ : ∃ r, r = (S.known b).isSome := ⟨_, rfl⟩
      rw [← hr1, ← hr2] at hlk
      have HH := Aside0.mk (And.intro h2 (And.intro h3 (And.intro h5 h6)))
      clear h1 h2 h3 h4 h5 h6 h7 h8 hb he hr1 hr2 e1 e2 ho
      go_enter Tryz.func97, Tryz.ntmps97
      go_wp2
      go_ret
      refine ⟨rfl, ⟨A, c, v, by simpa using blk_set H1.out 3 (.int .i64 9), HH.out.1, HH.out.2.1, H4.out.at (Below.heap_setCell _ _ _ m (map_ne H4.out H1.out)), HH.out.2.2.1, HH.out.2.2.2, Kd.R_set H7.out H1.out (by intro q hq; simp [kR, Kd.pair, Kd.int, Kd.string, Kd.scalar] at hq; omega) 3 _, below_set H8.out HH.out.1⟩, Kw.set⟩
    | true =>
      cases hk : S.known b with
      | some n =>
        have e1 : putN S b true = n := by unfold putN; rw [if_pos he, if_pos rfl, hk]
        have e2 : putS S b true = S := by unfold putS; rw [if_pos he, if_pos rfl, hk]
        rw [e1, e2]
        rw [hk] at hlk
        change (Instr.lookup 156 (.map (some m)) (.string b) true).run Tryz.prog w = .ok (.tuple #[.int .i64 n, .bool true]) w at hlk
        clear h1 h2 h3 h4 h5 h6 h7 h8 hb he e1 e2 ho hk
        go_enter Tryz.func97, Tryz.ntmps97
        go_wp2
        go_ret
        exact ⟨rfl, hP.out, Kw.refl _ _⟩
      | none =>
        rw [hk] at hlk
        change (Instr.lookup 156 (.map (some m)) (.string b) true).run Tryz.prog w = .ok (.tuple #[.int .i64 0, .bool false]) w at hlk
        by_cases hf : S.free.length = 0
        · have hf2 : S.free = [] := List.eq_nil_of_length_eq_zero hf
          have e1 : putN S b true = 0 := by unfold putN; rw [if_pos he, if_pos rfl, hk, hf2]
          have e2 : putS S b true = { S with e := 8 } := by unfold putS; rw [if_pos he, if_pos rfl, hk, hf2]
          rw [e1, e2]
          rw [hf] at c1
          have HH := Aside0.mk (And.intro h2 (And.intro h3 (And.intro h5 h6)))
          clear h1 h2 h3 h4 h5 h6 h7 h8 hb he e1 e2 ho hk hf hf2
          go_enter Tryz.func97, Tryz.ntmps97
          go_wp2
          go_ret
          refine ⟨rfl, ⟨A, c, v, by simpa using blk_set H1.out 3 (.int .i64 8), HH.out.1, HH.out.2.1, H4.out.at (Below.heap_setCell _ _ _ m (map_ne H4.out H1.out)), HH.out.2.2.1, HH.out.2.2.2, Kd.R_set H7.out H1.out (by intro q hq; simp [kR, Kd.pair, Kd.int, Kd.string, Kd.scalar] at hq; omega) 3 _, below_set H8.out HH.out.1⟩, Kw.set⟩
        · obtain ⟨n, fr, hf2⟩ := len0 (Nat.pos_of_ne_zero hf)
          have e1 : putN S b true = n := by unfold putN; rw [if_pos he, if_pos rfl, hk, hf2]
          have e2 : putS S b true = { S with known := upd S.known b n, free := fr, out := S.out ++ [(n, b)] } := by unfold putS; rw [if_pos he, if_pos rfl, hk, hf2]
          rw [e1, e2]
          obtain ⟨kn, fre, out, e⟩ := S
          simp only at he hf2 hk ho
          subst he hf2
          exact put_new hP.out b hb hk ho
  · have e1 : putN S b is = 0 := by unfold putN; rw [if_neg he]
    have e2 : putS S b is = S := by unfold putS; rw [if_neg he]
    rw [e1, e2]
    obtain ⟨r1, hr1⟩ : ∃ r, r = ((S.known b).map (Value.int .i64)).getD (.int .i64 0) := ⟨_, rfl⟩
    obtain ⟨r2, hr2⟩ : ∃ r, r = (S.known b).isSome := ⟨_, rfl⟩
    rw [← hr1, ← hr2] at hlk
    have d1 : (S.e != 0) = true := by simpa using he
    have d2 : (S.e == 0) = false := by simpa using he
    clear h1 h2 h3 h4 h5 h6 h7 h8 hb he hr1 hr2 e1 e2 ho
    go_enter Tryz.func97, Tryz.ntmps97
    go_wp2
    go_ret
    exact ⟨rfl, hP.out, Kw.refl _ _⟩
end Go.Proofs.YtdhaoaehboonpaaGreat.V
end
section
namespace Go.Proofs.YtdhaoaehboonpaaGreat.V
open Go.RowKit Go.Proofs.YtdhaoaehboonpaaGreatW.PrintWords Go.Proofs.YtdhaoaehboonpaaGreatW.PrintLast Go.Proofs.YtdhaoaehboonpaaGreatW.PrintMore Go.Proofs.YtdhaoaehboonpaaGreatM
set_option linter.unusedVariables false
set_option linter.unusedSimpArgs false
def piecesF : Nat → ByteArray → List ByteArray
  | 0, _ => []
  | k + 1, b => if b.size = 0 then [] else b.extract 0 (min b.size 120) :: piecesF k (b.extract (min b.size 120) b.size)
def pieces (b : ByteArray) : List ByteArray := piecesF b.size b
theorem pieces_l0 (n : Nat) : ∀ (k : Nat) (b : ByteArray) (acc : List ByteArray), b.size ≤ n → n < k → acc.length + n ≤ 1000000 → PVaultFormats.shelf_pieces.l0 k b acc = some (acc ++ piecesF n b) := by
  induction n with
  | zero =>
    intro k b acc hb hk hl
    obtain ⟨k, rfl⟩ : ∃ m, k = m + 1 := ⟨k - 1, by omega⟩
    simp only [PVaultFormats.shelf_pieces.l0, piecesF]
    rw [if_neg (by omega), List.append_nil]
  | succ n ih =>
    intro k b acc hb hk hl
    obtain ⟨k, rfl⟩ : ∃ m, k = m + 1 := ⟨k - 1, by omega⟩
    simp only [PVaultFormats.shelf_pieces.l0, piecesF]
    by_cases h0 : b.size = 0
    · rw [if_neg (by omega), if_pos h0, List.append_nil]
    · have hm : mn (b.size : Int) 120 = ((min b.size 120 : Nat) : Int) := by unfold mn; split <;> omega
      rw [if_pos (by omega), hm, if_pos (by omega), if_pos (by omega), if_pos (by omega), if_neg h0, Int.toNat_natCast, ih k _ _ (by rw [ByteArray.size_extract]; omega) (by omega) (by simp; omega), List.append_assoc]
      rfl
theorem pieces_f (b : ByteArray) (h : b.size ≤ 1000000) : PVaultFormats.shelf_pieces.f (b.size + 1) b = some (pieces b) := by
  unfold PVaultFormats.shelf_pieces.f
  rw [pieces_l0 b.size (b.size + 1) b [] (Nat.le_refl _) (by omega) (by simpa using h)]
  rfl
theorem piecesF_size (n : Nat) : ∀ b, ∀ x ∈ piecesF n b, 1 ≤ x.size ∧ x.size ≤ 120 := by
  induction n with
  | zero => intro b x hx; cases hx
  | succ n ih =>
    intro b x hx
    unfold piecesF at hx
    split at hx
    · cases hx
    · rw [List.mem_cons] at hx
      rcases hx with rfl | hx
      · rw [ByteArray.size_extract]; omega
      · exact ih _ x hx
theorem piecesF_length (n : Nat) : ∀ b : ByteArray, (piecesF n b).length ≤ n := by
  induction n with
  | zero => intro b; exact Nat.le_refl _
  | succ n ih =>
    intro b
    unfold piecesF
    split
    · simp
    · rw [List.length_cons]; have := ih (b.extract (min b.size 120) b.size); omega
def chainF (l : List ByteArray) (S : PS) : Int × PS := l.foldr (fun x p => (putN p.2 (chA p.1 x).1 (chA p.1 x).2, putS p.2 (chA p.1 x).1 (chA p.1 x).2)) (0, S)
theorem putS_out (S : PS) (b : ByteArray) (is : Bool) : (putS S b is).out.length ≤ S.out.length + 1 := by
  unfold putS
  split
  · split
    · split
      · omega
      · split <;> simp
    · simp
  · omega
theorem chainF_cons (x : ByteArray) (l : List ByteArray) (S : PS) : chainF (x :: l) S = (putN (chainF l S).2 (chA (chainF l S).1 x).1 (chA (chainF l S).1 x).2, putS (chainF l S).2 (chA (chainF l S).1 x).1 (chA (chainF l S).1 x).2) := rfl
theorem chainF_out (l : List ByteArray) (S : PS) : (chainF l S).2.out.length ≤ S.out.length + l.length := by
  induction l with
  | nil => simp [chainF]
  | cons x l ih =>
    have h := putS_out (chainF l S).2 (chA (chainF l S).1 x).1 (chA (chainF l S).1 x).2
    rw [List.length_cons, chainF_cons]
    show (putS (chainF l S).2 _ _).out.length ≤ _
    omega
theorem strOf_pad_size {l : List Int} (h : l.length ≤ 128) : (strOfNums (pad l)).size = 128 := by rw [strOfNums_size, pad_length h]
theorem chA_size (nx : Int) (b : ByteArray) : (chA nx b).1.size ≤ 128 := by
  unfold chA
  split
  · rename_i h
    have h2 : b.size ≤ 120 := by unfold chOk at h; simp at h; exact h.2.2
    show (strOfNums (pad (chL nx b))).size ≤ 128
    rw [strOf_pad_size (by rw [chL_length]; omega)]
    exact Nat.le_refl _
  · exact Nat.zero_le _
theorem wfS_small {s : ByteArray} (h : s.size ≤ 1000000) : wfS s := Nat.le_trans h (by decide)
set_option maxHeartbeats 8000000 in
set_option maxRecDepth 100000 in
theorem chain_any {w0 w : World} {g m : Nat} {S : PS} (h : IsPlan w0 w g m S) (b : ByteArray) (hb : b.size ≤ 10000) (ho : S.out.length ≤ 80000) :
    Calls Tryz.prog 96 #[.pointer (some ⟨g, 0, none⟩), .string b] w fun e w' => e = .returned (.int .i64 (chainF (pieces b) S).1) ∧ IsPlan w0 w' g m (chainF (pieces b) S).2 ∧ Kw w w' g := by
  have HP := Aside0.mk h
  have HS := Aside0.mk ho
  have HPI := Aside0.mk (PVaultFormats.shelf_pieces.calls (b.size + 1) b (pieces b) w (pieces_f b (by omega)))
  have hpl : (pieces b).length ≤ 10000 := Nat.le_trans (piecesF_length _ _) hb
  have hps : ∀ x ∈ pieces b, 1 ≤ x.size ∧ x.size ≤ 120 := piecesF_size _ _
  obtain ⟨l, hl⟩ : ∃ l, l = pieces b := ⟨_, rfl⟩
  rw [← hl] at hpl hps HPI ⊢
  have HPS := Aside0.mk hps
  have HPL := Aside0.mk hpl
  clear h hb ho hl hps hpl
  go_enter Tryz.func96, Tryz.ntmps96
  go_wp2_with (fail)
  refine (HPI.out).mono ?_
  rintro e w1 ⟨v, rfl, hR, hb1⟩
  obtain ⟨A, c, rfl, hc, hC⟩ := Kd.R_reads hR
  obtain ⟨n, hn⟩ : ∃ n, n = l.length := ⟨_, rfl⟩
  rw [← hn] at hR ⊢
  have HN := Aside0.mk hn
  have hn1 : n ≤ 10000 := by rw [hn]; exact HPL.out
  have P1 := Aside0.mk (HP.out.step hb1)
  have R1 := Aside0.mk hR
  have W1 := Aside0.mk (Kw.below hb1 g)
  clear hR hb1 hC hc HPI hn
  go_wp2_with (fail)
  go_loopg [5, 7] n (fun kx v5 v7 wr => v5 = .int .i64 (chainF (l.drop kx) S).1 ∧ v7 = .int .i64 ((kx : Int) - 1) ∧ Aside0 (kx ≤ n) ∧ Aside0 (IsPlan w0 wr g m (chainF (l.drop kx) S).2) ∧ Aside0 (Kd.R Kd.string 9 wr w.heap.size (fun _ => True) (.slice A n c) l) ∧ Aside0 (Kw w wr g))
  case atStart => exact ⟨by rw [HN.out, List.drop_length]; rfl, by first | rfl | go_num, ⟨Nat.le_refl _⟩, ⟨by rw [HN.out, List.drop_length]; exact P1.out⟩, R1, W1⟩
  case round =>
    clear P1 R1 W1
    obtain ⟨rfl, rfl, HK, P1, R1, W1⟩ := hrel
    cases gk with
    | zero =>
      have e1 : decide ((0 : Int) ≤ ((0 : Nat) : Int) - 1) = false := by decide
      go_wp2_with (fail)
      go_ret
      exact ⟨rfl, P1.out, W1.out⟩
    | succ k =>
      have hk : k < n := HK.out
      have hkl : k < l.length := by have := HN.out; omega
      rw [show ((k + 1 : Nat) : Int) - 1 = (k : Int) by omega]
      have d1 : decide ((0 : Int) ≤ (k : Int)) = true := decide_eq_true (by omega)
      have d3 : (k < n) = True := eq_true hk
      have d4 : ((k : Int) < (n : Int)) = True := eq_true (by omega)
      have d5 : (0 ≤ (k : Int)) = True := eq_true (by omega)
      have hC := (Kd.R_reads' R1.out).2.2
      rw [← HN.out] at hC
      obtain ⟨ad, rfl, x0⟩ := Kd.at_string hC (k : Int) (by omega) (by omega)
      have hx : rdOf ByteArray.empty l (k : Int) = l[k] := by unfold rdOf; simp [hkl]
      rw [hx, Int.toNat_natCast] at x0
      have hd : l.drop k = l[k] :: l.drop (k + 1) := List.drop_eq_getElem_cons hkl
      have hxs := HPS.out _ (List.getElem_mem hkl)
      have ho := chainF_out (l.drop (k + 1)) S
      obtain ⟨x, hxx⟩ : ∃ x, x = l[k] := ⟨_, rfl⟩
      rw [← hxx] at x0 hd hxs
      obtain ⟨N, hN⟩ : ∃ N, N = (chainF (l.drop (k + 1)) S).1 := ⟨_, rfl⟩
      obtain ⟨T, hT⟩ : ∃ T, T = (chainF (l.drop (k + 1)) S).2 := ⟨_, rfl⟩
      have hc2 : chainF (l.drop k) S = (putN T (chA N x).1 (chA N x).2, putS T (chA N x).1 (chA N x).2) := by rw [hd, chainF_cons, hN, hT]
      rw [← hT] at P1 ho
      rw [← hN]
      have HC2 := Aside0.mk hc2
      have hcc := fun W => PBase.sheet_Chain.calls 11 N x (chA N x).1 (chA N x).2 W (chain_k N x (by omega) 11 (Nat.le_refl _))
      have hsz := chA_size N x
      obtain ⟨cb, hcb⟩ : ∃ cb, cb = (chA N x).1 := ⟨_, rfl⟩
      obtain ⟨ci, hci⟩ : ∃ ci, ci = (chA N x).2 := ⟨_, rfl⟩
      rw [← hcb, ← hci] at hcc HC2
      rw [← hcb] at hsz
      have HCC := Aside0.mk hcc
      have HSZ := Aside0.mk hsz
      have HTO := Aside0.mk (show T.out.length ≤ 100000 by rw [List.length_drop] at ho; have := HS.out; have := HN.out; omega)
      clear hC hx hxs ho hxx hd hN hT hc2 hcc hcb hci hsz hkl
      go_wp2_with (fail)
      refine (HCC.out _).mono ?_
      rintro e w2 ⟨rfl, hb2⟩
      have P2 := Aside0.mk (P1.out.step hb2)
      have R2_ := Aside0.mk (Kd.R_below R1.out hb2)
      have W2 := Aside0.mk (W1.out.trans (Kw.below hb2 g))
      clear hb2 P1 R1 W1 x0
      go_wp2_with (fail)
      refine (put_any P2.out cb ci (wfS_small (by have := HSZ.out; omega)) HTO.out).mono ?_
      rintro e w3 ⟨rfl, hp3, hw3⟩
      have P3 := Aside0.mk hp3
      have W3 := Aside0.mk (W2.out.trans hw3)
      obtain ⟨cs, hcs⟩ := P2.out.blk
      have R3 := Aside0.mk (hw3.R hcs R2_.out (by intro q hq; simp [Kd.string, Kd.scalar] at hq; omega))
      clear hp3 hw3 hcs
      go_wp2_with (fail)
      go_roundg k
      case measure => omega
      case rel => exact ⟨by rw [HC2.out], by first | rfl | go_num, ⟨by omega⟩, ⟨by rw [HC2.out]; exact P3.out⟩, R3, W3⟩
end Go.Proofs.YtdhaoaehboonpaaGreat.V
end
section
namespace Go.Proofs.YtdhaoaehboonpaaGreat.V
open Go.RowKit Go.Proofs.YtdhaoaehboonpaaGreatW.PrintWords Go.Proofs.YtdhaoaehboonpaaGreatW.PrintLast Go.Proofs.YtdhaoaehboonpaaGreatW.PrintMore Go.Proofs.YtdhaoaehboonpaaGreatM
set_option linter.unusedVariables false
set_option linter.unusedSimpArgs false
def leafE (l : List C4) : ByteArray × Bool := lfA (fun i => (atC l i.toNat).1) (fun i => (atC l i.toNat).2.1) (fun i => (atC l i.toNat).2.2.1) (fun i => (atC l i.toNat).2.2.2) l.length
def indexE (l : List S2) : ByteArray × Bool := idxA (fun i => (atS l i.toNat).1) (fun i => (atS l i.toNat).2) l.length
theorem leaf_list (A : Option Addr) (c : Nat) (l : List C4) (w : World) (h : Kd.C kC w A l.length l) :
    Calls Tryz.prog 98 #[.slice A l.length c] w fun e w' => e = .returned (.tuple #[.string (leafE l).1, .bool (leafE l).2]) ∧ Below w.heap.size w w' :=
  leaf_all A l.length c w _ _ _ _ (fun i h0 h1 => at_C h i.toNat (by omega))
theorem index_list (A : Option Addr) (c : Nat) (l : List S2) (w : World) (h : Kd.C kS w A l.length l) :
    Calls Tryz.prog 99 #[.slice A l.length c] w fun e w' => e = .returned (.tuple #[.string (indexE l).1, .bool (indexE l).2]) ∧ Below w.heap.size w w' :=
  index_all A l.length c w _ _ (fun i h0 h1 => at_S h i.toNat (by omega))
theorem fullA_size (s : ByteArray) : (fullA s).1.size ≤ 128 := by
  unfold fullA
  split
  · show (s ++ zer (128 - s.size)).size ≤ 128
    rw [ByteArray.size_append, zer_size]; omega
  · exact Nat.zero_le _
theorem leafE_size (l : List C4) : (leafE l).1.size ≤ 128 := by
  unfold leafE lfA
  split
  · split
    · exact fullA_size _
    · exact Nat.zero_le _
  · exact Nat.zero_le _
theorem indexE_size (l : List S2) : (indexE l).1.size ≤ 128 := by
  unfold indexE idxA
  split
  · split
    · exact fullA_size _
    · exact Nat.zero_le _
  · exact Nat.zero_le _
set_option maxHeartbeats 1000000 in
theorem fits_any (A : Option Addr) (c : Nat) (l : List C4) (w : World) (h : Kd.C kC w A l.length l) :
    Calls Tryz.prog 144 #[.slice A l.length c] w fun e w' => e = .returned (.bool (leafE l).2) ∧ Below w.heap.size w w' := by
  have HL := Aside0.mk (leaf_list A c l w h)
  obtain ⟨r1, h1⟩ : ∃ r, r = (leafE l).1 := ⟨_, rfl⟩
  obtain ⟨r2, h2⟩ : ∃ r, r = (leafE l).2 := ⟨_, rfl⟩
  obtain ⟨n, hn⟩ : ∃ n, n = l.length := ⟨_, rfl⟩
  rw [← h1, ← h2, ← hn] at HL
  rw [← h2, ← hn]
  clear h h1 h2 hn
  go_enter Tryz.func144, Tryz.ntmps144
  go_wp2_with (fail)
  with_reducible refine (HL.out).mono ?_
  rintro e w1 ⟨rfl, hb⟩
  have HB := Aside0.mk hb
  clear hb HL
  go_wp2_with (fail)
  go_ret
  exact ⟨rfl, HB.out⟩
def lvs : List C4 → List C4 → List (List C4)
  | cur, [] => (match cur with | [] => [] | _ :: _ => [cur])
  | cur, c :: r => if (leafE (cur ++ [c])).2 = true then lvs (cur ++ [c]) r else cur :: lvs [c] r
theorem lvs_length : ∀ (r cur : List C4), (lvs cur r).length ≤ r.length + 1
  | [], cur => by unfold lvs; cases cur <;> simp
  | c :: r, cur => by
    unfold lvs
    split
    · have := lvs_length r (cur ++ [c]); rw [List.length_cons]; omega
    · have := lvs_length r [c]; rw [List.length_cons, List.length_cons]; omega
abbrev kL (w : World) : Kd (List C4) := Kd.fixed (Kd.slice 151 kC) w
theorem kL_mk {w w' : World} {base : Nat} {ok : Nat → Prop} {A : Option Addr} {c : Nat} {xs : List C4} (hl : xs.length ≤ c) (h : Kd.C kC w A xs.length xs) : (kL w).M w' base ok xs [.slice A xs.length c] := ⟨A, c, rfl, hl, h⟩
theorem take_drop_len {l : List C4} {a b : Nat} (h1 : a ≤ b) (h2 : b ≤ l.length) : ((l.take b).drop a).length = b - a := by rw [List.length_drop, List.length_take]; omega
set_option maxHeartbeats 8000000 in
set_option maxRecDepth 100000 in
theorem leaves_any (w Wf : World) (A : Option Addr) (c : Nat) (l : List C4) (h : Kd.C kC w A l.length l) (hW : Kd.C kC Wf A l.length l) (hc : l.length ≤ c) (hl : l.length ≤ 100000) :
    Calls Tryz.prog 95 #[.slice A l.length c] w fun e w' => ∃ v, e = .returned v ∧ (kL Wf).R 149 w' w.heap.size (fun k => w.heap.size ≤ k) v (lvs [] l) ∧ Below w.heap.size w w' := by
  have HC := Aside0.mk h
  have HL := Aside0.mk hl
  obtain ⟨i0, hi0, hz0⟩ := Option.map_eq_some_iff.1 info151
  have hsz0 : i0.size = 4 := by simp only [Prod.mk.injEq] at hz0; exact hz0.2.1
  have hcut := fun (lo hi : Nat) (h1 : lo ≤ hi) (h2 : hi ≤ l.length) => cut_mid (P := Tryz.prog) 149 151 .i64 .i64 Tryz.underlying149 hi0 4 hsz0 A l.length c (lo : Int) (hi : Int) (by omega) (by omega) (by omega) hc
  have hcut2 := fun (lo : Nat) (h1 : lo ≤ l.length) => cut_from (P := Tryz.prog) 149 151 .i64 Tryz.underlying149 hi0 4 hsz0 A l.length c (lo : Int) (by omega) (by omega)
  have hmid := fun (lo hi : Nat) (h1 : lo ≤ hi) (h2 : hi ≤ l.length) => Kd.C_mid h h1 h2 hc
  have hmidW := fun (lo hi : Nat) (h1 : lo ≤ hi) (h2 : hi ≤ l.length) => Kd.C_mid hW h1 h2 hc
  have hdr := fun (lo : Nat) (h1 : lo ≤ l.length) => Kd.C_drop hW h1 hc
  obtain ⟨n, hn⟩ : ∃ n, n = l.length := ⟨_, rfl⟩
  have HN := Aside0.mk hn
  rw [← hn] at hcut hcut2 hmid hmidW hdr hl hc
  rw [← hn]
  have HCUT := Aside0.mk hcut
  have HCUT2 := Aside0.mk hcut2
  have HMID := Aside0.mk hmid
  have HDR := Aside0.mk hdr
  have HMIDW := Aside0.mk hmidW
  have HCC := Aside0.mk hc
  clear h hW hc hcut hcut2 hmid hmidW hdr hn hi0 hz0 hsz0
  go_enter Tryz.func95, Tryz.ntmps95
  go_wp2_with (fail)
  go_loopg [3, 4, 8] n (fun kx v3 v4 v8 wr => ∃ (i f : Nat) (out : List (List C4)), v8 = .int .i64 i ∧ v4 = .int .i64 f ∧ f ≤ i ∧ Aside0 (i + kx = n) ∧ Aside0 (out ++ lvs ((l.take i).drop f) (l.drop i) = lvs [] l) ∧ Aside0 (out.length ≤ i) ∧ Aside0 ((kL Wf).R 149 wr w.heap.size (fun k => w.heap.size ≤ k) v3 out) ∧ Aside0 (Below w.heap.size w wr))
  case atStart => exact ⟨0, 0, [], rfl, rfl, Nat.le_refl _, ⟨by omega⟩, ⟨by simp⟩, ⟨Nat.le_refl _⟩, ⟨Kd.R_nil _ _ _ _ _⟩, ⟨Below.refl _ _⟩⟩
  case round =>
    obtain ⟨i, f, out, rfl, rfl, hfi, HI, HX, HO, HR, HB⟩ := hrel
    have HFI := Aside0.mk hfi
    cases gk with
    | zero =>
      have hi : i = n := by have := HI.out; omega
      have d1 : decide ((i : Int) < (n : Int)) = false := decide_eq_false (by omega)
      have d2 : decide (i < n) = false := decide_eq_false (by omega)
      have hX := HX.out
      rw [show l.drop i = [] from List.drop_of_length_le (by have := HN.out; omega), show l.take i = l from List.take_of_length_le (by have := HN.out; omega)] at hX
      by_cases hf : f < n
      · have d3 : decide ((f : Int) < (n : Int)) = true := decide_eq_true (by omega)
        have d4 : decide (f < n) = true := decide_eq_true hf
        have hne : ∃ a t, l.drop f = a :: t := by
          cases hd : l.drop f with
          | nil => have h2 := congrArg List.length hd; rw [List.length_drop, List.length_nil] at h2; have := HN.out; omega
          | cons a t => exact ⟨a, t, rfl⟩
        obtain ⟨a, t, hat⟩ := hne
        have hX2 : out ++ [l.drop f] = lvs [] l := by rw [← hX, hat]; rfl
        have hrun := HCUT2.out f (by omega)
        rw [Int.toNat_natCast] at hrun
        have hcd := HDR.out f (by omega)
        have hln : (l.drop f).length = n - f := by rw [List.length_drop, HN.out]
        obtain ⟨A2, hA2⟩ : ∃ A2, A2 = (if c = f then A else A.map (·.add (f * 4))) := ⟨_, rfl⟩
        rw [← hA2] at hrun
        have hcd2 : Kd.C kC Wf A2 (l.drop f).length (l.drop f) := by rw [hA2]; exact hcd
        obtain ⟨q, hq⟩ : ∃ q, q = (l.drop f).length := ⟨_, rfl⟩
        rw [show n - f = q by omega] at hrun
        have HQ := Aside0.mk hq
        have HCD := Aside0.mk hcd2
        have HX2 := Aside0.mk hX2
        have hlen : out.length ≤ 100000 := by have := HO.out; omega
        clear hX hX2 hat hcd hcd2 hln hA2 hq hi
        have HQC := Aside0.mk (show (l.drop f).length ≤ c - f by rw [List.length_drop]; have := HN.out; have := HCC.out; omega)
        go_wp2_with (first
          | ((with_reducible refine gate_builtin (b := .append) (xs := #[.tmp 31, .tmp 35]) rfl ?_); at_builtin; go_must (refine Kd.R_append (kL Wf) w.heap.size rfl (.tmp 31) (.tmp 35) 153 149 (.slice none 0 0) 24 rfl Tryz.underlying153 info149 rfl Nat.one_pos (by omega) u3 out (l.drop f) [.slice A2 q (c - f)] (fun k => w.heap.size ≤ k) (fun _ => False) rfl rfl (by rw [HQ.out]; exact kL_mk HQC.out HCD.out) (fun _ hk => hk.elim) ?aF HR.out HB.out HB.out.size (by omega) ?_); (case aF => exact fun k hk => Nat.le_trans HB.out.size hk); intro v5_ w5_ ho_ hb_ hg_ hat_; rw [HX2.out] at ho_; have HR2 := Aside0.mk ho_; have HB2 := Aside0.mk hb_; clear ho_ hb_ hg_ hat_))
        go_ret
        exact ⟨_, rfl, HR2.out, HB2.out⟩
      · have d3 : decide ((f : Int) < (n : Int)) = false := decide_eq_false (by omega)
        have d4 : decide (f < n) = false := decide_eq_false hf
        have hX2 : out = lvs [] l := by rw [← hX, show l.drop f = [] from List.drop_of_length_le (by have := HN.out; omega)]; simp [lvs]
        have HX2 := Aside0.mk hX2
        clear hX hX2 hi hf
        go_wp2_with (fail)
        go_ret
        exact ⟨_, rfl, by rw [← HX2.out]; exact HR.out, HB.out⟩
    | succ gk =>
      have hi : i < n := by have := HI.out; omega
      have hil : i < l.length := by have := HN.out; omega
      have d1 : decide ((i : Int) < (n : Int)) = true := decide_eq_true (by omega)
      have d2 : decide (i < n) = true := decide_eq_true hi
      have hX := HX.out
      rw [List.drop_eq_getElem_cons hil] at hX
      have htk : (l.take i).drop f ++ [l[i]] = (l.take (i + 1)).drop f := by
        rw [List.take_succ_eq_append_getElem hil, List.drop_append_of_le_length (by rw [List.length_take]; omega)]
      rw [show ∀ cur c r, lvs cur (c :: r) = if (leafE (cur ++ [c])).2 = true then lvs (cur ++ [c]) r else cur :: lvs [c] r from fun _ _ _ => rfl, htk] at hX
      have hrun := HCUT.out f (i + 1) (by omega) (by omega)
      rw [Int.toNat_natCast, Int.toNat_natCast] at hrun
      have hcd := HMID.out f (i + 1) (by omega) (by omega)
      have hln : ((l.take (i + 1)).drop f).length = i + 1 - f := take_drop_len (by omega) (by omega)
      obtain ⟨A2, hA2⟩ : ∃ A2, A2 = (if c = f then A else A.map (·.add (f * 4))) := ⟨_, rfl⟩
      rw [← hA2] at hrun
      have hcd2 : Kd.C kC w A2 ((l.take (i + 1)).drop f).length ((l.take (i + 1)).drop f) := by rw [hA2]; exact hcd
      obtain ⟨xs, hxs⟩ : ∃ xs, xs = (l.take (i + 1)).drop f := ⟨_, rfl⟩
      rw [← hxs] at hcd2 hX hln
      have hfit := fits_any A2 (c - f) xs wr (Kd.C_below hcd2 HB.out)
      rw [hln] at hfit
      rw [show ((i + 1 : Nat) : Int) = (i : Int) + 1 by omega] at hrun
      cases hb : (leafE xs).2 with
      | true =>
        rw [hb] at hfit hX
        rw [if_pos rfl, hxs] at hX
        have HX2 := Aside0.mk hX
        have HF := Aside0.mk hfit
        clear hX hxs hln hcd hcd2 htk hA2 hb hfit hil
        go_wp2_with (fail)
        with_reducible refine (HF.out).mono ?_
        rintro e w2 ⟨rfl, hb2⟩
        have HR2 := Aside0.mk (Kd.R_below HR.out hb2)
        have HB2 := Aside0.mk (below_step HB.out hb2)
        clear hb2 HF hrun
        go_wp2_with (fail)
        go_roundg gk
        case measure => omega
        case rel => exact ⟨i + 1, f, out, by first | rfl | go_num, rfl, by omega, ⟨by have := HI.out; omega⟩, HX2, ⟨by have := HO.out; omega⟩, HR2, HB2⟩
      | false =>
        rw [hb] at hfit hX
        rw [if_neg (by decide), show [l[i]] = (l.take (i + 1)).drop i from by rw [List.take_succ_eq_append_getElem hil, List.drop_append_of_le_length (by rw [List.length_take]; omega), List.drop_of_length_le (by rw [List.length_take]; omega)]; rfl] at hX
        have hrun3 := HCUT.out f i (by omega) (by omega)
        rw [Int.toNat_natCast, Int.toNat_natCast] at hrun3
        have hcd3 := HMIDW.out f i (by omega) (by omega)
        have hln3 : ((l.take i).drop f).length = i - f := take_drop_len (by omega) (by omega)
        rw [← hA2] at hrun3
        have hcd4 : Kd.C kC Wf A2 ((l.take i).drop f).length ((l.take i).drop f) := by rw [hA2]; exact hcd3
        obtain ⟨ys, hys⟩ : ∃ ys, ys = (l.take i).drop f := ⟨_, rfl⟩
        rw [← hys] at hcd4 hX hln3
        have HX2 := Aside0.mk (show (out ++ [ys]) ++ lvs ((l.take (i + 1)).drop i) (l.drop (i + 1)) = lvs [] l by rw [List.append_assoc]; exact hX)
        have HF := Aside0.mk hfit
        have HCD := Aside0.mk hcd4
        obtain ⟨q, hq⟩ : ∃ q, q = i - f := ⟨_, rfl⟩
        rw [← hq] at hrun3
        have HQ := Aside0.mk (show q = ys.length by omega)
        have HQC := Aside0.mk (show ys.length ≤ c - f by have := HCC.out; omega)
        have hlen : out.length ≤ 100000 := by have := HO.out; omega
        clear hX hxs hln hcd hcd2 htk hA2 hb hfit hil hcd3 hcd4 hln3 hys hq
        go_wp2_with (fail)
        with_reducible refine (HF.out).mono ?_
        rintro e w2 ⟨rfl, hb2⟩
        have HR2 := Aside0.mk (Kd.R_below HR.out hb2)
        have HB2 := Aside0.mk (below_step HB.out hb2)
        clear hb2 HF hrun
        go_wp2_with (first
          | ((with_reducible refine gate_builtin (b := .append) (xs := #[.tmp 18, .tmp 23]) rfl ?_); at_builtin; go_must (refine Kd.R_append (kL Wf) w.heap.size rfl (.tmp 18) (.tmp 23) 153 149 (.slice none 0 0) 24 rfl Tryz.underlying153 info149 rfl Nat.one_pos (by omega) u3 out ys [.slice A2 q (c - f)] (fun k => w.heap.size ≤ k) (fun _ => False) rfl rfl (by rw [HQ.out]; exact kL_mk HQC.out HCD.out) (fun _ hk => hk.elim) ?aF HR2.out HB2.out HB2.out.size (by omega) ?_); (case aF => exact fun k hk => Nat.le_trans HB2.out.size hk); intro v5_ w5_ ho_ hb_ hg_ hat_; have HR3 := Aside0.mk ho_; have HB3 := Aside0.mk hb_; clear ho_ hb_ hg_ hat_))
        go_roundg gk
        case measure => omega
        case rel => exact ⟨i + 1, i, out ++ [ys], by first | rfl | go_num, rfl, by omega, ⟨by have := HI.out; omega⟩, HX2, ⟨by rw [List.length_append]; have := HO.out; simp; omega⟩, HR3, HB3⟩
end Go.Proofs.YtdhaoaehboonpaaGreat.V
end
section
namespace Go.Proofs.YtdhaoaehboonpaaGreat.V
open Go.RowKit Go.Proofs.YtdhaoaehboonpaaGreatW.PrintWords Go.Proofs.YtdhaoaehboonpaaGreatW.PrintLast Go.Proofs.YtdhaoaehboonpaaGreatW.PrintMore Go.Proofs.YtdhaoaehboonpaaGreatM
set_option linter.unusedVariables false
set_option linter.unusedSimpArgs false
theorem index_l0 (l : List Int) (x : Int) (hl : l.length ≤ 1000000) (d : Nat) : ∀ (k i : Nat), l.length - i = d → i ≤ l.length → d < k → ∃ r, PVaultFormats.slices_Index_int_int.l0 k l x (l.length : Int) (i : Int) = some r ∧ (0 ≤ r ↔ x ∈ l.drop i) := by
  induction d with
  | zero =>
    intro k i hd hi hk
    obtain ⟨k, rfl⟩ : ∃ m, k = m + 1 := ⟨k - 1, by omega⟩
    refine ⟨-1, ?_, ?_⟩
    · simp only [PVaultFormats.slices_Index_int_int.l0]; rw [if_neg (by omega)]
    · rw [List.drop_of_length_le (by omega)]; simp
  | succ d ih =>
    intro k i hd hi hk
    obtain ⟨k, rfl⟩ : ∃ m, k = m + 1 := ⟨k - 1, by omega⟩
    have hi2 : i < l.length := by omega
    simp only [PVaultFormats.slices_Index_int_int.l0]
    rw [if_pos (by omega), if_pos (by omega), if_pos (by omega), List.drop_eq_getElem_cons hi2]
    have hrd : rd l (i : Int) = l[i] := by unfold rd; simp [hi2]
    rw [hrd]
    by_cases h : x = l[i]
    · rw [if_pos h]; exact ⟨_, rfl, by constructor; · intro _; rw [h]; exact List.mem_cons_self
                                       · intro _; omega⟩
    · rw [if_neg h]
      obtain ⟨r, h1, h2⟩ := ih k (i + 1) (by omega) (by omega) (by omega)
      rw [show wrap64 ((i : Int) + 1) = ((i + 1 : Nat) : Int) from by unfold wrap64; omega]
      exact ⟨r, h1, by rw [h2, List.mem_cons]; exact ⟨.inr, fun h3 => h3.resolve_left h⟩⟩
theorem contains_f (l : List Int) (x : Int) (hl : l.length ≤ 1000000) : PVaultFormats.slices_Contains_int_int.f (l.length + 1) l x = some (decide (x ∈ l)) := by
  unfold PVaultFormats.slices_Contains_int_int.f PVaultFormats.slices_Index_int_int.f
  obtain ⟨r, h1, h2⟩ := index_l0 l x hl l.length (l.length + 1) 0 (by omega) (by omega) (by omega)
  rw [List.drop_zero] at h2
  rw [show ((0 : Nat) : Int) = 0 from rfl] at h1
  rw [h1, Option.bind_some]
  congr 1
  exact decide_eq_decide.2 h2
theorem contains_any (A : Option Addr) (c : Nat) (l : List Int) (x : Int) (w : World) (h : Kd.C (Kd.int .i64) w A l.length l) (hc : l.length ≤ c) (hl : l.length ≤ 1000000) :
    Calls Tryz.prog 141 #[.slice A l.length c, .int .i64 x] w fun e w' => e = .returned (.bool (decide (x ∈ l))) ∧ Below w.heap.size w w' :=
  (PVaultFormats.slices_Contains_int_int.calls (l.length + 1) A c l x _ w h hc (contains_f l x hl)).mono fun _ _ ⟨he, hb⟩ => ⟨he, by first | exact hb | exact hb.below⟩
def badP (n : Int) : Bool := decide (n < 2) || decide (200 ≤ n)
set_option maxHeartbeats 1000000 in
theorem bad_any (n : Int) (w : World) : Calls Tryz.prog 143 #[.int .i64 n] w fun e w' => e = .returned (.bool (badP n)) ∧ w' = w := by
  unfold badP
  by_cases h1 : n < 2
  · have d1 := decide_eq_true h1
    clear h1
    go_enter Tryz.func143, Tryz.ntmps143
    go_wp2
    go_ret
    exact ⟨by rw [d1]; rfl, rfl⟩
  · have d1 := decide_eq_false h1
    obtain ⟨b, hb⟩ : ∃ b, b = decide (200 ≤ n) := ⟨_, rfl⟩
    have d2 := hb.symm
    rw [d1, ← hb]
    clear h1 hb
    cases b
    all_goals
      go_enter Tryz.func143, Tryz.ntmps143
      go_wp2
      go_ret
      exact ⟨by first | rfl | (rw [d2]; rfl), rfl⟩
set_option maxHeartbeats 4000000 in
set_option maxRecDepth 100000 in
theorem indexFunc_any (A : Option Addr) (c : Nat) (l : List Int) (w : World) (h : Kd.C (Kd.int .i64) w A l.length l) (hl : l.length ≤ 1000000) :
    Calls Tryz.prog 175 #[.slice A l.length c, .func (.func 143) #[] #[]] w fun e w' => ∃ r : Int, e = .returned (.int .i64 r) ∧ (0 ≤ r ↔ l.any badP = true) ∧ -1 ≤ r ∧ w' = w := by
  have HC := Aside0.mk h
  obtain ⟨n, hn⟩ : ∃ n, n = l.length := ⟨_, rfl⟩
  have HN := Aside0.mk hn
  rw [← hn] at HC hl ⊢
  have eg : ∀ args w, (callFunc 143 args).run Tryz.prog w = .ok (.enter 143 args) w := enters_of Tryz.func143 (by kernel_rfl) rfl
  clear h hn
  go_enter Tryz.func175, Tryz.ntmps175
  go_wp2_with (fail)
  go_loopg [8] n (fun kx v8 wr => ∃ i : Nat, v8 = .int .i64 i ∧ Aside0 (i + kx = n) ∧ Aside0 ((l.take i).any badP = false) ∧ wr = w)
  case atStart => exact ⟨0, rfl, ⟨by omega⟩, ⟨by simp⟩, rfl⟩
  case round =>
    obtain ⟨i, rfl, HI, HA, rfl⟩ := hrel
    cases gk with
    | zero =>
      have hi : i = n := by have := HI.out; omega
      subst hi
      have d1 : decide ((i : Int) < (i : Int)) = false := decide_eq_false (by omega)
      have d2 : decide (i < i) = false := decide_eq_false (by omega)
      go_wp2_with (fail)
      go_ret
      have hA := HA.out
      rw [List.take_of_length_le (by have := HN.out; omega)] at hA
      exact ⟨-1, rfl, by rw [hA]; simp, by omega, rfl⟩
    | succ gk =>
      have hi : i < n := by have := HI.out; omega
      have hil : i < l.length := by have := HN.out; omega
      have d1 : decide ((i : Int) < (n : Int)) = true := decide_eq_true (by omega)
      have d2 : decide (i < n) = true := decide_eq_true hi
      have d3 : (i < n) = True := eq_true hi
      have d4 : ((i : Int) < (n : Int)) = True := eq_true (by omega)
      have d5 : (0 ≤ (i : Int)) = True := eq_true (by omega)
      obtain ⟨ad, rfl, x0⟩ := Kd.at_int HC.out (i : Int) (by omega) (by omega)
      have hrd : rd l (i : Int) = l[i] := by unfold rd; simp [hil]
      rw [hrd, Int.toNat_natCast] at x0
      obtain ⟨x, hx⟩ : ∃ x, x = l[i] := ⟨_, rfl⟩
      rw [← hx] at x0
      have hany : (l.take (i + 1)).any badP = badP x := by
        rw [List.take_succ_eq_append_getElem hil, List.any_append, HA.out, ← hx]; simp
      have HB := Aside0.mk (bad_any x wr)
      cases hb : badP x with
      | true =>
        rw [hb] at HB hany
        have hall : l.any badP = true := by
          have h1 := congrArg (fun m => m.any badP) (List.take_append_drop (i + 1) l)
          simp only [List.any_append] at h1
          rw [← h1, hany]; rfl
        have HALL := Aside0.mk hall
        clear hall hany hb hx hrd hil
        go_wp2_with (fail)
        with_reducible refine (HB.out).mono ?_
        rintro e w' ⟨rfl, rfl⟩
        go_wp2_with (fail)
        go_ret
        exact ⟨i, rfl, by rw [HALL.out]; simp, by omega, rfl⟩
      | false =>
        rw [hb] at HB hany
        have HANY := Aside0.mk hany
        clear hany hb hx hrd hil
        go_wp2_with (fail)
        with_reducible refine (HB.out).mono ?_
        rintro e w' ⟨rfl, rfl⟩
        go_wp2_with (fail)
        go_roundg gk
        case measure => omega
        case rel => exact ⟨i + 1, by first | rfl | go_num, ⟨by have := HI.out; omega⟩, HANY, rfl⟩
set_option maxHeartbeats 4000000 in
theorem containsFunc_any (A : Option Addr) (c : Nat) (l : List Int) (w : World) (h : Kd.C (Kd.int .i64) w A l.length l) (hl : l.length ≤ 1000000) :
    Calls Tryz.prog 142 #[.slice A l.length c, .func (.func 143) #[] #[]] w fun e w' => e = .returned (.bool (l.any badP)) ∧ w' = w := by
  have HI := Aside0.mk (indexFunc_any A c l w h hl)
  obtain ⟨n, hn⟩ : ∃ n, n = l.length := ⟨_, rfl⟩
  obtain ⟨r0, hr0⟩ : ∃ r, r = l.any badP := ⟨_, rfl⟩
  rw [← hn, ← hr0] at HI
  rw [← hn, ← hr0]
  clear h hn hr0 hl
  go_enter Tryz.func142, Tryz.ntmps142
  go_wp2_with (fail)
  with_reducible refine (HI.out).mono ?_
  rintro e w' ⟨r, rfl, hr, hr1, rfl⟩
  have HE := Aside0.mk (show r0 = decide (0 ≤ r) by cases r0 with
    | true => rw [decide_eq_true (hr.2 rfl)]
    | false => rw [decide_eq_false (fun h => by have := hr.1 h; cases this)])
  clear hr
  go_wp2_with (fail)
  go_ret
  exact ⟨by rw [HE.out]; rfl, rfl⟩
def frOk (hv fr : List Int) (k : Nat) : Bool := (List.range k).all fun i => !decide (fr.getD i 0 ∈ hv) && !decide (fr.getD i 0 ∈ fr.take i)
def mayE (hv fr : List Int) : Bool := frOk hv fr fr.length && !((hv ++ fr).any badP)
theorem frOk_snoc (hv fr : List Int) (k : Nat) : frOk hv fr (k + 1) = (frOk hv fr k && (!decide (fr.getD k 0 ∈ hv) && !decide (fr.getD k 0 ∈ fr.take k))) := by
  unfold frOk; rw [List.range_succ, List.all_append]; simp
theorem frOk_more (hv fr : List Int) (k : Nat) (h : frOk hv fr k = false) : ∀ d, frOk hv fr (k + d) = false
  | 0 => h
  | d + 1 => by rw [← Nat.add_assoc, frOk_snoc, frOk_more hv fr k h d]; rfl
set_option maxHeartbeats 8000000 in
set_option maxRecDepth 100000 in
theorem may_any (w : World) (A : Option Addr) (c : Nat) (l : List R2) (B : Option Addr) (d : Nat) (fr : List Int) (h : Kd.C kR w A l.length l) (hc : l.length ≤ c) (hl : l.length ≤ 100000) (h2 : Kd.C (Kd.int .i64) w B fr.length fr) (hd : fr.length ≤ d) (hl2 : fr.length ≤ 100000) :
    Calls Tryz.prog 93 #[.slice A l.length c, .slice B fr.length d] w fun e w' => e = .returned (.bool (mayE (l.map (·.1)) fr)) ∧ Below w.heap.size w w' := by
  have HC := Aside0.mk h
  have HD := Aside0.mk h2
  have HCC := Aside0.mk hc
  have HDD := Aside0.mk hd
  obtain ⟨n, hn⟩ : ∃ n, n = l.length := ⟨_, rfl⟩
  obtain ⟨q, hq⟩ : ∃ q, q = fr.length := ⟨_, rfl⟩
  obtain ⟨hv, hhv⟩ : ∃ hv, hv = l.map (·.1) := ⟨_, rfl⟩
  have hvl : hv.length = n := by rw [hhv, List.length_map, hn]
  have HN := Aside0.mk hn
  have HQ := Aside0.mk hq
  have HV := Aside0.mk hhv
  have HVL := Aside0.mk hvl
  rw [← hn] at hl ⊢
  rw [← hq] at hl2 ⊢
  rw [← hhv]
  obtain ⟨i3, hi3, hz3⟩ := Option.map_eq_some_iff.1 info3
  have hsz3 : i3.size = 1 := by simp only [Prod.mk.injEq] at hz3; exact hz3.2.1
  have hcut := fun (k : Nat) (hk : k ≤ q) => print_take_of (P := Tryz.prog) (Value.int .i64) (0 : Int) 40 3 .i64 Tryz.underlying40 hi3 hsz3 B d fr (k : Int) (by omega) (by omega) hd
  have HCUT := Aside0.mk hcut
  clear h hc h2 hd hn hq hhv hvl hi3 hz3 hsz3 hcut
  go_enter Tryz.func93, Tryz.ntmps93
  go_wp2_with (fail)
  go_loopg [5, 12] n (fun kx v5 v12 wr => ∃ i : Nat, v12 = .int .i64 i ∧ Aside0 (i + kx = n) ∧ Aside0 ((Kd.int .i64).R 3 wr w.heap.size (fun k => w.heap.size ≤ k) v5 (hv.take i)) ∧ Aside0 (Below w.heap.size w wr))
  case atStart => exact ⟨0, rfl, ⟨by omega⟩, ⟨Kd.R_nil _ _ _ _ _⟩, ⟨Below.refl _ _⟩⟩
  case round =>
    obtain ⟨i, rfl, HI, HR, HB⟩ := hrel
    cases gk with
    | zero =>
      have hi : i = n := by have := HI.out; omega
      subst hi
      have d1 : decide ((i : Int) < (i : Int)) = false := decide_eq_false (by omega)
      have d2 : decide (i < i) = false := decide_eq_false (by omega)
      have hR := HR.out
      rw [List.take_of_length_le (by have := HVL.out; omega)] at hR
      obtain ⟨A2, c2, rfl, hc2, hC2⟩ := Kd.R_reads hR
      rw [HVL.out] at hR hc2 hC2 ⊢
      have HR2 := Aside0.mk hR
      have HC2 := Aside0.mk hC2
      have hctn := fun (x : Int) (W : World) (hW : Below wr.heap.size wr W) => contains_any A2 c2 hv x W (by rw [HVL.out]; exact Kd.C_below HC2.out hW) (by have := HVL.out; omega) (by have := HVL.out; omega)
      rw [HVL.out] at hctn
      have HCT := Aside0.mk hctn
      have hctn2 := fun (k : Nat) (hk : k ≤ q) (x : Int) (W : World) (hW : Below wr.heap.size wr W) => contains_any B d (fr.take k) x W (Kd.C_take (Kd.C_below (Kd.C_below HD.out HB.out) hW) (by have := HQ.out; omega)) (by rw [List.length_take]; have := HDD.out; omega) (by rw [List.length_take]; have := HQ.out; omega)
      have HCT2 := Aside0.mk hctn2
      clear hR hc2 hC2 hctn hctn2 HR
      go_wp2_with (fail)
      clear d1 d2
      go_loopg [24] q (fun kx v24 W => ∃ j : Nat, v24 = .int .i64 j ∧ Aside0 (j + kx = q) ∧ Aside0 (frOk hv fr j = true) ∧ Aside0 (Below wr.heap.size wr W))
      case atStart => exact ⟨0, rfl, ⟨by omega⟩, ⟨rfl⟩, ⟨Below.refl _ _⟩⟩
      case round =>
        obtain ⟨j, rfl, HJ, HF, HW⟩ := hrel
        rename World => W
        cases gk with
        | zero =>
          have hj : j = q := by have := HJ.out; omega
          have d1 : decide ((j : Int) < (q : Int)) = false := decide_eq_false (by omega)
          have d2 : decide (j < q) = false := decide_eq_false (by omega)
          have hF := HF.out
          have hm : mayE hv fr = !((hv ++ fr).any badP) := by unfold mayE; rw [← HQ.out, ← hj, hF]; rfl
          have hRW := Kd.R_below HR2.out HW.out
          have hDW := Kd.C_below (Kd.C_below HD.out HB.out) HW.out
          rw [← HQ.out] at hDW
          have HRW := Aside0.mk hRW
          have HDW := Aside0.mk hDW
          have HBW := Aside0.mk (below_step HB.out HW.out)
          have hlv : hv.length + q ≤ 300000 := by have := HVL.out; omega
          obtain ⟨r0, hr0⟩ : ∃ r, r = (hv ++ fr).any badP := ⟨_, rfl⟩
          have HR0 := Aside0.mk hr0
          rw [← hr0] at hm
          have HM := Aside0.mk hm
          clear hj hF hm hRW hDW hr0
          go_wp2_with (first
            | ((with_reducible refine gate_builtin (b := .append) (xs := #[.tmp 40, .tmp 41]) rfl ?_); at_builtin; go_must (refine Kd.R_append_rows (Kd.int .i64) (Rr := (Kd.int .i64).K W) w.heap.size rfl (.tmp 40) (.tmp 41) 40 3 (.int .i64 0) 8 rfl Tryz.underlying40 info3 rfl (by decide) (by omega) (.slice A2 i c2) hv fr B q d (fun k => w.heap.size ≤ k) (fun _ => False) rfl rfl HRW.out HDW.out (fun x cs hx => hx) (fun _ hk => hk.elim) ?aF HBW.out HBW.out.size (by omega) ?_); (case aF => exact fun k hk => Nat.le_trans HBW.out.size hk); intro v5_ w5_ ho_ hb_ hg_ hat_; obtain ⟨A3, c3, rfl, hc3, hC3⟩ := Kd.R_reads ho_; have HB5 := Aside0.mk hb_; have HCF := Aside0.mk (containsFunc_any A3 c3 (hv ++ fr) w5_ hC3 (by rw [List.length_append]; have := HVL.out; have := HQ.out; omega)); obtain ⟨l3, hl3⟩ : ∃ l3, l3 = (hv ++ fr).length := ⟨_, rfl⟩; rw [← hl3, ← HR0.out] at HCF; rw [← hl3]; clear ho_ hb_ hg_ hat_ hc3 hC3 hl3))
          with_reducible refine (HCF.out).mono ?_
          rintro e w6 ⟨rfl, rfl⟩
          go_wp2_with (fail)
          go_ret
          exact ⟨by rw [HM.out]; rfl, HB5.out⟩
        | succ gk =>
          have hj : j < q := by have := HJ.out; omega
          have hjl : j < fr.length := by have := HQ.out; omega
          have d1 : decide ((j : Int) < (q : Int)) = true := decide_eq_true (by omega)
          have d2 : decide (j < q) = true := decide_eq_true hj
          have d3 : (j < q) = True := eq_true hj
          have d4 : ((j : Int) < (q : Int)) = True := eq_true (by omega)
          have d5 : (0 ≤ (j : Int)) = True := eq_true (by omega)
          have hCW := Kd.C_below (Kd.C_below HD.out HB.out) HW.out
          rw [← HQ.out] at hCW
          obtain ⟨ad, rfl, x0⟩ := Kd.at_int hCW (j : Int) (by omega) (by omega)
          have hrd : rd fr (j : Int) = fr.getD j 0 := by unfold rd; rw [Int.toNat_natCast]
          rw [hrd, Int.toNat_natCast] at x0
          have hsn := frOk_snoc hv fr j
          obtain ⟨x, hx⟩ : ∃ x, x = fr.getD j 0 := ⟨_, rfl⟩
          rw [← hx, HF.out] at hsn
          rw [← hx] at x0
          have hc1 := HCT.out x W HW.out
          have hno : frOk hv fr (j + 1) = false → mayE hv fr = false := fun h => by
            unfold mayE
            have h2 := frOk_more hv fr (j + 1) h (fr.length - (j + 1))
            rw [show j + 1 + (fr.length - (j + 1)) = fr.length by omega] at h2
            rw [h2]; rfl
          obtain ⟨hrun, _, _⟩ := HCUT.out j (by omega)
          rw [Int.toNat_natCast] at hrun
          have hlj : (fr.take j).length = j := by rw [List.length_take]; have := HQ.out; omega
          rw [hlj, ← HQ.out] at hrun
          by_cases m1 : x ∈ hv
          · rw [decide_eq_true m1] at hsn hc1
            have hmf := hno hsn
            have HMF := Aside0.mk hmf
            have HC1 := Aside0.mk hc1
            clear hsn hc1 hno hmf m1 hx hrd hCW hjl hlj
            go_wp2_with (fail)
            with_reducible refine (HC1.out).mono ?_
            rintro e w6 ⟨rfl, hb⟩
            have HB6 := Aside0.mk (below_step (below_step HB.out HW.out) hb)
            clear hb
            go_wp2_with (fail)
            go_ret
            exact ⟨by rw [HMF.out]; rfl, HB6.out⟩
          · rw [decide_eq_false m1] at hsn hc1
            have HC1 := Aside0.mk hc1
            have hc2 := fun (w6 : World) (hb : Below W.heap.size W w6) => HCT2.out j (by omega) x w6 (below_step HW.out hb)
            rw [hlj] at hc2
            by_cases m2 : x ∈ fr.take j
            · rw [decide_eq_true m2] at hsn hc2
              have hmf := hno hsn
              have HMF := Aside0.mk hmf
              have HC2 := Aside0.mk hc2
              clear hsn hc1 hc2 hno hmf m1 m2 hx hrd hCW hjl hlj
              go_wp2_with (fail)
              with_reducible refine (HC1.out).mono ?_
              rintro e w6 ⟨rfl, hb⟩
              have HB6 := Aside0.mk hb
              clear hb
              go_wp2_with (fail)
              with_reducible refine (HC2.out _ HB6.out).mono ?_
              rintro e w7 ⟨rfl, hb⟩
              have HB7 := Aside0.mk (below_step (below_step (below_step HB.out HW.out) HB6.out) hb)
              clear hb
              go_wp2_with (fail)
              go_ret
              exact ⟨by rw [HMF.out]; rfl, HB7.out⟩
            · rw [decide_eq_false m2] at hsn hc2
              have HC2 := Aside0.mk hc2
              have HS := Aside0.mk hsn
              clear hsn hc1 hc2 hno m1 m2 hx hrd hCW hjl hlj
              go_wp2_with (fail)
              with_reducible refine (HC1.out).mono ?_
              rintro e w6 ⟨rfl, hb⟩
              have HB6 := Aside0.mk hb
              clear hb
              go_wp2_with (fail)
              with_reducible refine (HC2.out _ HB6.out).mono ?_
              rintro e w7 ⟨rfl, hb⟩
              have HB7 := Aside0.mk (below_step (below_step HW.out HB6.out) hb)
              clear hb
              go_wp2_with (fail)
              go_roundg gk
              case measure => omega
              case rel => exact ⟨j + 1, by first | rfl | go_num, ⟨by have := HJ.out; omega⟩, HS, HB7⟩
    | succ gk =>
      have hi : i < n := by have := HI.out; omega
      have hil : i < l.length := by have := HN.out; omega
      have d1 : decide ((i : Int) < (n : Int)) = true := decide_eq_true (by omega)
      have d2 : decide (i < n) = true := decide_eq_true hi
      have d3 : (i < n) = True := eq_true hi
      have d4 : ((i : Int) < (n : Int)) = True := eq_true (by omega)
      have d5 : (0 ≤ (i : Int)) = True := eq_true (by omega)
      have hCW := Kd.C_below HC.out HB.out
      rw [← HN.out] at hCW
      obtain ⟨ad, rfl, x0, x1⟩ := at_R hCW i hi
      have hvi : hv.take (i + 1) = hv.take i ++ [(atR l i).1] := by
        rw [List.take_succ_eq_append_getElem (by have := HVL.out; omega)]
        congr 2
        simp only [HV.out, List.getElem_map]
        unfold atR
        simp [List.getD, hil]
      obtain ⟨a, ha⟩ : ∃ a, a = (atR l i).1 := ⟨_, rfl⟩
      obtain ⟨b, hb⟩ : ∃ b, b = (atR l i).2 := ⟨_, rfl⟩
      rw [← ha] at x0 hvi
      rw [← hb] at x1
      have HVI := Aside0.mk hvi
      have hlt : (hv.take i).length ≤ 100000 := by rw [List.length_take]; omega
      clear hvi ha hb hCW hil
      go_wp2_with (first
        | ((with_reducible refine gate_builtin (b := .append) (xs := #[.tmp 16, .tmp 19]) rfl ?_); at_builtin; go_must (refine Kd.R_append (W := wr.alloc (.cells #[.int .i64 a, .string b] 106)) (Kd.int .i64) w.heap.size rfl (.tmp 16) (.tmp 19) 40 3 (.int .i64 0) 8 rfl Tryz.underlying40 info3 rfl (by decide) (by omega) u5 (hv.take i) a [.int .i64 a] (fun k => w.heap.size ≤ k) (fun _ => False) rfl (congrArg (fun k => Value.slice (some ⟨k, 0, none⟩) 1 1) (show wr.heap.size + 1 = (wr.alloc (.cells #[.int .i64 a, .string b] 106)).heap.size by rw [World.size_alloc])) (ki_mkM _ _ _ _) (fun _ hk => hk.elim) ?aF (Kd.R_alloc HR.out _) (below_alloc HB.out _) (below_size (below_alloc HB.out _)) (by omega) ?_); (case aF => exact fun k hk => Nat.le_trans (below_size (below_alloc HB.out _)) hk); intro v5_ w5_ ho_ hb_ hg_ hat_; rw [← HVI.out] at ho_; have HR2 := Aside0.mk ho_; have HB2 := Aside0.mk hb_; clear ho_ hb_ hg_ hat_))
      go_roundg gk
      case measure => omega
      case rel => exact ⟨i + 1, by first | rfl | go_num, ⟨by have := HI.out; omega⟩, HR2, HB2⟩
end Go.Proofs.YtdhaoaehboonpaaGreat.V
end
section
namespace Go.Proofs.YtdhaoaehboonpaaGreat.V
open Go.RowKit Go.Proofs.YtdhaoaehboonpaaGreatW.PrintWords Go.Proofs.YtdhaoaehboonpaaGreatW.PrintLast Go.Proofs.YtdhaoaehboonpaaGreatW.PrintMore Go.Proofs.YtdhaoaehboonpaaGreatM
set_option linter.unusedVariables false
set_option linter.unusedSimpArgs false
def rightF : Int → List R2 → Bool
  | _, [] => true
  | a, r :: t => decide (a < r.1) && (decide (r.1 ≤ 2147483647) && (decide (r.2.size ≤ 900) && rightF r.1 t))
def toS45 (r : R2) : PVaultFormats.S50 := ⟨r.1, r.2⟩
theorem right_l0 (d : Nat) : ∀ (l : List R2) (a : Int) (i k : Nat), l.length ≤ 1000000 → l.length - i = d → i ≤ l.length → d < k → PVaultFormats.shelf_Right.l0 k a (l.map toS45) (l.length : Int) (i : Int) = some (rightF a (l.drop i)) := by
  induction d with
  | zero =>
    intro l a i k hl hd hi hk
    obtain ⟨k, rfl⟩ : ∃ m, k = m + 1 := ⟨k - 1, by omega⟩
    simp only [PVaultFormats.shelf_Right.l0]
    rw [if_neg (by omega), List.drop_of_length_le (by omega)]
    rfl
  | succ d ih =>
    intro l a i k hl hd hi hk
    obtain ⟨k, rfl⟩ : ∃ m, k = m + 1 := ⟨k - 1, by omega⟩
    have hi2 : i < l.length := by omega
    have hrd : PVaultFormats.rd_T50 (l.map toS45) (i : Int) = toS45 l[i] := by unfold PVaultFormats.rd_T50; simp [hi2]
    have h2 := ih l l[i].1 (i + 1) k hl (by omega) (by omega) (by omega)
    simp only [PVaultFormats.shelf_Right.l0]
    rw [if_pos (by omega), if_pos (by omega), if_pos (by rw [List.length_map]; omega), hrd, List.drop_eq_getElem_cons hi2]
    rw [show wrap64 ((i : Int) + 1) = ((i + 1 : Nat) : Int) from by unfold wrap64; omega]
    change (if l[i].1 ≤ a then some false else if l[i].1 > 2147483647 then some false else if (l[i].2.size : Int) > 900 then some false else PVaultFormats.shelf_Right.l0 k l[i].1 (l.map toS45) (l.length : Int) ((i + 1 : Nat) : Int)) = some (decide (a < l[i].1) && (decide (l[i].1 ≤ 2147483647) && (decide (l[i].2.size ≤ 900) && rightF l[i].1 (l.drop (i + 1)))))
    rw [h2]
    by_cases c1 : l[i].1 ≤ a
    · rw [if_pos c1, decide_eq_false (by omega)]; rfl
    · rw [if_neg c1, decide_eq_true (by omega)]
      by_cases c2 : l[i].1 > 2147483647
      · rw [if_pos c2, decide_eq_false (by omega)]; rfl
      · rw [if_neg c2, decide_eq_true (by omega)]
        by_cases c3 : (l[i].2.size : Int) > 900
        · rw [if_pos c3, decide_eq_false (by omega)]; rfl
        · rw [if_neg c3, decide_eq_true (by omega)]; rfl
theorem rightF_f (l : List R2) (hl : l.length ≤ 1000000) : PVaultFormats.shelf_Right.f (l.length + 1) (l.map toS45) = some (rightF (-1) l) := by
  unfold PVaultFormats.shelf_Right.f
  rw [List.length_map]
  exact right_l0 l.length l (-1) 0 (l.length + 1) hl (by omega) (by omega) (by omega)
theorem map_S45 (l : List R2) : (l.map toS45).map (fun x : PVaultFormats.S50 => (x.f0, x.f1)) = l := by
  rw [List.map_map]
  conv => rhs; rw [← List.map_id l]
  rfl
theorem C_S45 {w : World} {A : Option Addr} {n : Nat} {l : List R2} (h : Kd.C kR w A n l) : Kd.C PVaultFormats.k50 w A n (l.map toS45) :=
  C_iso_mk (f := fun x : PVaultFormats.S50 => (x.f0, x.f1)) (by rw [map_S45]; exact h)
theorem right_any (A : Option Addr) (c : Nat) (l : List R2) (w : World) (h : Kd.C kR w A l.length l) (hc : l.length ≤ c) (hl : l.length ≤ 1000000) :
    Calls Tryz.prog 92 #[.slice A l.length c] w fun e w' => e = .returned (.bool (rightF (-1) l)) ∧ Below w.heap.size w w' := by
  have := PVaultFormats.shelf_Right.calls (l.length + 1) A c (l.map toS45) _ w (by rw [List.length_map]; exact C_S45 h) (by rw [List.length_map]; exact hc) (rightF_f l hl)
  rw [List.length_map] at this
  exact this
def cellE (r : R2) (p : Int) : C4 := if r.2.size ≤ 24 then (r.1, (r.2.size : Int), 0, r.2) else (r.1, (r.2.size : Int), p, ⟨#[]⟩)
theorem cell_any (r : R2) (p : Int) (w : World) : Calls Tryz.prog 94 #[.agg #[.int .i64 r.1, .string r.2], .int .i64 p] w fun e w' => e = .returned (.agg #[.int .i64 (cellE r p).1, .int .i64 (cellE r p).2.1, .int .i64 (cellE r p).2.2.1, .string (cellE r p).2.2.2]) ∧ Below w.heap.size w w' :=
  PVaultFormats.shelf_cell.calls r.1 r.2 p _ _ _ _ w (by
    unfold PVaultFormats.shelf_cell.f cellE
    by_cases h : r.2.size ≤ 24
    · rw [if_pos (by omega), if_pos h]
    · rw [if_neg (by omega), if_neg h])
def knS (k : ByteArray → Option Int) (x : R2) : ByteArray → Option Int := match k x.2 with | some _ => k | none => upd k x.2 x.1
def knF (l : List R2) : ByteArray → Option Int := l.foldl knS (fun _ => none)
def chainsF : List R2 → PS → List C4 × PS
  | [], S => ([], S)
  | r :: t, S => if 24 < r.2.size then (cellE r (chainF (pieces r.2) S).1 :: (chainsF t (chainF (pieces r.2) S).2).1, (chainsF t (chainF (pieces r.2) S).2).2) else (cellE r 2 :: (chainsF t S).1, (chainsF t S).2)
def slotsF : List (List C4) → PS → List S2 × PS
  | [], S => ([], S)
  | x :: t, S => if S.e = 0 then (((atC x 0).1, putN S (leafE x).1 (leafE x).2) :: (slotsF t (putS S (leafE x).1 (leafE x).2)).1, (slotsF t (putS S (leafE x).1 (leafE x).2)).2) else slotsF t S
def planS (l hv : List R2) (fr : List Int) : PS := (chainsF l ⟨knF hv, fr, [], 0⟩).2
def planC (l hv : List R2) (fr : List Int) : List C4 := (chainsF l ⟨knF hv, fr, [], 0⟩).1
def planT (l hv : List R2) (fr : List Int) : List S2 × PS := slotsF (lvs [] (planC l hv fr)) (planS l hv fr)
def planZ (l hv : List R2) (fr : List Int) : Int × PS := (putN (planT l hv fr).2 (indexE (planT l hv fr).1).1 (indexE (planT l hv fr).1).2, putS (planT l hv fr).2 (indexE (planT l hv fr).1).1 (indexE (planT l hv fr).1).2)
def planE (l hv : List R2) (fr : List Int) : List R2 × Int × Int :=
  if (rightF (-1) l && mayE (hv.map (·.1)) fr) = true then
    (if 21 < (lvs [] (l.map (cellE · 2))).length then ([], 0, 12)
     else if (planZ l hv fr).2.e = 0 then ((planZ l hv fr).2.out, (planZ l hv fr).1, 0) else ([], 0, (planZ l hv fr).2.e))
  else ([], 0, 9)
theorem piecesF_len (n : Nat) : ∀ b : ByteArray, (piecesF n b).length * 120 ≤ b.size + 119 := by
  induction n with
  | zero => intro b; simp [piecesF]
  | succ n ih =>
    intro b
    unfold piecesF
    split
    · simp
    · rw [List.length_cons]
      have := ih (b.extract (min b.size 120) b.size)
      rw [ByteArray.size_extract] at this
      omega
theorem rightF_mem : ∀ (l : List R2) (a : Int), -1 ≤ a → rightF a l = true → ∀ r ∈ l, -1 < r.1 ∧ r.1 ≤ 2147483647 ∧ r.2.size ≤ 900
  | [], _, _, _, r, h => by cases h
  | x :: t, a, ha, h, r, hm => by
    unfold rightF at h
    simp only [Bool.and_eq_true, decide_eq_true_eq] at h
    obtain ⟨h1, h2, h3, h4⟩ := h
    rcases List.mem_cons.1 hm with rfl | hm
    · exact ⟨by omega, h2, h3⟩
    · exact rightF_mem t x.1 (by omega) h4 r hm
def PgOk (S : PS) : Prop := (∀ b n, S.known b = some n → okP n = true) ∧ ∀ n ∈ S.free, okP n = true
theorem putS_pg {S : PS} (h : PgOk S) (b : ByteArray) (is : Bool) : PgOk (putS S b is) := by
  unfold putS
  split
  · split
    · split
      · exact h
      · split
        · exact h
        · rename_i n fr hf
          refine ⟨fun b2 m hm => ?_, fun m hm => h.2 m (by rw [hf]; exact List.mem_cons_of_mem _ hm)⟩
          by_cases e : b2 = b
          · change upd S.known b n b2 = some m at hm
            rw [e, upd_same] at hm
            injection hm with hm
            rw [← hm]; exact h.2 n (by rw [hf]; exact List.mem_cons_self)
          · change upd S.known b n b2 = some m at hm
            rw [upd_ne _ _ e] at hm
            exact h.1 _ _ hm
    · exact h
  · exact h
theorem putS_e {S : PS} {b : ByteArray} {is : Bool} (h : (putS S b is).e = 0) : S.e = 0 := by
  by_cases e : S.e = 0
  · exact e
  · unfold putS at h; rw [if_neg e] at h; exact h
theorem putN_pg {S : PS} (h : PgOk S) (b : ByteArray) (is : Bool) (he : (putS S b is).e = 0) : okP (putN S b is) = true := by
  have h0 := putS_e he
  unfold putS at he
  unfold putN
  rw [if_pos h0] at he ⊢
  cases is with
  | false => exact absurd he (by show ¬ ((9 : Int) = 0); decide)
  | true =>
    rw [if_pos rfl] at he ⊢
    cases hn : S.known b with
    | some n => exact h.1 _ _ hn
    | none =>
      rw [hn] at he
      cases hf : S.free with
      | nil => rw [hf] at he; exact absurd he (by show ¬ ((8 : Int) = 0); decide)
      | cons n fr => exact h.2 n (by rw [hf]; exact List.mem_cons_self)
theorem chainF_pg (l : List ByteArray) {S : PS} (h : PgOk S) : PgOk (chainF l S).2 := by
  induction l with
  | nil => exact h
  | cons x l ih => rw [chainF_cons]; exact putS_pg ih _ _
theorem chainF_e {l : List ByteArray} {S : PS} (h : (chainF l S).2.e = 0) : S.e = 0 := by
  induction l with
  | nil => exact h
  | cons x l ih => rw [chainF_cons] at h; exact ih (putS_e h)
theorem chainsF_e : ∀ {l : List R2} {S : PS}, (chainsF l S).2.e = 0 → S.e = 0
  | [], S, h => h
  | r :: t, S, h => by
    unfold chainsF at h
    split at h
    · exact chainF_e (chainsF_e h)
    · exact chainsF_e h
theorem slotsF_e : ∀ {l : List (List C4)} {S : PS}, (slotsF l S).2.e = 0 → S.e = 0
  | [], S, h => h
  | r :: t, S, h => by
    by_cases e : S.e = 0
    · exact e
    · unfold slotsF at h; rw [if_neg e] at h; exact slotsF_e h
def cellOk (x : C4) : Prop := okK x.1 (-1) = true ∧ okR x.2.1 x.2.2.1 x.2.2.2 = true
theorem cellE_ok {r : R2} {p : Int} (h1 : -1 < r.1) (h2 : r.1 ≤ 2147483647) (h3 : r.2.size ≤ 900) (hp : 24 < r.2.size → okP p = true) : cellOk (cellE r p) := by
  unfold cellOk cellE
  by_cases h : r.2.size ≤ 24
  · rw [if_pos h]
    refine ⟨by unfold okK; simp; omega, ?_⟩
    unfold okR
    rw [if_pos (show (r.2.size : Int) ≤ 24 by omega)]
    simp
  · rw [if_neg h]
    refine ⟨by unfold okK; simp; omega, ?_⟩
    unfold okR
    rw [if_neg (show ¬ (r.2.size : Int) ≤ 24 by omega), hp (by omega)]
    simp; omega
theorem chainsF_ok : ∀ (l : List R2) (S : PS), PgOk S → (∀ r ∈ l, -1 < r.1 ∧ r.1 ≤ 2147483647 ∧ r.2.size ≤ 900) → (chainsF l S).2.e = 0 → ∀ x ∈ (chainsF l S).1, cellOk x
  | [], S, _, _, _, x, hx => by cases hx
  | r :: t, S, hS, h, he, x, hx => by
    have h1 := h r List.mem_cons_self
    have ht : ∀ y ∈ t, -1 < y.1 ∧ y.1 ≤ 2147483647 ∧ y.2.size ≤ 900 := fun y hy => h y (List.mem_cons_of_mem _ hy)
    unfold chainsF at he hx
    split at he
    · rename_i h24
      rw [if_pos h24] at hx
      rcases List.mem_cons.1 hx with rfl | hx
      · refine cellE_ok h1.1 h1.2.1 h1.2.2 (fun _ => ?_)
        have he2 := chainsF_e he
        cases hp : pieces r.2 with
        | nil =>
          have h5 := piecesF_len r.2.size r.2
          unfold pieces at hp
          exfalso
          obtain ⟨k, hk⟩ : ∃ k, r.2.size = k + 1 := ⟨r.2.size - 1, by omega⟩
          rw [hk] at hp
          unfold piecesF at hp
          rw [if_neg (by omega)] at hp
          cases hp
        | cons y ys =>
          rw [hp, chainF_cons] at he2
          rw [chainF_cons]
          exact putN_pg (chainF_pg ys hS) _ _ he2
      · exact chainsF_ok t _ (chainF_pg _ hS) ht he x hx
    · rename_i h24
      rw [if_neg h24] at hx
      rcases List.mem_cons.1 hx with rfl | hx
      · exact cellE_ok h1.1 h1.2.1 h1.2.2 (fun h => absurd h h24)
      · exact chainsF_ok t _ hS ht he x hx
theorem leaf_one {x : C4} (h : cellOk x) : (leafE [x]).2 = true := by
  unfold leafE lfA
  have hv : lfV (fun i => (atC [x] i.toNat).1) (fun i => (atC [x] i.toNat).2.1) (fun i => (atC [x] i.toNat).2.2.1) (fun i => (atC [x] i.toNat).2.2.2) [x].length = true := by
    unfold lfV
    rw [all_at]
    intro j hj
    have : j = 0 := by simpa using hj
    subst this
    show (okK x.1 (-1) && okR x.2.1 x.2.2.1 x.2.2.2) = true
    rw [h.1, h.2]; rfl
  rw [if_pos (by simp), if_pos hv]
  unfold fullA
  rw [if_pos]
  rw [strOfNums_size]
  have h2 := okR_size h.2
  have hb : lfB (fun i => (atC [x] i.toNat).1) (fun i => (atC [x] i.toNat).2.1) (fun i => (atC [x] i.toNat).2.2.1) (fun i => (atC [x] i.toNat).2.2.2) [x].length [x].length = [76, 1 % 256] ++ (byL x.1 4 4 ++ (byL x.2.1 2 2 ++ (bytesOf x.2.2.2 ++ lfT x.2.1 x.2.2.1))) := by
    unfold lfB
    show _ ++ (List.flatten [_]) = _
    rw [List.flatten_cons, List.flatten_nil, List.append_nil]
    rfl
  rw [hb]
  simp only [List.length_append, byL_length, bytesOf_len, List.length_cons, List.length_nil]
  have := lfT_length x.2.1 x.2.2.1
  omega
theorem lvs_full : ∀ (r cur : List C4), (∀ x ∈ r, cellOk x) → ∀ y ∈ lvs cur r, y ≠ []
  | [], cur, _, y, hy => by
    unfold lvs at hy
    cases cur with
    | nil => cases hy
    | cons a t => rw [List.mem_singleton] at hy; rw [hy]; exact List.cons_ne_nil _ _
  | c :: r, cur, h, y, hy => by
    unfold lvs at hy
    have hr : ∀ x ∈ r, cellOk x := fun x hx => h x (List.mem_cons_of_mem _ hx)
    split at hy
    · exact lvs_full r _ hr y hy
    · rename_i hn
      rcases List.mem_cons.1 hy with rfl | hy
      · rintro rfl
        exact hn (leaf_one (h c List.mem_cons_self))
      · exact lvs_full r _ hr y hy
theorem knF_pg {l : List R2} (h : ∀ x ∈ l, okP x.1 = true) : ∀ b n, knF l b = some n → okP n = true := by
  unfold knF
  suffices H : ∀ (l : List R2) (k : ByteArray → Option Int), (∀ x ∈ l, okP x.1 = true) → (∀ b n, k b = some n → okP n = true) → ∀ b n, l.foldl knS k b = some n → okP n = true from H l _ h (fun _ _ h => by cases h)
  intro l
  induction l with
  | nil => intro k _ h; exact h
  | cons x t ih =>
    intro k hl hk
    refine ih _ (fun y hy => hl y (List.mem_cons_of_mem _ hy)) ?_
    intro b n hb
    unfold knS at hb
    cases hx : k x.2 with
    | some m => rw [hx] at hb; exact hk _ _ hb
    | none =>
      rw [hx] at hb
      change upd k x.2 x.1 b = some n at hb
      by_cases e : b = x.2
      · rw [e, upd_same] at hb; injection hb with hb; rw [← hb]; exact hl x List.mem_cons_self
      · rw [upd_ne _ _ e] at hb; exact hk _ _ hb
theorem mayE_pg {hv fr : List Int} (h : mayE hv fr = true) : (∀ x ∈ hv, okP x = true) ∧ ∀ x ∈ fr, okP x = true := by
  unfold mayE at h
  rw [Bool.and_eq_true, Bool.not_eq_true'] at h
  have h2 : ∀ x ∈ hv ++ fr, badP x = false := by
    intro x hx
    cases hb : badP x with
    | false => rfl
    | true => exact absurd (List.any_eq_true.2 ⟨x, hx, hb⟩) (by rw [h.2]; decide)
  have h3 : ∀ x ∈ hv ++ fr, okP x = true := fun x hx => by
    have := h2 x hx
    unfold badP at this
    unfold okP
    simp at this ⊢
    omega
  exact ⟨fun x hx => h3 x (List.mem_append_left _ hx), fun x hx => h3 x (List.mem_append_right _ hx)⟩
def K61 (w w1 : World) : Prop := ∀ (k : Nat) (c : Array Value), w.heap[k]? = some (Obj.cells c 151 (0, 0)) → w1.heap[k]? = some (Obj.cells c 151 (0, 0))
theorem K61.refl (w : World) : K61 w w := fun _ _ h => h
theorem K61.trans {a b c : World} (h : K61 a b) (h2 : K61 b c) : K61 a c := fun k x hk => h2 k x (h k x hk)
theorem K61.below {w w1 : World} (h : Below w.heap.size w w1) : K61 w w1 := fun k c hk => (h.block k (blk_lt hk)).trans hk
theorem K61.kw {w w1 : World} {g : Nat} {cs : Array Value} (h : Kw w w1 g) (hg : w.heap[g]? = some (.cells cs 158 (0, 0))) : K61 w w1 := fun k c hk => h.2 k c 151 (by decide) (by
  rintro rfl; rw [hg] at hk; injection hk with hk; injection hk with _ hk; exact absurd hk (by decide)) hk
theorem K61.row {α : Type} {d : Kd α} {e b : Nat} {w w1 : World} {ok : Nat → Prop} {v : Value} {xs : List α} (hr : d.R e w b ok v xs) (he : e ≠ 151) (hg : w.grownBy w1 v.ownBlock) : K61 w w1 := fun k c hk => (hg.block k (blk_lt hk) (Kd.R_ne hr hk he)).trans hk
theorem C_mv {α : Type} {d : Kd α} {w w' : World} (hK : ∀ x c, d.K w x c → d.K w' x c) (hm : ∀ a u, w.cell? a = some u → w'.cell? a = some u) {A : Option Addr} {n : Nat} {xs : List α} (h : Kd.C d w A n xs) : Kd.C d w' A n xs := by
  obtain ⟨h1, h2, h3⟩ := h
  refine ⟨h1, h2, fun hp => ?_⟩
  obtain ⟨ad, e, hc⟩ := h3 hp
  refine ⟨ad, e, fun j p hj => ?_⟩
  obtain ⟨c, k1, k2, k3⟩ := hc j p hj
  exact ⟨c, k1, hK _ _ k2, fun i u hu => hm _ _ (k3 i u hu)⟩
theorem kC_all (w w' : World) (x : C4) (c : List Value) (h : kC.K w x c) : kC.K w' x c := by
  obtain rfl := kC_open h
  exact kC_mk w' x
theorem cell_blk {w w' : World} {a : Addr} (h : w'.heap[a.block]? = w.heap[a.block]?) : w'.cell? a = w.cell? a := by
  unfold World.cell?
  rw [h]
def onlyW (w : World) (b : Nat) (o : Obj) : World := { w with heap := (Array.replicate b (Obj.cells #[] 0 (0, 0))).push o }
theorem onlyW_at (w : World) (b : Nat) (o : Obj) : (onlyW w b o).heap[b]? = some o := by
  unfold onlyW
  simp only [Array.getElem?_push, Array.size_replicate, if_pos]
theorem onlyW_blk {w : World} {b : Nat} {o : Obj} {a : Addr} {u : Value} (h : (onlyW w b o).cell? a = some u) : a.block = b := by
  rcases Nat.lt_trichotomy a.block b with h1 | h1 | h1
  · exfalso
    have : (onlyW w b o).heap[a.block]? = some (Obj.cells #[] 0 (0, 0)) := by
      unfold onlyW
      simp [Array.getElem?_push, h1]; omega
    unfold World.cell? at h
    rw [this] at h
    simp at h
  · exact h1
  · exfalso
    have : (onlyW w b o).heap[a.block]? = none := by
      unfold onlyW
      simp; omega
    unfold World.cell? at h
    rw [this] at h
    cases h
theorem cells_only {w : World} {base : Nat} {ok : Nat → Prop} {v : Value} {xs : List C4} (h : kC.R 151 w base ok v xs) : ∃ A c Wf, v = .slice A xs.length c ∧ xs.length ≤ c ∧ Kd.C kC w A xs.length xs ∧ Kd.C kC Wf A xs.length xs ∧ ∀ w1, K61 w w1 → ∀ a u, Wf.cell? a = some u → w1.cell? a = some u := by
  obtain ⟨A, c, rfl, hc, hC⟩ := Kd.R_reads h
  by_cases hp : 0 < xs.length
  · obtain ⟨g, cap, e, _, _, cells, hb⟩ := Kd.R_form h hp
    injection e with e1 e2 e3
    subst e1 e3
    refine ⟨_, _, onlyW w g (Obj.cells cells 151 (0, 0)), rfl, hc, hC, ?_, fun w1 hk a u hu => ?_⟩
    · obtain ⟨h1, h2, h3⟩ := hC
      refine ⟨h1, h2, fun hp => ?_⟩
      obtain ⟨ad, e, hcc⟩ := h3 hp
      injection e with e
      subst e
      refine ⟨_, rfl, fun j p hj => ?_⟩
      obtain ⟨c, k1, k2, k3⟩ := hcc j p hj
      exact ⟨c, k1, kC_all _ _ _ _ k2, fun i u hu => by
        rw [cell_blk (w := w)]
        · exact k3 i u hu
        · rw [show ((⟨g, 0, none⟩ : Addr).add (j * kC.sz + i)).block = g from by unfold Addr.add; split <;> rfl, onlyW_at, hb]⟩
    · have := onlyW_blk hu
      rw [cell_blk (w := onlyW w g (Obj.cells cells 151 (0, 0)))]
      · exact hu
      · rw [this, hk g cells hb, onlyW_at]
  · refine ⟨_, _, { w with heap := #[] }, rfl, hc, hC, ⟨rfl, hC.2.1, fun h => absurd h hp⟩, fun w1 _ a u hu => ?_⟩
    unfold World.cell? at hu
    simp at hu
theorem R_map {α : Type} {d : Kd α} {e b m : Nat} {w w1 : World} {ok : Nat → Prop} {v : Value} {xs : List α} {f : ByteArray → Option Int} (h : d.R e w b ok v xs) (hm : IsKn w m f) (hg : w.grownBy w1 (some m)) : d.R e w1 b ok v xs :=
  Kd.R_mono (Kd.R_grown (ok := fun k => ok k ∧ k ≠ m) (Kd.R_mono (Kd.R_bound h) (fun k hk => ⟨hk.1, fun e => by
    obtain ⟨_, _, _, q, hq, cells, hc⟩ := hk
    obtain ⟨es, cl, h1, _⟩ := hm
    rw [e, h1] at hc; cases hc⟩)) hg (fun k hk e => hk.2 (by injection e))) (fun _ h => h.1)
theorem IsPlan.mapped {w0 w w1 : World} {g m : Nat} {S : PS} {k : ByteArray → Option Int} (h : IsPlan w0 w g m S) (hm : IsKn w1 m k) (hg : w.grownBy w1 (some m)) : IsPlan w0 w1 g m { S with known := k } := by
  obtain ⟨A, c, v, h1, h2, h3, h4, h5, h6, h7, h8⟩ := h
  have hgm : some g ≠ some m := fun e => map_ne h4 h1 (by injection e with e; exact e.symm)
  exact ⟨A, c, v, (hg.block g (blk_lt h1) hgm).trans h1, h2, h3, hm, h5, h6, R_map h7 h4 hg, pw_below_grown h8 _ h8.size hg (by rintro k e; injection e with e; rw [← e]; exact h3)⟩
theorem IsPlan.kn {w0 w : World} {g m : Nat} {S : PS} (h : IsPlan w0 w g m S) : IsKn w m S.known := by
  obtain ⟨A, c, v, h1, h2, h3, h4, h5, h6, h7, h8⟩ := h
  exact h4
theorem IsPlan.cells {w0 w : World} {g m : Nat} {S : PS} (h : IsPlan w0 w g m S) : ∃ A c v, w.cell? ⟨g, 0, none⟩ = some (.map (some m)) ∧ w.cell? ⟨g, 1, none⟩ = some (.slice A S.free.length c) ∧ w.cell? ⟨g, 2, none⟩ = some v ∧ w.cell? ⟨g, 3, none⟩ = some (.int .i64 S.e) ∧ kR.R 106 w w0.heap.size (fun _ => True) v S.out := by
  obtain ⟨A, c, v, h1, h2, h3, h4, h5, h6, h7, h8⟩ := h
  obtain ⟨c0, c1, c2, c3⟩ := cell68 h1
  exact ⟨A, c, v, c0, c1, c2, c3, h7⟩
theorem slotsF_cons (x : List C4) (t : List (List C4)) (S : PS) : slotsF (x :: t) S = if S.e = 0 then (((atC x 0).1, putN S (leafE x).1 (leafE x).2) :: (slotsF t (putS S (leafE x).1 (leafE x).2)).1, (slotsF t (putS S (leafE x).1 (leafE x).2)).2) else slotsF t S := rfl
theorem chainsF_cons (r : R2) (t : List R2) (S : PS) : chainsF (r :: t) S = if 24 < r.2.size then (cellE r (chainF (pieces r.2) S).1 :: (chainsF t (chainF (pieces r.2) S).2).1, (chainsF t (chainF (pieces r.2) S).2).2) else (cellE r 2 :: (chainsF t S).1, (chainsF t S).2) := rfl
theorem addr0 (g k : Nat) : (⟨g, 0, none⟩ : Addr).add k = ⟨g, k, none⟩ := by
  unfold Addr.add
  split <;> simp_all
end Go.Proofs.YtdhaoaehboonpaaGreat.V
end

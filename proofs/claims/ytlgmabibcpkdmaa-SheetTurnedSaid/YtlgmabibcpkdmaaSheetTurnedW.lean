/- SheetTurned: a byte that is turned makes another page. -/
import Derived.Test.YtlgmabibcpkdmaaPAllx8
import Derived.Test.YtlgmabibcpkdmaaC6
namespace Go.Proofs.Ytlgmabibcpkdmaa.PAll
open Go.RowKit Go.Proofs.YtlgmabibcpkdmaaW.PrintWords Go.Proofs.YtlgmabibcpkdmaaW.PrintLast Go.Proofs.YtlgmabibcpkdmaaW.PrintMore
open Go.Proofs.Ytlgmabibcpkdmaa.V (byI byL byL_length strOf_append)
set_option linter.unusedSimpArgs false
set_option linter.unusedVariables false

theorem xor_u8 {x b : Int} (h0 : 0 ≤ x) (h1 : x < 256) (b0 : 0 ≤ b) (b1 : b < 256) (hb : b ≠ 0) : (0 ≤ Go.bits .xor .u8 x b ∧ Go.bits .xor .u8 x b < 256) ∧ Go.bits .xor .u8 x b ≠ x := by
  obtain ⟨m, rfl⟩ := Int.eq_ofNat_of_zero_le h0
  obtain ⟨n, rfl⟩ := Int.eq_ofNat_of_zero_le b0
  have hm : m % 2 ^ IntKind.u8.bits = m := Nat.mod_eq_of_lt (by show m < 256; omega)
  have hn : n % 2 ^ IntKind.u8.bits = n := Nat.mod_eq_of_lt (by show n < 256; omega)
  have hlt : m ^^^ n < 256 := Nat.xor_lt_two_pow (n := 8) (by omega) (by omega)
  have e : Go.bits .xor .u8 (m : Int) (n : Int) = ((m ^^^ n : Nat) : Int) := by
    simp only [bits, BitVec.ofInt_natCast, BitVec.toNat_xor, BitVec.toNat_ofNat, hm, hn]
    rw [IntKind.wrap_u8]; omega
  rw [e]
  refine ⟨⟨by omega, by omega⟩, fun h => ?_⟩
  have h2 : m ^^^ n = m := by omega
  have h3 : m ^^^ (m ^^^ n) = 0 := by rw [h2, Nat.xor_self]
  rw [← Nat.xor_assoc, Nat.xor_self, Nat.zero_xor] at h3
  omega

theorem cvC_inj {l m : List S52} (h : l.map cvC = m.map cvC) : l = m := by
  induction l generalizing m with
  | nil => cases m with
    | nil => rfl
    | cons y t => cases h
  | cons x s ih => cases m with
    | nil => cases h
    | cons y t =>
      rw [List.map_cons, List.map_cons] at h
      injection h with h1 h2
      rw [ih h2]
      obtain ⟨x0, x1, x2, x3⟩ := x
      obtain ⟨y0, y1, y2, y3⟩ := y
      unfold cvC at h1
      injection h1 with e0 e1 e2 e3
      subst e0 e1 e2 e3; rfl
theorem zeros_k : maquetteref13_Zeros.f 0 = some (strOfNums []) := rfl
theorem fill_k {L : List Int} (h : L.length = 128) : maquettelaw13_Fill.f (strOfNums L) = some (strOfNums L) := by
  unfold maquettelaw13_Fill.f
  rw [strOfNums_size, h, if_neg (by decide), show wrap64 (128 - ((128 : Nat) : Int)) = 0 from by unfold wrap64; decide, zeros_k, Option.bind_some, if_pos (by rw [strOfNums_size]; decide), strOf_append, List.append_nil]
theorem rd_at (L : List Int) (i : Nat) (h : i < L.length) : rd L (i : Int) = L[i] := by simp [rd, List.getD, List.getElem?_eq_getElem h]
theorem turned_k (l : List S52) (at_ y : Int) (y0 : 0 ≤ y) (y1 : y < 256) : maquettelaw15_SheetTurned.f 3000 l at_ y = some true := by
  have jt : maquettelaw15_SheetTurned.j0 3000 l at_ y true = some true := by
    show maquettelaw15_SheetTurned.j0 (2999 + 1) l at_ y true = some true
    simp only [maquettelaw15_SheetTurned.j0, if_true]
    rw [alive_k _ (by decide)]; rfl
  unfold maquettelaw15_SheetTurned.f
  by_cases hl : (l.length : Int) > 40
  · rw [if_pos hl]; exact jt
  rw [if_neg hl]
  by_cases hy : y = 0
  · rw [if_pos hy]; exact jt
  rw [if_neg hy, alive_k _ (by decide), Option.bind_some]
  show maquettelaw15_SheetTurned.j0 (2999 + 1) l at_ y (!true) = some true
  simp only [maquettelaw15_SheetTurned.j0, Bool.not_true, Bool.false_eq_true, if_false]
  rw [leaf_k, Option.bind_some]
  unfold leafR
  cases h : leafOk l with
  | false =>
    simp only [Bool.false_eq_true, if_false]
    show maquettelaw15_SheetTurned.j1 (2998 + 1) l at_ y _ false true = some true
    simp only [maquettelaw15_SheetTurned.j1, if_true, Bool.false_eq_true, if_false]
    rw [show ((⟨#[]⟩ : ByteArray).toList == ([] : List UInt8)) = true from by rw [ByteArray.toList_eq]; rfl]
  | true =>
    simp only [if_true]
    have hlen : (leafL l).length ≤ 128 := by
      unfold leafOk at h
      rw [Bool.and_eq_true, Bool.and_eq_true, decide_eq_true_eq, decide_eq_true_eq] at h
      exact h.2.2
    have hcb := cells_back h
    have hL := pad_length hlen
    have hok := okB_pad (okB_leafL l)
    generalize hLe : pad (leafL l) = L at *
    have hne : (((strOfNums L).size : Int) != 128) = false := by rw [strOfNums_size, hL]; rfl
    rw [hne]
    show maquettelaw15_SheetTurned.j1 (2998 + 1) l at_ y (strOfNums L) true false = some true
    simp only [maquettelaw15_SheetTurned.j1, Bool.false_eq_true, if_false]
    obtain ⟨ix, hix, i0, i1⟩ : ∃ ix : Int, ix = Int.tmod (wrap64 ((Int.tmod at_ 128) + 128)) 128 ∧ 0 ≤ ix ∧ ix < 128 := by
      have p1 := Int.tmod_lt_of_pos at_ (b := 128) (by omega)
      have p2 : -128 < Int.tmod at_ 128 := Int.lt_tmod_of_pos at_ (b := 128) (by omega)
      have e : wrap64 ((Int.tmod at_ 128) + 128) = (Int.tmod at_ 128) + 128 := by unfold wrap64; omega
      rw [e]
      exact ⟨_, rfl, Int.tmod_nonneg _ (by omega), Int.tmod_lt_of_pos _ (by omega)⟩
    rw [← hix]
    have hw : wrap64 (ix + 1) = ix + 1 := by unfold wrap64; omega
    obtain ⟨i, rfl⟩ := Int.eq_ofNat_of_zero_le i0
    have hiL : i < L.length := by omega
    have hz := hok L[i] (List.getElem_mem hiL)
    have hbt : bt (strOfNums L) (i : Int) = L[i] := by rw [bt_strOf hok, rd_at L i hiL]
    obtain ⟨hxr, hxn⟩ := xor_u8 hz.1 hz.2 y0 y1 hy
    rw [hw, hbt, if_pos (by omega), if_pos (by rw [strOfNums_size]; omega), if_pos (by rw [strOfNums_size]; omega), Option.bind_some]
    generalize hq : Go.bits .xor .u8 L[i] y = q at hxr hxn
    have e1 : (strOfNums L).extract 0 ((i : Int)).toNat = strOfNums (L.take i) := by rw [extract_strOf, Int.toNat_natCast, List.drop_zero, Nat.sub_zero]
    have e2 : (strOfNums L).extract ((i : Int) + 1).toNat (strOfNums L).size = strOfNums (L.drop (i + 1)) := by
      rw [extract_strOf, strOfNums_size, show ((i : Int) + 1).toNat = i + 1 by omega, List.take_of_length_le (by rw [List.length_drop]; omega)]
    rw [e1, e2]
    rw [if_pos (by simp only [strOfNums_size, List.length_take, List.length_singleton]; omega), if_pos (by omega), if_pos (by rw [strOfNums_size]; omega), strOf_append, if_pos (by simp only [strOfNums_size, List.length_append, List.length_take, List.length_drop, List.length_singleton]; omega), strOf_append]
    have okN : okB (L.take i ++ [q] ++ L.drop (i + 1)) := okB_append.2 ⟨okB_append.2 ⟨okB_take hok i, by intro z hz; rw [List.mem_singleton] at hz; omega⟩, okB_drop hok (i + 1)⟩
    obtain ⟨bad, m, e⟩ := cells_ex (strOfNums (L.take i ++ [q] ++ L.drop (i + 1)))
    rw [e _ (by decide), Option.bind_some, fill_k hL, Option.bind_some, hcb _ (by decide), Option.bind_some]
    simp only [if_true]
    rw [cells_k l (by omega) _ (by omega), Option.bind_some]
    obtain ⟨b, eb, hb⟩ := sameCells_k l (l.map cvC) (by omega) 2998 (by omega)
    rw [eb, Option.bind_some, hb.2 rfl, if_pos rfl]
    cases his : (cellsFin (strOfNums (L.take i ++ [q] ++ L.drop (i + 1))) bad m).2 with
    | false => rfl
    | true =>
      rw [if_pos rfl, Option.bind_some]
      unfold cellsFin at his ⊢
      split at his
      · rename_i hc
        rw [if_pos hc]
        simp only [Bool.and_eq_true, decide_eq_true_eq] at hc
        have hm : m.length ≤ 128 := by
          have := hc.2.1
          unfold leafOk at this
          rw [Bool.and_eq_true, decide_eq_true_eq] at this
          exact this.1
        obtain ⟨b2, e2, hb2⟩ := sameCells_k m (l.map cvC) (by omega) 2998 (by omega)
        simp only []
        rw [e2, Option.bind_some]
        cases hbb : b2 with
        | false => rfl
        | true =>
          exfalso
          have hml := cvC_inj (hb2.1 hbb)
          subst hml
          have he := strOf_inj (okB_pad (okB_leafL m)) okN hc.2.2
          rw [hLe] at he
          have h3 := congrArg (fun z : List Int => z[i]?) he
          try simp only [] at h3
          rw [List.getElem?_eq_getElem hiL, List.append_assoc, List.getElem?_append_right (by rw [List.length_take]; omega)] at h3
          rw [show i - (L.take i).length = 0 by rw [List.length_take]; omega] at h3
          simp at h3
          exact hxn h3.symm
      · cases his
theorem sheetTurned_any (w0 : World) (A : Option Addr) (c : Nat) (l : List S52) (a1 a2 : Int) (hr : Kd.C k52 w0 A l.length l) (hc : l.length ≤ c) (w1 : (Lit.int .i64 a1).wf = true) (w2 : (Lit.int .u8 a2).wf = true) :
    Calls Try.prog 3 #[.slice A l.length c, .int .i64 a1, .int .u8 a2] w0 fun e w' => e = .returned (.bool true) ∧ Below w0.heap.size w0 w' := by
  have h : 0 ≤ a2 ∧ a2 < 256 := by
    simp [Lit.wf, IntKind.min, IntKind.max, IntKind.signed, IntKind.bits] at w2
    omega
  exact maquettelaw15_SheetTurned.calls 3000 A c l a1 a2 true w0 hr hc (turned_k l a1 a2 h.1 h.2)
end Go.Proofs.Ytlgmabibcpkdmaa.PAll

/- CrownEnds, the plain law: a string of which one byte at an end is turned is no crown. -/
import Derived.Test.YtenjkmfpbimmbaaD
namespace Go.Proofs.Ytenjkmfpbimmbaa.Pure
open Go.RowKit Go.Proofs.Ytenjkmfpbimmbaa.PAll Go.Proofs.YtenjkmfpbimmbaaW.PrintWords Go.Proofs.YtenjkmfpbimmbaaW.PrintLast Go.Proofs.YtenjkmfpbimmbaaW.PrintMore
set_option linter.unusedSimpArgs false
set_option linter.unusedVariables false

theorem enc_ends (g r p : Int) (m : Nat) (h : m < 8) : (enc g r p)[m]? = (enc g r p)[120 + m]? := by
  have h1 : (enc g r p).take 8 = be8 g := rfl
  have h2 : (enc g r p).drop 120 = be8 g := rfl
  rw [← List.getElem?_drop, h2, ← h1, List.getElem?_take_of_lt h]

/-- one byte turned -/
def turn (b : ByteArray) (n : Nat) (v : Int) : ByteArray := (b.extract 0 n ++ strOfNums [v]) ++ b.extract (n + 1) b.size
theorem turn_list (b : ByteArray) (n : Nat) (v : Int) (h : n < b.size) : (turn b n v).data.toList = b.data.toList.set n (UInt8.ofNat v.toNat) := by
  have hl : b.data.toList.length = b.size := by simp
  unfold turn
  rw [ByteArray.data_append, ByteArray.data_append, Array.toList_append, Array.toList_append, extract_list, extract_list, List.drop_zero, Nat.sub_zero,
    List.take_of_length_le (l := b.data.toList.drop (n + 1)) (by rw [List.length_drop]; omega), List.set_eq_take_append_cons_drop, if_pos (by omega)]
  show _ ++ [UInt8.ofNat v.toNat] ++ _ = _
  rw [List.append_assoc]; rfl

theorem xor_u8 (u a : Nat) (hu : u < 256) (ha : a < 256) : Go.bits .xor .u8 (u : Int) (a : Int) = ((u ^^^ a : Nat) : Int) := by
  have hx : u ^^^ a < 256 := Nat.xor_lt_two_pow (n := 8) hu ha
  unfold Go.bits
  show IntKind.u8.wrap ((BitVec.ofInt 8 u ^^^ BitVec.ofInt 8 a).toNat : Int) = _
  have e1 : ((u : Int) % ((2 ^ 8 : Nat) : Int)).toNat = u := by omega
  have e2 : ((a : Int) % ((2 ^ 8 : Nat) : Int)).toNat = a := by omega
  rw [BitVec.toNat_xor, BitVec.toNat_ofInt, BitVec.toNat_ofInt, e1, e2, IntKind.wrap_u8]
  omega
theorem xor_ne (u a : Nat) (h : 0 < a) : u ^^^ a ≠ u := by
  intro he
  have := congrArg (u ^^^ ·) he
  simp only [← Nat.xor_assoc, Nat.xor_self, Nat.zero_xor] at this
  omega

theorem turn_no {g r p : Int} {n : Nat} {a : Int} (hn : n < 8 ∨ 120 ≤ n ∧ n < 128) (h0 : 0 < a) (h1 : a < 256) :
    (getA (turn (encB g r p) n (Go.bits .xor .u8 (bt (encB g r p) (n : Int)) a))).2.2.2 = false := by
  have hs := encB_size g r p
  have hn' : n < (encB g r p).size := by omega
  obtain ⟨a', rfl⟩ := Int.eq_ofNat_of_zero_le (Int.le_of_lt h0)
  rw [bt_get _ n hn']
  have hu := (encB g r p)[n].toNat_lt
  rw [xor_u8 _ a' (by omega) (by omega)]
  have hne := xor_ne (encB g r p)[n].toNat a' (by omega)
  have hx : (encB g r p)[n].toNat ^^^ a' < 256 := Nat.xor_lt_two_pow (n := 8) (by omega) (by omega)
  have hL : (enc g r p)[n]? = some (encB g r p)[n] := by
    rw [List.getElem?_eq_getElem (by rw [enc_length]; omega)]; rfl
  generalize (encB g r p)[n] = c at *
  have tl := turn_list (encB g r p) n (((c.toNat ^^^ a' : Nat)) : Int) hn'
  rw [Int.toNat_natCast] at tl
  generalize turn (encB g r p) n (((c.toNat ^^^ a' : Nat)) : Int) = t at *
  unfold getA
  cases hc : isC t
  · rfl
  · exfalso
    obtain ⟨_, he⟩ := isC_enc hc
    rw [tl] at he
    have hl : (encB g r p).data.toList = enc g r p := rfl
    rw [hl] at he
    have hd : UInt8.ofNat (c.toNat ^^^ a') ≠ c := by
      intro h
      have := congrArg UInt8.toNat h
      rw [UInt8.toNat_ofNat'] at this
      omega
    have hlen := enc_length g r p
    rcases hn with hn | ⟨hn, hn2⟩
    · have e1 := enc_ends (gG t) (gR t) (gP t) n hn
      rw [← he, List.getElem?_set_self (by omega), List.getElem?_set_ne (by omega), ← enc_ends g r p n hn, hL] at e1
      exact hd (Option.some.inj e1)
    · obtain ⟨m, rfl⟩ : ∃ m, n = 120 + m := ⟨n - 120, by omega⟩
      have e1 := enc_ends (gG t) (gR t) (gP t) m (by omega)
      rw [← he, List.getElem?_set_self (by omega), List.getElem?_set_ne (by omega), enc_ends g r p m (by omega), hL] at e1
      exact hd (Option.some.inj e1).symm
end Go.Proofs.Ytenjkmfpbimmbaa.Pure

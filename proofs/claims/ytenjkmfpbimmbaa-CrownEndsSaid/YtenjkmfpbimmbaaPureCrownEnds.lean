/- CrownEnds: the printed law answers true for every input. -/
import Derived.Test.YtenjkmfpbimmbaaPAllx13
import Derived.Test.YtenjkmfpbimmbaaPureCrownEndsP
namespace Go.Proofs.Ytenjkmfpbimmbaa.Pure
open Go.RowKit Go.Proofs.Ytenjkmfpbimmbaa.PAll Go.Proofs.YtenjkmfpbimmbaaW.PrintWords Go.Proofs.YtenjkmfpbimmbaaW.PrintLast Go.Proofs.YtenjkmfpbimmbaaW.PrintMore
set_option linter.unusedSimpArgs false
set_option linter.unusedVariables false

theorem ends_j1 {k : Nat} (hk : 20 ≤ k) (b : ByteArray) (hb : b.size = 128) (x1 x2 : Int) (n : Nat) (hn : n < 8) (hK : Int.tmod (wrap64 ((Int.tmod x1 8) + 8)) 8 = (n : Int))
    (t1 : (getA (turn b n (Go.bits .xor .u8 (bt b (n : Int)) x2))).2.2.2 = false) (t2 : (getA (turn b (n + 120) (Go.bits .xor .u8 (bt b ((n + 120 : Nat) : Int)) x2))).2.2.2 = false) :
    maquettelaw14_CrownEnds.j1 (k + 1) x1 x2 b false = some true := by
  have w1 : wrap64 ((n : Int) + 1) = ((n + 1 : Nat) : Int) := by unfold wrap64; omega
  have w2 : wrap64 ((n : Int) + 120) = ((n + 120 : Nat) : Int) := by unfold wrap64; omega
  have w3 : wrap64 (((n + 120 : Nat) : Int) + 1) = ((n + 120 + 1 : Nat) : Int) := by unfold wrap64; omega
  simp only [maquettelaw14_CrownEnds.j1, hK, w1, w2, w3, Int.toNat_natCast, Option.bind_some]
  have s1 : ∀ m, (b.extract 0 m).size ≤ 128 := fun m => by rw [ByteArray.size_extract]; omega
  have s2 : ∀ m, (b.extract m b.size).size ≤ 128 := fun m => by rw [ByteArray.size_extract]; omega
  have s3 : ∀ v : Int, (strOfNums [v]).size = 1 := fun v => by rw [strOfNums_size]; rfl
  have a1 := s1 n
  have a2 := s2 (n + 1)
  have a3 := s3 (Go.bits .xor .u8 (bt b (n : Int)) x2)
  have a4 := s1 (n + 120)
  have a5 := s2 (n + 120 + 1)
  have a6 := s3 (Go.bits .xor .u8 (bt b ((n + 120 : Nat) : Int)) x2)
  rw [if_neg (by decide), if_pos (by omega), if_pos (by omega), if_pos (by omega), if_pos (by omega), if_pos (by omega), if_pos (by omega),
    if_pos (by rw [ByteArray.size_append]; omega), get_k hk]
  simp only [Option.bind_some]
  rw [if_pos (by omega), if_pos (by omega), if_pos (by omega), if_pos (by omega), if_pos (by omega), if_pos (by omega),
    if_pos (by rw [ByteArray.size_append]; omega), get_k hk]
  simp only [Option.bind_some]
  unfold turn at t1 t2
  rw [t1, t2]; rfl

theorem ends_K (x1 : Int) : ∃ n : Nat, n < 8 ∧ Int.tmod (wrap64 ((Int.tmod x1 8) + 8)) 8 = (n : Int) := by
  have h1 : -8 < Int.tmod x1 8 := Int.lt_tmod_of_pos x1 (by decide)
  have h2 : Int.tmod x1 8 < 8 := Int.tmod_lt_of_pos x1 (by decide)
  have e : wrap64 ((Int.tmod x1 8) + 8) = (Int.tmod x1 8) + 8 := by unfold wrap64; omega
  rw [e]
  have h3 : Int.tmod (Int.tmod x1 8 + 8) 8 < 8 := Int.tmod_lt_of_pos _ (by decide)
  have h4 : 0 ≤ Int.tmod (Int.tmod x1 8 + 8) 8 := Int.tmod_nonneg _ (by omega)
  exact ⟨(Int.tmod ((Int.tmod x1 8) + 8) 8).toNat, by omega, by omega⟩

theorem encB_same (g r p : Int) : ((encB g r p).extract 0 8).toList = ((encB g r p).extract 120 (encB g r p).size).toList := by
  rw [ByteArray.toList_eq, ByteArray.toList_eq, extract_list, extract_list, encB_size]; rfl

theorem ends_j0t {k : Nat} (hk : 20 ≤ k) (a0 a1 a2 : Int) : maquettelaw14_CrownEnds.j0 (k + 1) a0 a1 a2 true = some true := by
  simp only [maquettelaw14_CrownEnds.j0]
  rw [if_pos trivial, alive_k hk]; rfl

theorem CrownEnds : maquettelaw14_CrownEnds.Pure := by
  intro a0 a1 a2 w0 w1 w2
  refine ⟨30 + 1 + 1, ?_⟩
  unfold maquettelaw14_CrownEnds.f
  by_cases c1 : a0 < 1
  · rw [if_pos c1]; exact ends_j0t (by decide) _ _ _
  · by_cases c2 : a0 > 1099511627776
    · rw [if_neg c1, if_pos c2]; exact ends_j0t (by decide) _ _ _
    · by_cases c3 : a2 = 0
      · rw [if_neg c1, if_neg c2, if_pos c3]; exact ends_j0t (by decide) _ _ _
      · rw [if_neg c1, if_neg c2, if_neg c3, alive_k (by decide)]
        simp only [Option.bind_some, Bool.not_true]
        have hok : okC a0 2 9 = true := okC_iff.2 ⟨by omega, by omega, by omega, by omega, by omega, by omega⟩
        have hs := encB_size a0 2 9
        have b2 : 0 < a2 ∧ a2 < 256 := by
          simp [Lit.wf, IntKind.min, IntKind.max, IntKind.signed, IntKind.bits] at w2
          omega
        obtain ⟨n, hn, hK⟩ := ends_K a1
        have hj := ends_j1 (k := 30) (by decide) (encB a0 2 9) hs a1 a2 n hn hK (turn_no (.inl hn) b2.1 b2.2) (turn_no (.inr ⟨by omega, by omega⟩) b2.1 b2.2)
        simp only [maquettelaw14_CrownEnds.j0]
        rw [if_neg (by decide), put_k (by decide)]
        simp only [Option.bind_some]
        rw [if_pos hok, putA_ok hok, if_pos (by omega), if_pos (by decide), if_pos (by omega), if_pos (by omega), encB_same, bne_self_eq_false]
        exact hj
end Go.Proofs.Ytenjkmfpbimmbaa.Pure

/- Of the texts that the row stands on, what it needs (part 26), put together by a program of this session. -/
import Derived.Test.YtlgmabibcpkdmaaZaT10
import Derived.Test.YtlgmabibcpkdmaaZaT25
import Derived.Test.YtlgmabibcpkdmaaZaT19
import Derived.Test.YtlgmabibcpkdmaaZaT18
section
namespace Go.Proofs.Ytlgmabibcpkdmaa.PAll
open Go.RowKit Go.Proofs.YtlgmabibcpkdmaaW.PrintWords Go.Proofs.YtlgmabibcpkdmaaW.PrintLast Go.Proofs.YtlgmabibcpkdmaaW.PrintMore
attribute [local go_sem] max2_int min2_int max_two min_two max_three min_three max_four min_four
set_option linter.unusedVariables false
set_option linter.unusedSimpArgs false
mutual
def maquetteref13_Cells.j0 : Nat → ByteArray → Bool → Option ((List (S79)) × Bool)
  | 0, _, _ => none
  | k + 1, x0, x18 => if x18 = true then (some (([] : List (S79)), false)) else (maquetteref13_Cells.l0 k x0 ([] : List (S79)) 2 0)
def maquetteref13_Cells.l0 : Nat → ByteArray → List (S79) → Int → Int → Option ((List (S79)) × Bool)
  | 0, _, _, _, _ => none
  | k + 1, x0, x4, x5, x6 => if 1 < (x0.size : Int) then (if x6 < (wrap64 (bt x0 1)) then (if (wrap64 (x5 + 6)) > (x0.size : Int) then (some (([] : List (S79)), false)) else (if 0 ≤ x5 then (if x5 ≤ (wrap64 (x5 + 4)) then (if (wrap64 (x5 + 4)) ≤ (x0.size : Int) then ((maquetteref13_Of.f k (x0.extract (x5 : Int).toNat ((wrap64 (x5 + 4)) : Int).toNat)).bind fun t266 => (if 0 ≤ (wrap64 (x5 + 4)) then (if (wrap64 (x5 + 4)) ≤ (wrap64 (x5 + 6)) then (if (wrap64 (x5 + 6)) ≤ (x0.size : Int) then ((maquetteref13_Of.f k (x0.extract ((wrap64 (x5 + 4)) : Int).toNat ((wrap64 (x5 + 6)) : Int).toNat)).bind fun t267 => (if t267 ≤ 24 then (maquetteref13_Cells.j2 k x0 x4 (wrap64 (x5 + 6)) x6 t267 t266 t267 0 (⟨#[]⟩ : ByteArray)) else (maquetteref13_Cells.j2 k x0 x4 (wrap64 (x5 + 6)) x6 2 t266 t267 0 (⟨#[]⟩ : ByteArray)))) else (none)) else (none)) else (none))) else (none)) else (none)) else (none))) else ((maquetteref13_Leaf.f k x4).bind fun bt273 => (if bt273.2 = true then (if bt273.1.toList = x0.toList then (some (x4, true)) else (some (([] : List (S79)), false))) else (some (([] : List (S79)), false))))) else (none)
def maquetteref13_Cells.j2 : Nat → ByteArray → List (S79) → Int → Int → Int → Int → Int → Int → ByteArray → Option ((List (S79)) × Bool)
  | 0, _, _, _, _, _, _, _, _, _ => none
  | k + 1, x0, x4, x5, x6, x8, x269000, x269001, x269002, x269003 => if (wrap64 (x5 + x8)) > (x0.size : Int) then (some (([] : List (S79)), false)) else (if x269001 ≤ 24 then (if 0 ≤ x5 then (if x5 ≤ (wrap64 (x5 + x8)) then (if (wrap64 (x5 + x8)) ≤ (x0.size : Int) then (maquetteref13_Cells.j3 k x0 x4 x5 x6 x8 x269000 x269001 x269002 (x0.extract (x5 : Int).toNat ((wrap64 (x5 + x8)) : Int).toNat)) else (none)) else (none)) else (none)) else (if 0 ≤ x5 then (if x5 ≤ (wrap64 (x5 + x8)) then (if (wrap64 (x5 + x8)) ≤ (x0.size : Int) then ((maquetteref13_Of.f k (x0.extract (x5 : Int).toNat ((wrap64 (x5 + x8)) : Int).toNat)).bind fun t269 => (maquetteref13_Cells.j3 k x0 x4 x5 x6 x8 x269000 x269001 t269 x269003)) else (none)) else (none)) else (none)))
def maquetteref13_Cells.j3 : Nat → ByteArray → List (S79) → Int → Int → Int → Int → Int → Int → ByteArray → Option ((List (S79)) × Bool)
  | 0, _, _, _, _, _, _, _, _, _ => none
  | k + 1, x0, x4, x5, x6, x8, x269000, x269001, x269002, x269003 => if x4.length < 3518437208883 then (maquetteref13_Cells.l0 k x0 (x4 ++ [(⟨x269000, x269001, x269002, x269003⟩ : S79)]) (wrap64 (x5 + x8)) (wrap64 (x6 + 1))) else (none)
end
def maquetteref13_Cells.f (k : Nat) (a0 : ByteArray) : Option ((List (S79)) × Bool) := if (a0.size : Int) = 128 then (if 0 < (a0.size : Int) then (maquetteref13_Cells.j0 k a0 ((bt a0 0) != 76)) else (none)) else (maquetteref13_Cells.j0 k a0 true)
def maquetteref13_Cells.T10 : Bool × List (List Nat × List Nat) := (true, [([], []), ([], []), ([], []), ([2], [2]), ([0, 1, 3], [0, 1, 3]), ([4], [4]), ([], []), ([], []), ([7], [7]), ([], []), ([9], [9]), ([6, 8, 10], [6, 8, 10]), ([11, 5], [11]), ([5, 12], [5, 12]), ([], []), ([14, 13, 12, 0, 1, 2, 3, 4, 5, 6, 7, 8, 9, 10, 11, 12, 13, 14], [13, 14])])
def maquetteref13_Cells.B10 : List Nat := [0, 0, 0, 4, 15, 31, 0, 0, 128, 0, 512, 1984, 4095, 8191, 0, 32767]
theorem maquetteref13_Cells.tab10 : rtab .any (opsOf Try.f28 10) = maquetteref13_Cells.T10 := by kernel_rfl
theorem maquetteref13_Cells.bits10 : waitsOk maquetteref13_Cells.T10.2 maquetteref13_Cells.B10 = true := by kernel_rfl
set_option maxHeartbeats 8000000 in
set_option maxRecDepth 100000 in
theorem maquetteref13_Cells.calls (k : Nat) (a0 : ByteArray) (r1 : List (S79)) (r2 : Bool) (w : World) (h : maquetteref13_Cells.f k a0 = some (r1,r2)) :
    Calls Try.prog 28 #[.string a0] w fun e w' => ∃ v0_ : Value,e = .returned (.tuple #[v0_,.bool r2]) ∧ Kd.R k79 79 w' w.heap.size (fun _ => True) v0_ r1 ∧ Below w.heap.size w w':=by
 have hu79:=Try.underlying79
 have HB:=Aside0.mk (Below.refl w.heap.size w)
 have H : (if (a0.size : Int) = 128 then (if 0 < (a0.size : Int) then (maquetteref13_Cells.j0 k a0 ((bt a0 0) != 76)) else (none)) else (maquetteref13_Cells.j0 k a0 true)) = some (r1,r2):=h
 clear h
 have HC2:=Aside0.mk H
 clear H
 go_enter Try.func28,Try.ntmps28
 go_upto_region 1 with (fail)
 go_cut [18] (fun v18 wc => ∃ (kq : Nat) (x18_1 : Bool),v18 = .bool x18_1 ∧ Aside0 (maquetteref13_Cells.j0 kq a0 x18_1 = some (r1,r2)) ∧ Aside0 (kq ≤ k) ∧ Aside0 (Below w.heap.size w wc))
 case first =>
  have H:=HC2.out
  clear HC2
  by_cases c3 : (a0.size : Int) = 128
  ·rw [if_pos c3] at H
   have c3b0 : ((a0.size : Int) == 128) = true:=beq_iff_eq.mpr c3
   have c3b1 : ((a0.size : Int) != 128) = false:=bne_eq_false_iff_eq.mpr c3
   clear c3
   (first | rw [c3b0] | (simp only [i64_w,i32_w]; rw [c3b0]) | skip)
   by_cases c4 : 0 < (a0.size : Int)
   ·rw [if_pos c4] at H
    have c4b0 : decide (0 < (a0.size : Int)) = true:=decide_eq_true c4
    have c4b1 : decide (0 < a0.size) = true:=decide_eq_true (by omega)
    clear c4
    have H':=Aside0.mk H
    clear H
    have p5 : 0 ≤ (0 : Int):=(by omega)
    have q5 : 0 < a0.size:=(by have : (0 : Int) < (a0.size : Int):=of_decide_eq_true (by first | (with_reducible assumption) | assumption); omega)
    have hx5 : ∀ h : 0 < a0.size,((a0[0]'h).toNat : Int) = bt a0 0:=bt_at a0 0
    clear p5
    have qi5 : (0 < (a0.size : Int)) = True:=eq_true (of_decide_eq_true (by first | (with_reducible assumption) | assumption))
    replace q5:=eq_true q5
    go_wp2
    go_meet
    case rel => exact ⟨_,(((bt a0 0) != 76)),(by first | rfl | (simp; done) | (simp [*]; done)),H',⟨by first | omega | exact Nat.le_refl _⟩,⟨by repeat (first | (with_reducible first | exact HB.out | apply below_alloc | apply pw_below_drewN | apply below_drew1) | exact HB.out)⟩⟩
   rw [if_neg c4] at H
   exact absurd H (by simp)
  rw [if_neg c3] at H
  have c3b0 : ((a0.size : Int) == 128) = false:=beq_eq_false_iff_ne.mpr c3
  have c3b1 : ((a0.size : Int) != 128) = true:=bne_iff_ne.mpr c3
  (first | rw [c3b0] | (simp only [i64_w,i32_w]; rw [c3b0]) | skip)
  have H':=Aside0.mk H
  clear H
  go_wp2
  go_meet
  case rel => exact ⟨_,(true),(by first | rfl | (simp; done) | (simp [*]; done)),H',⟨by first | omega | exact Nat.le_refl _⟩,⟨by repeat (first | (with_reducible first | exact HB.out | apply below_alloc | apply pw_below_drewN | apply below_drew1) | exact HB.out)⟩⟩
 clear HC2
 try clear c2
 try clear p2
 try clear c3
 try clear c3b0
 try clear c3b1
 try clear c4
 try clear c4b0
 try clear c4b1
 try clear p5
 try clear q5
 try clear hx5
 try clear qi5
 try clear p5
 try clear q5
 obtain ⟨kq,x18_1,rfl,HA,HJ1,HB⟩:=hcut
 cases kq with
 | zero => exact absurd HA.out (by simp [maquetteref13_Cells.j0])
 | succ kj1 =>
  have H:=HA.out
  clear HA
  simp only [maquetteref13_Cells.j0] at H
  by_cases c6 : x18_1 = true
  ·subst c6
   have H1 : (some (([] : List (S79)),false)) = some (r1,r2):=by rw [if_pos rfl] at H; exact H
   clear H
   have H:=H1
   clear H1
   simp only [Option.some.injEq,Prod.mk.injEq] at H
   obtain ⟨rfl,rfl⟩:=H
   go_wp2
   go_ret2
   exact ⟨_,by first | rfl | (simp [errW_none,errW_some] <;> rfl) | (simp [*,errW_none,errW_some] <;> rfl),by first | exact Kd.R_nil _ _ _ _ _ | exact Kd.N_nil _ _ _ _ _ | exact Kd.V_nil _ _ _ _ _ | exact Kd.Q_nil _ _ _ _ _ | exact Kd.S_nil _ _ _ _ _,by repeat (first | (with_reducible first | exact HB.out | apply below_alloc | apply pw_below_drewN | apply below_drew1) | exact HB.out)⟩
  replace c6:=Bool.eq_false_iff.mpr c6
  subst c6
  have H1 : (maquetteref13_Cells.l0 kj1 a0 ([] : List (S79)) 2 0) = some (r1,r2):=by rw [if_neg (show ¬ (false = true) by decide)] at H; exact H
  clear H
  have H:=H1
  clear H1
  have H':=Aside0.mk H
  clear H
  go_wp2
  go_loopg [4,5,6] kj1 (fun kq v4 v5 v6 w' => ∃ (x4_2 : List (S79)) (x5_2 : Int) (x6_2 : Int),v5 = .int .i64 x5_2 ∧ v6 = .int .i64 x6_2 ∧ Aside0 (maquetteref13_Cells.l0 kq a0 x4_2 x5_2 x6_2 = some (r1,r2)) ∧ Aside0 (kq ≤ kj1) ∧ Aside0 (Kd.R k79 79 w' w.heap.size (fun _ => True) v4 x4_2) ∧ Aside0 (Below w.heap.size w w'))
  case atStart => exact ⟨(([] : List (S79))),(2),(0),(by first | rfl | (simp; done) | (simp [*]; done)),(by first | rfl | (simp; done) | (simp [*]; done)),H',⟨Nat.le_refl _⟩,⟨by first | exact Kd.R_nil _ _ _ _ _ | exact Kd.N_nil _ _ _ _ _ | exact Kd.V_nil _ _ _ _ _ | exact Kd.Q_nil _ _ _ _ _ | exact Kd.S_nil _ _ _ _ _⟩,⟨by repeat (first | (with_reducible first | exact HB.out | apply below_alloc | apply pw_below_drewN | apply below_drew1) | exact HB.out)⟩⟩
  clear H'
  try clear c2
  try clear p2
  try clear c3
  try clear c3b0
  try clear c3b1
  try clear c4
  try clear c4b0
  try clear c4b1
  try clear p5
  try clear q5
  try clear hx5
  try clear qi5
  try clear c6
  try clear p2
  try clear p5
  try clear q5
  obtain ⟨x4_2,x5_2,x6_2,rfl,rfl,HA,HK2,HO_4,HB⟩:=hrel
  cases gk with
  | zero => exact absurd HA.out (by simp [maquetteref13_Cells.l0])
  | succ k2 =>
   have H:=HA.out
   clear HA
   simp only [maquetteref13_Cells.l0] at H
   by_cases c7 : 1 < (a0.size : Int)
   ·rw [if_pos c7] at H
    have c7b0 : decide (1 < (a0.size : Int)) = true:=decide_eq_true c7
    have c7b1 : decide (1 < a0.size) = true:=decide_eq_true (by omega)
    clear c7
    by_cases c9 : x6_2 < (wrap64 (bt a0 1))
    ·rw [if_pos c9] at H
     have c9b0 : decide (x6_2 < (wrap64 (bt a0 1))) = true:=decide_eq_true c9
     clear c9
     by_cases c10 : (wrap64 (x5_2 + 6)) > (a0.size : Int)
     ·rw [if_pos c10] at H
      have c10b0 : decide ((a0.size : Int) < (wrap64 (x5_2 + 6))) = true:=decide_eq_true c10
      clear c10
      simp only [Option.some.injEq,Prod.mk.injEq] at H
      obtain ⟨rfl,rfl⟩:=H
      have p8 : 0 ≤ (1 : Int):=(by omega)
      have q8 : 1 < a0.size:=(by have : (1 : Int) < (a0.size : Int):=of_decide_eq_true (by first | (with_reducible assumption) | assumption); omega)
      have hx8 : ∀ h : 1 < a0.size,((a0[1]'h).toNat : Int) = bt a0 1:=bt_at a0 1
      clear p8
      have qi8 : (1 < (a0.size : Int)) = True:=eq_true (of_decide_eq_true (by first | (with_reducible assumption) | assumption))
      replace q8:=eq_true q8
      go_wp2
      go_ret2
      exact ⟨_,by first | rfl | (simp [errW_none,errW_some] <;> rfl) | (simp [*,errW_none,errW_some] <;> rfl),by first | exact Kd.R_nil _ _ _ _ _ | exact Kd.N_nil _ _ _ _ _ | exact Kd.V_nil _ _ _ _ _ | exact Kd.Q_nil _ _ _ _ _ | exact Kd.S_nil _ _ _ _ _,by repeat (first | (with_reducible first | exact HB.out | apply below_alloc | apply pw_below_drewN | apply below_drew1) | exact HB.out)⟩
     rw [if_neg c10] at H
     have c10b0 : decide ((a0.size : Int) < (wrap64 (x5_2 + 6))) = false:=decide_eq_false c10
     clear c10
     by_cases c11 : 0 ≤ x5_2
     ·rw [if_pos c11] at H
      have c11b0:=eq_true c11
      have c11b1 : decide (0 ≤ x5_2) = true:=decide_eq_true c11
      clear c11
      by_cases c12 : x5_2 ≤ (wrap64 (x5_2 + 4))
      ·rw [if_pos c12] at H
       have c12b0:=eq_true c12
       have c12b1 : decide (x5_2 ≤ (wrap64 (x5_2 + 4))) = true:=decide_eq_true c12
       by_cases c13 : (wrap64 (x5_2 + 4)) ≤ (a0.size : Int)
       ·rw [if_pos c13] at H
        have c13b0:=eq_true c13
        have c13b1 : decide ((wrap64 (x5_2 + 4)) ≤ (a0.size : Int)) = true:=decide_eq_true c13
        replace H:=Option.bind_eq_some_iff.mp H
        obtain ⟨t266,A140,H⟩:=H
        replace H : (if 0 ≤ (wrap64 (x5_2 + 4)) then (if (wrap64 (x5_2 + 4)) ≤ (wrap64 (x5_2 + 6)) then (if (wrap64 (x5_2 + 6)) ≤ (a0.size : Int) then ((maquetteref13_Of.f k2 (a0.extract ((wrap64 (x5_2 + 4)) : Int).toNat ((wrap64 (x5_2 + 6)) : Int).toNat)).bind fun t267 => (if t267 ≤ 24 then (maquetteref13_Cells.j2 k2 a0 x4_2 (wrap64 (x5_2 + 6)) x6_2 t267 t266 t267 0 (⟨#[]⟩ : ByteArray)) else (maquetteref13_Cells.j2 k2 a0 x4_2 (wrap64 (x5_2 + 6)) x6_2 2 t266 t267 0 (⟨#[]⟩ : ByteArray)))) else (none)) else (none)) else (none)) = some (r1,r2):=H
        have A14:=Aside0.mk A140
        clear A140
        obtain ⟨ji15,hji15⟩ : ∃ j_ : Int,(wrap64 (x5_2 + 4)) = j_:=⟨_,rfl⟩
        replace H : (if 0 ≤ (ji15) then (if (ji15) ≤ (wrap64 (x5_2 + 6)) then (if (wrap64 (x5_2 + 6)) ≤ (a0.size : Int) then ((maquetteref13_Of.f k2 (a0.extract ((ji15) : Int).toNat ((wrap64 (x5_2 + 6)) : Int).toNat)).bind fun t267 => (if t267 ≤ 24 then (maquetteref13_Cells.j2 k2 a0 x4_2 (wrap64 (x5_2 + 6)) x6_2 t267 t266 t267 0 (⟨#[]⟩ : ByteArray)) else (maquetteref13_Cells.j2 k2 a0 x4_2 (wrap64 (x5_2 + 6)) x6_2 2 t266 t267 0 (⟨#[]⟩ : ByteArray)))) else (none)) else (none)) else (none)) = some (r1,r2):=by first | (rw [hji15] at H; exact H) | (simp only [hji15] at H ⊢; exact H)
        (try rw [hji15] at c12b0)
        (try rw [hji15] at c12b1)
        (try rw [hji15] at c12)
        (try rw [hji15] at c13b0)
        (try rw [hji15] at c13b1)
        (try rw [hji15] at c13)
        (try rw [hji15] at A14)
        have hji15w : (IntKind.i64.wrap (x5_2 + 4)) = ji15:=(i64_w _).trans hji15
        by_cases c16 : 0 ≤ (ji15)
        ·rw [if_pos c16] at H
         have c16b0:=eq_true c16
         have c16b1 : decide (0 ≤ (ji15)) = true:=decide_eq_true c16
         clear c16
         by_cases c17 : (ji15) ≤ (wrap64 (x5_2 + 6))
         ·rw [if_pos c17] at H
          have c17b0:=eq_true c17
          have c17b1 : decide ((ji15) ≤ (wrap64 (x5_2 + 6))) = true:=decide_eq_true c17
          by_cases c18 : (wrap64 (x5_2 + 6)) ≤ (a0.size : Int)
          ·rw [if_pos c18] at H
           have c18b0:=eq_true c18
           have c18b1 : decide ((wrap64 (x5_2 + 6)) ≤ (a0.size : Int)) = true:=decide_eq_true c18
           replace H:=Option.bind_eq_some_iff.mp H
           obtain ⟨t267,A190,H⟩:=H
           replace H : (if t267 ≤ 24 then (maquetteref13_Cells.j2 k2 a0 x4_2 (wrap64 (x5_2 + 6)) x6_2 t267 t266 t267 0 (⟨#[]⟩ : ByteArray)) else (maquetteref13_Cells.j2 k2 a0 x4_2 (wrap64 (x5_2 + 6)) x6_2 2 t266 t267 0 (⟨#[]⟩ : ByteArray))) = some (r1,r2):=H
           have A19:=Aside0.mk A190
           clear A190
           have HC20:=Aside0.mk H
           clear H
           have p8 : 0 ≤ (1 : Int):=(by omega)
           have q8 : 1 < a0.size:=(by have : (1 : Int) < (a0.size : Int):=of_decide_eq_true (by first | (with_reducible assumption) | assumption); omega)
           have hx8 : ∀ h : 1 < a0.size,((a0[1]'h).toNat : Int) = bt a0 1:=bt_at a0 1
           clear p8
           have qi8 : (1 < (a0.size : Int)) = True:=eq_true (of_decide_eq_true (by first | (with_reducible assumption) | assumption))
           replace q8:=eq_true q8
           try go_wp2
           have n0_:=Aside0.mk (Kd.R_drew HO_4.out)
           have n1_:=Aside0.mk (below_drew1 HB.out)
           clear HO_4
           clear HB
           have HO_4:=n0_
           have HB:=n1_
           clear n0_ n1_
           refine start_ (n:=16) (S:=fun w' => True) (ds:=[]) #[false,false,false,false,false,false,false,false,false,false,false,false,false,false,false,false] (by kernel_rfl) rfl rfl trivial (fun hHeld => ?_); refine with_tabW maquetteref13_Cells.tab10 maquetteref13_Cells.bits10 (fun HT_ HW_ => ?_)
           generalize wr.drew = w21 at HO_4 HB hHeld ⊢
           refine pure_ (i:=0) (N:=some 31) (v:=?_) (a':=?_) #[true,false,false,false,false,false,false,false,false,false,false,false,false,false,false,false] rfl rfl (any_of HT_.out (by kernel_rfl)) (fun _ _ _ h => h) (Or.inl ⟨by rfl,?_⟩) ?_ ?_
           rotate_left
           ·intro w'
            go_simp
            first | with_reducible rfl | (rw [if_neg (by (try simp only [ByteArray.size_append,ByteArray.size_extract,decide_eq_true_eq,eq_iff_iff,iff_true,beq_iff_eq] at *); omega)] <;> with_reducible rfl)
           rotate_left
           ·simp only [Act.put,List.setIfInBounds_toArray,List.set_cons_zero,List.set_cons_succ,i64_w,i32_w]
            rfl
           refine pure_ (i:=1) (N:=some 32) (v:=?_) (a':=?_) #[true,true,false,false,false,false,false,false,false,false,false,false,false,false,false,false] rfl rfl (any_of HT_.out (by kernel_rfl)) (fun _ _ _ h => h) (Or.inl ⟨by rfl,?_⟩) ?_ ?_
           rotate_left
           ·intro w'
            go_simp
            first | with_reducible rfl | (rw [if_neg (by (try simp only [ByteArray.size_append,ByteArray.size_extract,decide_eq_true_eq,eq_iff_iff,iff_true,beq_iff_eq] at *); omega)] <;> with_reducible rfl)
           rotate_left
           ·simp only [Act.put,List.setIfInBounds_toArray,List.set_cons_zero,List.set_cons_succ,i64_w,i32_w]
            rfl
           refine pure_ (i:=2) (N:=some 33) (v:=?_) (a':=?_) #[true,true,true,false,false,false,false,false,false,false,false,false,false,false,false,false] rfl rfl (any_of HT_.out (by kernel_rfl)) (fun _ _ _ h => h) (Or.inl ⟨by rfl,?_⟩) ?_ ?_
           rotate_left
           ·intro w'
            go_simp
            first | with_reducible rfl | (rw [if_neg (by (try simp only [ByteArray.size_append,ByteArray.size_extract,decide_eq_true_eq,eq_iff_iff,iff_true,beq_iff_eq] at *); omega)] <;> with_reducible rfl)
           rotate_left
           ·simp only [Act.put,List.setIfInBounds_toArray,List.set_cons_zero,List.set_cons_succ,i64_w,i32_w]
            rfl
           refine pure_ (i:=3) (N:=some 34) (v:=?_) (a':=?_) #[true,true,true,true,false,false,false,false,false,false,false,false,false,false,false,false] rfl rfl (any_of HT_.out (by kernel_rfl)) (fun _ _ _ h => h) (Or.inl ⟨by rfl,?_⟩) ?_ ?_
           rotate_left
           ·intro w'
            go_simp
            first | with_reducible rfl | (rw [if_neg (by (try simp only [ByteArray.size_append,ByteArray.size_extract,decide_eq_true_eq,eq_iff_iff,iff_true,beq_iff_eq] at *); omega)] <;> with_reducible rfl)
           rotate_left
           ·simp only [Act.put,List.setIfInBounds_toArray,List.set_cons_zero,List.set_cons_succ,i64_w,i32_w]
            rfl
           refine pure_ (i:=4) (N:=some 35) (v:=?_) (a':=?_) #[true,true,true,true,true,false,false,false,false,false,false,false,false,false,false,false] rfl rfl (any_of HT_.out (by kernel_rfl)) (fun _ _ _ h => h) (Or.inl ⟨by rfl,?_⟩) ?_ ?_
           rotate_left
           ·intro w'
            go_simp
            first | with_reducible rfl | (rw [if_neg (by (try simp only [ByteArray.size_append,ByteArray.size_extract,decide_eq_true_eq,eq_iff_iff,iff_true,beq_iff_eq] at *); omega)] <;> with_reducible rfl)
           rotate_left
           ·simp only [Act.put,List.setIfInBounds_toArray,List.set_cons_zero,List.set_cons_succ,i64_w,i32_w]
            rfl
           refine pure_ (i:=6) (N:=some 37) (v:=?_) (a':=?_) #[true,true,true,true,true,false,true,false,false,false,false,false,false,false,false,false] rfl rfl (any_of HT_.out (by kernel_rfl)) (fun _ _ _ h => h) (Or.inl ⟨by rfl,?_⟩) ?_ ?_
           rotate_left
           ·intro w'
            go_simp
            first | with_reducible rfl | (rw [if_neg (by (try simp only [ByteArray.size_append,ByteArray.size_extract,decide_eq_true_eq,eq_iff_iff,iff_true,beq_iff_eq] at *); omega)] <;> with_reducible rfl)
           rotate_left
           ·simp only [Act.put,List.setIfInBounds_toArray,List.set_cons_zero,List.set_cons_succ,i64_w,i32_w]
            rfl
           refine pure_ (i:=7) (N:=some 38) (v:=?_) (a':=?_) #[true,true,true,true,true,false,true,true,false,false,false,false,false,false,false,false] rfl rfl (any_of HT_.out (by kernel_rfl)) (fun _ _ _ h => h) (Or.inl ⟨by rfl,?_⟩) ?_ ?_
           rotate_left
           ·intro w'
            go_simp
            first | with_reducible rfl | (rw [if_neg (by (try simp only [ByteArray.size_append,ByteArray.size_extract,decide_eq_true_eq,eq_iff_iff,iff_true,beq_iff_eq] at *); omega)] <;> with_reducible rfl)
           rotate_left
           ·simp only [Act.put,List.setIfInBounds_toArray,List.set_cons_zero,List.set_cons_succ,i64_w,i32_w]
            rfl
           refine pure_ (i:=8) (N:=some 39) (v:=?_) (a':=?_) #[true,true,true,true,true,false,true,true,true,false,false,false,false,false,false,false] rfl rfl (any_of HT_.out (by kernel_rfl)) (fun _ _ _ h => h) (Or.inl ⟨by rfl,?_⟩) ?_ ?_
           rotate_left
           ·intro w'
            go_simp
            first | with_reducible rfl | (rw [if_neg (by (try simp only [ByteArray.size_append,ByteArray.size_extract,decide_eq_true_eq,eq_iff_iff,iff_true,beq_iff_eq] at *); omega)] <;> with_reducible rfl)
           rotate_left
           ·simp only [Act.put,List.setIfInBounds_toArray,List.set_cons_zero,List.set_cons_succ,i64_w,i32_w]
            rfl
           refine pure_ (i:=9) (N:=some 40) (v:=?_) (a':=?_) #[true,true,true,true,true,false,true,true,true,true,false,false,false,false,false,false] rfl rfl (any_of HT_.out (by kernel_rfl)) (fun _ _ _ h => h) (Or.inl ⟨by rfl,?_⟩) ?_ ?_
           rotate_left
           ·intro w'
            go_simp
            first | with_reducible rfl | (rw [if_neg (by (try simp only [ByteArray.size_append,ByteArray.size_extract,decide_eq_true_eq,eq_iff_iff,iff_true,beq_iff_eq] at *); omega)] <;> with_reducible rfl)
           rotate_left
           ·simp only [Act.put,List.setIfInBounds_toArray,List.set_cons_zero,List.set_cons_succ,i64_w,i32_w]
            rfl
           refine pure_ (i:=10) (N:=some 41) (v:=?_) (a':=?_) #[true,true,true,true,true,false,true,true,true,true,true,false,false,false,false,false] rfl rfl (any_of HT_.out (by kernel_rfl)) (fun _ _ _ h => h) (Or.inl ⟨by rfl,?_⟩) ?_ ?_
           rotate_left
           ·intro w'
            go_simp
            first | with_reducible rfl | (rw [if_neg (by (try simp only [ByteArray.size_append,ByteArray.size_extract,decide_eq_true_eq,eq_iff_iff,iff_true,beq_iff_eq] at *); omega)] <;> with_reducible rfl)
           rotate_left
           ·simp only [Act.put,List.setIfInBounds_toArray,List.set_cons_zero,List.set_cons_succ,i64_w,i32_w]
            rfl
           refine pure_ (i:=11) (N:=some 42) (v:=?_) (a':=?_) #[true,true,true,true,true,false,true,true,true,true,true,true,false,false,false,false] rfl rfl (any_of HT_.out (by kernel_rfl)) (fun _ _ _ h => h) (Or.inl ⟨by rfl,?_⟩) ?_ ?_
           rotate_left
           ·intro w'
            go_simp
            first | with_reducible rfl | (rw [if_neg (by (try simp only [ByteArray.size_append,ByteArray.size_extract,decide_eq_true_eq,eq_iff_iff,iff_true,beq_iff_eq] at *); omega)] <;> with_reducible rfl)
           rotate_left
           ·simp only [Act.put,List.setIfInBounds_toArray,List.set_cons_zero,List.set_cons_succ,i64_w,i32_w]
            rfl
           refine join_ (σ:=Nat) 1 #[true,true,true,true,true,true,true,true,true,true,true,true,true,true,true,false] (fun s_ => [(36,.int .i64 t266),(43,.int .i64 t267),(7,.pointer (some ⟨s_,0,none⟩)),(44,.agg #[.int .i64 t266,.int .i64 t267,.int .i64 0,.string (⟨#[]⟩ : ByteArray)])]) (fun s_ w' => (Kd.R k79 79 w' w.heap.size (fun k_ => k_ ≠ s_) u4 x4_2) ∧ (w'.heap[s_]? = some (.cells #[.int .i64 0,.int .i64 0,.int .i64 0,.string (⟨#[]⟩ : ByteArray)] 79 (0,0))) ∧ (w.heap.size ≤ s_) ∧ (w.heap.size ≤ s_) ∧ (Below w.heap.size w w')) ?_ ?_
           rotate_left
           ·intro hCont
            refine two_ (i:=5) (j:=14) (Ni:=some 36) (Nj:=some 7) #[true,true,true,true,true,true,true,true,true,true,true,true,false,false,false,false] #[true,true,true,true,true,false,true,true,true,true,true,true,false,false,true,false] rfl rfl rfl rfl (two_of HT_.out (by kernel_rfl)) (by decide) (by decide) (fun K hK => ?_) (fun K hK => ?_)
            ·skip
             refine goes_ Try.func44 (by kernel_rfl) rfl #[.string (a0.extract (x5_2 : Int).toNat ((ji15) : Int).toNat)] (by rfl) rfl rfl (by (try simp only [List.map_toArray,List.map_cons,List.map_nil]); first | done | (simp only [hji15]; rfl) | rfl | (simp only [List.length_drop,List.length_take]; rfl) | (simp only [ByteArray.size_append,Int.natCast_add]; rfl) | (simp [ByteArray.size_append,Int.add_assoc]; done)) ?_
             with_reducible refine (maquetteref13_Of.calls k2 (a0.extract (x5_2 : Int).toNat ((ji15) : Int).toNat) t266 _ A14.out).mono ?_
             rintro e w' ⟨rfl,⟨nd,rfl⟩⟩
             refine ⟨_,rfl,?_⟩
             refine hK.out _ _ trivial (fun hHeld => ?_)
             clear hK K
             refine norm_ (a':=?_) ?_ ?_
             rotate_left
             ·show Act.put _ (some 36) _ = _
              simp only [Act.put,List.setIfInBounds_toArray,List.set_cons_zero,List.set_cons_succ,i64_w,i32_w]
              rfl
             refine two_ (i:=12) (j:=14) (Ni:=some 43) (Nj:=some 7) #[true,true,true,true,true,true,true,true,true,true,true,true,true,false,false,false] #[true,true,true,true,true,true,true,true,true,true,true,true,false,false,true,false] rfl rfl rfl rfl (two_of HT_.out (by kernel_rfl)) (by decide) (by decide) (fun K hK => ?_) (fun K hK => ?_)
             ·skip
              refine goes_ Try.func44 (by kernel_rfl) rfl #[.string (a0.extract ((ji15) : Int).toNat ((wrap64 (x5_2 + 6)) : Int).toNat)] (by rfl) rfl rfl (by (try simp only [List.map_toArray,List.map_cons,List.map_nil]); first | done | (simp only [hji15]; rfl) | rfl | (simp only [List.length_drop,List.length_take]; rfl) | (simp only [ByteArray.size_append,Int.natCast_add]; rfl) | (simp [ByteArray.size_append,Int.add_assoc]; done)) ?_
              with_reducible refine (maquetteref13_Of.calls k2 (a0.extract ((ji15) : Int).toNat ((wrap64 (x5_2 + 6)) : Int).toNat) t267 _ A19.out).mono ?_
              rintro e w' ⟨rfl,⟨nd,rfl⟩⟩
              refine ⟨_,rfl,?_⟩
              refine hK.out _ _ trivial (fun hHeld => ?_)
              clear hK K
              refine norm_ (a':=?_) ?_ ?_
              rotate_left
              ·show Act.put _ (some 43) _ = _
               simp only [Act.put,List.setIfInBounds_toArray,List.set_cons_zero,List.set_cons_succ,i64_w,i32_w]
               rfl
              refine pure_ (i:=13) (N:=some 44) (v:=?_) (a':=?_) #[true,true,true,true,true,true,true,true,true,true,true,true,true,true,false,false] rfl rfl (any_of HT_.out (by kernel_rfl)) (fun _ _ _ h => h) (Or.inl ⟨by rfl,?_⟩) ?_ ?_
              rotate_left
              ·intro w'
               go_simp
               first | with_reducible rfl | (rw [if_neg (by (try simp only [ByteArray.size_append,ByteArray.size_extract,decide_eq_true_eq,eq_iff_iff,iff_true,beq_iff_eq] at *); omega)] <;> with_reducible rfl)
              rotate_left
              ·simp only [Act.put,List.setIfInBounds_toArray,List.set_cons_zero,List.set_cons_succ,i64_w,i32_w]
               rfl
              refine one_ (i:=14) (N:=some 7) #[true,true,true,true,true,true,true,true,true,true,true,true,true,true,true,false] rfl rfl (one_of HT_.out (by kernel_rfl)) (by decide) (fun K hK => ?_)
              refine box_step ?hg (N:=7) ?hd (cs:=#[.int .i64 0,.int .i64 0,.int .i64 0,.string (⟨#[]⟩ : ByteArray)]) (t:=79) ?hr ?_; (case hd => rfl); (case hg => rfl); (case hr => first | (go_simp; done) | (go_simp; rfl))
              intro gb268 hg w22 hbox hb
              have n0_:=Aside0.mk (Kd.R_below (Kd.R_elderB (by (with_reducible repeat (first | apply Kd.R_alloc | apply Kd.R_drewN | apply Kd.R_drew)); exact HO_4.out) gb268 (Nat.le_of_eq hg.symm)) hb)
              have n1_:=Aside0.mk (below_step (by repeat (first | (with_reducible first | exact HB.out | apply below_alloc | apply pw_below_drewN | apply below_drew1) | exact HB.out)) hb)
              have n2_:=Aside0.mk (hbox)
              have n3_:=Aside0.mk ((by rw [hg]; exact (below_size (by repeat (first | (with_reducible first | exact HB.out | apply below_alloc | apply pw_below_drewN | apply below_drew1) | exact HB.out))) : w.heap.size ≤ gb268))
              have n4_:=Aside0.mk ((by rw [hg]; exact (below_size (by repeat (first | (with_reducible first | exact HB.out | apply below_alloc | apply pw_below_drewN | apply below_drew1) | exact HB.out))) : w.heap.size ≤ gb268))
              clear HO_4
              clear HB
              have HO_4:=n0_
              have HB:=n1_
              have BK268:=n2_
              have GW268:=n3_
              have GE268:=n4_
              clear n0_ n1_ n2_ n3_ n4_
              clear hb hbox hg
              refine hK.out _ _ trivial (fun hHeld => ?_)
              clear hK K
              refine norm_ (a':=?_) ?_ ?_
              rotate_left
              ·show Act.put _ (some 7) _ = _
               simp only [Act.put,List.setIfInBounds_toArray,List.set_cons_zero,List.set_cons_succ,i64_w,i32_w]
               rfl
              exact norm_ (by simp only [putAll,Act.put,List.setIfInBounds_toArray,List.set_cons_zero,List.set_cons_succ]) (hCont (gb268) _ ⟨(by (with_reducible repeat (first | apply Kd.R_alloc | apply Kd.R_drewN | apply Kd.R_drew)); exact Kd.R_mono HO_4.out (fun _ hk => hk.2)),(by (with_reducible repeat (first | refine blk_drewN ?_ _ | refine blk_drew ?_ | refine blk_alloc ?_ _)); exact BK268.out),GW268.out,GE268.out,(by repeat (first | (with_reducible first | exact HB.out | apply below_alloc | apply pw_below_drewN | apply below_drew1 | refine below_set ?_ GE268.out) | exact HB.out))⟩)
             skip
             refine box_step ?hg (N:=7) ?hd (cs:=#[.int .i64 0,.int .i64 0,.int .i64 0,.string (⟨#[]⟩ : ByteArray)]) (t:=79) ?hr ?_; (case hd => rfl); (case hg => rfl); (case hr => first | (go_simp; done) | (go_simp; rfl))
             intro gb268 hg w22 hbox hb
             have n0_:=Aside0.mk (Kd.R_below (Kd.R_elderB (by (with_reducible repeat (first | apply Kd.R_alloc | apply Kd.R_drewN | apply Kd.R_drew)); exact HO_4.out) gb268 (Nat.le_of_eq hg.symm)) hb)
             have n1_:=Aside0.mk (below_step (by repeat (first | (with_reducible first | exact HB.out | apply below_alloc | apply pw_below_drewN | apply below_drew1) | exact HB.out)) hb)
             have n2_:=Aside0.mk (hbox)
             have n3_:=Aside0.mk ((by rw [hg]; exact (below_size (by repeat (first | (with_reducible first | exact HB.out | apply below_alloc | apply pw_below_drewN | apply below_drew1) | exact HB.out))) : w.heap.size ≤ gb268))
             have n4_:=Aside0.mk ((by rw [hg]; exact (below_size (by repeat (first | (with_reducible first | exact HB.out | apply below_alloc | apply pw_below_drewN | apply below_drew1) | exact HB.out))) : w.heap.size ≤ gb268))
             clear HO_4
             clear HB
             have HO_4:=n0_
             have HB:=n1_
             have BK268:=n2_
             have GW268:=n3_
             have GE268:=n4_
             clear n0_ n1_ n2_ n3_ n4_
             clear hb hbox hg
             refine hK.out _ _ trivial (fun hHeld => ?_)
             clear hK K
             refine norm_ (a':=?_) ?_ ?_
             rotate_left
             ·show Act.put _ (some 7) _ = _
              simp only [Act.put,List.setIfInBounds_toArray,List.set_cons_zero,List.set_cons_succ,i64_w,i32_w]
              rfl
             refine one_ (i:=12) (N:=some 43) #[true,true,true,true,true,true,true,true,true,true,true,true,true,false,true,false] rfl rfl (one_of HT_.out (by kernel_rfl)) (by decide) (fun K hK => ?_)
             refine goes_ Try.func44 (by kernel_rfl) rfl #[.string (a0.extract ((ji15) : Int).toNat ((wrap64 (x5_2 + 6)) : Int).toNat)] (by rfl) rfl rfl (by (try simp only [List.map_toArray,List.map_cons,List.map_nil]); first | done | (simp only [hji15]; rfl) | rfl | (simp only [List.length_drop,List.length_take]; rfl) | (simp only [ByteArray.size_append,Int.natCast_add]; rfl) | (simp [ByteArray.size_append,Int.add_assoc]; done)) ?_
             with_reducible refine (maquetteref13_Of.calls k2 (a0.extract ((ji15) : Int).toNat ((wrap64 (x5_2 + 6)) : Int).toNat) t267 _ A19.out).mono ?_
             rintro e w' ⟨rfl,⟨nd,rfl⟩⟩
             refine ⟨_,rfl,?_⟩
             refine hK.out _ _ trivial (fun hHeld => ?_)
             clear hK K
             refine norm_ (a':=?_) ?_ ?_
             rotate_left
             ·show Act.put _ (some 43) _ = _
              simp only [Act.put,List.setIfInBounds_toArray,List.set_cons_zero,List.set_cons_succ,i64_w,i32_w]
              rfl
             refine pure_ (i:=13) (N:=some 44) (v:=?_) (a':=?_) #[true,true,true,true,true,true,true,true,true,true,true,true,true,true,true,false] rfl rfl (any_of HT_.out (by kernel_rfl)) (fun _ _ _ h => h) (Or.inl ⟨by rfl,?_⟩) ?_ ?_
             rotate_left
             ·intro w'
              go_simp
              first | with_reducible rfl | (rw [if_neg (by (try simp only [ByteArray.size_append,ByteArray.size_extract,decide_eq_true_eq,eq_iff_iff,iff_true,beq_iff_eq] at *); omega)] <;> with_reducible rfl)
             rotate_left
             ·simp only [Act.put,List.setIfInBounds_toArray,List.set_cons_zero,List.set_cons_succ,i64_w,i32_w]
              rfl
             exact norm_ (by simp only [putAll,Act.put,List.setIfInBounds_toArray,List.set_cons_zero,List.set_cons_succ]) (hCont (gb268) _ ⟨(by (with_reducible repeat (first | apply Kd.R_alloc | apply Kd.R_drewN | apply Kd.R_drew)); exact Kd.R_mono HO_4.out (fun _ hk => hk.2)),(by (with_reducible repeat (first | refine blk_drewN ?_ _ | refine blk_drew ?_ | refine blk_alloc ?_ _)); exact BK268.out),GW268.out,GE268.out,(by repeat (first | (with_reducible first | exact HB.out | apply below_alloc | apply pw_below_drewN | apply below_drew1 | refine below_set ?_ GE268.out) | exact HB.out))⟩)
            skip
            refine box_step ?hg (N:=7) ?hd (cs:=#[.int .i64 0,.int .i64 0,.int .i64 0,.string (⟨#[]⟩ : ByteArray)]) (t:=79) ?hr ?_; (case hd => rfl); (case hg => rfl); (case hr => first | (go_simp; done) | (go_simp; rfl))
            intro gb268 hg w22 hbox hb
            have n0_:=Aside0.mk (Kd.R_below (Kd.R_elderB (by (with_reducible repeat (first | apply Kd.R_alloc | apply Kd.R_drewN | apply Kd.R_drew)); exact HO_4.out) gb268 (Nat.le_of_eq hg.symm)) hb)
            have n1_:=Aside0.mk (below_step (by repeat (first | (with_reducible first | exact HB.out | apply below_alloc | apply pw_below_drewN | apply below_drew1) | exact HB.out)) hb)
            have n2_:=Aside0.mk (hbox)
            have n3_:=Aside0.mk ((by rw [hg]; exact (below_size (by repeat (first | (with_reducible first | exact HB.out | apply below_alloc | apply pw_below_drewN | apply below_drew1) | exact HB.out))) : w.heap.size ≤ gb268))
            have n4_:=Aside0.mk ((by rw [hg]; exact (below_size (by repeat (first | (with_reducible first | exact HB.out | apply below_alloc | apply pw_below_drewN | apply below_drew1) | exact HB.out))) : w.heap.size ≤ gb268))
            clear HO_4
            clear HB
            have HO_4:=n0_
            have HB:=n1_
            have BK268:=n2_
            have GW268:=n3_
            have GE268:=n4_
            clear n0_ n1_ n2_ n3_ n4_
            clear hb hbox hg
            refine hK.out _ _ trivial (fun hHeld => ?_)
            clear hK K
            refine norm_ (a':=?_) ?_ ?_
            rotate_left
            ·show Act.put _ (some 7) _ = _
             simp only [Act.put,List.setIfInBounds_toArray,List.set_cons_zero,List.set_cons_succ,i64_w,i32_w]
             rfl
            refine one_ (i:=5) (N:=some 36) #[true,true,true,true,true,true,true,true,true,true,true,true,false,false,true,false] rfl rfl (one_of HT_.out (by kernel_rfl)) (by decide) (fun K hK => ?_)
            refine goes_ Try.func44 (by kernel_rfl) rfl #[.string (a0.extract (x5_2 : Int).toNat ((ji15) : Int).toNat)] (by rfl) rfl rfl (by (try simp only [List.map_toArray,List.map_cons,List.map_nil]); first | done | (simp only [hji15]; rfl) | rfl | (simp only [List.length_drop,List.length_take]; rfl) | (simp only [ByteArray.size_append,Int.natCast_add]; rfl) | (simp [ByteArray.size_append,Int.add_assoc]; done)) ?_
            with_reducible refine (maquetteref13_Of.calls k2 (a0.extract (x5_2 : Int).toNat ((ji15) : Int).toNat) t266 _ A14.out).mono ?_
            rintro e w' ⟨rfl,⟨nd,rfl⟩⟩
            refine ⟨_,rfl,?_⟩
            refine hK.out _ _ trivial (fun hHeld => ?_)
            clear hK K
            refine norm_ (a':=?_) ?_ ?_
            rotate_left
            ·show Act.put _ (some 36) _ = _
             simp only [Act.put,List.setIfInBounds_toArray,List.set_cons_zero,List.set_cons_succ,i64_w,i32_w]
             rfl
            refine one_ (i:=12) (N:=some 43) #[true,true,true,true,true,true,true,true,true,true,true,true,true,false,true,false] rfl rfl (one_of HT_.out (by kernel_rfl)) (by decide) (fun K hK => ?_)
            refine goes_ Try.func44 (by kernel_rfl) rfl #[.string (a0.extract ((ji15) : Int).toNat ((wrap64 (x5_2 + 6)) : Int).toNat)] (by rfl) rfl rfl (by (try simp only [List.map_toArray,List.map_cons,List.map_nil]); first | done | (simp only [hji15]; rfl) | rfl | (simp only [List.length_drop,List.length_take]; rfl) | (simp only [ByteArray.size_append,Int.natCast_add]; rfl) | (simp [ByteArray.size_append,Int.add_assoc]; done)) ?_
            with_reducible refine (maquetteref13_Of.calls k2 (a0.extract ((ji15) : Int).toNat ((wrap64 (x5_2 + 6)) : Int).toNat) t267 _ A19.out).mono ?_
            rintro e w' ⟨rfl,⟨nd,rfl⟩⟩
            refine ⟨_,rfl,?_⟩
            refine hK.out _ _ trivial (fun hHeld => ?_)
            clear hK K
            refine norm_ (a':=?_) ?_ ?_
            rotate_left
            ·show Act.put _ (some 43) _ = _
             simp only [Act.put,List.setIfInBounds_toArray,List.set_cons_zero,List.set_cons_succ,i64_w,i32_w]
             rfl
            refine pure_ (i:=13) (N:=some 44) (v:=?_) (a':=?_) #[true,true,true,true,true,true,true,true,true,true,true,true,true,true,true,false] rfl rfl (any_of HT_.out (by kernel_rfl)) (fun _ _ _ h => h) (Or.inl ⟨by rfl,?_⟩) ?_ ?_
            rotate_left
            ·intro w'
             go_simp
             first | with_reducible rfl | (rw [if_neg (by (try simp only [ByteArray.size_append,ByteArray.size_extract,decide_eq_true_eq,eq_iff_iff,iff_true,beq_iff_eq] at *); omega)] <;> with_reducible rfl)
            rotate_left
            ·simp only [Act.put,List.setIfInBounds_toArray,List.set_cons_zero,List.set_cons_succ,i64_w,i32_w]
             rfl
            exact norm_ (by simp only [putAll,Act.put,List.setIfInBounds_toArray,List.set_cons_zero,List.set_cons_succ]) (hCont (gb268) _ ⟨(by (with_reducible repeat (first | apply Kd.R_alloc | apply Kd.R_drewN | apply Kd.R_drew)); exact Kd.R_mono HO_4.out (fun _ hk => hk.2)),(by (with_reducible repeat (first | refine blk_drewN ?_ _ | refine blk_drew ?_ | refine blk_alloc ?_ _)); exact BK268.out),GW268.out,GE268.out,(by repeat (first | (with_reducible first | exact HB.out | apply below_alloc | apply pw_below_drewN | apply below_drew1 | refine below_set ?_ GE268.out) | exact HB.out))⟩)
           rintro gb268 w23 ⟨h0_,h1_,h2_,h3_,h4_⟩
           have n0_ : Aside0 (Kd.R k79 79 w23 w.heap.size (fun k_ => k_ ≠ gb268) u4 x4_2):=⟨h0_⟩
           have n1_ : Aside0 (w23.heap[gb268]? = some (.cells #[.int .i64 0,.int .i64 0,.int .i64 0,.string (⟨#[]⟩ : ByteArray)] 79 (0,0))):=⟨h1_⟩
           have n2_ : Aside0 (w.heap.size ≤ gb268):=⟨h2_⟩
           have n3_ : Aside0 (w.heap.size ≤ gb268):=⟨h3_⟩
           have n4_ : Aside0 (Below w.heap.size w w23):=⟨h4_⟩
           clear HO_4
           clear HB
           clear h0_ h1_ h2_ h3_ h4_
           have HO_4:=n0_
           have BK268:=n1_
           have GW268:=n2_
           have GE268:=n3_
           have HB:=n4_
           clear n0_ n1_ n2_ n3_ n4_
           have hHeld:=trivial
           refine norm_ (a':=?_) ?_ ?_
           rotate_left
           ·simp only [putAll,Act.put,List.setIfInBounds_toArray,List.set_cons_zero,List.set_cons_succ]
            rfl
           refine one_ (i:=15) (N:=none) #[true,true,true,true,true,true,true,true,true,true,true,true,true,true,true,true] rfl rfl (one_of HT_.out (by kernel_rfl)) (by decide) (fun K hK => ?_)
           have hs24 : w23.cell? ⟨gb268,0,none⟩ = some (.int .i64 0):=(blk_cell BK268.out 0).trans rfl
           have hfs24:=blk_frozen BK268.out 0
           have hs25 : w23.cell? ⟨gb268,1,none⟩ = some (.int .i64 0):=(blk_cell BK268.out 1).trans rfl
           have hfs25:=blk_frozen BK268.out 1
           have hs26 : w23.cell? ⟨gb268,2,none⟩ = some (.int .i64 0):=(blk_cell BK268.out 2).trans rfl
           have hfs26:=blk_frozen BK268.out 2
           have hs27 : w23.cell? ⟨gb268,3,none⟩ = some (.string (⟨#[]⟩ : ByteArray)):=(blk_cell BK268.out 3).trans rfl
           have hfs27:=blk_frozen BK268.out 3
           refine skip_ (w1:=?_) (by rfl) rfl ?_ ?_
           rotate_left
           ·go_simp
            rfl
           refine hK.out _ _ trivial (fun hHeld => ?_)
           clear hK K
           refine done_ (done_of HT_.out (by kernel_rfl)) ?_
           have hcz28_0 : w23.cell? ⟨gb268,0,none⟩ = some (.int .i64 0):=(blk_cell BK268.out 0).trans rfl
           have hcz28_1 : w23.cell? ⟨gb268,1,none⟩ = some (.int .i64 0):=(blk_cell BK268.out 1).trans rfl
           have hcz28_2 : w23.cell? ⟨gb268,2,none⟩ = some (.int .i64 0):=(blk_cell BK268.out 2).trans rfl
           have hcz28_3 : w23.cell? ⟨gb268,3,none⟩ = some (.string (⟨#[]⟩ : ByteArray)):=(blk_cell BK268.out 3).trans rfl
           have hfz28_0:=blk_frozen BK268.out 0
           have hfz28_1:=blk_frozen BK268.out 1
           have hfz28_2:=blk_frozen BK268.out 2
           have hfz28_3:=blk_frozen BK268.out 3
           go_upto_if 49 with (fail)
           go_cut [8] (fun v8 wc => ∃ (kq : Nat) (x8_19 : Int),v8 = .int .i64 x8_19 ∧ Aside0 (maquetteref13_Cells.j2 kq a0 x4_2 (wrap64 (x5_2 + 6)) x6_2 x8_19 t266 t267 0 (⟨#[]⟩ : ByteArray) = some (r1,r2)) ∧ Aside0 (kq ≤ k2) ∧ Aside0 (Kd.R k79 79 wc w.heap.size (fun k_ => k_ ≠ gb268) u4 x4_2) ∧ Aside0 (wc.heap[gb268]? = some (.cells #[.int .i64 t266,.int .i64 t267,.int .i64 0,.string (⟨#[]⟩ : ByteArray)] 79 (0,0))) ∧ Aside0 (Below w.heap.size w wc))
           case first =>
            have H:=HC20.out
            clear HC20
            by_cases c29 : t267 ≤ 24
            ·rw [if_pos c29] at H
             have c29b0 : decide (t267 ≤ 24) = true:=decide_eq_true c29
             clear c29
             (first | rw [c29b0] | (simp only [i64_w,i32_w]; rw [c29b0]) | skip)
             have H':=Aside0.mk H
             clear H
             have hcz30_0 : w23.cell? ⟨gb268,0,none⟩ = some (.int .i64 0):=(blk_cell BK268.out 0).trans rfl
             have hcz30_1 : w23.cell? ⟨gb268,1,none⟩ = some (.int .i64 0):=(blk_cell BK268.out 1).trans rfl
             have hcz30_2 : w23.cell? ⟨gb268,2,none⟩ = some (.int .i64 0):=(blk_cell BK268.out 2).trans rfl
             have hcz30_3 : w23.cell? ⟨gb268,3,none⟩ = some (.string (⟨#[]⟩ : ByteArray)):=(blk_cell BK268.out 3).trans rfl
             have hfz30_0:=blk_frozen BK268.out 0
             have hfz30_1:=blk_frozen BK268.out 1
             have hfz30_2:=blk_frozen BK268.out 2
             have hfz30_3:=blk_frozen BK268.out 3
             go_wp2
             go_meet
             case rel => exact ⟨_,(t267),(by first | rfl | (simp; done) | (simp [*]; done)),H',⟨by have:=HJ1.out; have:=HK2.out; first | omega | exact Nat.le_refl _⟩,⟨by (with_reducible repeat (first | apply Kd.R_alloc | apply Kd.R_drewN | apply Kd.R_drew)); exact Kd.R_mono (Kd.R_far (p:=⟨gb268,3,none⟩) (Kd.R_far (p:=⟨gb268,2,none⟩) (Kd.R_far (p:=⟨gb268,1,none⟩) (Kd.R_far (p:=⟨gb268,0,none⟩) (Kd.R_mono HO_4.out (fun k_ hk => (⟨hk,hk⟩ : _ ∧ k_ ≠ gb268))) (fun _ hk => hk.2) (.int .i64 t266)) (fun _ hk => hk.2) (.int .i64 t267)) (fun _ hk => hk.2) (.int .i64 0)) (fun _ hk => hk.2) (.string (⟨#[]⟩ : ByteArray))) (fun _ hk => hk.1)⟩,⟨by (with_reducible repeat (first | refine blk_drewN ?_ _ | refine blk_drew ?_ | refine blk_alloc ?_ _)); refine blk_put (cs:=#[.int .i64 t266,.int .i64 t267,.int .i64 0,.string (⟨#[]⟩ : ByteArray)]) ?_ 3 _ rfl; (with_reducible repeat (first | refine blk_drewN ?_ _ | refine blk_drew ?_ | refine blk_alloc ?_ _)); refine blk_put (cs:=#[.int .i64 t266,.int .i64 t267,.int .i64 0,.string (⟨#[]⟩ : ByteArray)]) ?_ 2 _ rfl; (with_reducible repeat (first | refine blk_drewN ?_ _ | refine blk_drew ?_ | refine blk_alloc ?_ _)); refine blk_put (cs:=#[.int .i64 t266,.int .i64 0,.int .i64 0,.string (⟨#[]⟩ : ByteArray)]) ?_ 1 _ rfl; (with_reducible repeat (first | refine blk_drewN ?_ _ | refine blk_drew ?_ | refine blk_alloc ?_ _)); refine blk_put (cs:=#[.int .i64 0,.int .i64 0,.int .i64 0,.string (⟨#[]⟩ : ByteArray)]) ?_ 0 _ rfl; (with_reducible repeat (first | refine blk_drewN ?_ _ | refine blk_drew ?_ | refine blk_alloc ?_ _)); exact BK268.out⟩,⟨by repeat (first | (with_reducible first | exact HB.out | apply below_alloc | apply pw_below_drewN | apply below_drew1 | refine below_set ?_ GE268.out) | exact HB.out)⟩⟩
            rw [if_neg c29] at H
            have c29b0 : decide (t267 ≤ 24) = false:=decide_eq_false c29
            clear c29
            (first | rw [c29b0] | (simp only [i64_w,i32_w]; rw [c29b0]) | skip)
            have H':=Aside0.mk H
            clear H
            go_wp2
            go_meet
            case rel => exact ⟨_,(2),(by first | rfl | (simp; done) | (simp [*]; done)),H',⟨by have:=HJ1.out; have:=HK2.out; first | omega | exact Nat.le_refl _⟩,⟨by (with_reducible repeat (first | apply Kd.R_alloc | apply Kd.R_drewN | apply Kd.R_drew)); exact Kd.R_mono (Kd.R_far (p:=⟨gb268,3,none⟩) (Kd.R_far (p:=⟨gb268,2,none⟩) (Kd.R_far (p:=⟨gb268,1,none⟩) (Kd.R_far (p:=⟨gb268,0,none⟩) (Kd.R_mono HO_4.out (fun k_ hk => (⟨hk,hk⟩ : _ ∧ k_ ≠ gb268))) (fun _ hk => hk.2) (.int .i64 t266)) (fun _ hk => hk.2) (.int .i64 t267)) (fun _ hk => hk.2) (.int .i64 0)) (fun _ hk => hk.2) (.string (⟨#[]⟩ : ByteArray))) (fun _ hk => hk.1)⟩,⟨by (with_reducible repeat (first | refine blk_drewN ?_ _ | refine blk_drew ?_ | refine blk_alloc ?_ _)); refine blk_put (cs:=#[.int .i64 t266,.int .i64 t267,.int .i64 0,.string (⟨#[]⟩ : ByteArray)]) ?_ 3 _ rfl; (with_reducible repeat (first | refine blk_drewN ?_ _ | refine blk_drew ?_ | refine blk_alloc ?_ _)); refine blk_put (cs:=#[.int .i64 t266,.int .i64 t267,.int .i64 0,.string (⟨#[]⟩ : ByteArray)]) ?_ 2 _ rfl; (with_reducible repeat (first | refine blk_drewN ?_ _ | refine blk_drew ?_ | refine blk_alloc ?_ _)); refine blk_put (cs:=#[.int .i64 t266,.int .i64 0,.int .i64 0,.string (⟨#[]⟩ : ByteArray)]) ?_ 1 _ rfl; (with_reducible repeat (first | refine blk_drewN ?_ _ | refine blk_drew ?_ | refine blk_alloc ?_ _)); refine blk_put (cs:=#[.int .i64 0,.int .i64 0,.int .i64 0,.string (⟨#[]⟩ : ByteArray)]) ?_ 0 _ rfl; (with_reducible repeat (first | refine blk_drewN ?_ _ | refine blk_drew ?_ | refine blk_alloc ?_ _)); exact BK268.out⟩,⟨by repeat (first | (with_reducible first | exact HB.out | apply below_alloc | apply pw_below_drewN | apply below_drew1 | refine below_set ?_ GE268.out) | exact HB.out)⟩⟩
           clear HC20
           try clear c1
           try clear c2
           try clear p2
           try clear c3
           try clear c3b0
           try clear c3b1
           try clear c4
           try clear c4b0
           try clear c4b1
           try clear p5
           try clear q5
           try clear hx5
           try clear qi5
           try clear c6
           try clear p6
           try clear c7
           try clear c7b0
           try clear c7b1
           try clear p8
           try clear q8
           try clear hx8
           try clear qi8
           try clear c9
           try clear c9b0
           try clear c10
           try clear c10b0
           try clear c11
           try clear c11b0
           try clear c11b1
           try clear c12
           try clear c12b0
           try clear c12b1
           try clear c13
           try clear c13b0
           try clear c13b1
           try clear c16
           try clear c16b0
           try clear c16b1
           try clear c17
           try clear c17b0
           try clear c17b1
           try clear c18
           try clear c18b0
           try clear c18b1
           try clear c28
           try clear c29
           try clear c29b0
           try clear hcz28_0
           try clear hcz28_1
           try clear hcz28_2
           try clear hcz28_3
           try clear hcz30_0
           try clear hcz30_1
           try clear hcz30_2
           try clear hcz30_3
           try clear hfz28_0
           try clear hfz28_1
           try clear hfz28_2
           try clear hfz28_3
           try clear hfz30_0
           try clear hfz30_1
           try clear hfz30_2
           try clear hfz30_3
           try clear p2
           try clear p5
           try clear p8
           try clear q5
           try clear q8
           obtain ⟨kq,x8_19,rfl,HA,HJ19,HO_4,BK268,HB⟩:=hcut
           cases kq with
           | zero => exact absurd HA.out (by simp [maquetteref13_Cells.j2])
           | succ kj19 =>
            have H:=HA.out
            clear HA
            simp only [maquetteref13_Cells.j2] at H
            by_cases c31 : (wrap64 ((wrap64 (x5_2 + 6)) + x8_19)) > (a0.size : Int)
            ·rw [if_pos c31] at H
             have c31b0 : decide ((a0.size : Int) < (wrap64 ((wrap64 (x5_2 + 6)) + x8_19))) = true:=decide_eq_true c31
             clear c31
             simp only [Option.some.injEq,Prod.mk.injEq] at H
             obtain ⟨rfl,rfl⟩:=H
             go_wp2
             go_ret2
             exact ⟨_,by first | rfl | (simp [errW_none,errW_some] <;> rfl) | (simp only [← hji15]; first | rfl | (simp [errW_none,errW_some] <;> rfl)) | (simp [*,errW_none,errW_some] <;> rfl),by first | exact Kd.R_nil _ _ _ _ _ | exact Kd.N_nil _ _ _ _ _ | exact Kd.V_nil _ _ _ _ _ | exact Kd.Q_nil _ _ _ _ _ | exact Kd.S_nil _ _ _ _ _,by repeat (first | (with_reducible first | exact HB.out | apply below_alloc | apply pw_below_drewN | apply below_drew1 | refine below_set ?_ GE268.out) | exact HB.out)⟩
            rw [if_neg c31] at H
            have c31b0 : decide ((a0.size : Int) < (wrap64 ((wrap64 (x5_2 + 6)) + x8_19))) = false:=decide_eq_false c31
            clear c31
            have HC32:=Aside0.mk H
            clear H
            have hcz33_0 : wc.cell? ⟨gb268,0,none⟩ = some (.int .i64 t266):=(blk_cell BK268.out 0).trans rfl
            have hcz33_1 : wc.cell? ⟨gb268,1,none⟩ = some (.int .i64 t267):=(blk_cell BK268.out 1).trans rfl
            have hcz33_2 : wc.cell? ⟨gb268,2,none⟩ = some (.int .i64 0):=(blk_cell BK268.out 2).trans rfl
            have hcz33_3 : wc.cell? ⟨gb268,3,none⟩ = some (.string (⟨#[]⟩ : ByteArray)):=(blk_cell BK268.out 3).trans rfl
            have hfz33_0:=blk_frozen BK268.out 0
            have hfz33_1:=blk_frozen BK268.out 1
            have hfz33_2:=blk_frozen BK268.out 2
            have hfz33_3:=blk_frozen BK268.out 3
            go_upto_if 60 with (fail)
            go_cut [] (fun wc => ∃ (kq : Nat) (x269002_31 : Int) (x269003_31 : ByteArray),Aside0 (maquetteref13_Cells.j3 kq a0 x4_2 (wrap64 (x5_2 + 6)) x6_2 x8_19 t266 t267 x269002_31 x269003_31 = some (r1,r2)) ∧ Aside0 (kq ≤ kj19) ∧ Aside0 (Kd.R k79 79 wc w.heap.size (fun k_ => k_ ≠ gb268) u4 x4_2) ∧ Aside0 (wc.heap[gb268]? = some (.cells #[.int .i64 t266,.int .i64 t267,.int .i64 x269002_31,.string x269003_31] 79 (0,0))) ∧ Aside0 (Below w.heap.size w wc))
            case first =>
             have H:=HC32.out
             clear HC32
             by_cases c34 : t267 ≤ 24
             ·rw [if_pos c34] at H
              have c34b0 : decide (t267 ≤ 24) = true:=decide_eq_true c34
              clear c34
              (first | rw [c34b0] | (simp only [i64_w,i32_w]; rw [c34b0]) | skip)
              obtain ⟨ji35,hji35⟩ : ∃ j_ : Int,(wrap64 (x5_2 + 6)) = j_:=⟨_,rfl⟩
              replace H : (if 0 ≤ (ji35) then (if (ji35) ≤ (wrap64 ((ji35) + x8_19)) then (if (wrap64 ((ji35) + x8_19)) ≤ (a0.size : Int) then (maquetteref13_Cells.j3 kj19 a0 x4_2 (ji35) x6_2 x8_19 t266 t267 0 (a0.extract ((ji35) : Int).toNat ((wrap64 ((ji35) + x8_19)) : Int).toNat)) else (none)) else (none)) else (none)) = some (r1,r2):=by first | (rw [hji35] at H; exact H) | (simp only [hji35] at H ⊢; exact H)
              (try rw [hji35] at c10b0)
              (try rw [hji35] at c17b0)
              (try rw [hji35] at c17b1)
              (try rw [hji35] at c17)
              (try rw [hji35] at c18b0)
              (try rw [hji35] at c18b1)
              (try rw [hji35] at c18)
              (try rw [hji35] at c31b0)
              have hji35w : (IntKind.i64.wrap (x5_2 + 6)) = ji35:=(i64_w _).trans hji35
              by_cases c36 : 0 ≤ (ji35)
              ·rw [if_pos c36] at H
               have c36b0:=eq_true c36
               have c36b1 : decide (0 ≤ (ji35)) = true:=decide_eq_true c36
               clear c36
               by_cases c37 : (ji35) ≤ (wrap64 ((ji35) + x8_19))
               ·rw [if_pos c37] at H
                have c37b0:=eq_true c37
                have c37b1 : decide ((ji35) ≤ (wrap64 ((ji35) + x8_19))) = true:=decide_eq_true c37
                by_cases c38 : (wrap64 ((ji35) + x8_19)) ≤ (a0.size : Int)
                ·rw [if_pos c38] at H
                 have c38b0:=eq_true c38
                 have c38b1 : decide ((wrap64 ((ji35) + x8_19)) ≤ (a0.size : Int)) = true:=decide_eq_true c38
                 have H':=Aside0.mk H
                 clear H
                 have hcz39_0 : wc.cell? ⟨gb268,0,none⟩ = some (.int .i64 t266):=(blk_cell BK268.out 0).trans rfl
                 have hcz39_1 : wc.cell? ⟨gb268,1,none⟩ = some (.int .i64 t267):=(blk_cell BK268.out 1).trans rfl
                 have hcz39_2 : wc.cell? ⟨gb268,2,none⟩ = some (.int .i64 0):=(blk_cell BK268.out 2).trans rfl
                 have hcz39_3 : wc.cell? ⟨gb268,3,none⟩ = some (.string (⟨#[]⟩ : ByteArray)):=(blk_cell BK268.out 3).trans rfl
                 have hfz39_0:=blk_frozen BK268.out 0
                 have hfz39_1:=blk_frozen BK268.out 1
                 have hfz39_2:=blk_frozen BK268.out 2
                 have hfz39_3:=blk_frozen BK268.out 3
                 subst hji35
                 go_wp2
                 go_meet
                 case rel => exact ⟨_,(0),(a0.extract ((wrap64 (x5_2 + 6)) : Int).toNat ((wrap64 ((wrap64 (x5_2 + 6)) + x8_19)) : Int).toNat),H',⟨by have:=HJ1.out; have:=HK2.out; have:=HJ19.out; first | omega | exact Nat.le_refl _⟩,⟨by (with_reducible repeat (first | apply Kd.R_alloc | apply Kd.R_drewN | apply Kd.R_drew)); exact Kd.R_mono (Kd.R_far (p:=⟨gb268,3,none⟩) (Kd.R_mono HO_4.out (fun k_ hk => (⟨hk,hk⟩ : _ ∧ k_ ≠ gb268))) (fun _ hk => hk.2) (.string (a0.extract ((wrap64 (x5_2 + 6)) : Int).toNat ((wrap64 ((wrap64 (x5_2 + 6)) + x8_19)) : Int).toNat))) (fun _ hk => hk.1)⟩,⟨by (with_reducible repeat (first | refine blk_drewN ?_ _ | refine blk_drew ?_ | refine blk_alloc ?_ _)); refine blk_put (cs:=#[.int .i64 t266,.int .i64 t267,.int .i64 0,.string (⟨#[]⟩ : ByteArray)]) ?_ 3 _ rfl; (with_reducible repeat (first | refine blk_drewN ?_ _ | refine blk_drew ?_ | refine blk_alloc ?_ _)); exact BK268.out⟩,⟨by repeat (first | (with_reducible first | exact HB.out | apply below_alloc | apply pw_below_drewN | apply below_drew1 | refine below_set ?_ GE268.out) | exact HB.out)⟩⟩
                rw [if_neg c38] at H
                exact absurd H (by simp)
               rw [if_neg c37] at H
               exact absurd H (by simp)
              rw [if_neg c36] at H
              exact absurd H (by simp)
             rw [if_neg c34] at H
             have c34b0 : decide (t267 ≤ 24) = false:=decide_eq_false c34
             clear c34
             (first | rw [c34b0] | (simp only [i64_w,i32_w]; rw [c34b0]) | skip)
             obtain ⟨ji40,hji40⟩ : ∃ j_ : Int,(wrap64 (x5_2 + 6)) = j_:=⟨_,rfl⟩
             replace H : (if 0 ≤ (ji40) then (if (ji40) ≤ (wrap64 ((ji40) + x8_19)) then (if (wrap64 ((ji40) + x8_19)) ≤ (a0.size : Int) then ((maquetteref13_Of.f kj19 (a0.extract ((ji40) : Int).toNat ((wrap64 ((ji40) + x8_19)) : Int).toNat)).bind fun t269 => (maquetteref13_Cells.j3 kj19 a0 x4_2 (ji40) x6_2 x8_19 t266 t267 t269 (⟨#[]⟩ : ByteArray))) else (none)) else (none)) else (none)) = some (r1,r2):=by first | (rw [hji40] at H; exact H) | (simp only [hji40] at H ⊢; exact H)
             (try rw [hji40] at c10b0)
             (try rw [hji40] at c17b0)
             (try rw [hji40] at c17b1)
             (try rw [hji40] at c17)
             (try rw [hji40] at c18b0)
             (try rw [hji40] at c18b1)
             (try rw [hji40] at c18)
             (try rw [hji40] at c31b0)
             have hji40w : (IntKind.i64.wrap (x5_2 + 6)) = ji40:=(i64_w _).trans hji40
             by_cases c41 : 0 ≤ (ji40)
             ·rw [if_pos c41] at H
              have c41b0:=eq_true c41
              have c41b1 : decide (0 ≤ (ji40)) = true:=decide_eq_true c41
              clear c41
              by_cases c42 : (ji40) ≤ (wrap64 ((ji40) + x8_19))
              ·rw [if_pos c42] at H
               have c42b0:=eq_true c42
               have c42b1 : decide ((ji40) ≤ (wrap64 ((ji40) + x8_19))) = true:=decide_eq_true c42
               by_cases c43 : (wrap64 ((ji40) + x8_19)) ≤ (a0.size : Int)
               ·rw [if_pos c43] at H
                have c43b0:=eq_true c43
                have c43b1 : decide ((wrap64 ((ji40) + x8_19)) ≤ (a0.size : Int)) = true:=decide_eq_true c43
                replace H:=Option.bind_eq_some_iff.mp H
                obtain ⟨t269,A440,H⟩:=H
                replace H : (maquetteref13_Cells.j3 kj19 a0 x4_2 (ji40) x6_2 x8_19 t266 t267 t269 (⟨#[]⟩ : ByteArray)) = some (r1,r2):=H
                have A44:=Aside0.mk A440
                clear A440
                have H':=Aside0.mk H
                clear H
                subst hji40
                go_wp2_with (first | ((with_reducible refine gate_callee (f:=44) rfl ?_); refine goesL_ (some 74) rfl rfl Try.func44 (by kernel_rfl) rfl #[.string (a0.extract ((wrap64 (x5_2 + 6)) : Int).toNat ((wrap64 ((wrap64 (x5_2 + 6)) + x8_19)) : Int).toNat)] rfl (by (try simp only [List.map_toArray,List.map_cons,List.map_nil]); first | done | (simp only [hji40]; rfl) | rfl | (simp only [List.length_drop,List.length_take]; rfl) | (simp only [ByteArray.size_append,Int.natCast_add]; rfl) | (simp [ByteArray.size_append,Int.add_assoc]; done)) ?_; (with_reducible refine (maquetteref13_Of.calls kj19 (a0.extract ((wrap64 (x5_2 + 6)) : Int).toNat ((wrap64 ((wrap64 (x5_2 + 6)) + x8_19)) : Int).toNat) t269 _ A44.out).mono ?_); rintro e w' ⟨rfl,⟨nd,rfl⟩⟩; refine ⟨_,rfl,?_⟩; (try (rw [drewN_self wc]; generalize hq_ : World.drewN wc _ = wc; have n0_ : Aside0 (Kd.R k79 79 wc w.heap.size (fun k_ => k_ ≠ gb268) u4 x4_2):=⟨by rw [← hq_]; exact (by (with_reducible repeat (first | apply Kd.R_alloc | apply Kd.R_drewN | apply Kd.R_drew)); exact HO_4.out)⟩; have n1_ : Aside0 (wc.heap[gb268]? = some (.cells #[.int .i64 t266,.int .i64 t267,.int .i64 0,.string (⟨#[]⟩ : ByteArray)] 79 (0,0))):=⟨by rw [← hq_]; exact (by (with_reducible repeat (first | refine blk_drewN ?_ _ | refine blk_drew ?_ | refine blk_alloc ?_ _)); exact BK268.out)⟩; have n2_ : Aside0 (Below w.heap.size w wc):=⟨by rw [← hq_]; exact (by repeat (first | (with_reducible first | exact HB.out | apply below_alloc | apply pw_below_drewN | apply below_drew1 | refine below_set ?_ GE268.out) | exact HB.out))⟩; clear HO_4 BK268 HB hq_; have HO_4:=n0_; have BK268:=n1_; have HB:=n2_; clear n0_ n1_ n2_)); have hcz45_0 : wc.cell? ⟨gb268,0,none⟩ = some (.int .i64 t266):=(blk_cell BK268.out 0).trans rfl; have hcz45_1 : wc.cell? ⟨gb268,1,none⟩ = some (.int .i64 t267):=(blk_cell BK268.out 1).trans rfl; have hcz45_2 : wc.cell? ⟨gb268,2,none⟩ = some (.int .i64 0):=(blk_cell BK268.out 2).trans rfl; have hcz45_3 : wc.cell? ⟨gb268,3,none⟩ = some (.string (⟨#[]⟩ : ByteArray)):=(blk_cell BK268.out 3).trans rfl; have hfz45_0:=blk_frozen BK268.out 0; have hfz45_1:=blk_frozen BK268.out 1; have hfz45_2:=blk_frozen BK268.out 2; have hfz45_3:=blk_frozen BK268.out 3))
                go_meet
                case rel => exact ⟨_,(t269),((⟨#[]⟩ : ByteArray)),H',⟨by have:=HJ1.out; have:=HK2.out; have:=HJ19.out; first | omega | exact Nat.le_refl _⟩,⟨by (with_reducible repeat (first | apply Kd.R_alloc | apply Kd.R_drewN | apply Kd.R_drew)); exact Kd.R_mono (Kd.R_far (p:=⟨gb268,2,none⟩) (Kd.R_mono HO_4.out (fun k_ hk => (⟨hk,hk⟩ : _ ∧ k_ ≠ gb268))) (fun _ hk => hk.2) (.int .i64 t269)) (fun _ hk => hk.1)⟩,⟨by (with_reducible repeat (first | refine blk_drewN ?_ _ | refine blk_drew ?_ | refine blk_alloc ?_ _)); refine blk_put (cs:=#[.int .i64 t266,.int .i64 t267,.int .i64 0,.string (⟨#[]⟩ : ByteArray)]) ?_ 2 _ rfl; (with_reducible repeat (first | refine blk_drewN ?_ _ | refine blk_drew ?_ | refine blk_alloc ?_ _)); exact BK268.out⟩,⟨by repeat (first | (with_reducible first | exact HB.out | apply below_alloc | apply pw_below_drewN | apply below_drew1 | refine below_set ?_ GE268.out) | exact HB.out)⟩⟩
               rw [if_neg c43] at H
               exact absurd H (by simp)
              rw [if_neg c42] at H
              exact absurd H (by simp)
             rw [if_neg c41] at H
             exact absurd H (by simp)
            clear HC32
            try clear c1
            try clear c2
            try clear p2
            try clear c3
            try clear c3b0
            try clear c3b1
            try clear c4
            try clear c4b0
            try clear c4b1
            try clear p5
            try clear q5
            try clear hx5
            try clear qi5
            try clear c6
            try clear p6
            try clear c7
            try clear c7b0
            try clear c7b1
            try clear p8
            try clear q8
            try clear hx8
            try clear qi8
            try clear c9
            try clear c9b0
            try clear c10
            try clear c10b0
            try clear c11
            try clear c11b0
            try clear c11b1
            try clear c12
            try clear c12b0
            try clear c12b1
            try clear c13
            try clear c13b0
            try clear c13b1
            try clear c16
            try clear c16b0
            try clear c16b1
            try clear c17
            try clear c17b0
            try clear c17b1
            try clear c18
            try clear c18b0
            try clear c18b1
            try clear c28
            try clear c29
            try clear c29b0
            try clear c31
            try clear c31b0
            try clear c34
            try clear c34b0
            try clear c36
            try clear c36b0
            try clear c36b1
            try clear c37
            try clear c37b0
            try clear c37b1
            try clear c38
            try clear c38b0
            try clear c38b1
            try clear c41
            try clear c41b0
            try clear c41b1
            try clear c42
            try clear c42b0
            try clear c42b1
            try clear c43
            try clear c43b0
            try clear c43b1
            try clear c44
            try clear hcz28_0
            try clear hcz28_1
            try clear hcz28_2
            try clear hcz28_3
            try clear hcz30_0
            try clear hcz30_1
            try clear hcz30_2
            try clear hcz30_3
            try clear hcz33_0
            try clear hcz33_1
            try clear hcz33_2
            try clear hcz33_3
            try clear hcz39_0
            try clear hcz39_1
            try clear hcz39_2
            try clear hcz39_3
            try clear hcz45_0
            try clear hcz45_1
            try clear hcz45_2
            try clear hcz45_3
            try clear hfz28_0
            try clear hfz28_1
            try clear hfz28_2
            try clear hfz28_3
            try clear hfz30_0
            try clear hfz30_1
            try clear hfz30_2
            try clear hfz30_3
            try clear hfz33_0
            try clear hfz33_1
            try clear hfz33_2
            try clear hfz33_3
            try clear hfz39_0
            try clear hfz39_1
            try clear hfz39_2
            try clear hfz39_3
            try clear hfz45_0
            try clear hfz45_1
            try clear hfz45_2
            try clear hfz45_3
            try clear p2
            try clear p5
            try clear p6
            try clear p8
            try clear q5
            try clear q8
            obtain ⟨kq,x269002_31,x269003_31,HA,HJ31,HO_4,BK268,HB⟩:=hcut
            cases kq with
            | zero => exact absurd HA.out (by simp [maquetteref13_Cells.j3])
            | succ kj31 =>
             have H:=HA.out
             clear HA
             simp only [maquetteref13_Cells.j3] at H
             by_cases c46 : x4_2.length < 3518437208883
             ·rw [if_pos c46] at H
              have LMc46:=Aside0.mk c46
              clear c46
              obtain ⟨y270,hy270⟩ : ∃ y_ : List (S79),y_ = (x4_2 ++ [(⟨t266,t267,x269002_31,x269003_31⟩ : S79)]):=⟨_,rfl⟩
              replace H : (maquetteref13_Cells.l0 kj31 a0 y270 (wrap64 ((wrap64 (x5_2 + 6)) + x8_19)) (wrap64 (x6_2 + 1))) = some (r1,r2):=by first | (rw [hy270]; with_reducible exact H) | (have H2_:=(Option.bind_some _ _).symm.trans H; rw [hy270]; with_reducible exact H2_) | (have H2_:=(Option.bind_some _ _).symm.trans H; with_reducible exact H2_) | with_reducible exact H | (rw [hy270]; exact H) | exact H
              have Ny270:=Aside0.mk hy270
              clear hy270
              have H':=Aside0.mk H
              clear H
              have hcz47_0 : wc.cell? ⟨gb268,0,none⟩ = some (.int .i64 t266):=(blk_cell BK268.out 0).trans rfl
              have hcz47_1 : wc.cell? ⟨gb268,1,none⟩ = some (.int .i64 t267):=(blk_cell BK268.out 1).trans rfl
              have hcz47_2 : wc.cell? ⟨gb268,2,none⟩ = some (.int .i64 x269002_31):=(blk_cell BK268.out 2).trans rfl
              have hcz47_3 : wc.cell? ⟨gb268,3,none⟩ = some (.string x269003_31):=(blk_cell BK268.out 3).trans rfl
              have hfz47_0:=blk_frozen BK268.out 0
              have hfz47_1:=blk_frozen BK268.out 1
              have hfz47_2:=blk_frozen BK268.out 2
              have hfz47_3:=blk_frozen BK268.out 3
              go_wp2_with (first | ((with_reducible refine gate_builtin (b:=.append) (xs:=#[.tmp 79,.tmp 81]) rfl ?_); at_builtin; refine Kd.R_append k79 (w0:=w) w.heap.size rfl (.tmp 79) (.tmp 81) 31 79 (.agg #[(.int .i64 0),(.int .i64 0),(.int .i64 0),(.string ⟨#[]⟩)]) 40 rfl Try.underlying31 info79 rfl (by decide) (by omega) u4 x4_2 (⟨t266,t267,x269002_31,x269003_31⟩ : S79) [.int .i64 t266,.int .i64 t267,.int .i64 x269002_31,.string x269003_31] (fun k_ => k_ ≠ gb268) (fun _ => False) rfl rfl ?aP (fun _ hk => hk.elim) ?aF ?aO ?aB ?aS ?aL ?_; (case aP => exact k79_mkM _ _ _ (⟨t266,t267,x269002_31,x269003_31⟩ : S79)); (case aB => exact (by repeat (first | (with_reducible first | exact HB.out | apply below_alloc | apply pw_below_drewN | apply below_drew1 | refine below_set ?_ GE268.out) | exact HB.out))); (case aF => exact (fun k_ hk => Kd.freshB (g:=gb268) (o:=.cells #[.int .i64 t266,.int .i64 t267,.int .i64 x269002_31,.string x269003_31] 79 (0,0)) (by (with_reducible repeat (first | refine blk_drewN ?_ _ | refine blk_drew ?_ | refine blk_alloc ?_ _)); exact BK268.out) k_ hk)); (case aO => exact (by (with_reducible repeat (first | apply Kd.R_alloc | apply Kd.R_drewN | apply Kd.R_drew)); exact HO_4.out)); (case aS => exact (below_size (by repeat (first | (with_reducible first | exact HB.out | apply below_alloc | apply pw_below_drewN | apply below_drew1 | refine below_set ?_ GE268.out) | exact HB.out)))); (case aL => have:=LMc46.out; omega); intro v271 w48 ho hb hg hat; rw [← Ny270.out] at ho; have n0_:=Aside0.mk (blk_grown (g:=gb268) (o:=.cells #[.int .i64 t266,.int .i64 t267,.int .i64 x269002_31,.string x269003_31] 79 (0,0)) (by (with_reducible repeat (first | refine blk_drewN ?_ _ | refine blk_drew ?_ | refine blk_alloc ?_ _)); exact BK268.out) hg (Kd.R_away HO_4.out (fun _ hk => hk))); have n1_:=Aside0.mk (hb); have n2_:=Aside0.mk (ho); clear BK268; clear HB; clear HO_4; have BK268:=n0_; have HB:=n1_; have HO272:=n2_; clear n0_ n1_ n2_; clear ho hb hg hat))
              go_roundg kj31
              case measure => have:=HJ1.out; have:=HK2.out; have:=HJ19.out; have:=HJ31.out; omega
              case rel => exact ⟨(y270),(wrap64 ((wrap64 (x5_2 + 6)) + x8_19)),(wrap64 (x6_2 + 1)),(by first | rfl | (simp; done) | (simp [*]; done)),(by first | rfl | (simp; done) | (simp [*]; done)),H',⟨by have:=HJ1.out; have:=HK2.out; have:=HJ19.out; have:=HJ31.out; omega⟩,⟨by (with_reducible repeat (first | apply Kd.R_alloc | apply Kd.R_drewN | apply Kd.R_drew)); exact Kd.R_mono HO272.out (fun _ hk => trivial)⟩,⟨by repeat (first | (with_reducible first | exact HB.out | apply below_alloc | apply pw_below_drewN | apply below_drew1 | refine below_set ?_ GE268.out) | exact HB.out)⟩⟩
             rw [if_neg c46] at H
             exact absurd H (by simp)
          rw [if_neg c18] at H
          exact absurd H (by simp)
         rw [if_neg c17] at H
         exact absurd H (by simp)
        rw [if_neg c16] at H
        exact absurd H (by simp)
       rw [if_neg c13] at H
       exact absurd H (by simp)
      rw [if_neg c12] at H
      exact absurd H (by simp)
     rw [if_neg c11] at H
     exact absurd H (by simp)
    rw [if_neg c9] at H
    have c9b0 : decide (x6_2 < (wrap64 (bt a0 1))) = false:=decide_eq_false c9
    clear c9
    replace H:=Option.bind_eq_some_iff.mp H
    obtain ⟨⟨t273,t274⟩,A490,H⟩:=H
    replace H : (if t274 = true then (if t273.toList = a0.toList then (some (x4_2,true)) else (some (([] : List (S79)),false))) else (some (([] : List (S79)),false))) = some (r1,r2):=H
    have A49:=Aside0.mk A490
    clear A490
    by_cases c50 : t274 = true
    ·subst c50
     have H1 : (if t273.toList = a0.toList then (some (x4_2,true)) else (some (([] : List (S79)),false))) = some (r1,r2):=by rw [if_pos rfl] at H; exact H
     clear H
     have H:=H1
     clear H1
     by_cases c51 : t273.toList = a0.toList
     ·rw [if_pos c51] at H
      have c51b0 : (t273.toList == a0.toList) = true:=beq_iff_eq.mpr c51
      have c51b1 : (t273.toList != a0.toList) = false:=bne_eq_false_iff_eq.mpr c51
      clear c51
      simp only [Option.some.injEq,Prod.mk.injEq] at H
      obtain ⟨rfl,rfl⟩:=H
      have p8 : 0 ≤ (1 : Int):=(by omega)
      have q8 : 1 < a0.size:=(by have : (1 : Int) < (a0.size : Int):=of_decide_eq_true (by first | (with_reducible assumption) | assumption); omega)
      have hx8 : ∀ h : 1 < a0.size,((a0[1]'h).toNat : Int) = bt a0 1:=bt_at a0 1
      clear p8
      have qi8 : (1 < (a0.size : Int)) = True:=eq_true (of_decide_eq_true (by first | (with_reducible assumption) | assumption))
      replace q8:=eq_true q8
      obtain ⟨Ao52,co52,eo52⟩:=Kd.R_slice HO_4.out
      subst eo52
      go_wp2_with (first | ((with_reducible refine gate_callee (f:=24) rfl ?_); refine goesL_ (some 85) rfl rfl Try.func24 (by kernel_rfl) rfl #[.slice Ao52 x4_2.length co52] rfl (by (try simp only [List.map_toArray,List.map_cons,List.map_nil]); first | done | rfl | (simp only [List.length_drop,List.length_take]; rfl) | (simp only [ByteArray.size_append,Int.natCast_add]; rfl) | (simp [ByteArray.size_append,Int.add_assoc]; done)) ?_; (with_reducible refine (maquetteref13_Leaf.calls k2 _ _ x4_2 t273 true _ ?side1 ?side2 A49.out).mono ?_); (case side1 => repeat (first | exact (Kd.R_reads' HO_4.out).2.2 | (with_reducible refine Kd.C_alloc ?_ _) | (with_reducible refine Kd.C_drewN ?_ _) | (with_reducible refine Kd.C_drew ?_))); (case side2 => exact (Kd.R_reads' HO_4.out).2.1); rintro e w53 ⟨rfl,hb⟩; refine ⟨_,rfl,?_⟩; have n0_:=Aside0.mk (Kd.R_below (by (with_reducible repeat (first | apply Kd.R_alloc | apply Kd.R_drewN | apply Kd.R_drew)); exact HO_4.out) hb); have n1_:=Aside0.mk (below_step (by repeat (first | (with_reducible first | exact HB.out | apply below_alloc | apply pw_below_drewN | apply below_drew1) | exact HB.out)) hb); clear HO_4; clear HB; have HO_4:=n0_; have HB:=n1_; clear n0_ n1_; (try clear hb); (try clear hb2); (try clear hk); (try clear hi)))
      go_ret2
      exact ⟨_,by first | rfl | (simp [errW_none,errW_some] <;> rfl) | (simp [*,errW_none,errW_some] <;> rfl),by (with_reducible repeat (first | apply Kd.R_alloc | apply Kd.R_drewN | apply Kd.R_drew)); exact HO_4.out,by repeat (first | (with_reducible first | exact HB.out | apply below_alloc | apply pw_below_drewN | apply below_drew1) | exact HB.out)⟩
     rw [if_neg c51] at H
     have c51b0 : (t273.toList == a0.toList) = false:=beq_eq_false_iff_ne.mpr c51
     have c51b1 : (t273.toList != a0.toList) = true:=bne_iff_ne.mpr c51
     simp only [Option.some.injEq,Prod.mk.injEq] at H
     obtain ⟨rfl,rfl⟩:=H
     have p8 : 0 ≤ (1 : Int):=(by omega)
     have q8 : 1 < a0.size:=(by have : (1 : Int) < (a0.size : Int):=of_decide_eq_true (by first | (with_reducible assumption) | assumption); omega)
     have hx8 : ∀ h : 1 < a0.size,((a0[1]'h).toNat : Int) = bt a0 1:=bt_at a0 1
     clear p8
     have qi8 : (1 < (a0.size : Int)) = True:=eq_true (of_decide_eq_true (by first | (with_reducible assumption) | assumption))
     replace q8:=eq_true q8
     obtain ⟨Ao54,co54,eo54⟩:=Kd.R_slice HO_4.out
     subst eo54
     go_wp2_with (first | ((with_reducible refine gate_callee (f:=24) rfl ?_); refine goesL_ (some 85) rfl rfl Try.func24 (by kernel_rfl) rfl #[.slice Ao54 x4_2.length co54] rfl (by (try simp only [List.map_toArray,List.map_cons,List.map_nil]); first | done | rfl | (simp only [List.length_drop,List.length_take]; rfl) | (simp only [ByteArray.size_append,Int.natCast_add]; rfl) | (simp [ByteArray.size_append,Int.add_assoc]; done)) ?_; (with_reducible refine (maquetteref13_Leaf.calls k2 _ _ x4_2 t273 true _ ?side1 ?side2 A49.out).mono ?_); (case side1 => repeat (first | exact (Kd.R_reads' HO_4.out).2.2 | (with_reducible refine Kd.C_alloc ?_ _) | (with_reducible refine Kd.C_drewN ?_ _) | (with_reducible refine Kd.C_drew ?_))); (case side2 => exact (Kd.R_reads' HO_4.out).2.1); rintro e w55 ⟨rfl,hb⟩; refine ⟨_,rfl,?_⟩; have n0_:=Aside0.mk (Kd.R_below (by (with_reducible repeat (first | apply Kd.R_alloc | apply Kd.R_drewN | apply Kd.R_drew)); exact HO_4.out) hb); have n1_:=Aside0.mk (below_step (by repeat (first | (with_reducible first | exact HB.out | apply below_alloc | apply pw_below_drewN | apply below_drew1) | exact HB.out)) hb); clear HO_4; clear HB; have HO_4:=n0_; have HB:=n1_; clear n0_ n1_; (try clear hb); (try clear hb2); (try clear hk); (try clear hi)))
     go_ret2
     exact ⟨_,by first | rfl | (simp [errW_none,errW_some] <;> rfl) | (simp [*,errW_none,errW_some] <;> rfl),by first | exact Kd.R_nil _ _ _ _ _ | exact Kd.N_nil _ _ _ _ _ | exact Kd.V_nil _ _ _ _ _ | exact Kd.Q_nil _ _ _ _ _ | exact Kd.S_nil _ _ _ _ _,by repeat (first | (with_reducible first | exact HB.out | apply below_alloc | apply pw_below_drewN | apply below_drew1) | exact HB.out)⟩
    replace c50:=Bool.eq_false_iff.mpr c50
    subst c50
    have H1 : (some (([] : List (S79)),false)) = some (r1,r2):=by rw [if_neg (show ¬ (false = true) by decide)] at H; exact H
    clear H
    have H:=H1
    clear H1
    simp only [Option.some.injEq,Prod.mk.injEq] at H
    obtain ⟨rfl,rfl⟩:=H
    have p8 : 0 ≤ (1 : Int):=(by omega)
    have q8 : 1 < a0.size:=(by have : (1 : Int) < (a0.size : Int):=of_decide_eq_true (by first | (with_reducible assumption) | assumption); omega)
    have hx8 : ∀ h : 1 < a0.size,((a0[1]'h).toNat : Int) = bt a0 1:=bt_at a0 1
    clear p8
    have qi8 : (1 < (a0.size : Int)) = True:=eq_true (of_decide_eq_true (by first | (with_reducible assumption) | assumption))
    replace q8:=eq_true q8
    obtain ⟨Ao56,co56,eo56⟩:=Kd.R_slice HO_4.out
    subst eo56
    go_wp2_with (first | ((with_reducible refine gate_callee (f:=24) rfl ?_); refine goesL_ (some 85) rfl rfl Try.func24 (by kernel_rfl) rfl #[.slice Ao56 x4_2.length co56] rfl (by (try simp only [List.map_toArray,List.map_cons,List.map_nil]); first | done | rfl | (simp only [List.length_drop,List.length_take]; rfl) | (simp only [ByteArray.size_append,Int.natCast_add]; rfl) | (simp [ByteArray.size_append,Int.add_assoc]; done)) ?_; (with_reducible refine (maquetteref13_Leaf.calls k2 _ _ x4_2 t273 false _ ?side1 ?side2 A49.out).mono ?_); (case side1 => repeat (first | exact (Kd.R_reads' HO_4.out).2.2 | (with_reducible refine Kd.C_alloc ?_ _) | (with_reducible refine Kd.C_drewN ?_ _) | (with_reducible refine Kd.C_drew ?_))); (case side2 => exact (Kd.R_reads' HO_4.out).2.1); rintro e w57 ⟨rfl,hb⟩; refine ⟨_,rfl,?_⟩; have n0_:=Aside0.mk (Kd.R_below (by (with_reducible repeat (first | apply Kd.R_alloc | apply Kd.R_drewN | apply Kd.R_drew)); exact HO_4.out) hb); have n1_:=Aside0.mk (below_step (by repeat (first | (with_reducible first | exact HB.out | apply below_alloc | apply pw_below_drewN | apply below_drew1) | exact HB.out)) hb); clear HO_4; clear HB; have HO_4:=n0_; have HB:=n1_; clear n0_ n1_; (try clear hb); (try clear hb2); (try clear hk); (try clear hi)))
    go_ret2
    exact ⟨_,by first | rfl | (simp [errW_none,errW_some] <;> rfl) | (simp [*,errW_none,errW_some] <;> rfl),by first | exact Kd.R_nil _ _ _ _ _ | exact Kd.N_nil _ _ _ _ _ | exact Kd.V_nil _ _ _ _ _ | exact Kd.Q_nil _ _ _ _ _ | exact Kd.S_nil _ _ _ _ _,by repeat (first | (with_reducible first | exact HB.out | apply below_alloc | apply pw_below_drewN | apply below_drew1) | exact HB.out)⟩
   rw [if_neg c7] at H
   exact absurd H (by simp)

end Go.Proofs.Ytlgmabibcpkdmaa.PAll
end
section
namespace Go.Proofs.Ytlgmabibcpkdmaa.PAll
open Go.RowKit Go.Proofs.YtlgmabibcpkdmaaW.PrintWords Go.Proofs.YtlgmabibcpkdmaaW.PrintLast Go.Proofs.YtlgmabibcpkdmaaW.PrintMore
open Go.Proofs.Ytlgmabibcpkdmaa.V (byI byL byL_length byL_snoc strOf_bytesOf strOf_append okK okP okR ahK idxV idxB idxA idxB_length lfT lfV lfB lfB_snoc lfA lfT_length okR_size all_at fullA zer)
set_option linter.unusedSimpArgs false
set_option linter.unusedVariables false
theorem rd79_map (l : List S52) (i : Int) : rd_T79 (l.map cvC) i = cvC (rd_T52 l i):=by
  unfold rd_T79 rd_T52
  simp only [List.getD,List.getElem?_map]
  cases l[i.toNat]? <;> rfl
def kyC (l : List S52) (i : Int) : Int := (rd_T52 l i).f0
def szC (l : List S52) (i : Int) : Int := (rd_T52 l i).f1
def pgC (l : List S52) (i : Int) : Int := (rd_T52 l i).f2
def btC (l : List S52) (i : Int) : ByteArray := (rd_T52 l i).f3
def stC (l : List S52) (j : Nat) : Bool := okK (kyC l j) (ahK (kyC l) j) && okR (szC l j) (pgC l j) (btC l j)
def lbC (l : List S52) (j : Nat) : List Int := lfB (kyC l) (szC l) (pgC l) (btC l) l.length j
theorem leafV_iff (l : List S52) : leafV l = true ↔ ∀ j, j < l.length → stC l j = true := by
  unfold leafV lfV
  rw [all_at]
  rfl
theorem leafOk_iff (l : List S52) : leafOk l = true ↔ l.length ≤ 128 ∧ (∀ j, j < l.length → stC l j = true) ∧ (leafL l).length ≤ 128 := by
  unfold leafOk
  rw [Bool.and_eq_true, Bool.and_eq_true, decide_eq_true_eq, decide_eq_true_eq, leafV_iff]
theorem lbC_snoc (l : List S52) (j : Nat) : lbC l (j + 1) = lbC l j ++ (byL (kyC l j) 4 4 ++ (byL (szC l j) 2 2 ++ (bytesOf (btC l j) ++ lfT (szC l j) (pgC l j)))) := lfB_snoc _ _ _ _ _ _
theorem lbC_len (l : List S52) (j : Nat) (h : ∀ i, i < j → stC l i = true) : 2 + 6 * j ≤ (lbC l j).length ∧ (lbC l j).length ≤ 2 + 32 * j := by
  induction j with
  | zero => exact ⟨Nat.le_refl _, Nat.le_refl _⟩
  | succ j ih =>
    have ih := ih fun i hi => h i (by omega)
    have hs := h j (by omega)
    unfold stC at hs
    rw [Bool.and_eq_true] at hs
    have h1 := okR_size hs.2
    have h2 := lfT_length (szC l j) (pgC l j)
    rw [lbC_snoc]
    simp only [List.length_append, byL_length, bytesOf_len]
    omega
def fstC (l : List S52) (j : Nat) : Bool := okK (kyC l j) (ahK (kyC l) j) && (decide (0 ≤ szC l j) && decide (szC l j ≤ 900))
theorem fstC_of {l : List S52} {j : Nat} (h : stC l j = true) : fstC l j = true := by
  unfold stC at h
  unfold fstC
  rw [Bool.and_eq_true] at h ⊢
  refine ⟨h.1, ?_⟩
  have h2 := h.2
  unfold okR at h2
  rw [Bool.and_eq_true, decide_eq_true_eq, decide_eq_true_eq]
  split at h2
  · simp at h2; omega
  · simp at h2; omega
theorem rleaf_step (l : List S52) (s : ByteArray) (k j : Nat) (hj : j < l.length) (hl : l.length ≤ 1000) (hp : ∀ i : Nat, i < j → okK (kyC l i) (ahK (kyC l) i) = true) :
    maquetteref13_Leaf.l0 (k + 1) (l.map cvC) s (j : Int) = maquetteref13_Leaf.j1 k (l.map cvC) s (j : Int) (!(fstC l j)) (kyC l j) (szC l j) (pgC l j) (btC l j) := by
  have hk := key_ahead (kyC l) j hp
  simp only [maquetteref13_Leaf.l0, List.length_map, rd79_map, rkey_f, Option.bind_some]
  unfold fstC
  rw [hk, if_pos (by omega), if_pos (by omega)]
  obtain ⟨J, hJ⟩ : ∃ J, J = fun b => maquetteref13_Leaf.j1 k (l.map cvC) s (j : Int) b (kyC l j) (szC l j) (pgC l j) (btC l j) := ⟨_, rfl⟩
  have hJ' : ∀ b, maquetteref13_Leaf.j1 k (l.map cvC) s (j : Int) b (cvC (rd_T52 l (j : Int))).f0 (cvC (rd_T52 l (j : Int))).f1 (cvC (rd_T52 l (j : Int))).f2 (cvC (rd_T52 l (j : Int))).f3 = J b := fun b => by rw [hJ]; rfl
  have hJ2 : ∀ b, maquetteref13_Leaf.j1 k (l.map cvC) s (j : Int) b (kyC l j) (szC l j) (pgC l j) (btC l j) = J b := fun b => by rw [hJ]
  have hz : (if szC l j < 0 then J true else J (decide (szC l j > 900))) = J (!(decide (0 ≤ szC l j) && decide (szC l j ≤ 900))) := by
    by_cases h1 : szC l j < 0
    · rw [if_pos h1, decide_eq_false (show ¬ 0 ≤ szC l j by omega)]; rfl
    · rw [if_neg h1, decide_eq_true (show 0 ≤ szC l j by omega)]
      by_cases h2 : szC l j > 900
      · rw [decide_eq_true h2, decide_eq_false (show ¬ szC l j ≤ 900 by omega)]; rfl
      · rw [decide_eq_false h2, decide_eq_true (show szC l j ≤ 900 by omega)]; rfl
  simp only [hJ']
  rw [hJ2]
  show (if okQ (kyC l j) = true then (if (j : Int) > 0 then (if 0 ≤ wrap64 ((j : Int) - 1) then (if wrap64 ((j : Int) - 1) < (l.length : Int) then (if kyC l (wrap64 ((j : Int) - 1)) ≥ kyC l j then J true else (if szC l j < 0 then J true else J (decide (szC l j > 900)))) else none) else none) else (if szC l j < 0 then J true else J (decide (szC l j > 900)))) else J true) = _
  rw [hz]
  cases h1 : okQ (kyC l j) with
  | false => rfl
  | true =>
    rw [if_pos rfl]
    by_cases h3 : (j : Int) > 0
    · have hw : wrap64 ((j : Int) - 1) = (j : Int) - 1 := wrap64_id (by omega) (by omega)
      rw [if_pos h3, hw, if_pos (by omega), if_pos (by omega), decide_eq_true h3]
      by_cases h4 : kyC l ((j : Int) - 1) ≥ kyC l j
      · rw [if_pos h4, decide_eq_true h4]; rfl
      · rw [if_neg h4, decide_eq_false h4]; rfl
    · rw [if_neg h3, decide_eq_false h3]; rfl
theorem rleaf_j1 (l : List S52) (k j : Nat) (hk : 6 ≤ k) (hj : j < l.length) (hl : l.length ≤ 200) (h : stC l j = true) (hp : ∀ i, i < j → stC l i = true) :
    maquetteref13_Leaf.j1 (k + 1) (l.map cvC) (strOfNums (lbC l j)) (j : Int) false (kyC l j) (szC l j) (pgC l j) (btC l j) = maquetteref13_Leaf.l0 k (l.map cvC) (strOfNums (lbC l (j + 1))) ((j + 1 : Nat) : Int) := by
  have hb := (lbC_len l j hp).2
  have hs := h
  unfold stC at hs
  rw [Bool.and_eq_true] at hs
  have hR := hs.2
  have hsz := okR_size hR
  have hw : wrap64 ((j : Int) + 1) = ((j + 1 : Nat) : Int) := by rw [wrap64_id (by omega) (by omega)]; omega
  simp only [maquetteref13_Leaf.j1]
  rw [if_neg (by decide), big_k _ 4 (by decide) 4 rfl k (by omega), Option.bind_some, if_pos (by rw [strOfNums_size, strOfNums_size, byL_length]; omega),
    big_k _ 2 (by decide) 2 rfl k (by omega), Option.bind_some, if_pos (by rw [ByteArray.size_append, strOfNums_size, strOfNums_size, strOfNums_size, byL_length, byL_length]; omega), lbC_snoc, hw]
  unfold okR at hR
  by_cases h2 : szC l j ≤ 24
  · rw [if_pos h2] at hR
    simp at hR
    rw [if_pos h2, if_pos hR.2, if_pos hR.1, if_pos (by rw [ByteArray.size_append, ByteArray.size_append, strOfNums_size, strOfNums_size, strOfNums_size, byL_length, byL_length]; omega)]
    rw [show lfT (szC l j) (pgC l j) = [] by unfold lfT; rw [if_neg (by omega)], List.append_nil]
    conv => lhs; rw [← strOf_bytesOf (btC l j)]
    rw [strOf_append, strOf_append, strOf_append, List.append_assoc, List.append_assoc]
  · rw [if_neg h2] at hR
    simp at hR
    rw [if_neg h2, rpage_f, Option.bind_some, if_pos hR.2.2, hR.2.1, if_pos (toList_nil_iff.2 rfl), big_k _ 2 (by decide) 2 rfl k (by omega), Option.bind_some,
      if_pos (by rw [ByteArray.size_append, ByteArray.size_append, strOfNums_size, strOfNums_size, strOfNums_size, strOfNums_size, byL_length, byL_length, byL_length]; omega)]
    rw [show lfT (szC l j) (pgC l j) = byL (pgC l j) 2 2 by unfold lfT; rw [if_pos (by omega)], show bytesOf (⟨#[]⟩ : ByteArray) = [] from rfl, List.nil_append]
    rw [strOf_append, strOf_append, strOf_append, List.append_assoc, List.append_assoc]
theorem rleaf_bad (l : List S52) (s : ByteArray) (x : Int) (k j : Nat) (hk : 6 ≤ k) (hs2 : s.size ≤ 100000) (h : okR (szC l j) (pgC l j) (btC l j) = false) (h9 : szC l j ≤ 900) :
    maquetteref13_Leaf.j1 (k + 1) (l.map cvC) s x false (kyC l j) (szC l j) (pgC l j) (btC l j) = some (⟨#[]⟩, false) := by
  simp only [maquetteref13_Leaf.j1]
  rw [if_neg (by decide), big_k _ 4 (by decide) 4 rfl k (by omega), Option.bind_some, if_pos (by rw [strOfNums_size, byL_length]; omega),
    big_k _ 2 (by decide) 2 rfl k (by omega), Option.bind_some, if_pos (by rw [ByteArray.size_append, strOfNums_size, strOfNums_size, byL_length, byL_length]; omega)]
  unfold okR at h
  by_cases h2 : szC l j ≤ 24
  · rw [if_pos h2] at h ⊢
    by_cases h3 : pgC l j = 0
    · rw [if_pos h3, if_neg]
      intro h4
      rw [decide_eq_true h4, h3] at h
      cases h
    · rw [if_neg h3]
  · rw [if_neg h2] at h ⊢
    rw [decide_eq_true h9, Bool.true_and] at h
    rw [rpage_f, Option.bind_some]
    cases h3 : okP (pgC l j) with
    | false => rw [if_neg (by decide)]
    | true =>
      rw [if_pos rfl, if_neg]
      intro h4
      have : btC l j = ⟨#[]⟩ := by
        have h5 := toList_nil_iff.1 h4
        cases hb : btC l j with
        | mk d => rw [hb] at h5; congr 1; exact Array.size_eq_zero_iff.1 h5
      rw [this, h3] at h
      cases h
theorem rleaf_loop (l : List S52) (hl : l.length ≤ 200) (d : Nat) : ∀ (k j : Nat), l.length - j = d → j ≤ l.length → 2 * d + 8 < k → (∀ i : Nat, i < j → stC l i = true) →
    maquetteref13_Leaf.l0 k (l.map cvC) (strOfNums (lbC l j)) (j : Int) = some (leafR l) := by
  induction d with
  | zero =>
    intro k j hd hj hk hp
    obtain ⟨k, rfl⟩ : ∃ m, k = m + 1 := ⟨k - 1, by omega⟩
    have e : j = l.length := by omega
    subst e
    have hlen := lbC_len l _ hp
    have e2 : lbC l l.length = leafL l := leafL_is l
    simp only [maquetteref13_Leaf.l0]
    rw [if_neg (by rw [List.length_map]; omega), strOfNums_size, e2]
    rw [e2] at hlen
    unfold leafR
    by_cases h : (leafL l).length ≤ 128
    · rw [if_neg (by omega), fill_k _ h, Option.bind_some, if_pos ((leafOk_iff l).2 ⟨by omega, hp, h⟩)]
    · rw [if_pos (by omega), if_neg (fun h2 => h ((leafOk_iff l).1 h2).2.2)]
  | succ d ih =>
    intro k j hd hj hk hp
    obtain ⟨k, rfl⟩ : ∃ m, k = m + 2 := ⟨k - 2, by omega⟩
    have hb := (lbC_len l j hp).2
    rw [rleaf_step l _ (k + 1) j (by omega) (by omega) (fun i hi => by have := hp i hi; unfold stC at this; rw [Bool.and_eq_true] at this; exact this.1)]
    cases h : stC l j with
    | false =>
      have hno : leafR l = (⟨#[]⟩, false) := by
        unfold leafR
        rw [if_neg (fun h2 => by have := ((leafOk_iff l).1 h2).2.1 j (by omega); rw [h] at this; cases this)]
      rw [hno]
      cases h2 : fstC l j with
      | false =>
        show maquetteref13_Leaf.j1 (k + 1) (l.map cvC) _ (j : Int) true _ _ _ _ = _
        simp only [maquetteref13_Leaf.j1]
        rw [if_pos trivial]
      | true =>
        unfold fstC at h2
        rw [Bool.and_eq_true, Bool.and_eq_true, decide_eq_true_eq, decide_eq_true_eq] at h2
        unfold stC at h
        rw [h2.1, Bool.true_and] at h
        exact rleaf_bad l _ _ k j (by omega) (by rw [strOfNums_size]; omega) h h2.2.2
    | true =>
      rw [fstC_of h]
      show maquetteref13_Leaf.j1 (k + 1) (l.map cvC) _ (j : Int) false _ _ _ _ = _
      rw [rleaf_j1 l k j (by omega) (by omega) hl h hp]
      refine ih k (j + 1) (by omega) (by omega) (by omega) (fun i hi => ?_)
      by_cases hi2 : i = j
      · rw [hi2]; exact h
      · exact hp i (by omega)
theorem rleaf_k (l : List S52) (k : Nat) (hk : 420 ≤ k) : maquetteref13_Leaf.f k (l.map cvC) = some (leafR l) := by
  unfold maquetteref13_Leaf.f
  rw [List.length_map]
  by_cases h : l.length ≤ 200
  · rw [if_neg (by omega), big_k _ 1 (by decide) 1 rfl k (by omega), Option.bind_some, if_pos (by rw [strOfNums_size, byL_length]; decide), lit76, strOf_append]
    have := rleaf_loop l h l.length k 0 (by omega) (by omega) (by omega) (fun i hi => by omega)
    rw [show lbC l 0 = [76] ++ byL (l.length : Int) 1 1 by rw [byL1]; rfl] at this
    exact this
  · rw [if_pos (by omega)]
    unfold leafR
    rw [if_neg (fun h2 => by have := ((leafOk_iff l).1 h2).1; omega)]
def finC (a : ByteArray) (l : List S52) : List S79 × Bool := if (leafOk l && decide (strOfNums (pad (leafL l)) = a)) = true then (l.map cvC, true) else ([], false)
theorem rcells_end (a : ByteArray) (l : List S52) (k : Nat) (hk : 420 ≤ k) :
    ((maquetteref13_Leaf.f k (l.map cvC)).bind fun bt264 => (if bt264.2 = true then (if bt264.1.toList = a.toList then (some (l.map cvC, true)) else (some (([] : List (S79)), false))) else (some (([] : List (S79)), false)))) = some (finC a l) := by
  rw [rleaf_k l k hk, Option.bind_some]
  unfold finC leafR
  cases h : leafOk l with
  | false => rfl
  | true =>
    rw [if_pos rfl, if_pos rfl]
    by_cases h2 : strOfNums (pad (leafL l)) = a
    · rw [if_pos (toList_inj_iff.2 h2), decide_eq_true h2]; rfl
    · rw [if_neg (fun h3 => h2 (toList_inj_iff.1 h3)), decide_eq_false h2]; rfl
def kAt (L : List Int) (i : Nat) : Int := rdV ((L.drop i).take 4)
def sAt (L : List Int) (i : Nat) : Int := rdV ((L.drop (i + 4)).take 2)
def mAt (L : List Int) (i : Nat) : Nat := if sAt L i ≤ 24 then (sAt L i).toNat else 2
def cAt (L : List Int) (i : Nat) : S52 := ⟨kAt L i, sAt L i, if sAt L i ≤ 24 then 0 else rdV ((L.drop (i + 6)).take 2), if sAt L i ≤ 24 then strOfNums ((L.drop (i + 6)).take (mAt L i)) else ⟨#[]⟩⟩
theorem sAt_range {L : List Int} (hL : okB L) (i : Nat) : 0 ≤ sAt L i := (rdV_range (okB_take (okB_drop hL _) 2) (by rw [List.length_take]; omega)).1
theorem rcells_s1 {L : List Int} (hL : okB L) (hl : L.length = 128) (n : Nat) (hb : wrap64 (bt (strOfNums L) 1) = (n : Int)) (k i j : Nat) (x : List S79) (hj : j < n) (hi : i ≤ 128) (hk : 200 ≤ k) :
    maquetteref13_Cells.l0 (k + 1) (strOfNums L) x (i : Int) (j : Int) = if i + 6 ≤ 128 then maquetteref13_Cells.j2 k (strOfNums L) x ((i + 6 : Nat) : Int) (j : Int) (mAt L i : Int) (kAt L i) (sAt L i) 0 ⟨#[]⟩ else some ([], false) := by
  have hsz : ((strOfNums L).size : Int) = 128 := by rw [strOfNums_size, hl]; rfl
  have w6 : wrap64 ((i : Int) + 6) = ((i + 6 : Nat) : Int) := by rw [wrap64_id (by omega) (by omega)]; omega
  have w4 : wrap64 ((i : Int) + 4) = ((i + 4 : Nat) : Int) := by rw [wrap64_id (by omega) (by omega)]; omega
  have hs0 := sAt_range hL i
  have e1 : maquetteref13_Of.f k ((strOfNums L).extract i (i + 4)) = some (kAt L i) := by
    have := of_at hL i (i + 4) (by omega) k (by omega)
    rw [show i + 4 - i = 4 by omega] at this
    exact this
  have e2 : maquetteref13_Of.f k ((strOfNums L).extract (i + 4) (i + 6)) = some (sAt L i) := by
    have := of_at hL (i + 4) (i + 6) (by omega) k (by omega)
    rw [show i + 6 - (i + 4) = 2 by omega] at this
    exact this
  have c1 : (1 : Int) < 128 := by decide
  have c2 : (j : Int) < (n : Int) := by omega
  simp only [maquetteref13_Cells.l0]
  rw [hsz, if_pos c1, hb, if_pos c2, w6, w4]
  by_cases h6 : i + 6 ≤ 128
  · have d1 : ¬ ((i + 6 : Nat) : Int) > 128 := by omega
    have d2 : 0 ≤ (i : Int) := by omega
    have d3 : (i : Int) ≤ ((i + 4 : Nat) : Int) := by omega
    have d4 : ((i + 4 : Nat) : Int) ≤ 128 := by omega
    have d5 : 0 ≤ ((i + 4 : Nat) : Int) := by omega
    have d6 : ((i + 4 : Nat) : Int) ≤ ((i + 6 : Nat) : Int) := by omega
    have d7 : ((i + 6 : Nat) : Int) ≤ 128 := by omega
    rw [if_neg d1, if_pos d2, if_pos d3, if_pos d4, Int.toNat_natCast, Int.toNat_natCast, Int.toNat_natCast, e1, Option.bind_some, if_pos d5, if_pos d6, if_pos d7, e2, Option.bind_some, if_pos h6]
    unfold mAt
    by_cases h : sAt L i ≤ 24
    · rw [if_pos h, if_pos h, Int.toNat_of_nonneg hs0]
    · rw [if_neg h, if_neg h]; rfl
  · have d1 : ((i + 6 : Nat) : Int) > 128 := by omega
    rw [if_pos d1, if_neg h6]
theorem rcells_s2 {L : List Int} (hL : okB L) (hl : L.length = 128) (k i j : Nat) (l : List S52) (hi : i ≤ 128) (hj : j ≤ 1000) (hl2 : l.length ≤ 1000) (hk : 200 ≤ k) :
    maquetteref13_Cells.j2 (k + 2) (strOfNums L) (l.map cvC) ((i + 6 : Nat) : Int) (j : Int) (mAt L i : Int) (kAt L i) (sAt L i) 0 ⟨#[]⟩ = if i + 6 + mAt L i ≤ 128 then maquetteref13_Cells.l0 k (strOfNums L) ((l ++ [cAt L i]).map cvC) ((i + 6 + mAt L i : Nat) : Int) ((j + 1 : Nat) : Int) else some ([], false) := by
  have hsz : ((strOfNums L).size : Int) = 128 := by rw [strOfNums_size, hl]; rfl
  have wj : wrap64 ((j : Int) + 1) = ((j + 1 : Nat) : Int) := by rw [wrap64_id (by omega) (by omega)]; omega
  have hs0 := sAt_range hL i
  have hm24 : mAt L i ≤ 24 := by unfold mAt; split <;> omega
  have wm : wrap64 (((i + 6 : Nat) : Int) + (mAt L i : Int)) = ((i + 6 + mAt L i : Nat) : Int) := by rw [wrap64_id (by omega) (by omega)]; omega
  have e3 : maquetteref13_Of.f (k + 1) ((strOfNums L).extract (i + 6) (i + 6 + mAt L i)) = some (rdV ((L.drop (i + 6)).take (mAt L i))) := by
    have := of_at hL (i + 6) (i + 6 + mAt L i) (by omega) (k + 1) (by omega)
    rw [show i + 6 + mAt L i - (i + 6) = mAt L i by omega] at this
    exact this
  have e4 : (strOfNums L).extract (i + 6) (i + 6 + mAt L i) = strOfNums ((L.drop (i + 6)).take (mAt L i)) := by
    rw [extract_strOf, show i + 6 + mAt L i - (i + 6) = mAt L i by omega]
  have c0 : (l.map cvC).length < 3518437208883 := by rw [List.length_map]; omega
  have hc : ∀ (p : Int) (b : ByteArray), cAt L i = ⟨kAt L i, sAt L i, p, b⟩ → (l.map cvC) ++ [(⟨kAt L i, sAt L i, p, b⟩ : S79)] = (l ++ [cAt L i]).map cvC := by
    intro p b h; rw [List.map_append, h]; rfl
  simp only [maquetteref13_Cells.j2]
  rw [wm, hsz]
  by_cases h7 : i + 6 + mAt L i ≤ 128
  · have d1 : ¬ ((i + 6 + mAt L i : Nat) : Int) > 128 := by omega
    have d2 : 0 ≤ ((i + 6 : Nat) : Int) := by omega
    have d3 : ((i + 6 : Nat) : Int) ≤ ((i + 6 + mAt L i : Nat) : Int) := by omega
    have d4 : ((i + 6 + mAt L i : Nat) : Int) ≤ 128 := by omega
    rw [if_neg d1, if_pos h7]
    by_cases h : sAt L i ≤ 24
    · rw [if_pos h, if_pos d2, if_pos d3, if_pos d4, Int.toNat_natCast, Int.toNat_natCast, e4]
      simp only [maquetteref13_Cells.j3]
      rw [if_pos c0, wj, wm, hc _ _ (by unfold cAt; rw [if_pos h, if_pos h])]
    · have e2 : mAt L i = 2 := by unfold mAt; rw [if_neg h]
      rw [if_neg h, if_pos d2, if_pos d3, if_pos d4, Int.toNat_natCast, Int.toNat_natCast, e3, Option.bind_some]
      simp only [maquetteref13_Cells.j3]
      rw [if_pos c0, wj, wm, hc _ _ (by unfold cAt; rw [if_neg h, if_neg h, e2])]
  · have d1 : ((i + 6 + mAt L i : Nat) : Int) > 128 := by omega
    rw [if_pos d1, if_neg h7]
theorem rcells_one {L : List Int} (hL : okB L) (hl : L.length = 128) (n : Nat) (hn : rd L 1 = n) (k i j : Nat) (l : List S52) (hj : j < n) (hi : i ≤ 128) (hl2 : l.length ≤ 1000) (hk : 200 ≤ k) :
    maquetteref13_Cells.l0 (k + 3) (strOfNums L) (l.map cvC) (i : Int) (j : Int) = if i + 6 + mAt L i ≤ 128 then maquetteref13_Cells.l0 k (strOfNums L) ((l ++ [cAt L i]).map cvC) ((i + 6 + mAt L i : Nat) : Int) ((j + 1 : Nat) : Int) else some ([], false) := by
  have hr : 0 ≤ rd L 1 ∧ rd L 1 < 256 := rd_range2 hL 1
  rw [hn] at hr
  have hb : wrap64 (bt (strOfNums L) 1) = (n : Int) := by rw [bt_strOf hL, hn]; exact wrap64_id hr.1 (by omega)
  rw [rcells_s1 hL hl n hb (k + 2) i j _ hj hi (by omega)]
  by_cases h6 : i + 6 ≤ 128
  · rw [if_pos h6]
    exact rcells_s2 hL hl k i j l hi (by omega) hl2 hk
  · rw [if_neg h6, if_neg (by omega)]
theorem rcells_stop {L : List Int} (hL : okB L) (hl : L.length = 128) (n : Nat) (hn : rd L 1 = n) (k i : Nat) (l : List S52) (hk : 430 ≤ k) :
    maquetteref13_Cells.l0 k (strOfNums L) (l.map cvC) (i : Int) (n : Int) = some (finC (strOfNums L) l) := by
  obtain ⟨k, rfl⟩ : ∃ m, k = m + 1 := ⟨k - 1, by omega⟩
  have hb : wrap64 (bt (strOfNums L) 1) = (n : Int) := by have : 0 ≤ rd L 1 ∧ rd L 1 < 256 := rd_range2 hL 1; rw [bt_strOf hL, hn]; rw [hn] at this; exact wrap64_id this.1 (by omega)
  have hsz : ((strOfNums L).size : Int) = 128 := by rw [strOfNums_size, hl]; rfl
  simp only [maquetteref13_Cells.l0]
  rw [hsz, if_pos (by omega), hb, if_neg (by omega)]
  exact rcells_end _ l k (by omega)
theorem rcells_ex {L : List Int} (hL : okB L) (hl : L.length = 128) (n : Nat) (hn : rd L 1 = n) (d : Nat) : ∀ (i j : Nat) (l : List S52), n - j = d → j ≤ n → i ≤ 128 → l.length + d ≤ 500 →
    ∃ r, (∀ k, 3 * d + 430 ≤ k → maquetteref13_Cells.l0 k (strOfNums L) (l.map cvC) (i : Int) (j : Int) = some r) ∧ (r = ([], false) ∨ ∃ l', r = finC (strOfNums L) l') := by
  induction d with
  | zero =>
    intro i j l hd hj hi hl2
    have e : j = n := by omega
    subst e
    exact ⟨_, fun k hk => rcells_stop hL hl j hn k i l (by omega), .inr ⟨l, rfl⟩⟩
  | succ d ih =>
    intro i j l hd hj hi hl2
    by_cases h : i + 6 + mAt L i ≤ 128
    · obtain ⟨r, e, hr⟩ := ih (i + 6 + mAt L i) (j + 1) (l ++ [cAt L i]) (by omega) (by omega) h (by rw [List.length_append, List.length_singleton]; omega)
      refine ⟨r, fun k hk => ?_, hr⟩
      obtain ⟨k, rfl⟩ : ∃ m, k = m + 3 := ⟨k - 3, by omega⟩
      rw [rcells_one hL hl n hn k i j l (by omega) hi (by omega) (by omega), if_pos h]
      exact e k (by omega)
    · refine ⟨_, fun k hk => ?_, .inl rfl⟩
      obtain ⟨k, rfl⟩ : ∃ m, k = m + 3 := ⟨k - 3, by omega⟩
      rw [rcells_one hL hl n hn k i j l (by omega) hi (by omega) (by omega), if_neg h]
theorem encC_at {L : List Int} {x : S52} {Z : List Int} (hx : goodC x) (i : Nat) (h : L.drop i = encC x ++ Z) : cAt L i = x ∧ L.drop (i + 6 + mAt L i) = Z ∧ (encC x).length = 6 + mAt L i := by
  have e0 : L.drop i = byL x.f0 4 4 ++ (byL x.f1 2 2 ++ ((bytesOf x.f3 ++ lfT x.f1 x.f2) ++ Z)) := by rw [h]; unfold encC; simp only [List.append_assoc]
  have e4 : L.drop (i + 4) = byL x.f1 2 2 ++ ((bytesOf x.f3 ++ lfT x.f1 x.f2) ++ Z) := by rw [← List.drop_drop, e0, List.drop_left' (byL_length _ _ _)]
  have e6 : L.drop (i + 6) = (bytesOf x.f3 ++ lfT x.f1 x.f2) ++ Z := by rw [show i + 6 = (i + 4) + 2 by omega, ← List.drop_drop, e4, List.drop_left' (byL_length _ _ _)]
  have hR := hx.2
  have hsz := okR_size hR
  have hk : kAt L i = x.f0 := by unfold kAt; rw [e0, List.take_left' (byL_length _ _ _)]; exact rdV4 hx.1.1 hx.1.2
  have hr : 0 ≤ x.f1 ∧ x.f1 ≤ 900 := by
    unfold okR at hR
    split at hR
    · simp at hR; omega
    · simp at hR; omega
  have hs : sAt L i = x.f1 := by unfold sAt; rw [e4, List.take_left' (byL_length _ _ _)]; exact rdV2 hr.1 (by omega)
  unfold okR at hR
  by_cases h24 : x.f1 ≤ 24
  · rw [if_pos h24] at hR
    simp at hR
    have hT : lfT x.f1 x.f2 = [] := by unfold lfT; rw [if_neg (by omega)]
    have hm : mAt L i = x.f3.size := by unfold mAt; rw [hs, if_pos h24]; omega
    rw [hT, List.append_nil] at e6
    refine ⟨?_, ?_, ?_⟩
    · unfold cAt
      rw [hk, hs, if_pos h24, if_pos h24, hm, e6, List.take_left' (bytesOf_len _), strOf_bytesOf, ← hR.2]
    · rw [hm, ← List.drop_drop, e6, List.drop_left' (bytesOf_len _)]
    · unfold encC
      rw [hT]
      simp only [List.length_append, byL_length, bytesOf_len, List.length_nil]
      omega
  · rw [if_neg h24] at hR
    simp at hR
    have hp := okP_range hR.2.2
    have hT : lfT x.f1 x.f2 = byL x.f2 2 2 := by unfold lfT; rw [if_pos (by omega)]
    have hm : mAt L i = 2 := by unfold mAt; rw [hs, if_neg h24]
    have hb0 : bytesOf x.f3 = [] := by rw [hR.2.1]; rfl
    rw [hT, hb0, List.nil_append] at e6
    refine ⟨?_, ?_, ?_⟩
    · unfold cAt
      rw [hk, hs, if_neg h24, if_neg h24, e6, List.take_left' (byL_length _ _ _), ← hR.2.1]
      have r2 := rdV2 (x := x.f2) (by omega) (by omega)
      show S52.mk x.f0 x.f1 (rdV (byL x.f2 2 2)) x.f3 = x
      rw [r2]
    · rw [hm, ← List.drop_drop, e6, List.drop_left' (byL_length _ _ _)]
    · unfold encC
      rw [hT, hb0]
      simp only [List.length_append, byL_length, List.length_nil]
      omega
theorem rcells_rest {L : List Int} (hL : okB L) (hl : L.length = 128) (n : Nat) (hn : rd L 1 = n) (Z : List Int) (rest : List S52) : ∀ (i j : Nat) (l : List S52) (k : Nat), (∀ x ∈ rest, goodC x) → L.drop i = (rest.map encC).flatten ++ Z → n - j = rest.length → j ≤ n → i ≤ 128 → l.length + rest.length ≤ 500 → 3 * rest.length + 430 ≤ k →
    maquetteref13_Cells.l0 k (strOfNums L) (l.map cvC) (i : Int) (j : Int) = some (finC (strOfNums L) (l ++ rest)) := by
  induction rest with
  | nil =>
    intro i j l k _ hd hj hj2 hi hl2 hk
    have e : j = n := by rw [List.length_nil] at hj; omega
    subst e
    rw [List.append_nil]
    exact rcells_stop hL hl j hn k i l (by omega)
  | cons x t ih =>
    intro i j l k hx hd hj hj2 hi hl2 hk
    rw [List.length_cons] at hj hl2 hk
    obtain ⟨k, rfl⟩ : ∃ m, k = m + 3 := ⟨k - 3, by omega⟩
    rw [List.map_cons, List.flatten_cons, List.append_assoc] at hd
    obtain ⟨c1, c2, c3⟩ := encC_at (hx x (List.mem_cons_self ..)) i hd
    have hlen : i + 6 + mAt L i ≤ 128 := by
      have := congrArg List.length hd
      rw [List.length_drop, List.length_append, c3, hl] at this
      omega
    rw [rcells_one hL hl n hn k i j l (by omega) hi (by omega) (by omega), if_pos hlen, c1]
    have := ih (i + 6 + mAt L i) (j + 1) (l ++ [x]) k (fun y hy => hx y (List.mem_cons_of_mem _ hy)) c2 (by omega) (by omega) hlen (by rw [List.length_append, List.length_singleton]; omega) (by omega)
    rw [List.append_assoc, List.singleton_append] at this
    exact this
theorem rcells_f {L : List Int} (hL : okB L) (k : Nat) : maquetteref13_Cells.f (k + 1) (strOfNums L) = if L.length = 128 ∧ rd L 0 = 76 then maquetteref13_Cells.l0 k (strOfNums L) [] 2 0 else some ([], false) := by
  unfold maquetteref13_Cells.f
  have hj : ∀ b, maquetteref13_Cells.j0 (k + 1) (strOfNums L) b = if b = true then some ([], false) else maquetteref13_Cells.l0 k (strOfNums L) [] 2 0 := fun b => by simp only [maquetteref13_Cells.j0]
  rw [strOfNums_size, bt_strOf hL, hj, hj]
  by_cases h0 : L.length = 128
  · rw [if_pos (by omega), if_pos (by omega)]
    by_cases h1 : rd L 0 = 76
    · rw [h1, if_neg (by decide), if_pos ⟨h0, rfl⟩]
    · rw [if_pos (bne_iff_ne.2 h1), if_neg (by omega)]
  · rw [if_neg (by omega), if_pos rfl, if_neg (by omega)]
theorem goodC_of {l : List S52} (h : leafOk l = true) : ∀ x ∈ l, goodC x := by
  intro x hx
  obtain ⟨j, hj, rfl⟩ := mem_rd52 hx
  obtain ⟨_, hs, _⟩ := (leafOk_iff l).1 h
  have hk := keys_pos (Ky := kyC l) (n := l.length) (fun i hi => by have := hs i hi; unfold stC at this; rw [Bool.and_eq_true] at this; exact this.1) j hj
  have h2 := hs j hj
  unfold stC at h2
  rw [Bool.and_eq_true] at h2
  refine ⟨⟨hk.1, ?_⟩, h2.2⟩
  have := hk.2
  show kyC l j < _
  omega
theorem cells_same (a : ByteArray) : ∃ s : List S52 × Bool, (∀ k, 1300 ≤ k → sheet_Cells.f k a = some s) ∧ (∀ k, 1300 ≤ k → maquetteref13_Cells.f k a = some (s.1.map cvC, s.2)) := by
  by_cases h : ∃ l, leafOk l = true ∧ strOfNums (pad (leafL l)) = a
  · obtain ⟨l, h1, h2⟩ := h
    refine ⟨(l, true), fun k hk => by rw [← h2]; exact cells_back h1 k (by omega), fun k hk => ?_⟩
    obtain ⟨k, rfl⟩ : ∃ m, k = m + 1 := ⟨k - 1, by omega⟩
    obtain ⟨hn, hs, hlen⟩ := (leafOk_iff l).1 h1
    have hL := okB_pad (okB_leafL l)
    have r1 : rd (pad (leafL l)) 1 = l.length := by
      show (l.length : Int) % 256 = _
      omega
    rw [← h2, rcells_f hL k, if_pos ⟨pad_length hlen, rfl⟩]
    have := rcells_rest hL (pad_length hlen) l.length r1 (List.replicate (128 - (leafL l).length) 0) l 2 0 [] k (goodC_of h1) rfl (by omega) (by omega) (by omega) (by simp; omega) (by omega)
    rw [List.nil_append] at this
    refine this.trans ?_
    unfold finC
    rw [h1, decide_eq_true rfl]; rfl
  · obtain ⟨bad, l, e⟩ := cells_ex a
    have e2 : cellsFin a bad l = ([], false) := by
      unfold cellsFin
      rw [if_neg]
      intro hc
      rw [Bool.and_eq_true, Bool.and_eq_true, decide_eq_true_eq] at hc
      exact h ⟨l, hc.2.1, hc.2.2⟩
    refine ⟨([], false), fun k hk => by rw [e k (by omega), e2], fun k hk => ?_⟩
    obtain ⟨k, rfl⟩ : ∃ m, k = m + 1 := ⟨k - 1, by omega⟩
    have hs := rcells_f (okB_bytesOf a) k
    rw [strOf_bytesOf] at hs
    rw [hs]
    split
    · rename_i hc
      have hr : 0 ≤ rd (bytesOf a) 1 ∧ rd (bytesOf a) 1 < 256 := rd_range2 (okB_bytesOf a) 1
      obtain ⟨r, e3, hr2⟩ := rcells_ex (okB_bytesOf a) hc.1 (rd (bytesOf a) 1).toNat (by omega) _ 2 0 [] rfl (by omega) (by omega) (by simp; omega)
      have e4 := e3 k (by omega)
      rw [strOf_bytesOf] at e4
      refine e4.trans ?_
      rcases hr2 with rfl | ⟨l', rfl⟩
      · rfl
      · rw [strOf_bytesOf]
        unfold finC
        rw [if_neg]
        · rfl
        · intro hc
          rw [Bool.and_eq_true, decide_eq_true_eq] at hc
          exact h ⟨_, hc.1, hc.2⟩
    · rfl
end Go.Proofs.Ytlgmabibcpkdmaa.PAll
end
section
namespace Go.Proofs.Ytlgmabibcpkdmaa.PAll
open Go.RowKit Go.Proofs.YtlgmabibcpkdmaaW.PrintWords Go.Proofs.YtlgmabibcpkdmaaW.PrintLast Go.Proofs.YtlgmabibcpkdmaaW.PrintMore
attribute [local go_sem] max2_int min2_int max_two min_two max_three min_three max_four min_four
set_option linter.unusedVariables false
set_option linter.unusedSimpArgs false
def maquetteref13_Chain.j0 : Nat → Int → ByteArray → Bool → Option (ByteArray × Bool)
  | 0, _, _, _ => none
  | k + 1, x0, x1, x22 => if x22 = true then (some ((⟨#[]⟩ : ByteArray), false)) else ((maquetteref13_Big.f k x0 2).bind fun t254 => (if 1 + t254.size ≤ 9223372036854775807 then ((maquetteref13_Big.f k (x1.size : Int) 1).bind fun t255 => (if ((⟨#[67]⟩ : ByteArray) ++ t254).size + t255.size ≤ 9223372036854775807 then (if (((⟨#[67]⟩ : ByteArray) ++ t254) ++ t255).size + x1.size ≤ 9223372036854775807 then ((maquetteref13_fill.f ((((⟨#[67]⟩ : ByteArray) ++ t254) ++ t255) ++ x1)).bind fun t256 => (some (t256, true))) else (none)) else (none))) else (none)))
def maquetteref13_Chain.f (k : Nat) (a0 : Int) (a1 : ByteArray) : Option (ByteArray × Bool) := if a0 = 0 then (if (a1.size : Int) < 1 then (maquetteref13_Chain.j0 k a0 a1 true) else (maquetteref13_Chain.j0 k a0 a1 (decide ((a1.size : Int) > 120)))) else ((maquetteref13_page.f a0).bind fun t253 => (if t253 = true then (if (a1.size : Int) < 1 then (maquetteref13_Chain.j0 k a0 a1 true) else (maquetteref13_Chain.j0 k a0 a1 (decide ((a1.size : Int) > 120)))) else (maquetteref13_Chain.j0 k a0 a1 true)))
set_option maxHeartbeats 8000000 in
set_option maxRecDepth 100000 in
theorem maquetteref13_Chain.calls (k : Nat) (a0 : Int) (a1 : ByteArray) (r1 : ByteArray) (r2 : Bool) (w : World) (h : maquetteref13_Chain.f k a0 a1 = some (r1,r2)) :
    Calls Try.prog 25 #[.int .i64 a0,.string a1] w fun e w' => e = .returned (.tuple #[.string r1,.bool r2]) ∧ Below w.heap.size w w':=by
 have HB:=Aside0.mk (Below.refl w.heap.size w)
 have H : (if a0 = 0 then (if (a1.size : Int) < 1 then (maquetteref13_Chain.j0 k a0 a1 true) else (maquetteref13_Chain.j0 k a0 a1 (decide ((a1.size : Int) > 120)))) else ((maquetteref13_page.f a0).bind fun t253 => (if t253 = true then (if (a1.size : Int) < 1 then (maquetteref13_Chain.j0 k a0 a1 true) else (maquetteref13_Chain.j0 k a0 a1 (decide ((a1.size : Int) > 120)))) else (maquetteref13_Chain.j0 k a0 a1 true)))) = some (r1,r2):=h
 clear h
 have HC3:=Aside0.mk H
 clear H
 go_enter Try.func25,Try.ntmps25
 go_upto_region 1 with (fail)
 go_cut [22] (fun v22 wc => ∃ (kq : Nat) (x22_2 : Bool),v22 = .bool x22_2 ∧ Aside0 (maquetteref13_Chain.j0 kq a0 a1 x22_2 = some (r1,r2)) ∧ Aside0 (kq ≤ k) ∧ Aside0 (Below w.heap.size w wc))
 case first =>
  have H:=HC3.out
  clear HC3
  by_cases c4 : a0 = 0
  ·rw [if_pos c4] at H
   have c4b0 : (a0 == 0) = true:=beq_iff_eq.mpr c4
   have c4b1 : (a0 != 0) = false:=bne_eq_false_iff_eq.mpr c4
   clear c4
   (first | rw [c4b0] | (simp only [i64_w,i32_w]; rw [c4b0]) | skip)
   by_cases c5 : (a1.size : Int) < 1
   ·rw [if_pos c5] at H
    have c5b0 : decide ((a1.size : Int) < 1) = true:=decide_eq_true c5
    have c5b1 : decide (a1.size < 1) = true:=decide_eq_true (by omega)
    clear c5
    have H':=Aside0.mk H
    clear H
    go_wp2
    go_meet
    case rel => exact ⟨_,(true),(by first | rfl | (simp; done) | (simp [*]; done)),H',⟨by first | omega | exact Nat.le_refl _⟩,⟨by repeat (first | (with_reducible first | exact HB.out | apply below_alloc | apply pw_below_drewN | apply below_drew1) | exact HB.out)⟩⟩
   rw [if_neg c5] at H
   have c5b0 : decide ((a1.size : Int) < 1) = false:=decide_eq_false c5
   have c5b1 : decide (a1.size < 1) = false:=decide_eq_false (by omega)
   clear c5
   have H':=Aside0.mk H
   clear H
   go_wp2
   go_meet
   case rel => exact ⟨_,(decide ((a1.size : Int) > 120)),(by first | rfl | (simp; done) | (simp [*]; done)),H',⟨by first | omega | exact Nat.le_refl _⟩,⟨by repeat (first | (with_reducible first | exact HB.out | apply below_alloc | apply pw_below_drewN | apply below_drew1) | exact HB.out)⟩⟩
  rw [if_neg c4] at H
  have c4b0 : (a0 == 0) = false:=beq_eq_false_iff_ne.mpr c4
  have c4b1 : (a0 != 0) = true:=bne_iff_ne.mpr c4
  (first | rw [c4b0] | (simp only [i64_w,i32_w]; rw [c4b0]) | skip)
  replace H:=Option.bind_eq_some_iff.mp H
  obtain ⟨t253,A60,H⟩:=H
  replace H : (if t253 = true then (if (a1.size : Int) < 1 then (maquetteref13_Chain.j0 k a0 a1 true) else (maquetteref13_Chain.j0 k a0 a1 (decide ((a1.size : Int) > 120)))) else (maquetteref13_Chain.j0 k a0 a1 true)) = some (r1,r2):=H
  have A6:=Aside0.mk A60
  clear A60
  by_cases c7 : t253 = true
  ·subst c7
   have H1 : (if (a1.size : Int) < 1 then (maquetteref13_Chain.j0 k a0 a1 true) else (maquetteref13_Chain.j0 k a0 a1 (decide ((a1.size : Int) > 120)))) = some (r1,r2):=by rw [if_pos rfl] at H; exact H
   clear H
   have H:=H1
   clear H1
   by_cases c8 : (a1.size : Int) < 1
   ·rw [if_pos c8] at H
    have c8b0 : decide ((a1.size : Int) < 1) = true:=decide_eq_true c8
    have c8b1 : decide (a1.size < 1) = true:=decide_eq_true (by omega)
    clear c8
    have H':=Aside0.mk H
    clear H
    go_wp2_with (first | (go_at_call 42; (with_reducible refine (maquetteref13_page.calls a0 true _ A6.out).mono ?_); rintro e w' ⟨rfl,⟨nd,rfl⟩⟩))
    go_meet
    case rel => exact ⟨_,(true),(by first | rfl | (simp; done) | (simp [*]; done)),H',⟨by first | omega | exact Nat.le_refl _⟩,⟨by repeat (first | (with_reducible first | exact HB.out | apply below_alloc | apply pw_below_drewN | apply below_drew1) | exact HB.out)⟩⟩
   rw [if_neg c8] at H
   have c8b0 : decide ((a1.size : Int) < 1) = false:=decide_eq_false c8
   have c8b1 : decide (a1.size < 1) = false:=decide_eq_false (by omega)
   clear c8
   have H':=Aside0.mk H
   clear H
   go_wp2_with (first | (go_at_call 42; (with_reducible refine (maquetteref13_page.calls a0 true _ A6.out).mono ?_); rintro e w' ⟨rfl,⟨nd,rfl⟩⟩))
   go_meet
   case rel => exact ⟨_,(decide ((a1.size : Int) > 120)),(by first | rfl | (simp; done) | (simp [*]; done)),H',⟨by first | omega | exact Nat.le_refl _⟩,⟨by repeat (first | (with_reducible first | exact HB.out | apply below_alloc | apply pw_below_drewN | apply below_drew1) | exact HB.out)⟩⟩
  replace c7:=Bool.eq_false_iff.mpr c7
  subst c7
  have H1 : (maquetteref13_Chain.j0 k a0 a1 true) = some (r1,r2):=by rw [if_neg (show ¬ (false = true) by decide)] at H; exact H
  clear H
  have H:=H1
  clear H1
  have H':=Aside0.mk H
  clear H
  go_wp2_with (first | (go_at_call 42; (with_reducible refine (maquetteref13_page.calls a0 false _ A6.out).mono ?_); rintro e w' ⟨rfl,⟨nd,rfl⟩⟩))
  go_meet
  case rel => exact ⟨_,(true),(by first | rfl | (simp; done) | (simp [*]; done)),H',⟨by first | omega | exact Nat.le_refl _⟩,⟨by repeat (first | (with_reducible first | exact HB.out | apply below_alloc | apply pw_below_drewN | apply below_drew1) | exact HB.out)⟩⟩
 clear HC3
 try clear c2
 try clear p2
 try clear c4
 try clear c4b0
 try clear c4b1
 try clear c5
 try clear c5b0
 try clear c5b1
 try clear c7
 try clear c8
 try clear c8b0
 try clear c8b1
 obtain ⟨kq,x22_2,rfl,HA,HJ2,HB⟩:=hcut
 cases kq with
 | zero => exact absurd HA.out (by simp [maquetteref13_Chain.j0])
 | succ kj2 =>
  have H:=HA.out
  clear HA
  simp only [maquetteref13_Chain.j0] at H
  by_cases c9 : x22_2 = true
  ·subst c9
   have H1 : (some ((⟨#[]⟩ : ByteArray),false)) = some (r1,r2):=by rw [if_pos rfl] at H; exact H
   clear H
   have H:=H1
   clear H1
   simp only [Option.some.injEq,Prod.mk.injEq] at H
   obtain ⟨rfl,rfl⟩:=H
   go_wp2
   go_ret2
   exact ⟨by first | rfl | (simp [errW_none,errW_some] <;> rfl) | (simp [*,errW_none,errW_some] <;> rfl),by repeat (first | (with_reducible first | exact HB.out | apply below_alloc | apply pw_below_drewN | apply below_drew1) | exact HB.out)⟩
  replace c9:=Bool.eq_false_iff.mpr c9
  subst c9
  have H1 : ((maquetteref13_Big.f kj2 a0 2).bind fun t254 => (if 1 + t254.size ≤ 9223372036854775807 then ((maquetteref13_Big.f kj2 (a1.size : Int) 1).bind fun t255 => (if ((⟨#[67]⟩ : ByteArray) ++ t254).size + t255.size ≤ 9223372036854775807 then (if (((⟨#[67]⟩ : ByteArray) ++ t254) ++ t255).size + a1.size ≤ 9223372036854775807 then ((maquetteref13_fill.f ((((⟨#[67]⟩ : ByteArray) ++ t254) ++ t255) ++ a1)).bind fun t256 => (some (t256,true))) else (none)) else (none))) else (none))) = some (r1,r2):=by rw [if_neg (show ¬ (false = true) by decide)] at H; exact H
  clear H
  have H:=H1
  clear H1
  replace H:=Option.bind_eq_some_iff.mp H
  obtain ⟨t254,A100,H⟩:=H
  replace H : (if 1 + t254.size ≤ 9223372036854775807 then ((maquetteref13_Big.f kj2 (a1.size : Int) 1).bind fun t255 => (if ((⟨#[67]⟩ : ByteArray) ++ t254).size + t255.size ≤ 9223372036854775807 then (if (((⟨#[67]⟩ : ByteArray) ++ t254) ++ t255).size + a1.size ≤ 9223372036854775807 then ((maquetteref13_fill.f ((((⟨#[67]⟩ : ByteArray) ++ t254) ++ t255) ++ a1)).bind fun t256 => (some (t256,true))) else (none)) else (none))) else (none)) = some (r1,r2):=H
  have A10:=Aside0.mk A100
  clear A100
  by_cases c11 : 1 + t254.size ≤ 9223372036854775807
  ·rw [if_pos c11] at H
   have c11b0:=eq_true c11
   have c11b1 : decide (1 + t254.size ≤ 9223372036854775807) = true:=decide_eq_true c11
   try have c11b2 : (9223372036854775807 < 1 + t254.size) = False:=eq_false (Nat.not_lt.2 c11)
   replace H:=Option.bind_eq_some_iff.mp H
   obtain ⟨t255,A120,H⟩:=H
   replace H : (if ((⟨#[67]⟩ : ByteArray) ++ t254).size + t255.size ≤ 9223372036854775807 then (if (((⟨#[67]⟩ : ByteArray) ++ t254) ++ t255).size + a1.size ≤ 9223372036854775807 then ((maquetteref13_fill.f ((((⟨#[67]⟩ : ByteArray) ++ t254) ++ t255) ++ a1)).bind fun t256 => (some (t256,true))) else (none)) else (none)) = some (r1,r2):=H
   have A12:=Aside0.mk A120
   clear A120
   by_cases c13 : ((⟨#[67]⟩ : ByteArray) ++ t254).size + t255.size ≤ 9223372036854775807
   ·rw [if_pos c13] at H
    have c13b0:=eq_true c13
    have c13b1 : decide (((⟨#[67]⟩ : ByteArray) ++ t254).size + t255.size ≤ 9223372036854775807) = true:=decide_eq_true c13
    try have c13b2 : (9223372036854775807 < ((⟨#[67]⟩ : ByteArray) ++ t254).size + t255.size) = False:=eq_false (Nat.not_lt.2 c13)
    try (have c13b3:=c13b2; simp only [ByteArray.size_append] at c13b3)
    by_cases c14 : (((⟨#[67]⟩ : ByteArray) ++ t254) ++ t255).size + a1.size ≤ 9223372036854775807
    ·rw [if_pos c14] at H
     have c14b0:=eq_true c14
     have c14b1 : decide ((((⟨#[67]⟩ : ByteArray) ++ t254) ++ t255).size + a1.size ≤ 9223372036854775807) = true:=decide_eq_true c14
     try have c14b2 : (9223372036854775807 < (((⟨#[67]⟩ : ByteArray) ++ t254) ++ t255).size + a1.size) = False:=eq_false (Nat.not_lt.2 c14)
     try (have c14b3:=c14b2; simp only [ByteArray.size_append] at c14b3)
     replace H:=Option.bind_eq_some_iff.mp H
     obtain ⟨t256,A150,H⟩:=H
     replace H : (some (t256,true)) = some (r1,r2):=H
     have A15:=Aside0.mk A150
     clear A150
     simp only [Option.some.injEq,Prod.mk.injEq] at H
     obtain ⟨rfl,rfl⟩:=H
     go_wp2_with (first | ((with_reducible refine gate_callee (f:=40) rfl ?_); refine goesL_ (some 24) rfl rfl Try.func40 (by kernel_rfl) rfl #[.int .i64 a0,.int .i64 2] rfl (by (try simp only [List.map_toArray,List.map_cons,List.map_nil]); first | done | rfl | (simp only [List.length_drop,List.length_take]; rfl) | (simp only [ByteArray.size_append,Int.natCast_add]; rfl) | (simp [ByteArray.size_append,Int.add_assoc]; done)) ?_; (with_reducible refine (maquetteref13_Big.calls kj2 a0 2 t254 _ A10.out).mono ?_); rintro e w16 ⟨rfl,hb⟩; refine ⟨_,rfl,?_⟩; have n0_:=Aside0.mk (below_step (by repeat (first | (with_reducible first | exact HB.out | apply below_alloc | apply pw_below_drewN | apply below_drew1) | exact HB.out)) hb); clear HB; have HB:=n0_; clear n0_; (try clear hb); (try clear hb2); (try clear hk); (try clear hi)) | ((with_reducible refine gate_callee (f:=40) rfl ?_); refine goesL_ (some 28) rfl rfl Try.func40 (by kernel_rfl) rfl #[.int .i64 (a1.size : Int),.int .i64 1] rfl (by (try simp only [List.map_toArray,List.map_cons,List.map_nil]); first | done | rfl | (simp only [List.length_drop,List.length_take]; rfl) | (simp only [ByteArray.size_append,Int.natCast_add]; rfl) | (simp [ByteArray.size_append,Int.add_assoc]; done)) ?_; (with_reducible refine (maquetteref13_Big.calls kj2 (a1.size : Int) 1 t255 _ A12.out).mono ?_); rintro e w17 ⟨rfl,hb⟩; refine ⟨_,rfl,?_⟩; have n0_:=Aside0.mk (below_step (by repeat (first | (with_reducible first | exact HB.out | apply below_alloc | apply pw_below_drewN | apply below_drew1) | exact HB.out)) hb); clear HB; have HB:=n0_; clear n0_; (try clear hb); (try clear hb2); (try clear hk); (try clear hi)) | ((with_reducible refine gate_callee (f:=43) rfl ?_); refine goesL_ (some 32) rfl rfl Try.func43 (by kernel_rfl) rfl #[.string ((((⟨#[67]⟩ : ByteArray) ++ t254) ++ t255) ++ a1)] rfl (by (try simp only [List.map_toArray,List.map_cons,List.map_nil]); first | done | rfl | (simp only [List.length_drop,List.length_take]; rfl) | (simp only [ByteArray.size_append,Int.natCast_add]; rfl) | (simp [ByteArray.size_append,Int.add_assoc]; done)) ?_; (with_reducible refine (maquetteref13_fill.calls ((((⟨#[67]⟩ : ByteArray) ++ t254) ++ t255) ++ a1) t256 _ A15.out).mono ?_); rintro e w18 ⟨rfl,hb⟩; refine ⟨_,rfl,?_⟩; have n0_:=Aside0.mk (below_step (by repeat (first | (with_reducible first | exact HB.out | apply below_alloc | apply pw_below_drewN | apply below_drew1) | exact HB.out)) hb); clear HB; have HB:=n0_; clear n0_; (try clear hb); (try clear hb2); (try clear hk); (try clear hi)))
     all_goals try (exfalso; have h1_ : (⟨#[67]⟩ : ByteArray).size = 1:=rfl; simp only [ByteArray.size_append] at c13 c14; omega)
     go_ret2
     exact ⟨by first | rfl | (simp [errW_none,errW_some] <;> rfl) | (simp [*,errW_none,errW_some] <;> rfl),by repeat (first | (with_reducible first | exact HB.out | apply below_alloc | apply pw_below_drewN | apply below_drew1) | exact HB.out)⟩
    rw [if_neg c14] at H
    exact absurd H (by simp)
   rw [if_neg c13] at H
   exact absurd H (by simp)
  rw [if_neg c11] at H
  exact absurd H (by simp)

end Go.Proofs.Ytlgmabibcpkdmaa.PAll
end

/- Of the texts that the row stands on, what it needs (part 27), put together by a program of this session. -/
import Derived.Test.YtlgmabibcpkdmaaZaT10
import Derived.Test.YtlgmabibcpkdmaaZaT26
import Derived.Test.YtlgmabibcpkdmaaZaT19
import Derived.Test.YtlgmabibcpkdmaaZaT15
import Derived.Test.YtlgmabibcpkdmaaZaT24
import Derived.WalkKit
import Derived.ProofKit
import Derived.OpenShut
import Derived.ChangeOld
import Derived.ChangeSlices
import Derived.Below
import Derived.SizedLaws
import Derived.DataReads
import Derived.DataElems
section
namespace Go.Proofs.Ytlgmabibcpkdmaa.PAll
open Go.RowKit Go.Proofs.YtlgmabibcpkdmaaW.PrintWords Go.Proofs.YtlgmabibcpkdmaaW.PrintLast Go.Proofs.YtlgmabibcpkdmaaW.PrintMore
attribute [local go_sem] max2_int min2_int max_two min_two max_three min_three max_four min_four
set_option linter.unusedVariables false
set_option linter.unusedSimpArgs false
def maquetteref13_Link.j0 : Nat → ByteArray → Bool → Option (Int × ByteArray × Bool)
  | 0, _, _ => none
  | k + 1, x0, x22 => if x22 = true then (some (0, (⟨#[]⟩ : ByteArray), false)) else (if 1 ≤ 3 then (if 3 ≤ (x0.size : Int) then ((maquetteref13_Of.f k (x0.extract 1 3)).bind fun t275 => (if 3 < (x0.size : Int) then (if 4 ≤ (wrap64 (4 + (wrap64 (bt x0 3)))) then (if (wrap64 (4 + (wrap64 (bt x0 3)))) ≤ (x0.size : Int) then ((maquetteref13_Chain.f k t275 (x0.extract 4 ((wrap64 (4 + (wrap64 (bt x0 3)))) : Int).toNat)).bind fun bt276 => (if bt276.2 = true then (if bt276.1.toList = x0.toList then (some (t275, x0.extract 4 ((wrap64 (4 + (wrap64 (bt x0 3)))) : Int).toNat, true)) else (some (0, (⟨#[]⟩ : ByteArray), false))) else (some (0, (⟨#[]⟩ : ByteArray), false)))) else (none)) else (none)) else (none))) else (none)) else (none))
def maquetteref13_Link.f (k : Nat) (a0 : ByteArray) : Option (Int × ByteArray × Bool) := if (a0.size : Int) = 128 then (if 0 < (a0.size : Int) then (if (bt a0 0) = 67 then (if 3 < (a0.size : Int) then (maquetteref13_Link.j0 k a0 (decide ((wrap64 (bt a0 3)) > 120))) else (none)) else (maquetteref13_Link.j0 k a0 true)) else (none)) else (maquetteref13_Link.j0 k a0 true)
set_option maxHeartbeats 8000000 in
set_option maxRecDepth 100000 in
theorem maquetteref13_Link.calls (k : Nat) (a0 : ByteArray) (r1 : Int) (r2 : ByteArray) (r3 : Bool) (w : World) (h : maquetteref13_Link.f k a0 = some (r1,r2,r3)) :
    Calls Try.prog 29 #[.string a0] w fun e w' => e = .returned (.tuple #[.int .i64 r1,.string r2,.bool r3]) ∧ Below w.heap.size w w':=by
 have HB:=Aside0.mk (Below.refl w.heap.size w)
 have H : (if (a0.size : Int) = 128 then (if 0 < (a0.size : Int) then (if (bt a0 0) = 67 then (if 3 < (a0.size : Int) then (maquetteref13_Link.j0 k a0 (decide ((wrap64 (bt a0 3)) > 120))) else (none)) else (maquetteref13_Link.j0 k a0 true)) else (none)) else (maquetteref13_Link.j0 k a0 true)) = some (r1,r2,r3):=h
 clear h
 have HC2:=Aside0.mk H
 clear H
 go_enter Try.func29,Try.ntmps29
 go_upto_region 1 with (fail)
 repeat (go_quiet (fail); go_upto_region 1 with (fail))
 go_cut [22] (fun v22 wc => ∃ (kq : Nat) (x22_1 : Bool),v22 = .bool x22_1 ∧ Aside0 (maquetteref13_Link.j0 kq a0 x22_1 = some (r1,r2,r3)) ∧ Aside0 (kq ≤ k) ∧ Aside0 (Below w.heap.size w wc))
 case first =>
  have H:=HC2.out
  clear HC2
  by_cases c3 : (a0.size : Int) = 128
  ·rw [if_pos c3] at H
   have c3b0 : ((a0.size : Int) == 128) = true:=beq_iff_eq.mpr c3
   have c3b1 : ((a0.size : Int) != 128) = false:=bne_eq_false_iff_eq.mpr c3
   clear c3
   (first | rw [c3b0] | (simp only [i64_w,i32_w]; rw [c3b0]) | skip)
   by_cases c4 : 0 < (a0.size : Int)
   ·rw [if_pos c4] at H
    have c4b0 : decide (0 < (a0.size : Int)) = true:=decide_eq_true c4
    have c4b1 : decide (0 < a0.size) = true:=decide_eq_true (by omega)
    clear c4
    by_cases c6 : (bt a0 0) = 67
    ·rw [if_pos c6] at H
     have c6b0 : ((bt a0 0) == 67) = true:=beq_iff_eq.mpr c6
     have c6b1 : ((bt a0 0) != 67) = false:=bne_eq_false_iff_eq.mpr c6
     clear c6
     by_cases c7 : 3 < (a0.size : Int)
     ·rw [if_pos c7] at H
      have c7b0 : decide (3 < (a0.size : Int)) = true:=decide_eq_true c7
      have c7b1 : decide (3 < a0.size) = true:=decide_eq_true (by omega)
      clear c7
      have H':=Aside0.mk H
      clear H
      have p5 : 0 ≤ (0 : Int):=(by omega)
      have q5 : 0 < a0.size:=(by have : (0 : Int) < (a0.size : Int):=of_decide_eq_true (by first | (with_reducible assumption) | assumption); omega)
      have hx5 : ∀ h : 0 < a0.size,((a0[0]'h).toNat : Int) = bt a0 0:=bt_at a0 0
      clear p5
      have qi5 : (0 < (a0.size : Int)) = True:=eq_true (of_decide_eq_true (by first | (with_reducible assumption) | assumption))
      replace q5:=eq_true q5
      have p8 : 0 ≤ (3 : Int):=(by omega)
      have q8 : 3 < a0.size:=(by have : (3 : Int) < (a0.size : Int):=of_decide_eq_true (by first | (with_reducible assumption) | assumption); omega)
      have hx8 : ∀ h : 3 < a0.size,((a0[3]'h).toNat : Int) = bt a0 3:=bt_at a0 3
      clear p8
      have qi8 : (3 < (a0.size : Int)) = True:=eq_true (of_decide_eq_true (by first | (with_reducible assumption) | assumption))
      replace q8:=eq_true q8
      go_wp2
      repeat (go_quiet (fail); try go_wp2)
      go_meet
      case rel => exact ⟨_,(decide ((wrap64 (bt a0 3)) > 120)),(by first | rfl | (simp; done) | (simp [*]; done)),H',⟨by first | omega | exact Nat.le_refl _⟩,⟨by repeat (first | (with_reducible first | exact HB.out | apply below_alloc | apply pw_below_drewN | apply below_drew1) | exact HB.out)⟩⟩
     rw [if_neg c7] at H
     exact absurd H (by simp)
    rw [if_neg c6] at H
    have c6b0 : ((bt a0 0) == 67) = false:=beq_eq_false_iff_ne.mpr c6
    have c6b1 : ((bt a0 0) != 67) = true:=bne_iff_ne.mpr c6
    have H':=Aside0.mk H
    clear H
    have p5 : 0 ≤ (0 : Int):=(by omega)
    have q5 : 0 < a0.size:=(by have : (0 : Int) < (a0.size : Int):=of_decide_eq_true (by first | (with_reducible assumption) | assumption); omega)
    have hx5 : ∀ h : 0 < a0.size,((a0[0]'h).toNat : Int) = bt a0 0:=bt_at a0 0
    clear p5
    have qi5 : (0 < (a0.size : Int)) = True:=eq_true (of_decide_eq_true (by first | (with_reducible assumption) | assumption))
    replace q5:=eq_true q5
    go_wp2
    repeat (go_quiet (fail); try go_wp2)
    go_meet
    case rel => exact ⟨_,(true),(by first | rfl | (simp; done) | (simp [*]; done)),H',⟨by first | omega | exact Nat.le_refl _⟩,⟨by repeat (first | (with_reducible first | exact HB.out | apply below_alloc | apply pw_below_drewN | apply below_drew1) | exact HB.out)⟩⟩
   rw [if_neg c4] at H
   exact absurd H (by simp)
  rw [if_neg c3] at H
  have c3b0 : ((a0.size : Int) == 128) = false:=beq_eq_false_iff_ne.mpr c3
  have c3b1 : ((a0.size : Int) != 128) = true:=bne_iff_ne.mpr c3
  (first | rw [c3b0] | (simp only [i64_w,i32_w]; rw [c3b0]) | skip)
  have H':=Aside0.mk H
  clear H
  go_wp2
  repeat (go_quiet (fail); try go_wp2)
  go_meet
  case rel => exact ⟨_,(true),(by first | rfl | (simp; done) | (simp [*]; done)),H',⟨by first | omega | exact Nat.le_refl _⟩,⟨by repeat (first | (with_reducible first | exact HB.out | apply below_alloc | apply pw_below_drewN | apply below_drew1) | exact HB.out)⟩⟩
 clear HC2
 try clear c2
 try clear p2
 try clear c3
 try clear c3b0
 try clear c3b1
 try clear c4
 try clear c4b0
 try clear c4b1
 try clear p5
 try clear q5
 try clear hx5
 try clear qi5
 try clear c6
 try clear c6b0
 try clear c6b1
 try clear p6
 try clear c7
 try clear c7b0
 try clear c7b1
 try clear p8
 try clear q8
 try clear hx8
 try clear qi8
 try clear p5
 try clear p8
 try clear q5
 try clear q8
 obtain ⟨kq,x22_1,rfl,HA,HJ1,HB⟩:=hcut
 cases kq with
 | zero => exact absurd HA.out (by simp [maquetteref13_Link.j0])
 | succ kj1 =>
  have H:=HA.out
  clear HA
  simp only [maquetteref13_Link.j0] at H
  by_cases c9 : x22_1 = true
  ·subst c9
   have H1 : (some (0,(⟨#[]⟩ : ByteArray),false)) = some (r1,r2,r3):=by rw [if_pos rfl] at H; exact H
   clear H
   have H:=H1
   clear H1
   simp only [Option.some.injEq,Prod.mk.injEq] at H
   obtain ⟨rfl,rfl,rfl⟩:=H
   go_wp2
   repeat (go_quiet (fail); try go_wp2)
   go_ret3
   exact ⟨by first | rfl | (simp [errW_none,errW_some] <;> rfl) | (simp [*,errW_none,errW_some] <;> rfl),by repeat (first | (with_reducible first | exact HB.out | apply below_alloc | apply pw_below_drewN | apply below_drew1) | exact HB.out)⟩
  replace c9:=Bool.eq_false_iff.mpr c9
  subst c9
  have H1 : (if 1 ≤ 3 then (if 3 ≤ (a0.size : Int) then ((maquetteref13_Of.f kj1 (a0.extract 1 3)).bind fun t275 => (if 3 < (a0.size : Int) then (if 4 ≤ (wrap64 (4 + (wrap64 (bt a0 3)))) then (if (wrap64 (4 + (wrap64 (bt a0 3)))) ≤ (a0.size : Int) then ((maquetteref13_Chain.f kj1 t275 (a0.extract 4 ((wrap64 (4 + (wrap64 (bt a0 3)))) : Int).toNat)).bind fun bt276 => (if bt276.2 = true then (if bt276.1.toList = a0.toList then (some (t275,a0.extract 4 ((wrap64 (4 + (wrap64 (bt a0 3)))) : Int).toNat,true)) else (some (0,(⟨#[]⟩ : ByteArray),false))) else (some (0,(⟨#[]⟩ : ByteArray),false)))) else (none)) else (none)) else (none))) else (none)) else (none)) = some (r1,r2,r3):=by rw [if_neg (show ¬ (false = true) by decide)] at H; exact H
  clear H
  have H:=H1
  clear H1
  by_cases c10 : 1 ≤ 3
  ·rw [if_pos c10] at H
   have c10b0:=eq_true c10
   have c10b1 : decide (1 ≤ 3) = true:=decide_eq_true c10
   clear c10
   by_cases c11 : 3 ≤ (a0.size : Int)
   ·rw [if_pos c11] at H
    have c11b0:=eq_true c11
    have c11b1 : decide (3 ≤ (a0.size : Int)) = true:=decide_eq_true c11
    clear c11
    replace H:=Option.bind_eq_some_iff.mp H
    obtain ⟨t275,A120,H⟩:=H
    replace H : (if 3 < (a0.size : Int) then (if 4 ≤ (wrap64 (4 + (wrap64 (bt a0 3)))) then (if (wrap64 (4 + (wrap64 (bt a0 3)))) ≤ (a0.size : Int) then ((maquetteref13_Chain.f kj1 t275 (a0.extract 4 ((wrap64 (4 + (wrap64 (bt a0 3)))) : Int).toNat)).bind fun bt276 => (if bt276.2 = true then (if bt276.1.toList = a0.toList then (some (t275,a0.extract 4 ((wrap64 (4 + (wrap64 (bt a0 3)))) : Int).toNat,true)) else (some (0,(⟨#[]⟩ : ByteArray),false))) else (some (0,(⟨#[]⟩ : ByteArray),false)))) else (none)) else (none)) else (none)) = some (r1,r2,r3):=H
    have A12:=Aside0.mk A120
    clear A120
    by_cases c13 : 3 < (a0.size : Int)
    ·rw [if_pos c13] at H
     have c13b0 : decide (3 < (a0.size : Int)) = true:=decide_eq_true c13
     have c13b1 : decide (3 < a0.size) = true:=decide_eq_true (by omega)
     clear c13
     obtain ⟨ji50,hji50⟩ : ∃ j_ : Int,(wrap64 (4 + (wrap64 (bt a0 3)))) = j_:=⟨_,rfl⟩
     rw [hji50] at H
     have hji50w : (IntKind.i64.wrap (4 + IntKind.i64.wrap (bt a0 3))) = ji50:=by rw [i64_w,i64_w]; exact hji50
     by_cases c15 : 4 ≤ (ji50)
     ·rw [if_pos c15] at H
      have c15b0:=eq_true c15
      have c15b1 : decide (4 ≤ (ji50)) = true:=decide_eq_true c15
      by_cases c16 : (ji50) ≤ (a0.size : Int)
      ·rw [if_pos c16] at H
       have c16b0:=eq_true c16
       have c16b1 : decide ((ji50) ≤ (a0.size : Int)) = true:=decide_eq_true c16
       replace H:=Option.bind_eq_some_iff.mp H
       obtain ⟨⟨t276,t277⟩,A170,H⟩:=H
       replace H : (if t277 = true then (if t276.toList = a0.toList then (some (t275,a0.extract 4 ((ji50) : Int).toNat,true)) else (some (0,(⟨#[]⟩ : ByteArray),false))) else (some (0,(⟨#[]⟩ : ByteArray),false))) = some (r1,r2,r3):=H
       have A17:=Aside0.mk A170
       clear A170
       by_cases c18 : t277 = true
       ·subst c18
        have H1 : (if t276.toList = a0.toList then (some (t275,a0.extract 4 ((ji50) : Int).toNat,true)) else (some (0,(⟨#[]⟩ : ByteArray),false))) = some (r1,r2,r3):=by rw [if_pos rfl] at H; exact H
        clear H
        have H:=H1
        clear H1
        by_cases c19 : t276.toList = a0.toList
        ·rw [if_pos c19] at H
         have c19b0 : (t276.toList == a0.toList) = true:=beq_iff_eq.mpr c19
         have c19b1 : (t276.toList != a0.toList) = false:=bne_eq_false_iff_eq.mpr c19
         clear c19
         simp only [Option.some.injEq,Prod.mk.injEq] at H
         obtain ⟨rfl,rfl,rfl⟩:=H
         go_wp2_with (first | (go_at_call 44; (with_reducible refine (maquetteref13_Of.calls kj1 (a0.extract 1 3) t275 _ A12.out).mono ?_); rintro e w' ⟨rfl,⟨nd,rfl⟩⟩; (try first | exact ⟨rfl,_,World.drewN_drewN _ _ _⟩ | exact ⟨rfl,_,Eq.trans (World.drewN_drewN _ _ _) (congrArg (World.drewN _) (Nat.add_assoc _ _ _))⟩); have p14 : 0 ≤ (3 : Int):=(by omega); have q14 : 3 < a0.size:=(by have : (3 : Int) < (a0.size : Int):=of_decide_eq_true (by first | (with_reducible assumption) | assumption); omega); have hx14 : ∀ h : 3 < a0.size,((a0[3]'h).toNat : Int) = bt a0 3:=bt_at a0 3; clear p14; have qi14 : (3 < (a0.size : Int)) = True:=eq_true (of_decide_eq_true (by first | (with_reducible assumption) | assumption)); replace q14:=eq_true q14) | (go_at_call 25; (with_reducible refine (maquetteref13_Chain.calls kj1 t275 (a0.extract 4 ((ji50) : Int).toNat) t276 true _ A17.out).mono ?_); rintro e w20 ⟨rfl,hb⟩; have n0_:=Aside0.mk (below_step (by repeat (first | (with_reducible first | exact HB.out | apply below_alloc | apply pw_below_drewN | apply below_drew1) | exact HB.out)) hb); clear HB; have HB:=n0_; clear n0_; (try clear hb); (try clear hb2); (try clear hk); (try clear hi)))
         repeat (go_quiet (first | (go_at_call 44; (with_reducible refine (maquetteref13_Of.calls kj1 (a0.extract 1 3) t275 _ A12.out).mono ?_); rintro e w' ⟨rfl,⟨nd,rfl⟩⟩; (try first | exact ⟨rfl,_,World.drewN_drewN _ _ _⟩ | exact ⟨rfl,_,Eq.trans (World.drewN_drewN _ _ _) (congrArg (World.drewN _) (Nat.add_assoc _ _ _))⟩); have p14 : 0 ≤ (3 : Int):=(by omega); have q14 : 3 < a0.size:=(by have : (3 : Int) < (a0.size : Int):=of_decide_eq_true (by first | (with_reducible assumption) | assumption); omega); have hx14 : ∀ h : 3 < a0.size,((a0[3]'h).toNat : Int) = bt a0 3:=bt_at a0 3; clear p14; have qi14 : (3 < (a0.size : Int)) = True:=eq_true (of_decide_eq_true (by first | (with_reducible assumption) | assumption)); replace q14:=eq_true q14) | (go_at_call 25; (with_reducible refine (maquetteref13_Chain.calls kj1 t275 (a0.extract 4 ((ji50) : Int).toNat) t276 true _ A17.out).mono ?_); rintro e w20 ⟨rfl,hb⟩; have n0_:=Aside0.mk (below_step (by repeat (first | (with_reducible first | exact HB.out | apply below_alloc | apply pw_below_drewN | apply below_drew1) | exact HB.out)) hb); clear HB; have HB:=n0_; clear n0_; (try clear hb); (try clear hb2); (try clear hk); (try clear hi))); try go_wp2_with (first | (go_at_call 44; (with_reducible refine (maquetteref13_Of.calls kj1 (a0.extract 1 3) t275 _ A12.out).mono ?_); rintro e w' ⟨rfl,⟨nd,rfl⟩⟩; (try first | exact ⟨rfl,_,World.drewN_drewN _ _ _⟩ | exact ⟨rfl,_,Eq.trans (World.drewN_drewN _ _ _) (congrArg (World.drewN _) (Nat.add_assoc _ _ _))⟩); have p14 : 0 ≤ (3 : Int):=(by omega); have q14 : 3 < a0.size:=(by have : (3 : Int) < (a0.size : Int):=of_decide_eq_true (by first | (with_reducible assumption) | assumption); omega); have hx14 : ∀ h : 3 < a0.size,((a0[3]'h).toNat : Int) = bt a0 3:=bt_at a0 3; clear p14; have qi14 : (3 < (a0.size : Int)) = True:=eq_true (of_decide_eq_true (by first | (with_reducible assumption) | assumption)); replace q14:=eq_true q14) | (go_at_call 25; (with_reducible refine (maquetteref13_Chain.calls kj1 t275 (a0.extract 4 ((ji50) : Int).toNat) t276 true _ A17.out).mono ?_); rintro e w20 ⟨rfl,hb⟩; have n0_:=Aside0.mk (below_step (by repeat (first | (with_reducible first | exact HB.out | apply below_alloc | apply pw_below_drewN | apply below_drew1) | exact HB.out)) hb); clear HB; have HB:=n0_; clear n0_; (try clear hb); (try clear hb2); (try clear hk); (try clear hi))))
         go_ret3
         exact ⟨by first | rfl | (simp [errW_none,errW_some] <;> rfl) | (simp [*,errW_none,errW_some] <;> rfl),by repeat (first | (with_reducible first | exact HB.out | apply below_alloc | apply pw_below_drewN | apply below_drew1) | exact HB.out)⟩
        rw [if_neg c19] at H
        have c19b0 : (t276.toList == a0.toList) = false:=beq_eq_false_iff_ne.mpr c19
        have c19b1 : (t276.toList != a0.toList) = true:=bne_iff_ne.mpr c19
        simp only [Option.some.injEq,Prod.mk.injEq] at H
        obtain ⟨rfl,rfl,rfl⟩:=H
        go_wp2_with (first | (go_at_call 44; (with_reducible refine (maquetteref13_Of.calls kj1 (a0.extract 1 3) t275 _ A12.out).mono ?_); rintro e w' ⟨rfl,⟨nd,rfl⟩⟩; (try first | exact ⟨rfl,_,World.drewN_drewN _ _ _⟩ | exact ⟨rfl,_,Eq.trans (World.drewN_drewN _ _ _) (congrArg (World.drewN _) (Nat.add_assoc _ _ _))⟩); have p14 : 0 ≤ (3 : Int):=(by omega); have q14 : 3 < a0.size:=(by have : (3 : Int) < (a0.size : Int):=of_decide_eq_true (by first | (with_reducible assumption) | assumption); omega); have hx14 : ∀ h : 3 < a0.size,((a0[3]'h).toNat : Int) = bt a0 3:=bt_at a0 3; clear p14; have qi14 : (3 < (a0.size : Int)) = True:=eq_true (of_decide_eq_true (by first | (with_reducible assumption) | assumption)); replace q14:=eq_true q14) | (go_at_call 25; (with_reducible refine (maquetteref13_Chain.calls kj1 t275 (a0.extract 4 ((ji50) : Int).toNat) t276 true _ A17.out).mono ?_); rintro e w21 ⟨rfl,hb⟩; have n0_:=Aside0.mk (below_step (by repeat (first | (with_reducible first | exact HB.out | apply below_alloc | apply pw_below_drewN | apply below_drew1) | exact HB.out)) hb); clear HB; have HB:=n0_; clear n0_; (try clear hb); (try clear hb2); (try clear hk); (try clear hi)))
        repeat (go_quiet (first | (go_at_call 44; (with_reducible refine (maquetteref13_Of.calls kj1 (a0.extract 1 3) t275 _ A12.out).mono ?_); rintro e w' ⟨rfl,⟨nd,rfl⟩⟩; (try first | exact ⟨rfl,_,World.drewN_drewN _ _ _⟩ | exact ⟨rfl,_,Eq.trans (World.drewN_drewN _ _ _) (congrArg (World.drewN _) (Nat.add_assoc _ _ _))⟩); have p14 : 0 ≤ (3 : Int):=(by omega); have q14 : 3 < a0.size:=(by have : (3 : Int) < (a0.size : Int):=of_decide_eq_true (by first | (with_reducible assumption) | assumption); omega); have hx14 : ∀ h : 3 < a0.size,((a0[3]'h).toNat : Int) = bt a0 3:=bt_at a0 3; clear p14; have qi14 : (3 < (a0.size : Int)) = True:=eq_true (of_decide_eq_true (by first | (with_reducible assumption) | assumption)); replace q14:=eq_true q14) | (go_at_call 25; (with_reducible refine (maquetteref13_Chain.calls kj1 t275 (a0.extract 4 ((ji50) : Int).toNat) t276 true _ A17.out).mono ?_); rintro e w21 ⟨rfl,hb⟩; have n0_:=Aside0.mk (below_step (by repeat (first | (with_reducible first | exact HB.out | apply below_alloc | apply pw_below_drewN | apply below_drew1) | exact HB.out)) hb); clear HB; have HB:=n0_; clear n0_; (try clear hb); (try clear hb2); (try clear hk); (try clear hi))); try go_wp2_with (first | (go_at_call 44; (with_reducible refine (maquetteref13_Of.calls kj1 (a0.extract 1 3) t275 _ A12.out).mono ?_); rintro e w' ⟨rfl,⟨nd,rfl⟩⟩; (try first | exact ⟨rfl,_,World.drewN_drewN _ _ _⟩ | exact ⟨rfl,_,Eq.trans (World.drewN_drewN _ _ _) (congrArg (World.drewN _) (Nat.add_assoc _ _ _))⟩); have p14 : 0 ≤ (3 : Int):=(by omega); have q14 : 3 < a0.size:=(by have : (3 : Int) < (a0.size : Int):=of_decide_eq_true (by first | (with_reducible assumption) | assumption); omega); have hx14 : ∀ h : 3 < a0.size,((a0[3]'h).toNat : Int) = bt a0 3:=bt_at a0 3; clear p14; have qi14 : (3 < (a0.size : Int)) = True:=eq_true (of_decide_eq_true (by first | (with_reducible assumption) | assumption)); replace q14:=eq_true q14) | (go_at_call 25; (with_reducible refine (maquetteref13_Chain.calls kj1 t275 (a0.extract 4 ((ji50) : Int).toNat) t276 true _ A17.out).mono ?_); rintro e w21 ⟨rfl,hb⟩; have n0_:=Aside0.mk (below_step (by repeat (first | (with_reducible first | exact HB.out | apply below_alloc | apply pw_below_drewN | apply below_drew1) | exact HB.out)) hb); clear HB; have HB:=n0_; clear n0_; (try clear hb); (try clear hb2); (try clear hk); (try clear hi))))
        go_ret3
        exact ⟨by first | rfl | (simp [errW_none,errW_some] <;> rfl) | (simp [*,errW_none,errW_some] <;> rfl),by repeat (first | (with_reducible first | exact HB.out | apply below_alloc | apply pw_below_drewN | apply below_drew1) | exact HB.out)⟩
       replace c18:=Bool.eq_false_iff.mpr c18
       subst c18
       have H1 : (some (0,(⟨#[]⟩ : ByteArray),false)) = some (r1,r2,r3):=by rw [if_neg (show ¬ (false = true) by decide)] at H; exact H
       clear H
       have H:=H1
       clear H1
       simp only [Option.some.injEq,Prod.mk.injEq] at H
       obtain ⟨rfl,rfl,rfl⟩:=H
       go_wp2_with (first | (go_at_call 44; (with_reducible refine (maquetteref13_Of.calls kj1 (a0.extract 1 3) t275 _ A12.out).mono ?_); rintro e w' ⟨rfl,⟨nd,rfl⟩⟩; (try first | exact ⟨rfl,_,World.drewN_drewN _ _ _⟩ | exact ⟨rfl,_,Eq.trans (World.drewN_drewN _ _ _) (congrArg (World.drewN _) (Nat.add_assoc _ _ _))⟩); have p14 : 0 ≤ (3 : Int):=(by omega); have q14 : 3 < a0.size:=(by have : (3 : Int) < (a0.size : Int):=of_decide_eq_true (by first | (with_reducible assumption) | assumption); omega); have hx14 : ∀ h : 3 < a0.size,((a0[3]'h).toNat : Int) = bt a0 3:=bt_at a0 3; clear p14; have qi14 : (3 < (a0.size : Int)) = True:=eq_true (of_decide_eq_true (by first | (with_reducible assumption) | assumption)); replace q14:=eq_true q14) | (go_at_call 25; (with_reducible refine (maquetteref13_Chain.calls kj1 t275 (a0.extract 4 ((ji50) : Int).toNat) t276 false _ A17.out).mono ?_); rintro e w22 ⟨rfl,hb⟩; have n0_:=Aside0.mk (below_step (by repeat (first | (with_reducible first | exact HB.out | apply below_alloc | apply pw_below_drewN | apply below_drew1) | exact HB.out)) hb); clear HB; have HB:=n0_; clear n0_; (try clear hb); (try clear hb2); (try clear hk); (try clear hi)))
       repeat (go_quiet (first | (go_at_call 44; (with_reducible refine (maquetteref13_Of.calls kj1 (a0.extract 1 3) t275 _ A12.out).mono ?_); rintro e w' ⟨rfl,⟨nd,rfl⟩⟩; (try first | exact ⟨rfl,_,World.drewN_drewN _ _ _⟩ | exact ⟨rfl,_,Eq.trans (World.drewN_drewN _ _ _) (congrArg (World.drewN _) (Nat.add_assoc _ _ _))⟩); have p14 : 0 ≤ (3 : Int):=(by omega); have q14 : 3 < a0.size:=(by have : (3 : Int) < (a0.size : Int):=of_decide_eq_true (by first | (with_reducible assumption) | assumption); omega); have hx14 : ∀ h : 3 < a0.size,((a0[3]'h).toNat : Int) = bt a0 3:=bt_at a0 3; clear p14; have qi14 : (3 < (a0.size : Int)) = True:=eq_true (of_decide_eq_true (by first | (with_reducible assumption) | assumption)); replace q14:=eq_true q14) | (go_at_call 25; (with_reducible refine (maquetteref13_Chain.calls kj1 t275 (a0.extract 4 ((ji50) : Int).toNat) t276 false _ A17.out).mono ?_); rintro e w22 ⟨rfl,hb⟩; have n0_:=Aside0.mk (below_step (by repeat (first | (with_reducible first | exact HB.out | apply below_alloc | apply pw_below_drewN | apply below_drew1) | exact HB.out)) hb); clear HB; have HB:=n0_; clear n0_; (try clear hb); (try clear hb2); (try clear hk); (try clear hi))); try go_wp2_with (first | (go_at_call 44; (with_reducible refine (maquetteref13_Of.calls kj1 (a0.extract 1 3) t275 _ A12.out).mono ?_); rintro e w' ⟨rfl,⟨nd,rfl⟩⟩; (try first | exact ⟨rfl,_,World.drewN_drewN _ _ _⟩ | exact ⟨rfl,_,Eq.trans (World.drewN_drewN _ _ _) (congrArg (World.drewN _) (Nat.add_assoc _ _ _))⟩); have p14 : 0 ≤ (3 : Int):=(by omega); have q14 : 3 < a0.size:=(by have : (3 : Int) < (a0.size : Int):=of_decide_eq_true (by first | (with_reducible assumption) | assumption); omega); have hx14 : ∀ h : 3 < a0.size,((a0[3]'h).toNat : Int) = bt a0 3:=bt_at a0 3; clear p14; have qi14 : (3 < (a0.size : Int)) = True:=eq_true (of_decide_eq_true (by first | (with_reducible assumption) | assumption)); replace q14:=eq_true q14) | (go_at_call 25; (with_reducible refine (maquetteref13_Chain.calls kj1 t275 (a0.extract 4 ((ji50) : Int).toNat) t276 false _ A17.out).mono ?_); rintro e w22 ⟨rfl,hb⟩; have n0_:=Aside0.mk (below_step (by repeat (first | (with_reducible first | exact HB.out | apply below_alloc | apply pw_below_drewN | apply below_drew1) | exact HB.out)) hb); clear HB; have HB:=n0_; clear n0_; (try clear hb); (try clear hb2); (try clear hk); (try clear hi))))
       go_ret3
       exact ⟨by first | rfl | (simp [errW_none,errW_some] <;> rfl) | (simp [*,errW_none,errW_some] <;> rfl),by repeat (first | (with_reducible first | exact HB.out | apply below_alloc | apply pw_below_drewN | apply below_drew1) | exact HB.out)⟩
      rw [if_neg c16] at H
      exact absurd H (by simp)
     rw [if_neg c15] at H
     exact absurd H (by simp)
    rw [if_neg c13] at H
    exact absurd H (by simp)
   rw [if_neg c11] at H
   exact absurd H (by simp)
  rw [if_neg c10] at H
  exact absurd H (by simp)

end Go.Proofs.Ytlgmabibcpkdmaa.PAll
end
section
namespace Go.Proofs.Ytlgmabibcpkdmaa.PAll
open Go.RowKit Go.Proofs.YtlgmabibcpkdmaaW.PrintWords Go.Proofs.YtlgmabibcpkdmaaW.PrintLast Go.Proofs.YtlgmabibcpkdmaaW.PrintMore
open Go.Proofs.Ytlgmabibcpkdmaa.V (byI byL byL_length byL_snoc strOf_bytesOf strOf_append okK okP okR ahK idxV idxB idxA idxB_length lfT lfV lfB lfB_snoc lfA lfT_length okR_size all_at fullA zer)
set_option linter.unusedSimpArgs false
set_option linter.unusedVariables false
theorem rchain_no (nx : Int) (b : ByteArray) (k : Nat) : maquetteref13_Chain.j0 (k + 1) nx b true = some (⟨#[]⟩,false):=by
  simp only [maquetteref13_Chain.j0]; rw [if_pos trivial]
theorem rchain_yes (nx : Int) (b : ByteArray) (k : Nat) (hk : 10 ≤ k) (hb : b.size ≤ 120) : maquetteref13_Chain.j0 (k + 1) nx b false = some (strOfNums (pad (chL nx b)),true):=by
  have c1 : 1 + (strOfNums (byL nx 2 2)).size ≤ 9223372036854775807:=by rw [strOfNums_size,byL_length]; decide
  have e : (strOfNums [67] ++ strOfNums (byL nx 2 2)) ++ strOfNums (byL (b.size : Int) 1 1) ++ b = strOfNums (chL nx b):=by
    conv => lhs; rw [← strOf_bytesOf b]
    rw [strOf_append,strOf_append,strOf_append,byL1,strOf_bytesOf]
    unfold chL
    rw [List.append_assoc,List.append_assoc]
  have c2 : ((⟨#[67]⟩ : ByteArray) ++ strOfNums (byL nx 2 2)).size + (strOfNums (byL (b.size : Int) 1 1)).size ≤ 9223372036854775807:=by
    rw [lit67,ByteArray.size_append,strOfNums_size,strOfNums_size,strOfNums_size,byL_length,byL_length]; decide
  have c3 : (((⟨#[67]⟩ : ByteArray) ++ strOfNums (byL nx 2 2)) ++ strOfNums (byL (b.size : Int) 1 1)).size + b.size ≤ 9223372036854775807:=by
    rw [lit67,ByteArray.size_append,ByteArray.size_append,strOfNums_size,strOfNums_size,strOfNums_size,byL_length,byL_length]
    have : ([67] : List Int).length = 1:=rfl
    omega
  simp only [maquetteref13_Chain.j0]
  rw [if_neg (by decide),big_k _ 2 (by decide) 2 rfl k (by omega),Option.bind_some,if_pos c1,big_k _ 1 (by decide) 1 rfl k (by omega),Option.bind_some,if_pos c2,if_pos c3,lit67,e,
    fill_k _ (by rw [chL_length]; omega),Option.bind_some]
theorem rchain_k (nx : Int) (b : ByteArray) (k : Nat) (hk : 12 ≤ k) : maquetteref13_Chain.f k nx b = some (chA nx b):=by
  obtain ⟨k,rfl⟩ : ∃ m,k = m + 1:=⟨k - 1,by omega⟩
  have hm : (decide (nx = 0) || okP nx) = true → (if (b.size : Int) < 1 then (maquetteref13_Chain.j0 (k + 1) nx b true) else (maquetteref13_Chain.j0 (k + 1) nx b (decide ((b.size : Int) > 120)))) = some (chA nx b):=by
    intro h
    unfold chA chOk
    rw [h,Bool.true_and]
    by_cases h1 : (b.size : Int) < 1
    · rw [if_pos h1,rchain_no,decide_eq_false (show ¬ 1 ≤ b.size by omega)]; rfl
    · rw [if_neg h1,decide_eq_true (show 1 ≤ b.size by omega),Bool.true_and]
      by_cases h2 : (b.size : Int) > 120
      · rw [decide_eq_true h2,rchain_no,decide_eq_false (show ¬ b.size ≤ 120 by omega)]; rfl
      · rw [decide_eq_false h2,rchain_yes nx b k (by omega) (by omega),decide_eq_true (show b.size ≤ 120 by omega)]; rfl
  unfold maquetteref13_Chain.f
  by_cases h0 : nx = 0
  · rw [if_pos h0]
    exact hm (by rw [decide_eq_true h0]; rfl)
  · rw [if_neg h0,rpage_f,Option.bind_some]
    cases hp : okP nx with
    | true => rw [if_pos rfl]; exact hm (by rw [hp,Bool.or_true])
    | false =>
      rw [if_neg (by decide),rchain_no]
      unfold chA chOk
      rw [decide_eq_false h0,hp]; rfl
def finK (a : ByteArray) (nx : Int) (pc : ByteArray) : Int × ByteArray × Bool := if (chOk nx pc && decide (strOfNums (pad (chL nx pc)) = a)) = true then (nx, pc, true) else (0, ⟨#[]⟩, false)
def pcK (L : List Int) : List Int := (L.drop 4).take (rd L 3).toNat
def nxK (L : List Int) : Int := rdV ((L.drop 1).take 2)
theorem rlink_f {L : List Int} (hL : okB L) (k : Nat) (hk : 300 ≤ k) : maquetteref13_Link.f k (strOfNums L) = some (if L.length = 128 ∧ rd L 0 = 67 ∧ rd L 3 ≤ 120 then finK (strOfNums L) (nxK L) (strOfNums (pcK L)) else (0, ⟨#[]⟩, false)) := by
  obtain ⟨k, rfl⟩ : ∃ m, k = m + 1 := ⟨k - 1, by omega⟩
  have hr : 0 ≤ rd L 3 ∧ rd L 3 < 256 := rd_range2 hL 3
  have hno : maquetteref13_Link.j0 (k + 1) (strOfNums L) true = some (0, ⟨#[]⟩, false) := by simp only [maquetteref13_Link.j0]; rw [if_pos trivial]
  have w3 : wrap64 (rd L 3) = rd L 3 := wrap64_id hr.1 (by omega)
  unfold maquetteref13_Link.f
  rw [strOfNums_size, bt_strOf hL, bt_strOf hL, w3]
  by_cases h0 : L.length = 128
  · have c0 : (L.length : Int) = 128 := by omega
    have c1 : (0 : Int) < (L.length : Int) := by omega
    have c3 : (3 : Int) < (L.length : Int) := by omega
    rw [if_pos c0, if_pos c1]
    by_cases h1 : rd L 0 = 67
    · rw [if_pos h1, if_pos c3]
      by_cases h2 : rd L 3 ≤ 120
      · have hd : decide (rd L 3 > 120) = false := decide_eq_false (by omega)
        rw [hd, if_pos ⟨h0, h1, h2⟩]
        have w4 : wrap64 (4 + rd L 3) = ((4 + (rd L 3).toNat : Nat) : Int) := by rw [wrap64_id (by omega) (by omega)]; omega
        have d2 : (3 : Int) ≤ (L.length : Int) := by omega
        have d4 : (4 : Int) ≤ ((4 + (rd L 3).toNat : Nat) : Int) := by omega
        have d5 : ((4 + (rd L 3).toNat : Nat) : Int) ≤ (L.length : Int) := by omega
        have e1 : maquetteref13_Of.f k ((strOfNums L).extract 1 3) = some (nxK L) := of_at hL 1 3 (by decide) k (by omega)
        have e2 : (strOfNums L).extract 4 (4 + (rd L 3).toNat) = strOfNums (pcK L) := by rw [extract_strOf, show 4 + (rd L 3).toNat - 4 = (rd L 3).toNat by omega]; rfl
        simp only [maquetteref13_Link.j0]
        rw [if_neg (by decide), if_pos (by decide), strOfNums_size, if_pos d2, e1, Option.bind_some, if_pos c3, bt_strOf hL, w3, w4, if_pos d4, if_pos d5, Int.toNat_natCast, e2, rchain_k _ _ k (by omega), Option.bind_some]
        unfold finK chA
        cases h : chOk (nxK L) (strOfNums (pcK L)) with
        | false => rfl
        | true =>
          rw [if_pos rfl, if_pos rfl]
          by_cases h2 : strOfNums (pad (chL (nxK L) (strOfNums (pcK L)))) = strOfNums L
          · rw [if_pos (toList_inj_iff.2 h2), decide_eq_true h2]; rfl
          · rw [if_neg (fun h3 => h2 (toList_inj_iff.1 h3)), decide_eq_false h2]; rfl
      · have hd : decide (rd L 3 > 120) = true := decide_eq_true (by omega)
        rw [hd, hno, if_neg (fun h => h2 h.2.2)]
    · rw [if_neg h1, hno, if_neg (fun h => h1 h.2.1)]
  · have c0 : ¬ (L.length : Int) = 128 := by omega
    rw [if_neg c0, hno, if_neg (fun h => h0 h.1)]
theorem link_same (a : ByteArray) (ha : a.size ≤ 1000000) : ∃ s : Int × ByteArray × Bool, (∀ k, 300 ≤ k → sheet_Link.f k a = some s) ∧ (∀ k, 300 ≤ k → maquetteref13_Link.f k a = some s) := by
  by_cases h : ∃ nx pc, chOk nx pc = true ∧ strOfNums (pad (chL nx pc)) = a
  · obtain ⟨nx, pc, h1, h2⟩ := h
    refine ⟨(nx, pc, true), fun k hk => by rw [← h2]; exact link_back h1 k (by omega), fun k hk => ?_⟩
    have hL := okB_pad (okB_chL nx pc)
    have ho := h1
    unfold chOk at ho
    simp only [Bool.and_eq_true, Bool.or_eq_true, decide_eq_true_eq] at ho
    have hnx : 0 ≤ nx ∧ nx < 65536 := by
      rcases ho.1 with h0 | h0
      · omega
      · have := okP_range h0; omega
    obtain ⟨p, q, epq⟩ : ∃ p q, byL nx 2 2 = [p, q] := ⟨_, _, rfl⟩
    obtain ⟨Z, hZ⟩ : ∃ Z, pad (chL nx pc) = 67 :: p :: q :: ((pc.size : Int) % 256) :: (bytesOf pc ++ Z) := by
      refine ⟨List.replicate (128 - (chL nx pc).length) 0, ?_⟩
      unfold pad chL
      rw [epq]; rfl
    have r3 : rd (pad (chL nx pc)) 3 = pc.size := by
      rw [hZ]
      show (pc.size : Int) % 256 = _
      omega
    have r0 : rd (pad (chL nx pc)) 0 = 67 := by rw [hZ]; rfl
    have hlen : (pad (chL nx pc)).length = 128 := pad_length (by rw [chL_length]; omega)
    have en : nxK (pad (chL nx pc)) = nx := by
      unfold nxK
      have : ((pad (chL nx pc)).drop 1).take 2 = byL nx 2 2 := by rw [hZ, epq]; rfl
      rw [this]
      exact rdV2 hnx.1 hnx.2
    have ep : strOfNums (pcK (pad (chL nx pc))) = pc := by
      unfold pcK
      rw [r3, Int.toNat_natCast]
      have : ((pad (chL nx pc)).drop 4).take pc.size = bytesOf pc := by
        rw [hZ]
        show (bytesOf pc ++ Z).take pc.size = _
        exact List.take_left' (bytesOf_len pc)
      rw [this, strOf_bytesOf]
    rw [← h2, rlink_f hL k hk, en, ep, if_pos ⟨hlen, r0, by rw [r3]; omega⟩]
    unfold finK
    rw [h1, decide_eq_true rfl]; rfl
  · obtain ⟨bad, nx, pc, e⟩ := link_ex a ha
    have e2 : linkFin a bad nx pc = (0, ⟨#[]⟩, false) := by
      unfold linkFin
      rw [if_neg]
      intro hc
      rw [Bool.and_eq_true, Bool.and_eq_true, decide_eq_true_eq] at hc
      exact h ⟨nx, pc, hc.2.1, hc.2.2⟩
    refine ⟨(0, ⟨#[]⟩, false), fun k hk => by rw [e k (by omega), e2], fun k hk => ?_⟩
    have hs := rlink_f (okB_bytesOf a) k hk
    rw [strOf_bytesOf] at hs
    rw [hs]
    split
    · unfold finK
      rw [if_neg]
      intro hc
      rw [Bool.and_eq_true, decide_eq_true_eq] at hc
      exact h ⟨_, _, hc.1, hc.2⟩
    · rfl
end Go.Proofs.Ytlgmabibcpkdmaa.PAll
end
section
namespace Go.Proofs.Ytlgmabibcpkdmaa.PAll
open Go.RowKit Go.Proofs.YtlgmabibcpkdmaaW.PrintWords Go.Proofs.YtlgmabibcpkdmaaW.PrintLast Go.Proofs.YtlgmabibcpkdmaaW.PrintMore
attribute [local go_sem] max2_int min2_int max_two min_two max_three min_three max_four min_four
set_option linter.unusedVariables false
set_option linter.unusedSimpArgs false
def sheet_Fits.f (l0 : List (S52)) : Option (Bool) := (sheet_Leaf.f l0).bind fun bt353 => (some bt353.2)
set_option maxHeartbeats 8000000 in
set_option maxRecDepth 100000 in
theorem sheet_Fits.calls (A0 : Option Addr) (c0 : Nat) (l0 : List (S52)) (r : Bool) (w : World) (hr0 : Kd.C k52 w A0 l0.length l0) (hc0 : l0.length ≤ c0) (h : sheet_Fits.f l0 = some r) :
    Calls Try.prog 26 #[.slice A0 l0.length c0] w fun e w' => e = .returned (.bool r) ∧ Below w.heap.size w w':=by
 have HR0:=Aside0.mk hr0
 have HC0:=Aside0.mk hc0
 clear hr0 hc0
 have HB:=Aside0.mk (Below.refl w.heap.size w)
 have H : ((sheet_Leaf.f l0).bind fun bt353 => (some bt353.2)) = some r:=h
 clear h
 replace H:=Option.bind_eq_some_iff.mp H
 obtain ⟨⟨t353,t354⟩,A20,H⟩:=H
 replace H : (some t354) = some r:=H
 have A2:=Aside0.mk A20
 clear A20
 obtain rfl:=Option.some.inj H
 go_enter Try.func26,Try.ntmps26
 go_wp2_with (first | ((with_reducible refine gate_callee (f:=11) rfl ?_); refine goesL_ (some 7) rfl rfl Try.func11 (by kernel_rfl) rfl #[.slice A0 l0.length c0] rfl (by (try simp only [List.map_toArray,List.map_cons,List.map_nil]); first | done | rfl | (simp only [List.length_drop,List.length_take]; rfl) | (simp only [ByteArray.size_append,Int.natCast_add]; rfl) | (simp [ByteArray.size_append,Int.add_assoc]; done)) ?_; (with_reducible refine (sheet_Leaf.calls _ _ l0 t353 t354 _ ?side1 ?side2 A2.out).mono ?_); (case side1 => repeat (first | exact HR0.out | (with_reducible refine Kd.C_alloc ?_ _) | (with_reducible refine Kd.C_drewN ?_ _) | (with_reducible refine Kd.C_drew ?_))); (case side2 => exact HC0.out); rintro e w3 ⟨rfl,hb⟩; refine ⟨_,rfl,?_⟩; have n0_:=Aside0.mk (below_step (by repeat (first | (with_reducible first | exact HB.out | apply below_alloc | apply pw_below_drewN | apply below_drew1) | exact HB.out)) hb); clear HB; have HB:=n0_; clear n0_; (try clear hb); (try clear hb2); (try clear hk); (try clear hi)))
 go_ret
 exact ⟨by first | rfl | (simp [errW_none,errW_some] <;> rfl) | (simp [*,errW_none,errW_some] <;> rfl),by repeat (first | (with_reducible first | exact HB.out | apply below_alloc | apply pw_below_drewN | apply below_drew1) | exact HB.out)⟩

end Go.Proofs.Ytlgmabibcpkdmaa.PAll
end
section
namespace Go.Proofs.Ytlgmabibcpkdmaa.PAll
open Go.RowKit Go.Proofs.YtlgmabibcpkdmaaW.PrintWords Go.Proofs.YtlgmabibcpkdmaaW.PrintLast Go.Proofs.YtlgmabibcpkdmaaW.PrintMore
set_option linter.unusedSimpArgs false
set_option linter.unusedVariables false
theorem page_same (a : ByteArray) (ha : a.size ≤ 1000000) : ∃ (s : List S41 × Bool) (c : List S52 × Bool) (l : Int × ByteArray × Bool),
    (∀ k,1300 ≤ k → sheet_Slots.f k a = some s) ∧ (∀ k,1300 ≤ k → sheet_Cells.f k a = some c) ∧ (∀ k,1300 ≤ k → sheet_Link.f k a = some l) ∧
    (∀ k,1300 ≤ k → maquetteref13_Slots.f k a = some (s.1.map cvS,s.2)) ∧ (∀ k,1300 ≤ k → maquetteref13_Cells.f k a = some (c.1.map cvC,c.2)) ∧ (∀ k,1300 ≤ k → maquetteref13_Link.f k a = some l) ∧
    (∀ k,1300 ≤ k → sheet_Kind.f k a = some (if s.2 = true then 73 else if c.2 = true then 76 else if l.2.2 = true then 67 else 0)) ∧
    (s.2 = true → fb a = some 73) ∧ (c.2 = true → fb a = some 76) ∧ (l.2.2 = true → fb a = some 67):=by
  obtain ⟨s,c,l,h1,h2,h3,h4,h5,h6,h7⟩:=page_ex a ha
  obtain ⟨s2,g1,g2⟩:=slots_same a
  obtain ⟨c2,g3,g4⟩:=cells_same a
  obtain ⟨l2,g5,g6⟩:=link_same a ha
  have e1 : s2 = s:=by have:=g1 1300 (by omega); rw [h1 1300 (by omega)] at this; exact (Option.some.inj this).symm
  have e2 : c2 = c:=by have:=g3 1300 (by omega); rw [h2 1300 (by omega)] at this; exact (Option.some.inj this).symm
  have e3 : l2 = l:=by have:=g5 1300 (by omega); rw [h3 1300 (by omega)] at this; exact (Option.some.inj this).symm
  subst e1; subst e2; subst e3
  exact ⟨s2,c2,l2,fun k hk => h1 k (by omega),fun k hk => h2 k (by omega),fun k hk => h3 k (by omega),fun k hk => g2 k (by omega),fun k hk => g4 k hk,fun k hk => g6 k (by omega),fun k hk => h4 k (by omega),h5,h6,h7⟩
theorem slots_len {a : ByteArray} {s : List S41 × Bool} (h : ∀ k,1300 ≤ k → sheet_Slots.f k a = some s) : s.1.length ≤ 1000:=by
  by_cases h0 : ∃ l,idxOk l = true ∧ strOfNums (pad (idxL l)) = a
  · obtain ⟨l,h1,h2⟩:=h0
    have:=h 1300 (by omega)
    rw [← h2,slots_back h1 1300 (by omega)] at this
    rw [← Option.some.inj this]
    have:=((idxOk_iff l).1 h1).1
    show l.length ≤ 1000
    omega
  · obtain ⟨bad,l,e⟩:=slots_ex a
    have:=h 1300 (by omega)
    rw [e _ (by omega)] at this
    rw [← Option.some.inj this]
    unfold slotsFin
    rw [if_neg]
    · simp
    · intro hc
      rw [Bool.and_eq_true,Bool.and_eq_true,decide_eq_true_eq] at hc
      exact h0 ⟨l,hc.2.1,hc.2.2⟩
theorem cells_len {a : ByteArray} {s : List S52 × Bool} (h : ∀ k,1300 ≤ k → sheet_Cells.f k a = some s) : s.1.length ≤ 1000:=by
  by_cases h0 : ∃ l,leafOk l = true ∧ strOfNums (pad (leafL l)) = a
  · obtain ⟨l,h1,h2⟩:=h0
    have:=h 1300 (by omega)
    rw [← h2,cells_back h1 1300 (by omega)] at this
    rw [← Option.some.inj this]
    have:=((leafOk_iff l).1 h1).1
    show l.length ≤ 1000
    omega
  · obtain ⟨bad,l,e⟩:=cells_ex a
    have:=h 1300 (by omega)
    rw [e _ (by omega)] at this
    rw [← Option.some.inj this]
    unfold cellsFin
    rw [if_neg]
    · simp
    · intro hc
      rw [Bool.and_eq_true,Bool.and_eq_true,decide_eq_true_eq] at hc
      exact h0 ⟨l,hc.2.1,hc.2.2⟩
theorem fb_bt {a : ByteArray} {x : Int} (h : fb a = some x) : 0 < a.size ∧ bt a 0 = x:=by
  unfold fb at h
  have hl:=bytesOf_len a
  cases hb : bytesOf a with
  | nil => rw [hb] at h; cases h
  | cons y t =>
    rw [hb] at h hl
    have e : y = x:=Option.some.inj h
    rw [List.length_cons] at hl
    refine ⟨by omega,?_⟩
    rw [← rd_bytesOf,hb,← e]; rfl
theorem size_chA (nx : Int) (b : ByteArray) : (chA nx b).1.size ≤ 1000000:=by
  unfold chA
  split
  · rename_i h
    unfold chOk at h
    simp only [Bool.and_eq_true,decide_eq_true_eq] at h
    show (strOfNums _).size ≤ _
    rw [strOfNums_size,pad_length (by rw [chL_length]; omega)]; decide
  · show (0 : Nat) ≤ _; omega
theorem size_idxR (l : List S41) : (idxR l).1.size ≤ 1000000:=by
  unfold idxR
  split
  · rename_i h
    have:=((idxOk_iff l).1 h).1
    show (strOfNums _).size ≤ _
    rw [strOfNums_size,pad_length (by rw [idxL_length]; omega)]; decide
  · show (0 : Nat) ≤ _; omega
theorem size_leafR (l : List S52) : (leafR l).1.size ≤ 1000000:=by
  unfold leafR
  split
  · rename_i h
    have:=((leafOk_iff l).1 h).2.2
    show (strOfNums _).size ≤ _
    rw [strOfNums_size,pad_length this]; decide
  · show (0 : Nat) ≤ _; omega
theorem fits_k (l : List S52) : sheet_Fits.f l = some (leafR l).2:=by
  unfold sheet_Fits.f
  rw [leaf_k,Option.bind_some]
end Go.Proofs.Ytlgmabibcpkdmaa.PAll
end
section
namespace Go.Proofs.Ytlgmabibcpkdmaa.Th
open Go.ChangeShapes Go.WideShapes Go.ChangeAt Go.RowKit Go.Proofs.YtlgmabibcpkdmaaW.PrintWords
open Go.Proofs.Ytlgmabibcpkdmaa.PAll (S52 k52 k52_mk)
set_option linter.unusedVariables false
set_option linter.unusedSimpArgs false
theorem listed {α : Type} {P : Nat → α → Prop} (n : Nat) (h : ∀ i,i < n → ∃ p,P i p) : ∃ l : List α,l.length = n ∧ ∀ i p,l[i]? = some p → P i p:=by
  induction n with
  | zero => exact ⟨[],rfl,fun i p hi => by simp at hi⟩
  | succ n ih =>
    obtain ⟨l,hl,hp⟩:=ih (fun i hi => h i (by omega))
    obtain ⟨p,hpn⟩:=h n (by omega)
    refine ⟨l ++ [p],by rw [List.length_append,hl]; rfl,fun i q hq => ?_⟩
    by_cases hi : i < l.length
    · rw [List.getElem?_append_left hi] at hq; exact hp i q hq
    · rw [List.getElem?_append_right (by omega)] at hq
      by_cases h0 : i - l.length = 0
      · rw [h0] at hq
        simp at hq
        subst hq
        have : i = n:=by omega
        rw [this]; exact hpn
      · rw [List.getElem?_eq_none (by simp; omega)] at hq; cases hq
theorem list4 {cs : List Value} (h : cs.length = 4) : ∃ c0 c1 c2 c3,cs = [c0,c1,c2,c3]:=by
  match cs,h with
  | [c0,c1,c2,c3],_ => exact ⟨c0,c1,c2,c3,rfl⟩
section
variable {H : Type} {enc : TypeId × Value → H} {W : World} {base : Nat} {spare : Nat → Bool} {held : Bool}
theorem cells3 : Try.prog.cellsOf 3 = 1:=by kernel_rfl
theorem cells9 : Try.prog.cellsOf 9 = 1:=by kernel_rfl
theorem cells52 : Try.prog.cellsOf 52 = 4:=by kernel_rfl
theorem int_of {t : TypeId} {n : Nat} {c : Value} {y : Option (DataW H × List MemPlace)} (ht : Try.prog.underlying t = some (.int .i64)) (h : DataW.trod enc Try.prog W base spare held n t [c] = y) (hy : y.isSome = true) : ∃ a : Int,c = .int .i64 a ∧ (Lit.int .i64 a).wf = true:=by
  obtain ⟨x,rfl⟩:=Option.isSome_iff_exists.1 hy
  obtain ⟨a,hc,_,hw⟩:=DataW.trod_int ht h
  simp at hc
  exact ⟨a,hc,hw⟩
theorem cell_of {n : Nat} {cs : List Value} {y : Option (DataW H × List MemPlace)} (h : DataW.trod enc Try.prog W base spare held n 52 cs = y) (hy : y.isSome = true) : ∃ x : S52,cs = [.int .i64 x.f0,.int .i64 x.f1,.int .i64 x.f2,.string x.f3] ∧ x.f3.size ≤ maxLen:=by
  obtain ⟨x,rfl⟩:=Option.isSome_iff_exists.1 hy
  obtain ⟨xs,m,_,_,hcl,hlen,hx⟩:=DataW.trod_struct Try.underlying52 h
  obtain ⟨c0,c1,c2,c3,rfl⟩:=list4 (hcl.trans cells52)
  have h0:=hx 0 _ rfl
  change DataW.trod enc Try.prog W base spare held m 3 (([c0,c1,c2,c3].drop 0).take (Try.prog.cellsOf 3)) = xs[0]? at h0
  rw [cells3] at h0
  have h1:=hx 1 _ rfl
  change DataW.trod enc Try.prog W base spare held m 3 (([c0,c1,c2,c3].drop 1).take (Try.prog.cellsOf 3)) = xs[1]? at h1
  rw [cells3] at h1
  have h2:=hx 2 _ rfl
  change DataW.trod enc Try.prog W base spare held m 3 (([c0,c1,c2,c3].drop 2).take (Try.prog.cellsOf 3)) = xs[2]? at h2
  rw [cells3] at h2
  have h3:=hx 3 _ rfl
  change DataW.trod enc Try.prog W base spare held m 9 (([c0,c1,c2,c3].drop 3).take (Try.prog.cellsOf 9)) = xs[3]? at h3
  rw [cells9] at h3
  have hl : xs.length = 4:=hlen
  simp only [List.drop_zero,List.drop_succ_cons,List.take_succ_cons,List.take_zero] at h0 h1 h2 h3
  obtain ⟨a0,rfl,_⟩:=int_of Try.underlying3 h0 (by simp [hl])
  obtain ⟨a1,rfl,_⟩:=int_of Try.underlying3 h1 (by simp [hl])
  obtain ⟨a2,rfl,_⟩:=int_of Try.underlying3 h2 (by simp [hl])
  obtain ⟨z3,e3⟩:=Option.isSome_iff_exists.1 (show xs[3]?.isSome = true by simp [hl])
  obtain ⟨s3,g3,hs3⟩:=DataW.trod_string Try.underlying9 (h3.trans e3)
  simp at g3
  subst g3
  exact ⟨⟨a0,a1,a2,s3⟩,rfl,by first | exact hs3.2 | exact hs3 | exact hs3.1⟩
theorem cells_of {n : Nat} {c : Value} {y : Option (DataW H × List MemPlace)} (h : DataW.trod enc Try.prog W base spare held n 22 [c] = y) (hy : y.isSome = true) : ∃ (A : Option Addr) (cp : Nat) (l : List S52),c = .slice A l.length cp ∧ Kd.C k52 W A l.length l ∧ l.length ≤ cp ∧ l.length ≤ maxLen ∧ ∀ x ∈ l,x.f3.size ≤ maxLen:=by
  obtain ⟨x,rfl⟩:=Option.isSome_iff_exists.1 hy
  rcases DataW.trod_slice Try.underlying22 h with ⟨hcs,_⟩ | ⟨a,len,cap,elems,rest,m,_,hcs,_,hb,hl,hm,hlen,hel,_⟩
  · simp at hcs
    subst hcs
    exact ⟨none,0,[],rfl,⟨rfl,by decide,fun h => absurd h (by decide)⟩,Nat.le_refl _,by decide,fun x hx => by cases hx⟩
  · simp at hcs
    subst hcs
    rw [cells52] at hel
    obtain ⟨l,hll,hp⟩:=listed (P:=fun i (p : S52) => p.f3.size ≤ maxLen ∧ ∀ j u,[(.int .i64 p.f0 : Value),.int .i64 p.f1,.int .i64 p.f2,.string p.f3][j]? = some u → W.cell? (a.add (i * 4 + j)) = some u) len (fun i hi => by
      have h1:=hel i hi
      have h2 : elems[i]?.isSome = true:=by rw [List.getElem?_eq_getElem (by omega)]; rfl
      rw [← h1] at h2
      rcases hc : W.cells? base (a.add (i * 4)) 4 with _ | cs
      · rw [hc] at h2; simp at h2
      · rw [hc,Option.bind_some] at h2
        obtain ⟨p,rfl,hps⟩:=cell_of rfl h2
        refine ⟨p,hps,fun j u hu => ?_⟩
        have h3:=(World.cells?_some hc)
        have hj : j < 4:=by
          rcases Nat.lt_or_ge j 4 with h | h
          · exact h
          · rw [List.getElem?_eq_none (by simpa using h)] at hu; cases hu
        have h4:=h3.2.2 j hj
        rw [hu] at h4
        rw [← h4]
        exact congrArg W.cell? (Addr.add_add a (i * 4) j).symm)
    exact ⟨some a,cap,l,by rw [hll],⟨rfl,by rw [hll]; exact Nat.le_trans hl hm,fun _ => ⟨a,rfl,fun j p hj => ⟨_,rfl,k52_mk W p,fun i u hu => (hp j p hj).2 i u hu⟩⟩⟩,by rw [hll]; exact hl,by rw [hll]; exact Nat.le_trans hl hm,
      fun x hx => by obtain ⟨j,hj,rfl⟩:=List.getElem_of_mem hx; exact (hp j _ (List.getElem?_eq_getElem hj)).1⟩
set_option maxRecDepth 100000 in
theorem cells_open {r : Reach} {b0 : Nat} {v : Value} {d : DataW H} {p : List MemPlace} (hv : Value.okWide Try.prog W r b0 22 v) (h : DataW.Trod enc Try.prog W base spare held 22 v d p) :
    ∃ (A : Option Addr) (c : Nat) (l : List S52),v = .slice A l.length c ∧ Kd.C k52 W A l.length l ∧ l.length ≤ c ∧ l.length ≤ maxLen ∧ ∀ x ∈ l,x.f3.size ≤ maxLen:=by
  obtain ⟨a,len,cap,rfl⟩:=okWide_slice (P:=Try.prog) (w:=W) (r:=r) (base:=b0) (v:=v) Try.underlying22 hv
  obtain ⟨fuel,hf⟩:=h
  exact cells_of (y:=some (d,p)) hf rfl
end
end Go.Proofs.Ytlgmabibcpkdmaa.Th
end
section
namespace Go.Proofs.Ytlgmabibcpkdmaa.PAll
open Go.RowKit Go.Proofs.YtlgmabibcpkdmaaW.PrintWords Go.Proofs.YtlgmabibcpkdmaaW.PrintLast Go.Proofs.YtlgmabibcpkdmaaW.PrintMore
set_option linter.unusedVariables false
set_option linter.unusedSimpArgs false
theorem al_c (W : World) : Calls Try.prog 10 #[] W fun e w' => e = .returned (.bool true) ∧ Below W.heap.size W w':=maquettelaw15_alive.calls 60 true W (alive_k 60 (by decide))
theorem ix_c (W : World) (A : Option Addr) (c : Nat) (s : List S41) (h : Kd.C k41 W A s.length s) (hc : s.length ≤ c) : Calls Try.prog 19 #[.slice A s.length c] W fun e w' => e = .returned (.tuple #[.string (idxR s).1,.bool (idxR s).2]) ∧ Below W.heap.size W w':=sheet_Index.calls A c s _ _ W h hc (index_k s)
theorem sl_c (W : World) (A : Option Addr) (c : Nat) (s : List S41) (h : Kd.C k41 W A s.length s) (hc : s.length ≤ c) (hs : s.length ≤ 40) : Calls Try.prog 22 #[.slice A s.length c] W fun e w' => (∃ A2 c2,e = .returned (.slice A2 (s.map cvS).length c2) ∧ Kd.C k81 w' A2 (s.map cvS).length (s.map cvS) ∧ (s.map cvS).length ≤ c2) ∧ Below W.heap.size W w':=by
  refine (maquettelaw15_slots.calls 100 A c s (s.map cvS) W h hc (slots_k s (by omega) 100 (by omega))).mono ?_
  rintro e w' ⟨v,rfl,hr,hb⟩
  obtain ⟨A2,c2,rfl⟩:=Kd.R_slice hr
  have hrd:=Kd.R_reads' hr
  exact ⟨⟨A2,c2,rfl,hrd.2.2,hrd.2.1⟩,hb⟩
theorem ri_c (W : World) (A : Option Addr) (c : Nat) (s : List S41) (h : Kd.C k81 W A (s.map cvS).length (s.map cvS)) (hc : (s.map cvS).length ≤ c) : Calls Try.prog 23 #[.slice A (s.map cvS).length c] W fun e w' => e = .returned (.tuple #[.string (idxR s).1,.bool (idxR s).2]) ∧ Below W.heap.size W w':=maquetteref13_Index.calls 60 A c _ _ _ W h hc (ridx_k s 60 (by decide))
theorem lf_c (W : World) (A : Option Addr) (c : Nat) (s : List S52) (h : Kd.C k52 W A s.length s) (hc : s.length ≤ c) : Calls Try.prog 11 #[.slice A s.length c] W fun e w' => e = .returned (.tuple #[.string (leafR s).1,.bool (leafR s).2]) ∧ Below W.heap.size W w':=sheet_Leaf.calls A c s _ _ W h hc (leaf_k s)
theorem ce_c (W : World) (A : Option Addr) (c : Nat) (s : List S52) (h : Kd.C k52 W A s.length s) (hc : s.length ≤ c) (hs : s.length ≤ 40) : Calls Try.prog 15 #[.slice A s.length c] W fun e w' => (∃ A2 c2,e = .returned (.slice A2 (s.map cvC).length c2) ∧ Kd.C k79 w' A2 (s.map cvC).length (s.map cvC) ∧ (s.map cvC).length ≤ c2) ∧ Below W.heap.size W w':=by
  refine (maquettelaw15_cells.calls 100 A c s (s.map cvC) W h hc (cells_k s (by omega) 100 (by omega))).mono ?_
  rintro e w' ⟨v,rfl,hr,hb⟩
  obtain ⟨A2,c2,rfl⟩:=Kd.R_slice hr
  have hrd:=Kd.R_reads' hr
  exact ⟨⟨A2,c2,rfl,hrd.2.2,hrd.2.1⟩,hb⟩
theorem rl_c (W : World) (A : Option Addr) (c : Nat) (s : List S52) (h : Kd.C k79 W A (s.map cvC).length (s.map cvC)) (hc : (s.map cvC).length ≤ c) : Calls Try.prog 24 #[.slice A (s.map cvC).length c] W fun e w' => e = .returned (.tuple #[.string (leafR s).1,.bool (leafR s).2]) ∧ Below W.heap.size W w':=maquetteref13_Leaf.calls 420 A c _ _ _ W h hc (rleaf_k s 420 (by decide))
theorem fi_c (W : World) (A : Option Addr) (c : Nat) (s : List S52) (h : Kd.C k52 W A s.length s) (hc : s.length ≤ c) : Calls Try.prog 26 #[.slice A s.length c] W fun e w' => e = .returned (.bool (leafR s).2) ∧ Below W.heap.size W w':=sheet_Fits.calls A c s _ W h hc (fits_k s)
theorem ch_c (W : World) (nx : Int) (pc : ByteArray) (h : pc.size ≤ 300) : Calls Try.prog 16 #[.int .i64 nx,.string pc] W fun e w' => e = .returned (.tuple #[.string (chA nx pc).1,.bool (chA nx pc).2]) ∧ Below W.heap.size W w':=sheet_Chain.calls 12 nx pc _ _ W (chain_k nx pc (by omega) 12 (by decide))
theorem rc_c (W : World) (nx : Int) (pc : ByteArray) : Calls Try.prog 25 #[.int .i64 nx,.string pc] W fun e w' => e = .returned (.tuple #[.string (chA nx pc).1,.bool (chA nx pc).2]) ∧ Below W.heap.size W w':=maquetteref13_Chain.calls 12 nx pc _ _ W (rchain_k nx pc 12 (by decide))
structure PgC (a : ByteArray) (s : List S41) (sb : Bool) (c : List S52) (cb : Bool) (n : Int) (q : ByteArray) (lb : Bool) (kd : Int) : Prop where
  sl : ∀ W : World,Calls Try.prog 20 #[.string a] W fun e w' => (∃ A2 c2,e = .returned (.tuple #[.slice A2 s.length c2,.bool sb]) ∧ Kd.C k41 w' A2 s.length s ∧ s.length ≤ c2) ∧ Below W.heap.size W w'
  rs : ∀ W : World,Calls Try.prog 27 #[.string a] W fun e w' => (∃ A2 c2,e = .returned (.tuple #[.slice A2 (s.map cvS).length c2,.bool sb]) ∧ Kd.C k81 w' A2 (s.map cvS).length (s.map cvS) ∧ (s.map cvS).length ≤ c2) ∧ Below W.heap.size W w'
  ce : ∀ W : World,Calls Try.prog 12 #[.string a] W fun e w' => (∃ A2 c2,e = .returned (.tuple #[.slice A2 c.length c2,.bool cb]) ∧ Kd.C k52 w' A2 c.length c ∧ c.length ≤ c2) ∧ Below W.heap.size W w'
  rc : ∀ W : World,Calls Try.prog 28 #[.string a] W fun e w' => (∃ A2 c2,e = .returned (.tuple #[.slice A2 (c.map cvC).length c2,.bool cb]) ∧ Kd.C k79 w' A2 (c.map cvC).length (c.map cvC) ∧ (c.map cvC).length ≤ c2) ∧ Below W.heap.size W w'
  li : ∀ W : World,Calls Try.prog 17 #[.string a] W fun e w' => e = .returned (.tuple #[.int .i64 n,.string q,.bool lb]) ∧ Below W.heap.size W w'
  rl : ∀ W : World,Calls Try.prog 29 #[.string a] W fun e w' => e = .returned (.tuple #[.int .i64 n,.string q,.bool lb]) ∧ Below W.heap.size W w'
  ki : ∀ W : World,Calls Try.prog 18 #[.string a] W fun e w' => e = .returned (.int .u8 kd) ∧ Below W.heap.size W w'
  ss : ∀ (W : World) (A B : Option Addr) (c1 c2 : Nat),Kd.C k41 W A s.length s → s.length ≤ c1 → Kd.C k81 W B (s.map cvS).length (s.map cvS) → (s.map cvS).length ≤ c2 → Calls Try.prog 21 #[.slice A s.length c1,.slice B (s.map cvS).length c2] W fun e w' => e = .returned (.bool true) ∧ Below W.heap.size W w'
  sc : ∀ (W : World) (A B : Option Addr) (c1 c2 : Nat),Kd.C k52 W A c.length c → c.length ≤ c1 → Kd.C k79 W B (c.map cvC).length (c.map cvC) → (c.map cvC).length ≤ c2 → Calls Try.prog 14 #[.slice A c.length c1,.slice B (c.map cvC).length c2] W fun e w' => e = .returned (.bool true) ∧ Below W.heap.size W w'
  some_ : (sb = true ∨ cb = true ∨ lb = true) → 0 < a.size ∧ bt a 0 = kd
  none_ : sb = false → cb = false → lb = false → kd = 0
theorem pg_c (a : ByteArray) (ha : a.size ≤ 1000000) : ∃ s sb c cb n q lb kd,PgC a s sb c cb n q lb kd:=by
  obtain ⟨⟨s,sb⟩,⟨c,cb⟩,⟨n,q,lb⟩,h1,h2,h3,g1,g2,g3,hk2,f1,f2,f3⟩:=page_same a ha
  have sl : s.length ≤ 1000:=slots_len h1
  have cl : c.length ≤ 1000:=cells_len h2
  obtain ⟨bs,es,hs⟩:=sameSlots_k s (s.map cvS) (by omega) 2000 (by omega)
  obtain ⟨bc,ec,hc⟩:=sameCells_k c (c.map cvC) (by omega) 2000 (by omega)
  have hs1 : bs = true:=hs.2 rfl
  have hc1 : bc = true:=hc.2 rfl
  subst hs1; subst hc1
  refine ⟨s,sb,c,cb,n,q,lb,_,?_,?_,?_,?_,?_,?_,fun W => sheet_Kind.calls 2000 a _ W (hk2 2000 (by decide)),?_,?_,?_,?_⟩
  · intro W
    refine (sheet_Slots.calls 2000 a s sb W (h1 2000 (by decide))).mono ?_
    rintro e w' ⟨v,rfl,hr,hb⟩
    obtain ⟨A2,c2,rfl⟩:=Kd.R_slice hr
    have hrd:=Kd.R_reads' hr
    exact ⟨⟨A2,c2,rfl,hrd.2.2,hrd.2.1⟩,hb⟩
  · intro W
    refine (maquetteref13_Slots.calls 2000 a (s.map cvS) sb W (g1 2000 (by decide))).mono ?_
    rintro e w' ⟨v,rfl,hr,hb⟩
    obtain ⟨A2,c2,rfl⟩:=Kd.R_slice hr
    have hrd:=Kd.R_reads' hr
    exact ⟨⟨A2,c2,rfl,hrd.2.2,hrd.2.1⟩,hb⟩
  · intro W
    refine (sheet_Cells.calls 2000 a c cb W (h2 2000 (by decide))).mono ?_
    rintro e w' ⟨v,rfl,hr,hb⟩
    obtain ⟨A2,c2,rfl⟩:=Kd.R_slice hr
    have hrd:=Kd.R_reads' hr
    exact ⟨⟨A2,c2,rfl,hrd.2.2,hrd.2.1⟩,hb⟩
  · intro W
    refine (maquetteref13_Cells.calls 2000 a (c.map cvC) cb W (g2 2000 (by decide))).mono ?_
    rintro e w' ⟨v,rfl,hr,hb⟩
    obtain ⟨A2,c2,rfl⟩:=Kd.R_slice hr
    have hrd:=Kd.R_reads' hr
    exact ⟨⟨A2,c2,rfl,hrd.2.2,hrd.2.1⟩,hb⟩
  · intro W; exact sheet_Link.calls 2000 a n q lb W (h3 2000 (by decide))
  · intro W; exact maquetteref13_Link.calls 2000 a n q lb W (g3 2000 (by decide))
  · intro W A B c1 c2 i1 i2 i3 i4; exact maquettelaw15_sameSlots.calls 2000 A c1 s B c2 (s.map cvS) true W i1 i2 i3 i4 es
  · intro W A B c1 c2 i1 i2 i3 i4; exact maquettelaw15_sameCells.calls 2000 A c1 c B c2 (c.map cvC) true W i1 i2 i3 i4 ec
  · intro h
    by_cases hs : sb = true
    · have:=fb_bt (f1 hs); rw [if_pos hs]; exact this
    · rw [if_neg hs]
      by_cases hc : cb = true
      · have:=fb_bt (f2 hc); rw [if_pos hc]; exact this
      · rw [if_neg hc]
        have hl : lb = true:=by rcases h with h | h | h <;> first | exact absurd h hs | exact absurd h hc | exact h
        have:=fb_bt (f3 hl)
        show 0 < a.size ∧ bt a 0 = (if lb = true then 67 else 0)
        rw [if_pos hl]; exact this
  · intro i1 i2 i3
    show (if sb = true then (73 : Int) else if cb = true then 76 else if lb = true then 67 else 0) = 0
    rw [i1,i2,i3]; rfl
set_option maxHeartbeats 16000000 in
set_option maxRecDepth 100000 in
theorem tells_any (w : World) (A0 : Option Addr) (c0 : Nat) (s : List S41) (A1 : Option Addr) (c1 : Nat) (l : List S52) (nx : Int) (pc b : ByteArray)
    (hr0 : Kd.C k41 w A0 s.length s) (hc0 : s.length ≤ c0) (hr1 : Kd.C k52 w A1 l.length l) (hc1 : l.length ≤ c1) :
    Calls Try.prog 8 #[.slice A0 s.length c0,.slice A1 l.length c1,.int .i64 nx,.string pc,.string b] w fun e w' => e = .returned (.bool true) ∧ Below w.heap.size w w':=by
  have hu41:=Try.underlying41
  have hu52:=Try.underlying52
  have hu79:=Try.underlying79
  have hu81:=Try.underlying81
  by_cases g1 : s.length ≤ 40
  case neg =>
    have d1 : decide ((40 : Int) < (s.length : Int)) = true:=decide_eq_true (by omega)
    have d1b : decide (40 < s.length) = true:=decide_eq_true (by omega)
    have HB:=Aside0.mk (Below.refl w.heap.size w)
    clear g1 hr0 hc0 hr1 hc1
    go_enter Try.func8,Try.ntmps8
    go_wp2_with (first | (go_at_call 10; (with_reducible refine (al_c _).mono ?_); rintro e w1 ⟨rfl,hb⟩; have HB1:=Aside0.mk (below_step HB.out hb); clear HB; have HB:=HB1; clear HB1 hb))
    go_ret
    exact ⟨rfl,HB.out⟩
  case pos =>
  have d1 : decide ((40 : Int) < (s.length : Int)) = false:=decide_eq_false (by omega)
  have d1b : decide (40 < s.length) = false:=decide_eq_false (by omega)
  by_cases g2 : l.length ≤ 40
  case neg =>
    have d2 : decide ((40 : Int) < (l.length : Int)) = true:=decide_eq_true (by omega)
    have d2b : decide (40 < l.length) = true:=decide_eq_true (by omega)
    have HB:=Aside0.mk (Below.refl w.heap.size w)
    clear g1 g2 hr0 hc0 hr1 hc1
    go_enter Try.func8,Try.ntmps8
    go_wp2_with (first | (go_at_call 10; (with_reducible refine (al_c _).mono ?_); rintro e w1 ⟨rfl,hb⟩; have HB1:=Aside0.mk (below_step HB.out hb); clear HB; have HB:=HB1; clear HB1 hb))
    go_ret
    exact ⟨rfl,HB.out⟩
  case pos =>
  have d2 : decide ((40 : Int) < (l.length : Int)) = false:=decide_eq_false (by omega)
  have d2b : decide (40 < l.length) = false:=decide_eq_false (by omega)
  by_cases g3 : pc.size ≤ 300
  case neg =>
    have d3 : decide ((300 : Int) < (pc.size : Int)) = true:=decide_eq_true (by omega)
    have d3b : decide (300 < pc.size) = true:=decide_eq_true (by omega)
    have HB:=Aside0.mk (Below.refl w.heap.size w)
    clear g1 g2 g3 hr0 hc0 hr1 hc1
    go_enter Try.func8,Try.ntmps8
    go_wp2_with (first | (go_at_call 10; (with_reducible refine (al_c _).mono ?_); rintro e w1 ⟨rfl,hb⟩; have HB1:=Aside0.mk (below_step HB.out hb); clear HB; have HB:=HB1; clear HB1 hb))
    go_ret
    exact ⟨rfl,HB.out⟩
  case pos =>
  have d3 : decide ((300 : Int) < (pc.size : Int)) = false:=decide_eq_false (by omega)
  have d3b : decide (300 < pc.size) = false:=decide_eq_false (by omega)
  by_cases g4 : b.size ≤ 300
  case neg =>
    have d4 : decide ((300 : Int) < (b.size : Int)) = true:=decide_eq_true (by omega)
    have d4b : decide (300 < b.size) = true:=decide_eq_true (by omega)
    have HB:=Aside0.mk (Below.refl w.heap.size w)
    clear g1 g2 g3 g4 hr0 hc0 hr1 hc1
    go_enter Try.func8,Try.ntmps8
    go_wp2_with (first | (go_at_call 10; (with_reducible refine (al_c _).mono ?_); rintro e w1 ⟨rfl,hb⟩; have HB1:=Aside0.mk (below_step HB.out hb); clear HB; have HB:=HB1; clear HB1 hb))
    go_ret
    exact ⟨rfl,HB.out⟩
  case pos =>
  have d4 : decide ((300 : Int) < (b.size : Int)) = false:=decide_eq_false (by omega)
  have d4b : decide (300 < b.size) = false:=decide_eq_false (by omega)
  have hix:=fun (W : World) (hb : Below w.heap.size w W) => ix_c W A0 c0 s (Kd.C_below hr0 hb) hc0
  have hsl:=fun (W : World) (hb : Below w.heap.size w W) => sl_c W A0 c0 s (Kd.C_below hr0 hb) hc0 g1
  have hri:=fun (W : World) (A : Option Addr) (c : Nat) h hc => ri_c W A c s h hc
  have hlf:=fun (W : World) (hb : Below w.heap.size w W) => lf_c W A1 c1 l (Kd.C_below hr1 hb) hc1
  have hce:=fun (W : World) (hb : Below w.heap.size w W) => ce_c W A1 c1 l (Kd.C_below hr1 hb) hc1 g2
  have hrl:=fun (W : World) (A : Option Addr) (c : Nat) h hc => rl_c W A c l h hc
  have hfi:=fun (W : World) (hb : Below w.heap.size w W) => fi_c W A1 c1 l (Kd.C_below hr1 hb) hc1
  have hch:=fun (W : World) => ch_c W nx pc g3
  have hrc:=fun (W : World) => rc_c W nx pc
  have z1:=size_idxR s
  have z2:=size_leafR l
  have z3:=size_chA nx pc
  obtain ⟨⟨P,p⟩,hP⟩ : ∃ x,x = idxR s:=⟨_,rfl⟩
  obtain ⟨⟨L,lb⟩,hL⟩ : ∃ x,x = leafR l:=⟨_,rfl⟩
  obtain ⟨⟨C,cb⟩,hC⟩ : ∃ x,x = chA nx pc:=⟨_,rfl⟩
  rw [← hP] at hix hri z1
  rw [← hL] at hlf hrl hfi z2
  rw [← hC] at hch hrc z3
  simp only [] at hix hri hlf hrl hfi hch hrc z1 z2 z3
  obtain ⟨Y,hY⟩ : ∃ Y : List ByteArray,Y = [b,P,L,C]:=⟨_,rfl⟩
  have hm : ∀ a ∈ Y,a.size ≤ 1000000:=by
    intro a ha
    rw [hY] at ha
    simp only [List.mem_cons,List.not_mem_nil,or_false] at ha
    rcases ha with h | h | h | h
    · rw [h]; omega
    · rw [h]; exact z1
    · rw [h]; exact z2
    · rw [h]; exact z3
  have hpg : ∀ (i : Nat),i < Y.length → ∃ s sb c cb n q lb kd,PgC (rdOf ByteArray.empty Y (i : Int)) s sb c cb n q lb kd:=by
    intro i hi
    have er : rdOf ByteArray.empty Y (i : Int) = Y[i]:=by
      unfold rdOf
      rw [Int.toNat_natCast,List.getD,List.getElem?_eq_getElem hi]; rfl
    rw [er]
    refine pg_c _ ?_
    exact hm _ (List.getElem_mem hi)
  have hn : Y.length = 4:=by rw [hY]; rfl
  clear hP hL hC z1 z2 z3 hm
  generalize s.map cvS = m81 at hsl hri
  generalize l.map cvC = m79 at hce hrl
  have HR1:=Aside0.mk hr1
  have HIX:=Aside0.mk hix
  have HSL:=Aside0.mk hsl
  have HRI:=Aside0.mk hri
  have HLF:=Aside0.mk hlf
  have HCE:=Aside0.mk hce
  have HRL:=Aside0.mk hrl
  have HFI:=Aside0.mk hfi
  have HCH:=Aside0.mk hch
  have HRC:=Aside0.mk hrc
  have HPG:=Aside0.mk hpg
  have NY:=Aside0.mk hY
  have HN:=Aside0.mk hn
  have HG2:=Aside0.mk g2
  clear hix hsl hri hlf hce hrl hfi hch hrc hpg hr0 hc0 hr1 hc1 g1 g2 g3 g4 hY hn
  have e1 : (P.toList != P.toList) = false:=bne_self_eq_false _
  have e2 : (L.toList != L.toList) = false:=bne_self_eq_false _
  have e3 : (C.toList != C.toList) = false:=bne_self_eq_false _
  have e4 : (p != p) = false:=bne_self_eq_false _
  have e5 : (lb != lb) = false:=bne_self_eq_false _
  have e6 : (cb != cb) = false:=bne_self_eq_false _
  have HB:=Aside0.mk (Below.refl w.heap.size w)
  go_enter Try.func8,Try.ntmps8
  go_wp2_with (first | (go_at_call 10; (with_reducible refine (al_c _).mono ?_); rintro e w1 ⟨rfl,hb⟩; have HB1:=Aside0.mk (below_step HB.out hb); clear HB; have HB:=HB1; clear HB1 hb))
  clear d1 d1b d2 d2b d3 d3b d4 d4b
  go_loopg [67] l.length (fun kq v67 W => ∃ i : Int,v67 = .int .i64 i ∧ Aside0 (0 ≤ i ∧ i + kq = l.length) ∧ Aside0 (Below w.heap.size w W))
  case atStart => exact ⟨0,rfl,⟨by omega⟩,HB⟩
  case round =>
    clear HB
    obtain ⟨i,rfl,HI,HB⟩:=hrel
    cases gk with
    | succ gk =>
      have hi : 0 ≤ i ∧ i < (l.length : Int):=by have:=HI.out; omega
      have c0 : decide (i < (l.length : Int)) = true:=decide_eq_true hi.2
      obtain ⟨ad280,e280,hx280_0,hx280_1,hx280_2,hx280_3⟩:=at_T52 HR1.out i (by omega) (by omega)
      cases e280
      replace hx280_0:=(HB.out.cell (World.block_lt_of_cell? w _ hx280_0)).trans hx280_0
      replace hx280_1:=(HB.out.cell (World.block_lt_of_cell? w _ hx280_1)).trans hx280_1
      replace hx280_2:=(HB.out.cell (World.block_lt_of_cell? w _ hx280_2)).trans hx280_2
      replace hx280_3:=(HB.out.cell (World.block_lt_of_cell? w _ hx280_3)).trans hx280_3
      obtain ⟨x0,hx0⟩ : ∃ x,x = rd_T52 l i:=⟨_,rfl⟩
      rw [← hx0] at hx280_0 hx280_1 hx280_2 hx280_3
      obtain ⟨y0,y1,y2,y3⟩:=x0
      simp only [] at hx280_0 hx280_1 hx280_2 hx280_3
      have p280 : (0 ≤ i) = True:=eq_true (by omega)
      have q280 : (i < (l.length : Int)) = True:=eq_true hi.2
      clear hx0
      by_cases hz : y3.size ≤ 300
      · have f1 : decide ((300 : Int) < (y3.size : Int)) = false:=decide_eq_false (by omega)
        have f2 : decide (300 < y3.size) = false:=decide_eq_false (by omega)
        clear hz hi
        go_wp2_with (first | ((with_reducible refine gate_dst (N:=12) rfl ?_); (try (refine gate_guard (by rfl) ?_; dsimp only)); refine box_event ?hg (N:=12) ?hd (cs:=#[.int .i64 0,.int .i64 0,.int .i64 0,.string (⟨#[]⟩ : ByteArray)]) (t:=52) ?hr ?_; (case hd => rfl); (case hg => rfl); (case hr => first | (go_simp; done) | (go_simp; rfl)); intro gb281 hg w22 hbox hb; have n0_:=Aside0.mk (below_step (by repeat (first | (with_reducible first | exact HB.out | apply below_alloc | apply pw_below_drewN | apply below_drew1) | exact HB.out)) hb); have n1_:=Aside0.mk (hbox); have n2_:=Aside0.mk ((by rw [hg]; exact (below_size (by repeat (first | (with_reducible first | exact HB.out | apply below_alloc | apply pw_below_drewN | apply below_drew1) | exact HB.out))) : w.heap.size ≤ gb281)); have n3_:=Aside0.mk ((by rw [hg]; exact (below_size (by repeat (first | (with_reducible first | exact HB.out | apply below_alloc | apply pw_below_drewN | apply below_drew1) | exact HB.out))) : w.heap.size ≤ gb281)); clear HB; have HB:=n0_; have BK281:=n1_; have GW281:=n2_; have GE281:=n3_; clear n0_ n1_ n2_ n3_; clear hb hbox hg; have hcz23_0 : w22.cell? ⟨gb281,0,none⟩ = some (.int .i64 0):=(blk_cell BK281.out 0).trans rfl; have hcz23_1 : w22.cell? ⟨gb281,1,none⟩ = some (.int .i64 0):=(blk_cell BK281.out 1).trans rfl; have hcz23_2 : w22.cell? ⟨gb281,2,none⟩ = some (.int .i64 0):=(blk_cell BK281.out 2).trans rfl; have hcz23_3 : w22.cell? ⟨gb281,3,none⟩ = some (.string (⟨#[]⟩ : ByteArray)):=(blk_cell BK281.out 3).trans rfl; have hfz23_0:=blk_frozen BK281.out 0; have hfz23_1:=blk_frozen BK281.out 1; have hfz23_2:=blk_frozen BK281.out 2; have hfz23_3:=blk_frozen BK281.out 3))
        go_roundg gk
        case measure => omega
        case rel => exact ⟨wrap64 (i + 1),by first | rfl | (simp; done) | (simp [*]; done),⟨by have:=HI.out; have:=of_eq_true q280; rw [wrap64_id (by omega) (by have:=HG2.out; omega)]; omega⟩,⟨by repeat (first | (with_reducible first | exact HB.out | apply below_alloc | apply pw_below_drewN | apply below_drew1 | refine below_set ?_ GE281.out) | exact HB.out)⟩⟩
      · have f1 : decide ((300 : Int) < (y3.size : Int)) = true:=decide_eq_true (by omega)
        have f2 : decide (300 < y3.size) = true:=decide_eq_true (by omega)
        clear hz hi
        go_wp2_with (first | ((with_reducible refine gate_dst (N:=12) rfl ?_); (try (refine gate_guard (by rfl) ?_; dsimp only)); refine box_event ?hg (N:=12) ?hd (cs:=#[.int .i64 0,.int .i64 0,.int .i64 0,.string (⟨#[]⟩ : ByteArray)]) (t:=52) ?hr ?_; (case hd => rfl); (case hg => rfl); (case hr => first | (go_simp; done) | (go_simp; rfl)); intro gb281 hg w22 hbox hb; have n0_:=Aside0.mk (below_step (by repeat (first | (with_reducible first | exact HB.out | apply below_alloc | apply pw_below_drewN | apply below_drew1) | exact HB.out)) hb); have n1_:=Aside0.mk (hbox); have n2_:=Aside0.mk ((by rw [hg]; exact (below_size (by repeat (first | (with_reducible first | exact HB.out | apply below_alloc | apply pw_below_drewN | apply below_drew1) | exact HB.out))) : w.heap.size ≤ gb281)); have n3_:=Aside0.mk ((by rw [hg]; exact (below_size (by repeat (first | (with_reducible first | exact HB.out | apply below_alloc | apply pw_below_drewN | apply below_drew1) | exact HB.out))) : w.heap.size ≤ gb281)); clear HB; have HB:=n0_; have BK281:=n1_; have GW281:=n2_; have GE281:=n3_; clear n0_ n1_ n2_ n3_; clear hb hbox hg; have hcz23_0 : w22.cell? ⟨gb281,0,none⟩ = some (.int .i64 0):=(blk_cell BK281.out 0).trans rfl; have hcz23_1 : w22.cell? ⟨gb281,1,none⟩ = some (.int .i64 0):=(blk_cell BK281.out 1).trans rfl; have hcz23_2 : w22.cell? ⟨gb281,2,none⟩ = some (.int .i64 0):=(blk_cell BK281.out 2).trans rfl; have hcz23_3 : w22.cell? ⟨gb281,3,none⟩ = some (.string (⟨#[]⟩ : ByteArray)):=(blk_cell BK281.out 3).trans rfl; have hfz23_0:=blk_frozen BK281.out 0; have hfz23_1:=blk_frozen BK281.out 1; have hfz23_2:=blk_frozen BK281.out 2; have hfz23_3:=blk_frozen BK281.out 3))
        go_ret
        exact ⟨rfl,by repeat (first | (with_reducible first | exact HB.out | apply below_alloc | apply pw_below_drewN | apply below_drew1 | refine below_set ?_ GE281.out) | exact HB.out)⟩
    | zero =>
      have hi : i = (l.length : Int):=by have:=HI.out; omega
      subst hi
      have c0 : decide ((l.length : Int) < (l.length : Int)) = false:=decide_eq_false (by omega)
      have c0b : decide (l.length < l.length) = false:=decide_eq_false (by omega)
      clear HR1 HI
      go_wp2_with (first
        | (go_at_call 19; (with_reducible refine (HIX.out _ HB.out).mono ?_); rintro e w1 ⟨rfl,hb⟩; have HB1:=Aside0.mk (below_step HB.out hb); clear HB; have HB:=HB1; clear HB1 hb)
        | (go_at_call 22; (with_reducible refine (HSL.out _ HB.out).mono ?_); rintro e w1 ⟨⟨A2,c2,rfl,hk1,hk2⟩,hb⟩; have HK1:=Aside0.mk hk1; have HK2:=Aside0.mk hk2; have HB1:=Aside0.mk (below_step HB.out hb); clear HB; have HB:=HB1; clear HB1 hb hk1 hk2)
        | (go_at_call 23; (with_reducible refine (HRI.out _ _ _ HK1.out HK2.out).mono ?_); rintro e w1 ⟨rfl,hb⟩; have HB1:=Aside0.mk (below_step HB.out hb); clear HB; have HB:=HB1; clear HB1 hb HK1 HK2)
        | (go_at_call 11; (with_reducible refine (HLF.out _ HB.out).mono ?_); rintro e w1 ⟨rfl,hb⟩; have HB1:=Aside0.mk (below_step HB.out hb); clear HB; have HB:=HB1; clear HB1 hb)
        | (go_at_call 15; (with_reducible refine (HCE.out _ HB.out).mono ?_); rintro e w1 ⟨⟨A2,c2,rfl,hk1,hk2⟩,hb⟩; have HK1:=Aside0.mk hk1; have HK2:=Aside0.mk hk2; have HB1:=Aside0.mk (below_step HB.out hb); clear HB; have HB:=HB1; clear HB1 hb hk1 hk2)
        | (go_at_call 24; (with_reducible refine (HRL.out _ _ _ HK1.out HK2.out).mono ?_); rintro e w1 ⟨rfl,hb⟩; have HB1:=Aside0.mk (below_step HB.out hb); clear HB; have HB:=HB1; clear HB1 hb HK1 HK2)
        | (go_at_call 16; (with_reducible refine (HCH.out _).mono ?_); rintro e w1 ⟨rfl,hb⟩; have HB1:=Aside0.mk (below_step HB.out hb); clear HB; have HB:=HB1; clear HB1 hb)
        | (go_at_call 25; (with_reducible refine (HRC.out _).mono ?_); rintro e w1 ⟨rfl,hb⟩; have HB1:=Aside0.mk (below_step HB.out hb); clear HB; have HB:=HB1; clear HB1 hb)
        | (go_at_call 26; (with_reducible refine (HFI.out _ HB.out).mono ?_); rintro e w1 ⟨rfl,hb⟩; have HB1:=Aside0.mk (below_step HB.out hb); clear HB; have HB:=HB1; clear HB1 hb)
        | ((with_reducible refine gate_dst (N:=148) rfl ?_); (try (refine gate_guard (by rfl) ?_; dsimp only)); refine Kd.R_lit Kd.string _ 9 ?hg (N:=148) ?hd (xs:=([b,P,L,C] : List ByteArray)) (inner:=[.string b,.string P,.string L,.string C]) (ok:=fun _ => True) (okp:=fun _ => True) ?hr ?hp (fun _ hk => hk) trivial (Below.refl _ _) (Nat.le_refl _) (by simp) ?_; (case hd => rfl); (case hg => rfl); (case hr => first | (go_simp; done) | (go_simp; rfl)); (case hp => exact (Reps.one (show Kd.M Kd.string _ _ _ b [.string b] from rfl) (Reps.one (show Kd.M Kd.string _ _ _ P [.string P] from rfl) (Reps.one (show Kd.M Kd.string _ _ _ L [.string L] from rfl) (Reps.one (show Kd.M Kd.string _ _ _ C [.string C] from rfl) (Reps.none _ _)))))); intro v302 w52 ho53 hb hg_ hnew_; clear hg_ hnew_; (first | rw [← NY.out] at ho53 | (simp only [Int.reduceToNat] at ho53; rw [← NY.out] at ho53)); have n0_:=Aside0.mk (Kd.R_lower ho53 (below_size (by repeat (first | (with_reducible first | exact HB.out | apply below_alloc | apply pw_below_drewN | apply below_drew1) | exact HB.out)))); have n1_:=Aside0.mk (below_step (by repeat (first | (with_reducible first | exact HB.out | apply below_alloc | apply pw_below_drewN | apply below_drew1) | exact HB.out)) hb); clear HB; have HO303:=n0_; have HB:=n1_; clear n0_ n1_; clear hb ho53; obtain ⟨Ao54,co54,eo54⟩:=Kd.R_slice HO303.out; subst eo54))
      clear HIX HSL HRI HLF HCE HRL HFI HCH HRC e1 e2 e3 e4 e5 e6 NY
      go_loopg [150] 4 (fun kq v150 W => ∃ i : Int,v150 = .int .i64 i ∧ Aside0 (0 ≤ i ∧ i + kq = 4) ∧ Aside0 (Kd.R Kd.string 9 W w.heap.size (fun _ => True) (.slice Ao54 Y.length co54) Y) ∧ Aside0 (Below w.heap.size w W))
      case atStart => exact ⟨0,rfl,⟨by omega⟩,HO303,HB⟩
      case round =>
        clear HB HO303
        obtain ⟨i,rfl,HI,HO,HB⟩:=hrel
        cases gk with
        | zero =>
          have hi : i = (Y.length : Int):=by have:=HI.out; have:=HN.out; omega
          subst hi
          have c0 : decide ((Y.length : Int) < (Y.length : Int)) = false:=decide_eq_false (by omega)
          have c0b : decide (Y.length < Y.length) = false:=decide_eq_false (by omega)
          clear HI
          go_wp2
          go_ret
          exact ⟨rfl,HB.out⟩
        | succ gk =>
          have hi : 0 ≤ i ∧ i < (Y.length : Int):=by have:=HI.out; have:=HN.out; omega
          have c0 : decide (i < (Y.length : Int)) = true:=decide_eq_true (by omega)
          obtain ⟨s2,sb,t2,tb,n,q,lb2,kd,hpc⟩:=HPG.out i.toNat (by omega)
          rw [Int.toNat_of_nonneg hi.1] at hpc
          obtain ⟨ad304,e304,hx304_0⟩:=Kd.at_string (Kd.R_reads' HO.out).2.2 i (by omega) (by omega)
          cases e304
          have p304 : (0 ≤ i) = True:=eq_true (by omega)
          have q304 : (i < (Y.length : Int)) = True:=eq_true (by omega)
          generalize rdOf ByteArray.empty Y i = a at hpc hx304_0
          have hsome:=hpc.some_
          have hnone:=hpc.none_
          have HSL:=Aside0.mk hpc.sl
          have HRS:=Aside0.mk hpc.rs
          have HCE:=Aside0.mk hpc.ce
          have HRC:=Aside0.mk hpc.rc
          have HLI:=Aside0.mk hpc.li
          have HRL:=Aside0.mk hpc.rl
          have HKI:=Aside0.mk hpc.ki
          have HSS:=Aside0.mk hpc.ss
          have HSC:=Aside0.mk hpc.sc
          clear hpc HPG hi
          generalize s2.map cvS = m2 at HRS HSS
          generalize t2.map cvC = m3 at HRC HSC
          have u1 : (sb != sb) = false:=bne_self_eq_false _
          have u2 : (tb != tb) = false:=bne_self_eq_false _
          have u3 : (n != n) = false:=bne_self_eq_false _
          have u4 : (q.toList != q.toList) = false:=bne_self_eq_false _
          have u5 : (lb2 != lb2) = false:=bne_self_eq_false _
          have u6 : (kd != kd) = false:=bne_self_eq_false _
          have HS0:=Aside0.mk hsome
          have HN0:=Aside0.mk hnone
          clear hsome hnone
          cases sb with
          | true =>
            obtain ⟨sz0,bt0⟩:=HS0.out (.inl rfl)
            have hx14 : ∀ h : 0 < a.size,((a[0]'h).toNat : Int) = kd:=fun h => (bt_at a 0 h).trans bt0
            have qi14 : ((0 : Int) < (a.size : Int)) = True:=eq_true (by omega)
            have q14 : (0 < a.size) = True:=eq_true sz0
            clear bt0 sz0 HS0 HN0
            go_wp2_with (first | (go_at_call 20; (with_reducible refine (HSL.out _).mono ?_); rintro e w1 ⟨⟨A20,c20,rfl,hk1,hk2⟩,hb⟩; have K20:=Aside0.mk hk1; have J20:=Aside0.mk hk2; clear hk1 hk2; have HO1:=Aside0.mk (Kd.R_below HO.out hb); clear HO; have HO:=HO1; clear HO1; have HB1:=Aside0.mk (below_step HB.out hb); clear HB; have HB:=HB1; clear HB1 hb) | (go_at_call 27; (with_reducible refine (HRS.out _).mono ?_); rintro e w1 ⟨⟨A27,c27,rfl,hk1,hk2⟩,hb⟩; have N20:=Aside0.mk (Kd.C_below K20.out hb); clear K20; have K20:=N20; clear N20; have K27:=Aside0.mk hk1; have J27:=Aside0.mk hk2; clear hk1 hk2; have HO1:=Aside0.mk (Kd.R_below HO.out hb); clear HO; have HO:=HO1; clear HO1; have HB1:=Aside0.mk (below_step HB.out hb); clear HB; have HB:=HB1; clear HB1 hb) | (go_at_call 12; (with_reducible refine (HCE.out _).mono ?_); rintro e w1 ⟨⟨A12,c12,rfl,hk1,hk2⟩,hb⟩; have N20:=Aside0.mk (Kd.C_below K20.out hb); clear K20; have K20:=N20; clear N20; have N27:=Aside0.mk (Kd.C_below K27.out hb); clear K27; have K27:=N27; clear N27; have K12:=Aside0.mk hk1; have J12:=Aside0.mk hk2; clear hk1 hk2; have HO1:=Aside0.mk (Kd.R_below HO.out hb); clear HO; have HO:=HO1; clear HO1; have HB1:=Aside0.mk (below_step HB.out hb); clear HB; have HB:=HB1; clear HB1 hb) | (go_at_call 28; (with_reducible refine (HRC.out _).mono ?_); rintro e w1 ⟨⟨A28,c28,rfl,hk1,hk2⟩,hb⟩; have N20:=Aside0.mk (Kd.C_below K20.out hb); clear K20; have K20:=N20; clear N20; have N27:=Aside0.mk (Kd.C_below K27.out hb); clear K27; have K27:=N27; clear N27; have N12:=Aside0.mk (Kd.C_below K12.out hb); clear K12; have K12:=N12; clear N12; have K28:=Aside0.mk hk1; have J28:=Aside0.mk hk2; clear hk1 hk2; have HO1:=Aside0.mk (Kd.R_below HO.out hb); clear HO; have HO:=HO1; clear HO1; have HB1:=Aside0.mk (below_step HB.out hb); clear HB; have HB:=HB1; clear HB1 hb) | (go_at_call 17; (with_reducible refine (HLI.out _).mono ?_); rintro e w1 ⟨rfl,hb⟩; have N20:=Aside0.mk (Kd.C_below K20.out hb); clear K20; have K20:=N20; clear N20; have N27:=Aside0.mk (Kd.C_below K27.out hb); clear K27; have K27:=N27; clear N27; have N12:=Aside0.mk (Kd.C_below K12.out hb); clear K12; have K12:=N12; clear N12; have N28:=Aside0.mk (Kd.C_below K28.out hb); clear K28; have K28:=N28; clear N28; have HO1:=Aside0.mk (Kd.R_below HO.out hb); clear HO; have HO:=HO1; clear HO1; have HB1:=Aside0.mk (below_step HB.out hb); clear HB; have HB:=HB1; clear HB1 hb) | (go_at_call 29; (with_reducible refine (HRL.out _).mono ?_); rintro e w1 ⟨rfl,hb⟩; have N20:=Aside0.mk (Kd.C_below K20.out hb); clear K20; have K20:=N20; clear N20; have N27:=Aside0.mk (Kd.C_below K27.out hb); clear K27; have K27:=N27; clear N27; have N12:=Aside0.mk (Kd.C_below K12.out hb); clear K12; have K12:=N12; clear N12; have N28:=Aside0.mk (Kd.C_below K28.out hb); clear K28; have K28:=N28; clear N28; have HO1:=Aside0.mk (Kd.R_below HO.out hb); clear HO; have HO:=HO1; clear HO1; have HB1:=Aside0.mk (below_step HB.out hb); clear HB; have HB:=HB1; clear HB1 hb) | (go_at_call 21; (with_reducible refine (HSS.out _ _ _ _ _ K20.out J20.out K27.out J27.out).mono ?_); rintro e w1 ⟨rfl,hb⟩; have N20:=Aside0.mk (Kd.C_below K20.out hb); clear K20; have K20:=N20; clear N20; have N27:=Aside0.mk (Kd.C_below K27.out hb); clear K27; have K27:=N27; clear N27; have N12:=Aside0.mk (Kd.C_below K12.out hb); clear K12; have K12:=N12; clear N12; have N28:=Aside0.mk (Kd.C_below K28.out hb); clear K28; have K28:=N28; clear N28; have HO1:=Aside0.mk (Kd.R_below HO.out hb); clear HO; have HO:=HO1; clear HO1; have HB1:=Aside0.mk (below_step HB.out hb); clear HB; have HB:=HB1; clear HB1 hb) | (go_at_call 14; (with_reducible refine (HSC.out _ _ _ _ _ K12.out J12.out K28.out J28.out).mono ?_); rintro e w1 ⟨rfl,hb⟩; have N20:=Aside0.mk (Kd.C_below K20.out hb); clear K20; have K20:=N20; clear N20; have N27:=Aside0.mk (Kd.C_below K27.out hb); clear K27; have K27:=N27; clear N27; have N12:=Aside0.mk (Kd.C_below K12.out hb); clear K12; have K12:=N12; clear N12; have N28:=Aside0.mk (Kd.C_below K28.out hb); clear K28; have K28:=N28; clear N28; have HO1:=Aside0.mk (Kd.R_below HO.out hb); clear HO; have HO:=HO1; clear HO1; have HB1:=Aside0.mk (below_step HB.out hb); clear HB; have HB:=HB1; clear HB1 hb) | (go_at_call 18; (with_reducible refine (HKI.out _).mono ?_); rintro e w1 ⟨rfl,hb⟩; have N20:=Aside0.mk (Kd.C_below K20.out hb); clear K20; have K20:=N20; clear N20; have N27:=Aside0.mk (Kd.C_below K27.out hb); clear K27; have K27:=N27; clear N27; have N12:=Aside0.mk (Kd.C_below K12.out hb); clear K12; have K12:=N12; clear N12; have N28:=Aside0.mk (Kd.C_below K28.out hb); clear K28; have K28:=N28; clear N28; have HO1:=Aside0.mk (Kd.R_below HO.out hb); clear HO; have HO:=HO1; clear HO1; have HB1:=Aside0.mk (below_step HB.out hb); clear HB; have HB:=HB1; clear HB1 hb))
            go_roundg gk
            case measure => omega
            case rel => exact ⟨wrap64 (i + 1),by first | rfl | (simp; done) | (simp [*]; done),⟨by have:=HI.out; have:=of_eq_true q304; rw [wrap64_id (by omega) (by have:=HN.out; omega)]; omega⟩,HO,HB⟩
          | false =>
            cases tb with
            | true =>
              obtain ⟨sz0,bt0⟩:=HS0.out (.inr (.inl rfl))
              have hx14 : ∀ h : 0 < a.size,((a[0]'h).toNat : Int) = kd:=fun h => (bt_at a 0 h).trans bt0
              have qi14 : ((0 : Int) < (a.size : Int)) = True:=eq_true (by omega)
              have q14 : (0 < a.size) = True:=eq_true sz0
              clear bt0 sz0 HS0 HN0
              go_wp2_with (first | (go_at_call 20; (with_reducible refine (HSL.out _).mono ?_); rintro e w1 ⟨⟨A20,c20,rfl,hk1,hk2⟩,hb⟩; have K20:=Aside0.mk hk1; have J20:=Aside0.mk hk2; clear hk1 hk2; have HO1:=Aside0.mk (Kd.R_below HO.out hb); clear HO; have HO:=HO1; clear HO1; have HB1:=Aside0.mk (below_step HB.out hb); clear HB; have HB:=HB1; clear HB1 hb) | (go_at_call 27; (with_reducible refine (HRS.out _).mono ?_); rintro e w1 ⟨⟨A27,c27,rfl,hk1,hk2⟩,hb⟩; have N20:=Aside0.mk (Kd.C_below K20.out hb); clear K20; have K20:=N20; clear N20; have K27:=Aside0.mk hk1; have J27:=Aside0.mk hk2; clear hk1 hk2; have HO1:=Aside0.mk (Kd.R_below HO.out hb); clear HO; have HO:=HO1; clear HO1; have HB1:=Aside0.mk (below_step HB.out hb); clear HB; have HB:=HB1; clear HB1 hb) | (go_at_call 12; (with_reducible refine (HCE.out _).mono ?_); rintro e w1 ⟨⟨A12,c12,rfl,hk1,hk2⟩,hb⟩; have N20:=Aside0.mk (Kd.C_below K20.out hb); clear K20; have K20:=N20; clear N20; have N27:=Aside0.mk (Kd.C_below K27.out hb); clear K27; have K27:=N27; clear N27; have K12:=Aside0.mk hk1; have J12:=Aside0.mk hk2; clear hk1 hk2; have HO1:=Aside0.mk (Kd.R_below HO.out hb); clear HO; have HO:=HO1; clear HO1; have HB1:=Aside0.mk (below_step HB.out hb); clear HB; have HB:=HB1; clear HB1 hb) | (go_at_call 28; (with_reducible refine (HRC.out _).mono ?_); rintro e w1 ⟨⟨A28,c28,rfl,hk1,hk2⟩,hb⟩; have N20:=Aside0.mk (Kd.C_below K20.out hb); clear K20; have K20:=N20; clear N20; have N27:=Aside0.mk (Kd.C_below K27.out hb); clear K27; have K27:=N27; clear N27; have N12:=Aside0.mk (Kd.C_below K12.out hb); clear K12; have K12:=N12; clear N12; have K28:=Aside0.mk hk1; have J28:=Aside0.mk hk2; clear hk1 hk2; have HO1:=Aside0.mk (Kd.R_below HO.out hb); clear HO; have HO:=HO1; clear HO1; have HB1:=Aside0.mk (below_step HB.out hb); clear HB; have HB:=HB1; clear HB1 hb) | (go_at_call 17; (with_reducible refine (HLI.out _).mono ?_); rintro e w1 ⟨rfl,hb⟩; have N20:=Aside0.mk (Kd.C_below K20.out hb); clear K20; have K20:=N20; clear N20; have N27:=Aside0.mk (Kd.C_below K27.out hb); clear K27; have K27:=N27; clear N27; have N12:=Aside0.mk (Kd.C_below K12.out hb); clear K12; have K12:=N12; clear N12; have N28:=Aside0.mk (Kd.C_below K28.out hb); clear K28; have K28:=N28; clear N28; have HO1:=Aside0.mk (Kd.R_below HO.out hb); clear HO; have HO:=HO1; clear HO1; have HB1:=Aside0.mk (below_step HB.out hb); clear HB; have HB:=HB1; clear HB1 hb) | (go_at_call 29; (with_reducible refine (HRL.out _).mono ?_); rintro e w1 ⟨rfl,hb⟩; have N20:=Aside0.mk (Kd.C_below K20.out hb); clear K20; have K20:=N20; clear N20; have N27:=Aside0.mk (Kd.C_below K27.out hb); clear K27; have K27:=N27; clear N27; have N12:=Aside0.mk (Kd.C_below K12.out hb); clear K12; have K12:=N12; clear N12; have N28:=Aside0.mk (Kd.C_below K28.out hb); clear K28; have K28:=N28; clear N28; have HO1:=Aside0.mk (Kd.R_below HO.out hb); clear HO; have HO:=HO1; clear HO1; have HB1:=Aside0.mk (below_step HB.out hb); clear HB; have HB:=HB1; clear HB1 hb) | (go_at_call 21; (with_reducible refine (HSS.out _ _ _ _ _ K20.out J20.out K27.out J27.out).mono ?_); rintro e w1 ⟨rfl,hb⟩; have N20:=Aside0.mk (Kd.C_below K20.out hb); clear K20; have K20:=N20; clear N20; have N27:=Aside0.mk (Kd.C_below K27.out hb); clear K27; have K27:=N27; clear N27; have N12:=Aside0.mk (Kd.C_below K12.out hb); clear K12; have K12:=N12; clear N12; have N28:=Aside0.mk (Kd.C_below K28.out hb); clear K28; have K28:=N28; clear N28; have HO1:=Aside0.mk (Kd.R_below HO.out hb); clear HO; have HO:=HO1; clear HO1; have HB1:=Aside0.mk (below_step HB.out hb); clear HB; have HB:=HB1; clear HB1 hb) | (go_at_call 14; (with_reducible refine (HSC.out _ _ _ _ _ K12.out J12.out K28.out J28.out).mono ?_); rintro e w1 ⟨rfl,hb⟩; have N20:=Aside0.mk (Kd.C_below K20.out hb); clear K20; have K20:=N20; clear N20; have N27:=Aside0.mk (Kd.C_below K27.out hb); clear K27; have K27:=N27; clear N27; have N12:=Aside0.mk (Kd.C_below K12.out hb); clear K12; have K12:=N12; clear N12; have N28:=Aside0.mk (Kd.C_below K28.out hb); clear K28; have K28:=N28; clear N28; have HO1:=Aside0.mk (Kd.R_below HO.out hb); clear HO; have HO:=HO1; clear HO1; have HB1:=Aside0.mk (below_step HB.out hb); clear HB; have HB:=HB1; clear HB1 hb) | (go_at_call 18; (with_reducible refine (HKI.out _).mono ?_); rintro e w1 ⟨rfl,hb⟩; have N20:=Aside0.mk (Kd.C_below K20.out hb); clear K20; have K20:=N20; clear N20; have N27:=Aside0.mk (Kd.C_below K27.out hb); clear K27; have K27:=N27; clear N27; have N12:=Aside0.mk (Kd.C_below K12.out hb); clear K12; have K12:=N12; clear N12; have N28:=Aside0.mk (Kd.C_below K28.out hb); clear K28; have K28:=N28; clear N28; have HO1:=Aside0.mk (Kd.R_below HO.out hb); clear HO; have HO:=HO1; clear HO1; have HB1:=Aside0.mk (below_step HB.out hb); clear HB; have HB:=HB1; clear HB1 hb))
              go_roundg gk
              case measure => omega
              case rel => exact ⟨wrap64 (i + 1),by first | rfl | (simp; done) | (simp [*]; done),⟨by have:=HI.out; have:=of_eq_true q304; rw [wrap64_id (by omega) (by have:=HN.out; omega)]; omega⟩,HO,HB⟩
            | false =>
              cases lb2 with
              | true =>
                obtain ⟨sz0,bt0⟩:=HS0.out (.inr (.inr rfl))
                have hx14 : ∀ h : 0 < a.size,((a[0]'h).toNat : Int) = kd:=fun h => (bt_at a 0 h).trans bt0
                have qi14 : ((0 : Int) < (a.size : Int)) = True:=eq_true (by omega)
                have q14 : (0 < a.size) = True:=eq_true sz0
                clear bt0 sz0 HS0 HN0
                go_wp2_with (first | (go_at_call 20; (with_reducible refine (HSL.out _).mono ?_); rintro e w1 ⟨⟨A20,c20,rfl,hk1,hk2⟩,hb⟩; have K20:=Aside0.mk hk1; have J20:=Aside0.mk hk2; clear hk1 hk2; have HO1:=Aside0.mk (Kd.R_below HO.out hb); clear HO; have HO:=HO1; clear HO1; have HB1:=Aside0.mk (below_step HB.out hb); clear HB; have HB:=HB1; clear HB1 hb) | (go_at_call 27; (with_reducible refine (HRS.out _).mono ?_); rintro e w1 ⟨⟨A27,c27,rfl,hk1,hk2⟩,hb⟩; have N20:=Aside0.mk (Kd.C_below K20.out hb); clear K20; have K20:=N20; clear N20; have K27:=Aside0.mk hk1; have J27:=Aside0.mk hk2; clear hk1 hk2; have HO1:=Aside0.mk (Kd.R_below HO.out hb); clear HO; have HO:=HO1; clear HO1; have HB1:=Aside0.mk (below_step HB.out hb); clear HB; have HB:=HB1; clear HB1 hb) | (go_at_call 12; (with_reducible refine (HCE.out _).mono ?_); rintro e w1 ⟨⟨A12,c12,rfl,hk1,hk2⟩,hb⟩; have N20:=Aside0.mk (Kd.C_below K20.out hb); clear K20; have K20:=N20; clear N20; have N27:=Aside0.mk (Kd.C_below K27.out hb); clear K27; have K27:=N27; clear N27; have K12:=Aside0.mk hk1; have J12:=Aside0.mk hk2; clear hk1 hk2; have HO1:=Aside0.mk (Kd.R_below HO.out hb); clear HO; have HO:=HO1; clear HO1; have HB1:=Aside0.mk (below_step HB.out hb); clear HB; have HB:=HB1; clear HB1 hb) | (go_at_call 28; (with_reducible refine (HRC.out _).mono ?_); rintro e w1 ⟨⟨A28,c28,rfl,hk1,hk2⟩,hb⟩; have N20:=Aside0.mk (Kd.C_below K20.out hb); clear K20; have K20:=N20; clear N20; have N27:=Aside0.mk (Kd.C_below K27.out hb); clear K27; have K27:=N27; clear N27; have N12:=Aside0.mk (Kd.C_below K12.out hb); clear K12; have K12:=N12; clear N12; have K28:=Aside0.mk hk1; have J28:=Aside0.mk hk2; clear hk1 hk2; have HO1:=Aside0.mk (Kd.R_below HO.out hb); clear HO; have HO:=HO1; clear HO1; have HB1:=Aside0.mk (below_step HB.out hb); clear HB; have HB:=HB1; clear HB1 hb) | (go_at_call 17; (with_reducible refine (HLI.out _).mono ?_); rintro e w1 ⟨rfl,hb⟩; have N20:=Aside0.mk (Kd.C_below K20.out hb); clear K20; have K20:=N20; clear N20; have N27:=Aside0.mk (Kd.C_below K27.out hb); clear K27; have K27:=N27; clear N27; have N12:=Aside0.mk (Kd.C_below K12.out hb); clear K12; have K12:=N12; clear N12; have N28:=Aside0.mk (Kd.C_below K28.out hb); clear K28; have K28:=N28; clear N28; have HO1:=Aside0.mk (Kd.R_below HO.out hb); clear HO; have HO:=HO1; clear HO1; have HB1:=Aside0.mk (below_step HB.out hb); clear HB; have HB:=HB1; clear HB1 hb) | (go_at_call 29; (with_reducible refine (HRL.out _).mono ?_); rintro e w1 ⟨rfl,hb⟩; have N20:=Aside0.mk (Kd.C_below K20.out hb); clear K20; have K20:=N20; clear N20; have N27:=Aside0.mk (Kd.C_below K27.out hb); clear K27; have K27:=N27; clear N27; have N12:=Aside0.mk (Kd.C_below K12.out hb); clear K12; have K12:=N12; clear N12; have N28:=Aside0.mk (Kd.C_below K28.out hb); clear K28; have K28:=N28; clear N28; have HO1:=Aside0.mk (Kd.R_below HO.out hb); clear HO; have HO:=HO1; clear HO1; have HB1:=Aside0.mk (below_step HB.out hb); clear HB; have HB:=HB1; clear HB1 hb) | (go_at_call 21; (with_reducible refine (HSS.out _ _ _ _ _ K20.out J20.out K27.out J27.out).mono ?_); rintro e w1 ⟨rfl,hb⟩; have N20:=Aside0.mk (Kd.C_below K20.out hb); clear K20; have K20:=N20; clear N20; have N27:=Aside0.mk (Kd.C_below K27.out hb); clear K27; have K27:=N27; clear N27; have N12:=Aside0.mk (Kd.C_below K12.out hb); clear K12; have K12:=N12; clear N12; have N28:=Aside0.mk (Kd.C_below K28.out hb); clear K28; have K28:=N28; clear N28; have HO1:=Aside0.mk (Kd.R_below HO.out hb); clear HO; have HO:=HO1; clear HO1; have HB1:=Aside0.mk (below_step HB.out hb); clear HB; have HB:=HB1; clear HB1 hb) | (go_at_call 14; (with_reducible refine (HSC.out _ _ _ _ _ K12.out J12.out K28.out J28.out).mono ?_); rintro e w1 ⟨rfl,hb⟩; have N20:=Aside0.mk (Kd.C_below K20.out hb); clear K20; have K20:=N20; clear N20; have N27:=Aside0.mk (Kd.C_below K27.out hb); clear K27; have K27:=N27; clear N27; have N12:=Aside0.mk (Kd.C_below K12.out hb); clear K12; have K12:=N12; clear N12; have N28:=Aside0.mk (Kd.C_below K28.out hb); clear K28; have K28:=N28; clear N28; have HO1:=Aside0.mk (Kd.R_below HO.out hb); clear HO; have HO:=HO1; clear HO1; have HB1:=Aside0.mk (below_step HB.out hb); clear HB; have HB:=HB1; clear HB1 hb) | (go_at_call 18; (with_reducible refine (HKI.out _).mono ?_); rintro e w1 ⟨rfl,hb⟩; have N20:=Aside0.mk (Kd.C_below K20.out hb); clear K20; have K20:=N20; clear N20; have N27:=Aside0.mk (Kd.C_below K27.out hb); clear K27; have K27:=N27; clear N27; have N12:=Aside0.mk (Kd.C_below K12.out hb); clear K12; have K12:=N12; clear N12; have N28:=Aside0.mk (Kd.C_below K28.out hb); clear K28; have K28:=N28; clear N28; have HO1:=Aside0.mk (Kd.R_below HO.out hb); clear HO; have HO:=HO1; clear HO1; have HB1:=Aside0.mk (below_step HB.out hb); clear HB; have HB:=HB1; clear HB1 hb))
                go_roundg gk
                case measure => omega
                case rel => exact ⟨wrap64 (i + 1),by first | rfl | (simp; done) | (simp [*]; done),⟨by have:=HI.out; have:=of_eq_true q304; rw [wrap64_id (by omega) (by have:=HN.out; omega)]; omega⟩,HO,HB⟩
              | false =>
                have hk0:=HN0.out rfl rfl rfl
                subst hk0
                clear HS0 HN0
                go_wp2_with (first | (go_at_call 20; (with_reducible refine (HSL.out _).mono ?_); rintro e w1 ⟨⟨A20,c20,rfl,hk1,hk2⟩,hb⟩; have K20:=Aside0.mk hk1; have J20:=Aside0.mk hk2; clear hk1 hk2; have HO1:=Aside0.mk (Kd.R_below HO.out hb); clear HO; have HO:=HO1; clear HO1; have HB1:=Aside0.mk (below_step HB.out hb); clear HB; have HB:=HB1; clear HB1 hb) | (go_at_call 27; (with_reducible refine (HRS.out _).mono ?_); rintro e w1 ⟨⟨A27,c27,rfl,hk1,hk2⟩,hb⟩; have N20:=Aside0.mk (Kd.C_below K20.out hb); clear K20; have K20:=N20; clear N20; have K27:=Aside0.mk hk1; have J27:=Aside0.mk hk2; clear hk1 hk2; have HO1:=Aside0.mk (Kd.R_below HO.out hb); clear HO; have HO:=HO1; clear HO1; have HB1:=Aside0.mk (below_step HB.out hb); clear HB; have HB:=HB1; clear HB1 hb) | (go_at_call 12; (with_reducible refine (HCE.out _).mono ?_); rintro e w1 ⟨⟨A12,c12,rfl,hk1,hk2⟩,hb⟩; have N20:=Aside0.mk (Kd.C_below K20.out hb); clear K20; have K20:=N20; clear N20; have N27:=Aside0.mk (Kd.C_below K27.out hb); clear K27; have K27:=N27; clear N27; have K12:=Aside0.mk hk1; have J12:=Aside0.mk hk2; clear hk1 hk2; have HO1:=Aside0.mk (Kd.R_below HO.out hb); clear HO; have HO:=HO1; clear HO1; have HB1:=Aside0.mk (below_step HB.out hb); clear HB; have HB:=HB1; clear HB1 hb) | (go_at_call 28; (with_reducible refine (HRC.out _).mono ?_); rintro e w1 ⟨⟨A28,c28,rfl,hk1,hk2⟩,hb⟩; have N20:=Aside0.mk (Kd.C_below K20.out hb); clear K20; have K20:=N20; clear N20; have N27:=Aside0.mk (Kd.C_below K27.out hb); clear K27; have K27:=N27; clear N27; have N12:=Aside0.mk (Kd.C_below K12.out hb); clear K12; have K12:=N12; clear N12; have K28:=Aside0.mk hk1; have J28:=Aside0.mk hk2; clear hk1 hk2; have HO1:=Aside0.mk (Kd.R_below HO.out hb); clear HO; have HO:=HO1; clear HO1; have HB1:=Aside0.mk (below_step HB.out hb); clear HB; have HB:=HB1; clear HB1 hb) | (go_at_call 17; (with_reducible refine (HLI.out _).mono ?_); rintro e w1 ⟨rfl,hb⟩; have N20:=Aside0.mk (Kd.C_below K20.out hb); clear K20; have K20:=N20; clear N20; have N27:=Aside0.mk (Kd.C_below K27.out hb); clear K27; have K27:=N27; clear N27; have N12:=Aside0.mk (Kd.C_below K12.out hb); clear K12; have K12:=N12; clear N12; have N28:=Aside0.mk (Kd.C_below K28.out hb); clear K28; have K28:=N28; clear N28; have HO1:=Aside0.mk (Kd.R_below HO.out hb); clear HO; have HO:=HO1; clear HO1; have HB1:=Aside0.mk (below_step HB.out hb); clear HB; have HB:=HB1; clear HB1 hb) | (go_at_call 29; (with_reducible refine (HRL.out _).mono ?_); rintro e w1 ⟨rfl,hb⟩; have N20:=Aside0.mk (Kd.C_below K20.out hb); clear K20; have K20:=N20; clear N20; have N27:=Aside0.mk (Kd.C_below K27.out hb); clear K27; have K27:=N27; clear N27; have N12:=Aside0.mk (Kd.C_below K12.out hb); clear K12; have K12:=N12; clear N12; have N28:=Aside0.mk (Kd.C_below K28.out hb); clear K28; have K28:=N28; clear N28; have HO1:=Aside0.mk (Kd.R_below HO.out hb); clear HO; have HO:=HO1; clear HO1; have HB1:=Aside0.mk (below_step HB.out hb); clear HB; have HB:=HB1; clear HB1 hb) | (go_at_call 21; (with_reducible refine (HSS.out _ _ _ _ _ K20.out J20.out K27.out J27.out).mono ?_); rintro e w1 ⟨rfl,hb⟩; have N20:=Aside0.mk (Kd.C_below K20.out hb); clear K20; have K20:=N20; clear N20; have N27:=Aside0.mk (Kd.C_below K27.out hb); clear K27; have K27:=N27; clear N27; have N12:=Aside0.mk (Kd.C_below K12.out hb); clear K12; have K12:=N12; clear N12; have N28:=Aside0.mk (Kd.C_below K28.out hb); clear K28; have K28:=N28; clear N28; have HO1:=Aside0.mk (Kd.R_below HO.out hb); clear HO; have HO:=HO1; clear HO1; have HB1:=Aside0.mk (below_step HB.out hb); clear HB; have HB:=HB1; clear HB1 hb) | (go_at_call 14; (with_reducible refine (HSC.out _ _ _ _ _ K12.out J12.out K28.out J28.out).mono ?_); rintro e w1 ⟨rfl,hb⟩; have N20:=Aside0.mk (Kd.C_below K20.out hb); clear K20; have K20:=N20; clear N20; have N27:=Aside0.mk (Kd.C_below K27.out hb); clear K27; have K27:=N27; clear N27; have N12:=Aside0.mk (Kd.C_below K12.out hb); clear K12; have K12:=N12; clear N12; have N28:=Aside0.mk (Kd.C_below K28.out hb); clear K28; have K28:=N28; clear N28; have HO1:=Aside0.mk (Kd.R_below HO.out hb); clear HO; have HO:=HO1; clear HO1; have HB1:=Aside0.mk (below_step HB.out hb); clear HB; have HB:=HB1; clear HB1 hb) | (go_at_call 18; (with_reducible refine (HKI.out _).mono ?_); rintro e w1 ⟨rfl,hb⟩; have N20:=Aside0.mk (Kd.C_below K20.out hb); clear K20; have K20:=N20; clear N20; have N27:=Aside0.mk (Kd.C_below K27.out hb); clear K27; have K27:=N27; clear N27; have N12:=Aside0.mk (Kd.C_below K12.out hb); clear K12; have K12:=N12; clear N12; have N28:=Aside0.mk (Kd.C_below K28.out hb); clear K28; have K28:=N28; clear N28; have HO1:=Aside0.mk (Kd.R_below HO.out hb); clear HO; have HO:=HO1; clear HO1; have HB1:=Aside0.mk (below_step HB.out hb); clear HB; have HB:=HB1; clear HB1 hb))
                go_roundg gk
                case measure => omega
                case rel => exact ⟨wrap64 (i + 1),by first | rfl | (simp; done) | (simp [*]; done),⟨by have:=HI.out; have:=of_eq_true q304; rw [wrap64_id (by omega) (by have:=HN.out; omega)]; omega⟩,HO,HB⟩
end Go.Proofs.Ytlgmabibcpkdmaa.PAll
end
section
namespace Go.Proofs.Ytlgmabibcpkdmaa.Th
open Go.ChangeShapes Go.WideShapes Go.ChangeAt Go.RowKit Go.Proofs.YtlgmabibcpkdmaaW.PrintWords
open Go.Proofs.Ytlgmabibcpkdmaa.PAll (S41 k41 k41_mk)
set_option linter.unusedVariables false
set_option linter.unusedSimpArgs false
theorem list2 {cs : List Value} (h : cs.length = 2) : ∃ c0 c1,cs = [c0,c1]:=by
  match cs,h with
  | [c0,c1],_ => exact ⟨c0,c1,rfl⟩
section
variable {H : Type} {enc : TypeId × Value → H} {W : World} {base : Nat} {spare : Nat → Bool} {held : Bool}
theorem cells41 : Try.prog.cellsOf 41 = 2:=by kernel_rfl
theorem slot_of {n : Nat} {cs : List Value} {y : Option (DataW H × List MemPlace)} (h : DataW.trod enc Try.prog W base spare held n 41 cs = y) (hy : y.isSome = true) : ∃ x : S41,cs = [.int .i64 x.f0,.int .i64 x.f1]:=by
  obtain ⟨x,rfl⟩:=Option.isSome_iff_exists.1 hy
  obtain ⟨xs,m,_,_,hcl,hlen,hx⟩:=DataW.trod_struct Try.underlying41 h
  obtain ⟨c0,c1,rfl⟩:=list2 (hcl.trans cells41)
  have h0:=hx 0 _ rfl
  change DataW.trod enc Try.prog W base spare held m 3 (([c0,c1].drop 0).take (Try.prog.cellsOf 3)) = xs[0]? at h0
  rw [cells3] at h0
  have h1:=hx 1 _ rfl
  change DataW.trod enc Try.prog W base spare held m 3 (([c0,c1].drop 1).take (Try.prog.cellsOf 3)) = xs[1]? at h1
  rw [cells3] at h1
  have hl : xs.length = 2:=hlen
  simp only [List.drop_zero,List.drop_succ_cons,List.take_succ_cons,List.take_zero] at h0 h1
  obtain ⟨a0,rfl,_⟩:=int_of Try.underlying3 h0 (by simp [hl])
  obtain ⟨a1,rfl,_⟩:=int_of Try.underlying3 h1 (by simp [hl])
  exact ⟨⟨a0,a1⟩,rfl⟩
theorem slots_of {n : Nat} {c : Value} {y : Option (DataW H × List MemPlace)} (h : DataW.trod enc Try.prog W base spare held n 39 [c] = y) (hy : y.isSome = true) : ∃ (A : Option Addr) (cp : Nat) (l : List S41),c = .slice A l.length cp ∧ Kd.C k41 W A l.length l ∧ l.length ≤ cp ∧ l.length ≤ maxLen ∧ ∀ x ∈ l,True:=by
  obtain ⟨x,rfl⟩:=Option.isSome_iff_exists.1 hy
  rcases DataW.trod_slice Try.underlying39 h with ⟨hcs,_⟩ | ⟨a,len,cap,elems,rest,m,_,hcs,_,hb,hl,hm,hlen,hel,_⟩
  · simp at hcs
    subst hcs
    exact ⟨none,0,[],rfl,⟨rfl,by decide,fun h => absurd h (by decide)⟩,Nat.le_refl _,by decide,fun x hx => by cases hx⟩
  · simp at hcs
    subst hcs
    rw [cells41] at hel
    obtain ⟨l,hll,hp⟩:=listed (P:=fun i (p : S41) => ∀ j u,[(.int .i64 p.f0 : Value),.int .i64 p.f1][j]? = some u → W.cell? (a.add (i * 2 + j)) = some u) len (fun i hi => by
      have h1:=hel i hi
      have h2 : elems[i]?.isSome = true:=by rw [List.getElem?_eq_getElem (by omega)]; rfl
      rw [← h1] at h2
      rcases hc : W.cells? base (a.add (i * 2)) 2 with _ | cs
      · rw [hc] at h2; simp at h2
      · rw [hc,Option.bind_some] at h2
        obtain ⟨p,rfl⟩:=slot_of rfl h2
        refine ⟨p,fun j u hu => ?_⟩
        have h3:=(World.cells?_some hc)
        have hj : j < 2:=by
          rcases Nat.lt_or_ge j 2 with h | h
          · exact h
          · rw [List.getElem?_eq_none (by simpa using h)] at hu; cases hu
        have h4:=h3.2.2 j hj
        rw [hu] at h4
        rw [← h4]
        exact congrArg W.cell? (Addr.add_add a (i * 2) j).symm)
    exact ⟨some a,cap,l,by rw [hll],⟨rfl,by rw [hll]; exact Nat.le_trans hl hm,fun _ => ⟨a,rfl,fun j p hj => ⟨_,rfl,k41_mk W p,fun i u hu => hp j p hj i u hu⟩⟩⟩,by rw [hll]; exact hl,by rw [hll]; exact Nat.le_trans hl hm,
      fun x hx => trivial⟩
set_option maxRecDepth 100000 in
theorem slots_open {r : Reach} {b0 : Nat} {v : Value} {d : DataW H} {p : List MemPlace} (hv : Value.okWide Try.prog W r b0 39 v) (h : DataW.Trod enc Try.prog W base spare held 39 v d p) :
    ∃ (A : Option Addr) (c : Nat) (l : List S41),v = .slice A l.length c ∧ Kd.C k41 W A l.length l ∧ l.length ≤ c ∧ l.length ≤ maxLen ∧ ∀ x ∈ l,True:=by
  obtain ⟨a,len,cap,rfl⟩:=okWide_slice (P:=Try.prog) (w:=W) (r:=r) (base:=b0) (v:=v) Try.underlying39 hv
  obtain ⟨fuel,hf⟩:=h
  exact slots_of (y:=some (d,p)) hf rfl
end
end Go.Proofs.Ytlgmabibcpkdmaa.Th
end

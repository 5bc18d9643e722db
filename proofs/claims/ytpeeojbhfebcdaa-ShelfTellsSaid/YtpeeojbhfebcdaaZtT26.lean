/- Of the texts that the row stands on, what it needs (part 26), put together by a program of this session. -/
import Derived.Test.YtpeeojbhfebcdaaZtT25
namespace Go.Proofs.Ytpeeojbhfebcdaa.PAll
open Go.RowKit Go.Proofs.YtpeeojbhfebcdaaW.PrintWords Go.Proofs.YtpeeojbhfebcdaaW.PrintLast Go.Proofs.YtpeeojbhfebcdaaW.PrintMore
attribute [local go_sem] max2_int min2_int max_two min_two max_three min_three max_four min_four
set_option linter.unusedVariables false
set_option linter.unusedSimpArgs false
def maquettelaw16_Few.l0 : Nat → List (S45) → Int → Int → Int → Option (Bool)
  | 0, _, _, _, _ => none
  | k + 1, x0, x3, x6, x7 => if x7 < x6 then (if 0 ≤ x7 then (if x7 < (x0.length : Int) then (maquettelaw16_Few.l0 k x0 (wrap64 (x3 + (((rd_T45 x0 x7).f1).size : Int))) x6 (wrap64 (x7 + 1))) else (none)) else (none)) else (if (x0.length : Int) ≤ 120 then (some (decide (x3 ≤ 12000))) else (some false))
def maquettelaw16_Few.f (k : Nat) (l0 : List (S45)) : Option (Bool) := maquettelaw16_Few.l0 k l0 0 (l0.length : Int) 0
set_option maxHeartbeats 8000000 in
set_option maxRecDepth 100000 in
theorem maquettelaw16_Few.calls (k : Nat) (A0 : Option Addr) (c0 : Nat) (l0 : List (S45)) (r : Bool) (w : World) (hr0 : Kd.C k45 w A0 l0.length l0) (hc0 : l0.length ≤ c0) (h : maquettelaw16_Few.f k l0 = some r) :
    Calls Try.prog 10 #[.slice A0 l0.length c0] w fun e w' => e = .returned (.bool r) ∧ Drawn0 w w':=by
 have HR0:=Aside0.mk hr0
 have HC0:=Aside0.mk hc0
 clear hr0 hc0
 have H : (maquettelaw16_Few.l0 k l0 0 (l0.length : Int) 0) = some r:=h
 clear h
 have H':=Aside0.mk H
 clear H
 go_enter Try.func10,Try.ntmps10
 go_wp2
 go_loopg [3,7] k (fun kq v3 v7 w' => ∃ (x3_1 : Int) (x7_1 : Int),v3 = .int .i64 x3_1 ∧ v7 = .int .i64 x7_1 ∧ Aside0 (maquettelaw16_Few.l0 kq l0 x3_1 (l0.length : Int) x7_1 = some r) ∧ Aside0 (kq ≤ k) ∧ Drawn0 w w')
 case atStart => exact ⟨(0),(0),(by first | rfl | (simp; done) | (simp [*]; done)),(by first | rfl | (simp; done) | (simp [*]; done)),H',⟨Nat.le_refl _⟩,by repeat (first | exact Drawn0.refl _ | apply Drawn0.step)⟩
 clear H'
 try clear c1
 obtain ⟨x3_1,x7_1,rfl,rfl,HA,HK1,⟨m1,rfl⟩⟩:=hrel
 cases gk with
 | zero => exact absurd HA.out (by simp [maquettelaw16_Few.l0])
 | succ k1 =>
  have H:=HA.out
  clear HA
  simp only [maquettelaw16_Few.l0] at H
  by_cases c2 : x7_1 < (l0.length : Int)
  ·rw [if_pos c2] at H
   have c2b0 : decide (x7_1 < (l0.length : Int)) = true:=decide_eq_true c2
   clear c2
   by_cases c3 : 0 ≤ x7_1
   ·rw [if_pos c3] at H
    have c3b0 : decide (0 ≤ x7_1) = true:=decide_eq_true c3
    clear c3
    by_cases c4 : x7_1 < (l0.length : Int)
    ·rw [if_pos c4] at H
     have c4b0 : decide (x7_1 < (l0.length : Int)) = true:=decide_eq_true c4
     clear c4
     have H':=Aside0.mk H
     clear H
     have p101 : 0 ≤ (x7_1 : Int):=of_decide_eq_true (by first | (with_reducible assumption) | assumption)
     have q101 : x7_1 < (l0.length : Int):=of_decide_eq_true (by first | (with_reducible assumption) | assumption)
     obtain ⟨ad101,e101,hx101_0,hx101_1⟩:=at_T45 HR0.out x7_1 p101 q101
     cases e101
     replace p101:=eq_true p101
     replace q101:=eq_true q101
     go_wp2
     go_roundg k1
     case measure => have:=HK1.out; omega
     case rel => exact ⟨(wrap64 (x3_1 + (((rd_T45 l0 x7_1).f1).size : Int))),(wrap64 (x7_1 + 1)),(by first | rfl | (simp; done) | (simp [*]; done)),(by first | rfl | (simp; done) | (simp [*]; done)),H',⟨by have:=HK1.out; omega⟩,by repeat (first | exact Drawn0.refl _ | apply Drawn0.step)⟩
    rw [if_neg c4] at H
    exact absurd H (by simp)
   rw [if_neg c3] at H
   exact absurd H (by simp)
  rw [if_neg c2] at H
  have c2b0 : decide (x7_1 < (l0.length : Int)) = false:=decide_eq_false c2
  clear c2
  by_cases c5 : (l0.length : Int) ≤ 120
  ·rw [if_pos c5] at H
   have c5b0 : decide ((l0.length : Int) ≤ 120) = true:=decide_eq_true c5
   have c5b1 : decide (l0.length ≤ 120) = true:=decide_eq_true (by omega)
   clear c5
   obtain rfl:=Option.some.inj H
   go_wp2
   go_ret
   exact ⟨by first | rfl | (simp; done) | (simp [*]; done),by repeat (first | exact Drawn0.refl _ | apply Drawn0.step)⟩
  rw [if_neg c5] at H
  have c5b0 : decide ((l0.length : Int) ≤ 120) = false:=decide_eq_false c5
  have c5b1 : decide (l0.length ≤ 120) = false:=decide_eq_false (by omega)
  clear c5
  obtain rfl:=Option.some.inj H
  go_wp2
  go_ret
  exact ⟨by first | rfl | (simp; done) | (simp [*]; done),by repeat (first | exact Drawn0.refl _ | apply Drawn0.step)⟩

end Go.Proofs.Ytpeeojbhfebcdaa.PAll


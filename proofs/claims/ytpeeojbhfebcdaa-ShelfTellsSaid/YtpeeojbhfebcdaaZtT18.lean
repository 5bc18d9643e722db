/- Of the texts that the row stands on, what it needs (part 18), put together by a program of this session. -/
import Derived.Test.YtpeeojbhfebcdaaZtT16
namespace Go.Proofs.Ytpeeojbhfebcdaa.PRf
open Go.RowKit Go.Proofs.YtpeeojbhfebcdaaW.PrintWords Go.Proofs.YtpeeojbhfebcdaaW.PrintLast Go.Proofs.YtpeeojbhfebcdaaW.PrintMore
attribute [local go_sem] max2_int min2_int max_two min_two max_three min_three max_four min_four
set_option linter.unusedVariables false
set_option linter.unusedSimpArgs false
def maquetteref13_page.f (a0 : Int) : Option (Bool) := if a0 ≥ 2 then (some (decide (a0 < 200))) else (some false)
set_option maxHeartbeats 8000000 in
set_option maxRecDepth 100000 in
theorem maquetteref13_page.calls (a0 : Int) (r : Bool) (w : World) (h : maquetteref13_page.f a0 = some r) :
    Calls Try.prog 63 #[.int .i64 a0] w fun e w' => e = .returned (.bool r) ∧ Drawn0 w w':=by
 have H : (if a0 ≥ 2 then (some (decide (a0 < 200))) else (some false)) = some r:=h
 clear h
 by_cases c2 : a0 ≥ 2
 ·rw [if_pos c2] at H
  have c2b0 : decide (2 ≤ a0) = true:=decide_eq_true c2
  clear c2
  obtain rfl:=Option.some.inj H
  go_enter Try.func63,Try.ntmps63
  go_wp2
  go_ret
  exact ⟨by first | rfl | (simp; done) | (simp [*]; done),by repeat (first | exact Drawn0.refl _ | apply Drawn0.step)⟩
 rw [if_neg c2] at H
 have c2b0 : decide (2 ≤ a0) = false:=decide_eq_false c2
 clear c2
 obtain rfl:=Option.some.inj H
 go_enter Try.func63,Try.ntmps63
 go_wp2
 go_ret
 exact ⟨by first | rfl | (simp; done) | (simp [*]; done),by repeat (first | exact Drawn0.refl _ | apply Drawn0.step)⟩

mutual
def maquetteref13_pages.l0 : Nat → List (S91) → List Int → Int → Option (Bool)
  | 0, _, _, _ => none
  | k + 1, x0, x1, x5 => if x5 < (x0.length : Int) then (if 0 ≤ x5 then ((maquetteref13_page.f ((rd_T91 x0 x5).f0)).bind fun t170 => (if t170 = true then (maquetteref13_pages.l1 k x0 x1 x5 0) else (some false))) else (none)) else (maquetteref13_pages.l2 k x1 0)
def maquetteref13_pages.l1 : Nat → List (S91) → List Int → Int → Int → Option (Bool)
  | 0, _, _, _, _ => none
  | k + 1, x0, x1, x5, x6 => if x6 < (x1.length : Int) then (if 0 ≤ x6 then (if 0 ≤ x5 then (if x5 < (x0.length : Int) then (if (rd x1 x6) = ((rd_T91 x0 x5).f0) then (some false) else (maquetteref13_pages.l1 k x0 x1 x5 (wrap64 (x6 + 1)))) else (none)) else (none)) else (none)) else (maquetteref13_pages.l0 k x0 x1 (wrap64 (x5 + 1)))
def maquetteref13_pages.l2 : Nat → List Int → Int → Option (Bool)
  | 0, _, _ => none
  | k + 1, x1, x7 => if x7 < (x1.length : Int) then (if 0 ≤ x7 then ((maquetteref13_page.f (rd x1 x7)).bind fun t174 => (if t174 = true then (maquetteref13_pages.l3 k x1 x7 0) else (some false))) else (none)) else (some true)
def maquetteref13_pages.l3 : Nat → List Int → Int → Int → Option (Bool)
  | 0, _, _, _ => none
  | k + 1, x1, x7, x8 => if x8 < x7 then (if 0 ≤ x8 then (if x8 < (x1.length : Int) then (if 0 ≤ x7 then (if x7 < (x1.length : Int) then (if (rd x1 x8) = (rd x1 x7) then (some false) else (maquetteref13_pages.l3 k x1 x7 (wrap64 (x8 + 1)))) else (none)) else (none)) else (none)) else (none)) else (maquetteref13_pages.l2 k x1 (wrap64 (x7 + 1)))
end
def maquetteref13_pages.f (k : Nat) (l0 : List (S91)) (l1 : List Int) : Option (Bool) := maquetteref13_pages.l0 k l0 l1 0
set_option maxHeartbeats 8000000 in
set_option maxRecDepth 100000 in
theorem maquetteref13_pages.calls (k : Nat) (A0 : Option Addr) (c0 : Nat) (l0 : List (S91)) (A1 : Option Addr) (c1 : Nat) (l1 : List Int) (r : Bool) (w : World) (hr0 : Kd.C k91 w A0 l0.length l0) (hc0 : l0.length ≤ c0) (hr1 : Kd.C (Kd.int .i64) w A1 l1.length l1) (hc1 : l1.length ≤ c1) (h : maquetteref13_pages.f k l0 l1 = some r) :
    Calls Try.prog 33 #[.slice A0 l0.length c0,.slice A1 l1.length c1] w fun e w' => e = .returned (.bool r) ∧ Drawn0 w w':=by
 have HR0:=Aside0.mk hr0
 have HC0:=Aside0.mk hc0
 clear hr0 hc0
 have HR1:=Aside0.mk hr1
 have HC1:=Aside0.mk hc1
 clear hr1 hc1
 have H : (maquetteref13_pages.l0 k l0 l1 0) = some r:=h
 clear h
 have H':=Aside0.mk H
 clear H
 go_enter Try.func33,Try.ntmps33
 go_wp2
 repeat (go_quiet (fail); try go_wp2)
 go_loopg [5] k (fun kq v5 w' => ∃ (x5_1 : Int),v5 = .int .i64 x5_1 ∧ Aside0 (maquetteref13_pages.l0 kq l0 l1 x5_1 = some r) ∧ Aside0 (kq ≤ k) ∧ Drawn0 w w')
 case atStart => exact ⟨(0),(by first | rfl | (simp; done) | (simp [*]; done)),H',⟨Nat.le_refl _⟩,by repeat (first | exact Drawn0.refl _ | apply Drawn0.step)⟩
 clear H'
 try clear c1
 try clear p2
 obtain ⟨x5_1,rfl,HA,HK1,⟨m1,rfl⟩⟩:=hrel
 cases gk with
 | zero => exact absurd HA.out (by simp [maquetteref13_pages.l0])
 | succ k1 =>
  have H:=HA.out
  clear HA
  simp only [maquetteref13_pages.l0] at H
  by_cases c3 : x5_1 < (l0.length : Int)
  ·rw [if_pos c3] at H
   have c3b0 : decide (x5_1 < (l0.length : Int)) = true:=decide_eq_true c3
   clear c3
   by_cases c4 : 0 ≤ x5_1
   ·rw [if_pos c4] at H
    have c4b0 : decide (0 ≤ x5_1) = true:=decide_eq_true c4
    clear c4
    replace H:=Option.bind_eq_some_iff.mp H
    obtain ⟨t170,A50,H⟩:=H
    replace H : (if t170 = true then (maquetteref13_pages.l1 k1 l0 l1 x5_1 0) else (some false)) = some r:=H
    have A5:=Aside0.mk A50
    clear A50
    by_cases c6 : t170 = true
    ·subst c6
     have H1 : (maquetteref13_pages.l1 k1 l0 l1 x5_1 0) = some r:=by rw [if_pos rfl] at H; exact H
     clear H
     have H:=H1
     clear H1
     have H':=Aside0.mk H
     clear H
     have p169 : 0 ≤ (x5_1 : Int):=of_decide_eq_true (by first | (with_reducible assumption) | assumption)
     have q169 : x5_1 < (l0.length : Int):=of_decide_eq_true (by first | (with_reducible assumption) | assumption)
     obtain ⟨ad169,e169,hx169_0,hx169_1⟩:=at_T91 HR0.out x5_1 p169 q169
     cases e169
     replace p169:=eq_true p169
     replace q169:=eq_true q169
     go_wp2_with (first | (go_at_call 63; (with_reducible refine (maquetteref13_page.calls ((rd_T91 l0 x5_1).f0) true _ A5.out).mono ?_); rintro e w' ⟨rfl,⟨nd,rfl⟩⟩; (try first | exact ⟨rfl,_,World.drewN_drewN _ _ _⟩ | exact ⟨rfl,_,Eq.trans (World.drewN_drewN _ _ _) (congrArg (World.drewN _) (Nat.add_assoc _ _ _))⟩)))
     repeat (go_quiet (first | (go_at_call 63; (with_reducible refine (maquetteref13_page.calls ((rd_T91 l0 x5_1).f0) true _ A5.out).mono ?_); rintro e w' ⟨rfl,⟨nd,rfl⟩⟩; (try first | exact ⟨rfl,_,World.drewN_drewN _ _ _⟩ | exact ⟨rfl,_,Eq.trans (World.drewN_drewN _ _ _) (congrArg (World.drewN _) (Nat.add_assoc _ _ _))⟩))); try go_wp2_with (first | (go_at_call 63; (with_reducible refine (maquetteref13_page.calls ((rd_T91 l0 x5_1).f0) true _ A5.out).mono ?_); rintro e w' ⟨rfl,⟨nd,rfl⟩⟩; (try first | exact ⟨rfl,_,World.drewN_drewN _ _ _⟩ | exact ⟨rfl,_,Eq.trans (World.drewN_drewN _ _ _) (congrArg (World.drewN _) (Nat.add_assoc _ _ _))⟩))))
     go_loopg [6] k1 (fun kq v6 w' => ∃ (x6_2 : Int),v6 = .int .i64 x6_2 ∧ Aside0 (maquetteref13_pages.l1 kq l0 l1 x5_1 x6_2 = some r) ∧ Aside0 (kq ≤ k1) ∧ Drawn0 w w')
     case atStart => exact ⟨(0),(by first | rfl | (simp; done) | (simp [*]; done)),H',⟨Nat.le_refl _⟩,by repeat (first | exact Drawn0.refl _ | apply Drawn0.step)⟩
     clear H'
     try clear c1
     try clear p1
     try clear q1
     try clear hx1
     try clear p2
     try clear c3
     try clear c3b0
     try clear c4
     try clear c4b0
     try clear c6
     try clear hx169_0
     try clear hx169_1
     try clear p169
     try clear p2
     try clear q169
     obtain ⟨x6_2,rfl,HA,HK2,⟨m2,rfl⟩⟩:=hrel
     cases gk with
     | zero => exact absurd HA.out (by simp [maquetteref13_pages.l1])
     | succ k2 =>
      have H:=HA.out
      clear HA
      simp only [maquetteref13_pages.l1] at H
      by_cases c7 : x6_2 < (l1.length : Int)
      ·rw [if_pos c7] at H
       have c7b0 : decide (x6_2 < (l1.length : Int)) = true:=decide_eq_true c7
       clear c7
       by_cases c8 : 0 ≤ x6_2
       ·rw [if_pos c8] at H
        have c8b0 : decide (0 ≤ x6_2) = true:=decide_eq_true c8
        clear c8
        by_cases c9 : 0 ≤ x5_1
        ·rw [if_pos c9] at H
         have c9b0 : decide (0 ≤ x5_1) = true:=decide_eq_true c9
         clear c9
         by_cases c10 : x5_1 < (l0.length : Int)
         ·rw [if_pos c10] at H
          have c10b0 : decide (x5_1 < (l0.length : Int)) = true:=decide_eq_true c10
          clear c10
          by_cases c11 : (rd l1 x6_2) = ((rd_T91 l0 x5_1).f0)
          ·rw [if_pos c11] at H
           have c11b0 : ((rd l1 x6_2) == ((rd_T91 l0 x5_1).f0)) = true:=beq_iff_eq.mpr c11
           have c11b1 : ((rd l1 x6_2) != ((rd_T91 l0 x5_1).f0)) = false:=bne_eq_false_iff_eq.mpr c11
           clear c11
           obtain rfl:=Option.some.inj H
           have p171 : 0 ≤ (x6_2 : Int):=of_decide_eq_true (by first | (with_reducible assumption) | assumption)
           have q171 : x6_2 < (l1.length : Int):=of_decide_eq_true (by first | (with_reducible assumption) | assumption)
           obtain ⟨ad171,e171,hx171_0⟩:=Kd.at_int HR1.out x6_2 p171 q171
           cases e171
           replace p171:=eq_true p171
           replace q171:=eq_true q171
           have p172 : 0 ≤ (x5_1 : Int):=of_decide_eq_true (by first | (with_reducible assumption) | assumption)
           have q172 : x5_1 < (l0.length : Int):=of_decide_eq_true (by first | (with_reducible assumption) | assumption)
           obtain ⟨ad172,e172,hx172_0,hx172_1⟩:=at_T91 HR0.out x5_1 p172 q172
           obtain rfl : ad169 = ad172:=(by injection e172)
           replace p172:=eq_true p172
           replace q172:=eq_true q172
           go_wp2
           repeat (go_quiet (fail); try go_wp2)
           go_ret
           exact ⟨by first | rfl | (simp; done) | (simp [*]; done),by repeat (first | exact Drawn0.refl _ | apply Drawn0.step)⟩
          rw [if_neg c11] at H
          have c11b0 : ((rd l1 x6_2) == ((rd_T91 l0 x5_1).f0)) = false:=beq_eq_false_iff_ne.mpr c11
          have c11b1 : ((rd l1 x6_2) != ((rd_T91 l0 x5_1).f0)) = true:=bne_iff_ne.mpr c11
          have H':=Aside0.mk H
          clear H
          have p171 : 0 ≤ (x6_2 : Int):=of_decide_eq_true (by first | (with_reducible assumption) | assumption)
          have q171 : x6_2 < (l1.length : Int):=of_decide_eq_true (by first | (with_reducible assumption) | assumption)
          obtain ⟨ad171,e171,hx171_0⟩:=Kd.at_int HR1.out x6_2 p171 q171
          cases e171
          replace p171:=eq_true p171
          replace q171:=eq_true q171
          have p172 : 0 ≤ (x5_1 : Int):=of_decide_eq_true (by first | (with_reducible assumption) | assumption)
          have q172 : x5_1 < (l0.length : Int):=of_decide_eq_true (by first | (with_reducible assumption) | assumption)
          obtain ⟨ad172,e172,hx172_0,hx172_1⟩:=at_T91 HR0.out x5_1 p172 q172
          obtain rfl : ad169 = ad172:=(by injection e172)
          replace p172:=eq_true p172
          replace q172:=eq_true q172
          go_wp2
          repeat (go_quiet (fail); try go_wp2)
          go_roundg k2
          case measure => have:=HK1.out; have:=HK2.out; omega
          case rel => exact ⟨(wrap64 (x6_2 + 1)),(by first | rfl | (simp; done) | (simp [*]; done)),H',⟨by have:=HK1.out; have:=HK2.out; omega⟩,by repeat (first | exact Drawn0.refl _ | apply Drawn0.step)⟩
         rw [if_neg c10] at H
         exact absurd H (by simp)
        rw [if_neg c9] at H
        exact absurd H (by simp)
       rw [if_neg c8] at H
       exact absurd H (by simp)
      rw [if_neg c7] at H
      have c7b0 : decide (x6_2 < (l1.length : Int)) = false:=decide_eq_false c7
      clear c7
      have H':=Aside0.mk H
      clear H
      go_wp2
      repeat (go_quiet (fail); try go_wp2)
      go_roundg k2
      case measure => have:=HK1.out; have:=HK2.out; omega
      case rel => exact ⟨(wrap64 (x5_1 + 1)),(by first | rfl | (simp; done) | (simp [*]; done)),H',⟨by have:=HK1.out; have:=HK2.out; omega⟩,by repeat (first | exact Drawn0.refl _ | apply Drawn0.step)⟩
    replace c6:=Bool.eq_false_iff.mpr c6
    subst c6
    have H1 : (some false) = some r:=by rw [if_neg (show ¬ (false = true) by decide)] at H; exact H
    clear H
    have H:=H1
    clear H1
    obtain rfl:=Option.some.inj H
    have p169 : 0 ≤ (x5_1 : Int):=of_decide_eq_true (by first | (with_reducible assumption) | assumption)
    have q169 : x5_1 < (l0.length : Int):=of_decide_eq_true (by first | (with_reducible assumption) | assumption)
    obtain ⟨ad169,e169,hx169_0,hx169_1⟩:=at_T91 HR0.out x5_1 p169 q169
    cases e169
    replace p169:=eq_true p169
    replace q169:=eq_true q169
    go_wp2_with (first | (go_at_call 63; (with_reducible refine (maquetteref13_page.calls ((rd_T91 l0 x5_1).f0) false _ A5.out).mono ?_); rintro e w' ⟨rfl,⟨nd,rfl⟩⟩; (try first | exact ⟨rfl,_,World.drewN_drewN _ _ _⟩ | exact ⟨rfl,_,Eq.trans (World.drewN_drewN _ _ _) (congrArg (World.drewN _) (Nat.add_assoc _ _ _))⟩)))
    repeat (go_quiet (first | (go_at_call 63; (with_reducible refine (maquetteref13_page.calls ((rd_T91 l0 x5_1).f0) false _ A5.out).mono ?_); rintro e w' ⟨rfl,⟨nd,rfl⟩⟩; (try first | exact ⟨rfl,_,World.drewN_drewN _ _ _⟩ | exact ⟨rfl,_,Eq.trans (World.drewN_drewN _ _ _) (congrArg (World.drewN _) (Nat.add_assoc _ _ _))⟩))); try go_wp2_with (first | (go_at_call 63; (with_reducible refine (maquetteref13_page.calls ((rd_T91 l0 x5_1).f0) false _ A5.out).mono ?_); rintro e w' ⟨rfl,⟨nd,rfl⟩⟩; (try first | exact ⟨rfl,_,World.drewN_drewN _ _ _⟩ | exact ⟨rfl,_,Eq.trans (World.drewN_drewN _ _ _) (congrArg (World.drewN _) (Nat.add_assoc _ _ _))⟩))))
    go_ret
    exact ⟨by first | rfl | (simp; done) | (simp [*]; done),by repeat (first | exact Drawn0.refl _ | apply Drawn0.step)⟩
   rw [if_neg c4] at H
   exact absurd H (by simp)
  rw [if_neg c3] at H
  have c3b0 : decide (x5_1 < (l0.length : Int)) = false:=decide_eq_false c3
  clear c3
  have H':=Aside0.mk H
  clear H
  go_wp2
  repeat (go_quiet (fail); try go_wp2)
  go_loopg [7] k1 (fun kq v7 w' => ∃ (x7_2 : Int),v7 = .int .i64 x7_2 ∧ Aside0 (maquetteref13_pages.l2 kq l1 x7_2 = some r) ∧ Aside0 (kq ≤ k1) ∧ Drawn0 w w')
  case atStart => exact ⟨(0),(by first | rfl | (simp; done) | (simp [*]; done)),H',⟨Nat.le_refl _⟩,by repeat (first | exact Drawn0.refl _ | apply Drawn0.step)⟩
  clear H'
  try clear c1
  try clear p1
  try clear q1
  try clear hx1
  try clear p2
  try clear c3
  try clear c3b0
  try clear c4
  try clear c4b0
  try clear c6
  try clear p6
  try clear c7
  try clear c7b0
  try clear c8
  try clear c8b0
  try clear c9
  try clear c9b0
  try clear c10
  try clear c10b0
  try clear c11
  try clear c11b0
  try clear c11b1
  try clear hx169_0
  try clear hx169_1
  try clear hx171_0
  try clear hx172_0
  try clear hx172_1
  try clear p1
  try clear p169
  try clear p171
  try clear p172
  try clear p2
  try clear q1
  try clear q169
  try clear q171
  try clear q172
  obtain ⟨x7_2,rfl,HA,HK2,⟨m2,rfl⟩⟩:=hrel
  cases gk with
  | zero => exact absurd HA.out (by simp [maquetteref13_pages.l2])
  | succ k2 =>
   have H:=HA.out
   clear HA
   simp only [maquetteref13_pages.l2] at H
   by_cases c12 : x7_2 < (l1.length : Int)
   ·rw [if_pos c12] at H
    have c12b0 : decide (x7_2 < (l1.length : Int)) = true:=decide_eq_true c12
    clear c12
    by_cases c13 : 0 ≤ x7_2
    ·rw [if_pos c13] at H
     have c13b0 : decide (0 ≤ x7_2) = true:=decide_eq_true c13
     clear c13
     replace H:=Option.bind_eq_some_iff.mp H
     obtain ⟨t174,A140,H⟩:=H
     replace H : (if t174 = true then (maquetteref13_pages.l3 k2 l1 x7_2 0) else (some false)) = some r:=H
     have A14:=Aside0.mk A140
     clear A140
     by_cases c15 : t174 = true
     ·subst c15
      have H1 : (maquetteref13_pages.l3 k2 l1 x7_2 0) = some r:=by rw [if_pos rfl] at H; exact H
      clear H
      have H:=H1
      clear H1
      have H':=Aside0.mk H
      clear H
      have p173 : 0 ≤ (x7_2 : Int):=of_decide_eq_true (by first | (with_reducible assumption) | assumption)
      have q173 : x7_2 < (l1.length : Int):=of_decide_eq_true (by first | (with_reducible assumption) | assumption)
      obtain ⟨ad173,e173,hx173_0⟩:=Kd.at_int HR1.out x7_2 p173 q173
      cases e173
      replace p173:=eq_true p173
      replace q173:=eq_true q173
      go_wp2_with (first | (go_at_call 63; (with_reducible refine (maquetteref13_page.calls (rd l1 x7_2) true _ A14.out).mono ?_); rintro e w' ⟨rfl,⟨nd,rfl⟩⟩; (try first | exact ⟨rfl,_,World.drewN_drewN _ _ _⟩ | exact ⟨rfl,_,Eq.trans (World.drewN_drewN _ _ _) (congrArg (World.drewN _) (Nat.add_assoc _ _ _))⟩)))
      repeat (go_quiet (first | (go_at_call 63; (with_reducible refine (maquetteref13_page.calls (rd l1 x7_2) true _ A14.out).mono ?_); rintro e w' ⟨rfl,⟨nd,rfl⟩⟩; (try first | exact ⟨rfl,_,World.drewN_drewN _ _ _⟩ | exact ⟨rfl,_,Eq.trans (World.drewN_drewN _ _ _) (congrArg (World.drewN _) (Nat.add_assoc _ _ _))⟩))); try go_wp2_with (first | (go_at_call 63; (with_reducible refine (maquetteref13_page.calls (rd l1 x7_2) true _ A14.out).mono ?_); rintro e w' ⟨rfl,⟨nd,rfl⟩⟩; (try first | exact ⟨rfl,_,World.drewN_drewN _ _ _⟩ | exact ⟨rfl,_,Eq.trans (World.drewN_drewN _ _ _) (congrArg (World.drewN _) (Nat.add_assoc _ _ _))⟩))))
      go_loopg [8] k2 (fun kq v8 w' => ∃ (x8_3 : Int),v8 = .int .i64 x8_3 ∧ Aside0 (maquetteref13_pages.l3 kq l1 x7_2 x8_3 = some r) ∧ Aside0 (kq ≤ k2) ∧ Drawn0 w w')
      case atStart => exact ⟨(0),(by first | rfl | (simp; done) | (simp [*]; done)),H',⟨Nat.le_refl _⟩,by repeat (first | exact Drawn0.refl _ | apply Drawn0.step)⟩
      clear H'
      try clear c1
      try clear p1
      try clear q1
      try clear hx1
      try clear p2
      try clear c3
      try clear c3b0
      try clear c4
      try clear c4b0
      try clear c6
      try clear p6
      try clear c7
      try clear c7b0
      try clear c8
      try clear c8b0
      try clear c9
      try clear c9b0
      try clear c10
      try clear c10b0
      try clear c11
      try clear c11b0
      try clear c11b1
      try clear c12
      try clear c12b0
      try clear c13
      try clear c13b0
      try clear c15
      try clear hx169_0
      try clear hx169_1
      try clear hx171_0
      try clear hx172_0
      try clear hx172_1
      try clear hx173_0
      try clear p1
      try clear p169
      try clear p171
      try clear p172
      try clear p173
      try clear p2
      try clear p6
      try clear q1
      try clear q169
      try clear q171
      try clear q172
      try clear q173
      obtain ⟨x8_3,rfl,HA,HK3,⟨m3,rfl⟩⟩:=hrel
      cases gk with
      | zero => exact absurd HA.out (by simp [maquetteref13_pages.l3])
      | succ k3 =>
       have H:=HA.out
       clear HA
       simp only [maquetteref13_pages.l3] at H
       by_cases c16 : x8_3 < x7_2
       ·rw [if_pos c16] at H
        have c16b0 : decide (x8_3 < x7_2) = true:=decide_eq_true c16
        clear c16
        by_cases c17 : 0 ≤ x8_3
        ·rw [if_pos c17] at H
         have c17b0 : decide (0 ≤ x8_3) = true:=decide_eq_true c17
         clear c17
         by_cases c18 : x8_3 < (l1.length : Int)
         ·rw [if_pos c18] at H
          have c18b0 : decide (x8_3 < (l1.length : Int)) = true:=decide_eq_true c18
          clear c18
          by_cases c19 : 0 ≤ x7_2
          ·rw [if_pos c19] at H
           have c19b0 : decide (0 ≤ x7_2) = true:=decide_eq_true c19
           clear c19
           by_cases c20 : x7_2 < (l1.length : Int)
           ·rw [if_pos c20] at H
            have c20b0 : decide (x7_2 < (l1.length : Int)) = true:=decide_eq_true c20
            clear c20
            by_cases c21 : (rd l1 x8_3) = (rd l1 x7_2)
            ·rw [if_pos c21] at H
             have c21b0 : ((rd l1 x8_3) == (rd l1 x7_2)) = true:=beq_iff_eq.mpr c21
             have c21b1 : ((rd l1 x8_3) != (rd l1 x7_2)) = false:=bne_eq_false_iff_eq.mpr c21
             clear c21
             obtain rfl:=Option.some.inj H
             have p175 : 0 ≤ (x8_3 : Int):=of_decide_eq_true (by first | (with_reducible assumption) | assumption)
             have q175 : x8_3 < (l1.length : Int):=of_decide_eq_true (by first | (with_reducible assumption) | assumption)
             obtain ⟨ad175,e175,hx175_0⟩:=Kd.at_int HR1.out x8_3 p175 q175
             obtain rfl : ad173 = ad175:=(by injection e175)
             replace p175:=eq_true p175
             replace q175:=eq_true q175
             have p176 : 0 ≤ (x7_2 : Int):=of_decide_eq_true (by first | (with_reducible assumption) | assumption)
             have q176 : x7_2 < (l1.length : Int):=of_decide_eq_true (by first | (with_reducible assumption) | assumption)
             obtain ⟨ad176,e176,hx176_0⟩:=Kd.at_int HR1.out x7_2 p176 q176
             obtain rfl : ad173 = ad176:=(by injection e176)
             replace p176:=eq_true p176
             replace q176:=eq_true q176
             go_wp2
             repeat (go_quiet (fail); try go_wp2)
             go_ret
             exact ⟨by first | rfl | (simp; done) | (simp [*]; done),by repeat (first | exact Drawn0.refl _ | apply Drawn0.step)⟩
            rw [if_neg c21] at H
            have c21b0 : ((rd l1 x8_3) == (rd l1 x7_2)) = false:=beq_eq_false_iff_ne.mpr c21
            have c21b1 : ((rd l1 x8_3) != (rd l1 x7_2)) = true:=bne_iff_ne.mpr c21
            have H':=Aside0.mk H
            clear H
            have p175 : 0 ≤ (x8_3 : Int):=of_decide_eq_true (by first | (with_reducible assumption) | assumption)
            have q175 : x8_3 < (l1.length : Int):=of_decide_eq_true (by first | (with_reducible assumption) | assumption)
            obtain ⟨ad175,e175,hx175_0⟩:=Kd.at_int HR1.out x8_3 p175 q175
            obtain rfl : ad173 = ad175:=(by injection e175)
            replace p175:=eq_true p175
            replace q175:=eq_true q175
            have p176 : 0 ≤ (x7_2 : Int):=of_decide_eq_true (by first | (with_reducible assumption) | assumption)
            have q176 : x7_2 < (l1.length : Int):=of_decide_eq_true (by first | (with_reducible assumption) | assumption)
            obtain ⟨ad176,e176,hx176_0⟩:=Kd.at_int HR1.out x7_2 p176 q176
            obtain rfl : ad173 = ad176:=(by injection e176)
            replace p176:=eq_true p176
            replace q176:=eq_true q176
            go_wp2
            repeat (go_quiet (fail); try go_wp2)
            go_roundg k3
            case measure => have:=HK1.out; have:=HK2.out; have:=HK3.out; omega
            case rel => exact ⟨(wrap64 (x8_3 + 1)),(by first | rfl | (simp; done) | (simp [*]; done)),H',⟨by have:=HK1.out; have:=HK2.out; have:=HK3.out; omega⟩,by repeat (first | exact Drawn0.refl _ | apply Drawn0.step)⟩
           rw [if_neg c20] at H
           exact absurd H (by simp)
          rw [if_neg c19] at H
          exact absurd H (by simp)
         rw [if_neg c18] at H
         exact absurd H (by simp)
        rw [if_neg c17] at H
        exact absurd H (by simp)
       rw [if_neg c16] at H
       have c16b0 : decide (x8_3 < x7_2) = false:=decide_eq_false c16
       clear c16
       have H':=Aside0.mk H
       clear H
       go_wp2
       repeat (go_quiet (fail); try go_wp2)
       go_roundg k3
       case measure => have:=HK1.out; have:=HK2.out; have:=HK3.out; omega
       case rel => exact ⟨(wrap64 (x7_2 + 1)),(by first | rfl | (simp; done) | (simp [*]; done)),H',⟨by have:=HK1.out; have:=HK2.out; have:=HK3.out; omega⟩,by repeat (first | exact Drawn0.refl _ | apply Drawn0.step)⟩
     replace c15:=Bool.eq_false_iff.mpr c15
     subst c15
     have H1 : (some false) = some r:=by rw [if_neg (show ¬ (false = true) by decide)] at H; exact H
     clear H
     have H:=H1
     clear H1
     obtain rfl:=Option.some.inj H
     have p173 : 0 ≤ (x7_2 : Int):=of_decide_eq_true (by first | (with_reducible assumption) | assumption)
     have q173 : x7_2 < (l1.length : Int):=of_decide_eq_true (by first | (with_reducible assumption) | assumption)
     obtain ⟨ad173,e173,hx173_0⟩:=Kd.at_int HR1.out x7_2 p173 q173
     cases e173
     replace p173:=eq_true p173
     replace q173:=eq_true q173
     go_wp2_with (first | (go_at_call 63; (with_reducible refine (maquetteref13_page.calls (rd l1 x7_2) false _ A14.out).mono ?_); rintro e w' ⟨rfl,⟨nd,rfl⟩⟩; (try first | exact ⟨rfl,_,World.drewN_drewN _ _ _⟩ | exact ⟨rfl,_,Eq.trans (World.drewN_drewN _ _ _) (congrArg (World.drewN _) (Nat.add_assoc _ _ _))⟩)))
     repeat (go_quiet (first | (go_at_call 63; (with_reducible refine (maquetteref13_page.calls (rd l1 x7_2) false _ A14.out).mono ?_); rintro e w' ⟨rfl,⟨nd,rfl⟩⟩; (try first | exact ⟨rfl,_,World.drewN_drewN _ _ _⟩ | exact ⟨rfl,_,Eq.trans (World.drewN_drewN _ _ _) (congrArg (World.drewN _) (Nat.add_assoc _ _ _))⟩))); try go_wp2_with (first | (go_at_call 63; (with_reducible refine (maquetteref13_page.calls (rd l1 x7_2) false _ A14.out).mono ?_); rintro e w' ⟨rfl,⟨nd,rfl⟩⟩; (try first | exact ⟨rfl,_,World.drewN_drewN _ _ _⟩ | exact ⟨rfl,_,Eq.trans (World.drewN_drewN _ _ _) (congrArg (World.drewN _) (Nat.add_assoc _ _ _))⟩))))
     go_ret
     exact ⟨by first | rfl | (simp; done) | (simp [*]; done),by repeat (first | exact Drawn0.refl _ | apply Drawn0.step)⟩
    rw [if_neg c13] at H
    exact absurd H (by simp)
   rw [if_neg c12] at H
   have c12b0 : decide (x7_2 < (l1.length : Int)) = false:=decide_eq_false c12
   clear c12
   obtain rfl:=Option.some.inj H
   go_wp2
   repeat (go_quiet (fail); try go_wp2)
   go_ret
   exact ⟨by first | rfl | (simp; done) | (simp [*]; done),by repeat (first | exact Drawn0.refl _ | apply Drawn0.step)⟩

def maquetteref13_leaves.l0 : Nat → List (S84) → Int → Int → Int → Option (Int)
  | 0, _, _, _, _ => none
  | k + 1, x0, x3, x4, x5 => if x5 < (x0.length : Int) then (if 0 ≤ x5 then (if (((rd_T84 x0 x5).f1).size : Int) ≤ 24 then (if (wrap64 (6 + (((rd_T84 x0 x5).f1).size : Int))) > x4 then (maquetteref13_leaves.l0 k x0 (wrap64 (x3 + 1)) (wrap64 (126 - (wrap64 (6 + (((rd_T84 x0 x5).f1).size : Int))))) (wrap64 (x5 + 1))) else (maquetteref13_leaves.l0 k x0 x3 (wrap64 (x4 - (wrap64 (6 + (((rd_T84 x0 x5).f1).size : Int))))) (wrap64 (x5 + 1)))) else (if 8 > x4 then (maquetteref13_leaves.l0 k x0 (wrap64 (x3 + 1)) (126 - 8) (wrap64 (x5 + 1))) else (maquetteref13_leaves.l0 k x0 x3 (wrap64 (x4 - 8)) (wrap64 (x5 + 1))))) else (none)) else (some x3)
def maquetteref13_leaves.f (k : Nat) (l0 : List (S84)) : Option (Int) := maquetteref13_leaves.l0 k l0 0 0 0
set_option maxHeartbeats 8000000 in
set_option maxRecDepth 100000 in
theorem maquetteref13_leaves.calls (k : Nat) (A0 : Option Addr) (c0 : Nat) (l0 : List (S84)) (r : Int) (w : World) (hr0 : Kd.C k84 w A0 l0.length l0) (hc0 : l0.length ≤ c0) (h : maquetteref13_leaves.f k l0 = some r) :
    Calls Try.prog 34 #[.slice A0 l0.length c0] w fun e w' => e = .returned (.int .i64 r) ∧ Drawn0 w w':=by
 have HR0:=Aside0.mk hr0
 have HC0:=Aside0.mk hc0
 clear hr0 hc0
 have H : (maquetteref13_leaves.l0 k l0 0 0 0) = some r:=h
 clear h
 have H':=Aside0.mk H
 clear H
 go_enter Try.func34,Try.ntmps34
 go_wp2
 go_loopg [3,4,5] k (fun kq v3 v4 v5 w' => ∃ (x3_1 : Int) (x4_1 : Int) (x5_1 : Int),v3 = .int .i64 x3_1 ∧ v4 = .int .i64 x4_1 ∧ v5 = .int .i64 x5_1 ∧ Aside0 (maquetteref13_leaves.l0 kq l0 x3_1 x4_1 x5_1 = some r) ∧ Aside0 (kq ≤ k) ∧ Drawn0 w w')
 case atStart => exact ⟨(0),(0),(0),(by first | rfl | (simp; done) | (simp [*]; done)),(by first | rfl | (simp; done) | (simp [*]; done)),(by first | rfl | (simp; done) | (simp [*]; done)),H',⟨Nat.le_refl _⟩,by repeat (first | exact Drawn0.refl _ | apply Drawn0.step)⟩
 clear H'
 obtain ⟨x3_1,x4_1,x5_1,rfl,rfl,rfl,HA,HK1,⟨m1,rfl⟩⟩:=hrel
 cases gk with
 | zero => exact absurd HA.out (by simp [maquetteref13_leaves.l0])
 | succ k1 =>
  have H:=HA.out
  clear HA
  simp only [maquetteref13_leaves.l0] at H
  by_cases c2 : x5_1 < (l0.length : Int)
  ·rw [if_pos c2] at H
   have c2b0 : decide (x5_1 < (l0.length : Int)) = true:=decide_eq_true c2
   clear c2
   by_cases c3 : 0 ≤ x5_1
   ·rw [if_pos c3] at H
    have c3b0 : decide (0 ≤ x5_1) = true:=decide_eq_true c3
    clear c3
    by_cases c4 : (((rd_T84 l0 x5_1).f1).size : Int) ≤ 24
    ·rw [if_pos c4] at H
     have c4b0 : decide ((((rd_T84 l0 x5_1).f1).size : Int) ≤ 24) = true:=decide_eq_true c4
     have c4b1 : decide (((rd_T84 l0 x5_1).f1).size ≤ 24) = true:=decide_eq_true (by omega)
     clear c4
     by_cases c5 : (wrap64 (6 + (((rd_T84 l0 x5_1).f1).size : Int))) > x4_1
     ·rw [if_pos c5] at H
      have c5b0 : decide (x4_1 < (wrap64 (6 + (((rd_T84 l0 x5_1).f1).size : Int)))) = true:=decide_eq_true c5
      clear c5
      have H':=Aside0.mk H
      clear H
      have p177 : 0 ≤ (x5_1 : Int):=of_decide_eq_true (by first | (with_reducible assumption) | assumption)
      have q177 : x5_1 < (l0.length : Int):=of_decide_eq_true (by first | (with_reducible assumption) | assumption)
      obtain ⟨ad177,e177,hx177_0,hx177_1⟩:=at_T84 HR0.out x5_1 p177 q177
      cases e177
      replace p177:=eq_true p177
      replace q177:=eq_true q177
      have p178 : 0 ≤ (x5_1 : Int):=of_decide_eq_true (by first | (with_reducible assumption) | assumption)
      have q178 : x5_1 < (l0.length : Int):=of_decide_eq_true (by first | (with_reducible assumption) | assumption)
      obtain ⟨ad178,e178,hx178_0,hx178_1⟩:=at_T84 HR0.out x5_1 p178 q178
      obtain rfl : ad177 = ad178:=(by injection e178)
      replace p178:=eq_true p178
      replace q178:=eq_true q178
      go_wp2
      go_roundg k1
      case measure => have:=HK1.out; omega
      case rel => exact ⟨(wrap64 (x3_1 + 1)),(wrap64 (126 - (wrap64 (6 + (((rd_T84 l0 x5_1).f1).size : Int))))),(wrap64 (x5_1 + 1)),(by first | rfl | (simp; done) | (simp [*]; done)),(by first | rfl | (simp; done) | (simp [*]; done)),(by first | rfl | (simp; done) | (simp [*]; done)),H',⟨by have:=HK1.out; omega⟩,by repeat (first | exact Drawn0.refl _ | apply Drawn0.step)⟩
     rw [if_neg c5] at H
     have c5b0 : decide (x4_1 < (wrap64 (6 + (((rd_T84 l0 x5_1).f1).size : Int)))) = false:=decide_eq_false c5
     clear c5
     have H':=Aside0.mk H
     clear H
     have p177 : 0 ≤ (x5_1 : Int):=of_decide_eq_true (by first | (with_reducible assumption) | assumption)
     have q177 : x5_1 < (l0.length : Int):=of_decide_eq_true (by first | (with_reducible assumption) | assumption)
     obtain ⟨ad177,e177,hx177_0,hx177_1⟩:=at_T84 HR0.out x5_1 p177 q177
     cases e177
     replace p177:=eq_true p177
     replace q177:=eq_true q177
     have p178 : 0 ≤ (x5_1 : Int):=of_decide_eq_true (by first | (with_reducible assumption) | assumption)
     have q178 : x5_1 < (l0.length : Int):=of_decide_eq_true (by first | (with_reducible assumption) | assumption)
     obtain ⟨ad178,e178,hx178_0,hx178_1⟩:=at_T84 HR0.out x5_1 p178 q178
     obtain rfl : ad177 = ad178:=(by injection e178)
     replace p178:=eq_true p178
     replace q178:=eq_true q178
     go_wp2
     go_roundg k1
     case measure => have:=HK1.out; omega
     case rel => exact ⟨(x3_1),(wrap64 (x4_1 - (wrap64 (6 + (((rd_T84 l0 x5_1).f1).size : Int))))),(wrap64 (x5_1 + 1)),(by first | rfl | (simp; done) | (simp [*]; done)),(by first | rfl | (simp; done) | (simp [*]; done)),(by first | rfl | (simp; done) | (simp [*]; done)),H',⟨by have:=HK1.out; omega⟩,by repeat (first | exact Drawn0.refl _ | apply Drawn0.step)⟩
    rw [if_neg c4] at H
    have c4b0 : decide ((((rd_T84 l0 x5_1).f1).size : Int) ≤ 24) = false:=decide_eq_false c4
    have c4b1 : decide (((rd_T84 l0 x5_1).f1).size ≤ 24) = false:=decide_eq_false (by omega)
    clear c4
    by_cases c6 : 8 > x4_1
    ·rw [if_pos c6] at H
     have c6b0 : decide (x4_1 < 8) = true:=decide_eq_true c6
     clear c6
     have H':=Aside0.mk H
     clear H
     have p177 : 0 ≤ (x5_1 : Int):=of_decide_eq_true (by first | (with_reducible assumption) | assumption)
     have q177 : x5_1 < (l0.length : Int):=of_decide_eq_true (by first | (with_reducible assumption) | assumption)
     obtain ⟨ad177,e177,hx177_0,hx177_1⟩:=at_T84 HR0.out x5_1 p177 q177
     cases e177
     replace p177:=eq_true p177
     replace q177:=eq_true q177
     go_wp2
     go_roundg k1
     case measure => have:=HK1.out; omega
     case rel => exact ⟨(wrap64 (x3_1 + 1)),(126 - 8),(wrap64 (x5_1 + 1)),(by first | rfl | (simp; done) | (simp [*]; done)),(by first | rfl | (simp; done) | (simp [*]; done)),(by first | rfl | (simp; done) | (simp [*]; done)),H',⟨by have:=HK1.out; omega⟩,by repeat (first | exact Drawn0.refl _ | apply Drawn0.step)⟩
    rw [if_neg c6] at H
    have c6b0 : decide (x4_1 < 8) = false:=decide_eq_false c6
    clear c6
    have H':=Aside0.mk H
    clear H
    have p177 : 0 ≤ (x5_1 : Int):=of_decide_eq_true (by first | (with_reducible assumption) | assumption)
    have q177 : x5_1 < (l0.length : Int):=of_decide_eq_true (by first | (with_reducible assumption) | assumption)
    obtain ⟨ad177,e177,hx177_0,hx177_1⟩:=at_T84 HR0.out x5_1 p177 q177
    cases e177
    replace p177:=eq_true p177
    replace q177:=eq_true q177
    go_wp2
    go_roundg k1
    case measure => have:=HK1.out; omega
    case rel => exact ⟨(x3_1),(wrap64 (x4_1 - 8)),(wrap64 (x5_1 + 1)),(by first | rfl | (simp; done) | (simp [*]; done)),(by first | rfl | (simp; done) | (simp [*]; done)),(by first | rfl | (simp; done) | (simp [*]; done)),H',⟨by have:=HK1.out; omega⟩,by repeat (first | exact Drawn0.refl _ | apply Drawn0.step)⟩
   rw [if_neg c3] at H
   exact absurd H (by simp)
  rw [if_neg c2] at H
  have c2b0 : decide (x5_1 < (l0.length : Int)) = false:=decide_eq_false c2
  clear c2
  obtain rfl:=Option.some.inj H
  go_wp2
  go_ret
  exact ⟨by first | rfl | (simp; done) | (simp [*]; done),by repeat (first | exact Drawn0.refl _ | apply Drawn0.step)⟩

def maquetteref13_Zeros.f (a0 : Int) : Option (ByteArray) := if 0 ≤ (mx a0 0) then (if (mx a0 0 : Int).toNat ≤ 281474976710656 then (some (strOfNums (List.replicate (mx a0 0 : Int).toNat 0))) else (none)) else (none)
set_option maxHeartbeats 8000000 in
set_option maxRecDepth 100000 in
theorem maquetteref13_Zeros.calls (a0 : Int) (r : ByteArray) (w : World) (h : maquetteref13_Zeros.f a0 = some r) :
    Calls Try.prog 81 #[.int .i64 a0] w fun e w' => e = .returned (.string r) ∧ Below w.heap.size w w':=by
 have HB:=Aside0.mk (Below.refl w.heap.size w)
 have H : (if 0 ≤ (mx a0 0) then (if (mx a0 0 : Int).toNat ≤ 281474976710656 then (some (strOfNums (List.replicate (mx a0 0 : Int).toNat 0))) else (none)) else (none)) = some r:=h
 clear h
 obtain ⟨ji2,hji2⟩ : ∃ j_ : Int,(mx a0 0) = j_:=⟨_,rfl⟩
 replace H : (if 0 ≤ (ji2) then (if (ji2 : Int).toNat ≤ 281474976710656 then (some (strOfNums (List.replicate (ji2 : Int).toNat 0))) else (none)) else (none)) = some r:=by first | (rw [hji2] at H; exact H) | (simp only [hji2] at H ⊢; exact H)
 (try (have hji2l : 0 ≤ ji2:=by (rw [← hji2]; unfold mx; (repeat' split) <;> omega)))
 (try (have hji2m : 0 ≤ ji2:=by omega))
 have hji2_ : (if a0 < 0 then 0 else a0) = ji2:=hji2
 by_cases c3 : 0 ≤ (ji2)
 ·rw [if_pos c3] at H
  have c3b0:=eq_true c3
  have c3b1 : decide (0 ≤ (ji2)) = true:=decide_eq_true c3
  clear c3
  by_cases c4 : (ji2 : Int).toNat ≤ 281474976710656
  ·rw [if_pos c4] at H
   have c4b0:=eq_true c4
   have c4b1 : decide ((ji2 : Int).toNat ≤ 281474976710656) = true:=decide_eq_true c4
   clear c4
   obtain ⟨y179,hy179⟩ : ∃ y_ : List Int,y_ = (List.replicate (ji2 : Int).toNat 0):=⟨_,rfl⟩
   replace H : (some (strOfNums y179)) = some r:=by first | (rw [hy179]; with_reducible exact H) | (have H2_:=(Option.bind_some _ _).symm.trans H; rw [hy179]; with_reducible exact H2_) | (have H2_:=(Option.bind_some _ _).symm.trans H; with_reducible exact H2_) | with_reducible exact H | (rw [hy179]; exact H) | exact H
   have Ny179:=Aside0.mk hy179
   clear hy179
   obtain rfl:=Option.some.inj H
   go_enter Try.func81,Try.ntmps81
   go_wp2_with (first | ((with_reducible refine gate_dst (N:=5) rfl ?_); refine Kd.R_make (Kd.int .u8) _ 5 rfl (N:=5) rfl 43 _ _ rfl ji2 rfl rfl Try.underlying43 (.int .u8 0) 1 info5 rfl (by decide) (by omega) 0 (ok:=fun _ => True) (okp:=fun _ => True) rfl (fun _ hk => hk) trivial (of_decide_eq_true (by first | (with_reducible assumption) | assumption)) (Nat.le_trans (Nat.mul_le_mul_right _ (of_decide_eq_true (by first | (with_reducible assumption) | assumption) : ji2.toNat ≤ 281474976710656)) (by omega)) (Below.refl _ _) (Nat.le_refl _) ?_; intro v180 w5 ho6 hb hg_ hnew_; clear hg_ hnew_; (first | rw [← Ny179.out] at ho6 | (simp only [Int.reduceToNat] at ho6; rw [← Ny179.out] at ho6)); have n0_:=Aside0.mk (Kd.R_lower ho6 (below_size (by repeat (first | (with_reducible first | exact HB.out | apply below_alloc | apply pw_below_drewN | apply below_drew1) | exact HB.out)))); have n1_:=Aside0.mk (below_step (by repeat (first | (with_reducible first | exact HB.out | apply below_alloc | apply pw_below_drewN | apply below_drew1) | exact HB.out)) hb); clear HB; have HO181:=n0_; have HB:=n1_; clear n0_ n1_; clear hb ho6; have hcv7:=own_string (P:=Try.prog) Try.underlying43 Try.underlying5 Try.underlying9 (Kd.own_of_R HO181.out)))
   go_ret
   exact ⟨by first | rfl | (simp [errW_none,errW_some] <;> rfl) | (simp only [← hji2]; first | rfl | (simp [errW_none,errW_some] <;> rfl)) | (simp [*,errW_none,errW_some] <;> rfl),by repeat (first | (with_reducible first | exact HB.out | apply below_alloc | apply pw_below_drewN | apply below_drew1) | exact HB.out)⟩
  rw [if_neg c4] at H
  exact absurd H (by simp)
 rw [if_neg c3] at H
 exact absurd H (by simp)

def maquetteref13_fill.f (a0 : ByteArray) : Option (ByteArray) := (maquetteref13_Zeros.f (wrap64 (128 - (a0.size : Int)))).bind fun t182 => (if a0.size + t182.size ≤ 9223372036854775807 then (some (a0 ++ t182)) else (none))
set_option maxHeartbeats 8000000 in
set_option maxRecDepth 100000 in
theorem maquetteref13_fill.calls (a0 : ByteArray) (r : ByteArray) (w : World) (h : maquetteref13_fill.f a0 = some r) :
    Calls Try.prog 64 #[.string a0] w fun e w' => e = .returned (.string r) ∧ Below w.heap.size w w':=by
 have HB:=Aside0.mk (Below.refl w.heap.size w)
 have H : ((maquetteref13_Zeros.f (wrap64 (128 - (a0.size : Int)))).bind fun t182 => (if a0.size + t182.size ≤ 9223372036854775807 then (some (a0 ++ t182)) else (none))) = some r:=h
 clear h
 replace H:=Option.bind_eq_some_iff.mp H
 obtain ⟨t182,A20,H⟩:=H
 replace H : (if a0.size + t182.size ≤ 9223372036854775807 then (some (a0 ++ t182)) else (none)) = some r:=H
 have A2:=Aside0.mk A20
 clear A20
 by_cases c3 : a0.size + t182.size ≤ 9223372036854775807
 ·rw [if_pos c3] at H
  have c3b0:=eq_true c3
  have c3b1 : decide (a0.size + t182.size ≤ 9223372036854775807) = true:=decide_eq_true c3
  try have c3b2 : (9223372036854775807 < a0.size + t182.size) = False:=eq_false (Nat.not_lt.2 c3)
  obtain rfl:=Option.some.inj H
  have A2x:=A2.out
  rw [show wrap64 (128 - (a0.size : Int)) = 128 - (a0.size : Int) from by unfold wrap64; omega] at A2x
  clear A2
  have A2:=Aside0.mk A2x
  clear A2x
  go_enter Try.func64,Try.ntmps64
  go_wp2_with (first | ((with_reducible refine gate_callee (f:=81) rfl ?_); refine goesL_ (some 7) rfl rfl Try.func81 (by kernel_rfl) rfl #[.int .i64 ((128 - (a0.size : Int)))] rfl (by (try simp only [List.map_toArray,List.map_cons,List.map_nil]); first | done | rfl | (simp only [List.length_drop,List.length_take]; rfl) | (simp only [ByteArray.size_append,Int.natCast_add]; rfl) | (simp [ByteArray.size_append,Int.add_assoc]; done)) ?_; (with_reducible refine (maquetteref13_Zeros.calls ((128 - (a0.size : Int))) t182 _ A2.out).mono ?_); rintro e w4 ⟨rfl,hb⟩; refine ⟨_,rfl,?_⟩; have n0_:=Aside0.mk (below_step (by repeat (first | (with_reducible first | exact HB.out | apply below_alloc | apply pw_below_drewN | apply below_drew1) | exact HB.out)) hb); clear HB; have HB:=n0_; clear n0_; (try clear hb); (try clear hb2); (try clear hk); (try clear hi)))
  go_ret
  exact ⟨by first | rfl | (simp [errW_none,errW_some] <;> rfl) | (simp [*,errW_none,errW_some] <;> rfl),by repeat (first | (with_reducible first | exact HB.out | apply below_alloc | apply pw_below_drewN | apply below_drew1) | exact HB.out)⟩
 rw [if_neg c3] at H
 exact absurd H (by simp)

end Go.Proofs.Ytpeeojbhfebcdaa.PRf


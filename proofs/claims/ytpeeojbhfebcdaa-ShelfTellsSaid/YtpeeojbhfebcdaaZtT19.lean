/- Of the texts that the row stands on, what it needs (part 19), put together by a program of this session. -/
import Derived.Test.YtpeeojbhfebcdaaZtT16
import Derived.Test.YtpeeojbhfebcdaaZtT18
namespace Go.Proofs.Ytpeeojbhfebcdaa.PRf
open Go.RowKit Go.Proofs.YtpeeojbhfebcdaaW.PrintWords Go.Proofs.YtpeeojbhfebcdaaW.PrintLast Go.Proofs.YtpeeojbhfebcdaaW.PrintMore
attribute [local go_sem] max2_int min2_int max_two min_two max_three min_three max_four min_four
set_option linter.unusedVariables false
set_option linter.unusedSimpArgs false
def maquetteref13_Big.l0 : Nat → Int → List Int → Int → Option (ByteArray)
  | 0, _, _, _ => none
  | k + 1, x0, x5, x6 => if x6 ≥ 0 then (if 0 ≤ x6 then (if x6 < (x5.length : Int) then (maquetteref13_Big.l0 k (x0 / 256) (x5.set (x6 : Int).toNat ((Go.bits .and .i64 x0 255) % 256)) (wrap64 (x6 - 1))) else (none)) else (none)) else (some (strOfNums x5))
def maquetteref13_Big.f (k : Nat) (a0 : Int) (a1 : Int) : Option (ByteArray) := if 0 ≤ a1 then (if (a1 : Int).toNat ≤ 281474976710656 then (maquetteref13_Big.l0 k a0 (List.replicate (a1 : Int).toNat 0) (wrap64 (a1 - 1))) else (none)) else (none)
set_option maxHeartbeats 8000000 in
set_option maxRecDepth 100000 in
theorem maquetteref13_Big.calls (k : Nat) (a0 : Int) (a1 : Int) (r : ByteArray) (w : World) (h : maquetteref13_Big.f k a0 a1 = some r) :
    Calls Try.prog 65 #[.int .i64 a0,.int .i64 a1] w fun e w' => e = .returned (.string r) ∧ Below w.heap.size w w':=by
 have HB:=Aside0.mk (Below.refl w.heap.size w)
 have H : (if 0 ≤ a1 then (if (a1 : Int).toNat ≤ 281474976710656 then (maquetteref13_Big.l0 k a0 (List.replicate (a1 : Int).toNat 0) (wrap64 (a1 - 1))) else (none)) else (none)) = some r:=h
 clear h
 by_cases c3 : 0 ≤ a1
 ·rw [if_pos c3] at H
  have c3b0:=eq_true c3
  have c3b1 : decide (0 ≤ a1) = true:=decide_eq_true c3
  clear c3
  by_cases c4 : (a1 : Int).toNat ≤ 281474976710656
  ·rw [if_pos c4] at H
   have c4b0:=eq_true c4
   have c4b1 : decide ((a1 : Int).toNat ≤ 281474976710656) = true:=decide_eq_true c4
   clear c4
   obtain ⟨y183,hy183⟩ : ∃ y_ : List Int,y_ = (List.replicate (a1 : Int).toNat 0):=⟨_,rfl⟩
   replace H : (maquetteref13_Big.l0 k a0 y183 (wrap64 (a1 - 1))) = some r:=by first | (rw [hy183]; with_reducible exact H) | (have H2_:=(Option.bind_some _ _).symm.trans H; rw [hy183]; with_reducible exact H2_) | (have H2_:=(Option.bind_some _ _).symm.trans H; with_reducible exact H2_) | with_reducible exact H | (rw [hy183]; exact H) | exact H
   have Ny183:=Aside0.mk hy183
   clear hy183
   have H':=Aside0.mk H
   clear H
   go_enter Try.func65,Try.ntmps65
   go_wp2_with (first | ((with_reducible refine gate_dst (N:=8) rfl ?_); refine Kd.R_make (Kd.int .u8) _ 5 rfl (N:=8) rfl 43 _ _ rfl a1 rfl rfl Try.underlying43 (.int .u8 0) 1 info5 rfl (by decide) (by omega) 0 (ok:=fun _ => True) (okp:=fun _ => True) rfl (fun _ hk => hk) trivial (of_decide_eq_true (by first | (with_reducible assumption) | assumption)) (Nat.le_trans (Nat.mul_le_mul_right _ (of_decide_eq_true (by first | (with_reducible assumption) | assumption) : a1.toNat ≤ 281474976710656)) (by omega)) (Below.refl _ _) (Nat.le_refl _) ?_; intro v184 w5 ho6 hb hg_ hnew_; clear hg_ hnew_; (first | rw [← Ny183.out] at ho6 | (simp only [Int.reduceToNat] at ho6; rw [← Ny183.out] at ho6)); have n0_:=Aside0.mk (Kd.R_lower ho6 (below_size (by repeat (first | (with_reducible first | exact HB.out | apply below_alloc | apply pw_below_drewN | apply below_drew1) | exact HB.out)))); have n1_:=Aside0.mk (below_step (by repeat (first | (with_reducible first | exact HB.out | apply below_alloc | apply pw_below_drewN | apply below_drew1) | exact HB.out)) hb); clear HB; have HO185:=n0_; have HB:=n1_; clear n0_ n1_; clear hb ho6))
   go_loopg [0,6] k (fun kq v0 v6 w' => ∃ (x0_1 : Int) (x5_1 : List Int) (x6_1 : Int),v0 = .int .i64 x0_1 ∧ v6 = .int .i64 x6_1 ∧ Aside0 (maquetteref13_Big.l0 kq x0_1 x5_1 x6_1 = some r) ∧ Aside0 (kq ≤ k) ∧ Aside0 (Kd.R (Kd.int .u8) 5 w' w.heap.size (fun _ => True) v184 x5_1) ∧ Aside0 (Below w.heap.size w w'))
   case atStart => exact ⟨(a0),(y183),(wrap64 (a1 - 1)),(by first | rfl | (simp; done) | (simp [*]; done)),(by first | rfl | (simp; done) | (simp [*]; done)),H',⟨Nat.le_refl _⟩,⟨by (with_reducible repeat (first | apply Kd.R_alloc | apply Kd.R_drewN | apply Kd.R_drew)); exact HO185.out⟩,⟨by repeat (first | (with_reducible first | exact HB.out | apply below_alloc | apply pw_below_drewN | apply below_drew1) | exact HB.out)⟩⟩
   clear H'
   try clear p2
   try clear c3
   try clear c3b0
   try clear c3b1
   try clear c4
   try clear c4b0
   try clear c4b1
   try clear c6
   try clear p6
   obtain ⟨x0_1,x5_1,x6_1,rfl,rfl,HA,HK1,HO_5,HB⟩:=hrel
   cases gk with
   | zero => exact absurd HA.out (by simp [maquetteref13_Big.l0])
   | succ k1 =>
    have H:=HA.out
    clear HA
    simp only [maquetteref13_Big.l0] at H
    by_cases c7 : x6_1 ≥ 0
    ·rw [if_pos c7] at H
     have c7b0 : decide (0 ≤ x6_1) = true:=decide_eq_true c7
     clear c7
     by_cases c8 : 0 ≤ x6_1
     ·rw [if_pos c8] at H
      have c8b0 : decide (0 ≤ x6_1) = true:=decide_eq_true c8
      clear c8
      by_cases c9 : x6_1 < (x5_1.length : Int)
      ·rw [if_pos c9] at H
       have c9b0 : decide (x6_1 < (x5_1.length : Int)) = true:=decide_eq_true c9
       clear c9
       obtain ⟨y186,hy186⟩ : ∃ y_ : List Int,y_ = (x5_1.set (x6_1 : Int).toNat ((Go.bits .and .i64 x0_1 255) % 256)):=⟨_,rfl⟩
       replace H : (maquetteref13_Big.l0 k1 (x0_1 / 256) y186 (wrap64 (x6_1 - 1))) = some r:=by first | (rw [hy186]; with_reducible exact H) | (have H2_:=(Option.bind_some _ _).symm.trans H; rw [hy186]; with_reducible exact H2_) | (have H2_:=(Option.bind_some _ _).symm.trans H; with_reducible exact H2_) | with_reducible exact H | (rw [hy186]; exact H) | exact H
       have Ny186:=Aside0.mk hy186
       clear hy186
       have H':=Aside0.mk H
       clear H
       have p10 : 0 ≤ (x6_1 : Int):=of_decide_eq_true (by first | (with_reducible assumption) | assumption)
       have q10 : (x6_1 : Int) < ((x5_1.length : Int) : Int):=of_decide_eq_true (by first | (with_reducible assumption) | assumption)
       obtain ⟨go10,co10,eo10,gb10,gl10,cl10,HG10⟩:=Kd.R_form HO_5.out (by omega)
       (first | cases eo10 | (injection eo10 with ea_ en_ ec_; (first | subst ea_ | (injection ea_ with ea_; subst ea_)); subst ec_; clear en_))
       have GB10:=Aside0.mk gb10
       have GG10:=Aside0.mk HG10
       clear gb10 gl10 HG10
       obtain ⟨hx10_0,hf10_0⟩:=Kd.R_celln 0 HO_5.out (x6_1 : Int) p10 q10
       replace p10:=eq_true p10
       replace q10:=eq_true q10
       have HP11:=Kd.R_putg HO_5.out (x6_1 : Int) ((Go.bits .and .i64 x0_1 255) % 256)
       go_wp2_with (first | ((with_reducible refine gate_store (t:=5) (p:=20) rfl ?_); refine store_event (t:=5) (p:=20) (v:=?vo_w12) (w1:=(wr.setCell ⟨go10,(x6_1 : Int).toNat,none⟩ (.int .u8 ((Go.bits .and .i64 x0_1 255) % 256)))) ?hg ?ho ?hn ?hr ?_; (case ho => rfl); (case hg => rfl); (case hn => rfl); (case hr => first | (go_simp; done) | (go_simp; rfl)); intro w12 hw; have hg : wr.grownBy w12 (some go10):=(by rw [hw]; exact HP11.2); have hp_ : Kd.R (Kd.int .u8) 5 w12 w.heap.size (fun _ => True) (.slice (some ⟨go10,0,none⟩) x5_1.length co10) y186:=(by rw [hw,Ny186.out]; exact HP11.1); clear HP11; have n0_:=Aside0.mk (hp_); have n1_:=Aside0.mk ((by rw [hw]; exact below_set (HB.out) GB10.out : Below w.heap.size w w12)); clear HO_5; clear HB; have HO_5:=n0_; have HB:=n1_; clear n0_ n1_; clear hg hw hp_))
       go_roundg k1
       case measure => have:=HK1.out; omega
       case rel => exact ⟨(x0_1 / 256),(y186),(wrap64 (x6_1 - 1)),(by first | rfl | (simp; done) | (simp [*]; done)),(by first | rfl | (simp; done) | (simp [*]; done)),H',⟨by have:=HK1.out; omega⟩,⟨by (with_reducible repeat (first | apply Kd.R_alloc | apply Kd.R_drewN | apply Kd.R_drew)); exact HO_5.out⟩,⟨by repeat (first | (with_reducible first | exact HB.out | apply below_alloc | apply pw_below_drewN | apply below_drew1) | exact HB.out)⟩⟩
      rw [if_neg c9] at H
      exact absurd H (by simp)
     rw [if_neg c8] at H
     exact absurd H (by simp)
    rw [if_neg c7] at H
    have c7b0 : decide (0 ≤ x6_1) = false:=decide_eq_false c7
    clear c7
    obtain rfl:=Option.some.inj H
    have hcv13:=own_string (P:=Try.prog) Try.underlying43 Try.underlying5 Try.underlying9 (Kd.own_of_R HO_5.out)
    go_wp2
    go_ret
    exact ⟨by first | rfl | (simp [errW_none,errW_some] <;> rfl) | (simp [*,errW_none,errW_some] <;> rfl),by repeat (first | (with_reducible first | exact HB.out | apply below_alloc | apply pw_below_drewN | apply below_drew1) | exact HB.out)⟩
  rw [if_neg c4] at H
  exact absurd H (by simp)
 rw [if_neg c3] at H
 exact absurd H (by simp)

def maquetteref13_Chain.j0 : Nat → Int → ByteArray → Bool → Option (ByteArray × Bool)
  | 0, _, _, _ => none
  | k + 1, x0, x1, x22 => if x22 = true then (some ((⟨#[]⟩ : ByteArray), false)) else ((maquetteref13_Big.f k x0 2).bind fun t188 => (if 1 + t188.size ≤ 9223372036854775807 then ((maquetteref13_Big.f k (x1.size : Int) 1).bind fun t189 => (if ((⟨#[67]⟩ : ByteArray) ++ t188).size + t189.size ≤ 9223372036854775807 then (if (((⟨#[67]⟩ : ByteArray) ++ t188) ++ t189).size + x1.size ≤ 9223372036854775807 then ((maquetteref13_fill.f ((((⟨#[67]⟩ : ByteArray) ++ t188) ++ t189) ++ x1)).bind fun t190 => (some (t190, true))) else (none)) else (none))) else (none)))
def maquetteref13_Chain.f (k : Nat) (a0 : Int) (a1 : ByteArray) : Option (ByteArray × Bool) := if a0 = 0 then (if (a1.size : Int) < 1 then (maquetteref13_Chain.j0 k a0 a1 true) else (maquetteref13_Chain.j0 k a0 a1 (decide ((a1.size : Int) > 120)))) else ((maquetteref13_page.f a0).bind fun t187 => (if t187 = true then (if (a1.size : Int) < 1 then (maquetteref13_Chain.j0 k a0 a1 true) else (maquetteref13_Chain.j0 k a0 a1 (decide ((a1.size : Int) > 120)))) else (maquetteref13_Chain.j0 k a0 a1 true)))
set_option maxHeartbeats 8000000 in
set_option maxRecDepth 100000 in
theorem maquetteref13_Chain.calls (k : Nat) (a0 : Int) (a1 : ByteArray) (r1 : ByteArray) (r2 : Bool) (w : World) (h : maquetteref13_Chain.f k a0 a1 = some (r1,r2)) :
    Calls Try.prog 35 #[.int .i64 a0,.string a1] w fun e w' => e = .returned (.tuple #[.string r1,.bool r2]) ∧ Below w.heap.size w w':=by
 have HB:=Aside0.mk (Below.refl w.heap.size w)
 have H : (if a0 = 0 then (if (a1.size : Int) < 1 then (maquetteref13_Chain.j0 k a0 a1 true) else (maquetteref13_Chain.j0 k a0 a1 (decide ((a1.size : Int) > 120)))) else ((maquetteref13_page.f a0).bind fun t187 => (if t187 = true then (if (a1.size : Int) < 1 then (maquetteref13_Chain.j0 k a0 a1 true) else (maquetteref13_Chain.j0 k a0 a1 (decide ((a1.size : Int) > 120)))) else (maquetteref13_Chain.j0 k a0 a1 true)))) = some (r1,r2):=h
 clear h
 have HC3:=Aside0.mk H
 clear H
 go_enter Try.func35,Try.ntmps35
 go_upto_region 1 with (fail)
 go_cut [22] (fun v22 wc => ∃ (kq : Nat) (x22_2 : Bool),v22 = .bool x22_2 ∧ Aside0 (maquetteref13_Chain.j0 kq a0 a1 x22_2 = some (r1,r2)) ∧ Aside0 (kq ≤ k) ∧ Aside0 (Below w.heap.size w wc))
 case first =>
  have H:=HC3.out
  clear HC3
  by_cases c4 : a0 = 0
  ·rw [if_pos c4] at H
   have c4b0 : (a0 == 0) = true:=beq_iff_eq.mpr c4
   have c4b1 : (a0 != 0) = false:=bne_eq_false_iff_eq.mpr c4
   clear c4
   (first | rw [c4b0] | (simp only [i64_w,i32_w]; rw [c4b0]) | skip)
   by_cases c5 : (a1.size : Int) < 1
   ·rw [if_pos c5] at H
    have c5b0 : decide ((a1.size : Int) < 1) = true:=decide_eq_true c5
    have c5b1 : decide (a1.size < 1) = true:=decide_eq_true (by omega)
    clear c5
    have H':=Aside0.mk H
    clear H
    go_wp2
    go_meet
    case rel => exact ⟨_,(true),(by first | rfl | (simp; done) | (simp [*]; done)),H',⟨by first | omega | exact Nat.le_refl _⟩,⟨by repeat (first | (with_reducible first | exact HB.out | apply below_alloc | apply pw_below_drewN | apply below_drew1) | exact HB.out)⟩⟩
   rw [if_neg c5] at H
   have c5b0 : decide ((a1.size : Int) < 1) = false:=decide_eq_false c5
   have c5b1 : decide (a1.size < 1) = false:=decide_eq_false (by omega)
   clear c5
   have H':=Aside0.mk H
   clear H
   go_wp2
   go_meet
   case rel => exact ⟨_,(decide ((a1.size : Int) > 120)),(by first | rfl | (simp; done) | (simp [*]; done)),H',⟨by first | omega | exact Nat.le_refl _⟩,⟨by repeat (first | (with_reducible first | exact HB.out | apply below_alloc | apply pw_below_drewN | apply below_drew1) | exact HB.out)⟩⟩
  rw [if_neg c4] at H
  have c4b0 : (a0 == 0) = false:=beq_eq_false_iff_ne.mpr c4
  have c4b1 : (a0 != 0) = true:=bne_iff_ne.mpr c4
  (first | rw [c4b0] | (simp only [i64_w,i32_w]; rw [c4b0]) | skip)
  replace H:=Option.bind_eq_some_iff.mp H
  obtain ⟨t187,A60,H⟩:=H
  replace H : (if t187 = true then (if (a1.size : Int) < 1 then (maquetteref13_Chain.j0 k a0 a1 true) else (maquetteref13_Chain.j0 k a0 a1 (decide ((a1.size : Int) > 120)))) else (maquetteref13_Chain.j0 k a0 a1 true)) = some (r1,r2):=H
  have A6:=Aside0.mk A60
  clear A60
  by_cases c7 : t187 = true
  ·subst c7
   have H1 : (if (a1.size : Int) < 1 then (maquetteref13_Chain.j0 k a0 a1 true) else (maquetteref13_Chain.j0 k a0 a1 (decide ((a1.size : Int) > 120)))) = some (r1,r2):=by rw [if_pos rfl] at H; exact H
   clear H
   have H:=H1
   clear H1
   by_cases c8 : (a1.size : Int) < 1
   ·rw [if_pos c8] at H
    have c8b0 : decide ((a1.size : Int) < 1) = true:=decide_eq_true c8
    have c8b1 : decide (a1.size < 1) = true:=decide_eq_true (by omega)
    clear c8
    have H':=Aside0.mk H
    clear H
    go_wp2_with (first | (go_at_call 63; (with_reducible refine (maquetteref13_page.calls a0 true _ A6.out).mono ?_); rintro e w' ⟨rfl,⟨nd,rfl⟩⟩))
    go_meet
    case rel => exact ⟨_,(true),(by first | rfl | (simp; done) | (simp [*]; done)),H',⟨by first | omega | exact Nat.le_refl _⟩,⟨by repeat (first | (with_reducible first | exact HB.out | apply below_alloc | apply pw_below_drewN | apply below_drew1) | exact HB.out)⟩⟩
   rw [if_neg c8] at H
   have c8b0 : decide ((a1.size : Int) < 1) = false:=decide_eq_false c8
   have c8b1 : decide (a1.size < 1) = false:=decide_eq_false (by omega)
   clear c8
   have H':=Aside0.mk H
   clear H
   go_wp2_with (first | (go_at_call 63; (with_reducible refine (maquetteref13_page.calls a0 true _ A6.out).mono ?_); rintro e w' ⟨rfl,⟨nd,rfl⟩⟩))
   go_meet
   case rel => exact ⟨_,(decide ((a1.size : Int) > 120)),(by first | rfl | (simp; done) | (simp [*]; done)),H',⟨by first | omega | exact Nat.le_refl _⟩,⟨by repeat (first | (with_reducible first | exact HB.out | apply below_alloc | apply pw_below_drewN | apply below_drew1) | exact HB.out)⟩⟩
  replace c7:=Bool.eq_false_iff.mpr c7
  subst c7
  have H1 : (maquetteref13_Chain.j0 k a0 a1 true) = some (r1,r2):=by rw [if_neg (show ¬ (false = true) by decide)] at H; exact H
  clear H
  have H:=H1
  clear H1
  have H':=Aside0.mk H
  clear H
  go_wp2_with (first | (go_at_call 63; (with_reducible refine (maquetteref13_page.calls a0 false _ A6.out).mono ?_); rintro e w' ⟨rfl,⟨nd,rfl⟩⟩))
  go_meet
  case rel => exact ⟨_,(true),(by first | rfl | (simp; done) | (simp [*]; done)),H',⟨by first | omega | exact Nat.le_refl _⟩,⟨by repeat (first | (with_reducible first | exact HB.out | apply below_alloc | apply pw_below_drewN | apply below_drew1) | exact HB.out)⟩⟩
 clear HC3
 try clear p2
 try clear c3
 try clear c4
 try clear c4b0
 try clear c4b1
 try clear c5
 try clear c5b0
 try clear c5b1
 try clear c7
 try clear c8
 try clear c8b0
 try clear c8b1
 obtain ⟨kq,x22_2,rfl,HA,HJ2,HB⟩:=hcut
 cases kq with
 | zero => exact absurd HA.out (by simp [maquetteref13_Chain.j0])
 | succ kj2 =>
  have H:=HA.out
  clear HA
  simp only [maquetteref13_Chain.j0] at H
  by_cases c9 : x22_2 = true
  ·subst c9
   have H1 : (some ((⟨#[]⟩ : ByteArray),false)) = some (r1,r2):=by rw [if_pos rfl] at H; exact H
   clear H
   have H:=H1
   clear H1
   simp only [Option.some.injEq,Prod.mk.injEq] at H
   obtain ⟨rfl,rfl⟩:=H
   go_wp2
   go_ret2
   exact ⟨by first | rfl | (simp [errW_none,errW_some] <;> rfl) | (simp [*,errW_none,errW_some] <;> rfl),by repeat (first | (with_reducible first | exact HB.out | apply below_alloc | apply pw_below_drewN | apply below_drew1) | exact HB.out)⟩
  replace c9:=Bool.eq_false_iff.mpr c9
  subst c9
  have H1 : ((maquetteref13_Big.f kj2 a0 2).bind fun t188 => (if 1 + t188.size ≤ 9223372036854775807 then ((maquetteref13_Big.f kj2 (a1.size : Int) 1).bind fun t189 => (if ((⟨#[67]⟩ : ByteArray) ++ t188).size + t189.size ≤ 9223372036854775807 then (if (((⟨#[67]⟩ : ByteArray) ++ t188) ++ t189).size + a1.size ≤ 9223372036854775807 then ((maquetteref13_fill.f ((((⟨#[67]⟩ : ByteArray) ++ t188) ++ t189) ++ a1)).bind fun t190 => (some (t190,true))) else (none)) else (none))) else (none))) = some (r1,r2):=by rw [if_neg (show ¬ (false = true) by decide)] at H; exact H
  clear H
  have H:=H1
  clear H1
  replace H:=Option.bind_eq_some_iff.mp H
  obtain ⟨t188,A100,H⟩:=H
  replace H : (if 1 + t188.size ≤ 9223372036854775807 then ((maquetteref13_Big.f kj2 (a1.size : Int) 1).bind fun t189 => (if ((⟨#[67]⟩ : ByteArray) ++ t188).size + t189.size ≤ 9223372036854775807 then (if (((⟨#[67]⟩ : ByteArray) ++ t188) ++ t189).size + a1.size ≤ 9223372036854775807 then ((maquetteref13_fill.f ((((⟨#[67]⟩ : ByteArray) ++ t188) ++ t189) ++ a1)).bind fun t190 => (some (t190,true))) else (none)) else (none))) else (none)) = some (r1,r2):=H
  have A10:=Aside0.mk A100
  clear A100
  by_cases c11 : 1 + t188.size ≤ 9223372036854775807
  ·rw [if_pos c11] at H
   have c11b0:=eq_true c11
   have c11b1 : decide (1 + t188.size ≤ 9223372036854775807) = true:=decide_eq_true c11
   try have c11b2 : (9223372036854775807 < 1 + t188.size) = False:=eq_false (Nat.not_lt.2 c11)
   replace H:=Option.bind_eq_some_iff.mp H
   obtain ⟨t189,A120,H⟩:=H
   replace H : (if ((⟨#[67]⟩ : ByteArray) ++ t188).size + t189.size ≤ 9223372036854775807 then (if (((⟨#[67]⟩ : ByteArray) ++ t188) ++ t189).size + a1.size ≤ 9223372036854775807 then ((maquetteref13_fill.f ((((⟨#[67]⟩ : ByteArray) ++ t188) ++ t189) ++ a1)).bind fun t190 => (some (t190,true))) else (none)) else (none)) = some (r1,r2):=H
   have A12:=Aside0.mk A120
   clear A120
   by_cases c13 : ((⟨#[67]⟩ : ByteArray) ++ t188).size + t189.size ≤ 9223372036854775807
   ·rw [if_pos c13] at H
    have c13b0:=eq_true c13
    have c13b1 : decide (((⟨#[67]⟩ : ByteArray) ++ t188).size + t189.size ≤ 9223372036854775807) = true:=decide_eq_true c13
    try have c13b2 : (9223372036854775807 < ((⟨#[67]⟩ : ByteArray) ++ t188).size + t189.size) = False:=eq_false (Nat.not_lt.2 c13)
    try (have c13b3:=c13b2; simp only [ByteArray.size_append] at c13b3)
    by_cases c14 : (((⟨#[67]⟩ : ByteArray) ++ t188) ++ t189).size + a1.size ≤ 9223372036854775807
    ·rw [if_pos c14] at H
     have c14b0:=eq_true c14
     have c14b1 : decide ((((⟨#[67]⟩ : ByteArray) ++ t188) ++ t189).size + a1.size ≤ 9223372036854775807) = true:=decide_eq_true c14
     try have c14b2 : (9223372036854775807 < (((⟨#[67]⟩ : ByteArray) ++ t188) ++ t189).size + a1.size) = False:=eq_false (Nat.not_lt.2 c14)
     try (have c14b3:=c14b2; simp only [ByteArray.size_append] at c14b3)
     replace H:=Option.bind_eq_some_iff.mp H
     obtain ⟨t190,A150,H⟩:=H
     replace H : (some (t190,true)) = some (r1,r2):=H
     have A15:=Aside0.mk A150
     clear A150
     simp only [Option.some.injEq,Prod.mk.injEq] at H
     obtain ⟨rfl,rfl⟩:=H
     go_wp2_with (first | ((with_reducible refine gate_callee (f:=65) rfl ?_); refine goesL_ (some 24) rfl rfl Try.func65 (by kernel_rfl) rfl #[.int .i64 a0,.int .i64 2] rfl (by (try simp only [List.map_toArray,List.map_cons,List.map_nil]); first | done | rfl | (simp only [List.length_drop,List.length_take]; rfl) | (simp only [ByteArray.size_append,Int.natCast_add]; rfl) | (simp [ByteArray.size_append,Int.add_assoc]; done)) ?_; (with_reducible refine (maquetteref13_Big.calls kj2 a0 2 t188 _ A10.out).mono ?_); rintro e w16 ⟨rfl,hb⟩; refine ⟨_,rfl,?_⟩; have n0_:=Aside0.mk (below_step (by repeat (first | (with_reducible first | exact HB.out | apply below_alloc | apply pw_below_drewN | apply below_drew1) | exact HB.out)) hb); clear HB; have HB:=n0_; clear n0_; (try clear hb); (try clear hb2); (try clear hk); (try clear hi)) | ((with_reducible refine gate_callee (f:=65) rfl ?_); refine goesL_ (some 28) rfl rfl Try.func65 (by kernel_rfl) rfl #[.int .i64 (a1.size : Int),.int .i64 1] rfl (by (try simp only [List.map_toArray,List.map_cons,List.map_nil]); first | done | rfl | (simp only [List.length_drop,List.length_take]; rfl) | (simp only [ByteArray.size_append,Int.natCast_add]; rfl) | (simp [ByteArray.size_append,Int.add_assoc]; done)) ?_; (with_reducible refine (maquetteref13_Big.calls kj2 (a1.size : Int) 1 t189 _ A12.out).mono ?_); rintro e w17 ⟨rfl,hb⟩; refine ⟨_,rfl,?_⟩; have n0_:=Aside0.mk (below_step (by repeat (first | (with_reducible first | exact HB.out | apply below_alloc | apply pw_below_drewN | apply below_drew1) | exact HB.out)) hb); clear HB; have HB:=n0_; clear n0_; (try clear hb); (try clear hb2); (try clear hk); (try clear hi)) | ((with_reducible refine gate_callee (f:=64) rfl ?_); refine goesL_ (some 32) rfl rfl Try.func64 (by kernel_rfl) rfl #[.string ((((⟨#[67]⟩ : ByteArray) ++ t188) ++ t189) ++ a1)] rfl (by (try simp only [List.map_toArray,List.map_cons,List.map_nil]); first | done | rfl | (simp only [List.length_drop,List.length_take]; rfl) | (simp only [ByteArray.size_append,Int.natCast_add]; rfl) | (simp [ByteArray.size_append,Int.add_assoc]; done)) ?_; (with_reducible refine (maquetteref13_fill.calls ((((⟨#[67]⟩ : ByteArray) ++ t188) ++ t189) ++ a1) t190 _ A15.out).mono ?_); rintro e w18 ⟨rfl,hb⟩; refine ⟨_,rfl,?_⟩; have n0_:=Aside0.mk (below_step (by repeat (first | (with_reducible first | exact HB.out | apply below_alloc | apply pw_below_drewN | apply below_drew1) | exact HB.out)) hb); clear HB; have HB:=n0_; clear n0_; (try clear hb); (try clear hb2); (try clear hk); (try clear hi)))
     all_goals try (exfalso; have h1_ : (⟨#[67]⟩ : ByteArray).size = 1:=rfl; simp only [ByteArray.size_append] at c13 c14; omega)
     go_ret2
     exact ⟨by first | rfl | (simp [errW_none,errW_some] <;> rfl) | (simp [*,errW_none,errW_some] <;> rfl),by repeat (first | (with_reducible first | exact HB.out | apply below_alloc | apply pw_below_drewN | apply below_drew1) | exact HB.out)⟩
    rw [if_neg c14] at H
    exact absurd H (by simp)
   rw [if_neg c13] at H
   exact absurd H (by simp)
  rw [if_neg c11] at H
  exact absurd H (by simp)

end Go.Proofs.Ytpeeojbhfebcdaa.PRf


/- Of the texts that the row stands on, what it needs (part 27), put together by a program of this session. -/
import Derived.Test.YtpeeojbhfebcdaaZtT25
import Derived.Test.YtpeeojbhfebcdaaZtT26
namespace Go.Proofs.Ytpeeojbhfebcdaa.PAll
open Go.RowKit Go.Proofs.YtpeeojbhfebcdaaW.PrintWords Go.Proofs.YtpeeojbhfebcdaaW.PrintLast Go.Proofs.YtpeeojbhfebcdaaW.PrintMore
attribute [local go_sem] max2_int min2_int max_two min_two max_three min_three max_four min_four
set_option linter.unusedVariables false
set_option linter.unusedSimpArgs false
def shelf_Plan.f (l0 : List (S45)) (l1 : List (S28)) (l2 : List Int) : Option (List (S28) × Int × Int) := if l0.length ≤ 9000 ∧ l1.length ≤ 10000 ∧ l2.length ≤ 10000 ∧ (l1.all fun x => decide (x.f1.size ≤ 1000000)) = true then some ((Go.Proofs.Ytpeeojbhfebcdaa.V.planE (l0.map fun x => (x.f0, x.f1)) (l1.map fun x => (x.f0, x.f1)) l2).1.map (fun x => (⟨x.1, x.2⟩ : S28)), (Go.Proofs.Ytpeeojbhfebcdaa.V.planE (l0.map fun x => (x.f0, x.f1)) (l1.map fun x => (x.f0, x.f1)) l2).2.1, (Go.Proofs.Ytpeeojbhfebcdaa.V.planE (l0.map fun x => (x.f0, x.f1)) (l1.map fun x => (x.f0, x.f1)) l2).2.2) else none
theorem shelf_Plan.calls (A0 : Option Addr) (c0 : Nat) (l0 : List (S45)) (A1 : Option Addr) (c1 : Nat) (l1 : List (S28)) (A2 : Option Addr) (c2 : Nat) (l2 : List Int) (r1 : List (S28)) (r2 : Int) (r3 : Int) (w : World) (hr0 : Kd.C k45 w A0 l0.length l0) (hc0 : l0.length ≤ c0) (hr1 : Kd.C k28 w A1 l1.length l1) (hc1 : l1.length ≤ c1) (hr2 : Kd.C (Kd.int .i64) w A2 l2.length l2) (hc2 : l2.length ≤ c2) (h : shelf_Plan.f l0 l1 l2 = some (r1,r2,r3)) :
    Calls Try.prog 12 #[.slice A0 l0.length c0,.slice A1 l1.length c1,.slice A2 l2.length c2] w fun e w' => ∃ v0_ : Value,e = .returned (.tuple #[v0_,.int .i64 r2,.int .i64 r3]) ∧ Kd.R k28 28 w' w.heap.size (fun _ => True) v0_ r1 ∧ Below w.heap.size w w':=by
 unfold shelf_Plan.f at h
 split at h
 ·rename_i hg
  obtain ⟨g1,g2,g3,g4⟩:=hg
  have h:=Option.some.inj h
  obtain ⟨e1,h⟩:=Prod.mk.inj h
  obtain ⟨e2,e3⟩:=Prod.mk.inj h
  subst e1 e2 e3
  have H:=Go.Proofs.Ytpeeojbhfebcdaa.V.plan_any w A0 c0 (l0.map fun x => (x.f0,x.f1)) A1 c1 (l1.map fun x => (x.f0,x.f1)) A2 c2 l2 (by rw [List.length_map]; exact Go.Proofs.Ytpeeojbhfebcdaa.V.C_iso hr0) (by rw [List.length_map]; exact hc0) (by rw [List.length_map]; exact g1) (by rw [List.length_map]; exact Go.Proofs.Ytpeeojbhfebcdaa.V.C_iso hr1) (by rw [List.length_map]; exact hc1) (by rw [List.length_map]; exact g2) (by
    intro x hx
    obtain ⟨y,hy,rfl⟩:=List.mem_map.1 hx
    exact Go.Proofs.Ytpeeojbhfebcdaa.V.wfS_small (of_decide_eq_true (List.all_eq_true.1 g4 y hy))) hr2 hc2 g3
  rw [List.length_map,List.length_map] at H
  refine H.mono ?_
  rintro e w' ⟨v,rfl,hR,hb⟩
  exact ⟨v,rfl,Go.Proofs.Ytpeeojbhfebcdaa.V.R_iso_mk (f:=fun x : S28 => (x.f0,x.f1)) (by rw [List.map_map]; rw [show ((fun x : S28 => (x.f0,x.f1)) ∘ fun x : Int × ByteArray => (⟨x.1,x.2⟩ : S28)) = id from rfl,List.map_id]; exact hR),hb⟩
 cases h

def shelf_Need.l0 : Nat → List (S45) → List Int → Int → Option (Int)
  | 0, _, _, _ => none
  | k + 1, x0, x3, x4 => if x4 < 200 then (if x3.length < 17592186044416 then (shelf_Need.l0 k x0 (x3 ++ [x4]) (wrap64 (x4 + 1))) else (none)) else ((shelf_Plan.f x0 ([] : List (S28)) x3).bind fun bt142 => (some (bt142.1.length : Int)))
def shelf_Need.f (k : Nat) (l0 : List (S45)) : Option (Int) := shelf_Need.l0 k l0 ([] : List Int) 2
set_option maxHeartbeats 8000000 in
set_option maxRecDepth 100000 in
theorem shelf_Need.calls (k : Nat) (A0 : Option Addr) (c0 : Nat) (l0 : List (S45)) (r : Int) (w : World) (hr0 : Kd.C k45 w A0 l0.length l0) (hc0 : l0.length ≤ c0) (h : shelf_Need.f k l0 = some r) :
    Calls Try.prog 17 #[.slice A0 l0.length c0] w fun e w' => e = .returned (.int .i64 r) ∧ Below w.heap.size w w':=by
 have HR0:=Aside0.mk hr0
 have HC0:=Aside0.mk hc0
 clear hr0 hc0
 have HB:=Aside0.mk (Below.refl w.heap.size w)
 have H : (shelf_Need.l0 k l0 ([] : List Int) 2) = some r:=h
 clear h
 have H':=Aside0.mk H
 clear H
 go_enter Try.func17,Try.ntmps17
 go_wp2
 go_loopg [3,4] k (fun kq v3 v4 w' => ∃ (x3_1 : List Int) (x4_1 : Int),v4 = .int .i64 x4_1 ∧ Aside0 (shelf_Need.l0 kq l0 x3_1 x4_1 = some r) ∧ Aside0 (kq ≤ k) ∧ Aside0 (Kd.R (Kd.int .i64) 3 w' w.heap.size (fun _ => True) v3 x3_1) ∧ Aside0 (Below w.heap.size w w'))
 case atStart => exact ⟨(([] : List Int)),(2),(by first | rfl | (simp; done) | (simp [*]; done)),H',⟨Nat.le_refl _⟩,⟨by first | exact Kd.R_nil _ _ _ _ _ | exact Kd.N_nil _ _ _ _ _ | exact Kd.V_nil _ _ _ _ _ | exact Kd.Q_nil _ _ _ _ _ | exact Kd.S_nil _ _ _ _ _⟩,⟨by repeat (first | (with_reducible first | exact HB.out | apply below_alloc | apply pw_below_drewN | apply below_drew1) | exact HB.out)⟩⟩
 clear H'
 try clear c1
 obtain ⟨x3_1,x4_1,rfl,HA,HK1,HO_3,HB⟩:=hrel
 cases gk with
 | zero => exact absurd HA.out (by simp [shelf_Need.l0])
 | succ k1 =>
  have H:=HA.out
  clear HA
  simp only [shelf_Need.l0] at H
  by_cases c2 : x4_1 < 200
  ·rw [if_pos c2] at H
   have c2b0 : decide (x4_1 < 200) = true:=decide_eq_true c2
   clear c2
   by_cases c3 : x3_1.length < 17592186044416
   ·rw [if_pos c3] at H
    have LMc3:=Aside0.mk c3
    clear c3
    obtain ⟨y139,hy139⟩ : ∃ y_ : List Int,y_ = (x3_1 ++ [x4_1]):=⟨_,rfl⟩
    replace H : (shelf_Need.l0 k1 l0 y139 (wrap64 (x4_1 + 1))) = some r:=by first | (rw [hy139]; with_reducible exact H) | (have H2_:=(Option.bind_some _ _).symm.trans H; rw [hy139]; with_reducible exact H2_) | (have H2_:=(Option.bind_some _ _).symm.trans H; with_reducible exact H2_) | with_reducible exact H | (rw [hy139]; exact H) | exact H
    have Ny139:=Aside0.mk hy139
    clear hy139
    have H':=Aside0.mk H
    clear H
    go_wp2_with (first | ((with_reducible refine gate_builtin (b:=.append) (xs:=#[.tmp 12,.tmp 14]) rfl ?_); at_builtin; refine Kd.R_append (Kd.int .i64) (w0:=w) w.heap.size rfl (.tmp 12) (.tmp 14) 24 3 (.int .i64 0) 8 rfl Try.underlying24 info3 rfl (by decide) (by omega) u3 x3_1 x4_1 [.int .i64 x4_1] (fun _ => True) (fun _ => False) rfl rfl ?aP (fun _ hk => hk.elim) ?aF ?aO ?aB ?aS ?aL ?_; (case aP => exact rfl); (case aB => exact (by repeat (first | (with_reducible first | exact HB.out | apply below_alloc | apply pw_below_drewN | apply below_drew1) | exact HB.out))); (case aF => exact (fun _ _ => trivial)); (case aO => exact (by (with_reducible repeat (first | apply Kd.R_alloc | apply Kd.R_drewN | apply Kd.R_drew)); exact HO_3.out)); (case aS => exact (below_size (by repeat (first | (with_reducible first | exact HB.out | apply below_alloc | apply pw_below_drewN | apply below_drew1) | exact HB.out)))); (case aL => have:=LMc3.out; omega); intro v140 w4 ho hb hg hat; rw [← Ny139.out] at ho; have n0_:=Aside0.mk (hb); have n1_:=Aside0.mk (ho); clear HB; clear HO_3; have HB:=n0_; have HO141:=n1_; clear n0_ n1_; clear ho hb hg hat))
    go_roundg k1
    case measure => have:=HK1.out; omega
    case rel => exact ⟨(y139),(wrap64 (x4_1 + 1)),(by first | rfl | (simp; done) | (simp [*]; done)),H',⟨by have:=HK1.out; omega⟩,⟨by (with_reducible repeat (first | apply Kd.R_alloc | apply Kd.R_drewN | apply Kd.R_drew)); exact HO141.out⟩,⟨by repeat (first | (with_reducible first | exact HB.out | apply below_alloc | apply pw_below_drewN | apply below_drew1) | exact HB.out)⟩⟩
   rw [if_neg c3] at H
   exact absurd H (by simp)
  rw [if_neg c2] at H
  have c2b0 : decide (x4_1 < 200) = false:=decide_eq_false c2
  clear c2
  replace H:=Option.bind_eq_some_iff.mp H
  obtain ⟨⟨t142,t143,t144⟩,A50,H⟩:=H
  replace H : (some (t142.length : Int)) = some r:=H
  have A5:=Aside0.mk A50
  clear A50
  obtain rfl:=Option.some.inj H
  obtain ⟨Ao6,co6,eo6⟩:=Kd.R_slice HO_3.out
  subst eo6
  go_wp2_with (first | ((with_reducible refine gate_callee (f:=12) rfl ?_); refine goesL_ (some 19) rfl rfl Try.func12 (by kernel_rfl) rfl #[.slice A0 l0.length c0,.slice none 0 0,.slice Ao6 x3_1.length co6] rfl (by (try simp only [List.map_toArray,List.map_cons,List.map_nil]); first | done | rfl | (simp only [List.length_drop,List.length_take]; rfl) | (simp only [ByteArray.size_append,Int.natCast_add]; rfl) | (simp [ByteArray.size_append,Int.add_assoc]; done)) ?_; (refine (shelf_Plan.calls _ _ l0 _ _ ([] : List (S28)) _ _ x3_1 t142 t143 t144 _ ?side1 ?side2 ?side3 ?side4 ?side5 ?side6 A5.out).mono ?_); (case side1 => repeat (first | exact (Kd.C_below HR0.out HB.out) | (with_reducible refine Kd.C_alloc ?_ _) | (with_reducible refine Kd.C_drewN ?_ _) | (with_reducible refine Kd.C_drew ?_))); (case side2 => exact HC0.out); (case side3 => exact Kd.C_nil _ _); (case side4 => exact Nat.le_refl _); (case side5 => repeat (first | exact (Kd.R_reads' HO_3.out).2.2 | (with_reducible refine Kd.C_alloc ?_ _) | (with_reducible refine Kd.C_drewN ?_ _) | (with_reducible refine Kd.C_drew ?_))); (case side6 => exact (Kd.R_reads' HO_3.out).2.1); rintro e w7 ⟨v145,rfl,ho0,hb⟩; refine ⟨_,rfl,?_⟩; have n0_:=Aside0.mk (Kd.R_below (by (with_reducible repeat (first | apply Kd.R_alloc | apply Kd.R_drewN | apply Kd.R_drew)); exact HO_3.out) hb); have n1_:=Aside0.mk (Kd.R_lower ho0 (below_size (by repeat (first | (with_reducible first | exact HB.out | apply below_alloc | apply pw_below_drewN | apply below_drew1) | exact HB.out)))); have n2_:=Aside0.mk (below_step (by repeat (first | (with_reducible first | exact HB.out | apply below_alloc | apply pw_below_drewN | apply below_drew1) | exact HB.out)) hb); clear HO_3; clear HB; have HO_3:=n0_; have HO146:=n1_; have HB:=n2_; clear n0_ n1_ n2_; (try clear hb); (try clear hb2); (try clear hk); (try clear hi); (try clear ho0); obtain ⟨Ao8,co8,eo8⟩:=Kd.R_slice HO146.out; subst eo8))
  go_ret
  exact ⟨by first | rfl | (simp [errW_none,errW_some] <;> rfl) | (simp [*,errW_none,errW_some] <;> rfl),by repeat (first | (with_reducible first | exact HB.out | apply below_alloc | apply pw_below_drewN | apply below_drew1) | exact HB.out)⟩

def maquettelaw16_alive.j0 : Nat → Bool → Option (Bool)
  | 0, _ => none
  | k + 1, x0 => some x0
def maquettelaw16_alive.f (k : Nat)  : Option (Bool) := (shelf_Plan.f (([(⟨1, (⟨#[97, 98, 99]⟩ : ByteArray)⟩ : S45)] : List (S45))) ([] : List (S28)) (([4, 5, 6] : List Int))).bind fun bt153 => (if bt153.2.2 = 0 then (if (bt153.1.length : Int) = 2 then (if bt153.2.1 = 5 then (if 0 < (bt153.1.length : Int) then (if ((rd_T28 bt153.1 0).f0) = 4 then (if 1 < (bt153.1.length : Int) then (if ((rd_T28 bt153.1 1).f0) = 5 then ((shelf_Need.f k (([(⟨1, (⟨#[97, 98, 99]⟩ : ByteArray)⟩ : S45)] : List (S45)))).bind fun t163 => (maquettelaw16_alive.j0 k (t163 == 2))) else (maquettelaw16_alive.j0 k false)) else (none)) else (maquettelaw16_alive.j0 k false)) else (none)) else (maquettelaw16_alive.j0 k false)) else (maquettelaw16_alive.j0 k false)) else (maquettelaw16_alive.j0 k false))
set_option maxHeartbeats 8000000 in
set_option maxRecDepth 100000 in
theorem maquettelaw16_alive.calls (k : Nat)  (r : Bool) (w : World) (h : maquettelaw16_alive.f k  = some r) :
    Calls Try.prog 11 #[] w fun e w' => e = .returned (.bool r) ∧ Below w.heap.size w w':=by
 have hu45:=Try.underlying45
 have HB:=Aside0.mk (Below.refl w.heap.size w)
 have H : ((shelf_Plan.f (([(⟨1,(⟨#[97,98,99]⟩ : ByteArray)⟩ : S45)] : List (S45))) ([] : List (S28)) (([4,5,6] : List Int))).bind fun bt153 => (if bt153.2.2 = 0 then (if (bt153.1.length : Int) = 2 then (if bt153.2.1 = 5 then (if 0 < (bt153.1.length : Int) then (if ((rd_T28 bt153.1 0).f0) = 4 then (if 1 < (bt153.1.length : Int) then (if ((rd_T28 bt153.1 1).f0) = 5 then ((shelf_Need.f k (([(⟨1,(⟨#[97,98,99]⟩ : ByteArray)⟩ : S45)] : List (S45)))).bind fun t163 => (maquettelaw16_alive.j0 k (t163 == 2))) else (maquettelaw16_alive.j0 k false)) else (none)) else (maquettelaw16_alive.j0 k false)) else (none)) else (maquettelaw16_alive.j0 k false)) else (maquettelaw16_alive.j0 k false)) else (maquettelaw16_alive.j0 k false))) = some r:=h
 clear h
 obtain ⟨y147,hy147⟩ : ∃ y_ : List (S45),y_ = (([(⟨1,(⟨#[97,98,99]⟩ : ByteArray)⟩ : S45)] : List (S45))):=⟨_,rfl⟩
 replace H : ((shelf_Plan.f y147 ([] : List (S28)) (([4,5,6] : List Int))).bind fun bt153 => (if bt153.2.2 = 0 then (if (bt153.1.length : Int) = 2 then (if bt153.2.1 = 5 then (if 0 < (bt153.1.length : Int) then (if ((rd_T28 bt153.1 0).f0) = 4 then (if 1 < (bt153.1.length : Int) then (if ((rd_T28 bt153.1 1).f0) = 5 then ((shelf_Need.f k (([(⟨1,(⟨#[97,98,99]⟩ : ByteArray)⟩ : S45)] : List (S45)))).bind fun t163 => (maquettelaw16_alive.j0 k (t163 == 2))) else (maquettelaw16_alive.j0 k false)) else (none)) else (maquettelaw16_alive.j0 k false)) else (none)) else (maquettelaw16_alive.j0 k false)) else (maquettelaw16_alive.j0 k false)) else (maquettelaw16_alive.j0 k false))) = some r:=by first | (rw [hy147]; with_reducible exact H) | (have H2_:=(Option.bind_some _ _).symm.trans H; rw [hy147]; with_reducible exact H2_) | (have H2_:=(Option.bind_some _ _).symm.trans H; with_reducible exact H2_) | with_reducible exact H | (rw [hy147]; exact H) | exact H
 have Ny147:=Aside0.mk hy147
 clear hy147
 obtain ⟨y150,hy150⟩ : ∃ y_ : List Int,y_ = (([4,5,6] : List Int)):=⟨_,rfl⟩
 replace H : ((shelf_Plan.f y147 ([] : List (S28)) y150).bind fun bt153 => (if bt153.2.2 = 0 then (if (bt153.1.length : Int) = 2 then (if bt153.2.1 = 5 then (if 0 < (bt153.1.length : Int) then (if ((rd_T28 bt153.1 0).f0) = 4 then (if 1 < (bt153.1.length : Int) then (if ((rd_T28 bt153.1 1).f0) = 5 then ((shelf_Need.f k (([(⟨1,(⟨#[97,98,99]⟩ : ByteArray)⟩ : S45)] : List (S45)))).bind fun t163 => (maquettelaw16_alive.j0 k (t163 == 2))) else (maquettelaw16_alive.j0 k false)) else (none)) else (maquettelaw16_alive.j0 k false)) else (none)) else (maquettelaw16_alive.j0 k false)) else (maquettelaw16_alive.j0 k false)) else (maquettelaw16_alive.j0 k false))) = some r:=by first | (rw [hy150]; with_reducible exact H) | (have H2_:=(Option.bind_some _ _).symm.trans H; rw [hy150]; with_reducible exact H2_) | (have H2_:=(Option.bind_some _ _).symm.trans H; with_reducible exact H2_) | with_reducible exact H | (rw [hy150]; exact H) | exact H
 have Ny150:=Aside0.mk hy150
 clear hy150
 replace H:=Option.bind_eq_some_iff.mp H
 obtain ⟨⟨t153,t154,t155⟩,A10,H⟩:=H
 replace H : (if t155 = 0 then (if (t153.length : Int) = 2 then (if t154 = 5 then (if 0 < (t153.length : Int) then (if ((rd_T28 t153 0).f0) = 4 then (if 1 < (t153.length : Int) then (if ((rd_T28 t153 1).f0) = 5 then ((shelf_Need.f k (([(⟨1,(⟨#[97,98,99]⟩ : ByteArray)⟩ : S45)] : List (S45)))).bind fun t163 => (maquettelaw16_alive.j0 k (t163 == 2))) else (maquettelaw16_alive.j0 k false)) else (none)) else (maquettelaw16_alive.j0 k false)) else (none)) else (maquettelaw16_alive.j0 k false)) else (maquettelaw16_alive.j0 k false)) else (maquettelaw16_alive.j0 k false)) = some r:=H
 have A1:=Aside0.mk A10
 clear A10
 have HC2:=Aside0.mk H
 clear H
 go_enter Try.func11,Try.ntmps11
 go_upto_region 2 with (first | ((with_reducible refine gate_dst (N:=6) rfl ?_); (try (refine gate_guard (by rfl) ?_; dsimp only)); refine Kd.R_lit k45 _ 45 ?hg (N:=6) ?hd (xs:=([(⟨1,(⟨#[97,98,99]⟩ : ByteArray)⟩ : S45)] : List (S45))) (inner:=[.int .i64 1,.string (⟨#[97,98,99]⟩ : ByteArray)]) (ok:=fun _ => True) (okp:=fun _ => True) ?hr ?hp (fun _ hk => hk) trivial (Below.refl _ _) (Nat.le_refl _) (by simp) ?_; (case hd => rfl); (case hg => rfl); (case hr => first | (go_simp; done) | (go_simp; rfl)); (case hp => exact (Reps.c2 (show Kd.M k45 _ _ _ (⟨1,(⟨#[97,98,99]⟩ : ByteArray)⟩ : S45) [.int .i64 1,.string (⟨#[97,98,99]⟩ : ByteArray)] from (k45_mkM _ _ _ (⟨1,(⟨#[97,98,99]⟩ : ByteArray)⟩ : S45) )) (Reps.none _ _))); intro v148 w3 ho4 hb hg_ hnew_; clear hg_ hnew_; (first | rw [← Ny147.out] at ho4 | (simp only [Int.reduceToNat] at ho4; rw [← Ny147.out] at ho4)); have n0_:=Aside0.mk (Kd.R_lower ho4 (below_size (by repeat (first | (with_reducible first | exact HB.out | apply below_alloc | apply pw_below_drewN | apply below_drew1) | exact HB.out)))); have n1_:=Aside0.mk (below_step (by repeat (first | (with_reducible first | exact HB.out | apply below_alloc | apply pw_below_drewN | apply below_drew1) | exact HB.out)) hb); clear HB; have HO149:=n0_; have HB:=n1_; clear n0_ n1_; clear hb ho4) | ((with_reducible refine gate_dst (N:=7) rfl ?_); (try (refine gate_guard (by rfl) ?_; dsimp only)); refine Kd.R_lit (Kd.int .i64) _ 3 ?hg (N:=7) ?hd (xs:=([4,5,6] : List Int)) (inner:=[.int .i64 4,.int .i64 5,.int .i64 6]) (ok:=fun _ => True) (okp:=fun _ => True) ?hr ?hp (fun _ hk => hk) trivial (Below.refl _ _) (Nat.le_refl _) (by simp) ?_; (case hd => rfl); (case hg => rfl); (case hr => first | (go_simp; done) | (go_simp; rfl)); (case hp => exact (Reps.one (show Kd.M (Kd.int .i64) _ _ _ 4 [.int .i64 4] from rfl) (Reps.one (show Kd.M (Kd.int .i64) _ _ _ 5 [.int .i64 5] from rfl) (Reps.one (show Kd.M (Kd.int .i64) _ _ _ 6 [.int .i64 6] from rfl) (Reps.none _ _))))); intro v151 w5 ho6 hb hg_ hnew_; clear hg_ hnew_; (first | rw [← Ny150.out] at ho6 | (simp only [Int.reduceToNat] at ho6; rw [← Ny150.out] at ho6)); have n0_:=Aside0.mk (Kd.R_below (by (with_reducible repeat (first | apply Kd.R_alloc | apply Kd.R_drewN | apply Kd.R_drew)); exact HO149.out) hb); have n1_:=Aside0.mk (Kd.R_lower ho6 (below_size (by repeat (first | (with_reducible first | exact HB.out | apply below_alloc | apply pw_below_drewN | apply below_drew1) | exact HB.out)))); have n2_:=Aside0.mk (below_step (by repeat (first | (with_reducible first | exact HB.out | apply below_alloc | apply pw_below_drewN | apply below_drew1) | exact HB.out)) hb); clear HO149; clear HB; have HO149:=n0_; have HO152:=n1_; have HB:=n2_; clear n0_ n1_ n2_; clear hb ho6; obtain ⟨Ao7,co7,eo7⟩:=Kd.R_slice HO149.out; subst eo7; obtain ⟨Ao8,co8,eo8⟩:=Kd.R_slice HO152.out; subst eo8) | ((with_reducible refine gate_callee (f:=12) rfl ?_); refine goesL_ (some 8) rfl rfl Try.func12 (by kernel_rfl) rfl #[.slice Ao7 y147.length co7,.slice none 0 0,.slice Ao8 y150.length co8] rfl (by (try simp only [List.map_toArray,List.map_cons,List.map_nil]); first | done | rfl | (simp only [List.length_drop,List.length_take]; rfl) | (simp only [ByteArray.size_append,Int.natCast_add]; rfl) | (simp [ByteArray.size_append,Int.add_assoc]; done)) ?_; (refine (shelf_Plan.calls _ _ y147 _ _ ([] : List (S28)) _ _ y150 t153 t154 t155 _ ?side1 ?side2 ?side3 ?side4 ?side5 ?side6 A1.out).mono ?_); (case side1 => repeat (first | exact (Kd.R_reads' HO149.out).2.2 | (with_reducible refine Kd.C_alloc ?_ _) | (with_reducible refine Kd.C_drewN ?_ _) | (with_reducible refine Kd.C_drew ?_))); (case side2 => exact (Kd.R_reads' HO149.out).2.1); (case side3 => exact Kd.C_nil _ _); (case side4 => exact Nat.le_refl _); (case side5 => repeat (first | exact (Kd.R_reads' HO152.out).2.2 | (with_reducible refine Kd.C_alloc ?_ _) | (with_reducible refine Kd.C_drewN ?_ _) | (with_reducible refine Kd.C_drew ?_))); (case side6 => exact (Kd.R_reads' HO152.out).2.1); rintro e w9 ⟨v156,rfl,ho0,hb⟩; refine ⟨_,rfl,?_⟩; have n0_:=Aside0.mk (Kd.R_below (by (with_reducible repeat (first | apply Kd.R_alloc | apply Kd.R_drewN | apply Kd.R_drew)); exact HO149.out) hb); have n1_:=Aside0.mk (Kd.R_below (by (with_reducible repeat (first | apply Kd.R_alloc | apply Kd.R_drewN | apply Kd.R_drew)); exact HO152.out) hb); have n2_:=Aside0.mk (Kd.R_lower ho0 (below_size (by repeat (first | (with_reducible first | exact HB.out | apply below_alloc | apply pw_below_drewN | apply below_drew1) | exact HB.out)))); have n3_:=Aside0.mk (below_step (by repeat (first | (with_reducible first | exact HB.out | apply below_alloc | apply pw_below_drewN | apply below_drew1) | exact HB.out)) hb); clear HO149; clear HO152; clear HB; have HO149:=n0_; have HO152:=n1_; have HO157:=n2_; have HB:=n3_; clear n0_ n1_ n2_ n3_; (try clear hb); (try clear hb2); (try clear hk); (try clear hi); (try clear ho0)))
 (try simp only [Act.put,List.setIfInBounds_toArray,List.set_cons_zero,List.set_cons_succ])
 go_cut [0] (fun v0 wc => ∃ (kq : Nat) (x0_1 : Bool),v0 = .bool x0_1 ∧ Aside0 (maquettelaw16_alive.j0 kq x0_1 = some r) ∧ Aside0 (kq ≤ k) ∧ Aside0 (Below w.heap.size w wc))
 case first =>
  have H:=HC2.out
  clear HC2
  by_cases c10 : t155 = 0
  ·rw [if_pos c10] at H
   have c10b0 : (t155 == 0) = true:=beq_iff_eq.mpr c10
   have c10b1 : (t155 != 0) = false:=bne_eq_false_iff_eq.mpr c10
   clear c10
   (first | rw [c10b0] | (simp only [i64_w,i32_w]; rw [c10b0]) | skip)
   by_cases c11 : (t153.length : Int) = 2
   ·rw [if_pos c11] at H
    have c11b0 : ((t153.length : Int) == 2) = true:=beq_iff_eq.mpr c11
    have c11b1 : ((t153.length : Int) != 2) = false:=bne_eq_false_iff_eq.mpr c11
    clear c11
    by_cases c12 : t154 = 5
    ·rw [if_pos c12] at H
     have c12b0 : (t154 == 5) = true:=beq_iff_eq.mpr c12
     have c12b1 : (t154 != 5) = false:=bne_eq_false_iff_eq.mpr c12
     clear c12
     by_cases c13 : 0 < (t153.length : Int)
     ·rw [if_pos c13] at H
      have c13b0 : decide (0 < (t153.length : Int)) = true:=decide_eq_true c13
      have c13b1 : decide (0 < t153.length) = true:=decide_eq_true (by omega)
      clear c13
      by_cases c14 : ((rd_T28 t153 0).f0) = 4
      ·rw [if_pos c14] at H
       have c14b0 : (((rd_T28 t153 0).f0) == 4) = true:=beq_iff_eq.mpr c14
       have c14b1 : (((rd_T28 t153 0).f0) != 4) = false:=bne_eq_false_iff_eq.mpr c14
       clear c14
       by_cases c15 : 1 < (t153.length : Int)
       ·rw [if_pos c15] at H
        have c15b0 : decide (1 < (t153.length : Int)) = true:=decide_eq_true c15
        have c15b1 : decide (1 < t153.length) = true:=decide_eq_true (by omega)
        clear c15
        by_cases c16 : ((rd_T28 t153 1).f0) = 5
        ·rw [if_pos c16] at H
         have c16b0 : (((rd_T28 t153 1).f0) == 5) = true:=beq_iff_eq.mpr c16
         have c16b1 : (((rd_T28 t153 1).f0) != 5) = false:=bne_eq_false_iff_eq.mpr c16
         clear c16
         obtain ⟨y160,hy160⟩ : ∃ y_ : List (S45),y_ = (([(⟨1,(⟨#[97,98,99]⟩ : ByteArray)⟩ : S45)] : List (S45))):=⟨_,rfl⟩
         replace H : ((shelf_Need.f k y160).bind fun t163 => (maquettelaw16_alive.j0 k (t163 == 2))) = some r:=by first | (rw [hy160]; with_reducible exact H) | (have H2_:=(Option.bind_some _ _).symm.trans H; rw [hy160]; with_reducible exact H2_) | (have H2_:=(Option.bind_some _ _).symm.trans H; with_reducible exact H2_) | with_reducible exact H | (rw [hy160]; exact H) | exact H
         have Ny160:=Aside0.mk hy160
         clear hy160
         replace H:=Option.bind_eq_some_iff.mp H
         obtain ⟨t163,A170,H⟩:=H
         replace H : (maquettelaw16_alive.j0 k (t163 == 2)) = some r:=H
         have A17:=Aside0.mk A170
         clear A170
         have H':=Aside0.mk H
         clear H
         obtain ⟨Ao18,co18,eo18⟩:=Kd.R_slice HO157.out
         subst eo18
         have p158 : 0 ≤ (0 : Int):=(by omega)
         have q158 : 0 < (t153.length : Int):=of_decide_eq_true (by first | (with_reducible assumption) | assumption)
         obtain ⟨ad158,e158,hx158_0,hx158_1⟩:=at_T28 (Kd.R_reads' HO157.out).2.2 0 p158 q158
         cases e158
         have qi158 : (0 < t153.length) = True:=eq_true (by omega)
         (try rw [show ((0 : Int)).toNat = 0 from rfl] at hx158_0)
         (try rw [show 0 * 2 = 0 from rfl] at hx158_0)
         (try rw [Addr.add_zero'] at hx158_0)
         (try rw [show ((0 : Int)).toNat = 0 from rfl] at hx158_1)
         (try rw [show 0 * 2 = 0 from rfl] at hx158_1)
         (try rw [Addr.add_zero'] at hx158_1)
         replace p158:=eq_true p158
         replace q158:=eq_true q158
         have p159 : 0 ≤ (1 : Int):=(by omega)
         have q159 : 1 < (t153.length : Int):=of_decide_eq_true (by first | (with_reducible assumption) | assumption)
         obtain ⟨ad159,e159,hx159_0,hx159_1⟩:=at_T28 (Kd.R_reads' HO157.out).2.2 1 p159 q159
         obtain rfl : ad158 = ad159:=(by injection e159)
         (try simp only [show (1 : Int).toNat = 1 from rfl,Nat.reduceMul,Nat.reduceEqDiff,Go.Addr.add,↓reduceIte] at hx159_0)
         (try simp only [show (1 : Int).toNat = 1 from rfl,Nat.reduceMul,Nat.reduceEqDiff,Go.Addr.add,↓reduceIte] at hx159_1)
         have qi159 : (1 < t153.length) = True:=eq_true (by omega)
         (try rw [show ((1 : Int)).toNat = 1 from rfl] at hx159_0)
         (try rw [show 1 * 2 = 2 from rfl] at hx159_0)
         (try rw [show ((1 : Int)).toNat = 1 from rfl] at hx159_1)
         (try rw [show 1 * 2 = 2 from rfl] at hx159_1)
         replace p159:=eq_true p159
         replace q159:=eq_true q159
         go_wp2_with (first | ((with_reducible refine gate_dst (N:=39) rfl ?_); (try (refine gate_guard (by rfl) ?_; dsimp only)); refine Kd.R_lit k45 _ 45 ?hg (N:=39) ?hd (xs:=([(⟨1,(⟨#[97,98,99]⟩ : ByteArray)⟩ : S45)] : List (S45))) (inner:=[.int .i64 1,.string (⟨#[97,98,99]⟩ : ByteArray)]) (ok:=fun _ => True) (okp:=fun _ => True) ?hr ?hp (fun _ hk => hk) trivial (Below.refl _ _) (Nat.le_refl _) (by simp) ?_; (case hd => rfl); (case hg => rfl); (case hr => first | (go_simp; done) | (go_simp; rfl)); (case hp => exact (Reps.c2 (show Kd.M k45 _ _ _ (⟨1,(⟨#[97,98,99]⟩ : ByteArray)⟩ : S45) [.int .i64 1,.string (⟨#[97,98,99]⟩ : ByteArray)] from (k45_mkM _ _ _ (⟨1,(⟨#[97,98,99]⟩ : ByteArray)⟩ : S45) )) (Reps.none _ _))); intro v161 w19 ho20 hb hg_ hnew_; clear hg_ hnew_; (first | rw [← Ny160.out] at ho20 | (simp only [Int.reduceToNat] at ho20; rw [← Ny160.out] at ho20)); have n0_:=Aside0.mk (Kd.R_elder' (by (with_reducible repeat (first | apply Kd.R_alloc | apply Kd.R_drewN | apply Kd.R_drew)); exact HO149.out) (Kd.R_base ho20) hb); have n1_:=Aside0.mk (Kd.R_below (by (with_reducible repeat (first | apply Kd.R_alloc | apply Kd.R_drewN | apply Kd.R_drew)); exact HO152.out) hb); have n2_:=Aside0.mk (Kd.R_below (by (with_reducible repeat (first | apply Kd.R_alloc | apply Kd.R_drewN | apply Kd.R_drew)); exact HO157.out) hb); have n3_:=Aside0.mk (Kd.R_lower (Kd.R_new' ho20 (Kd.R_lt (by (with_reducible repeat (first | apply Kd.R_alloc | apply Kd.R_drewN | apply Kd.R_drew)); exact HO149.out))) (below_size (by repeat (first | (with_reducible first | exact HB.out | apply below_alloc | apply pw_below_drewN | apply below_drew1) | exact HB.out)))); have n4_:=Aside0.mk (below_step (by repeat (first | (with_reducible first | exact HB.out | apply below_alloc | apply pw_below_drewN | apply below_drew1) | exact HB.out)) hb); clear HO149; clear HO152; clear HO157; clear HB; have HO149:=n0_; have HO152:=n1_; have HO157:=n2_; have HO162:=n3_; have HB:=n4_; clear n0_ n1_ n2_ n3_ n4_; clear hb ho20; obtain ⟨Ao21,co21,eo21⟩:=Kd.R_slice HO162.out; subst eo21) | (go_at_call 17; (with_reducible refine (shelf_Need.calls k _ _ y160 t163 _ ?side1 ?side2 A17.out).mono ?_); (case side1 => repeat (first | exact (Kd.R_reads' HO162.out).2.2 | (with_reducible refine Kd.C_alloc ?_ _) | (with_reducible refine Kd.C_drewN ?_ _) | (with_reducible refine Kd.C_drew ?_))); (case side2 => exact (Kd.R_reads' HO162.out).2.1); rintro e w22 ⟨rfl,hb⟩; have n0_:=Aside0.mk (Kd.R_below (by (with_reducible repeat (first | apply Kd.R_alloc | apply Kd.R_drewN | apply Kd.R_drew)); exact HO149.out) hb); have n1_:=Aside0.mk (Kd.R_below (by (with_reducible repeat (first | apply Kd.R_alloc | apply Kd.R_drewN | apply Kd.R_drew)); exact HO152.out) hb); have n2_:=Aside0.mk (Kd.R_below (by (with_reducible repeat (first | apply Kd.R_alloc | apply Kd.R_drewN | apply Kd.R_drew)); exact HO157.out) hb); have n3_:=Aside0.mk (Kd.R_below (by (with_reducible repeat (first | apply Kd.R_alloc | apply Kd.R_drewN | apply Kd.R_drew)); exact HO162.out) hb); have n4_:=Aside0.mk (below_step (by repeat (first | (with_reducible first | exact HB.out | apply below_alloc | apply pw_below_drewN | apply below_drew1) | exact HB.out)) hb); clear HO149; clear HO152; clear HO157; clear HO162; clear HB; have HO149:=n0_; have HO152:=n1_; have HO157:=n2_; have HO162:=n3_; have HB:=n4_; clear n0_ n1_ n2_ n3_ n4_; (try clear hb); (try clear hb2); (try clear hk); (try clear hi)))
         go_meet
         case rel => exact ⟨_,((t163 == 2)),(by first | rfl | (simp; done) | (simp [*]; done)),H',⟨by first | omega | exact Nat.le_refl _⟩,⟨by repeat (first | (with_reducible first | exact HB.out | apply below_alloc | apply pw_below_drewN | apply below_drew1) | exact HB.out)⟩⟩
        rw [if_neg c16] at H
        have c16b0 : (((rd_T28 t153 1).f0) == 5) = false:=beq_eq_false_iff_ne.mpr c16
        have c16b1 : (((rd_T28 t153 1).f0) != 5) = true:=bne_iff_ne.mpr c16
        have H':=Aside0.mk H
        clear H
        obtain ⟨Ao23,co23,eo23⟩:=Kd.R_slice HO157.out
        subst eo23
        have p158 : 0 ≤ (0 : Int):=(by omega)
        have q158 : 0 < (t153.length : Int):=of_decide_eq_true (by first | (with_reducible assumption) | assumption)
        obtain ⟨ad158,e158,hx158_0,hx158_1⟩:=at_T28 (Kd.R_reads' HO157.out).2.2 0 p158 q158
        cases e158
        have qi158 : (0 < t153.length) = True:=eq_true (by omega)
        (try rw [show ((0 : Int)).toNat = 0 from rfl] at hx158_0)
        (try rw [show 0 * 2 = 0 from rfl] at hx158_0)
        (try rw [Addr.add_zero'] at hx158_0)
        (try rw [show ((0 : Int)).toNat = 0 from rfl] at hx158_1)
        (try rw [show 0 * 2 = 0 from rfl] at hx158_1)
        (try rw [Addr.add_zero'] at hx158_1)
        replace p158:=eq_true p158
        replace q158:=eq_true q158
        have p159 : 0 ≤ (1 : Int):=(by omega)
        have q159 : 1 < (t153.length : Int):=of_decide_eq_true (by first | (with_reducible assumption) | assumption)
        obtain ⟨ad159,e159,hx159_0,hx159_1⟩:=at_T28 (Kd.R_reads' HO157.out).2.2 1 p159 q159
        obtain rfl : ad158 = ad159:=(by injection e159)
        (try simp only [show (1 : Int).toNat = 1 from rfl,Nat.reduceMul,Nat.reduceEqDiff,Go.Addr.add,↓reduceIte] at hx159_0)
        (try simp only [show (1 : Int).toNat = 1 from rfl,Nat.reduceMul,Nat.reduceEqDiff,Go.Addr.add,↓reduceIte] at hx159_1)
        have qi159 : (1 < t153.length) = True:=eq_true (by omega)
        (try rw [show ((1 : Int)).toNat = 1 from rfl] at hx159_0)
        (try rw [show 1 * 2 = 2 from rfl] at hx159_0)
        (try rw [show ((1 : Int)).toNat = 1 from rfl] at hx159_1)
        (try rw [show 1 * 2 = 2 from rfl] at hx159_1)
        replace p159:=eq_true p159
        replace q159:=eq_true q159
        go_wp2
        go_meet
        case rel => exact ⟨_,(false),(by first | rfl | (simp; done) | (simp [*]; done)),H',⟨by first | omega | exact Nat.le_refl _⟩,⟨by repeat (first | (with_reducible first | exact HB.out | apply below_alloc | apply pw_below_drewN | apply below_drew1) | exact HB.out)⟩⟩
       rw [if_neg c15] at H
       exact absurd H (by simp)
      rw [if_neg c14] at H
      have c14b0 : (((rd_T28 t153 0).f0) == 4) = false:=beq_eq_false_iff_ne.mpr c14
      have c14b1 : (((rd_T28 t153 0).f0) != 4) = true:=bne_iff_ne.mpr c14
      have H':=Aside0.mk H
      clear H
      obtain ⟨Ao24,co24,eo24⟩:=Kd.R_slice HO157.out
      subst eo24
      have p158 : 0 ≤ (0 : Int):=(by omega)
      have q158 : 0 < (t153.length : Int):=of_decide_eq_true (by first | (with_reducible assumption) | assumption)
      obtain ⟨ad158,e158,hx158_0,hx158_1⟩:=at_T28 (Kd.R_reads' HO157.out).2.2 0 p158 q158
      cases e158
      have qi158 : (0 < t153.length) = True:=eq_true (by omega)
      (try rw [show ((0 : Int)).toNat = 0 from rfl] at hx158_0)
      (try rw [show 0 * 2 = 0 from rfl] at hx158_0)
      (try rw [Addr.add_zero'] at hx158_0)
      (try rw [show ((0 : Int)).toNat = 0 from rfl] at hx158_1)
      (try rw [show 0 * 2 = 0 from rfl] at hx158_1)
      (try rw [Addr.add_zero'] at hx158_1)
      replace p158:=eq_true p158
      replace q158:=eq_true q158
      go_wp2
      go_meet
      case rel => exact ⟨_,(false),(by first | rfl | (simp; done) | (simp [*]; done)),H',⟨by first | omega | exact Nat.le_refl _⟩,⟨by repeat (first | (with_reducible first | exact HB.out | apply below_alloc | apply pw_below_drewN | apply below_drew1) | exact HB.out)⟩⟩
     rw [if_neg c13] at H
     exact absurd H (by simp)
    rw [if_neg c12] at H
    have c12b0 : (t154 == 5) = false:=beq_eq_false_iff_ne.mpr c12
    have c12b1 : (t154 != 5) = true:=bne_iff_ne.mpr c12
    have H':=Aside0.mk H
    clear H
    obtain ⟨Ao25,co25,eo25⟩:=Kd.R_slice HO157.out
    subst eo25
    go_wp2
    go_meet
    case rel => exact ⟨_,(false),(by first | rfl | (simp; done) | (simp [*]; done)),H',⟨by first | omega | exact Nat.le_refl _⟩,⟨by repeat (first | (with_reducible first | exact HB.out | apply below_alloc | apply pw_below_drewN | apply below_drew1) | exact HB.out)⟩⟩
   rw [if_neg c11] at H
   have c11b0 : ((t153.length : Int) == 2) = false:=beq_eq_false_iff_ne.mpr c11
   have c11b1 : ((t153.length : Int) != 2) = true:=bne_iff_ne.mpr c11
   have H':=Aside0.mk H
   clear H
   obtain ⟨Ao26,co26,eo26⟩:=Kd.R_slice HO157.out
   subst eo26
   go_wp2
   go_meet
   case rel => exact ⟨_,(false),(by first | rfl | (simp; done) | (simp [*]; done)),H',⟨by first | omega | exact Nat.le_refl _⟩,⟨by repeat (first | (with_reducible first | exact HB.out | apply below_alloc | apply pw_below_drewN | apply below_drew1) | exact HB.out)⟩⟩
  rw [if_neg c10] at H
  have c10b0 : (t155 == 0) = false:=beq_eq_false_iff_ne.mpr c10
  have c10b1 : (t155 != 0) = true:=bne_iff_ne.mpr c10
  (first | rw [c10b0] | (simp only [i64_w,i32_w]; rw [c10b0]) | skip)
  have H':=Aside0.mk H
  clear H
  go_wp2
  go_meet
  case rel => exact ⟨_,(false),(by first | rfl | (simp; done) | (simp [*]; done)),H',⟨by first | omega | exact Nat.le_refl _⟩,⟨by repeat (first | (with_reducible first | exact HB.out | apply below_alloc | apply pw_below_drewN | apply below_drew1) | exact HB.out)⟩⟩
 clear HC2
 try clear c1
 try clear p1
 try clear q1
 try clear hx1
 try clear qi1
 try clear c2
 try clear p2
 try clear c10
 try clear c10b0
 try clear c10b1
 try clear c11
 try clear c11b0
 try clear c11b1
 try clear c12
 try clear c12b0
 try clear c12b1
 try clear c13
 try clear c13b0
 try clear c13b1
 try clear c14
 try clear c14b0
 try clear c14b1
 try clear c15
 try clear c15b0
 try clear c15b1
 try clear p15
 try clear q15
 try clear hx15
 try clear qi15
 try clear c16
 try clear c16b0
 try clear c16b1
 try clear hx158_0
 try clear hx158_1
 try clear hx159_0
 try clear hx159_1
 try clear p158
 try clear p159
 try clear q158
 try clear q159
 obtain ⟨kq,x0_1,rfl,HA,HJ1,HB⟩:=hcut
 cases kq with
 | zero => exact absurd HA.out (by simp [maquettelaw16_alive.j0])
 | succ kj1 =>
  have H:=HA.out
  clear HA
  simp only [maquettelaw16_alive.j0] at H
  obtain rfl:=Option.some.inj H
  go_wp2
  go_ret
  exact ⟨by first | rfl | (simp [errW_none,errW_some] <;> rfl) | (simp [*,errW_none,errW_some] <;> rfl),by repeat (first | (with_reducible first | exact HB.out | apply below_alloc | apply pw_below_drewN | apply below_drew1) | exact HB.out)⟩

end Go.Proofs.Ytpeeojbhfebcdaa.PAll


/- Of the texts that the row stands on,what it needs (part 33),put together by a program of this session. -/
import Derived.Test.YtpeeojbhfebcdaaZtT20
import Derived.Test.YtpeeojbhfebcdaaZtT32
import Derived.Test.YtpeeojbhfebcdaaZtT30
import Derived.Test.YtpeeojbhfebcdaaZtT28
import Derived.Test.YtpeeojbhfebcdaaZtT25
import Derived.WalkKit
import Derived.ProofKit
import Derived.OpenShut
import Derived.ChangeOld
import Derived.ChangeSlices
import Derived.Below
import Derived.SizedLaws
import Derived.DataReads
import Derived.DataElems
section
namespace Go.Proofs.Ytpeeojbhfebcdaa.PRf
open Go.RowKit Go.Proofs.YtpeeojbhfebcdaaW.PrintWords Go.Proofs.YtpeeojbhfebcdaaW.PrintLast Go.Proofs.YtpeeojbhfebcdaaW.PrintMore
open Go.Proofs.Ytpeeojbhfebcdaa
open Go.Proofs.Ytpeeojbhfebcdaa.V (byI byL byL_length byL_snoc byI_plain strOf_bytesOf strOf_append okK okP okR ahK idxV idxB idxB_snoc idxB_length idxA lfT lfV lfB lfB_snoc lfA lfT_length okR_size all_at fullA fullA_k zer pad pad_length bytesOf_len chL chL_length chOk chA R2 C4 S2 kR kC kS atR atC atS zR zC zS leafE indexE C_iso C_iso_mk R_iso R_iso_mk)
set_option linter.unusedSimpArgs false
set_option linter.unusedVariables false
def r_to84 (x : R2) : S84:=⟨x.1,x.2⟩
def r_to45 (x : R2) : S45:=⟨x.1,x.2⟩
theorem r_rd45 (l : List R2) (i : Int) : rd_T45 (l.map r_to45) i = r_to45 (atR l i.toNat):=by
  unfold rd_T45 atR
  rw [List.getD_eq_getElem?_getD,List.getD_eq_getElem?_getD,List.getElem?_map]
  cases l[i.toNat]? <;> rfl
theorem r_map45 (l : List R2) : (l.map r_to45).map (fun x : S45 => (x.f0,x.f1)) = l:=by
  rw [List.map_map]
  conv => rhs;rw [← List.map_id l]
  rfl
theorem r_map84 (l : List R2) : (l.map r_to84).map (fun x : S84 => (x.f0,x.f1)) = l:=by
  rw [List.map_map]
  conv => rhs;rw [← List.map_id l]
  rfl
theorem r_recs_l0 (l : List R2) (hl : l.length ≤ 1000000) (d : Nat) : ∀ (k i : Nat),l.length - i = d → i ≤ l.length → d < k → maquettelaw16_Records.l0 k ((l.take i).map r_to84) (l.map r_to45) (l.length : Int) (i : Int) = some (l.map r_to84):=by
 induction d with
 | zero =>
  intro k i hd hi hk
  obtain ⟨k,rfl⟩ : ∃ m,k = m + 1:=⟨k - 1,by omega⟩
  simp only [maquettelaw16_Records.l0]
  rw [if_neg (by omega),List.take_of_length_le (by omega)]
 | succ d ih =>
  intro k i hd hi hk
  obtain ⟨k,rfl⟩ : ∃ m,k = m + 1:=⟨k - 1,by omega⟩
  have hi2 : i < l.length:=by omega
  simp only [maquettelaw16_Records.l0]
  rw [if_pos (by omega),if_pos (by omega),if_pos (by rw [List.length_map];omega),if_pos (by rw [List.length_map,List.length_take];omega),r_rd45]
  rw [show wrap64 ((i : Int) + 1) = ((i + 1 : Nat) : Int) from by unfold wrap64;omega]
  have e : (l.take i).map r_to84 ++ [(⟨(r_to45 (atR l (i : Int).toNat)).f0,(r_to45 (atR l (i : Int).toNat)).f1⟩ : S84)] = (l.take (i + 1)).map r_to84:=by
   rw [List.take_succ_eq_append_getElem hi2,List.map_append]
   congr 2
   unfold atR
   rw [Int.toNat_natCast,List.getD_eq_getElem?_getD,List.getElem?_eq_getElem hi2];rfl
  rw [e]
  exact ih k (i + 1) (by omega) (by omega) (by omega)
theorem r_recs_f (l : List R2) (hl : l.length ≤ 1000000) (k : Nat) (hk : l.length < k) : maquettelaw16_Records.f k (l.map r_to45) = some (l.map r_to84):=by
  unfold maquettelaw16_Records.f
  rw [List.length_map]
  exact r_recs_l0 l hl l.length k 0 (by omega) (by omega) hk
theorem r_recs_any (A : Option Addr) (c : Nat) (l : List R2) (w : World) (h : Kd.C kR w A l.length l) (hc : l.length ≤ c) (hl : l.length ≤ 1000000) :
  Calls Try.prog 14 #[.slice A l.length c] w fun e w' => ∃ v : Value,e = .returned v ∧ kR.R 84 w' w.heap.size (fun _ => True) v l ∧ Below w.heap.size w w':=by
 have H:=maquettelaw16_Records.calls (l.length + 1) A c (l.map r_to45) _ w (by rw [List.length_map];exact C_iso_mk (f:=fun x : S45 => (x.f0,x.f1)) (by rw [r_map45];exact h)) (by rw [List.length_map];exact hc) (r_recs_f l hl (l.length + 1) (by omega))
 rw [List.length_map] at H
 refine H.mono ?_
 rintro e w' ⟨v,rfl,hR,hb⟩
 have:=R_iso (f:=fun x : S84 => (x.f0,x.f1)) hR
 rw [r_map84] at this
 exact ⟨v,rfl,this,hb⟩
def w_to91 (x : R2) : S91:=⟨x.1,x.2⟩
def w_to28 (x : R2) : S28:=⟨x.1,x.2⟩
theorem w_rd91 (l : List R2) (i : Int) : rd_T91 (l.map w_to91) i = w_to91 (atR l i.toNat):=by
  unfold rd_T91 atR
  rw [List.getD_eq_getElem?_getD,List.getD_eq_getElem?_getD,List.getElem?_map]
  cases l[i.toNat]? <;> rfl
theorem w_rd28 (l : List R2) (i : Int) : rd_T28 (l.map w_to28) i = w_to28 (atR l i.toNat):=by
  unfold rd_T28 atR
  rw [List.getD_eq_getElem?_getD,List.getD_eq_getElem?_getD,List.getElem?_map]
  cases l[i.toNat]? <;> rfl
theorem w_map28 (l : List R2) : (l.map w_to28).map (fun x : S28 => (x.f0,x.f1)) = l:=by
  rw [List.map_map]
  conv => rhs;rw [← List.map_id l]
  rfl
theorem w_map91 (l : List R2) : (l.map w_to91).map (fun x : S91 => (x.f0,x.f1)) = l:=by
  rw [List.map_map]
  conv => rhs;rw [← List.map_id l]
  rfl
theorem w_recs_l0 (l : List R2) (hl : l.length ≤ 1000000) (d : Nat) : ∀ (k i : Nat),l.length - i = d → i ≤ l.length → d < k → maquettelaw16_Writes.l0 k ((l.take i).map w_to91) (l.map w_to28) (l.length : Int) (i : Int) = some (l.map w_to91):=by
 induction d with
 | zero =>
  intro k i hd hi hk
  obtain ⟨k,rfl⟩ : ∃ m,k = m + 1:=⟨k - 1,by omega⟩
  simp only [maquettelaw16_Writes.l0]
  rw [if_neg (by omega),List.take_of_length_le (by omega)]
 | succ d ih =>
  intro k i hd hi hk
  obtain ⟨k,rfl⟩ : ∃ m,k = m + 1:=⟨k - 1,by omega⟩
  have hi2 : i < l.length:=by omega
  simp only [maquettelaw16_Writes.l0]
  rw [if_pos (by omega),if_pos (by omega),if_pos (by rw [List.length_map];omega),if_pos (by rw [List.length_map,List.length_take];omega),w_rd28]
  rw [show wrap64 ((i : Int) + 1) = ((i + 1 : Nat) : Int) from by unfold wrap64;omega]
  have e : (l.take i).map w_to91 ++ [(⟨(w_to28 (atR l (i : Int).toNat)).f0,(w_to28 (atR l (i : Int).toNat)).f1⟩ : S91)] = (l.take (i + 1)).map w_to91:=by
   rw [List.take_succ_eq_append_getElem hi2,List.map_append]
   congr 2
   unfold atR
   rw [Int.toNat_natCast,List.getD_eq_getElem?_getD,List.getElem?_eq_getElem hi2];rfl
  rw [e]
  exact ih k (i + 1) (by omega) (by omega) (by omega)
theorem w_recs_f (l : List R2) (hl : l.length ≤ 1000000) (k : Nat) (hk : l.length < k) : maquettelaw16_Writes.f k (l.map w_to28) = some (l.map w_to91):=by
  unfold maquettelaw16_Writes.f
  rw [List.length_map]
  exact w_recs_l0 l hl l.length k 0 (by omega) (by omega) hk
theorem w_same_l0 (s m : List R2) (hs : s.length ≤ 1000000) (d : Nat) : ∀ (k i : Nat),s.length - i = d → i ≤ s.length → i ≤ m.length → d < k → maquettelaw16_SameWrites.l0 k (m.map w_to91) (s.map w_to91) (s.length : Int) (i : Int) = some (decide (s.drop i = m.drop i)):=by
 induction d with
 | zero =>
  intro k i hd hi hm hk
  obtain ⟨k,rfl⟩ : ∃ m,k = m + 1:=⟨k - 1,by omega⟩
  simp only [maquettelaw16_SameWrites.l0]
  rw [if_neg (by omega),List.drop_of_length_le (show s.length ≤ i by omega)]
  congr 1
  rw [Bool.eq_iff_iff,beq_iff_eq,decide_eq_true_eq,List.length_map,List.length_map]
  constructor
  ·intro h;exact (List.drop_of_length_le (by omega)).symm
  ·intro h
   have:=congrArg List.length h
   rw [List.length_drop] at this
   simp at this;omega
 | succ d ih =>
  intro k i hd hi hm hk
  obtain ⟨k,rfl⟩ : ∃ m,k = m + 1:=⟨k - 1,by omega⟩
  have hi2 : i < s.length:=by omega
  simp only [maquettelaw16_SameWrites.l0]
  rw [if_pos (by omega)]
  by_cases hml : m.length ≤ i
  ·rw [if_pos (by rw [List.length_map];omega),decide_eq_false]
   rw [List.drop_of_length_le hml,List.drop_eq_getElem_cons hi2]
   exact List.cons_ne_nil _ _
  ·have hm2 : i < m.length:=by omega
   rw [if_neg (by rw [List.length_map];omega),if_pos (by omega),if_pos (by rw [List.length_map];omega),if_pos (by rw [List.length_map];omega),w_rd91,w_rd91,Int.toNat_natCast]
   have es : atR s i = s[i]:=by unfold atR;rw [List.getD_eq_getElem?_getD,List.getElem?_eq_getElem hi2];rfl
   have em : atR m i = m[i]:=by unfold atR;rw [List.getD_eq_getElem?_getD,List.getElem?_eq_getElem hm2];rfl
   rw [es,em,show wrap64 ((i : Int) + 1) = ((i + 1 : Nat) : Int) from by unfold wrap64;omega,ih k (i + 1) (by omega) (by omega) (by omega) (by omega)]
   rw [List.drop_eq_getElem_cons hi2,List.drop_eq_getElem_cons hm2]
   show (if (!(s[i].1 == m[i].1) || !(s[i].2.toList == m[i].2.toList)) = true then some false else _) = _
   have ht : (s[i].2.toList == m[i].2.toList) = decide (s[i].2 = m[i].2):=by
    have:=V.toList_ne (a:=s[i].2) (b:=m[i].2)
    rw [bne] at this
    have h2:=congrArg (!·) this
    simpa using h2
   rw [ht]
   by_cases h1 : s[i].1 = m[i].1
   ·by_cases h2 : s[i].2 = m[i].2
    ·rw [if_neg (by rw [h1,h2];simp)]
     congr 1
     rw [decide_eq_decide]
     constructor
     ·intro h;rw [h,Prod.ext h1 h2]
     ·intro h;injection h
    ·rw [if_pos (by rw [decide_eq_false h2];simp),decide_eq_false]
     intro h
     injection h with h _
     exact h2 (by rw [h])
   ·rw [if_pos (by rw [beq_eq_false_iff_ne.2 h1];rfl),decide_eq_false]
    intro h
    injection h with h _
    exact h1 (by rw [h])
theorem w_same_f (s m : List R2) (hs : s.length ≤ 1000000) (k : Nat) (hk : s.length < k) : maquettelaw16_SameWrites.f k (s.map w_to28) (m.map w_to91) = some (decide (s = m)):=by
  unfold maquettelaw16_SameWrites.f
  rw [w_recs_f s hs k hk,Option.bind_some,List.length_map]
  exact w_same_l0 s m hs s.length k 0 (by omega) (by omega) (by omega) hk
theorem w_recs_any (A : Option Addr) (c : Nat) (l : List R2) (w : World) (h : Kd.C kR w A l.length l) (hc : l.length ≤ c) (hl : l.length ≤ 1000000) :
  Calls Try.prog 15 #[.slice A l.length c] w fun e w' => ∃ v : Value,e = .returned v ∧ kR.R 91 w' w.heap.size (fun _ => True) v l ∧ Below w.heap.size w w':=by
 have H:=maquettelaw16_Writes.calls (l.length + 1) A c (l.map w_to28) _ w (by rw [List.length_map];exact C_iso_mk (f:=fun x : S28 => (x.f0,x.f1)) (by rw [w_map28];exact h)) (by rw [List.length_map];exact hc) (w_recs_f l hl (l.length + 1) (by omega))
 rw [List.length_map] at H
 refine H.mono ?_
 rintro e w' ⟨v,rfl,hR,hb⟩
 have:=R_iso (f:=fun x : S91 => (x.f0,x.f1)) hR
 rw [w_map91] at this
 exact ⟨v,rfl,this,hb⟩
theorem w_same_any (A : Option Addr) (c : Nat) (l : List R2) (B : Option Addr) (d : Nat) (m : List R2) (w : World) (h : Kd.C kR w A l.length l) (hc : l.length ≤ c) (hl : l.length ≤ 1000000) (h2 : Kd.C kR w B m.length m) (hd : m.length ≤ d) :
  Calls Try.prog 16 #[.slice A l.length c,.slice B m.length d] w fun e w' => e = .returned (.bool (decide (l = m))) ∧ Below w.heap.size w w':=by
 have H:=maquettelaw16_SameWrites.calls (l.length + 1) A c (l.map w_to28) B d (m.map w_to91) _ w (by rw [List.length_map];exact C_iso_mk (f:=fun x : S28 => (x.f0,x.f1)) (by rw [w_map28];exact h)) (by rw [List.length_map];exact hc) (by rw [List.length_map];exact C_iso_mk (f:=fun x : S91 => (x.f0,x.f1)) (by rw [w_map91];exact h2)) (by rw [List.length_map];exact hd) (w_same_f l m hl (l.length + 1) (by omega))
 rw [List.length_map,List.length_map] at H
 exact H
end Go.Proofs.Ytpeeojbhfebcdaa.PRf
end
section
namespace Go.Proofs.Ytpeeojbhfebcdaa.PRf
open Go.RowKit Go.Proofs.YtpeeojbhfebcdaaW.PrintWords Go.Proofs.YtpeeojbhfebcdaaW.PrintLast Go.Proofs.YtpeeojbhfebcdaaW.PrintMore
open Go.Proofs.Ytpeeojbhfebcdaa
open Go.Proofs.YtpeeojbhfebcdaaM
open Go.Proofs.Ytpeeojbhfebcdaa.V (byI byL byL_length byL_snoc byI_plain strOf_bytesOf strOf_append okK okP okR ahK idxV idxB idxB_snoc idxB_length idxA lfT lfV lfB lfB_snoc lfA lfT_length okR_size all_at fullA fullA_k zer pad pad_length bytesOf_len chL chL_length chOk chA R2 C4 S2 kR kC kS atR atC atS zR zC zS leafE indexE C_iso C_iso_mk R_iso R_iso_mk at_R kR_mkM wfS planE rightF mayE pgs pgs_length pgs_snoc needE tR tW few_f alive_f need_f plan_any right_any)
set_option linter.unusedSimpArgs false
set_option linter.unusedVariables false
abbrev tR' (l : List PAll.S45) : List R2:=l.map fun x => (x.f0,x.f1)
abbrev tW' (l : List PAll.S28) : List R2:=l.map fun x => (x.f0,x.f1)
theorem al_c (W : World) : Calls Try.prog 11 #[] W fun e w' => e = .returned (.bool true) ∧ Below W.heap.size W w' :=
  (PAll.maquettelaw16_alive.calls 200 true W (alive_f 200 (by decide))).mono fun _ _ ⟨he,hb⟩ => ⟨he,by first | exact hb | exact hb.below⟩
theorem few_c (A : Option Addr) (c : Nat) (l : List PAll.S45) (w : World) (h : Kd.C PAll.k45 w A l.length l) (hc : l.length ≤ c) :
  ∃ b : Bool,(b = true → l.length ≤ 120) ∧ ∀ W,Below w.heap.size w W → Calls Try.prog 10 #[.slice A l.length c] W fun e w' => e = .returned (.bool b) ∧ Below W.heap.size W w':=by
 obtain ⟨b,hb,h1⟩:=few_f l h.2.1 (l.length + 1) (by omega)
 exact ⟨b,h1,fun W hW => (PAll.maquettelaw16_Few.calls (l.length + 1) A c l b W (Kd.C_below h hW) hc hb).mono fun _ _ ⟨he,hb⟩ => ⟨he,by first | exact hb | exact hb.below⟩⟩
theorem need_c (A : Option Addr) (c : Nat) (l : List PAll.S45) (w : World) (h : Kd.C PAll.k45 w A l.length l) (hc : l.length ≤ c) (hl : l.length ≤ 9000) (W : World) (hW : Below w.heap.size w W) :
  Calls Try.prog 17 #[.slice A l.length c] W fun e w' => e = .returned (.int .i64 (needE (tR' l) : Int)) ∧ Below W.heap.size W w' :=
 (PAll.shelf_Need.calls 199 A c l _ W (Kd.C_below h hW) hc (need_f l hl 199 (by decide))).mono fun _ _ ⟨he,hb⟩ => ⟨he,by first | exact hb | exact hb.below⟩
theorem plan_c (w : World) (A : Option Addr) (c : Nat) (l : List R2) (B : Option Addr) (d : Nat) (hv : List R2) (D : Option Addr) (f : Nat) (fr : List Int)
  (h : Kd.C kR w A l.length l) (hc : l.length ≤ c) (hl : l.length ≤ 9000)
  (h2 : Kd.C kR w B hv.length hv) (hd : hv.length ≤ d) (hl2 : hv.length ≤ 10000) (hw2 : ∀ x ∈ hv,wfS x.2)
  (h3 : Kd.C (Kd.int .i64) w D fr.length fr) (hf : fr.length ≤ f) (hl3 : fr.length ≤ 10000) :
  Calls Try.prog 12 #[.slice A l.length c,.slice B hv.length d,.slice D fr.length f] w fun e w' => (∃ A2 c2,e = .returned (.tuple #[.slice A2 (planE l hv fr).1.length c2,.int .i64 (planE l hv fr).2.1,.int .i64 (planE l hv fr).2.2]) ∧ Kd.C kR w' A2 (planE l hv fr).1.length (planE l hv fr).1 ∧ (planE l hv fr).1.length ≤ c2) ∧ Below w.heap.size w w':=by
 refine (plan_any w A c l B d hv D f fr h hc hl h2 hd hl2 hw2 h3 hf hl3).mono ?_
 rintro e w' ⟨v,rfl,hr,hb⟩
 obtain ⟨A2,c2,rfl⟩:=Kd.R_slice hr
 have hrd:=Kd.R_reads' hr
 exact ⟨⟨A2,c2,rfl,hrd.2.2,hrd.2.1⟩,hb⟩
theorem rplan_c (w : World) (A : Option Addr) (c : Nat) (l : List R2) (B : Option Addr) (d : Nat) (hv : List R2) (D : Option Addr) (f : Nat) (fr : List Int)
  (h : Kd.C kR w A l.length l) (hc : l.length ≤ c) (hl : l.length ≤ 9000)
  (h2 : Kd.C kR w B hv.length hv) (hd : hv.length ≤ d) (hl2 : hv.length ≤ 10000)
  (h3 : Kd.C (Kd.int .i64) w D fr.length fr) (hf : fr.length ≤ f) (hl3 : fr.length ≤ 10000) :
  Calls Try.prog 13 #[.slice A l.length c,.slice B hv.length d,.slice D fr.length f] w fun e w' => (∃ A2 c2,e = .returned (.tuple #[.slice A2 (planE l hv fr).1.length c2,.int .i64 (planE l hv fr).2.1,.int .i64 (planE l hv fr).2.2]) ∧ Kd.C kR w' A2 (planE l hv fr).1.length (planE l hv fr).1 ∧ (planE l hv fr).1.length ≤ c2) ∧ Below w.heap.size w w':=by
 refine (rplan_any w A c l B d hv D f fr h hc hl h2 hd hl2 h3 hf hl3).mono ?_
 rintro e w' ⟨v,rfl,hr,hb⟩
 obtain ⟨A2,c2,rfl⟩:=Kd.R_slice hr
 have hrd:=Kd.R_reads' hr
 exact ⟨⟨A2,c2,rfl,hrd.2.2,hrd.2.1⟩,hb⟩
theorem recs_c (A : Option Addr) (c : Nat) (l : List R2) (w : World) (h : Kd.C kR w A l.length l) (hc : l.length ≤ c) (hl : l.length ≤ 9000) :
  Calls Try.prog 14 #[.slice A l.length c] w fun e w' => (∃ A2 c2,e = .returned (.slice A2 l.length c2) ∧ Kd.C kR w' A2 l.length l ∧ l.length ≤ c2) ∧ Below w.heap.size w w':=by
 refine (r_recs_any A c l w h hc (by omega)).mono ?_
 rintro e w' ⟨v,rfl,hr,hb⟩
 obtain ⟨A2,c2,rfl⟩:=Kd.R_slice hr
 have hrd:=Kd.R_reads' hr
 exact ⟨⟨A2,c2,rfl,hrd.2.2,hrd.2.1⟩,hb⟩
theorem wrs_c (A : Option Addr) (c : Nat) (l : List R2) (w : World) (h : Kd.C kR w A l.length l) (hc : l.length ≤ c) (hl : l.length ≤ 9000) :
  Calls Try.prog 15 #[.slice A l.length c] w fun e w' => (∃ A2 c2,e = .returned (.slice A2 l.length c2) ∧ Kd.C kR w' A2 l.length l ∧ l.length ≤ c2) ∧ Below w.heap.size w w':=by
 refine (w_recs_any A c l w h hc (by omega)).mono ?_
 rintro e w' ⟨v,rfl,hr,hb⟩
 obtain ⟨A2,c2,rfl⟩:=Kd.R_slice hr
 have hrd:=Kd.R_reads' hr
 exact ⟨⟨A2,c2,rfl,hrd.2.2,hrd.2.1⟩,hb⟩
theorem C_drew {α : Type} {d : Kd α} {w : World} {A : Option Addr} {n : Nat} {l : List α} (h : Kd.C d w A n l) : Kd.C d w.drew A n l:=Kd.C_below h (below_drew1 (Below.refl _ _))
set_option maxHeartbeats 32000000 in
set_option maxRecDepth 100000 in
theorem shelfTells_any (w : World) (A : Option Addr) (c : Nat) (l : List PAll.S45) (B : Option Addr) (d : Nat) (hs : List PAll.S28) (D : Option Addr) (f : Nat) (fr : List Int)
  (h : Kd.C PAll.k45 w A l.length l) (hc : l.length ≤ c) (h2 : Kd.C PAll.k28 w B hs.length hs) (hd : hs.length ≤ d) (h3 : Kd.C (Kd.int .i64) w D fr.length fr) (hf : fr.length ≤ f) :
  Calls Try.prog 3 #[.slice A l.length c,.slice B hs.length d,.slice D fr.length f] w fun e w' => e = .returned (.bool true) ∧ Below w.heap.size w w':=by
 obtain ⟨b,hb120,hfew⟩:=few_c A c l w h hc
 have hnd:=fun (hl : l.length ≤ 9000) (W : World) (hW : Below w.heap.size w W) => need_c A c l w h hc hl W hW
 have hC : Kd.C kR w A (tR' l).length (tR' l):=by rw [List.length_map];exact C_iso h
 have hC2 : Kd.C kR w B (tW' hs).length (tW' hs):=by rw [List.length_map];exact C_iso h2
 have hlen : l.length = (tR' l).length:=(List.length_map ..).symm
 have hlen2 : hs.length = (tW' hs).length:=(List.length_map ..).symm
 rw [hlen] at hb120 hfew hnd hc ⊢
 rw [hlen2] at hd ⊢
 generalize tR' l = L at *
 generalize tW' hs = Hs at *
 clear h h2 hlen hlen2
 obtain ⟨n,hn⟩ : ∃ n,n = L.length:=⟨_,rfl⟩
 obtain ⟨nh,hnh⟩ : ∃ n,n = Hs.length:=⟨_,rfl⟩
 obtain ⟨nf,hnf⟩ : ∃ n,n = fr.length:=⟨_,rfl⟩
 rw [← hn] at hb120 hfew hnd hc ⊢
 rw [← hnh] at hd ⊢
 rw [← hnf] at hf ⊢
 have HN:=Aside0.mk hn
 have HNH:=Aside0.mk hnh
 have HNF:=Aside0.mk hnf
 have HFEW:=Aside0.mk hfew
 have HND:=Aside0.mk hnd
 have HC:=Aside0.mk hC
 have HC2:=Aside0.mk hC2
 have HC3:=Aside0.mk h3
 have HCC:=Aside0.mk (And.intro hc (And.intro hd hf))
 have HB:=Aside0.mk (Below.refl w.heap.size w)
 clear hn hnh hnf hfew hnd hC hC2 h3 hc hd hf
 cases b with
 | false =>
  clear hb120
  go_enter Try.func3,Try.ntmps3
  go_wp2_with (first
   | (go_at_call 10;(with_reducible refine (HFEW.out _ HB.out).mono ?_);rintro e w1 ⟨rfl,hb⟩;have HB1:=Aside0.mk (below_step HB.out hb);clear HB;have HB:=HB1;clear HB1;clear hb)
   | (go_at_call 11;(with_reducible refine (al_c _).mono ?_);rintro e w1 ⟨rfl,hb⟩;have HB1:=Aside0.mk (below_step HB.out hb);clear HB;have HB:=HB1;clear HB1;clear hb))
  go_ret
  exact ⟨rfl,HB.out⟩
 | true =>
 have hn120:=hb120 rfl
 clear hb120
 by_cases g1 : nh ≤ 60
 case neg =>
  have d1 : decide ((60 : Int) < (nh : Int)) = true:=decide_eq_true (by omega)
  have d1b : decide (60 < nh) = true:=decide_eq_true (by omega)
  clear g1 hn120
  go_enter Try.func3,Try.ntmps3
  go_wp2_with (first
   | (go_at_call 10;(with_reducible refine (HFEW.out _ HB.out).mono ?_);rintro e w1 ⟨rfl,hb⟩;have HB1:=Aside0.mk (below_step HB.out hb);clear HB;have HB:=HB1;clear HB1;clear hb)
   | (go_at_call 11;(with_reducible refine (al_c _).mono ?_);rintro e w1 ⟨rfl,hb⟩;have HB1:=Aside0.mk (below_step HB.out hb);clear HB;have HB:=HB1;clear HB1;clear hb))
  go_ret
  exact ⟨rfl,HB.out⟩
 case pos =>
 have d1 : decide ((60 : Int) < (nh : Int)) = false:=decide_eq_false (by omega)
 have d1b : decide (60 < nh) = false:=decide_eq_false (by omega)
 by_cases g2 : nf ≤ 250
 case neg =>
  have d2 : decide ((250 : Int) < (nf : Int)) = true:=decide_eq_true (by omega)
  have d2b : decide (250 < nf) = true:=decide_eq_true (by omega)
  clear g1 g2 hn120
  go_enter Try.func3,Try.ntmps3
  go_wp2_with (first
   | (go_at_call 10;(with_reducible refine (HFEW.out _ HB.out).mono ?_);rintro e w1 ⟨rfl,hb⟩;have HB1:=Aside0.mk (below_step HB.out hb);clear HB;have HB:=HB1;clear HB1;clear hb)
   | (go_at_call 11;(with_reducible refine (al_c _).mono ?_);rintro e w1 ⟨rfl,hb⟩;have HB1:=Aside0.mk (below_step HB.out hb);clear HB;have HB:=HB1;clear HB1;clear hb))
  go_ret
  exact ⟨rfl,HB.out⟩
 case pos =>
 have d2 : decide ((250 : Int) < (nf : Int)) = false:=decide_eq_false (by omega)
 have d2b : decide (250 < nf) = false:=decide_eq_false (by omega)
 have HG:=Aside0.mk (And.intro hn120 (And.intro g1 g2))
 clear hn120 g1 g2
 have hnd9:=HND.out
 rw [HN.out] at hnd9
 rw [← HN.out] at hnd9
 have hp12 : ∀ (W : World) (A10 : Option Addr) (c10 : Nat) (A9 : Option Addr) (c9 : Nat),Below w.heap.size w W → (∀ x ∈ Hs,wfS x.2) → Kd.C kR W A10 Hs.length Hs → Hs.length ≤ c10 → Kd.C (Kd.int .i64) W A9 fr.length fr → fr.length ≤ c9 → Calls Try.prog 12 #[.slice A n c,.slice A10 nh c10,.slice A9 nf c9] W fun e w' => (∃ A2 c2,e = .returned (.tuple #[.slice A2 (planE L Hs fr).1.length c2,.int .i64 (planE L Hs fr).2.1,.int .i64 (planE L Hs fr).2.2]) ∧ Kd.C kR w' A2 (planE L Hs fr).1.length (planE L Hs fr).1 ∧ (planE L Hs fr).1.length ≤ c2) ∧ Below W.heap.size W w':=by
  intro W A10 c10 A9 c9 hb hw k1 k2 k3 k4
  have h1:=HG.out;have h2:=HN.out;have h3:=HNH.out;have h4:=HNF.out;have h5:=HCC.out
  rw [h2,h3,h4]
  exact plan_c W A c L A10 c10 Hs A9 c9 fr (Kd.C_below HC.out hb) (by omega) (by omega) k1 k2 (by omega) hw k3 k4 (by omega)
 have hp13 : ∀ (W : World) (A2 : Option Addr) (c2 : Nat) (A3 : Option Addr) (c3 : Nat),Below w.heap.size w W → Kd.C kR W A2 L.length L → L.length ≤ c2 → Kd.C kR W A3 Hs.length Hs → Hs.length ≤ c3 → Calls Try.prog 13 #[.slice A2 n c2,.slice A3 nh c3,.slice D nf f] W fun e w' => (∃ A2 c2,e = .returned (.tuple #[.slice A2 (planE L Hs fr).1.length c2,.int .i64 (planE L Hs fr).2.1,.int .i64 (planE L Hs fr).2.2]) ∧ Kd.C kR w' A2 (planE L Hs fr).1.length (planE L Hs fr).1 ∧ (planE L Hs fr).1.length ≤ c2) ∧ Below W.heap.size W w':=by
  intro W A2 c2 A3 c3 hb k1 k2 k3 k4
  have h1:=HG.out;have h2:=HN.out;have h3:=HNH.out;have h4:=HNF.out;have h5:=HCC.out
  rw [h2,h3,h4]
  exact rplan_c W A2 c2 L A3 c3 Hs D f fr k1 k2 (by omega) k3 k4 (by omega) (Kd.C_below HC3.out hb) (by omega) (by omega)
 have hp13b : ∀ (W : World) (A2 : Option Addr) (c2 : Nat) (A7 : Option Addr) (c7 : Nat),Kd.C kR W A2 L.length L → L.length ≤ c2 → Kd.C (Kd.int .i64) W A7 (pgs 198).length (pgs 198) → (pgs 198).length ≤ c7 → Calls Try.prog 13 #[.slice A2 n c2,.slice none 0 0,.slice A7 198 c7] W fun e w' => (∃ A4 c4 x y,e = .returned (.tuple #[.slice A4 (needE L) c4,.int .i64 x,.int .i64 y])) ∧ Below W.heap.size W w':=by
  intro W A2 c2 A7 c7 k1 k2 k3 k4
  have h1:=HG.out;have h2:=HN.out
  rw [h2]
  refine (rplan_c W A2 c2 L none 0 [] A7 c7 (pgs 198) k1 k2 (by omega) (Kd.C_nil _ _) (Nat.le_refl _) (by simp) k3 k4 (by rw [pgs_length];omega)).mono ?_
  rintro e w' ⟨⟨A4,c4,rfl,_⟩,hb⟩
  exact ⟨⟨A4,c4,_,_,rfl⟩,hb⟩
 have hp14 : ∀ (W : World),Below w.heap.size w W → Calls Try.prog 14 #[.slice A n c] W fun e w' => (∃ A2 c2,e = .returned (.slice A2 n c2) ∧ Kd.C kR w' A2 L.length L ∧ L.length ≤ c2) ∧ Below W.heap.size W w':=by
  intro W hb
  have h1:=HG.out;have h2:=HN.out;have h5:=HCC.out
  rw [h2]
  exact recs_c A c L W (Kd.C_below HC.out hb) (by omega) (by omega)
 have hp15 : ∀ (W : World),Below w.heap.size w W → Calls Try.prog 15 #[.slice B nh d] W fun e w' => (∃ A2 c2,e = .returned (.slice A2 nh c2) ∧ Kd.C kR w' A2 Hs.length Hs ∧ Hs.length ≤ c2) ∧ Below W.heap.size W w':=by
  intro W hb
  have h1:=HG.out;have h2:=HNH.out;have h5:=HCC.out
  rw [h2]
  exact wrs_c B d Hs W (Kd.C_below HC2.out hb) (by omega) (by omega)
 have hp18 : ∀ (W : World),Below w.heap.size w W → Calls Try.prog 18 #[.slice A n c] W fun e w' => e = .returned (.bool (rightF (-1) L)) ∧ Below W.heap.size W w':=by
  intro W hb
  have h1:=HG.out;have h2:=HN.out;have h5:=HCC.out
  rw [h2]
  exact right_any A c L W (Kd.C_below HC.out hb) (by omega) (by omega)
 have hp19 : ∀ (W : World) (A2 : Option Addr) (c2 : Nat),Kd.C kR W A2 L.length L → L.length ≤ c2 → Calls Try.prog 19 #[.slice A2 n c2] W fun e w' => e = .returned (.bool (rightF (-1) L)) ∧ Below W.heap.size W w':=by
  intro W A2 c2 k1 k2
  have h1:=HG.out;have h2:=HN.out
  rw [h2]
  exact rright_any A2 c2 L W k1 k2 (by omega)
 have hp17:=hnd9 (by have:=HG.out;omega)
 have hpl:=V.planE_len L Hs fr
 obtain ⟨⟨P,rt,er⟩,hP⟩ : ∃ x,x = planE L Hs fr:=⟨_,rfl⟩
 rw [← hP] at hp12 hp13 hpl
 simp only [] at hp12 hp13 hpl
 have hp16 : ∀ (W : World) (A1 : Option Addr) (c1 : Nat) (A2 : Option Addr) (c2 : Nat),Kd.C kR W A1 P.length P → P.length ≤ c1 → Kd.C kR W A2 P.length P → P.length ≤ c2 → Calls Try.prog 16 #[.slice A1 P.length c1,.slice A2 P.length c2] W fun e w' => e = .returned (.bool true) ∧ Below W.heap.size W w':=by
  intro W A1 c1 A2 c2 k1 k2 k3 k4
  have h1:=HG.out;have h4:=HNF.out
  have:=w_same_any A1 c1 P A2 c2 P W k1 k2 (by omega) k3 k4
  rw [decide_eq_true rfl] at this
  exact this
 obtain ⟨np,hnp⟩ : ∃ x,x = P.length:=⟨_,rfl⟩
 rw [← hnp] at hp12 hp13 hp16
 have HNP:=Aside0.mk hnp
 obtain ⟨rb,hrb⟩ : ∃ x,x = rightF (-1) L:=⟨_,rfl⟩
 rw [← hrb] at hp18 hp19
 obtain ⟨ne,hne⟩ : ∃ x,x = needE L:=⟨_,rfl⟩
 rw [← hne] at hp17 hp13b
 have HP12:=Aside0.mk hp12
 have HP13:=Aside0.mk hp13
 have HP13B:=Aside0.mk hp13b
 have HP14:=Aside0.mk hp14
 have HP15:=Aside0.mk hp15
 have HP16:=Aside0.mk hp16
 have HP17:=Aside0.mk hp17
 have HP18:=Aside0.mk hp18
 have HP19:=Aside0.mk hp19
 clear hp12 hp13 hp13b hp14 hp15 hp16 hp17 hp18 hp19 hP hnp hrb hne hpl HND hnd9
 go_enter Try.func3,Try.ntmps3
 go_wp2_with (first
   | (go_at_call 10;(with_reducible refine (HFEW.out _ HB.out).mono ?_);rintro e w1 ⟨rfl,hb⟩;have HB1:=Aside0.mk (below_step HB.out hb);clear HB;have HB:=HB1;clear HB1;clear hb)
   | (go_at_call 11;(with_reducible refine (al_c _).mono ?_);rintro e w1 ⟨rfl,hb⟩;have HB1:=Aside0.mk (below_step HB.out hb);clear HB;have HB:=HB1;clear HB1;clear hb))
 clear d1 d1b d2 d2b HFEW
 go_loopg [44] nh (fun kq v44 W => ∃ i : Int,v44 = .int .i64 i ∧ Aside0 (0 ≤ i ∧ i + kq = nh) ∧ Aside0 (∀ j,j < i.toNat → (atR Hs j).2.size ≤ 300) ∧ Aside0 (Below w.heap.size w W))
 case atStart => exact ⟨0,rfl,⟨by omega⟩,⟨fun j hj => by simp at hj⟩,HB⟩
 case round =>
  clear HB
  obtain ⟨i,rfl,HI,HZ,HB⟩:=hrel
  cases gk with
  | succ gk =>
   have hi : 0 ≤ i ∧ i < (nh : Int):=by have:=HI.out;omega
   have c0_ : decide (i < (nh : Int)) = true:=decide_eq_true hi.2
   obtain ⟨ad,e,hx0,hx1⟩:=at_R HC2.out i.toNat (by have:=HNH.out;omega)
   cases e
   replace hx0:=(HB.out.cell (World.block_lt_of_cell? w _ hx0)).trans hx0
   replace hx1:=(HB.out.cell (World.block_lt_of_cell? w _ hx1)).trans hx1
   have p0 : (0 ≤ i) = True:=eq_true hi.1
   have p1 : (i < (nh : Int)) = True:=eq_true hi.2
   obtain ⟨x,hx⟩ : ∃ x,x = atR Hs i.toNat:=⟨_,rfl⟩
   have HX:=Aside0.mk hx
   rw [← hx] at hx0 hx1
   obtain ⟨x0,x1⟩:=x
   simp only [] at hx0 hx1
   clear hx hi
   by_cases hz : x1.size ≤ 300
   ·have f1 : decide ((300 : Int) < (x1.size : Int)) = false:=decide_eq_false (by omega)
    have f2 : decide (300 < x1.size) = false:=decide_eq_false (by omega)
    have HZ1:=Aside0.mk hz
    clear hz
    go_wp2
    go_roundg gk
    case measure => omega
    case rel => exact ⟨wrap64 (i + 1),by first | rfl | (simp;done) | (simp [*];done),⟨by have:=HI.out;have:=of_eq_true p1;have:=HG.out;rw [wrap64_id (by omega) (by omega)];omega⟩,⟨by
     have h9:=HI.out;have h8:=of_eq_true p1;have h7:=HG.out
     rw [wrap64_id (by omega) (by omega)]
     intro j hj
     by_cases hji : j = i.toNat
     ·rw [hji,← HX.out];exact HZ1.out
     ·exact HZ.out j (by omega)⟩,⟨by repeat (first | (with_reducible first | exact HB.out | apply below_alloc | apply pw_below_drewN | apply below_drew1) | exact HB.out)⟩⟩
   ·have f1 : decide ((300 : Int) < (x1.size : Int)) = true:=decide_eq_true (by omega)
    have f2 : decide (300 < x1.size) = true:=decide_eq_true (by omega)
    clear hz
    go_wp2
    go_ret
    exact ⟨rfl,by repeat (first | (with_reducible first | exact HB.out | apply below_alloc | apply pw_below_drewN | apply below_drew1) | exact HB.out)⟩
  | zero =>
   have hi : i = (nh : Int):=by have:=HI.out;omega
   subst hi
   have c0_ : decide ((nh : Int) < (nh : Int)) = false:=decide_eq_false (by omega)
   have c0b : decide (nh < nh) = false:=decide_eq_false (by omega)
   have HWF:=Aside0.mk (show ∀ x ∈ Hs,wfS x.2 from fun x hx => by
    obtain ⟨j,hj,rfl⟩:=atR_mem.1 hx
    have:=HZ.out j (by rw [Int.toNat_natCast,HNH.out];exact hj)
    exact V.wfS_small (by omega))
   clear HZ HI
   go_upto_region 10 with (first
    | ((with_reducible refine gate_builtin (b:=.append) (xs:=#[.const (Value.slice none 0 0),.tmp 53]) rfl ?_);at_builtin;go_must (refine Kd.R_append_rows (Kd.int .i64) (Rr:=(Kd.int .i64).K wr) w.heap.size rfl (.const (Value.slice none 0 0)) (.tmp 53) 24 3 (.int .i64 0) 8 rfl Try.underlying24 V.info3 rfl (by decide) (by omega) (.slice none 0 0) [] fr D nf f (fun _ => True) (fun _ => False) rfl rfl (Kd.R_nil _ _ _ _ _) (by rw [HNF.out];exact Kd.C_below HC3.out HB.out) (fun x cs hx => hx) (fun _ hk => hk.elim) (fun _ _ => trivial) HB.out HB.out.size (by have:=HG.out;simp;omega) ?_);intro v3 w3 ho_ hb_ hg_ hat_;rw [List.nil_append] at ho_;obtain ⟨A9,c9,e9⟩:=Kd.R_slice ho_;subst e9;have K9:=Aside0.mk (Kd.R_reads' ho_).2.2;have J9:=Aside0.mk (Kd.R_reads' ho_).2.1;clear HB;have HB:=Aside0.mk hb_;clear ho_ hb_ hg_ hat_;rw [← HNF.out]))
   go_upto_region 11 with (first
    | ((with_reducible refine gate_builtin (b:=.append) (xs:=#[.const (Value.slice none 0 0),.tmp 55]) rfl ?_);at_builtin;go_must (refine Kd.R_append_rows kR (Rr:=kR.K w3) w.heap.size rfl (.const (Value.slice none 0 0)) (.tmp 55) 23 28 (.agg #[(.int .i64 0),(.string ⟨#[]⟩)]) 24 rfl Try.underlying23 V.info28 rfl (by decide) (by omega) (.slice none 0 0) [] Hs B nh d (fun _ => True) (fun _ => False) rfl rfl (Kd.R_nil _ _ _ _ _) (by rw [HNH.out];exact Kd.C_below HC2.out HB.out) (fun x cs hx => by rw [V.kR_open hx];exact kR_mkM _ _ _ _) (fun _ hk => hk.elim) (fun _ _ => trivial) HB.out HB.out.size (by have:=HG.out;simp;omega) ?_);intro v4 w4 ho_ hb_ hg_ hat_;rw [List.nil_append] at ho_;obtain ⟨A10,c10,e9⟩:=Kd.R_slice ho_;subst e9;have K10:=Aside0.mk (Kd.R_reads' ho_).2.2;have J10:=Aside0.mk (Kd.R_reads' ho_).2.1;clear HB;have HB:=Aside0.mk hb_;have hb : Below w3.heap.size w3 w4:=pw_below_grown (Below.refl _ _) _ (Nat.le_refl _) hg_ (by rintro k e;simp [Value.ownBlock] at e);have N_:=Aside0.mk (Kd.C_below K9.out hb);clear K9;have K9:=N_;clear N_;clear hb ho_ hb_ hg_ hat_;rw [← HNH.out]))
   go_upto_region 12 with (first
    | (go_at_call 12;go_must (with_reducible refine (HP12.out _ _ _ _ _ HB.out HWF.out K10.out J10.out K9.out J9.out).mono ?_);rintro e w5 ⟨⟨A11,c11,rfl,k1,k2⟩,hb⟩;have N_:=Aside0.mk (Kd.C_below K9.out hb);clear K9;have K9:=N_;clear N_;have N_:=Aside0.mk (Kd.C_below K10.out hb);clear K10;have K10:=N_;clear N_;have K11:=Aside0.mk k1;have J11:=Aside0.mk k2;clear k1 k2;have HB1:=Aside0.mk (below_step HB.out hb);clear HB;have HB:=HB1;clear HB1;clear hb))
   go_upto_region 13 with (first
    | (go_at_call 14;go_must (with_reducible refine (HP14.out _ HB.out).mono ?_);rintro e w6 ⟨⟨A12,c12,rfl,k1,k2⟩,hb⟩;have N_:=Aside0.mk (Kd.C_below K9.out hb);clear K9;have K9:=N_;clear N_;have N_:=Aside0.mk (Kd.C_below K10.out hb);clear K10;have K10:=N_;clear N_;have N_:=Aside0.mk (Kd.C_below K11.out hb);clear K11;have K11:=N_;clear N_;have K12:=Aside0.mk k1;have J12:=Aside0.mk k2;clear k1 k2;have HB1:=Aside0.mk (below_step HB.out hb);clear HB;have HB:=HB1;clear HB1;clear hb)
    | (go_at_call 15;go_must (with_reducible refine (HP15.out _ HB.out).mono ?_);rintro e w7 ⟨⟨A13,c13,rfl,k1,k2⟩,hb⟩;have N_:=Aside0.mk (Kd.C_below K9.out hb);clear K9;have K9:=N_;clear N_;have N_:=Aside0.mk (Kd.C_below K10.out hb);clear K10;have K10:=N_;clear N_;have N_:=Aside0.mk (Kd.C_below K11.out hb);clear K11;have K11:=N_;clear N_;have N_:=Aside0.mk (Kd.C_below K12.out hb);clear K12;have K12:=N_;clear N_;have K13:=Aside0.mk k1;have J13:=Aside0.mk k2;clear k1 k2;have HB1:=Aside0.mk (below_step HB.out hb);clear HB;have HB:=HB1;clear HB1;clear hb)
    | (go_at_call 13;go_must (with_reducible refine (HP13.out _ _ _ _ _ HB.out K12.out J12.out K13.out J13.out).mono ?_);rintro e w8 ⟨⟨A14,c14,rfl,k1,k2⟩,hb⟩;have N_:=Aside0.mk (Kd.C_below K9.out hb);clear K9;have K9:=N_;clear N_;have N_:=Aside0.mk (Kd.C_below K10.out hb);clear K10;have K10:=N_;clear N_;have N_:=Aside0.mk (Kd.C_below K11.out hb);clear K11;have K11:=N_;clear N_;have K14:=Aside0.mk k1;have J14:=Aside0.mk k2;clear k1 k2 K12 K13 J12 J13;have HB1:=Aside0.mk (below_step HB.out hb);clear HB;have HB:=HB1;clear HB1;clear hb))
   obtain ⟨wq,hwq⟩ : ∃ x,x = w8:=⟨_,rfl⟩
   have HBQ:=Aside0.mk (Below.refl wq.heap.size wq)
   rw [← hwq] at HB K9 K10 K11 K14 ⊢
   clear hwq
   go_upto_region 15 with (fail)
   go_loopg [17,18] 198 (fun kq v17 v18 W => ∃ i : Nat,v18 = .int .i64 ((i : Int) + 2) ∧ Aside0 (i + kq = 198) ∧ Aside0 ((Kd.int .i64).R 3 W wq.heap.size (fun _ => True) v17 (pgs i)) ∧ Aside0 (Below wq.heap.size wq W))
   case atStart => exact ⟨0,rfl,⟨rfl⟩,⟨Kd.R_nil _ _ _ _ _⟩,HBQ⟩
   case round =>
    clear HBQ
    obtain ⟨i,rfl,HI,HR,HBQ⟩:=hrel
    cases gk with
    | succ gk =>
     have hi : i < 198:=by have:=HI.out;omega
     have e1 : decide ((i : Int) + 2 < 200) = true:=decide_eq_true (by omega)
     have e2 : decide (i < 198) = true:=decide_eq_true hi
     have e3 : ((i : Int) < 198) = True:=eq_true (by omega)
     have e4 : decide ((i : Int) < 198) = true:=decide_eq_true (by omega)
     have hq : (i : Int) + 2 + 1 = ((i + 1 : Nat) : Int) + 2:=by omega
     have hlm : (pgs i).length ≤ 1000:=by rw [pgs_length];omega
     go_wp2_with (first
      | ((with_reducible refine gate_builtin (b:=.append) (xs:=#[.tmp 79,.tmp 81]) rfl ?_);at_builtin;go_must (refine Kd.R_append (Kd.int .i64) wq.heap.size rfl (.tmp 79) (.tmp 81) 24 3 (.int .i64 0) 8 rfl Try.underlying24 V.info3 rfl (by decide) (by omega) u17 (pgs i) ((i : Int) + 2) [.int .i64 ((i : Int) + 2)] (fun _ => True) (fun _ => False) rfl rfl rfl (fun _ hk => hk.elim) (fun _ _ => trivial) HR.out HBQ.out HBQ.out.size (by omega) ?_);intro v3_ w3_ ho_ hb_ hg_ hat_;have HR3:=Aside0.mk ho_;have HB3:=Aside0.mk hb_;clear ho_ hb_ hg_ hat_))
     go_roundg gk
     case measure => omega
     case rel =>
      refine ⟨i + 1,?_,⟨by have:=HI.out;omega⟩,⟨?_⟩,HB3⟩
      ·first | (rw [← hq];first | rfl | go_num) | go_num
      ·rw [pgs_snoc];exact HR3.out
    | zero =>
     have hi : i = 198:=by have:=HI.out;omega
     subst hi
     obtain ⟨A7,c7,ev⟩:=Kd.R_slice HR.out
     rw [pgs_length] at ev
     subst ev
     have hrd:=Kd.R_reads' (show (Kd.int .i64).R 3 wr wq.heap.size (fun _ => True) (.slice A7 (pgs 198).length c7) (pgs 198) by rw [pgs_length];exact HR.out)
     have K7:=Aside0.mk hrd.2.2
     have J7:=Aside0.mk hrd.2.1
     have hb:=HBQ.out
     have N_:=Aside0.mk (Kd.C_below K9.out hb);clear K9;have K9:=N_;clear N_;have N_:=Aside0.mk (Kd.C_below K10.out hb);clear K10;have K10:=N_;clear N_;have N_:=Aside0.mk (Kd.C_below K11.out hb);clear K11;have K11:=N_;clear N_;have N_:=Aside0.mk (Kd.C_below K14.out hb);clear K14;have K14:=N_;clear N_;have HB1:=Aside0.mk (below_step HB.out hb);clear HB;have HB:=HB1;clear HB1;clear hb
     clear hrd HR HI HBQ
     go_upto_region 19 with (first
      | (go_at_call 14;go_must (with_reducible refine (HP14.out _ HB.out).mono ?_);rintro e w6 ⟨⟨A12,c12,rfl,k1,k2⟩,hb⟩;have N_:=Aside0.mk (Kd.C_below K9.out hb);clear K9;have K9:=N_;clear N_;have N_:=Aside0.mk (Kd.C_below K10.out hb);clear K10;have K10:=N_;clear N_;have N_:=Aside0.mk (Kd.C_below K11.out hb);clear K11;have K11:=N_;clear N_;have N_:=Aside0.mk (Kd.C_below K14.out hb);clear K14;have K14:=N_;clear N_;have N_:=Aside0.mk (Kd.C_below K7.out hb);clear K7;have K7:=N_;clear N_;have K12:=Aside0.mk k1;have J12:=Aside0.mk k2;clear k1 k2;have HB1:=Aside0.mk (below_step HB.out hb);clear HB;have HB:=HB1;clear HB1;clear hb)
      | (go_at_call 13;go_must (with_reducible refine (HP13B.out _ _ _ _ _ K12.out J12.out K7.out J7.out).mono ?_);rintro e w8 ⟨⟨A15,c15,x15,y15,rfl⟩,hb⟩;have N_:=Aside0.mk (Kd.C_below K9.out hb);clear K9;have K9:=N_;clear N_;have N_:=Aside0.mk (Kd.C_below K10.out hb);clear K10;have K10:=N_;clear N_;have N_:=Aside0.mk (Kd.C_below K11.out hb);clear K11;have K11:=N_;clear N_;have N_:=Aside0.mk (Kd.C_below K14.out hb);clear K14;have K14:=N_;clear N_;clear K12 J12 K7 J7;have HB1:=Aside0.mk (below_step HB.out hb);clear HB;have HB:=HB1;clear HB1;clear hb))
     go_upto_region 20 with (fail)
     go_loopg [93] nf (fun kq v93 W => ∃ i : Int,v93 = .int .i64 i ∧ Aside0 (0 ≤ i ∧ i + kq = nf) ∧ Aside0 (Below w.heap.size w W) ∧ Aside0 (Kd.C (Kd.int .i64) W A9 fr.length fr) ∧ Aside0 (Kd.C kR W A10 Hs.length Hs) ∧ Aside0 (Kd.C kR W A11 np P) ∧ Aside0 (Kd.C kR W A14 np P))
     case atStart => exact ⟨0,rfl,⟨by omega⟩,HB,K9,K10,K11,K14⟩
     case round =>
      clear HB K9 K10 K11 K14
      obtain ⟨i,rfl,HI,HB,K9,K10,K11,K14⟩:=hrel
      cases gk with
      | succ gk =>
       have hi : 0 ≤ i ∧ i < (nf : Int):=by have:=HI.out;omega
       have c0_ : decide (i < (nf : Int)) = true:=decide_eq_true hi.2
       obtain ⟨ad,e,hx0⟩:=Kd.at_int K9.out i hi.1 (by have:=HNF.out;omega)
       obtain ⟨ad2,e2,hy0⟩:=Kd.at_int HC3.out i hi.1 (by have:=HNF.out;omega)
       cases e
       cases e2
       replace hy0:=(HB.out.cell (World.block_lt_of_cell? w _ hy0)).trans hy0
       have p0 : (0 ≤ i) = True:=eq_true hi.1
       have p1 : (i < (nf : Int)) = True:=eq_true hi.2
       generalize rd fr i = zz at hx0 hy0
       have z0 : (zz != zz) = false:=bne_self_eq_false _
       clear hi
       go_upto_region 22 with (fail)
       go_quiet (fail)
       go_wp2
       go_roundg gk
       case measure => omega
       case rel => exact ⟨wrap64 (i + 1),by first | rfl | (simp;done) | (simp [*];done),⟨by have:=HI.out;have:=of_eq_true p1;have:=HG.out;rw [wrap64_id (by omega) (by omega)];omega⟩,⟨by repeat (first | (with_reducible first | exact HB.out | apply below_alloc | apply pw_below_drewN | apply below_drew1) | exact HB.out)⟩,⟨Kd.C_below K9.out (by repeat (first | exact Below.refl _ _ | apply pw_below_drewN | apply below_drew1))⟩,⟨Kd.C_below K10.out (by repeat (first | exact Below.refl _ _ | apply pw_below_drewN | apply below_drew1))⟩,⟨Kd.C_below K11.out (by repeat (first | exact Below.refl _ _ | apply pw_below_drewN | apply below_drew1))⟩,⟨Kd.C_below K14.out (by repeat (first | exact Below.refl _ _ | apply pw_below_drewN | apply below_drew1))⟩⟩
      | zero =>
       have hi : i = (nf : Int):=by have:=HI.out;omega
       subst hi
       have c0_ : decide ((nf : Int) < (nf : Int)) = false:=decide_eq_false (by omega)
       have c0c : decide (nf < nf) = false:=decide_eq_false (by omega)
       clear HI
       go_upto_region 26 with (fail)
       go_loopg [108] nh (fun kq v108 W => ∃ i : Int,v108 = .int .i64 i ∧ Aside0 (0 ≤ i ∧ i + kq = nh) ∧ Aside0 (Below w.heap.size w W) ∧ Aside0 (Kd.C (Kd.int .i64) W A9 fr.length fr) ∧ Aside0 (Kd.C kR W A10 Hs.length Hs) ∧ Aside0 (Kd.C kR W A11 np P) ∧ Aside0 (Kd.C kR W A14 np P))
       case atStart => exact ⟨0,rfl,⟨by omega⟩,HB,K9,K10,K11,K14⟩
       case round =>
        clear HB K9 K10 K11 K14 c0_ c0c
        obtain ⟨i,rfl,HI,HB,K9,K10,K11,K14⟩:=hrel
        cases gk with
        | succ gk =>
         have hi : 0 ≤ i ∧ i < (nh : Int):=by have:=HI.out;omega
         have c0_ : decide (i < (nh : Int)) = true:=decide_eq_true hi.2
         obtain ⟨ad,e,hx0,hx1⟩:=at_R K10.out i.toNat (by have:=HNH.out;omega)
         obtain ⟨ad2,e2,hy0,hy1⟩:=at_R HC2.out i.toNat (by have:=HNH.out;omega)
         cases e
         cases e2
         replace hy0:=(HB.out.cell (World.block_lt_of_cell? w _ hy0)).trans hy0
         replace hy1:=(HB.out.cell (World.block_lt_of_cell? w _ hy1)).trans hy1
         have p0 : (0 ≤ i) = True:=eq_true hi.1
         have p1 : (i < (nh : Int)) = True:=eq_true hi.2
         generalize atR Hs i.toNat = zz at hx0 hx1 hy0 hy1
         obtain ⟨z1,z2⟩:=zz
         simp only [] at hx0 hx1 hy0 hy1
         clear hi
         go_upto_region 28 with (fail)
         go_quiet (fail)
         go_wp2
         go_roundg gk
         case measure => omega
         case rel => exact ⟨wrap64 (i + 1),by first | rfl | (simp;done) | (simp [*];done),⟨by have:=HI.out;have:=of_eq_true p1;have:=HG.out;rw [wrap64_id (by omega) (by omega)];omega⟩,⟨by repeat (first | (with_reducible first | exact HB.out | apply below_alloc | apply pw_below_drewN | apply below_drew1) | exact HB.out)⟩,⟨Kd.C_below K9.out (by repeat (first | exact Below.refl _ _ | apply pw_below_drewN | apply below_drew1))⟩,⟨Kd.C_below K10.out (by repeat (first | exact Below.refl _ _ | apply pw_below_drewN | apply below_drew1))⟩,⟨Kd.C_below K11.out (by repeat (first | exact Below.refl _ _ | apply pw_below_drewN | apply below_drew1))⟩,⟨Kd.C_below K14.out (by repeat (first | exact Below.refl _ _ | apply pw_below_drewN | apply below_drew1))⟩⟩
        | zero =>
         have hi : i = (nh : Int):=by have:=HI.out;omega
         subst hi
         have c0_ : decide ((nh : Int) < (nh : Int)) = false:=decide_eq_false (by omega)
         have c0c : decide (nh < nh) = false:=decide_eq_false (by omega)
         clear HI
         go_wp2_with (first
          | (go_at_call 16;go_must (with_reducible refine (HP16.out _ _ _ _ _ K11.out J11.out K14.out J14.out).mono ?_);rintro e w9 ⟨rfl,hb⟩;have HB1:=Aside0.mk (below_step HB.out hb);clear HB;have HB:=HB1;clear HB1;clear hb)
          | (go_at_call 17;go_must (with_reducible refine (HP17.out _ HB.out).mono ?_);rintro e w9 ⟨rfl,hb⟩;have HB1:=Aside0.mk (below_step HB.out hb);clear HB;have HB:=HB1;clear HB1;clear hb)
          | (go_at_call 18;go_must (with_reducible refine (HP18.out _ HB.out).mono ?_);rintro e w9 ⟨rfl,hb⟩;have HB1:=Aside0.mk (below_step HB.out hb);clear HB;have HB:=HB1;clear HB1;clear hb)
          | (go_at_call 14;go_must (with_reducible refine (HP14.out _ HB.out).mono ?_);rintro e w6 ⟨⟨A12,c12,rfl,k1,k2⟩,hb⟩;have K12:=Aside0.mk k1;have J12:=Aside0.mk k2;clear k1 k2;have HB1:=Aside0.mk (below_step HB.out hb);clear HB;have HB:=HB1;clear HB1;clear hb)
          | (go_at_call 19;go_must (with_reducible refine (HP19.out _ _ _ K12.out J12.out).mono ?_);rintro e w9 ⟨rfl,hb⟩;have HB1:=Aside0.mk (below_step HB.out hb);clear HB;have HB:=HB1;clear HB1;clear hb))
         go_ret
         exact ⟨by first | rfl | (simp;done),HB.out⟩
end Go.Proofs.Ytpeeojbhfebcdaa.PRf
end
section
namespace Go.Proofs.Ytpeeojbhfebcdaa.Th
open Go.ChangeShapes Go.WideShapes Go.ChangeAt Go.RowKit Go.Proofs.YtpeeojbhfebcdaaW.PrintWords
open Go.Proofs.Ytpeeojbhfebcdaa.PAll (S45 k45 k45_mk)
set_option linter.unusedVariables false
set_option linter.unusedSimpArgs false
theorem listed {α : Type} {P : Nat → α → Prop} (n : Nat) (h : ∀ i,i < n → ∃ p,P i p) : ∃ l : List α,l.length = n ∧ ∀ i p,l[i]? = some p → P i p:=by
 induction n with
 | zero => exact ⟨[],rfl,fun i p hi => by simp at hi⟩
 | succ n ih =>
  obtain ⟨l,hl,hp⟩:=ih (fun i hi => h i (by omega))
  obtain ⟨p,hpn⟩:=h n (by omega)
  refine ⟨l ++ [p],by rw [List.length_append,hl];rfl,fun i q hq => ?_⟩
  by_cases hi : i < l.length
  ·rw [List.getElem?_append_left hi] at hq;exact hp i q hq
  ·rw [List.getElem?_append_right (by omega)] at hq
   by_cases h0 : i - l.length = 0
   ·rw [h0] at hq
    simp at hq
    subst hq
    have : i = n:=by omega
    rw [this];exact hpn
   ·rw [List.getElem?_eq_none (by simp;omega)] at hq;cases hq
theorem list2 {cs : List Value} (h : cs.length = 2) : ∃ c0 c1,cs = [c0,c1]:=by
  match cs,h with
  | [c0,c1],_ => exact ⟨c0,c1,rfl⟩
section
variable {H : Type} {enc : TypeId × Value → H} {W : World} {base : Nat} {spare : Nat → Bool} {held : Bool}
theorem cells3 : Try.prog.cellsOf 3 = 1:=by kernel_rfl
theorem cells9 : Try.prog.cellsOf 9 = 1:=by kernel_rfl
theorem cells45 : Try.prog.cellsOf 45 = 2:=by kernel_rfl
theorem int_of {t : TypeId} {n : Nat} {c : Value} {y : Option (DataW H × List MemPlace)} (ht : Try.prog.underlying t = some (.int .i64)) (h : DataW.trod enc Try.prog W base spare held n t [c] = y) (hy : y.isSome = true) : ∃ a : Int,c = .int .i64 a ∧ (Lit.int .i64 a).wf = true:=by
  obtain ⟨x,rfl⟩:=Option.isSome_iff_exists.1 hy
  obtain ⟨a,hc,_,hw⟩:=DataW.trod_int ht h
  simp at hc
  exact ⟨a,hc,hw⟩
theorem cell_of {n : Nat} {cs : List Value} {y : Option (DataW H × List MemPlace)} (h : DataW.trod enc Try.prog W base spare held n 45 cs = y) (hy : y.isSome = true) : ∃ x : S45,cs = [.int .i64 x.f0,.string x.f1] ∧ x.f1.size ≤ maxLen:=by
  obtain ⟨x,rfl⟩:=Option.isSome_iff_exists.1 hy
  obtain ⟨xs,m,_,_,hcl,hlen,hx⟩:=DataW.trod_struct Try.underlying45 h
  obtain ⟨c0,c1,rfl⟩:=list2 (hcl.trans cells45)
  have h0:=hx 0 _ rfl
  change DataW.trod enc Try.prog W base spare held m 3 (([c0,c1].drop 0).take (Try.prog.cellsOf 3)) = xs[0]? at h0
  rw [cells3] at h0
  have h3:=hx 1 _ rfl
  change DataW.trod enc Try.prog W base spare held m 9 (([c0,c1].drop 1).take (Try.prog.cellsOf 9)) = xs[1]? at h3
  rw [cells9] at h3
  have hl : xs.length = 2:=hlen
  simp only [List.drop_zero,List.drop_succ_cons,List.take_succ_cons,List.take_zero] at h0 h3
  obtain ⟨a0,rfl,_⟩:=int_of Try.underlying3 h0 (by simp [hl])
  obtain ⟨z3,e3⟩:=Option.isSome_iff_exists.1 (show xs[1]?.isSome = true by simp [hl])
  obtain ⟨s3,g3,hs3⟩:=DataW.trod_string Try.underlying9 (h3.trans e3)
  simp at g3
  subst g3
  exact ⟨⟨a0,s3⟩,rfl,by first | exact hs3.2 | exact hs3 | exact hs3.1⟩
theorem cells_of {n : Nat} {c : Value} {y : Option (DataW H × List MemPlace)} (h : DataW.trod enc Try.prog W base spare held n 22 [c] = y) (hy : y.isSome = true) : ∃ (A : Option Addr) (cp : Nat) (l : List S45),c = .slice A l.length cp ∧ Kd.C k45 W A l.length l ∧ l.length ≤ cp ∧ l.length ≤ maxLen ∧ ∀ x ∈ l,x.f1.size ≤ maxLen:=by
 obtain ⟨x,rfl⟩:=Option.isSome_iff_exists.1 hy
 rcases DataW.trod_slice Try.underlying22 h with ⟨hcs,_⟩ | ⟨a,len,cap,elems,rest,m,_,hcs,_,hb,hl,hm,hlen,hel,_⟩
 ·simp at hcs
  subst hcs
  exact ⟨none,0,[],rfl,⟨rfl,by decide,fun h => absurd h (by decide)⟩,Nat.le_refl _,by decide,fun x hx => by cases hx⟩
 ·simp at hcs
  subst hcs
  rw [cells45] at hel
  obtain ⟨l,hll,hp⟩:=listed (P:=fun i (p : S45) => p.f1.size ≤ maxLen ∧ ∀ j u,[(.int .i64 p.f0 : Value),.string p.f1][j]? = some u → W.cell? (a.add (i * 2 + j)) = some u) len (fun i hi => by
   have h1:=hel i hi
   have h2 : elems[i]?.isSome = true:=by rw [List.getElem?_eq_getElem (by omega)];rfl
   rw [← h1] at h2
   rcases hc : W.cells? base (a.add (i * 2)) 2 with _ | cs
   ·rw [hc] at h2;simp at h2
   ·rw [hc,Option.bind_some] at h2
    obtain ⟨p,rfl,hps⟩:=cell_of rfl h2
    refine ⟨p,hps,fun j u hu => ?_⟩
    have h3:=(World.cells?_some hc)
    have hj : j < 2:=by
     rcases Nat.lt_or_ge j 2 with h | h
     ·exact h
     ·rw [List.getElem?_eq_none (by simpa using h)] at hu;cases hu
    have h4:=h3.2.2 j hj
    rw [hu] at h4
    rw [← h4]
    exact congrArg W.cell? (Addr.add_add a (i * 2) j).symm)
  exact ⟨some a,cap,l,by rw [hll],⟨rfl,by rw [hll];exact Nat.le_trans hl hm,fun _ => ⟨a,rfl,fun j p hj => ⟨_,rfl,k45_mk W p,fun i u hu => (hp j p hj).2 i u hu⟩⟩⟩,by rw [hll];exact hl,by rw [hll];exact Nat.le_trans hl hm,
   fun x hx => by obtain ⟨j,hj,rfl⟩:=List.getElem_of_mem hx;exact (hp j _ (List.getElem?_eq_getElem hj)).1⟩
set_option maxRecDepth 100000 in
theorem cells_open {r : Reach} {b0 : Nat} {v : Value} {d : DataW H} {p : List MemPlace} (hv : Value.okWide Try.prog W r b0 22 v) (h : DataW.Trod enc Try.prog W base spare held 22 v d p) :
  ∃ (A : Option Addr) (c : Nat) (l : List S45),v = .slice A l.length c ∧ Kd.C k45 W A l.length l ∧ l.length ≤ c ∧ l.length ≤ maxLen ∧ ∀ x ∈ l,x.f1.size ≤ maxLen:=by
 obtain ⟨a,len,cap,rfl⟩:=okWide_slice (P:=Try.prog) (w:=W) (r:=r) (base:=b0) (v:=v) Try.underlying22 hv
 obtain ⟨fuel,hf⟩:=h
 exact cells_of (y:=some (d,p)) hf rfl
end
end Go.Proofs.Ytpeeojbhfebcdaa.Th
end
section
namespace Go.Proofs.Ytpeeojbhfebcdaa.Th
open Go.ChangeShapes Go.WideShapes Go.ChangeAt Go.RowKit Go.Proofs.YtpeeojbhfebcdaaW.PrintWords
open Go.Proofs.Ytpeeojbhfebcdaa.PAll (S45 k45 k45_mk S28 k28 k28_mk)
set_option linter.unusedVariables false
set_option linter.unusedSimpArgs false
theorem list1 {cs : List Value} (h : cs.length = 1) : ∃ c0,cs = [c0]:=by
  match cs,h with
  | [c0],_ => exact ⟨c0,rfl⟩
section
variable {H : Type} {enc : TypeId × Value → H} {W : World} {base : Nat} {spare : Nat → Bool} {held : Bool}
theorem cells28 : Try.prog.cellsOf 28 = 2:=by kernel_rfl
theorem write_of {n : Nat} {cs : List Value} {y : Option (DataW H × List MemPlace)} (h : DataW.trod enc Try.prog W base spare held n 28 cs = y) (hy : y.isSome = true) : ∃ x : S28,cs = [.int .i64 x.f0,.string x.f1] ∧ x.f1.size ≤ maxLen:=by
  obtain ⟨x,rfl⟩:=Option.isSome_iff_exists.1 hy
  obtain ⟨xs,m,_,_,hcl,hlen,hx⟩:=DataW.trod_struct Try.underlying28 h
  obtain ⟨c0,c1,rfl⟩:=list2 (hcl.trans cells28)
  have h0:=hx 0 _ rfl
  change DataW.trod enc Try.prog W base spare held m 3 (([c0,c1].drop 0).take (Try.prog.cellsOf 3)) = xs[0]? at h0
  rw [cells3] at h0
  have h3:=hx 1 _ rfl
  change DataW.trod enc Try.prog W base spare held m 9 (([c0,c1].drop 1).take (Try.prog.cellsOf 9)) = xs[1]? at h3
  rw [cells9] at h3
  have hl : xs.length = 2:=hlen
  simp only [List.drop_zero,List.drop_succ_cons,List.take_succ_cons,List.take_zero] at h0 h3
  obtain ⟨a0,rfl,_⟩:=int_of Try.underlying3 h0 (by simp [hl])
  obtain ⟨z3,e3⟩:=Option.isSome_iff_exists.1 (show xs[1]?.isSome = true by simp [hl])
  obtain ⟨s3,g3,hs3⟩:=DataW.trod_string Try.underlying9 (h3.trans e3)
  simp at g3
  subst g3
  exact ⟨⟨a0,s3⟩,rfl,by first | exact hs3.2 | exact hs3 | exact hs3.1⟩
theorem writes_of {n : Nat} {c : Value} {y : Option (DataW H × List MemPlace)} (h : DataW.trod enc Try.prog W base spare held n 23 [c] = y) (hy : y.isSome = true) : ∃ (A : Option Addr) (cp : Nat) (l : List S28),c = .slice A l.length cp ∧ Kd.C k28 W A l.length l ∧ l.length ≤ cp ∧ l.length ≤ maxLen ∧ ∀ x ∈ l,x.f1.size ≤ maxLen:=by
 obtain ⟨x,rfl⟩:=Option.isSome_iff_exists.1 hy
 rcases DataW.trod_slice Try.underlying23 h with ⟨hcs,_⟩ | ⟨a,len,cap,elems,rest,m,_,hcs,_,hb,hl,hm,hlen,hel,_⟩
 ·simp at hcs
  subst hcs
  exact ⟨none,0,[],rfl,⟨rfl,by decide,fun h => absurd h (by decide)⟩,Nat.le_refl _,by decide,fun x hx => by cases hx⟩
 ·simp at hcs
  subst hcs
  rw [cells28] at hel
  obtain ⟨l,hll,hp⟩:=listed (P:=fun i (p : S28) => p.f1.size ≤ maxLen ∧ ∀ j u,[(.int .i64 p.f0 : Value),.string p.f1][j]? = some u → W.cell? (a.add (i * 2 + j)) = some u) len (fun i hi => by
   have h1:=hel i hi
   have h2 : elems[i]?.isSome = true:=by rw [List.getElem?_eq_getElem (by omega)];rfl
   rw [← h1] at h2
   rcases hc : W.cells? base (a.add (i * 2)) 2 with _ | cs
   ·rw [hc] at h2;simp at h2
   ·rw [hc,Option.bind_some] at h2
    obtain ⟨p,rfl,hps⟩:=write_of rfl h2
    refine ⟨p,hps,fun j u hu => ?_⟩
    have h3:=(World.cells?_some hc)
    have hj : j < 2:=by
     rcases Nat.lt_or_ge j 2 with h | h
     ·exact h
     ·rw [List.getElem?_eq_none (by simpa using h)] at hu;cases hu
    have h4:=h3.2.2 j hj
    rw [hu] at h4
    rw [← h4]
    exact congrArg W.cell? (Addr.add_add a (i * 2) j).symm)
  exact ⟨some a,cap,l,by rw [hll],⟨rfl,by rw [hll];exact Nat.le_trans hl hm,fun _ => ⟨a,rfl,fun j p hj => ⟨_,rfl,k28_mk W p,fun i u hu => (hp j p hj).2 i u hu⟩⟩⟩,by rw [hll];exact hl,by rw [hll];exact Nat.le_trans hl hm,
   fun x hx => by obtain ⟨j,hj,rfl⟩:=List.getElem_of_mem hx;exact (hp j _ (List.getElem?_eq_getElem hj)).1⟩
set_option maxRecDepth 100000 in
theorem writes_open {r : Reach} {b0 : Nat} {v : Value} {d : DataW H} {p : List MemPlace} (hv : Value.okWide Try.prog W r b0 23 v) (h : DataW.Trod enc Try.prog W base spare held 23 v d p) :
  ∃ (A : Option Addr) (c : Nat) (l : List S28),v = .slice A l.length c ∧ Kd.C k28 W A l.length l ∧ l.length ≤ c ∧ l.length ≤ maxLen ∧ ∀ x ∈ l,x.f1.size ≤ maxLen:=by
 obtain ⟨a,len,cap,rfl⟩:=okWide_slice (P:=Try.prog) (w:=W) (r:=r) (base:=b0) (v:=v) Try.underlying23 hv
 obtain ⟨fuel,hf⟩:=h
 exact writes_of (y:=some (d,p)) hf rfl
theorem ints_of {n : Nat} {v : Value} {y : Option (DataW H × List MemPlace)} (h : DataW.trod enc Try.prog W base spare held n 24 [v] = y) (hy : y.isSome = true) :
  ∃ (A : Option Addr) (c : Nat) (l : List Int),v = .slice A l.length c ∧ Kd.C (Kd.int .i64) W A l.length l ∧ l.length ≤ c ∧ l.length ≤ maxLen ∧ True:=by
 obtain ⟨x,rfl⟩:=Option.isSome_iff_exists.1 hy
 rcases DataW.trod_slice Try.underlying24 h with ⟨hcs,_⟩ | ⟨a,len,cap,elems,rest,m,_,hcs,_,hb,hl,hm,hlen,hel,_⟩
 ·simp at hcs
  subst hcs
  exact ⟨none,0,[],rfl,Kd.C_nil _ _,Nat.le_refl _,by decide,trivial⟩
 ·simp at hcs
  subst hcs
  rw [cells3] at hel
  obtain ⟨l,hll,hp⟩:=listed (P:=fun i (x : Int) => W.cell? (a.add i) = some (.int .i64 x)) len (fun i hi => by
   have h1:=hel i hi
   have h2 : elems[i]?.isSome = true:=by rw [List.getElem?_eq_getElem (by omega)];rfl
   rw [← h1] at h2
   rcases hc : W.cells? base (a.add (i * 1)) 1 with _ | cs
   ·rw [hc] at h2;simp at h2
   ·rw [hc,Option.bind_some] at h2
    have h3:=(World.cells?_some hc)
    obtain ⟨c0,rfl⟩:=list1 h3.2.1
    obtain ⟨x,rfl,_⟩:=int_of Try.underlying3 rfl h2
    refine ⟨x,?_⟩
    have h4:=h3.2.2 0 (by decide)
    have e : (a.add (i * 1)).add 0 = a.add i:=by rw [Nat.mul_one];simp [Addr.add]
    rw [e] at h4
    exact h4)
  refine ⟨some a,cap,l,by rw [hll],Kd.C_of_reads (d:=0) ⟨rfl,by rw [hll];exact Nat.le_trans hl hm,fun _ => ⟨a,rfl,fun j hj => ?_⟩⟩,by rw [hll];exact hl,by rw [hll];exact Nat.le_trans hl hm,trivial⟩
  have:=hp j _ (List.getElem?_eq_getElem hj)
  rw [this]
  simp [List.getD,List.getElem?_eq_getElem hj]
set_option maxRecDepth 100000 in
theorem ints_open {r : Reach} {b0 : Nat} {v : Value} {d : DataW H} {p : List MemPlace} (hv : Value.okWide Try.prog W r b0 24 v) (h : DataW.Trod enc Try.prog W base spare held 24 v d p) :
  ∃ (A : Option Addr) (c : Nat) (l : List Int),v = .slice A l.length c ∧ Kd.C (Kd.int .i64) W A l.length l ∧ l.length ≤ c ∧ l.length ≤ maxLen ∧ True:=by
 obtain ⟨a,len,cap,rfl⟩:=okWide_slice (P:=Try.prog) (w:=W) (r:=r) (base:=b0) (v:=v) Try.underlying24 hv
 obtain ⟨fuel,hf⟩:=h
 exact ints_of (y:=some (d,p)) hf rfl
end
end Go.Proofs.Ytpeeojbhfebcdaa.Th
end


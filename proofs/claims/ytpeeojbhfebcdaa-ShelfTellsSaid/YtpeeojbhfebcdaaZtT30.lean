/- Of the texts that the row stands on,what it needs (part 30),put together by a program of this session. -/
import Derived.Test.YtpeeojbhfebcdaaZtT20
import Derived.Test.YtpeeojbhfebcdaaZtT29
import Derived.Test.YtpeeojbhfebcdaaZtT28
import Derived.Deep.RegionHeld3
section
namespace Go.Proofs.Ytpeeojbhfebcdaa.PRf
open Go.RowKit Go.Proofs.YtpeeojbhfebcdaaW.PrintWords Go.Proofs.YtpeeojbhfebcdaaW.PrintLast Go.Proofs.YtpeeojbhfebcdaaW.PrintMore
open Go.Proofs.Ytpeeojbhfebcdaa.V (byI byL byL_length byL_snoc byI_plain strOf_bytesOf strOf_append okK okP okR ahK idxV idxB idxB_snoc idxB_length idxA lfT lfV lfB lfB_snoc lfA lfT_length okR_size all_at fullA fullA_k zer pad pad_length bytesOf_len chL chL_length chOk chA R2 C4 S2 kR kC kS atR atC atS zR zC zS leafE indexE C_iso C_iso_mk R_iso R_iso_mk)
set_option linter.unusedSimpArgs false
set_option linter.unusedVariables false
def kyS (l : List S2) (i : Int) : Int:=(atS l i.toNat).1
def pgS (l : List S2) (i : Int) : Int:=(atS l i.toNat).2
def idxOk (l : List S2) : Bool:=decide (l.length ≤ 21) && idxV (kyS l) (pgS l) l.length
def idxR (l : List S2) : ByteArray × Bool:=if idxOk l = true then (strOfNums (pad (idxB (kyS l) (pgS l) l.length l.length)),true) else (⟨#[]⟩,false)
theorem indexE_is (l : List S2) : indexE l = idxR l:=by
 unfold idxR idxOk indexE idxA
 show (if l.length ≤ 21 then (if idxV (kyS l) (pgS l) l.length = true then fullA (strOfNums (idxB (kyS l) (pgS l) l.length l.length)) else (⟨#[]⟩,false)) else (⟨#[]⟩,false)) = _
 by_cases h : l.length ≤ 21
 ·rw [if_pos h,decide_eq_true h,Bool.true_and]
  by_cases h2 : idxV (kyS l) (pgS l) l.length = true
  ·rw [if_pos h2,if_pos h2,fullA_k,idxB_length,if_pos (by omega)]
  ·rw [if_neg h2,if_neg h2]
 ·rw [if_neg h,decide_eq_false h];rfl
def stS (l : List S2) (j : Nat) : Bool:=okK (kyS l j) (ahK (kyS l) j) && okP (pgS l j)
theorem idxOk_iff (l : List S2) : idxOk l = true ↔ l.length ≤ 21 ∧ ∀ j,j < l.length → stS l j = true:=by
  unfold idxOk idxV
  rw [Bool.and_eq_true,decide_eq_true_eq,all_at]
  rfl
theorem ridx_step (l : List S2) (s : ByteArray) (k j : Nat) (hj : j < l.length) (hl : l.length ≤ 1000) (hp : ∀ i : Nat,i < j → okK (kyS l i) (ahK (kyS l) i) = true) :
  maquetteref13_Index.l0 (k + 1) (l.map toSl) s (j : Int) = maquetteref13_Index.j1 k (l.map toSl) s (j : Int) (!(stS l j)):=by
 have hk:=key_ahead (kyS l) j hp
 simp only [maquetteref13_Index.l0,List.length_map,rd89_map,rkey_f,rpage_f,Option.bind_some]
 unfold stS
 rw [hk,if_pos (by omega),if_pos (by omega)]
 show (if okQ (kyS l j) = true then (if okP (pgS l j) = true then _ else _) else _) = _
 cases h1 : okQ (kyS l j) with
 | false => rfl
 | true =>
  rw [if_pos rfl]
  cases h2 : okP (pgS l j) with
  | false => rw [if_neg (by decide),Bool.and_false];rfl
  | true =>
   rw [if_pos rfl]
   by_cases h3 : (j : Int) > 0
   ·have hw : wrap64 ((j : Int) - 1) = (j : Int) - 1:=by unfold wrap64;omega
    rw [if_pos h3,hw,if_pos (by omega),if_pos (by omega),decide_eq_true h3]
    show maquetteref13_Index.j1 k (l.map toSl) s (j : Int) (decide (kyS l ((j : Int) - 1) ≥ kyS l j)) = _
    cases decide (kyS l ((j : Int) - 1) ≥ kyS l j) <;> rfl
   ·rw [if_neg h3,decide_eq_false h3];rfl
theorem ridx_j1 (l : List S2) (k j : Nat) (hk : 6 ≤ k) (hj : j < l.length) (hl : l.length ≤ 21) :
  maquetteref13_Index.j1 (k + 1) (l.map toSl) (strOfNums (idxB (kyS l) (pgS l) l.length j)) (j : Int) false = maquetteref13_Index.l0 k (l.map toSl) (strOfNums (idxB (kyS l) (pgS l) l.length (j + 1))) ((j + 1 : Nat) : Int):=by
 simp only [maquetteref13_Index.j1,List.length_map,rd89_map]
 rw [if_neg (by decide),if_pos (by omega),if_pos (by omega),big_k _ 4 (by decide) 4 rfl k (by omega),Option.bind_some,if_pos (by rw [strOfNums_size,strOfNums_size,idxB_length,byL_length];omega),
  big_k _ 2 (by decide) 2 rfl k (by omega),Option.bind_some,if_pos (by rw [ByteArray.size_append,strOfNums_size,strOfNums_size,strOfNums_size,idxB_length,byL_length,byL_length];omega),
  strOf_append,strOf_append,show wrap64 ((j : Int) + 1) = ((j + 1 : Nat) : Int) from by unfold wrap64;omega,idxB_snoc,List.append_assoc]
 rfl
theorem ridx_loop (l : List S2) (hl : l.length ≤ 21) (d : Nat) : ∀ (k j : Nat),l.length - j = d → j ≤ l.length → 2 * d + 8 < k → (∀ i : Nat,i < j → stS l i = true) →
  maquetteref13_Index.l0 k (l.map toSl) (strOfNums (idxB (kyS l) (pgS l) l.length j)) (j : Int) = some (idxR l):=by
 induction d with
 | zero =>
  intro k j hd hj hk hp
  obtain ⟨k,rfl⟩ : ∃ m,k = m + 1:=⟨k - 1,by omega⟩
  have e : j = l.length:=by omega
  subst e
  simp only [maquetteref13_Index.l0]
  rw [if_neg (by rw [List.length_map];omega),fill_k _ (by rw [idxB_length];omega),Option.bind_some]
  unfold idxR
  rw [if_pos ((idxOk_iff l).2 ⟨hl,hp⟩)]
 | succ d ih =>
  intro k j hd hj hk hp
  obtain ⟨k,rfl⟩ : ∃ m,k = m + 2:=⟨k - 2,by omega⟩
  rw [ridx_step l _ (k + 1) j (by omega) (by omega) (fun i hi => by have:=hp i hi;unfold stS at this;rw [Bool.and_eq_true] at this;exact this.1)]
  cases h : stS l j with
  | false =>
   show maquetteref13_Index.j1 (k + 1) (l.map toSl) _ (j : Int) true = _
   simp only [maquetteref13_Index.j1]
   rw [if_pos trivial]
   unfold idxR
   rw [if_neg (fun h2 => by have:=((idxOk_iff l).1 h2).2 j (by omega);rw [h] at this;cases this)]
  | true =>
   show maquetteref13_Index.j1 (k + 1) (l.map toSl) _ (j : Int) false = _
   rw [ridx_j1 l k j (by omega) (by omega) hl]
   refine ih k (j + 1) (by omega) (by omega) (by omega) (fun i hi => ?_)
   by_cases hi2 : i = j
   ·rw [hi2];exact h
   ·exact hp i (by omega)
theorem ridx_k (l : List S2) (k : Nat) (hk : 60 ≤ k) : maquetteref13_Index.f k (l.map toSl) = some (indexE l):=by
 rw [indexE_is]
 unfold maquetteref13_Index.f
 rw [List.length_map]
 by_cases h : l.length ≤ 21
 ·rw [if_neg (by omega),big_k _ 1 (by decide) 1 rfl k (by omega),Option.bind_some,if_pos (by rw [strOfNums_size,byL_length];decide),lit73,strOf_append]
  have:=ridx_loop l h l.length k 0 (by omega) (by omega) (by omega) (fun i hi => by omega)
  rw [show idxB (kyS l) (pgS l) l.length 0 = [73] ++ byL (l.length : Int) 1 1 by rw [byL1];rfl] at this
  exact this
 ·rw [if_pos (by omega)]
  unfold idxR
  rw [if_neg (fun h2 => h ((idxOk_iff l).1 h2).1)]
end Go.Proofs.Ytpeeojbhfebcdaa.PRf
end
section
namespace Go.Proofs.Ytpeeojbhfebcdaa.PRf
open Go.RowKit Go.Proofs.YtpeeojbhfebcdaaW.PrintWords Go.Proofs.YtpeeojbhfebcdaaW.PrintLast Go.Proofs.YtpeeojbhfebcdaaW.PrintMore
open Go.Proofs.Ytpeeojbhfebcdaa
open Go.Proofs.YtpeeojbhfebcdaaM
open Go.Proofs.Ytpeeojbhfebcdaa.V (byI byL byL_length byL_snoc byI_plain strOf_bytesOf strOf_append okK okP okR ahK idxV idxB idxB_snoc idxB_length idxA lfT lfV lfB lfB_snoc lfA lfT_length okR_size all_at fullA fullA_k zer pad pad_length bytesOf_len chL chL_length chOk chA R2 C4 S2 kR kC kS atR atC atS zR zC zS leafE indexE C_iso C_iso_mk R_iso R_iso_mk at_R kR_mkM PS putN putS knF knS KnOut wfS put_some put_cons put_nil chainF chainsF slotsF chainsF_append chainsF_e chainF_e slotsF_e putS_e planS planC planT planZ planE lvs cellE cellOk pieces piecesF rightF mayE)
set_option linter.unusedSimpArgs false
set_option linter.unusedVariables false
theorem putS_e' {S : PS} {b : ByteArray} {is : Bool} (h : (putS S b is).e = 0) : S.e = 0:=putS_e h
theorem slotsF_append : ∀ (a b : List (List C4)) (S : PS),slotsF (a ++ b) S = ((slotsF a S).1 ++ (slotsF b (slotsF a S).2).1,(slotsF b (slotsF a S).2).2)
 | [],b,S => rfl
 | x :: t,b,S => by
  rw [List.cons_append,V.slotsF_cons,V.slotsF_cons]
  by_cases h : S.e = 0
  ·rw [if_pos h,if_pos h,slotsF_append t b];rfl
  ·rw [if_neg h,if_neg h,slotsF_append t b]
theorem chain_from (p : Int × PS) : ∀ (l : List ByteArray),((l.foldr (fun x p => (putN p.2 (chA p.1 x).1 (chA p.1 x).2,putS p.2 (chA p.1 x).1 (chA p.1 x).2)) p)).2.e = 0 → p.2.e = 0
  | [],h => h
  | x :: t,h => chain_from p t (putS_e' h)
theorem chain_drop {ps : List ByteArray} {S : PS} (k : Nat) (h : (chainF ps S).2.e = 0) : (chainF (ps.drop k) S).2.e = 0:=by
  unfold chainF at h ⊢
  rw [← List.take_append_drop k ps,List.foldr_append] at h
  exact chain_from _ _ h
theorem take_e {l : List R2} {S : PS} (i : Nat) (h : (chainsF l S).2.e = 0) : (chainsF (l.take i) S).2.e = 0:=by
  rw [← List.take_append_drop i l,chainsF_append] at h
  exact chainsF_e h
theorem z_T {l hv : List R2} {fr : List Int} (h : (planZ l hv fr).2.e = 0) : (planT l hv fr).2.e = 0:=putS_e' h
theorem z_S {l hv : List R2} {fr : List Int} (h : (planZ l hv fr).2.e = 0) : (planS l hv fr).e = 0:=slotsF_e (z_T h)
theorem e_full {l hv : List R2} {fr : List Int} (h1 : rightF (-1) l = true) (h2 : mayE (hv.map (·.1)) fr = true) (h3 : ¬ 21 < (lvs [] (l.map (cellE · 2))).length) (hz : (planZ l hv fr).2.e ≠ 0) : planE l hv fr = ([],0,8):=by
  have:=(V.plan_end h1 h2 h3).e
  have h8 : (planZ l hv fr).2.e = 8:=by rcases this with h | h;exact absurd h hz;exact h
  unfold planE
  rw [h1,h2,if_pos (show (true && true) = true from rfl),if_neg h3,if_neg hz,h8]
theorem e_ok {l hv : List R2} {fr : List Int} (h1 : rightF (-1) l = true) (h2 : mayE (hv.map (·.1)) fr = true) (h3 : ¬ 21 < (lvs [] (l.map (cellE · 2))).length) (hz : (planZ l hv fr).2.e = 0) : planE l hv fr = ((planZ l hv fr).2.out,(planZ l hv fr).1,0):=by
  unfold planE
  rw [h1,h2,if_pos (show (true && true) = true from rfl),if_neg h3,if_pos hz]
def pcs (b : ByteArray) (k : Nat) : ByteArray:=b.extract (120 * k) (min (120 * k + 120) b.size)
theorem pieces_at (n : Nat) : ∀ b : ByteArray,b.size ≤ n → piecesF n b = (List.range ((b.size + 119) / 120)).map (pcs b):=by
 induction n with
 | zero =>
  intro b hb
  have : b.size = 0:=by omega
  rw [this];rfl
 | succ n ih =>
  intro b hb
  unfold piecesF
  by_cases h0 : b.size = 0
  ·rw [if_pos h0,h0];rfl
  ·rw [if_neg h0]
   have hs : (b.extract (min b.size 120) b.size).size = b.size - min b.size 120:=by rw [ByteArray.size_extract];omega
   rw [ih _ (by rw [hs];omega),hs]
   have e1 : (b.size + 119) / 120 = (b.size - min b.size 120 + 119) / 120 + 1:=by omega
   rw [e1,List.range_succ_eq_map,List.map_cons,List.map_map]
   refine List.cons_eq_cons.2 ⟨?_,?_⟩
   ·unfold pcs
    rw [Nat.mul_zero,Nat.zero_add,Nat.min_comm]
   ·apply List.map_congr_left
    intro k hk
    have hk:=List.mem_range.1 hk
    show pcs (b.extract (min b.size 120) b.size) k = pcs b (k + 1)
    unfold pcs
    rw [hs,ByteArray.extract_extract]
    have h120 : min b.size 120 = 120:=by omega
    rw [h120]
    have a1 : 120 + 120 * k = 120 * (k + 1):=by omega
    have a2 : min (120 + min (120 * k + 120) (b.size - 120)) b.size = min (120 * (k + 1) + 120) b.size:=by omega
    rw [a1,a2]
theorem pieces_len (b : ByteArray) : (pieces b).length = (b.size + 119) / 120:=by
  unfold pieces
  rw [pieces_at b.size b (Nat.le_refl _),List.length_map,List.length_range]
theorem pieces_drop (b : ByteArray) (k : Nat) (h : k < (b.size + 119) / 120) : (pieces b).drop k = pcs b k :: (pieces b).drop (k + 1):=by
 rw [List.drop_eq_getElem_cons (by rw [pieces_len];exact h)]
 congr 1
 have : (pieces b)[k]'(by rw [pieces_len];exact h) = ((List.range ((b.size + 119) / 120)).map (pcs b))[k]'(by rw [List.length_map,List.length_range];exact h):=by
  congr 1
  exact pieces_at b.size b (Nat.le_refl _)
 rw [this,List.getElem_map,List.getElem_range]
theorem pcs_size (b : ByteArray) (k : Nat) (h : k < (b.size + 119) / 120) : 1 ≤ (pcs b k).size ∧ (pcs b k).size ≤ 120:=by
  unfold pcs
  rw [ByteArray.size_extract]
  omega
theorem chain_step (b : ByteArray) (k : Nat) (h : k < (b.size + 119) / 120) (S : PS) : chainF ((pieces b).drop k) S = (putN (chainF ((pieces b).drop (k + 1)) S).2 (chA (chainF ((pieces b).drop (k + 1)) S).1 (pcs b k)).1 (chA (chainF ((pieces b).drop (k + 1)) S).1 (pcs b k)).2,putS (chainF ((pieces b).drop (k + 1)) S).2 (chA (chainF ((pieces b).drop (k + 1)) S).1 (pcs b k)).1 (chA (chainF ((pieces b).drop (k + 1)) S).1 (pcs b k)).2):=by
  rw [pieces_drop b k h];rfl
theorem chain_all (b : ByteArray) (S : PS) : chainF ((pieces b).drop ((b.size + 119) / 120)) S = (0,S):=by
  rw [List.drop_of_length_le (Nat.le_of_eq (pieces_len b))];rfl
theorem chain_pg {b : ByteArray} {S : PS} (hS : V.PgOk S) (k : Nat) (he : (chainF ((pieces b).drop k) S).2.e = 0) : (chainF ((pieces b).drop k) S).1 = 0 ∨ okP (chainF ((pieces b).drop k) S).1 = true:=by
  have g : V.Gd S.free.length 0 S:=⟨hS,.inl ⟨chainF_e he,Nat.le_refl _⟩⟩
  refine (V.Gd.chain ((pieces b).drop k) g (fun x hx => ?_)).2 he
  have:=List.mem_of_mem_drop hx
  unfold pieces at this
  exact V.piecesF_size _ _ x this
theorem chain_is {b : ByteArray} {S : PS} (hS : V.PgOk S) (k : Nat) (h : k < (b.size + 119) / 120) (he : (chainF ((pieces b).drop (k + 1)) S).2.e = 0) : (chA (chainF ((pieces b).drop (k + 1)) S).1 (pcs b k)).2 = true :=
  V.chA_ok (chain_pg hS (k + 1) he) (pcs_size b k h).1 (pcs_size b k h).2
theorem lvs_end (y : List C4) (h : y ≠ []) : lvs y [] = [y]:=by
  cases y with
  | nil => exact absurd rfl h
  | cons a t => rfl
theorem lvs_yes {y r : List C4} {c : C4} (h : (leafE (y ++ [c])).2 = true) : lvs y (c :: r) = lvs (y ++ [c]) r:=by
  rw [lvs,if_pos h]
theorem lvs_no {y r : List C4} {c : C4} (h : (leafE (y ++ [c])).2 = false) (hc : cellOk c) : lvs y (c :: r) = y :: lvs [] (c :: r):=by
  rw [lvs,if_neg (by rw [h];decide)]
  congr 1
  rw [lvs,if_pos (by rw [List.nil_append];exact V.leaf_one hc),List.nil_append]
theorem lvs_one {r : List C4} {c : C4} (hc : cellOk c) : lvs [] (c :: r) = lvs [c] r:=by
  rw [lvs,if_pos (by rw [List.nil_append];exact V.leaf_one hc),List.nil_append]
theorem C_84 {w : World} {A : Option Addr} {n : Nat} {l : List R2} (h : Kd.C kR w A n l) : Kd.C k84 w A n (l.map toRec):=C_iso_mk (f:=fun x : S84 => (x.f0,x.f1)) (by rw [List.map_map];rw [show ((fun x : S84 => (x.f0,x.f1)) ∘ toRec) = id from rfl,List.map_id];exact h)
theorem C_91 {w : World} {A : Option Addr} {n : Nat} {l : List R2} (h : Kd.C kR w A n l) : Kd.C k91 w A n (l.map toWr):=C_iso_mk (f:=fun x : S91 => (x.f0,x.f1)) (by rw [List.map_map];rw [show ((fun x : S91 => (x.f0,x.f1)) ∘ toWr) = id from rfl,List.map_id];exact h)
theorem C_85 {w : World} {A : Option Addr} {n : Nat} {l : List C4} (h : Kd.C kC w A n l) : Kd.C k85 w A n (l.map toCe):=C_iso_mk (f:=fun x : S85 => (x.f0,x.f1,x.f2,x.f3)) (by rw [List.map_map];rw [show ((fun x : S85 => (x.f0,x.f1,x.f2,x.f3)) ∘ toCe) = id from rfl,List.map_id];exact h)
theorem C_89 {w : World} {A : Option Addr} {n : Nat} {l : List S2} (h : Kd.C kS w A n l) : Kd.C k89 w A n (l.map toSl):=C_iso_mk (f:=fun x : S89 => (x.f0,x.f1)) (by rw [List.map_map];rw [show ((fun x : S89 => (x.f0,x.f1)) ∘ toSl) = id from rfl,List.map_id];exact h)
theorem rright_any (A : Option Addr) (c : Nat) (l : List R2) (w : World) (h : Kd.C kR w A l.length l) (hc : l.length ≤ c) (hl : l.length ≤ 1000000) :
  Calls Try.prog 19 #[.slice A l.length c] w fun e w' => e = .returned (.bool (rightF (-1) l)) ∧ Below w.heap.size w w':=by
 have:=maquetteref13_RecordsRight.calls (l.length + 1) A c (l.map toRec) _ w (by rw [List.length_map];exact C_84 h) (by rw [List.length_map];exact hc) (rright_k l hl _ (by omega))
 rw [List.length_map] at this
 exact this.mono fun e w' ⟨he,hb⟩ => ⟨he,by first | exact hb | exact hb.below⟩
theorem rpages_any (A : Option Addr) (c : Nat) (hv : List R2) (D : Option Addr) (f : Nat) (fr : List Int) (w : World) (h : Kd.C kR w A hv.length hv) (hc : hv.length ≤ c) (hl : hv.length ≤ 1000000) (h2 : Kd.C (Kd.int .i64) w D fr.length fr) (hf : fr.length ≤ f) (hl2 : fr.length ≤ 1000000) :
  Calls Try.prog 33 #[.slice A hv.length c,.slice D fr.length f] w fun e w' => e = .returned (.bool (mayE (hv.map (·.1)) fr)) ∧ Below w.heap.size w w':=by
 obtain ⟨k,hk⟩:=rpages_k hv fr hl hl2
 have:=maquetteref13_pages.calls k A c (hv.map toWr) D f fr _ w (by rw [List.length_map];exact C_91 h) (by rw [List.length_map];exact hc) h2 hf hk
 rw [List.length_map] at this
 exact this.mono fun e w' ⟨he,hb⟩ => ⟨he,by first | exact hb | exact hb.below⟩
theorem rleaves_any (A : Option Addr) (c : Nat) (l : List R2) (w : World) (h : Kd.C kR w A l.length l) (hc : l.length ≤ c) (hl : l.length ≤ 1000000) (hr : rightF (-1) l = true) :
  Calls Try.prog 34 #[.slice A l.length c] w fun e w' => e = .returned (.int .i64 ((lvs [] (l.map (cellE · 2))).length : Nat)) ∧ Below w.heap.size w w':=by
 have:=maquetteref13_leaves.calls (l.length + 1) A c (l.map toRec) _ w (by rw [List.length_map];exact C_84 h) (by rw [List.length_map];exact hc) (rleaves_k l hl hr _ (by omega))
 rw [List.length_map] at this
 exact this.mono fun e w' ⟨he,hb⟩ => ⟨he,by first | exact hb | exact hb.below⟩
theorem rchain_any (nx : Int) (b : ByteArray) (w : World) : Calls Try.prog 35 #[.int .i64 nx,.string b] w fun e w' => e = .returned (.tuple #[.string (chA nx b).1,.bool (chA nx b).2]) ∧ Below w.heap.size w w':=maquetteref13_Chain.calls 12 nx b _ _ w (rchain_k nx b 12 (by decide))
theorem rleaf_any (A : Option Addr) (c : Nat) (l : List C4) (w : World) (h : Kd.C kC w A l.length l) (hc : l.length ≤ c) :
  Calls Try.prog 37 #[.slice A l.length c] w fun e w' => e = .returned (.tuple #[.string (leafE l).1,.bool (leafE l).2]) ∧ Below w.heap.size w w':=by
 have:=maquetteref13_Leaf.calls 420 A c (l.map toCe) _ _ w (by rw [List.length_map];exact C_85 h) (by rw [List.length_map];exact hc) (rleaf_k l 420 (by decide))
 rw [List.length_map] at this
 exact this
theorem rindex_any (A : Option Addr) (c : Nat) (l : List S2) (w : World) (h : Kd.C kS w A l.length l) (hc : l.length ≤ c) :
  Calls Try.prog 38 #[.slice A l.length c] w fun e w' => e = .returned (.tuple #[.string (indexE l).1,.bool (indexE l).2]) ∧ Below w.heap.size w w':=by
 have:=maquetteref13_Index.calls 60 A c (l.map toSl) _ _ w (by rw [List.length_map];exact C_89 h) (by rw [List.length_map];exact hc) (ridx_k l 60 (by decide))
 rw [List.length_map] at this
 exact this
end Go.Proofs.Ytpeeojbhfebcdaa.PRf
end
section
namespace Go.Proofs.Ytpeeojbhfebcdaa.PRf
open Go.RowKit Go.Proofs.YtpeeojbhfebcdaaW.PrintWords Go.Proofs.YtpeeojbhfebcdaaW.PrintLast Go.Proofs.YtpeeojbhfebcdaaW.PrintMore
open Go.Proofs.Ytpeeojbhfebcdaa
open Go.Proofs.YtpeeojbhfebcdaaM
open Go.Proofs.Ytpeeojbhfebcdaa.V (byI byL byL_length byL_snoc byI_plain strOf_bytesOf strOf_append okK okP okR ahK idxV idxB idxB_snoc idxB_length idxA lfT lfV lfB lfB_snoc lfA lfT_length okR_size all_at fullA fullA_k zer pad pad_length bytesOf_len chL chL_length chOk chA R2 C4 S2 kR kC kS atR atC atS zR zC zS leafE indexE C_iso C_iso_mk R_iso R_iso_mk at_R kR_mkM PS putN putS knF knS KnOut wfS put_some put_cons put_nil chainF chainsF slotsF chainsF_append chainsF_e chainF_e slotsF_e putS_e planS planC planT planZ planE lvs cellE cellOk pieces piecesF rightF mayE rightF_mem)
set_option linter.unusedSimpArgs false
set_option linter.unusedVariables false
theorem info85 : (Try.prog.info? 85).map (fun i => (i.zero,i.size,i.bytes)) = some (some (.agg #[(.int .i64 0),(.int .i64 0),(.int .i64 0),(.string ⟨#[]⟩)]),4,40):=by kernel_rfl
theorem info89 : (Try.prog.info? 89).map (fun i => (i.zero,i.size,i.bytes)) = some (some (.agg #[(.int .i64 0),(.int .i64 0)]),2,16):=by kernel_rfl
def KX (X : TypeId) (w w1 : World) : Prop:=w.heap.size ≤ w1.heap.size ∧ ∀ (k : Nat) (c : Array Value) (t : TypeId),t ≠ X → w.heap[k]? = some (Obj.cells c t (0,0)) → w1.heap[k]? = some (Obj.cells c t (0,0))
theorem KX.below {X : TypeId} {w w1 : World} (h : Below w.heap.size w w1) : KX X w w1:=⟨h.size,fun k c t _ hb => (h.block k (blk_lt hb)).trans hb⟩
theorem KX.row {α : Type} {d : Kd α} {X : TypeId} {w w1 : World} {b : Nat} {ok : Nat → Prop} {v : Value} {xs : List α} (hr : d.R X w b ok v xs) (h : w.grownBy w1 v.ownBlock) : KX X w w1:=⟨h.size,fun k c t ht hb => (h.block k (blk_lt hb) (Kd.R_ne hr hb (Ne.symm ht))).trans hb⟩
theorem KX.set {X : TypeId} {w : World} {g j : Nat} {v : Value} {cs : Array Value} (hg : w.heap[g]? = some (.cells cs X (0,0))) : KX X w (w.setCell ⟨g,j,none⟩ v):=⟨by simp [World.setCell],fun k c t ht hb => (Below.heap_setCell w ⟨g,j,none⟩ v k (by
  rintro rfl
  rw [hg] at hb
  injection hb with hb
  injection hb with _ hb
  exact ht hb.symm)).trans hb⟩
theorem KX.R {α : Type} {d : Kd α} {X e : TypeId} {w w1 : World} {base : Nat} {ok : Nat → Prop} {v : Value} {xs : List α} (h : KX X w w1) (hr : d.R e w base ok v xs) (ht : ∀ q,q ∈ e :: d.E → q ≠ X) : d.R e w1 base ok v xs :=
 Kd.R_mono (Kd.R_move (Kd.R_bound hr) (fun k hk => by
  obtain ⟨_,_,_,q,hq,cells,hc⟩:=hk
  rw [h.2 k cells q (ht q hq) hc,hc])) (fun _ h => h.1)
theorem kR_E : ∀ q,q ∈ (91 : TypeId) :: kR.E → q = 91:=by intro q hq;simp [kR,Kd.pair,Kd.int,Kd.string,Kd.scalar] at hq;exact hq
theorem kC_E : ∀ q,q ∈ (85 : TypeId) :: kC.E → q = 85:=by intro q hq;simp [kC,Kd.pair,Kd.int,Kd.string,Kd.scalar] at hq;exact hq
theorem kS_E : ∀ q,q ∈ (89 : TypeId) :: kS.E → q = 89:=by intro q hq;simp [kS,Kd.pair,Kd.int,Kd.string,Kd.scalar] at hq;exact hq
theorem IsD.kx {X : TypeId} {w0 w w1 : World} {g : Nat} {hv : List R2} {S : PS} {fl : Bool} (h : IsD w0 w g hv S fl) (hk : KX X w w1) (hX : X ≠ 91) (hX2 : X ≠ 82) (hb : Below w0.heap.size w0 w1) : IsD w0 w1 g hv S fl:=by
  obtain ⟨B,d,A,c,v,h1,h2,h3,h4,h5,h6,h7,h8⟩:=h
  exact ⟨B,d,A,c,v,hk.2 g _ 82 (Ne.symm hX2) h1,h2,h3,h4,h5,h6,hk.R h7 (fun q hq => by rw [kR_E q hq];exact Ne.symm hX),hb⟩
theorem IsD.step {w0 w w1 : World} {g : Nat} {hv : List R2} {S : PS} {fl : Bool} (h : IsD w0 w g hv S fl) (hb : Below w.heap.size w w1) : IsD w0 w1 g hv S fl :=
  h.kx (X:=85) (KX.below hb) (by decide) (by decide) (below_step h.bel hb)
theorem IsD.drew {w0 w : World} {g : Nat} {hv : List R2} {S : PS} {fl : Bool} (h : IsD w0 w g hv S fl) : IsD w0 w.drew g hv S fl:=h.step (below_drew1 (Below.refl _ _))
theorem IsD.flag {w0 w : World} {g : Nat} {hv : List R2} {S : PS} {fl : Bool} (h : IsD w0 w g hv S fl) : w.cell? ⟨g,3,none⟩ = some (.bool fl):=by
  obtain ⟨_,_,_,_,_,h1,_⟩:=h
  exact (cell82 h1).2.2.2
theorem IsD.new {w0 w : World} {hv : List R2} {fr : List Int} {B D : Option Addr} {d f : Nat} (hb : Below w0.heap.size w0 w) (h3 : Kd.C kR w0 B hv.length hv) (h4 : hv.length ≤ d) (h5 : Kd.C (Kd.int .i64) w0 D fr.length fr) (h6 : fr.length ≤ f) :
  IsD w0 (w.alloc (.cells #[.slice B hv.length d,.slice none 0 0,.slice D fr.length f,.bool false] 82)) w.heap.size hv ⟨knF hv,fr,[],0⟩ false :=
 ⟨B,d,D,f,.slice none 0 0,heap_alloc_new w _,hb.size,h3,h4,h5,h6,Kd.R_nil _ _ _ _ _,below_alloc hb _⟩
theorem chainsF_pg2 : ∀ (l : List R2) {S : PS},V.PgOk S → V.PgOk (chainsF l S).2
 | [],S,h => h
 | r :: t,S,h => by
  rw [V.chainsF_cons]
  split
  ·exact chainsF_pg2 t (V.chainF_pg _ h)
  ·exact chainsF_pg2 t h
theorem cell85 {w : World} {g : Nat} {a b c d : Value} (h : w.heap[g]? = some (.cells #[a,b,c,d] 85 (0,0))) :
  w.cell? ⟨g,0,none⟩ = some a ∧ w.cell? ⟨g,1,none⟩ = some b ∧ w.cell? ⟨g,2,none⟩ = some c ∧ w.cell? ⟨g,3,none⟩ = some d :=
 ⟨(blk_cell h 0).trans rfl,(blk_cell h 1).trans rfl,(blk_cell h 2).trans rfl,(blk_cell h 3).trans rfl⟩
theorem chunk_call {W : World} {A1 : Option Addr} {c1 : Nat} {cs : List C4} (hC : Kd.C kC W A1 cs.length cs) (hc : cs.length ≤ c1) (hl : cs.length ≤ 9000) (lo hi : Nat) (h1 : lo ≤ hi) (h2 : hi ≤ cs.length) :
  ∃ A2 q,(∀ W' : World,(Instr.slice 83 (.slice A1 cs.length c1) (some (.int .i64 (lo : Int))) (some (.int .i64 (hi : Int))) none).run Try.prog W' = .ok (.slice A2 q (c1 - lo)) W') ∧ ∀ W2 : World,Below W.heap.size W W2 → Calls Try.prog 37 #[.slice A2 q (c1 - lo)] W2 fun e w' => e = .returned (.tuple #[.string (leafE ((cs.take hi).drop lo)).1,.bool (leafE ((cs.take hi).drop lo)).2]) ∧ Below W2.heap.size W2 w':=by
 obtain ⟨i0,hi0,hz0⟩:=Option.map_eq_some_iff.1 info85
 have hsz0 : i0.size = 4:=by simp only [Prod.mk.injEq] at hz0;exact hz0.2.1
 have hcut:=cut_mid (P:=Try.prog) 83 85 .i64 .i64 Try.underlying83 hi0 4 hsz0 A1 cs.length c1 (lo : Int) (hi : Int) (by omega) (by omega) (by omega) hc
 rw [Int.toNat_natCast,Int.toNat_natCast] at hcut
 have hmid:=Kd.C_mid hC h1 h2 hc
 have hln : ((cs.take hi).drop lo).length = hi - lo:=V.take_drop_len h1 h2
 refine ⟨_,_,hcut,fun W2 hb => ?_⟩
 have:=rleaf_any _ (c1 - lo) ((cs.take hi).drop lo) W2 (Kd.C_below hmid hb) (by rw [hln];omega)
 rw [hln] at this
 exact this
theorem take_cons_drop {cs : List C4} {i : Nat} (h : i < cs.length) : (cs.take (i + 1)).drop i = [cs[i]]:=by
  rw [List.take_succ_eq_append_getElem h,List.drop_append_of_le_length (by rw [List.length_take];omega),List.drop_of_length_le (by rw [List.length_take];omega)];rfl
theorem take_more {cs : List C4} {i k : Nat} (h : k < cs.length) (hi : i ≤ k) : (cs.take (k + 1)).drop i = (cs.take k).drop i ++ [cs[k]]:=by
  rw [List.take_succ_eq_append_getElem h,List.drop_append_of_le_length (by rw [List.length_take];omega)]
theorem chunk_head {cs : List C4} {i k : Nat} (h : i < k) (hk : k ≤ cs.length) : atC ((cs.take k).drop i) 0 = atC cs i:=by
  unfold atC
  simp only [List.getD,List.getElem?_drop,List.getElem?_take]
  rw [Nat.add_zero,if_pos h]
theorem lvs_nil {r : List C4} (h : (lvs [] r).length = 0) (ho : ∀ x ∈ r,cellOk x) : r = []:=by
 cases r with
 | nil => rfl
 | cons c t =>
  rw [lvs_one (ho c (List.mem_cons_self ..))] at h
  have hne : ∀ (t y : List C4),y ≠ [] → (lvs y t).length ≠ 0:=by
   intro t
   induction t with
   | nil => intro y hy;rw [lvs_end y hy];simp
   | cons a t ih =>
    intro y hy
    rw [lvs]
    split
    ·exact ih _ (by simp)
    ·simp
  exact absurd h (hne t [c] (by simp))
theorem full_at {l hv : List R2} {fr : List Int} {done : List (List C4)} {y : List C4} {r : List (List C4)} (hd : lvs [] (planC l hv fr) = done ++ y :: r) (hy : (leafE y).2 = true) (hT : (slotsF done (planS l hv fr)).2.e = 0) (hz : (planZ l hv fr).2.e = 0) : (putS (slotsF done (planS l hv fr)).2 (leafE y).1 true).e = 0:=by
  have h1:=z_T hz
  unfold planT at h1
  rw [hd,slotsF_append] at h1
  have h1 : (slotsF (y :: r) (slotsF done (planS l hv fr)).2).2.e = 0:=h1
  rw [V.slotsF_cons,if_pos hT,hy] at h1
  exact slotsF_e h1
theorem slots_one {done : List (List C4)} {y : List C4} {S : PS} (hT : (slotsF done S).2.e = 0) (hy : (leafE y).2 = true) : slotsF (done ++ [y]) S = ((slotsF done S).1 ++ [((atC y 0).1,putN (slotsF done S).2 (leafE y).1 true)],putS (slotsF done S).2 (leafE y).1 true):=by
  rw [slotsF_append,V.slotsF_cons,if_pos hT,hy];rfl
theorem slotsF_len : ∀ (l : List (List C4)) (S : PS),(slotsF l S).1.length ≤ l.length
 | [],_ => Nat.le_refl _
 | x :: t,S => by
  rw [V.slotsF_cons]
  split
  ·have:=slotsF_len t (putS S (leafE x).1 (leafE x).2)
   rw [List.length_cons,List.length_cons];omega
  ·have:=slotsF_len t S
   rw [List.length_cons];omega
theorem index_is {l hv : List R2} {fr : List Int} (h1 : rightF (-1) l = true) (h2 : mayE (hv.map (·.1)) fr = true) (h3 : ¬ 21 < (lvs [] (l.map (cellE · 2))).length) (hT : (planT l hv fr).2.e = 0) : (indexE (planT l hv fr).1).2 = true:=by
 cases h : (indexE (planT l hv fr).1).2 with
 | true => rfl
 | false =>
  have h8:=(V.plan_end h1 h2 h3).e
  unfold planZ at h8
  rw [h] at h8
  have h9 : (putS (planT l hv fr).2 (indexE (planT l hv fr).1).1 false).e = 9:=by unfold putS;rw [if_pos hT];rfl
  rcases h8 with h8 | h8
  ·have h8 : (putS (planT l hv fr).2 (indexE (planT l hv fr).1).1 false).e = 0:=h8
   rw [h9] at h8;cases h8
  ·have h8 : (putS (planT l hv fr).2 (indexE (planT l hv fr).1).1 false).e = 8:=h8
   rw [h9] at h8;cases h8
theorem take_out (l : List R2) (S : PS) (hr : ∀ r ∈ l,r.2.size ≤ 900) (i : Nat) : (chainsF (l.take i) S).2.out.length ≤ S.out.length + 8 * l.length:=by
  have:=V.chainsF_out (l.take i) S (fun r h => hr r (List.mem_of_mem_take h))
  have h2 : (l.take i).length ≤ l.length:=by rw [List.length_take];omega
  omega
theorem take_step (l : List R2) (S : PS) (i : Nat) (hi : i < l.length) : chainsF (l.take (i + 1)) S = ((chainsF (l.take i) S).1 ++ (chainsF [atR l i] (chainsF (l.take i) S).2).1,(chainsF [atR l i] (chainsF (l.take i) S).2).2):=by
  rw [List.take_succ_eq_append_getElem hi,chainsF_append,atR_at hi]
attribute [local go_sem] max2_int min2_int max_two min_two max_three min_three max_four min_four
set_option maxHeartbeats 32000000 in
set_option maxRecDepth 100000 in
theorem rplan_any (w : World) (A : Option Addr) (c : Nat) (l : List R2) (B : Option Addr) (d : Nat) (hv : List R2) (D : Option Addr) (f : Nat) (fr : List Int)
  (h : Kd.C kR w A l.length l) (hc : l.length ≤ c) (hl : l.length ≤ 9000)
  (h2 : Kd.C kR w B hv.length hv) (hd : hv.length ≤ d) (hl2 : hv.length ≤ 10000)
  (h3 : Kd.C (Kd.int .i64) w D fr.length fr) (hf : fr.length ≤ f) (hl3 : fr.length ≤ 10000) :
  Calls Try.prog 13 #[.slice A l.length c,.slice B hv.length d,.slice D fr.length f] w fun e w' => ∃ v,e = .returned (.tuple #[v,.int .i64 (planE l hv fr).2.1,.int .i64 (planE l hv fr).2.2]) ∧ kR.R 91 w' w.heap.size (fun _ => True) v (planE l hv fr).1 ∧ Below w.heap.size w w':=by
 have HA:=Aside0.mk h
 have hri:=rright_any A c l w h hc (by omega)
 have hpa:=fun (W : World) (hb : Below w.heap.size w W) => rpages_any B d hv D f fr W (Kd.C_below h2 hb) hd (by omega) (Kd.C_below h3 hb) hf (by omega)
 have hlv:=fun (W : World) (hb : Below w.heap.size w W) (hr : rightF (-1) l = true) => rleaves_any A c l W (Kd.C_below h hb) hc (by omega) hr
 have hnw:=fun (W : World) (hb : Below w.heap.size w W) => IsD.new hb h2 hd h3 hf
 obtain ⟨res,hres⟩ : ∃ r,r = planE l hv fr:=⟨_,rfl⟩
 rw [← hres]
 have HRES:=Aside0.mk hres
 obtain ⟨n,hn⟩ : ∃ n,n = l.length:=⟨_,rfl⟩
 obtain ⟨nh,hnh⟩ : ∃ n,n = hv.length:=⟨_,rfl⟩
 obtain ⟨nf,hnf⟩ : ∃ n,n = fr.length:=⟨_,rfl⟩
 rw [← hn] at hri hlv hl ⊢
 rw [← hnh] at hpa hnw hl2 ⊢
 rw [← hnf] at hpa hnw ⊢
 have HN:=Aside0.mk hn
 have HNH:=Aside0.mk hnh
 have HL:=Aside0.mk hl
 have HL2:=Aside0.mk hl2
 clear h h2 h3 hc hd hf hl hl2 hl3 hres hn hnh hnf
 obtain ⟨rb,hrb⟩ : ∃ b,b = rightF (-1) l:=⟨_,rfl⟩
 obtain ⟨mb,hmb⟩ : ∃ b,b = mayE (hv.map (·.1)) fr:=⟨_,rfl⟩
 rw [← hrb] at hri hlv
 rw [← hmb] at hpa
 have HRT:=Aside0.mk hrb
 have HMY:=Aside0.mk hmb
 have HRI:=Aside0.mk hri
 have HPA:=Aside0.mk hpa
 have HLV:=Aside0.mk hlv
 have HNW:=Aside0.mk hnw
 clear hri hpa hlv hnw hrb hmb
 have HB:=Aside0.mk (Below.refl w.heap.size w)
 cases rb with
 | false =>
  have HE:=Aside0.mk (show res = ([],0,9) by rw [HRES.out];unfold planE;rw [← HRT.out];rfl)
  go_enter Try.func13,Try.ntmps13
  go_wp2_with (first | (go_at_call 19;(with_reducible refine (HRI.out).mono ?_);rintro e w1 ⟨rfl,hb⟩;have HB1:=Aside0.mk (below_step HB.out hb);clear HB;have HB:=HB1;clear HB1 hb))
  go_ret3
  exact ⟨_,by rw [HE.out];rfl,by rw [HE.out];exact Kd.R_nil _ _ _ _ _,HB.out⟩
 | true =>
 cases mb with
 | false =>
  have HE:=Aside0.mk (show res = ([],0,9) by rw [HRES.out];unfold planE;rw [← HRT.out,← HMY.out];rfl)
  go_enter Try.func13,Try.ntmps13
  go_wp2_with (first
   | (go_at_call 19;(with_reducible refine (HRI.out).mono ?_);rintro e w1 ⟨rfl,hb⟩;have HB1:=Aside0.mk (below_step HB.out hb);clear HB;have HB:=HB1;clear HB1 hb)
   | (go_at_call 33;(with_reducible refine (HPA.out _ HB.out).mono ?_);rintro e w1 ⟨rfl,hb⟩;have HB1:=Aside0.mk (below_step HB.out hb);clear HB;have HB:=HB1;clear HB1 hb))
  go_ret3
  exact ⟨_,by rw [HE.out];rfl,by rw [HE.out];exact Kd.R_nil _ _ _ _ _,HB.out⟩
 | true =>
 obtain ⟨m,hm⟩ : ∃ m,m = (lvs [] (l.map (cellE · 2))).length:=⟨_,rfl⟩
 have hlv:=fun (W : World) (hb : Below w.heap.size w W) => HLV.out W hb rfl
 rw [← hm] at hlv
 clear HLV
 have HLV:=Aside0.mk hlv
 have HM:=Aside0.mk hm
 clear hlv hm
 by_cases h21 : 21 < m
 case pos =>
  have d3 : decide ((21 : Int) < (m : Int)) = true:=decide_eq_true (by omega)
  have d4 : decide (21 < m) = true:=decide_eq_true h21
  have HE:=Aside0.mk (show res = ([],0,12) by rw [HRES.out];unfold planE;rw [← HRT.out,← HMY.out,if_pos (show (true && true) = true from rfl),if_pos (by rw [← HM.out];exact h21)])
  clear h21
  go_enter Try.func13,Try.ntmps13
  go_wp2_with (first
   | (go_at_call 19;(with_reducible refine (HRI.out).mono ?_);rintro e w1 ⟨rfl,hb⟩;have HB1:=Aside0.mk (below_step HB.out hb);clear HB;have HB:=HB1;clear HB1 hb)
   | (go_at_call 33;(with_reducible refine (HPA.out _ HB.out).mono ?_);rintro e w1 ⟨rfl,hb⟩;have HB1:=Aside0.mk (below_step HB.out hb);clear HB;have HB:=HB1;clear HB1 hb)
   | (go_at_call 34;(with_reducible refine (HLV.out _ HB.out).mono ?_);rintro e w1 ⟨rfl,hb⟩;have HB1:=Aside0.mk (below_step HB.out hb);clear HB;have HB:=HB1;clear HB1 hb))
  go_ret3
  exact ⟨_,by rw [HE.out];rfl,by rw [HE.out];exact Kd.R_nil _ _ _ _ _,HB.out⟩
 case neg =>
 have d3 : decide ((21 : Int) < (m : Int)) = false:=decide_eq_false (by omega)
 have d4 : decide (21 < m) = false:=decide_eq_false h21
 have H21:=Aside0.mk (show ¬ 21 < (lvs [] (l.map (cellE · 2))).length by rw [← HM.out];exact h21)
 have HFULL:=Aside0.mk (show (planZ l hv fr).2.e ≠ 0 → res = ([],0,8) from fun hz => by rw [HRES.out];exact e_full HRT.out.symm HMY.out.symm H21.out hz)
 have HEOK:=Aside0.mk (show (planZ l hv fr).2.e = 0 → res = ((planZ l hv fr).2.out,(planZ l hv fr).1,0) from fun hz => by rw [HRES.out];exact e_ok HRT.out.symm HMY.out.symm H21.out hz)
 have HRM:=Aside0.mk (rightF_mem l (-1) (by omega) HRT.out.symm)
 have HPG:=Aside0.mk (show V.PgOk (⟨knF hv,fr,[],0⟩ : PS) from ⟨V.knF_pg (fun x hx => (V.mayE_pg HMY.out.symm).1 _ (List.mem_map_of_mem hx)),(V.mayE_pg HMY.out.symm).2⟩)
 clear h21
 obtain ⟨S0,hS0⟩ : ∃ S : PS,S = ⟨knF hv,fr,[],0⟩:=⟨_,rfl⟩
 have HKN0:=Aside0.mk (show KnOut hv S0 by rw [hS0];unfold KnOut;rw [List.append_nil])
 have HS0:=Aside0.mk hS0
 have hnw:=HNW.out
 rw [← hS0] at hnw HPG
 clear HNW
 have HNW:=Aside0.mk hnw
 have HSE:=Aside0.mk (show S0.e = 0 ∧ S0.out = [] by rw [hS0];exact ⟨rfl,rfl⟩)
 clear hnw hS0
 go_enter Try.func13,Try.ntmps13
 go_upto_region 5 with (first
   | (go_at_call 19;(with_reducible refine (HRI.out).mono ?_);rintro e w1 ⟨rfl,hb⟩;have HB1:=Aside0.mk (below_step HB.out hb);clear HB;have HB:=HB1;clear HB1 hb)
   | (go_at_call 33;(with_reducible refine (HPA.out _ HB.out).mono ?_);rintro e w1 ⟨rfl,hb⟩;have HB1:=Aside0.mk (below_step HB.out hb);clear HB;have HB:=HB1;clear HB1 hb)
   | (go_at_call 34;(with_reducible refine (HLV.out _ HB.out).mono ?_);rintro e w34 ⟨rfl,hb⟩;have HB1:=Aside0.mk (below_step HB.out hb);clear HB;have HB:=HB1;clear HB1 hb))
 clear HRI HPA HLV d3 d4
 go_upto_region 8 with (fail)
 have HD:=Aside0.mk (HNW.out _ HB.out)
 obtain ⟨wa,hwa⟩ : ∃ x,x = w34.alloc (Obj.cells #[.slice B nh d,.slice none 0 0,.slice D nf f,.bool false] 82):=⟨_,rfl⟩
 rw [← hwa] at HD ⊢
 obtain ⟨g,hg⟩ : ∃ x,x = w34.heap.size:=⟨_,rfl⟩
 rw [← hg] at HD ⊢
 clear hwa hg HNW HB
 go_loopg [10,11] n (fun kq v10 v11 W => ∃ i : Int,v11 = .int .i64 i ∧ Aside0 (0 ≤ i ∧ i + kq = n) ∧ Aside0 ((chainsF (l.take i.toNat) S0).2.e = 0) ∧ Aside0 (IsD w W g hv (chainsF (l.take i.toNat) S0).2 false) ∧ Aside0 (kC.R 85 W w.heap.size (fun _ => True) v10 (chainsF (l.take i.toNat) S0).1))
 case atStart => exact ⟨0,rfl,⟨by omega⟩,⟨HSE.out.1⟩,HD,⟨Kd.R_nil _ _ _ _ _⟩⟩
 case round =>
  clear HD
  obtain ⟨i,rfl,HI,HE,HD,HR⟩:=hrel
  cases gk with
  | zero =>
   have hi : i = (n : Int):=by have:=HI.out;omega
   subst hi
   have c0_ : decide ((n : Int) < (n : Int)) = false:=decide_eq_false (by omega)
   have c0b : decide (n < n) = false:=decide_eq_false (by omega)
   have htk : l.take ((n : Int)).toNat = l:=by rw [Int.toNat_natCast,HN.out];exact List.take_length
   rw [htk] at HE HD HR
   have hok:=V.chainsF_ok l S0 HPG.out HRM.out HE.out
   have hkin:=V.chainsF_kin l S0 (-1) HRT.out.symm
   have hcl : (chainsF l S0).1.length = n:=by rw [V.chainsF_length,HN.out]
   have hpg:=chainsF_pg2 l HPG.out
   have hkn:=V.chainsF_kn l HKN0.out
   have hol:=take_out l S0 (fun r hr => (HRM.out r hr).2.2) l.length
   rw [List.take_length] at hol
   have HPC:=Aside0.mk (show planC l hv fr = (chainsF l S0).1 by rw [HS0.out];rfl)
   have HPS:=Aside0.mk (show planS l hv fr = (chainsF l S0).2 by rw [HS0.out];rfl)
   obtain ⟨S,hS⟩ : ∃ S,S = (chainsF l S0).2:=⟨_,rfl⟩
   obtain ⟨cs,hcs⟩ : ∃ S,S = (chainsF l S0).1:=⟨_,rfl⟩
   rw [← hS] at HE HD HPS hpg hkn hol
   rw [← hcs] at HR HPC hok hkin hcl
   obtain ⟨A1,c1,e1⟩:=Kd.R_slice HR.out
   rw [hcl] at e1
   subst e1
   have HOK:=Aside0.mk hok
   have HKIN:=Aside0.mk hkin
   have HCL:=Aside0.mk hcl
   have HPGS:=Aside0.mk hpg
   have HKN:=Aside0.mk hkn
   have HOL:=Aside0.mk (show S.out.length ≤ 80000 by have:=HSE.out.2;rw [this] at hol;have:=HL.out;have:=HN.out;simp at hol;omega)
   obtain ⟨nl,hnl⟩ : ∃ q,q = (lvs [] cs).length:=⟨_,rfl⟩
   have HNL:=Aside0.mk hnl
   clear hS hcs hok hkin hcl hpg hkn hol htk hnl HI
   go_wp2_with (fail)
   go_loopg [17,18] nl (fun kq v17 v18 W => ∃ (i : Nat) (done : List (List C4)),v18 = .int .i64 (i : Int) ∧ Aside0 (i ≤ n ∧ (lvs [] (cs.drop i)).length = kq) ∧ Aside0 (done ++ lvs [] (cs.drop i) = lvs [] cs) ∧ Aside0 ((slotsF done S).2.e = 0) ∧ Aside0 (IsD w W g hv (slotsF done S).2 false) ∧ Aside0 (kS.R 89 W w.heap.size (fun _ => True) v17 (slotsF done S).1) ∧ Aside0 (kC.R 85 W w.heap.size (fun _ => True) (.slice A1 n c1) cs))
   case atStart => exact ⟨0,[],rfl,⟨by omega,HNL.out.symm⟩,⟨rfl⟩,HE,HD,⟨Kd.R_nil _ _ _ _ _⟩,HR⟩
   case round =>
    clear HE HD HR c0_ c0b
    obtain ⟨i,done,rfl,HI,HX,HTE,HD,HRS,HRW⟩:=hrel
    cases gk with
    | zero =>
     have hdr : cs.drop i = []:=lvs_nil HI.out.2 (fun x hx => HOK.out x (List.mem_of_mem_drop hx))
     have hin : i = n:=by
      have:=congrArg List.length hdr
      rw [List.length_drop,List.length_nil,HCL.out] at this
      have:=HI.out.1;omega
     subst hin
     have c0_ : decide ((i : Int) < (i : Int)) = false:=decide_eq_false (by omega)
     have c0b : decide (i < i) = false:=decide_eq_false (by omega)
     have hX:=HX.out
     rw [hdr,show lvs [] [] = [] from rfl,List.append_nil] at hX
     have hPT : planT l hv fr = slotsF done S:=by unfold planT;rw [HPC.out,HPS.out,← hX]
     obtain ⟨T,hT⟩ : ∃ T,T = (slotsF done S).2:=⟨_,rfl⟩
     obtain ⟨sl,hsl⟩ : ∃ T,T = (slotsF done S).1:=⟨_,rfl⟩
     have hPT1 : (planT l hv fr).1 = sl:=by rw [hPT,hsl]
     have hPT2 : (planT l hv fr).2 = T:=by rw [hPT,hT]
     have hknT : KnOut hv T:=by rw [hT];exact V.slotsF_kn _ HKN.out
     have hoT : T.out.length ≤ 100000:=by
      rw [hT]
      have h1:=V.slotsF_out done S
      have h2:=V.lvs_length cs []
      rw [← hX,HCL.out] at h2
      have:=HOL.out;have:=HL.out;omega
     rw [← hT] at HTE HD
     rw [← hsl] at HRS
     have hixo : (indexE sl).2 = true:=by rw [← hPT1];exact index_is HRT.out.symm HMY.out.symm H21.out (by rw [hPT2];exact HTE.out)
     obtain ⟨A4,c4,e4⟩:=Kd.R_slice HRS.out
     subst e4
     have hix:=fun (W : World) (hb : Below wr.heap.size wr W) => rindex_any A4 c4 sl W (Kd.C_below (Kd.R_reads' HRS.out).2.2 hb) (Kd.R_reads' HRS.out).2.1
     obtain ⟨bs,hbs⟩ : ∃ x,x = (indexE sl).1:=⟨_,rfl⟩
     obtain ⟨ns,hns⟩ : ∃ x,x = sl.length:=⟨_,rfl⟩
     rw [hixo,← hbs,← hns] at hix
     rw [← hns]
     have HIX:=Aside0.mk hix
     have HPZ1:=Aside0.mk (show (planZ l hv fr).1 = putN T bs true by unfold planZ;rw [hPT1,hPT2,hixo,← hbs])
     have HPZ2:=Aside0.mk (show (planZ l hv fr).2 = putS T bs true by unfold planZ;rw [hPT1,hPT2,hixo,← hbs])
     have hpage:=fun (W : World) (hd : IsD w W g hv T false) => rpage_any hd hknT HTE.out bs hoT (by have:=HL2.out;have:=HNH.out;omega)
     clear hdr hX hPT hT hsl hPT1 hPT2 hixo hix hbs hns hknT hoT
     by_cases hpe : (putS T bs true).e = 0
     case neg =>
      have hp2 : ∀ W : World,IsD w W g hv T false → Calls Try.prog 36 #[.pointer (some ⟨g,0,none⟩),.string bs] W fun e w' => (∃ n : Int,e = .returned (.int .i64 n)) ∧ IsD w w' g hv T true:=fun W hd => (hpage W hd).mono fun e w' ⟨n,h1,h2,h3⟩ => ⟨⟨n,h1⟩,by
       rcases h2 with h2 | h2
       ·exact absurd h2.1 hpe
       ·exact h2.2⟩
      have HP2:=Aside0.mk hp2
      have HE8:=Aside0.mk (show res = ([],0,8) from HFULL.out (by rw [HPZ2.out];exact hpe))
      clear hpage hp2 hpe
      go_upto_region 38 with (first
       | (go_at_call 38;go_must (with_reducible refine (HIX.out _ (Below.refl _ _)).mono ?_);rintro e w2 ⟨rfl,hb⟩;have n1_:=Aside0.mk (HD.out.step hb);clear HD hb;have HD:=n1_;clear n1_)
       | (go_at_call 36;go_must (with_reducible refine (HP2.out _ HD.out).mono ?_);rintro e w3 ⟨⟨n2,rfl⟩,hd⟩;have HD2:=Aside0.mk hd;clear hd))
      have fl:=HD2.out.flag
      go_wp2
      go_ret3
      exact ⟨_,by rw [HE8.out];rfl,by rw [HE8.out];exact Kd.R_nil _ _ _ _ _,HD2.out.bel⟩
     case pos =>
      have hp2 : ∀ W : World,IsD w W g hv T false → Calls Try.prog 36 #[.pointer (some ⟨g,0,none⟩),.string bs] W fun e w' => e = .returned (.int .i64 (putN T bs true)) ∧ IsD w w' g hv (putS T bs true) false:=fun W hd => (hpage W hd).mono fun e w' ⟨n,h1,h2,h3⟩ => by
       rcases h2 with h2 | h2
       ·exact ⟨by rw [h1,h2.2.1],h2.2.2⟩
       ·exact absurd hpe h2.1
      have HEK:=Aside0.mk (show res = ((putS T bs true).out,putN T bs true,0) by rw [HEOK.out (by rw [HPZ2.out];exact hpe),HPZ1.out,HPZ2.out])
      obtain ⟨pn,hpn⟩ : ∃ x,x = putN T bs true:=⟨_,rfl⟩
      rw [← hpn] at HEK hp2
      have HP2:=Aside0.mk hp2
      clear hpage hp2 hpe hpn
      go_upto_region 38 with (first
       | (go_at_call 38;go_must (with_reducible refine (HIX.out _ (Below.refl _ _)).mono ?_);rintro e w2 ⟨rfl,hb⟩;have n1_:=Aside0.mk (HD.out.step hb);clear HD hb;have HD:=n1_;clear n1_)
       | (go_at_call 36;go_must (with_reducible refine (HP2.out _ HD.out).mono ?_);rintro e w3 ⟨rfl,hd⟩;have HD2:=Aside0.mk hd;clear hd))
      obtain ⟨B5,d5,A5,c5,v5,g1,g2,g3,g4,g5,g6,g7,g8⟩:=HD2.out
      obtain ⟨t0,t1,t2,t3⟩:=cell82 g1
      have HG7:=Aside0.mk g7
      have HG8:=Aside0.mk g8
      clear g1 g2 g3 g4 g5 g6 g7 g8
      go_wp2
      go_ret3
      exact ⟨_,by rw [HEK.out];rfl,by rw [HEK.out];exact HG7.out,HG8.out⟩
    | succ gk2 =>
     have hdn : cs.drop i ≠ []:=fun h => by have:=HI.out.2;rw [h] at this;cases this
     have hin : i < n:=by
      by_cases h : i < n
      ·exact h
      ·exact absurd (List.drop_of_length_le (by rw [HCL.out];omega)) hdn
     have HIN:=Aside0.mk hin
     have c0_ : decide ((i : Int) < (n : Int)) = true:=decide_eq_true (by omega)
     have c0b : decide (i < n) = true:=decide_eq_true hin
     have hic : i < cs.length:=by rw [HCL.out];exact hin
     have h0 : lvs [] (cs.drop i) = lvs ((cs.take (i + 1)).drop i) (cs.drop (i + 1)):=by
      rw [take_cons_drop hic,List.drop_eq_getElem_cons hic]
      exact lvs_one (HOK.out _ (List.getElem_mem hic))
     have h1 : (leafE ((cs.take (i + 1)).drop i)).2 = true:=by
      rw [take_cons_drop hic]
      exact V.leaf_one (HOK.out _ (List.getElem_mem hic))
     have HH0:=Aside0.mk h0
     have HH1:=Aside0.mk h1
     have HTD:=HTE
     clear h0 h1 hic hdn HTE
     go_wp2_with (fail)
     go_loopg [19] (n - (i + 1)) (fun kq v19 W => ∃ k : Nat,v19 = .int .i64 (k : Int) ∧ Aside0 (i < k ∧ k + kq = n) ∧ Aside0 (lvs [] (cs.drop i) = lvs ((cs.take k).drop i) (cs.drop k)) ∧ Aside0 ((leafE ((cs.take k).drop i)).2 = true) ∧ Aside0 (IsD w W g hv (slotsF done S).2 false) ∧ Aside0 (kS.R 89 W w.heap.size (fun _ => True) u17 (slotsF done S).1) ∧ Aside0 (kC.R 85 W w.heap.size (fun _ => True) (.slice A1 n c1) cs))
     case atStart => exact ⟨i + 1,by rw [show wrap64 ((i : Int) + 1) = ((i + 1 : Nat) : Int) from by have:=HL.out;rw [wrap64_id (by omega) (by omega)];omega],⟨by omega⟩,HH0,HH1,HD,HRS,HRW⟩
     case round =>
      clear HD HRS HRW HH0 HH1 c0_ c0b
      obtain ⟨k,rfl,HK,HLV2,HLF,HD,HRS,HRW⟩:=hrel
      cases gk with
      | zero =>
       have hkn : k = n:=by have:=HK.out;omega
       have d7 : decide ((k : Int) < (n : Int)) = false:=decide_eq_false (by omega)
       have d7b : decide (k < n) = false:=decide_eq_false (by omega)
       have HCONT:=Aside0.mk (show lvs [] (cs.drop i) = (cs.take k).drop i :: lvs [] (cs.drop k) by
        rw [HLV2.out,List.drop_of_length_le (show cs.length ≤ k by rw [HCL.out];omega),lvs_end _ (fun h => by
         have:=congrArg List.length h
         rw [V.take_drop_len (by have:=HK.out;omega) (by rw [HCL.out];omega),List.length_nil] at this
         have:=HK.out;omega)];rfl)
       clear HLV2 hkn
       obtain ⟨A3,q3,hrun3,hcal3⟩:=chunk_call (Kd.R_reads' (show kC.R 85 _ w.heap.size (fun _ => True) (.slice A1 cs.length c1) cs by rw [HCL.out];exact HRW.out)).2.2 (Kd.R_reads' (show kC.R 85 _ w.heap.size (fun _ => True) (.slice A1 cs.length c1) cs by rw [HCL.out];exact HRW.out)).2.1 (by have:=HL.out;rw [HCL.out];exact this) i k (by have:=HK.out;omega) (by rw [HCL.out];have:=HK.out;omega)
       rw [HCL.out] at hrun3
       have hk0 : (cs.take k).drop i ≠ []:=by
        intro h
        have:=congrArg List.length h
        rw [V.take_drop_len (by have:=HK.out;omega) (by rw [HCL.out];have:=HK.out;omega),List.length_nil] at this
        have:=HK.out;omega
       have hhd:=chunk_head (cs:=cs) (i:=i) (k:=k) (by have:=HK.out;omega) (by rw [HCL.out];have:=HK.out;omega)
       obtain ⟨y,hy⟩ : ∃ y,y = (cs.take k).drop i:=⟨_,rfl⟩
       rw [← hy] at hcal3 HLF HCONT hhd
       rw [HLF.out] at hcal3
       have hso:=slots_one (y:=y) (S:=S) HTD.out HLF.out
       have hfa : (planZ l hv fr).2.e = 0 → (putS (slotsF done S).2 (leafE y).1 true).e = 0:=fun hz => by
        have h1:=full_at (l:=l) (hv:=hv) (fr:=fr) (done:=done) (y:=y) (r:=lvs [] (cs.drop k)) (by rw [HPC.out,← HX.out,HCONT.out]) HLF.out (by rw [HPS.out];exact HTD.out) hz
        rw [HPS.out] at h1;exact h1
       obtain ⟨bs,hbs⟩ : ∃ x,x = (leafE y).1:=⟨_,rfl⟩
       rw [← hbs] at hcal3 hso hfa
       have hknT : KnOut hv (slotsF done S).2:=V.slotsF_kn _ HKN.out
       have hdl : done.length ≤ n + 1:=by
        have h2:=V.lvs_length cs []
        rw [← HX.out,List.length_append,HCL.out] at h2
        omega
       have hoT : (slotsF done S).2.out.length ≤ 100000:=by
        have h1:=V.slotsF_out done S
        have:=HOL.out;have:=HL.out;omega
       have hslen : (slotsF done S).1.length ≤ 100000:=by
        have h1:=slotsF_len done S
        have:=HL.out;omega
       obtain ⟨T,hT⟩ : ∃ T,T = (slotsF done S).2:=⟨_,rfl⟩
       obtain ⟨sl,hsl⟩ : ∃ T,T = (slotsF done S).1:=⟨_,rfl⟩
       rw [← hT] at hso hfa hknT hoT HD HTD
       rw [← hsl] at hso HRS hslen
       rw [hhd] at hso
       have hpage:=fun (W : World) (hd : IsD w W g hv T false) => rpage_any hd hknT HTD.out bs hoT (by have:=HL2.out;have:=HNH.out;omega)
       have HC3:=Aside0.mk hcal3
       have HSO:=Aside0.mk hso
       clear hcal3 hso hk0 hhd hy hbs hknT hdl hoT hT hsl
       by_cases hpe : (putS T bs true).e = 0
       case neg =>
        have hp2 : ∀ W : World,IsD w W g hv T false → Calls Try.prog 36 #[.pointer (some ⟨g,0,none⟩),.string bs] W fun e w' => (∃ n : Int,e = .returned (.int .i64 n)) ∧ IsD w w' g hv T true:=fun W hd => (hpage W hd).mono fun e w' ⟨n,h1,h2,h3⟩ => ⟨⟨n,h1⟩,by
         rcases h2 with h2 | h2
         ·exact absurd h2.1 hpe
         ·exact h2.2⟩
        have HP2:=Aside0.mk hp2
        have HE8:=Aside0.mk (show res = ([],0,8) from HFULL.out (fun hz => hpe (hfa hz)))
        clear hpage hp2 hpe hfa hslen
        go_upto_region 32 with (first
         | (go_at_call 37;go_must (with_reducible refine (HC3.out _ (Below.refl _ _)).mono ?_);rintro e w5 ⟨rfl,hb⟩;have n1_:=Aside0.mk (HD.out.step hb);clear HD hb;have HD:=n1_;clear n1_)
         | (go_at_call 36;go_must (with_reducible refine (HP2.out _ HD.out).mono ?_);rintro e w6 ⟨⟨n2,rfl⟩,hd⟩;have HD2:=Aside0.mk hd;clear hd))
        have fl:=HD2.out.flag
        go_wp2
        go_ret3
        exact ⟨_,by rw [HE8.out];rfl,by rw [HE8.out];exact Kd.R_nil _ _ _ _ _,HD2.out.bel⟩
       case pos =>
        have hp2 : ∀ W : World,IsD w W g hv T false → Calls Try.prog 36 #[.pointer (some ⟨g,0,none⟩),.string bs] W fun e w' => e = .returned (.int .i64 (putN T bs true)) ∧ IsD w w' g hv (putS T bs true) false ∧ Kw W w' g:=fun W hd => (hpage W hd).mono fun e w' ⟨n,h1,h2,h3⟩ => by
         rcases h2 with h2 | h2
         ·exact ⟨by rw [h1,h2.2.1],h2.2.2,h3⟩
         ·exact absurd hpe h2.1
        have HPE:=Aside0.mk hpe
        obtain ⟨pn,hpn⟩ : ∃ x,x = putN T bs true:=⟨_,rfl⟩
        rw [← hpn] at HSO hp2
        have HP2:=Aside0.mk hp2
        have HSL:=Aside0.mk hslen
        clear hpage hp2 hpe hfa hpn hslen
        go_upto_region 32 with (first
         | (go_at_call 37;go_must (with_reducible refine (HC3.out _ (Below.refl _ _)).mono ?_);rintro e w5 ⟨rfl,hb⟩;have n1_:=Aside0.mk (HD.out.step hb);have n2_:=Aside0.mk (Kd.R_below HRS.out hb);have n3_:=Aside0.mk (Kd.R_below HRW.out hb);clear HD HRS HRW hb;have HD:=n1_;have HRS:=n2_;have HRW:=n3_;clear n1_ n2_ n3_)
         | (go_at_call 36;go_must (with_reducible refine (HP2.out _ HD.out).mono ?_);rintro e w6 ⟨rfl,hd,hk⟩;have HD2:=Aside0.mk hd;have n2_:=Aside0.mk (hk.R HD.out.blk.choose_spec HRS.out (fun q hq => by rw [kS_E q hq];exact ⟨by decide,by decide⟩));have n3_:=Aside0.mk (hk.R HD.out.blk.choose_spec HRW.out (fun q hq => by rw [kC_E q hq];exact ⟨by decide,by decide⟩));clear HRS HRW hd hk;have HRS:=n2_;have HRW:=n3_;clear n2_ n3_))
        have fl:=HD2.out.flag
        obtain ⟨ad9,e9,w0_,w1_,w2_,w3_⟩:=V.at_C (Kd.R_reads' HRW.out).2.2 i (by rw [HCL.out];have:=HK.out;omega)
        subst e9
        have r0 : (i < n) = True:=eq_true (by have:=HK.out;omega)
        have r1 : ((i : Int) < (n : Int)) = True:=eq_true (by have:=HK.out;omega)
        have r2 : (0 ≤ (i : Int)) = True:=eq_true (by omega)
        obtain ⟨ky,hky⟩ : ∃ x,x = (atC cs i).1:=⟨_,rfl⟩
        rw [← hky] at w0_ HSO
        clear hky w1_ w2_ w3_
        have hsl9:=HSL.out
        go_wp2_with (first
         | ((with_reducible refine gate_builtin (b:=.append) (xs:=#[.tmp 142,.tmp 150]) rfl ?_);at_builtin;go_must (refine Kd.R_append kS w.heap.size rfl (.tmp 142) (.tmp 150) 87 89 (.agg #[(.int .i64 0),(.int .i64 0)]) 16 rfl Try.underlying87 info89 rfl (by decide) (by omega) _ sl (ky,pn) [.int .i64 ky,.int .i64 pn] (fun _ => True) (fun _ => False) rfl rfl (V.kS_mkM _ _ _ (ky,pn)) (fun _ hk => hk.elim) (fun _ _ => trivial) HRS.out HD2.out.bel HD2.out.bel.size (by omega) ?_);intro v7_ w7_ ho_ hb_ hg_ hat_;have HR7:=Aside0.mk ho_;have HD7:=Aside0.mk (HD2.out.kx (KX.row HRS.out hg_) (by decide) (by decide) hb_);have HW7:=Aside0.mk ((KX.row HRS.out hg_).R HRW.out (fun q hq => by rw [kC_E q hq];decide));clear ho_ hb_ hg_ hat_))
        go_roundg gk2
        case measure => omega
        case rel => exact ⟨k,done ++ [y],by first | rfl | go_num,⟨by have:=HK.out;omega,by have h9:=HI.out.2;rw [HCONT.out,List.length_cons] at h9;omega⟩,⟨by rw [List.append_assoc,List.singleton_append,← HCONT.out];exact HX.out⟩,⟨by rw [HSO.out];exact HPE.out⟩,⟨by rw [HSO.out];exact HD7.out⟩,⟨by rw [HSO.out];exact HR7.out⟩,HW7⟩
      | succ gk3 =>
       have hkn : k < n:=by have:=HK.out;omega
       have d7 : decide ((k : Int) < (n : Int)) = true:=decide_eq_true (by omega)
       have d7b : decide (k < n) = true:=decide_eq_true hkn
       have hkc : k < cs.length:=by rw [HCL.out];exact hkn
       obtain ⟨A2,q2,hrun,hcal⟩:=chunk_call (Kd.R_reads' (show kC.R 85 _ w.heap.size (fun _ => True) (.slice A1 cs.length c1) cs by rw [HCL.out];exact HRW.out)).2.2 (Kd.R_reads' (show kC.R 85 _ w.heap.size (fun _ => True) (.slice A1 cs.length c1) cs by rw [HCL.out];exact HRW.out)).2.1 (by have:=HL.out;rw [HCL.out];exact this) i (k + 1) (by have:=HK.out;omega) (by omega)
       rw [HCL.out] at hrun
       obtain ⟨k1,hk1⟩ : ∃ z : Int,z = ((k + 1 : Nat) : Int):=⟨_,rfl⟩
       rw [← hk1] at hrun
       have u2 : wrap64 ((k : Int) + 1) = k1:=by have:=HL.out;rw [hk1,wrap64_id (by omega) (by omega)];omega
       have u3 : IntKind.i64.wrap ((k : Int) + 1) = k1:=(i64_w _).trans u2
       have HK1:=Aside0.mk hk1
       clear hk1
       have hdc:=List.drop_eq_getElem_cons hkc
       have htm:=take_more hkc (show i ≤ k by have:=HK.out;omega)
       have hokc:=HOK.out _ (List.getElem_mem hkc)
       cases hb : (leafE ((cs.take (k + 1)).drop i)).2 with
       | true =>
        have HLF2:=Aside0.mk hb
        have HLV3:=Aside0.mk (show lvs [] (cs.drop i) = lvs ((cs.take (k + 1)).drop i) (cs.drop (k + 1)) by
         rw [HLV2.out,hdc,htm]
         exact lvs_yes (by rw [← htm];exact hb))
        rw [hb] at hcal
        have HCAL:=Aside0.mk hcal
        clear hb hcal hdc htm hokc hkc hkn
        go_wp2_with (first
         | (go_at_call 37;go_must (with_reducible refine (HCAL.out _ (Below.refl _ _)).mono ?_);rintro e w5 ⟨rfl,hb⟩;have n1_:=Aside0.mk (HD.out.step hb);have n2_:=Aside0.mk (Kd.R_below HRS.out hb);have n3_:=Aside0.mk (Kd.R_below HRW.out hb);clear HD HRS HRW hb;have HD:=n1_;have HRS:=n2_;have HRW:=n3_;clear n1_ n2_ n3_))
        go_roundg gk3
        case measure => omega
        case rel => exact ⟨k + 1,by first | rfl | (rw [u2,HK1.out]) | (rw [HK1.out]) | go_num,⟨by have:=HK.out;omega⟩,HLV3,HLF2,HD,HRS,HRW⟩
       | false =>
        have HCONT:=Aside0.mk (show lvs [] (cs.drop i) = (cs.take k).drop i :: lvs [] (cs.drop k) by
         rw [HLV2.out,hdc]
         exact lvs_no (by rw [← htm];exact hb) hokc)
        rw [hb] at hcal
        have HCAL:=Aside0.mk hcal
        clear hb hcal hdc htm hokc hkc hkn HLV2
        go_upto_region 30 with (first
         | (go_at_call 37;go_must (with_reducible refine (HCAL.out _ (Below.refl _ _)).mono ?_);rintro e w5 ⟨rfl,hb⟩;have n1_:=Aside0.mk (HD.out.step hb);have n2_:=Aside0.mk (Kd.R_below HRS.out hb);have n3_:=Aside0.mk (Kd.R_below HRW.out hb);clear HD HRS HRW hb;have HD:=n1_;have HRS:=n2_;have HRW:=n3_;clear n1_ n2_ n3_))
        clear hrun HCAL
        obtain ⟨A3,q3,hrun3,hcal3⟩:=chunk_call (Kd.R_reads' (show kC.R 85 _ w.heap.size (fun _ => True) (.slice A1 cs.length c1) cs by rw [HCL.out];exact HRW.out)).2.2 (Kd.R_reads' (show kC.R 85 _ w.heap.size (fun _ => True) (.slice A1 cs.length c1) cs by rw [HCL.out];exact HRW.out)).2.1 (by have:=HL.out;rw [HCL.out];exact this) i k (by have:=HK.out;omega) (by rw [HCL.out];have:=HK.out;omega)
        rw [HCL.out] at hrun3
        have hk0 : (cs.take k).drop i ≠ []:=by
         intro h
         have:=congrArg List.length h
         rw [V.take_drop_len (by have:=HK.out;omega) (by rw [HCL.out];have:=HK.out;omega),List.length_nil] at this
         have:=HK.out;omega
        have hhd:=chunk_head (cs:=cs) (i:=i) (k:=k) (by have:=HK.out;omega) (by rw [HCL.out];have:=HK.out;omega)
        obtain ⟨y,hy⟩ : ∃ y,y = (cs.take k).drop i:=⟨_,rfl⟩
        rw [← hy] at hcal3 HLF HCONT hhd
        rw [HLF.out] at hcal3
        have hso:=slots_one (y:=y) (S:=S) HTD.out HLF.out
        have hfa : (planZ l hv fr).2.e = 0 → (putS (slotsF done S).2 (leafE y).1 true).e = 0:=fun hz => by
         have h1:=full_at (l:=l) (hv:=hv) (fr:=fr) (done:=done) (y:=y) (r:=lvs [] (cs.drop k)) (by rw [HPC.out,← HX.out,HCONT.out]) HLF.out (by rw [HPS.out];exact HTD.out) hz
         rw [HPS.out] at h1;exact h1
        obtain ⟨bs,hbs⟩ : ∃ x,x = (leafE y).1:=⟨_,rfl⟩
        rw [← hbs] at hcal3 hso hfa
        have hknT : KnOut hv (slotsF done S).2:=V.slotsF_kn _ HKN.out
        have hdl : done.length ≤ n + 1:=by
         have h2:=V.lvs_length cs []
         rw [← HX.out,List.length_append,HCL.out] at h2
         omega
        have hoT : (slotsF done S).2.out.length ≤ 100000:=by
         have h1:=V.slotsF_out done S
         have:=HOL.out;have:=HL.out;omega
        have hslen : (slotsF done S).1.length ≤ 100000:=by
         have h1:=slotsF_len done S
         have:=HL.out;omega
        obtain ⟨T,hT⟩ : ∃ T,T = (slotsF done S).2:=⟨_,rfl⟩
        obtain ⟨sl,hsl⟩ : ∃ T,T = (slotsF done S).1:=⟨_,rfl⟩
        rw [← hT] at hso hfa hknT hoT HD HTD
        rw [← hsl] at hso HRS hslen
        rw [hhd] at hso
        have hpage:=fun (W : World) (hd : IsD w W g hv T false) => rpage_any hd hknT HTD.out bs hoT (by have:=HL2.out;have:=HNH.out;omega)
        have HC3:=Aside0.mk hcal3
        have HSO:=Aside0.mk hso
        clear hcal3 hso hk0 hhd hy hbs hknT hdl hoT hT hsl
        by_cases hpe : (putS T bs true).e = 0
        case neg =>
         have hp2 : ∀ W : World,IsD w W g hv T false → Calls Try.prog 36 #[.pointer (some ⟨g,0,none⟩),.string bs] W fun e w' => (∃ n : Int,e = .returned (.int .i64 n)) ∧ IsD w w' g hv T true:=fun W hd => (hpage W hd).mono fun e w' ⟨n,h1,h2,h3⟩ => ⟨⟨n,h1⟩,by
          rcases h2 with h2 | h2
          ·exact absurd h2.1 hpe
          ·exact h2.2⟩
         have HP2:=Aside0.mk hp2
         have HE8:=Aside0.mk (show res = ([],0,8) from HFULL.out (fun hz => hpe (hfa hz)))
         clear hpage hp2 hpe hfa hslen
         go_upto_region 32 with (first
          | (go_at_call 37;go_must (with_reducible refine (HC3.out _ (Below.refl _ _)).mono ?_);rintro e w5 ⟨rfl,hb⟩;have n1_:=Aside0.mk (HD.out.step hb);clear HD hb;have HD:=n1_;clear n1_)
          | (go_at_call 36;go_must (with_reducible refine (HP2.out _ HD.out).mono ?_);rintro e w6 ⟨⟨n2,rfl⟩,hd⟩;have HD2:=Aside0.mk hd;clear hd))
         have fl:=HD2.out.flag
         go_wp2
         go_ret3
         exact ⟨_,by rw [HE8.out];rfl,by rw [HE8.out];exact Kd.R_nil _ _ _ _ _,HD2.out.bel⟩
        case pos =>
         have hp2 : ∀ W : World,IsD w W g hv T false → Calls Try.prog 36 #[.pointer (some ⟨g,0,none⟩),.string bs] W fun e w' => e = .returned (.int .i64 (putN T bs true)) ∧ IsD w w' g hv (putS T bs true) false ∧ Kw W w' g:=fun W hd => (hpage W hd).mono fun e w' ⟨n,h1,h2,h3⟩ => by
          rcases h2 with h2 | h2
          ·exact ⟨by rw [h1,h2.2.1],h2.2.2,h3⟩
          ·exact absurd hpe h2.1
         have HPE:=Aside0.mk hpe
         obtain ⟨pn,hpn⟩ : ∃ x,x = putN T bs true:=⟨_,rfl⟩
         rw [← hpn] at HSO hp2
         have HP2:=Aside0.mk hp2
         have HSL:=Aside0.mk hslen
         clear hpage hp2 hpe hfa hpn hslen
         go_upto_region 32 with (first
          | (go_at_call 37;go_must (with_reducible refine (HC3.out _ (Below.refl _ _)).mono ?_);rintro e w5 ⟨rfl,hb⟩;have n1_:=Aside0.mk (HD.out.step hb);have n2_:=Aside0.mk (Kd.R_below HRS.out hb);have n3_:=Aside0.mk (Kd.R_below HRW.out hb);clear HD HRS HRW hb;have HD:=n1_;have HRS:=n2_;have HRW:=n3_;clear n1_ n2_ n3_)
          | (go_at_call 36;go_must (with_reducible refine (HP2.out _ HD.out).mono ?_);rintro e w6 ⟨rfl,hd,hk⟩;have HD2:=Aside0.mk hd;have n2_:=Aside0.mk (hk.R HD.out.blk.choose_spec HRS.out (fun q hq => by rw [kS_E q hq];exact ⟨by decide,by decide⟩));have n3_:=Aside0.mk (hk.R HD.out.blk.choose_spec HRW.out (fun q hq => by rw [kC_E q hq];exact ⟨by decide,by decide⟩));clear HRS HRW hd hk;have HRS:=n2_;have HRW:=n3_;clear n2_ n3_))
         have fl:=HD2.out.flag
         obtain ⟨ad9,e9,w0_,w1_,w2_,w3_⟩:=V.at_C (Kd.R_reads' HRW.out).2.2 i (by rw [HCL.out];have:=HK.out;omega)
         subst e9
         have r0 : (i < n) = True:=eq_true (by have:=HK.out;omega)
         have r1 : ((i : Int) < (n : Int)) = True:=eq_true (by have:=HK.out;omega)
         have r2 : (0 ≤ (i : Int)) = True:=eq_true (by omega)
         obtain ⟨ky,hky⟩ : ∃ x,x = (atC cs i).1:=⟨_,rfl⟩
         rw [← hky] at w0_ HSO
         clear hky w1_ w2_ w3_
         have hsl9:=HSL.out
         go_wp2_with (first
          | ((with_reducible refine gate_builtin (b:=.append) (xs:=#[.tmp 142,.tmp 150]) rfl ?_);at_builtin;go_must (refine Kd.R_append kS w.heap.size rfl (.tmp 142) (.tmp 150) 87 89 (.agg #[(.int .i64 0),(.int .i64 0)]) 16 rfl Try.underlying87 info89 rfl (by decide) (by omega) _ sl (ky,pn) [.int .i64 ky,.int .i64 pn] (fun _ => True) (fun _ => False) rfl rfl (V.kS_mkM _ _ _ (ky,pn)) (fun _ hk => hk.elim) (fun _ _ => trivial) HRS.out HD2.out.bel HD2.out.bel.size (by omega) ?_);intro v7_ w7_ ho_ hb_ hg_ hat_;have HR7:=Aside0.mk ho_;have HD7:=Aside0.mk (HD2.out.kx (KX.row HRS.out hg_) (by decide) (by decide) hb_);have HW7:=Aside0.mk ((KX.row HRS.out hg_).R HRW.out (fun q hq => by rw [kC_E q hq];decide));clear ho_ hb_ hg_ hat_))
         go_roundg gk2
         case measure => omega
         case rel => exact ⟨k,done ++ [y],by first | rfl | go_num,⟨by have:=HK.out;omega,by have h9:=HI.out.2;rw [HCONT.out,List.length_cons] at h9;omega⟩,⟨by rw [List.append_assoc,List.singleton_append,← HCONT.out];exact HX.out⟩,⟨by rw [HSO.out];exact HPE.out⟩,⟨by rw [HSO.out];exact HD7.out⟩,⟨by rw [HSO.out];exact HR7.out⟩,HW7⟩
  | succ gk1 =>
   have hi : 0 ≤ i ∧ i < (n : Int):=by have:=HI.out;omega
   have hil : i.toNat < l.length:=by have:=HN.out;omega
   have c0_ : decide (i < (n : Int)) = true:=decide_eq_true hi.2
   obtain ⟨ad,e,hx0,hx1⟩:=at_R HA.out i.toNat hil
   cases e
   replace hx0:=(HD.out.bel.cell (World.block_lt_of_cell? w _ hx0)).trans hx0
   replace hx1:=(HD.out.bel.cell (World.block_lt_of_cell? w _ hx1)).trans hx1
   have p0 : (0 ≤ i) = True:=eq_true hi.1
   have p1 : (i < (n : Int)) = True:=eq_true hi.2
   have hst:=take_step l S0 i.toNat hil
   have hxs:=HRM.out (atR l i.toNat) (atR_mem.2 ⟨_,hil,rfl⟩)
   have hol:=take_out l S0 (fun r hr => (HRM.out r hr).2.2) i.toNat
   have hcl : (chainsF (l.take i.toNat) S0).1.length = i.toNat:=by rw [V.chainsF_length,List.length_take];omega
   have hpg:=chainsF_pg2 (l.take i.toNat) HPG.out
   obtain ⟨S,hS⟩ : ∃ S,S = (chainsF (l.take i.toNat) S0).2:=⟨_,rfl⟩
   obtain ⟨cs,hcs⟩ : ∃ S,S = (chainsF (l.take i.toNat) S0).1:=⟨_,rfl⟩
   have hkn:=V.chainsF_kn (l.take i.toNat) HKN0.out
   rw [← hS] at HE HD hst hol hkn hpg
   rw [← hcs] at HR hst hcl
   obtain ⟨x,hx⟩ : ∃ x,x = atR l i.toNat:=⟨_,rfl⟩
   rw [← hx] at hx0 hx1 hst hxs
   obtain ⟨x0,x1⟩:=x
   simp only [] at hx0 hx1 hxs
   have HST:=Aside0.mk hst
   have HXS:=Aside0.mk hxs
   have HOL:=Aside0.mk (show S.out.length ≤ 80000 by have:=HSE.out.2;rw [this] at hol;have:=HL.out;have:=HN.out;simp at hol;omega)
   have HCL:=Aside0.mk hcl
   have HKN:=Aside0.mk hkn
   have HPS:=Aside0.mk hpg
   have HIL:=Aside0.mk hil
   have hcl9 : cs.length ≤ 9000:=by have:=HL.out;have:=HN.out;omega
   clear hx hS hcs hst hxs hol hcl hkn hpg hil hi
   by_cases h24 : 24 < x1.size
   case neg =>
    have d1 : decide ((24 : Int) < (x1.size : Int)) = false:=decide_eq_false (by omega)
    have d2 : decide (24 < x1.size) = false:=decide_eq_false h24
    have hce : cellE (x0,x1) 2 = (x0,(x1.size : Int),0,x1):=by unfold cellE;rw [if_pos (show x1.size ≤ 24 by omega)]
    have HCH:=Aside0.mk (show chainsF [(x0,x1)] S = ([(x0,(x1.size : Int),0,x1)],S) by rw [V.chainsF_cons,if_neg h24,hce];rfl)
    have HDA:=Aside0.mk (HD.out.step (below_alloc (Below.refl _ _) (Obj.cells #[.int .i64 x0,.int .i64 (x1.size : Int),.int .i64 0,.string x1] 85)))
    have HRA:=Aside0.mk (Kd.R_alloc (Kd.R_mono (Kd.R_bound HR.out) (fun k hk => (show k ≠ wr.heap.size from by
     obtain ⟨_,_,_,q,hq,cells,hc⟩:=hk
     have:=blk_lt hc;omega))) (Obj.cells #[.int .i64 x0,.int .i64 (x1.size : Int),.int .i64 0,.string x1] 85))
    have HBX:=Aside0.mk (heap_alloc_new wr (Obj.cells #[.int .i64 x0,.int .i64 (x1.size : Int),.int .i64 0,.string x1] 85))
    go_upto_region 12 with (fail)
    obtain ⟨wB,hwB⟩ : ∃ x,x = wr.alloc (Obj.cells #[.int .i64 x0,.int .i64 (x1.size : Int),.int .i64 0,.string x1] 85):=⟨_,rfl⟩
    rw [← hwB] at HDA HRA HBX ⊢
    have HGB:=Aside0.mk (show w.heap.size ≤ wr.heap.size from HD.out.bel.size)
    obtain ⟨gb,hgb⟩ : ∃ x,x = wr.heap.size:=⟨_,rfl⟩
    rw [← hgb] at HRA HBX HGB ⊢
    clear hwB hgb hx0 hx1
    obtain ⟨z0,z1,z2,z3⟩:=cell85 HBX.out
    clear h24 hce HD HR
    go_wp2_with (first
     | ((with_reducible refine gate_builtin (b:=.append) (xs:=#[.tmp 100,.tmp 102]) rfl ?_);at_builtin;go_must (refine Kd.R_append kC w.heap.size rfl (.tmp 100) (.tmp 102) 83 85 (.agg #[(.int .i64 0),(.int .i64 0),(.int .i64 0),(.string ⟨#[]⟩)]) 40 rfl Try.underlying83 info85 rfl (by decide) (by omega) _ cs (x0,(x1.size : Int),0,x1) [.int .i64 x0,.int .i64 (x1.size : Int),.int .i64 0,.string x1] (fun _ => True) (fun _ => False) rfl rfl (V.kC_mkM _ _ _ (x0,(x1.size : Int),0,x1)) (fun _ hk => hk.elim) (fun _ _ => trivial) (Kd.R_mono HRA.out (fun _ _ => trivial)) HDA.out.bel HDA.out.bel.size (by omega) ?_);intro v5_ w5_ ho_ hb_ hg_ hat_;have HR5:=Aside0.mk ho_;have HD5:=Aside0.mk (HDA.out.kx (KX.row HRA.out hg_) (by decide) (by decide) hb_);clear ho_ hb_ hg_ hat_))
    go_roundg gk1
    case measure => omega
    case rel => exact ⟨wrap64 (i + 1),by first | rfl | (simp;done) | (simp [*];done),⟨by have:=HI.out;have:=of_eq_true p1;have:=HL.out;rw [wrap64_id (by omega) (by omega)];omega⟩,⟨by
     have h9:=HI.out;have h8:=HL.out
     rw [wrap64_id (by omega) (by omega),show (i + 1).toNat = i.toNat + 1 by omega,HST.out,HCH.out];exact HE.out⟩,⟨by
     have h9:=HI.out;have h8:=HL.out
     rw [wrap64_id (by omega) (by omega),show (i + 1).toNat = i.toNat + 1 by omega,HST.out,HCH.out];exact HD5.out⟩,⟨by
     have h9:=HI.out;have h8:=HL.out
     rw [wrap64_id (by omega) (by omega),show (i + 1).toNat = i.toNat + 1 by omega,HST.out,HCH.out];exact HR5.out⟩⟩
   case pos =>
    have d1 : decide ((24 : Int) < (x1.size : Int)) = true:=decide_eq_true (by omega)
    have d2 : decide (24 < x1.size) = true:=decide_eq_true h24
    have hce : ∀ p,cellE (x0,x1) p = (x0,(x1.size : Int),p,⟨#[]⟩):=fun p => by unfold cellE;rw [if_neg (show ¬ x1.size ≤ 24 by omega)]
    have HCH:=Aside0.mk (show chainsF [(x0,x1)] S = ([(x0,(x1.size : Int),(chainF (pieces x1) S).1,⟨#[]⟩)],(chainF (pieces x1) S).2) by rw [V.chainsF_cons,if_pos h24,hce];rfl)
    have H24:=Aside0.mk h24
    have HDA:=Aside0.mk (HD.out.step (below_alloc (Below.refl _ _) (Obj.cells #[.int .i64 x0,.int .i64 (x1.size : Int),.int .i64 0,.string x1] 85)))
    have HRA:=Aside0.mk (Kd.R_alloc (Kd.R_mono (Kd.R_bound HR.out) (fun k hk => (show k ≠ wr.heap.size from by
     obtain ⟨_,_,_,q,hq,cells,hc⟩:=hk
     have:=blk_lt hc;omega))) (Obj.cells #[.int .i64 x0,.int .i64 (x1.size : Int),.int .i64 0,.string x1] 85))
    have HBX:=Aside0.mk (heap_alloc_new wr (Obj.cells #[.int .i64 x0,.int .i64 (x1.size : Int),.int .i64 0,.string x1] 85))
    go_upto_region 12 with (fail)
    obtain ⟨wB,hwB⟩ : ∃ x,x = wr.alloc (Obj.cells #[.int .i64 x0,.int .i64 (x1.size : Int),.int .i64 0,.string x1] 85):=⟨_,rfl⟩
    rw [← hwB] at HDA HRA HBX ⊢
    have HGB:=Aside0.mk (show w.heap.size ≤ wr.heap.size from HD.out.bel.size)
    obtain ⟨gb,hgb⟩ : ∃ x,x = wr.heap.size:=⟨_,rfl⟩
    rw [← hgb] at HRA HBX HGB ⊢
    clear hwB hgb hx0 hx1
    obtain ⟨z0,z1,z2,z3⟩:=cell85 HBX.out
    clear h24 hce HD HR
    have zf3:=blk_frozen HBX.out 3
    obtain ⟨np,hnp⟩ : ∃ q : Nat,q = (x1.size + 119) / 120:=⟨_,rfl⟩
    have HNP:=Aside0.mk hnp
    have hdv : wrap64 ((wrap64 ((x1.size : Int) - 1)).tdiv 120) = (np : Int) - 1:=by
     have h1:=HXS.out.2.2
     rw [wrap64_id (x:=(x1.size : Int) - 1) (by have:=H24.out;omega) (by omega),Int.tdiv_eq_ediv_of_nonneg (by have:=H24.out;omega),wrap64_id (by have:=H24.out;omega) (by omega)]
     omega
    clear hnp
    go_upto_region 15 with (fail)
    obtain ⟨wC,hwC⟩ : ∃ x,x = wB.setCell ⟨gb,3,none⟩ (.string ⟨#[]⟩):=⟨_,rfl⟩
    have HDC:=Aside0.mk (show IsD w wC g hv S false from by rw [hwC];exact HDA.out.kx (KX.set HBX.out) (by decide) (by decide) (below_set HDA.out.bel HGB.out))
    have HRC:=Aside0.mk (show kC.R 85 wC w.heap.size (fun k => k ≠ gb) u10 cs from by rw [hwC];exact Kd.R_far (p:=⟨gb,3,none⟩) HRA.out (fun _ hk => hk) (.string ⟨#[]⟩))
    have HBC:=Aside0.mk (show wC.heap[gb]? = some (.cells #[.int .i64 x0,.int .i64 (x1.size : Int),.int .i64 0,.string ⟨#[]⟩] 85 (0,0)) from by rw [hwC];simpa using blk_set HBX.out 3 (.string ⟨#[]⟩))
    rw [← hwC]
    clear hwC z0 z1 z2 z3 zf3 HDA HRA HBX
    go_loopg [14] np (fun kq v14 W => v14 = .int .i64 ((kq : Int) - 1) ∧ Aside0 ((chainF ((pieces x1).drop kq) S).2.e = 0) ∧ Aside0 (IsD w W g hv (chainF ((pieces x1).drop kq) S).2 false) ∧ Aside0 (W.heap[gb]? = some (.cells #[.int .i64 x0,.int .i64 (x1.size : Int),.int .i64 (chainF ((pieces x1).drop kq) S).1,.string ⟨#[]⟩] 85 (0,0))) ∧ Aside0 (kC.R 85 W w.heap.size (fun k => k ≠ gb) u10 cs) ∧ Aside0 (kq ≤ np))
    case atStart =>
     have hca : chainF ((pieces x1).drop np) S = (0,S):=by rw [HNP.out];exact chain_all x1 S
     rw [hca]
     refine ⟨?_,HE,HDC,HBC,HRC,⟨Nat.le_refl _⟩⟩
     rw [hdv]
    case round =>
     clear HDC HBC HRC hdv
     obtain ⟨rfl,HTE,HTD,HTB,HTR,HKQ⟩:=hrel
     cases gk with
     | zero =>
      have d5 : decide ((0 : Int) ≤ ((0 : Nat) : Int) - 1) = false:=rfl
      have HEX:=Aside0.mk (show (chainF (pieces x1) S).2.e = 0 from HTE.out)
      have HDA:=Aside0.mk (show IsD w wr g hv (chainF (pieces x1) S).2 false from HTD.out)
      obtain ⟨pg,hpg⟩ : ∃ p,p = (chainF (pieces x1) S).1:=⟨_,rfl⟩
      have HBX:=Aside0.mk (show wr.heap[gb]? = some (.cells #[.int .i64 x0,.int .i64 (x1.size : Int),.int .i64 pg,.string ⟨#[]⟩] 85 (0,0)) from by rw [hpg];exact HTB.out)
      have HRA:=HTR
      rw [← hpg] at HCH
      obtain ⟨z0,z1,z2,z3⟩:=cell85 HBX.out
      clear HTE HTD HTB HTR hpg
      go_wp2_with (first
       | ((with_reducible refine gate_builtin (b:=.append) (xs:=#[.tmp 100,.tmp 102]) rfl ?_);at_builtin;go_must (refine Kd.R_append kC w.heap.size rfl (.tmp 100) (.tmp 102) 83 85 (.agg #[(.int .i64 0),(.int .i64 0),(.int .i64 0),(.string ⟨#[]⟩)]) 40 rfl Try.underlying83 info85 rfl (by decide) (by omega) _ cs (x0,(x1.size : Int),pg,(⟨#[]⟩ : ByteArray)) [.int .i64 x0,.int .i64 (x1.size : Int),.int .i64 pg,.string ⟨#[]⟩] (fun _ => True) (fun _ => False) rfl rfl (V.kC_mkM _ _ _ (x0,(x1.size : Int),pg,(⟨#[]⟩ : ByteArray))) (fun _ hk => hk.elim) (fun _ _ => trivial) (Kd.R_mono HRA.out (fun _ _ => trivial)) HDA.out.bel HDA.out.bel.size (by omega) ?_);intro v5_ w5_ ho_ hb_ hg_ hat_;have HR5:=Aside0.mk ho_;have HD5:=Aside0.mk (HDA.out.kx (KX.row HRA.out hg_) (by decide) (by decide) hb_);clear ho_ hb_ hg_ hat_))
      go_roundg gk1
      case measure => omega
      case rel => exact ⟨wrap64 (i + 1),by first | rfl | (simp;done) | (simp [*];done),⟨by have:=HI.out;have:=of_eq_true p1;have:=HL.out;rw [wrap64_id (by omega) (by omega)];omega⟩,⟨by
     have h9:=HI.out;have h8:=HL.out
     rw [wrap64_id (by omega) (by omega),show (i + 1).toNat = i.toNat + 1 by omega,HST.out,HCH.out];exact HEX.out⟩,⟨by
     have h9:=HI.out;have h8:=HL.out
     rw [wrap64_id (by omega) (by omega),show (i + 1).toNat = i.toNat + 1 by omega,HST.out,HCH.out];exact HD5.out⟩,⟨by
     have h9:=HI.out;have h8:=HL.out
     rw [wrap64_id (by omega) (by omega),show (i + 1).toNat = i.toNat + 1 by omega,HST.out,HCH.out];exact HR5.out⟩⟩
     | succ kq =>
      have hkk : (((kq + 1 : Nat) : Int) - 1) = (kq : Int):=by omega
      rw [hkk]
      have d5 : decide ((0 : Int) ≤ (kq : Int)) = true:=decide_eq_true (by omega)
      have HKL:=Aside0.mk (show kq < (x1.size + 119) / 120 by have:=HKQ.out;rw [← HNP.out];omega)
      have HCS:=Aside0.mk (chain_step x1 kq HKL.out S)
      have HCI:=Aside0.mk (chain_is HPS.out kq HKL.out HTE.out)
      obtain ⟨T,hT⟩ : ∃ T,T = (chainF ((pieces x1).drop (kq + 1)) S).2:=⟨_,rfl⟩
      obtain ⟨pg,hpg⟩ : ∃ p,p = (chainF ((pieces x1).drop (kq + 1)) S).1:=⟨_,rfl⟩
      rw [← hT] at HTE HTD HCS
      rw [← hpg] at HTB HCS HCI
      obtain ⟨z0,z1,z2,z3⟩:=cell85 HTB.out
      have zf2:=blk_frozen HTB.out 2
      have HTT:=Aside0.mk hT
      have HPP:=Aside0.mk hpg
      clear hkk hT hpg
      go_upto_region 17 with (fail)
      obtain ⟨lo,hlo⟩ : ∃ z : Int,z = ((120 * kq : Nat) : Int):=⟨_,rfl⟩
      obtain ⟨k1,hk1⟩ : ∃ z : Int,z = ((kq + 1 : Nat) : Int):=⟨_,rfl⟩
      obtain ⟨h1,hh1⟩ : ∃ z : Int,z = ((120 * kq + 120 : Nat) : Int):=⟨_,rfl⟩
      have m1 : wrap64 ((kq : Int) * 120) = lo:=by rw [hlo,wrap64_id (by omega) (by have:=HKL.out;have:=HXS.out.2.2;omega)];omega
      have m2 : wrap64 ((kq : Int) + 1) = k1:=by rw [hk1,wrap64_id (by omega) (by have:=HKL.out;have:=HXS.out.2.2;omega)];omega
      have m3 : wrap64 (k1 * 120) = h1:=by rw [hh1,hk1,wrap64_id (by omega) (by have:=HKL.out;have:=HXS.out.2.2;omega)];omega
      have n1 : IntKind.i64.wrap ((kq : Int) * 120) = lo:=(i64_w _).trans m1
      have n2 : IntKind.i64.wrap ((kq : Int) + 1) = k1:=(i64_w _).trans m2
      have n3 : IntKind.i64.wrap (k1 * 120) = h1:=(i64_w _).trans m3
      obtain ⟨hi,hhi⟩ : ∃ z : Int,z = ((min (120 * kq + 120) x1.size : Nat) : Int):=⟨_,rfl⟩
      have q1 : (if (x1.size : Int) < h1 then (x1.size : Int) else h1) = hi:=by rw [hhi,hh1];split <;> omega
      have q2 : (0 ≤ lo) = True:=eq_true (by omega)
      have q3 : (lo ≤ hi) = True:=eq_true (by have:=HKL.out;omega)
      have q4 : (hi ≤ (x1.size : Int)) = True:=eq_true (by omega)
      have q5 : (0 ≤ hi) = True:=eq_true (by omega)
      have HPC:=Aside0.mk (show x1.extract lo.toNat hi.toNat = pcs x1 kq by unfold pcs;rw [hlo,hhi,Int.toNat_natCast,Int.toNat_natCast])
      clear hlo hk1 hh1 hhi
      obtain ⟨bs,hbs⟩ : ∃ x,x = (chA pg (pcs x1 kq)).1:=⟨_,rfl⟩
      have hcs2:=HCS.out
      rw [HCI.out,← hbs] at hcs2
      have HC2:=Aside0.mk hcs2
      have hcall : ∀ W : World,Calls Try.prog 35 #[.int .i64 pg,.string (x1.extract lo.toNat hi.toNat)] W fun e w' => e = .returned (.tuple #[.string bs,.bool true]) ∧ Below W.heap.size W w':=by
       intro W
       rw [HPC.out]
       have:=rchain_any pg (pcs x1 kq) W
       rw [HCI.out,← hbs] at this
       exact this
      have HCALL:=Aside0.mk hcall
      have hknT : KnOut hv T:=by rw [HTT.out];exact V.chainF_kn _ HKN.out
      have hoT : T.out.length ≤ 100000:=by
       rw [HTT.out]
       have h1:=V.chainF_out ((pieces x1).drop (kq + 1)) S
       have h2:=V.pieces_few HXS.out.2.2
       have h3 : ((pieces x1).drop (kq + 1)).length ≤ (pieces x1).length:=by rw [List.length_drop];omega
       have:=HOL.out;omega
      have hpage:=fun (W : World) (hd : IsD w W g hv T false) => rpage_any hd hknT HTE.out bs hoT (by have:=HL2.out;have:=HNH.out;omega)
      clear hcs2 hcall hbs HPC HCS HCI
      go_region_held3 (fun W' => W'.cell? ⟨gb,2,none⟩ = some (.int .i64 pg)) (go_keep) (first
       | (go_at_call 35;go_must (refine (HCALL.out _).mono ?_);rintro e w1 ⟨rfl,hb⟩;have n1_:=Aside0.mk ((hb.block gb (blk_lt HTB.out)).trans HTB.out);have n2_:=Aside0.mk (HTD.out.drew.step hb);have n3_:=Aside0.mk (Kd.R_below (Kd.R_drew HTR.out) hb);clear HTB HTD HTR hb;have HTB:=n1_;have HTD:=n2_;have HTR:=n3_;clear n1_ n2_ n3_;obtain ⟨y0,y1,y2,y3⟩:=cell85 HTB.out))
      clear HCALL m1 m2 m3 n1 n2 n3 q1 q2 q3 q4 q5
      have hgg : gb ≠ g:=by
       rintro rfl
       obtain ⟨cs_,h1⟩:=HTD.out.blk
       have h2:=HTB.out
       rw [h1] at h2
       injection h2 with h2
       injection h2 with _ h2
       cases h2
      have HGG:=Aside0.mk hgg
      by_cases hpe : (putS T bs true).e = 0
      case neg =>
       have hp2 : ∀ W : World,IsD w W g hv T false → Calls Try.prog 36 #[.pointer (some ⟨g,0,none⟩),.string bs] W fun e w' => (∃ n : Int,e = .returned (.int .i64 n)) ∧ IsD w w' g hv T true ∧ Kw W w' g:=fun W hd => (hpage W hd).mono fun e w' ⟨n,h1,h2,h3⟩ => ⟨⟨n,h1⟩,by
        rcases h2 with h2 | h2
        ·exact absurd h2.1 hpe
        ·exact h2.2,h3⟩
       have HP2:=Aside0.mk hp2
       have HE8:=Aside0.mk (show res = ([],0,8) from HFULL.out fun hz => by
        have h1:=take_e (i.toNat + 1) (z_S hz)
        rw [show (⟨knF hv,fr,[],0⟩ : PS) = S0 from HS0.out.symm,HST.out,HCH.out] at h1
        have h2:=chain_drop kq (show (chainF (pieces x1) S).2.e = 0 from h1)
        rw [HC2.out] at h2
        exact hpe h2)
       clear hpage hp2 hpe hknT hoT hgg
       go_upto_region 19 with (first
        | (go_at_call 36;(with_reducible refine (HP2.out _ HTD.out).mono ?_);rintro e w2 ⟨⟨n2,rfl⟩,hd,hk⟩;have HD2:=Aside0.mk hd;have n1_:=Aside0.mk (hk.2 gb _ 85 (by decide) HGG.out HTB.out);clear HTB hd hk;have HTB:=n1_;clear n1_ y0 y1 y2 y3 z0 z1 z2 z3;obtain ⟨y0,y1,y2,y3⟩:=cell85 HTB.out;have zf2:=blk_frozen HTB.out 2))
       obtain ⟨wE,hwE⟩ : ∃ x,x = w2.setCell ⟨gb,2,none⟩ (.int .i64 n2):=⟨_,rfl⟩
       have HD3:=Aside0.mk (show IsD w wE g hv T true from by rw [hwE];exact HD2.out.kx (KX.set HTB.out) (by decide) (by decide) (below_set HD2.out.bel HGB.out))
       rw [← hwE]
       have fl:=HD3.out.flag
       clear hwE y0 y1 y2 y3 zf2
       go_wp2
       go_ret3
       exact ⟨_,by rw [HE8.out];rfl,by rw [HE8.out];exact Kd.R_nil _ _ _ _ _,HD3.out.bel⟩
      case pos =>
       have hp2 : ∀ W : World,IsD w W g hv T false → Calls Try.prog 36 #[.pointer (some ⟨g,0,none⟩),.string bs] W fun e w' => e = .returned (.int .i64 (putN T bs true)) ∧ IsD w w' g hv (putS T bs true) false ∧ Kw W w' g:=fun W hd => (hpage W hd).mono fun e w' ⟨n,h1,h2,h3⟩ => by
        rcases h2 with h2 | h2
        ·exact ⟨by rw [h1,h2.2.1],h2.2.2,h3⟩
        ·exact absurd hpe h2.1
       have HP2:=Aside0.mk hp2
       have HPE:=Aside0.mk hpe
       obtain ⟨pn,hpn⟩ : ∃ x,x = putN T bs true:=⟨_,rfl⟩
       rw [← hpn] at HP2 HC2
       clear hpage hp2 hpe hknT hoT hgg hpn
       go_upto_region 19 with (first
        | (go_at_call 36;(with_reducible refine (HP2.out _ HTD.out).mono ?_);rintro e w2 ⟨rfl,hd,hk⟩;have HD2:=Aside0.mk hd;have n1_:=Aside0.mk (hk.2 gb _ 85 (by decide) HGG.out HTB.out);have n2_:=Aside0.mk (hk.R HTD.out.blk.choose_spec HTR.out (fun q hq => by rw [kC_E q hq];exact ⟨by decide,by decide⟩));clear HTB HTR hd hk;have HTB:=n1_;have HTR:=n2_;clear n1_ n2_ y0 y1 y2 y3 z0 z1 z2 z3;obtain ⟨y0,y1,y2,y3⟩:=cell85 HTB.out;have zf2:=blk_frozen HTB.out 2))
       obtain ⟨wE,hwE⟩ : ∃ x,x = w2.setCell ⟨gb,2,none⟩ (.int .i64 pn):=⟨_,rfl⟩
       have HD3:=Aside0.mk (show IsD w wE g hv (putS T bs true) false from by rw [hwE];exact HD2.out.kx (KX.set HTB.out) (by decide) (by decide) (below_set HD2.out.bel HGB.out))
       have HB3:=Aside0.mk (show wE.heap[gb]? = some (.cells #[.int .i64 x0,.int .i64 (x1.size : Int),.int .i64 pn,.string ⟨#[]⟩] 85 (0,0)) from by rw [hwE];simpa using blk_set HTB.out 2 (.int .i64 pn))
       have HR3:=Aside0.mk (show kC.R 85 wE w.heap.size (fun k => k ≠ gb) u10 cs from by rw [hwE];exact Kd.R_far (p:=⟨gb,2,none⟩) HTR.out (fun _ hk => hk) (.int .i64 pn))
       rw [← hwE]
       have fl:=HD3.out.flag
       clear hwE y0 y1 y2 y3 zf2
       go_wp2
       go_roundg kq
       case measure => omega
       case rel =>
        rw [HC2.out]
        exact ⟨by first | rfl | go_num | (simp;done) | (rw [show wrap64 ((kq : Int) - 1) = (kq : Int) - 1 from by have:=HKL.out;have:=HXS.out.2.2;unfold wrap64;omega]),HPE,HD3,HB3,HR3,⟨by have:=HKQ.out;omega⟩⟩
end Go.Proofs.Ytpeeojbhfebcdaa.PRf
end


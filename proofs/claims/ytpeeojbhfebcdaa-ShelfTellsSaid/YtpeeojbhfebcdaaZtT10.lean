/- Of the texts that the row stands on, what it needs (part 10), put together by a program of this session. -/
import Derived.Test.YtpeeojbhfebcdaaZtT9
namespace Go.Proofs.Ytpeeojbhfebcdaa.V
open Go.RowKit Go.Proofs.YtpeeojbhfebcdaaW.PrintWords Go.Proofs.YtpeeojbhfebcdaaW.PrintLast Go.Proofs.YtpeeojbhfebcdaaW.PrintMore
set_option linter.unusedVariables false
set_option linter.unusedSimpArgs false
theorem leaf_many (A : Option Addr) (n c : Nat) (w : World) (hn : 128 < n) :
  Calls Try.prog 31 #[.slice A n c] w fun e w' => e = .returned (.tuple #[.string ⟨#[]⟩, .bool false]) ∧ Below w.heap.size w w' := by
 have h0 : decide ((128 : Int) < (n : Int)) = true := decide_eq_true (by omega)
 clear hn
 go_enter Try.func31, Try.ntmps31
 go_wp2
 go_ret2
 exact ⟨rfl, Below.refl _ _⟩
theorem index_many (A : Option Addr) (n c : Nat) (w : World) (hn : 21 < n) :
  Calls Try.prog 32 #[.slice A n c] w fun e w' => e = .returned (.tuple #[.string ⟨#[]⟩, .bool false]) ∧ Below w.heap.size w w' := by
 have h0 : decide ((21 : Int) < (n : Int)) = true := decide_eq_true (by omega)
 clear hn
 go_enter Try.func32, Try.ntmps32
 go_wp2
 go_ret2
 exact ⟨rfl, Below.refl _ _⟩
set_option maxRecDepth 100000 in
theorem leaf_any (A : Option Addr) (n c : Nat) (w : World) (Ky Sz Pg ah : Int → Int) (Bt nK nZ nP Tl : Int → ByteArray) (vk vr : Int → Bool) (S : Nat → ByteArray)
  (HR : ∀ i : Int, 0 ≤ i → i < n → ∃ ad, A = some ad ∧ w.cell? (ad.add (i.toNat * 4)) = some (.int .i64 (Ky i)) ∧ w.cell? ⟨(ad.add (i.toNat * 4)).block, (ad.add (i.toNat * 4)).off + 1, none⟩ = some (.int .i64 (Sz i)) ∧ w.cell? ⟨(ad.add (i.toNat * 4)).block, (ad.add (i.toNat * 4)).off + 2, none⟩ = some (.int .i64 (Pg i)) ∧ w.cell? ⟨(ad.add (i.toNat * 4)).block, (ad.add (i.toNat * 4)).off + 3, none⟩ = some (.string (Bt i)))
  (hn : n ≤ 128) (ha0 : ah 0 = -1) (ha : ∀ j : Nat, ah (j + 1 : Nat) = Ky j)
  (hk : ∀ i, PBase.sheet_key.f (Ky i) (ah i) = some (vk i)) (hp : ∀ i, PBase.sheet_right.f (Ky i) (Sz i) (Pg i) (Bt i) = some (vr i))
  (h4 : ∀ i, PBase.sheet_number.f 100 (Ky i) 4 = some (nK i)) (h2 : ∀ i, PBase.sheet_number.f 100 (Sz i) 2 = some (nZ i)) (h5 : ∀ i, PBase.sheet_number.f 100 (Pg i) 2 = some (nP i))
  (hT : ∀ i, 24 < Sz i → Tl i = nP i) (hT2 : ∀ i, Sz i ≤ 24 → Tl i = ⟨#[]⟩)
  (hS0 : S 0 = strOfNums [76, (n : Int) % 256]) (hS : ∀ j : Nat, S (j + 1) = S j ++ (nK j ++ nZ j ++ Bt j) ++ Tl j) (hz : ∀ j : Nat, j ≤ n → (∀ i : Nat, i < j → vk i = true ∧ vr i = true) → (S j).size ≤ 100000) (hzn : ∀ i, vr i = true → (nK i).size + (nZ i).size + (Bt i).size ≤ 1000) (hzp : ∀ i, (nP i).size ≤ 100)
  (r1 : ByteArray) (r2 : Bool) (H : (∀ j : Nat, j < n → vk j = true ∧ vr j = true) → PBase.sheet_full.f (S n) = some (r1, r2)) (H2 : (∃ j : Nat, j < n ∧ (vk j = false ∨ vr j = false)) → r1 = ⟨#[]⟩ ∧ r2 = false) :
  Calls Try.prog 31 #[.slice A n c] w fun e w' => e = .returned (.tuple #[.string r1, .bool r2]) ∧ Below w.heap.size w w' := by
 have h0 : decide ((128 : Int) < (n : Int)) = false := decide_eq_false (by omega)
 have HR := Aside0.mk HR
 have HN := Aside0.mk hn
 have HA := Aside0.mk ha
 have HK := Aside0.mk hk
 have HP := Aside0.mk hp
 have H4 := Aside0.mk h4
 have H22 := Aside0.mk h2
 have H5 := Aside0.mk h5
 have HT := Aside0.mk hT
 have HT2 := Aside0.mk hT2
 have HS := Aside0.mk hS
 have HZ := Aside0.mk hz
 have HZN := Aside0.mk hzn
 have HZP := Aside0.mk hzp
 have HS0 := Aside0.mk hS0
 have HA0 := Aside0.mk ha0
 have H1 := Aside0.mk H
 have H3 := Aside0.mk H2
 have hl2 := lit2 (w.alloc (.cells #[.pointer none, .slice none 0 0] 118)) 76 ((n : Int) % 256)
 rw [show (w.alloc (.cells #[.pointer none, .slice none 0 0] 118)).heap.size = w.heap.size + 1 from by simp] at hl2
 clear hn ha hk hp h4 h2 h5 hT hT2 hS hz hzn hzp hS0 ha0 H H2
 go_enter Try.func31, Try.ntmps31
 have hB0 := Aside0.mk ((Below.refl w.heap.size w).alloc (Nat.le_refl _) (.cells #[.pointer none, .slice none 0 0] 118))
 have hI0 : Aside0 (Lib.IsBuilder 118 5 w.heap.size w.heap.size [] (w.alloc (.cells #[.pointer none, .slice none 0 0] 118))) := ⟨.inl ⟨Nat.le_refl _, _, heap_alloc_new w _, own_nil _ _ _ _, by simp [Value.ownBlock]⟩⟩
 have hg0 := Aside0.mk (show w.heap.size ≤ ((w.alloc (.cells #[.pointer none, .slice none 0 0] 118)).alloc (.cells #[.int .u8 76, .int .u8 ((n : Int) % 256)] 5)).heap.size by simp; omega)
 go_wp2_with (first | (go_at_call 56; refine (write_any w.heap.size w.heap.size [] (strOfNums [76, (n : Int) % 256]) _ (isb_below hI0.out (below_alloc (Below.refl _ _) _)) (by rw [strOfNums_size]; simp) hg0.out).mono ?_; rintro e w1 ⟨rfl, hi, hb, hk⟩; have HI := Aside0.mk (show Lib.IsBuilder 118 5 w.heap.size w.heap.size (Lib.strCells (S 0)) w1 by rw [HS0.out]; exact .inr (by simpa using hi)); have HB := Aside0.mk (show Below w.heap.size w w1 from (hB0.out.alloc hB0.out.size _).trans hb); clear hi hb hk hB0 hI0 hg0))
 go_loopw [5, 19] (fun v5 v19 w' => ∃ j : Nat, j ≤ n ∧ v5 = .int .i64 (ah (j : Nat)) ∧ v19 = .int .i64 (j : Int) ∧ Aside0 (Lib.IsBuilder 118 5 w.heap.size w.heap.size (Lib.strCells (S j)) w') ∧ Aside0 (Below w.heap.size w w') ∧ Aside0 (∀ i : Nat, i < j → vk i = true ∧ vr i = true)) (fun _ v19 _ => (n - (intOf v19).toNat))
 case atStart => exact ⟨0, Nat.zero_le _, by rw [show ((0 : Nat) : Int) = 0 from rfl, HA0.out], rfl, HI, HB, ⟨fun i hi => by omega⟩⟩
 case round =>
  clear HI HB hl2
  obtain ⟨j, hj, rfl, rfl, HI, HB, HV⟩ := hrel
  by_cases hj2 : j < n
  ·have c0 : decide ((j : Int) < (n : Int)) = true := decide_eq_true (by omega)
   obtain ⟨ad, e, hx0, hx1, hx2, hx3⟩ := HR.out (j : Int) (by omega) (by omega)
   cases e
   replace hx0 := (HB.out.cell (World.block_lt_of_cell? w _ hx0)).trans hx0
   replace hx1 := (HB.out.cell (World.block_lt_of_cell? w _ hx1)).trans hx1
   replace hx2 := (HB.out.cell (World.block_lt_of_cell? w _ hx2)).trans hx2
   replace hx3 := (HB.out.cell (World.block_lt_of_cell? w _ hx3)).trans hx3
   have HJ := Aside0.mk hj2
   have HSJ := Aside0.mk (HS.out j)
   have HAJ := Aside0.mk (HA.out j)
   have HZJ := Aside0.mk (HZ.out j hj HV.out)
   obtain ⟨i, hi⟩ : ∃ i : Int, i = (j : Int) := ⟨_, rfl⟩
   have HJI := Aside0.mk hi
   have p0 : (0 ≤ i) = True := eq_true (by omega)
   have p1 : (i < (n : Int)) = True := eq_true (by omega)
   rw [← hi] at c0 hx0 hx1 hx2 hx3 HSJ HAJ ⊢
   have HKI := Aside0.mk (HK.out i)
   have HPI := Aside0.mk (HP.out i)
   have N4 := Aside0.mk (H4.out i)
   have N2 := Aside0.mk (H22.out i)
   have N5 := Aside0.mk (H5.out i)
   clear hj hj2 hi
   generalize hag : ah i = ahi at HKI ⊢
   clear hag
   have hbx0 := heap_alloc_new wr (.cells #[.int .i64 (Ky i), .int .i64 (Sz i), .int .i64 (Pg i), .string (Bt i)] 61)
   have HBA := Aside0.mk (HB.out.alloc HB.out.size (.cells #[.int .i64 (Ky i), .int .i64 (Sz i), .int .i64 (Pg i), .string (Bt i)] 61))
   have HIA := Aside0.mk (isb_below HI.out (below_alloc (Below.refl _ _) (.cells #[.int .i64 (Ky i), .int .i64 (Sz i), .int .i64 (Pg i), .string (Bt i)] 61)))
   have HXA := Aside0.mk hbx0
   have HIA0 := HI
   clear hbx0 HI HB
   cases hvk : vk i with
   | false =>
    rw [hvk] at HKI
    have HH := Aside0.mk (H3.out ⟨j, HJ.out, .inl (by rw [← HJI.out]; exact hvk)⟩)
    go_wp2_with (first | (go_at_call 57; refine (PBase.sheet_key.calls (Ky i) ahi false _ HKI.out).mono ?_; rintro e w4 ⟨rfl, hd⟩; have hb4 := Drawn0.below hd; have HB4 := Aside0.mk (HBA.out.trans (hb4.mono HBA.out.size)); have HI4 := Aside0.mk (isb_below HIA.out hb4); have hbx := blk_below HXA.out hb4; have hcy0 : w4.cell? ⟨wr.heap.size, 0, none⟩ = some (.int .i64 (Ky i)) := (blk_cell hbx 0).trans rfl; have hcy1 : w4.cell? ⟨wr.heap.size, 1, none⟩ = some (.int .i64 (Sz i)) := (blk_cell hbx 1).trans rfl; have hcy2 : w4.cell? ⟨wr.heap.size, 2, none⟩ = some (.int .i64 (Pg i)) := (blk_cell hbx 2).trans rfl; have hcy3 : w4.cell? ⟨wr.heap.size, 3, none⟩ = some (.string (Bt i)) := (blk_cell hbx 3).trans rfl; have HX4 := Aside0.mk hbx; clear hd hb4 hbx))
    go_ret2
    obtain ⟨rfl, rfl⟩ := HH.out
    exact ⟨rfl, HB4.out⟩
   | true =>
    rw [hvk] at HKI
    cases hvp : vr i with
    | false =>
     rw [hvp] at HPI
     have HH := Aside0.mk (H3.out ⟨j, HJ.out, .inr (by rw [← HJI.out]; exact hvp)⟩)
     go_wp2_with (first | (go_at_call 57; refine (PBase.sheet_key.calls (Ky i) ahi true _ HKI.out).mono ?_; rintro e w4 ⟨rfl, hd⟩; have hb4 := Drawn0.below hd; have HB4 := Aside0.mk (HBA.out.trans (hb4.mono HBA.out.size)); have HI4 := Aside0.mk (isb_below HIA.out hb4); have hbx := blk_below HXA.out hb4; have hcy0 : w4.cell? ⟨wr.heap.size, 0, none⟩ = some (.int .i64 (Ky i)) := (blk_cell hbx 0).trans rfl; have hcy1 : w4.cell? ⟨wr.heap.size, 1, none⟩ = some (.int .i64 (Sz i)) := (blk_cell hbx 1).trans rfl; have hcy2 : w4.cell? ⟨wr.heap.size, 2, none⟩ = some (.int .i64 (Pg i)) := (blk_cell hbx 2).trans rfl; have hcy3 : w4.cell? ⟨wr.heap.size, 3, none⟩ = some (.string (Bt i)) := (blk_cell hbx 3).trans rfl; have HX4 := Aside0.mk hbx; clear hd hb4 hbx) | (go_at_call 58; refine (PBase.sheet_right.calls (Ky i) (Sz i) (Pg i) (Bt i) false _ HPI.out).mono ?_; rintro e w5 ⟨rfl, hb4⟩; have HB5 := Aside0.mk (HB4.out.trans (hb4.mono HB4.out.size)); have HI5 := Aside0.mk (isb_below HI4.out hb4); have hbx := blk_below HX4.out hb4; clear hcy0 hcy1 hcy2 hcy3; have hcy0 : w5.cell? ⟨wr.heap.size, 0, none⟩ = some (.int .i64 (Ky i)) := (blk_cell hbx 0).trans rfl; have hcy1 : w5.cell? ⟨wr.heap.size, 1, none⟩ = some (.int .i64 (Sz i)) := (blk_cell hbx 1).trans rfl; have hcy2 : w5.cell? ⟨wr.heap.size, 2, none⟩ = some (.int .i64 (Pg i)) := (blk_cell hbx 2).trans rfl; have hcy3 : w5.cell? ⟨wr.heap.size, 3, none⟩ = some (.string (Bt i)) := (blk_cell hbx 3).trans rfl; have HX5 := Aside0.mk hbx; clear hb4 hbx))
     go_ret2
     obtain ⟨rfl, rfl⟩ := HH.out
     exact ⟨rfl, HB5.out⟩
    | true =>
     rw [hvp] at HPI
     have HVV := Aside0.mk (show vk j = true ∧ vr j = true by rw [← HJI.out]; exact ⟨hvk, hvp⟩)
     have hsum := HZN.out i hvp
     have HSM := Aside0.mk hsum
     have HLN := Aside0.mk (show (Lib.strCells (S j)).length + (nK i ++ nZ i ++ Bt i).size ≤ 140737488355328 by rw [Lib.strCells_length, ByteArray.size_append, ByteArray.size_append]; have := HZJ.out; omega)
     clear hvk hvp
     go_wp2_with (first | (go_at_call 57; refine (PBase.sheet_key.calls (Ky i) ahi true _ HKI.out).mono ?_; rintro e w4 ⟨rfl, hd⟩; have hb4 := Drawn0.below hd; have HB4 := Aside0.mk (HBA.out.trans (hb4.mono HBA.out.size)); have HI4 := Aside0.mk (isb_below HIA.out hb4); have hbx := blk_below HXA.out hb4; have hcy0 : w4.cell? ⟨wr.heap.size, 0, none⟩ = some (.int .i64 (Ky i)) := (blk_cell hbx 0).trans rfl; have hcy1 : w4.cell? ⟨wr.heap.size, 1, none⟩ = some (.int .i64 (Sz i)) := (blk_cell hbx 1).trans rfl; have hcy2 : w4.cell? ⟨wr.heap.size, 2, none⟩ = some (.int .i64 (Pg i)) := (blk_cell hbx 2).trans rfl; have hcy3 : w4.cell? ⟨wr.heap.size, 3, none⟩ = some (.string (Bt i)) := (blk_cell hbx 3).trans rfl; have HX4 := Aside0.mk hbx; clear hd hb4 hbx) | (go_at_call 58; refine (PBase.sheet_right.calls (Ky i) (Sz i) (Pg i) (Bt i) true _ HPI.out).mono ?_; rintro e w5 ⟨rfl, hb4⟩; have HB5 := Aside0.mk (HB4.out.trans (hb4.mono HB4.out.size)); have HI5 := Aside0.mk (isb_below HI4.out hb4); have hbx := blk_below HX4.out hb4; clear hcy0 hcy1 hcy2 hcy3; have hcy0 : w5.cell? ⟨wr.heap.size, 0, none⟩ = some (.int .i64 (Ky i)) := (blk_cell hbx 0).trans rfl; have hcy1 : w5.cell? ⟨wr.heap.size, 1, none⟩ = some (.int .i64 (Sz i)) := (blk_cell hbx 1).trans rfl; have hcy2 : w5.cell? ⟨wr.heap.size, 2, none⟩ = some (.int .i64 (Pg i)) := (blk_cell hbx 2).trans rfl; have hcy3 : w5.cell? ⟨wr.heap.size, 3, none⟩ = some (.string (Bt i)) := (blk_cell hbx 3).trans rfl; have HX5 := Aside0.mk hbx; clear hb4 hbx))
     have HNE := Aside0.mk (show wr.heap.size ≠ w.heap.size from isb_ne HIA0.out)
     have HXwd := Aside0.mk (show w5.drew.heap[wr.heap.size]? = some (.cells #[.int .i64 (Ky i), .int .i64 (Sz i), .int .i64 (Pg i), .string (Bt i)] 61 (0, 0)) from HX5.out)
     have HIwd := Aside0.mk (show Lib.IsBuilder 118 5 w.heap.size w.heap.size (Lib.strCells (S j)) w5.drew from HI5.out)
     have HBwd := Aside0.mk (below_drew1 HB5.out)
     clear HX5 HI5 HB5 hcy0 hcy1 hcy2 hcy3 HX4 HI4 HB4
     refine start_ (n := 11) (S := fun w' => w'.cell? ⟨wr.heap.size, 0, none⟩ = some (.int .i64 (Ky i)) ∧ w'.cell? ⟨wr.heap.size, 1, none⟩ = some (.int .i64 (Sz i)) ∧ w'.cell? ⟨wr.heap.size, 3, none⟩ = some (.string (Bt i))) (ds := []) #[false, false, false, false, false, false, false, false, false, false, false] (by kernel_rfl) rfl rfl ⟨((blk_cell HXwd.out 0).trans rfl), ((blk_cell HXwd.out 1).trans rfl), ((blk_cell HXwd.out 3).trans rfl)⟩ (fun hHeld => ?_)
     generalize w5.drew = wd at HXwd HIwd HBwd hHeld ⊢
     refine pure_ (i := 0) (N := some 35) (v := ?_) (a' := ?_) #[true, false, false, false, false, false, false, false, false, false, false] rfl rfl (by kernel_rfl) (fun _ _ _ h => h) (Or.inl ⟨by rfl, ?_⟩) ?_ ?_
     rotate_left
     ·intro w'
      go_simp
      first | with_reducible rfl | (rw [if_neg (by (try simp only [ByteArray.size_append]); omega)] <;> with_reducible rfl)
     rotate_left
     ·simp only [Act.put, List.setIfInBounds_toArray, List.set_cons_zero, List.set_cons_succ, i64_w, i32_w]
      rfl
     refine pure_ (i := 3) (N := some 38) (v := ?_) (a' := ?_) #[true, false, false, true, false, false, false, false, false, false, false] rfl rfl (by kernel_rfl) (fun _ _ _ h => h) (Or.inl ⟨by rfl, ?_⟩) ?_ ?_
     rotate_left
     ·intro w'
      go_simp
      first | with_reducible rfl | (rw [if_neg (by (try simp only [ByteArray.size_append]); omega)] <;> with_reducible rfl)
     rotate_left
     ·simp only [Act.put, List.setIfInBounds_toArray, List.set_cons_zero, List.set_cons_succ, i64_w, i32_w]
      rfl
     refine pure_ (i := 7) (N := some 42) (v := ?_) (a' := ?_) #[true, false, false, true, false, false, false, true, false, false, false] rfl rfl (by kernel_rfl) (fun _ _ _ h => h) (Or.inl ⟨by rfl, ?_⟩) ?_ ?_
     rotate_left
     ·intro w'
      go_simp
      first | with_reducible rfl | (rw [if_neg (by (try simp only [ByteArray.size_append]); omega)] <;> with_reducible rfl)
     rotate_left
     ·simp only [Act.put, List.setIfInBounds_toArray, List.set_cons_zero, List.set_cons_succ, i64_w, i32_w]
      rfl
     refine take_ (i := 1) (N := some 36) (v := ?_) (a' := ?_) #[true, true, false, true, false, false, false, true, false, false, false] rfl rfl (by kernel_rfl) (fun _ _ _ h => h) (Or.inl ⟨by rfl, ?_⟩) hHeld ?_ ?_
     rotate_left
     ·rintro w' ⟨s0, s1, s2⟩
      go_simp
      first | with_reducible rfl | (rw [if_neg (by (try simp only [ByteArray.size_append]); omega)] <;> with_reducible rfl)
     rotate_left
     ·simp only [Act.put, List.setIfInBounds_toArray, List.set_cons_zero, List.set_cons_succ, i64_w, i32_w]
      rfl
     refine take_ (i := 4) (N := some 39) (v := ?_) (a' := ?_) #[true, true, false, true, true, false, false, true, false, false, false] rfl rfl (by kernel_rfl) (fun _ _ _ h => h) (Or.inl ⟨by rfl, ?_⟩) hHeld ?_ ?_
     rotate_left
     ·rintro w' ⟨s0, s1, s2⟩
      go_simp
      first | with_reducible rfl | (rw [if_neg (by (try simp only [ByteArray.size_append]); omega)] <;> with_reducible rfl)
     rotate_left
     ·simp only [Act.put, List.setIfInBounds_toArray, List.set_cons_zero, List.set_cons_succ, i64_w, i32_w]
      rfl
     refine take_ (i := 8) (N := some 43) (v := ?_) (a' := ?_) #[true, true, false, true, true, false, false, true, true, false, false] rfl rfl (by kernel_rfl) (fun _ _ _ h => h) (Or.inl ⟨by rfl, ?_⟩) hHeld ?_ ?_
     rotate_left
     ·rintro w' ⟨s0, s1, s2⟩
      go_simp
      first | with_reducible rfl | (rw [if_neg (by (try simp only [ByteArray.size_append]); omega)] <;> with_reducible rfl)
     rotate_left
     ·simp only [Act.put, List.setIfInBounds_toArray, List.set_cons_zero, List.set_cons_succ, i64_w, i32_w]
      rfl
     refine one_ (i := 2) (N := some 37) #[true, true, true, true, true, false, false, true, true, false, false] rfl rfl (by kernel_rfl) (by decide) (fun K hK => ?_)
     refine goes_ Try.func59 (by kernel_rfl) rfl #[.int .i64 (Ky i), .int .i64 4] (by rfl) rfl rfl (by simp only [List.map_toArray, List.map_cons, List.map_nil]; rfl) ?_
     with_reducible refine (PBase.sheet_number.calls 100 _ 4 (nK i) wd N4.out).mono ?_
     rintro e wc ⟨rfl, hb⟩
     refine ⟨_, rfl, ?_⟩
     have HIwc := Aside0.mk (isb_below HIwd.out hb)
     have HBwc := Aside0.mk (HBwd.out.trans (hb.mono HBwd.out.size))
     have HXwc := Aside0.mk (blk_below HXwd.out hb)
     clear hb
     refine hK.out _ _ ⟨((blk_cell HXwc.out 0).trans rfl), ((blk_cell HXwc.out 1).trans rfl), ((blk_cell HXwc.out 3).trans rfl)⟩ (fun hHeld => ?_)
     clear hK K
     refine norm_ (a' := ?_) ?_ ?_
     rotate_left
     ·show Act.put _ (some 37) _ = _
      simp only [Act.put, List.setIfInBounds_toArray, List.set_cons_zero, List.set_cons_succ, i64_w, i32_w]
      rfl
     refine one_ (i := 5) (N := some 40) #[true, true, true, true, true, true, false, true, true, false, false] rfl rfl (by kernel_rfl) (by decide) (fun K hK => ?_)
     refine goes_ Try.func59 (by kernel_rfl) rfl #[.int .i64 (Sz i), .int .i64 2] (by rfl) rfl rfl (by simp only [List.map_toArray, List.map_cons, List.map_nil]; rfl) ?_
     with_reducible refine (PBase.sheet_number.calls 100 _ 2 (nZ i) wc N2.out).mono ?_
     rintro e we ⟨rfl, hb⟩
     refine ⟨_, rfl, ?_⟩
     have HIwe := Aside0.mk (isb_below HIwc.out hb)
     have HBwe := Aside0.mk (HBwc.out.trans (hb.mono HBwc.out.size))
     have HXwe := Aside0.mk (blk_below HXwc.out hb)
     clear hb
     refine hK.out _ _ ⟨((blk_cell HXwe.out 0).trans rfl), ((blk_cell HXwe.out 1).trans rfl), ((blk_cell HXwe.out 3).trans rfl)⟩ (fun hHeld => ?_)
     clear hK K
     refine norm_ (a' := ?_) ?_ ?_
     rotate_left
     ·show Act.put _ (some 40) _ = _
      simp only [Act.put, List.setIfInBounds_toArray, List.set_cons_zero, List.set_cons_succ, i64_w, i32_w]
      rfl
     refine pure_ (i := 6) (N := some 41) (v := ?_) (a' := ?_) #[true, true, true, true, true, true, true, true, true, false, false] rfl rfl (by kernel_rfl) (fun _ _ _ h => h) (Or.inl ⟨by rfl, ?_⟩) ?_ ?_
     rotate_left
     ·intro w'
      go_simp
      first | with_reducible rfl | (rw [if_neg (by (try simp only [ByteArray.size_append]); omega)] <;> with_reducible rfl)
     rotate_left
     ·simp only [Act.put, List.setIfInBounds_toArray, List.set_cons_zero, List.set_cons_succ, i64_w, i32_w]
      rfl
     refine pure_ (i := 9) (N := some 44) (v := ?_) (a' := ?_) #[true, true, true, true, true, true, true, true, true, true, false] rfl rfl (by kernel_rfl) (fun _ _ _ h => h) (Or.inl ⟨by rfl, ?_⟩) ?_ ?_
     rotate_left
     ·intro w'
      go_simp
      first | with_reducible rfl | (rw [if_neg (by (try simp only [ByteArray.size_append]); omega)] <;> with_reducible rfl)
     rotate_left
     ·simp only [Act.put, List.setIfInBounds_toArray, List.set_cons_zero, List.set_cons_succ, i64_w, i32_w]
      rfl
     refine one_ (i := 10) (N := some 45) #[true, true, true, true, true, true, true, true, true, true, true] rfl rfl (by kernel_rfl) (by decide) (fun K hK => ?_)
     refine goes_ Try.func56 (by kernel_rfl) rfl #[.pointer (some ⟨w.heap.size, 0, none⟩), .string (nK i ++ nZ i ++ Bt i)] (by rfl) rfl rfl (by simp only [List.map_toArray, List.map_cons, List.map_nil]; rfl) ?_
     with_reducible refine (write_any w.heap.size w.heap.size _ (nK i ++ nZ i ++ Bt i) we HIwe.out (HLN.out) HBwe.out.size).mono ?_
     rintro e wf ⟨rfl, hi, hb, hk⟩
     refine ⟨_, rfl, ?_⟩
     have HIwf := Aside0.mk hi
     have HBwf := Aside0.mk (HBwe.out.trans hb)
     have HXwf := Aside0.mk (hk _ _ 61 (by decide) HNE.out HXwe.out)
     clear hi hb hk
     refine hK.out _ _ ⟨((blk_cell HXwf.out 0).trans rfl), ((blk_cell HXwf.out 1).trans rfl), ((blk_cell HXwf.out 3).trans rfl)⟩ (fun hHeld => ?_)
     clear hK K
     refine norm_ (a' := ?_) ?_ ?_
     rotate_left
     ·show Act.put _ (some 45) _ = _
      simp only [Act.put, List.setIfInBounds_toArray, List.set_cons_zero, List.set_cons_succ, i64_w, i32_w]
      rfl
     refine done_ (by kernel_rfl) ?_
     have hcy0 : wf.cell? ⟨wr.heap.size, 0, none⟩ = some (.int .i64 (Ky i)) := (blk_cell HXwf.out 0).trans rfl
     have hcy1 : wf.cell? ⟨wr.heap.size, 1, none⟩ = some (.int .i64 (Sz i)) := (blk_cell HXwf.out 1).trans rfl
     have hcy2 : wf.cell? ⟨wr.heap.size, 2, none⟩ = some (.int .i64 (Pg i)) := (blk_cell HXwf.out 2).trans rfl
     have hcy3 : wf.cell? ⟨wr.heap.size, 3, none⟩ = some (.string (Bt i)) := (blk_cell HXwf.out 3).trans rfl
     by_cases h24 : 24 < Sz i
     ·have d24 : decide ((24 : Int) < Sz i) = true := decide_eq_true h24
      have HT1 := Aside0.mk (HT.out i h24)
      have HLP := Aside0.mk (show (Lib.strCells (S j) ++ Lib.strCells (nK i ++ nZ i ++ Bt i)).length + (nP i).size ≤ 140737488355328 by rw [List.length_append, Lib.strCells_length, Lib.strCells_length, ByteArray.size_append, ByteArray.size_append]; have := HZJ.out; have := HSM.out; have := HZP.out i; omega)
      clear h24
      go_wp2_with (first | (go_at_call 59; refine (PBase.sheet_number.calls 100 (Pg i) 2 (nP i) _ N5.out).mono ?_; rintro e w7 ⟨rfl, hb⟩; have HI7 := Aside0.mk (isb_below (.inr HIwf.out) hb); have HB7 := Aside0.mk (HBwf.out.trans (hb.mono HBwf.out.size)); clear hb) | (go_at_call 56; refine (write_any w.heap.size w.heap.size _ (nP i) _ HI7.out HLP.out HB7.out.size).mono ?_; rintro e w8 ⟨rfl, hi, hb, hk⟩; have HI8 := Aside0.mk hi; have HB8 := Aside0.mk (HB7.out.trans hb); clear hi hb hk))
      go_roundw
      case rel => exact ⟨j + 1, HJ.out, by rw [HAJ.out], by rw [HJI.out]; first | rfl | (simp; done) | (simp [wrap64]; have := HN.out; have := HJ.out; omega), ⟨by rw [HSJ.out, HT1.out, strCells_append, strCells_append]; exact .inr HI8.out⟩, HB8, ⟨fun q hq => by
      by_cases hqj : q < j
      ·exact HV.out q hqj
      ·have : q = j := by omega
       rw [this]; exact HVV.out⟩⟩
      case measure => have := HJ.out; have := HJI.out; have := HN.out; simp [intOf, wrap64]; omega
     ·have d24 : decide ((24 : Int) < Sz i) = false := decide_eq_false h24
      have HT1 := Aside0.mk (HT2.out i (by omega))
      clear h24
      go_wp2
      go_roundw
      case rel => exact ⟨j + 1, HJ.out, by rw [HAJ.out], by rw [HJI.out]; first | rfl | (simp; done) | (simp [wrap64]; have := HN.out; have := HJ.out; omega), ⟨by rw [HSJ.out, HT1.out, strCells_append, strCells_append, show Lib.strCells ⟨#[]⟩ = [] from rfl, List.append_nil]; exact .inr HIwf.out⟩, HBwf, ⟨fun q hq => by
      by_cases hqj : q < j
      ·exact HV.out q hqj
      ·have : q = j := by omega
       rw [this]; exact HVV.out⟩⟩
      case measure => have := HJ.out; have := HJI.out; have := HN.out; simp [intOf, wrap64]; omega
  ·have hje : j = n := by omega
   subst hje
   have c0 : decide ((j : Int) < (j : Int)) = false := decide_eq_false (by omega)
   have HF := Aside0.mk (H1.out (fun i hi => HV.out i hi))
   go_wp2_with (first | (go_at_call 61; refine (Go.Proofs.Try.Builder_String_any w.heap.size w.heap.size (S j).data.toList _ (by exact HI.out) HB.out.size).mono ?_; rintro e w4 ⟨rfl, hb⟩; have HB4 := Aside0.mk (HB.out.trans hb); clear hb) | (go_at_call 60; refine (PBase.sheet_full.calls (S j) r1 r2 _ HF.out).mono ?_; rintro e w5 ⟨rfl, hb⟩; have HB5 := Aside0.mk (HB4.out.trans (hb.mono HB4.out.size)); clear hb))
   go_ret2
   exact ⟨rfl, HB5.out⟩
end Go.Proofs.Ytpeeojbhfebcdaa.V


/- ClaySizes, walked. -/
import Derived.Test.YtbjknbfagadhfaaQC6
import Derived.MapKept
import Derived.WideMake
namespace Go.Proofs.Ytbjknbfagadhfaa.PAll
open Go.RowKit Go.Proofs.YtbjknbfagadhfaaW.PrintWords Go.Proofs.YtbjknbfagadhfaaW.PrintLast Go.Proofs.YtbjknbfagadhfaaW.PrintMore
set_option linter.unusedVariables false
set_option linter.unusedSimpArgs false

theorem under66 : Try.prog.underlying 66 = some (.map 3 3) := by kernel_rfl
theorem info_u66 : True := trivial
def ent (k v : Int) (c : Nat) : MapEntry := { key := .int .i64 k, val := .int .i64 v, born := c }

theorem upd_run (w : World) (es : Array MapEntry) (c : Nat) (k v : Int) (h : Instr.findNow (.int .i64) (.int .i64 k) es.toList 0 = some none) :
    (Instr.mapUpdate 66 (.map (some w.heap.size)) (.int .i64 k) (.int .i64 v)).run Try.prog (w.alloc (.map es c)) = .ok () (w.alloc (.map (es.push (ent k v c)) (c + 1))) := by
  have hb := heap_alloc_new w (.map es c)
  have hc := MapKept.run_checkKey (P := Try.prog) (w := w.alloc (.map es c)) (k := .int .i64 k) Try.underlying3 (by simp [MapKept.IsKey]) false 9999
  have hf := MapKept.run_findKey (P := Try.prog) (w := w.alloc (.map es c)) Try.underlying3 h
  simp only [Instr.mapUpdate, Sem.run_bind, run_underlying under66, Result.andThen, MapKept.run_getObj_map hb, hc, hf, MapKept.run_setObj_map _ hb]
  have e : (w.heap.push (Obj.map es c)).setIfInBounds w.heap.size (Obj.map (es.push (ent k v c)) (c + 1)) = w.heap.push (Obj.map (es.push (ent k v c)) (c + 1)) := by
    apply Array.toList_inj.1
    rw [Array.toList_setIfInBounds, Array.toList_push, Array.toList_push, List.set_append, if_neg (by simp)]
    simp
  show Result.ok () { w.alloc (Obj.map es c) with heap := (w.heap.push (Obj.map es c)).setIfInBounds w.heap.size (Obj.map (es.push (ent k v c)) (c + 1)) } = _
  rw [e]; rfl
theorem find_run (w : World) (es : Array MapEntry) (c : Nat) (k : Int) (i : Nat) (v : Value) (h : Instr.findNow (.int .i64) (.int .i64 k) es.toList 0 = some (some (i, v))) :
    (Instr.lookup 66 (.map (some w.heap.size)) (.int .i64 k) false).run Try.prog (w.alloc (.map es c)) = .ok v (w.alloc (.map es c)) := by
  have hb := heap_alloc_new w (.map es c)
  have hc := MapKept.run_checkKey (P := Try.prog) (w := w.alloc (.map es c)) (k := .int .i64 k) Try.underlying3 (by simp [MapKept.IsKey]) es.isEmpty 9999
  have hf := MapKept.run_findKey (P := Try.prog) (w := w.alloc (.map es c)) Try.underlying3 h
  simp only [Instr.lookup, Sem.run_bind, run_underlying under66, Result.andThen, MapKept.run_getObj_map hb, hc, hf, Sem.run_pure]
  rfl
def e1 : Array MapEntry := #[ent 1 62 0]
def e2 : Array MapEntry := e1.push (ent 2 21 1)
def e3 (v : Int) : Array MapEntry := e2.push (ent 3 v 2)

theorem sizes_yes (w : World) (a0 a1 a2 a3 a4 a5 a6 a7 a8 a9 a10 a11 a12 : Int) (A : Option Addr) (c : Nat) (l : List Int) (hr : Kd.C (Kd.int .i64) w A l.length l) (hc : l.length ≤ c) (hl : l.length ≤ 40) (b : ByteArray) (hb : clay_Put.f 3000 a0 a1 a2 a3 a4 a5 a6 a7 a8 a9 a10 a11 a12 l = some (b, true))
    (v n : Int) (hv : v = wrap64 (6 + wrap64 (4 * (l.length : Int)))) (hn : (b.size : Int) = n) (h0b : 0 < b.size) (hk : bt b 0 = a1)
    (hlk : ∀ w : World, (Instr.lookup 66 (.map (some w.heap.size)) (.int .i64 a1) false).run Try.prog (w.alloc (.map (e3 v) 3)) = .ok (.int .i64 n) (w.alloc (.map (e3 v) 3))) :
    Calls Try.prog 6 #[.agg #[.int .i64 a0, .int .i64 a1, .int .i64 a2, .int .i64 a3, .int .i64 a4, .int .i64 a5, .int .i64 a6, .int .i64 a7, .int .i64 a8, .int .i64 a9, .int .i64 a10, .int .i64 a11, .int .i64 a12, .slice A l.length c]] w fun e w' => e = .returned (.bool true) ∧ Below w.heap.size w w' := by
  have h0 : decide ((40 : Int) < (l.length : Int)) = false := decide_eq_false (by omega)
  have HR := Aside0.mk hr
  have HC := Aside0.mk hc
  have HP := Aside0.mk hb
  have hm := @run_makeMap_plain Try.prog
  have u1 := fun w => upd_run w #[] 0 1 62 rfl
  have u2 := fun w => upd_run w e1 1 2 21 rfl
  have u3 := fun w => upd_run w e2 2 3 v rfl
  have r1 : (#[] : Array MapEntry).push (ent 1 62 0) = e1 := rfl
  have r2 : e1.push (ent 2 21 1) = e2 := rfl
  have r3 : e2.push (ent 3 v 2) = e3 v := rfl
  rw [r1] at u1
  rw [r2] at u2
  rw [r3] at u3
  have hv' := hv.symm
  have HQ := Aside0.mk (show ∀ h : 0 < b.size, ((b[0]'h).toNat : Int) = a1 from fun h => (bt_at b 0 h).trans hk)
  have hp0 := h0b
  have hp1 : ((0 : Int) < (b.size : Int)) = True := eq_true (by omega)
  subst hn
  clear r1 r2 r3 hr hc hb hl hv hk
  go_enter Try.func6, Try.ntmps6
  go_wp2_with (first | (go_at_call 11; refine (maquettelaw18_alive.calls 60 true _ alive_60).mono ?_; rintro e w2 ⟨rfl, hB2⟩; have hbx := blk_below (heap_alloc_new w _) hB2; obtain ⟨gz0, gz1, gz2, gz3, gz4, gz5, gz6, gz7, gz8, gz9, gz10, gz11, gz12, gz13⟩ := (⟨(blk_cell hbx 0).trans rfl, (blk_cell hbx 1).trans rfl, (blk_cell hbx 2).trans rfl, (blk_cell hbx 3).trans rfl, (blk_cell hbx 4).trans rfl, (blk_cell hbx 5).trans rfl, (blk_cell hbx 6).trans rfl, (blk_cell hbx 7).trans rfl, (blk_cell hbx 8).trans rfl, (blk_cell hbx 9).trans rfl, (blk_cell hbx 10).trans rfl, (blk_cell hbx 11).trans rfl, (blk_cell hbx 12).trans rfl, (blk_cell hbx 13).trans rfl⟩ : w2.cell? ⟨w.heap.size, 0, none⟩ = some (.int .i64 a0) ∧ w2.cell? ⟨w.heap.size, 1, none⟩ = some (.int .i64 a1) ∧ w2.cell? ⟨w.heap.size, 2, none⟩ = some (.int .i64 a2) ∧ w2.cell? ⟨w.heap.size, 3, none⟩ = some (.int .i64 a3) ∧ w2.cell? ⟨w.heap.size, 4, none⟩ = some (.int .i64 a4) ∧ w2.cell? ⟨w.heap.size, 5, none⟩ = some (.int .i64 a5) ∧ w2.cell? ⟨w.heap.size, 6, none⟩ = some (.int .i64 a6) ∧ w2.cell? ⟨w.heap.size, 7, none⟩ = some (.int .i64 a7) ∧ w2.cell? ⟨w.heap.size, 8, none⟩ = some (.int .i64 a8) ∧ w2.cell? ⟨w.heap.size, 9, none⟩ = some (.int .i64 a9) ∧ w2.cell? ⟨w.heap.size, 10, none⟩ = some (.int .i64 a10) ∧ w2.cell? ⟨w.heap.size, 11, none⟩ = some (.int .i64 a11) ∧ w2.cell? ⟨w.heap.size, 12, none⟩ = some (.int .i64 a12) ∧ w2.cell? ⟨w.heap.size, 13, none⟩ = some (.slice A l.length c)); have HX := Aside0.mk hbx; have HB := Aside0.mk (((Below.refl _ _).alloc (Nat.le_refl _) _).trans (hB2.mono (by simp)) : Below w.heap.size w w2); clear hB2 hbx) | (go_at_call 13; refine (clay_Put.calls 3000 a0 a1 a2 a3 a4 a5 a6 a7 a8 a9 a10 a11 a12 A c l b true _ (Kd.C_below HR.out HB.out) HC.out HP.out).mono ?_; rintro e w3 ⟨rfl, hB3⟩; have hbx := blk_below HX.out hB3; obtain ⟨hz0, hz1, hz2, hz3, hz4, hz5, hz6, hz7, hz8, hz9, hz10, hz11, hz12, hz13⟩ := (⟨(blk_cell hbx 0).trans rfl, (blk_cell hbx 1).trans rfl, (blk_cell hbx 2).trans rfl, (blk_cell hbx 3).trans rfl, (blk_cell hbx 4).trans rfl, (blk_cell hbx 5).trans rfl, (blk_cell hbx 6).trans rfl, (blk_cell hbx 7).trans rfl, (blk_cell hbx 8).trans rfl, (blk_cell hbx 9).trans rfl, (blk_cell hbx 10).trans rfl, (blk_cell hbx 11).trans rfl, (blk_cell hbx 12).trans rfl, (blk_cell hbx 13).trans rfl⟩ : w3.cell? ⟨w.heap.size, 0, none⟩ = some (.int .i64 a0) ∧ w3.cell? ⟨w.heap.size, 1, none⟩ = some (.int .i64 a1) ∧ w3.cell? ⟨w.heap.size, 2, none⟩ = some (.int .i64 a2) ∧ w3.cell? ⟨w.heap.size, 3, none⟩ = some (.int .i64 a3) ∧ w3.cell? ⟨w.heap.size, 4, none⟩ = some (.int .i64 a4) ∧ w3.cell? ⟨w.heap.size, 5, none⟩ = some (.int .i64 a5) ∧ w3.cell? ⟨w.heap.size, 6, none⟩ = some (.int .i64 a6) ∧ w3.cell? ⟨w.heap.size, 7, none⟩ = some (.int .i64 a7) ∧ w3.cell? ⟨w.heap.size, 8, none⟩ = some (.int .i64 a8) ∧ w3.cell? ⟨w.heap.size, 9, none⟩ = some (.int .i64 a9) ∧ w3.cell? ⟨w.heap.size, 10, none⟩ = some (.int .i64 a10) ∧ w3.cell? ⟨w.heap.size, 11, none⟩ = some (.int .i64 a11) ∧ w3.cell? ⟨w.heap.size, 12, none⟩ = some (.int .i64 a12) ∧ w3.cell? ⟨w.heap.size, 13, none⟩ = some (.slice A l.length c)); clear gz0 gz1 gz2 gz3 gz4 gz5 gz6 gz7 gz8 gz9 gz10 gz11 gz12 gz13; have hy13 : ∀ o : Obj, (w3.alloc o).cell? ⟨w.heap.size, 13, none⟩ = some (.slice A l.length c) := fun o => (blk_cell (blk_alloc hbx o) 13).trans rfl; have hy1 : ∀ o : Obj, (w3.alloc o).cell? ⟨w.heap.size, 1, none⟩ = some (.int .i64 a1) := fun o => (blk_cell (blk_alloc hbx o) 1).trans rfl; have HB3 := Aside0.mk (HB.out.trans (hB3.mono HB.out.size)); clear hB3 hbx HX HB))
  go_quiet (fail)
  go_wp2
  go_ret
  refine ⟨?_, pw_below_drewN (HB3.out.alloc HB3.out.size _) _⟩
  have hx := HQ.out h0b
  have h256 := (b[0]'h0b).toNat_lt
  show Ending.returned (.bool (wrap64 ((b[0]'h0b).toNat : Int) == a1)) = _
  rw [show wrap64 ((b[0]'h0b).toNat : Int) = a1 from by unfold wrap64; omega, beq_self_eq_true]

theorem sizes_long (w : World) (a0 a1 a2 a3 a4 a5 a6 a7 a8 a9 a10 a11 a12 : Int) (A : Option Addr) (c : Nat) (l : List Int) (hl : 40 < l.length) :
    Calls Try.prog 6 #[.agg #[.int .i64 a0, .int .i64 a1, .int .i64 a2, .int .i64 a3, .int .i64 a4, .int .i64 a5, .int .i64 a6, .int .i64 a7, .int .i64 a8, .int .i64 a9, .int .i64 a10, .int .i64 a11, .int .i64 a12, .slice A l.length c]] w fun e w' => e = .returned (.bool true) ∧ Below w.heap.size w w' := by
  have h0 : decide ((40 : Int) < (l.length : Int)) = true := decide_eq_true (by omega)
  clear hl
  go_enter Try.func6, Try.ntmps6
  go_wp2_with (first | (go_at_call 11; refine (maquettelaw18_alive.calls 60 true _ alive_60).mono ?_; rintro e w2 ⟨rfl, hB2⟩; have HB2 := Aside0.mk hB2; clear hB2))
  go_ret
  exact ⟨rfl, ((Below.refl _ _).alloc (Nat.le_refl _) _).trans (HB2.out.mono (by simp))⟩

theorem sizes_no (w : World) (a0 a1 a2 a3 a4 a5 a6 a7 a8 a9 a10 a11 a12 : Int) (A : Option Addr) (c : Nat) (l : List Int) (hr : Kd.C (Kd.int .i64) w A l.length l) (hc : l.length ≤ c) (hl : l.length ≤ 40) (hT : ¬ okT a0 a1 a2 a3 a4 a5 a6 a7 a8 a9 a10 a11 a12 l) :
    Calls Try.prog 6 #[.agg #[.int .i64 a0, .int .i64 a1, .int .i64 a2, .int .i64 a3, .int .i64 a4, .int .i64 a5, .int .i64 a6, .int .i64 a7, .int .i64 a8, .int .i64 a9, .int .i64 a10, .int .i64 a11, .int .i64 a12, .slice A l.length c]] w fun e w' => e = .returned (.bool true) ∧ Below w.heap.size w w' := by
  have h0 : decide ((40 : Int) < (l.length : Int)) = false := decide_eq_false (by omega)
  have HR := Aside0.mk hr
  have HC := Aside0.mk hc
  have HP := Aside0.mk (show clay_Put.f 3000 a0 a1 a2 a3 a4 a5 a6 a7 a8 a9 a10 a11 a12 l = some ((⟨#[]⟩ : ByteArray), false) by rw [put_k _ _ _ _ _ _ _ _ _ _ _ _ _ l (by omega) _ (by omega), if_neg hT])
  have HT := Aside0.mk (show clay_Right.f 3000 a0 a1 a2 a3 a4 a5 a6 a7 a8 a9 a10 a11 a12 l = some false by rw [right_k _ _ _ _ _ _ _ _ _ _ _ _ _ l (by omega) _ (by omega), decide_eq_false hT])
  clear hl hT hr hc
  go_enter Try.func6, Try.ntmps6
  go_wp2_with (first | (go_at_call 11; refine (maquettelaw18_alive.calls 60 true _ alive_60).mono ?_; rintro e w2 ⟨rfl, hB2⟩; have hbx := blk_below (heap_alloc_new w _) hB2; obtain ⟨gz0, gz1, gz2, gz3, gz4, gz5, gz6, gz7, gz8, gz9, gz10, gz11, gz12, gz13⟩ := (⟨(blk_cell hbx 0).trans rfl, (blk_cell hbx 1).trans rfl, (blk_cell hbx 2).trans rfl, (blk_cell hbx 3).trans rfl, (blk_cell hbx 4).trans rfl, (blk_cell hbx 5).trans rfl, (blk_cell hbx 6).trans rfl, (blk_cell hbx 7).trans rfl, (blk_cell hbx 8).trans rfl, (blk_cell hbx 9).trans rfl, (blk_cell hbx 10).trans rfl, (blk_cell hbx 11).trans rfl, (blk_cell hbx 12).trans rfl, (blk_cell hbx 13).trans rfl⟩ : w2.cell? ⟨w.heap.size, 0, none⟩ = some (.int .i64 a0) ∧ w2.cell? ⟨w.heap.size, 1, none⟩ = some (.int .i64 a1) ∧ w2.cell? ⟨w.heap.size, 2, none⟩ = some (.int .i64 a2) ∧ w2.cell? ⟨w.heap.size, 3, none⟩ = some (.int .i64 a3) ∧ w2.cell? ⟨w.heap.size, 4, none⟩ = some (.int .i64 a4) ∧ w2.cell? ⟨w.heap.size, 5, none⟩ = some (.int .i64 a5) ∧ w2.cell? ⟨w.heap.size, 6, none⟩ = some (.int .i64 a6) ∧ w2.cell? ⟨w.heap.size, 7, none⟩ = some (.int .i64 a7) ∧ w2.cell? ⟨w.heap.size, 8, none⟩ = some (.int .i64 a8) ∧ w2.cell? ⟨w.heap.size, 9, none⟩ = some (.int .i64 a9) ∧ w2.cell? ⟨w.heap.size, 10, none⟩ = some (.int .i64 a10) ∧ w2.cell? ⟨w.heap.size, 11, none⟩ = some (.int .i64 a11) ∧ w2.cell? ⟨w.heap.size, 12, none⟩ = some (.int .i64 a12) ∧ w2.cell? ⟨w.heap.size, 13, none⟩ = some (.slice A l.length c)); have HX := Aside0.mk hbx; have HB := Aside0.mk (((Below.refl _ _).alloc (Nat.le_refl _) _).trans (hB2.mono (by simp)) : Below w.heap.size w w2); clear hB2 hbx) | (go_at_call 13; refine (clay_Put.calls 3000 a0 a1 a2 a3 a4 a5 a6 a7 a8 a9 a10 a11 a12 A c l ⟨#[]⟩ false _ (Kd.C_below HR.out HB.out) HC.out HP.out).mono ?_; rintro e w3 ⟨rfl, hB3⟩; have hbx := blk_below HX.out hB3; obtain ⟨hz0, hz1, hz2, hz3, hz4, hz5, hz6, hz7, hz8, hz9, hz10, hz11, hz12, hz13⟩ := (⟨(blk_cell hbx 0).trans rfl, (blk_cell hbx 1).trans rfl, (blk_cell hbx 2).trans rfl, (blk_cell hbx 3).trans rfl, (blk_cell hbx 4).trans rfl, (blk_cell hbx 5).trans rfl, (blk_cell hbx 6).trans rfl, (blk_cell hbx 7).trans rfl, (blk_cell hbx 8).trans rfl, (blk_cell hbx 9).trans rfl, (blk_cell hbx 10).trans rfl, (blk_cell hbx 11).trans rfl, (blk_cell hbx 12).trans rfl, (blk_cell hbx 13).trans rfl⟩ : w3.cell? ⟨w.heap.size, 0, none⟩ = some (.int .i64 a0) ∧ w3.cell? ⟨w.heap.size, 1, none⟩ = some (.int .i64 a1) ∧ w3.cell? ⟨w.heap.size, 2, none⟩ = some (.int .i64 a2) ∧ w3.cell? ⟨w.heap.size, 3, none⟩ = some (.int .i64 a3) ∧ w3.cell? ⟨w.heap.size, 4, none⟩ = some (.int .i64 a4) ∧ w3.cell? ⟨w.heap.size, 5, none⟩ = some (.int .i64 a5) ∧ w3.cell? ⟨w.heap.size, 6, none⟩ = some (.int .i64 a6) ∧ w3.cell? ⟨w.heap.size, 7, none⟩ = some (.int .i64 a7) ∧ w3.cell? ⟨w.heap.size, 8, none⟩ = some (.int .i64 a8) ∧ w3.cell? ⟨w.heap.size, 9, none⟩ = some (.int .i64 a9) ∧ w3.cell? ⟨w.heap.size, 10, none⟩ = some (.int .i64 a10) ∧ w3.cell? ⟨w.heap.size, 11, none⟩ = some (.int .i64 a11) ∧ w3.cell? ⟨w.heap.size, 12, none⟩ = some (.int .i64 a12) ∧ w3.cell? ⟨w.heap.size, 13, none⟩ = some (.slice A l.length c)); clear gz0 gz1 gz2 gz3 gz4 gz5 gz6 gz7 gz8 gz9 gz10 gz11 gz12 gz13; have HB3 := Aside0.mk (HB.out.trans (hB3.mono HB.out.size)); clear hB3 hbx HX HB) | (go_at_call 18; refine (clay_Right.calls 3000 a0 a1 a2 a3 a4 a5 a6 a7 a8 a9 a10 a11 a12 A c l false _ (Kd.C_below HR.out HB3.out) HC.out HT.out).mono ?_; rintro e w4 ⟨rfl, hB4⟩; have HB4 := Aside0.mk (HB3.out.trans (hB4.mono HB3.out.size)); clear hB4))
  go_ret
  exact ⟨rfl, HB4.out⟩

/-- whatever the thing, the law returns true -/
theorem sizes_any (w : World) (a0 a1 a2 a3 a4 a5 a6 a7 a8 a9 a10 a11 a12 : Int) (A : Option Addr) (c : Nat) (l : List Int) (hr : Kd.C (Kd.int .i64) w A l.length l) (hc : l.length ≤ c) :
    Calls Try.prog 6 #[.agg #[.int .i64 a0, .int .i64 a1, .int .i64 a2, .int .i64 a3, .int .i64 a4, .int .i64 a5, .int .i64 a6, .int .i64 a7, .int .i64 a8, .int .i64 a9, .int .i64 a10, .int .i64 a11, .int .i64 a12, .slice A l.length c]] w fun e w' => e = .returned (.bool true) ∧ Below w.heap.size w w' := by
  by_cases hl : 40 < l.length
  · exact sizes_long w a0 a1 a2 a3 a4 a5 a6 a7 a8 a9 a10 a11 a12 A c l hl
  · by_cases hT : okT a0 a1 a2 a3 a4 a5 a6 a7 a8 a9 a10 a11 a12 l
    · obtain ⟨t, ht, hs⟩ := putL_shape hT
      have hok := okB_putL a0 a1 a2 a3 a4 a5 a6 a7 a8 a9 a10 a11 a12 l
      have hsz : (strOfNums (putL a0 a1 a2 a3 a4 a5 a6 a7 a8 a9 a10 a11 a12 l)).size = t.length + 1 := by rw [strOfNums_size, ht, List.length_cons]
      have hP : clay_Put.f 3000 a0 a1 a2 a3 a4 a5 a6 a7 a8 a9 a10 a11 a12 l = some (strOfNums (putL a0 a1 a2 a3 a4 a5 a6 a7 a8 a9 a10 a11 a12 l), true) := by rw [put_k _ _ _ _ _ _ _ _ _ _ _ _ _ l (by omega) _ (by omega), if_pos hT]
      have hbt : bt (strOfNums (putL a0 a1 a2 a3 a4 a5 a6 a7 a8 a9 a10 a11 a12 l)) 0 = a1 := by rw [bt_strOf hok, ht]; rfl
      refine sizes_yes w a0 a1 a2 a3 a4 a5 a6 a7 a8 a9 a10 a11 a12 A c l hr hc (by omega) _ hP _ _ rfl rfl (by omega) hbt ?_
      intro w
      rw [hsz]
      rcases hs with ⟨h1, h2⟩ | ⟨h1, h2⟩ | ⟨h1, h2, h3, h4⟩
      · rw [h2, h1]; exact find_run w (e3 _) 3 1 0 _ rfl
      · rw [h2, h1]; exact find_run w (e3 _) 3 2 1 _ rfl
      · rw [h2, h1, show ((5 + 4 * l.length + 1 : Nat) : Int) = wrap64 (6 + wrap64 (4 * (l.length : Int))) from by unfold wrap64; omega]
        exact find_run w (e3 _) 3 3 2 _ rfl
    · exact sizes_no w a0 a1 a2 a3 a4 a5 a6 a7 a8 a9 a10 a11 a12 A c l hr hc (by omega) hT
end Go.Proofs.Ytbjknbfagadhfaa.PAll

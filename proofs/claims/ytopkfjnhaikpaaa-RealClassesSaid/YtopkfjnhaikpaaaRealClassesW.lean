/- The walk of RealClasses. -/
import Derived.Test.YtopkfjnhaikpaaaRealSignsW
import Derived.MapKept
import Derived.WideMake
namespace Go.Proofs.Ytopkfjnhaikpaaa
open Go.Fl
open Go.RowKit (wrap64 Hid Below)

theorem under37 : Try.prog.underlying 37 = some (.map 3 3) := by kernel_rfl

def ent (k v : Int) (c : Nat) : MapEntry := { key := .int .i64 k, val := .int .i64 v, born := c }

theorem heap_alloc (w : World) (o : Obj) : (w.alloc o).heap[w.heap.size]? = some o := by
  show (w.heap.push o)[w.heap.size]? = some o
  simp

theorem upd_run (w : World) (es : Array MapEntry) (c : Nat) (k v : Int) (h : Instr.findNow (.int .i64) (.int .i64 k) es.toList 0 = some none) :
    (Instr.mapUpdate 37 (.map (some w.heap.size)) (.int .i64 k) (.int .i64 v)).run Try.prog (w.alloc (.map es c)) = .ok () (w.alloc (.map (es.push (ent k v c)) (c + 1))) := by
  have hb := heap_alloc w (.map es c)
  have hc := MapKept.run_checkKey (P := Try.prog) (w := w.alloc (.map es c)) (k := .int .i64 k) Try.underlying3 (by simp [MapKept.IsKey]) false 9999
  have hf := MapKept.run_findKey (P := Try.prog) (w := w.alloc (.map es c)) Try.underlying3 h
  simp only [Instr.mapUpdate, Sem.run_bind, run_underlying under37, Result.andThen, MapKept.run_getObj_map hb, hc, hf, MapKept.run_setObj_map _ hb]
  have e : (w.heap.push (Obj.map es c)).setIfInBounds w.heap.size (Obj.map (es.push (ent k v c)) (c + 1)) = w.heap.push (Obj.map (es.push (ent k v c)) (c + 1)) := by
    apply Array.toList_inj.1
    rw [Array.toList_setIfInBounds, Array.toList_push, Array.toList_push, List.set_append, if_neg (by simp)]
    simp
  show Result.ok () { w.alloc (Obj.map es c) with heap := (w.heap.push (Obj.map es c)).setIfInBounds w.heap.size (Obj.map (es.push (ent k v c)) (c + 1)) } = _
  rw [e]; rfl

theorem find_run (w : World) (es : Array MapEntry) (c : Nat) (k : Int) (i : Nat) (v : Value) (h : Instr.findNow (.int .i64) (.int .i64 k) es.toList 0 = some (some (i, v))) :
    (Instr.lookup 37 (.map (some w.heap.size)) (.int .i64 k) false).run Try.prog (w.alloc (.map es c)) = .ok v (w.alloc (.map es c)) := by
  have hb := heap_alloc w (.map es c)
  have hc := MapKept.run_checkKey (P := Try.prog) (w := w.alloc (.map es c)) (k := .int .i64 k) Try.underlying3 (by simp [MapKept.IsKey]) es.isEmpty 9999
  have hf := MapKept.run_findKey (P := Try.prog) (w := w.alloc (.map es c)) Try.underlying3 h
  simp only [Instr.lookup, Sem.run_bind, run_underlying under37, Result.andThen, MapKept.run_getObj_map hb, hc, hf, Sem.run_pure]
  rfl

def e1 : Array MapEntry := #[ent 1 1 0]
def e2 : Array MapEntry := e1.push (ent 2 3 1)
def e3 : Array MapEntry := e2.push (ent 3 2 2)
def e4 : Array MapEntry := e3.push (ent 4 5 3)
def e5 : Array MapEntry := e4.push (ent 5 4 4)
def e6 : Array MapEntry := e5.push (ent 6 6 5)
def e7 : Array MapEntry := e6.push (ent 7 7 6)

/-- the kind of the number with its sign turned -/
def tk (c : Int) : Int := if c = 2 then 3 else if c = 3 then 2 else if c = 4 then 5 else if c = 5 then 4 else c

theorem classes_core (x : Nat) (c d : Int) (X : Hid (x < 18446744073709551616)) (T : Hid (turned x < 18446744073709551616)) (w : World)
    (h1 : cls x = c) (h2 : cls (turned x) = d) (g1 : 1 ≤ c) (g2 : c ≤ 7)
    (hl : ∀ w : World, (Instr.lookup 37 (.map (some w.heap.size)) (.int .i64 c) false).run Try.prog (w.alloc (.map e7 7)) = .ok (.int .i64 d) (w.alloc (.map e7 7)))
    (b1 b4 b5 b2 b3 : Bool) (k1 : (c == 1) = b1) (k2 : (c == 2) = b2) (k3 : (c == 3) = b3) (k4 : (c == 4) = b4) (k5 : (c == 5) = b5)
    (n1 : (FloatKind.f64.format.order x x != some .eq) = b1) (n2 : (FloatKind.f64.format.order x 0 == some .eq) = (b4 || b5)) (n3 : isInf x 0 = (b2 || b3)) :
    Calls Try.prog 6 #[.int .u64 (x : Int)] w fun e w' => e = .returned (.bool true) ∧ Below w.heap.size w w' := by
  have hm := @run_makeMap_plain Try.prog
  have u1 := fun w => upd_run w #[] 0 1 1 rfl
  have u2 := fun w => upd_run w e1 1 2 3 rfl
  have u3 := fun w => upd_run w e2 2 3 2 rfl
  have u4 := fun w => upd_run w e3 3 4 5 rfl
  have u5 := fun w => upd_run w e4 4 5 4 rfl
  have u6 := fun w => upd_run w e5 5 6 6 rfl
  have u7 := fun w => upd_run w e6 6 7 7 rfl
  have r1 : (#[] : Array MapEntry).push (ent 1 1 0) = e1 := rfl
  have r2 : e1.push (ent 2 3 1) = e2 := rfl
  have r3 : e2.push (ent 3 2 2) = e3 := rfl
  have r4 : e3.push (ent 4 5 3) = e4 := rfl
  have r5 : e4.push (ent 5 4 4) = e5 := rfl
  have r6 : e5.push (ent 6 6 5) = e6 := rfl
  have r7 : e6.push (ent 7 7 6) = e7 := rfl
  rw [r1] at u1
  rw [r2] at u2
  rw [r3] at u3
  rw [r4] at u4
  rw [r5] at u5
  rw [r6] at u6
  rw [r7] at u7
  clear r1 r2 r3 r4 r5 r6 r7
  go_enter Try.func6, Try.ntmps6
  go_wp2_with (first | (go_at_call 15; refine (alive_any _).mono ?_; rintro e w' ⟨rfl, rfl⟩) | (go_at_call 21; refine (class_any _ (by first | exact X.out | exact T.out) _).mono ?_; rintro e w' ⟨rfl, rfl⟩) | (go_at_call 22; refine (isInf_any _ _ (by decide) X.out _).mono ?_; rintro e w' ⟨rfl, rfl⟩))
  all_goals
    go_ret
    exact ⟨ret_bool (by first | rfl | simp [*]), (RowKit.Below.refl _ _).alloc (Nat.le_refl _) _⟩

theorem cls_range (x : Nat) : 1 ≤ cls x ∧ cls x ≤ 7 := by
  unfold cls; split
  · omega
  · split
    · split <;> omega
    · split
      · split <;> omega
      · split <;> omega

theorem cls_turned {x : Nat} (h : x < 18446744073709551616) : cls (turned x) = tk (cls x) := by
  unfold cls tk; rw [rg_turned h, neg_turned h]
  by_cases a1 : 9218868437227405312 < rg x
  · rw [if_pos a1, if_pos a1]; decide
  · rw [if_neg a1, if_neg a1]
    by_cases a2 : rg x = 9218868437227405312
    · rw [if_pos a2, if_pos a2]; cases neg x <;> decide
    · rw [if_neg a2, if_neg a2]
      by_cases a3 : rg x = 0
      · rw [if_pos a3, if_pos a3]; cases neg x <;> decide
      · rw [if_neg a3, if_neg a3]; split <;> decide

theorem cls_tells (x : Nat) : (cls x == 1) = !decide (num x) ∧ decide (rg x = 0) = (cls x == 4 || cls x == 5) ∧ decide (rg x = 9218868437227405312) = (cls x == 2 || cls x == 3) := by
  unfold cls num
  by_cases a1 : 9218868437227405312 < rg x
  · rw [if_pos a1]
    have e1 : ¬ rg x = 0 := by omega
    have e2 : ¬ rg x = 9218868437227405312 := by omega
    have e3 : ¬ rg x ≤ 9218868437227405312 := by omega
    simp [e1, e2, e3]
  · rw [if_neg a1]
    by_cases a2 : rg x = 9218868437227405312
    · rw [if_pos a2]; cases neg x <;> simp [a2]
    · rw [if_neg a2]
      by_cases a3 : rg x = 0
      · rw [if_pos a3]; cases neg x <;> simp [a3]
      · rw [if_neg a3]
        have e3 : rg x ≤ 9218868437227405312 := by omega
        split <;> simp [a2, a3, e3]

theorem RealClasses_walk (a0 : Int) (w0 : (Lit.int .u64 a0).wf = true) (w : World) :
    Calls Try.prog 6 #[.int .u64 a0] w fun e w' => e = .returned (.bool true) ∧ Below w.heap.size w w' := by
  have b0 := bounds_u64 w0
  obtain ⟨x, rfl⟩ := Int.eq_ofNat_of_zero_le b0.1
  have hx : x < 18446744073709551616 := by omega
  obtain ⟨g1, g2⟩ := cls_range x
  obtain ⟨t1, t2, t3⟩ := cls_tells x
  refine classes_core x _ _ (Lib.hid hx) (Lib.hid (turned_lt hx)) w rfl rfl g1 g2 ?_ _ _ _ _ _ rfl rfl rfl rfl rfl ((order_self x).trans t1.symm) ((zero_eq x).trans t2) ((isInf_0 x).trans t3)
  intro w
  rw [cls_turned hx]
  generalize cls x = c at *
  have hc : c = 1 ∨ c = 2 ∨ c = 3 ∨ c = 4 ∨ c = 5 ∨ c = 6 ∨ c = 7 := by omega
  rcases hc with rfl | rfl | rfl | rfl | rfl | rfl | rfl
  · exact find_run w e7 7 1 0 _ rfl
  · exact find_run w e7 7 2 1 _ rfl
  · exact find_run w e7 7 3 2 _ rfl
  · exact find_run w e7 7 4 3 _ rfl
  · exact find_run w e7 7 5 4 _ rfl
  · exact find_run w e7 7 6 5 _ rfl
  · exact find_run w e7 7 7 6 _ rfl
end Go.Proofs.Ytopkfjnhaikpaaa

/- Of the texts that the row stands on, what it needs (part 13), put together by a program of this session. -/
import Derived.Test.YtpeeojbhfebcdaaZtT3
import Derived.Test.YtpeeojbhfebcdaaZtT11
import Derived.Test.YtpeeojbhfebcdaaZtT12
import Derived.Deep.DeepMust
import Derived.Deep.DeepCutAuto
import Derived.Deep.CutBlock
import Derived.Outline
section
namespace Go.Proofs.Ytpeeojbhfebcdaa.V
open Go.RowKit Go.Proofs.YtpeeojbhfebcdaaW.PrintWords Go.Proofs.YtpeeojbhfebcdaaW.PrintLast Go.Proofs.YtpeeojbhfebcdaaW.PrintMore
set_option linter.unusedVariables false
set_option linter.unusedSimpArgs false
abbrev R2 := Int × ByteArray
abbrev C4 := Int × Int × Int × ByteArray
abbrev S2 := Int × Int
def kR : Kd R2 := Kd.pair (Kd.int .i64) Kd.string
def kC : Kd C4 := Kd.pair (Kd.int .i64) (Kd.pair (Kd.int .i64) (Kd.pair (Kd.int .i64) Kd.string))
def kS : Kd S2 := Kd.pair (Kd.int .i64) (Kd.int .i64)
theorem C_iso {α β : Type} {d : Kd α} {f : β → α} {w : World} {A : Option Addr} {n : Nat} {xs : List β} (h : Kd.C (Kd.iso d f) w A n xs) : Kd.C d w A n (xs.map f) := by
  obtain ⟨h1, h2, h3⟩ := h
  refine ⟨by rw [List.length_map]; exact h1, h2, fun hp => ?_⟩
  obtain ⟨ad, e, hc⟩ := h3 hp
  refine ⟨ad, e, fun j p hj => ?_⟩
  rw [List.getElem?_map] at hj
  obtain ⟨x, hx, rfl⟩ := Option.map_eq_some_iff.1 hj
  exact hc j x hx
theorem C_iso_mk {α β : Type} {d : Kd α} {f : β → α} {w : World} {A : Option Addr} {n : Nat} {xs : List β} (h : Kd.C d w A n (xs.map f)) : Kd.C (Kd.iso d f) w A n xs := by
  obtain ⟨h1, h2, h3⟩ := h
  refine ⟨by rw [List.length_map] at h1; exact h1, h2, fun hp => ?_⟩
  obtain ⟨ad, e, hc⟩ := h3 hp
  refine ⟨ad, e, fun j p hj => ?_⟩
  exact hc j (f p) (by rw [List.getElem?_map, hj]; rfl)
theorem reps_iso {α β : Type} {R : α → List Value → Prop} {f : β → α} {k : Nat} {xs : List β} {cs : List Value} (h : Reps R k (xs.map f) cs) : Reps (fun x c => R (f x) c) k xs cs :=
  ⟨by rw [h.1, List.length_map], fun j p hj => h.2 j (f p) (by rw [List.getElem?_map, hj]; rfl)⟩
theorem iso_reps {α β : Type} {R : α → List Value → Prop} {f : β → α} {k : Nat} {xs : List β} {cs : List Value} (h : Reps (fun x c => R (f x) c) k xs cs) : Reps R k (xs.map f) cs :=
 ⟨by rw [h.1, List.length_map], fun j p hj => by
  rw [List.getElem?_map] at hj
  obtain ⟨x, hx, rfl⟩ := Option.map_eq_some_iff.1 hj
  exact h.2 j x hx⟩
theorem R_iso {α β : Type} {d : Kd α} {f : β → α} {e : Nat} {w : World} {base : Nat} {ok : Nat → Prop} {v : Value} {xs : List β} (h : Kd.R (Kd.iso d f) e w base ok v xs) : Kd.R d e w base ok v (xs.map f) := by
  obtain ⟨h0, inner, ho, hr⟩ := h
  exact ⟨h0, inner, by rw [List.length_map]; exact ho, iso_reps hr⟩
theorem R_iso_mk {α β : Type} {d : Kd α} {f : β → α} {e : Nat} {w : World} {base : Nat} {ok : Nat → Prop} {v : Value} {xs : List β} (h : Kd.R d e w base ok v (xs.map f)) : Kd.R (Kd.iso d f) e w base ok v xs := by
  obtain ⟨h0, inner, ho, hr⟩ := h
  exact ⟨h0, inner, by rw [List.length_map] at ho; exact ho, reps_iso (f := f) hr⟩
theorem kR_open {w : World} {x : R2} {cs : List Value} (h : kR.K w x cs) : cs = [.int .i64 x.1, .string x.2] := by
  obtain ⟨_, _, rfl, rfl, rfl⟩ := h
  exact rfl
theorem kR_mkM (w : World) (base : Nat) (ok : Nat → Prop) (x : R2)  : kR.M w base ok x [.int .i64 x.1, .string x.2] := ⟨[.int .i64 x.1], [.string x.2], rfl, rfl, rfl⟩
theorem kS_open {w : World} {x : S2} {cs : List Value} (h : kS.K w x cs) : cs = [.int .i64 x.1, .int .i64 x.2] := by
  obtain ⟨_, _, rfl, rfl, rfl⟩ := h
  exact rfl
theorem kS_mkM (w : World) (base : Nat) (ok : Nat → Prop) (x : S2)  : kS.M w base ok x [.int .i64 x.1, .int .i64 x.2] := ⟨[.int .i64 x.1], [.int .i64 x.2], rfl, rfl, rfl⟩
theorem kC_open {w : World} {x : C4} {cs : List Value} (h : kC.K w x cs) : cs = [.int .i64 x.1, .int .i64 x.2.1, .int .i64 x.2.2.1, .string x.2.2.2] := by
  obtain ⟨_, _, rfl, rfl, ⟨_, _, rfl, rfl, ⟨_, _, rfl, rfl, rfl⟩⟩⟩ := h
  exact rfl
theorem kC_mk (w : World) (x : C4)  : kC.K w x [.int .i64 x.1, .int .i64 x.2.1, .int .i64 x.2.2.1, .string x.2.2.2] := ⟨[.int .i64 x.1], [.int .i64 x.2.1, .int .i64 x.2.2.1, .string x.2.2.2], rfl, rfl, ⟨[.int .i64 x.2.1], [.int .i64 x.2.2.1, .string x.2.2.2], rfl, rfl, ⟨[.int .i64 x.2.2.1], [.string x.2.2.2], rfl, rfl, rfl⟩⟩⟩
theorem kC_mkM (w : World) (base : Nat) (ok : Nat → Prop) (x : C4)  : kC.M w base ok x [.int .i64 x.1, .int .i64 x.2.1, .int .i64 x.2.2.1, .string x.2.2.2] := ⟨[.int .i64 x.1], [.int .i64 x.2.1, .int .i64 x.2.2.1, .string x.2.2.2], rfl, rfl, ⟨[.int .i64 x.2.1], [.int .i64 x.2.2.1, .string x.2.2.2], rfl, rfl, ⟨[.int .i64 x.2.2.1], [.string x.2.2.2], rfl, rfl, rfl⟩⟩⟩
def zR : R2 := (0, ⟨#[]⟩)
def zC : C4 := (0, 0, 0, ⟨#[]⟩)
def zS : S2 := (0, 0)
def atR (l : List R2) (i : Nat) : R2 := l.getD i zR
def atC (l : List C4) (i : Nat) : C4 := l.getD i zC
def atS (l : List S2) (i : Nat) : S2 := l.getD i zS
theorem at_R {w : World} {A : Option Addr} {n : Nat} {xs : List R2} (h : Kd.C kR w A n xs) (i : Nat) (h1 : i < n) : ∃ ad, A = some ad ∧ w.cell? (ad.add (i * 2)) = some (.int .i64 (atR xs i).1) ∧ w.cell? ⟨(ad.add (i * 2)).block, (ad.add (i * 2)).off + 1, none⟩ = some (.string (atR xs i).2) := by
  obtain ⟨ad, c, e, _, hK, hc0⟩ := Kd.C_get h zR (i : Int) (by omega) (by omega)
  have hc : ∀ j u, c[j]? = some u → w.cell? (ad.add (i * 2 + j)) = some u := hc0
  obtain rfl := kR_open hK
  exact ⟨ad, e, hc 0 _ rfl, by rw [← add_field _ _ 1 (by omega)]; exact hc 1 _ rfl⟩
theorem at_S {w : World} {A : Option Addr} {n : Nat} {xs : List S2} (h : Kd.C kS w A n xs) (i : Nat) (h1 : i < n) : ∃ ad, A = some ad ∧ w.cell? (ad.add (i * 2)) = some (.int .i64 (atS xs i).1) ∧ w.cell? ⟨(ad.add (i * 2)).block, (ad.add (i * 2)).off + 1, none⟩ = some (.int .i64 (atS xs i).2) := by
  obtain ⟨ad, c, e, _, hK, hc0⟩ := Kd.C_get h zS (i : Int) (by omega) (by omega)
  have hc : ∀ j u, c[j]? = some u → w.cell? (ad.add (i * 2 + j)) = some u := hc0
  obtain rfl := kS_open hK
  exact ⟨ad, e, hc 0 _ rfl, by rw [← add_field _ _ 1 (by omega)]; exact hc 1 _ rfl⟩
theorem at_C {w : World} {A : Option Addr} {n : Nat} {xs : List C4} (h : Kd.C kC w A n xs) (i : Nat) (h1 : i < n) : ∃ ad, A = some ad ∧ w.cell? (ad.add (i * 4)) = some (.int .i64 (atC xs i).1) ∧ w.cell? ⟨(ad.add (i * 4)).block, (ad.add (i * 4)).off + 1, none⟩ = some (.int .i64 (atC xs i).2.1) ∧ w.cell? ⟨(ad.add (i * 4)).block, (ad.add (i * 4)).off + 2, none⟩ = some (.int .i64 (atC xs i).2.2.1) ∧ w.cell? ⟨(ad.add (i * 4)).block, (ad.add (i * 4)).off + 3, none⟩ = some (.string (atC xs i).2.2.2) := by
  obtain ⟨ad, c, e, _, hK, hc0⟩ := Kd.C_get h zC (i : Int) (by omega) (by omega)
  have hc : ∀ j u, c[j]? = some u → w.cell? (ad.add (i * 4 + j)) = some u := hc0
  obtain rfl := kC_open hK
  exact ⟨ad, e, hc 0 _ rfl, by rw [← add_field _ _ 1 (by omega)]; exact hc 1 _ rfl, by rw [← add_field _ _ 2 (by omega)]; exact hc 2 _ rfl, by rw [← add_field _ _ 3 (by omega)]; exact hc 3 _ rfl⟩
theorem info3 : (Try.prog.info? 3).map (fun i => (i.zero, i.size, i.bytes)) = some (some (.int .i64 0), 1, 8) := by kernel_rfl
theorem info9 : (Try.prog.info? 9).map (fun i => (i.zero, i.size, i.bytes)) = some (some (.string ⟨#[]⟩), 1, 16) := by kernel_rfl
theorem info28 : (Try.prog.info? 28).map (fun i => (i.zero, i.size, i.bytes)) = some (some (.agg #[(.int .i64 0), (.string ⟨#[]⟩)]), 2, 24) := by kernel_rfl
theorem info59 : (Try.prog.info? 59).map (fun i => (i.zero, i.size, i.bytes)) = some (some (.slice none 0 0), 1, 24) := by kernel_rfl
theorem info61 : (Try.prog.info? 61).map (fun i => (i.zero, i.size, i.bytes)) = some (some (.agg #[(.int .i64 0), (.int .i64 0), (.int .i64 0), (.string ⟨#[]⟩)]), 4, 40) := by kernel_rfl
theorem info76 : (Try.prog.info? 76).map (fun i => (i.zero, i.size, i.bytes)) = some (some (.agg #[(.int .i64 0), (.int .i64 0)]), 2, 16) := by kernel_rfl
theorem ki_mkM (w : World) (base : Nat) (ok : Nat → Prop) (x : Int) : (Kd.int .i64).M w base ok x [.int .i64 x] := rfl
end Go.Proofs.Ytpeeojbhfebcdaa.V
end
section
namespace Go.Proofs.Ytpeeojbhfebcdaa.V
open Go.RowKit Go.Proofs.YtpeeojbhfebcdaaW.PrintWords Go.Proofs.YtpeeojbhfebcdaaW.PrintLast Go.Proofs.YtpeeojbhfebcdaaW.PrintMore Go.Proofs.YtpeeojbhfebcdaaM
set_option linter.unusedVariables false
set_option linter.unusedSimpArgs false
structure PS where
  known : ByteArray → Option Int
  free : List Int
  out : List R2
  e : Int
def putN (S : PS) (b : ByteArray) (is : Bool) : Int :=
  if S.e = 0 then (if is = true then (match S.known b with | some n => n | none => (match S.free with | [] => 0 | n :: _ => n)) else 0) else 0
def putS (S : PS) (b : ByteArray) (is : Bool) : PS :=
  if S.e = 0 then (if is = true then (match S.known b with | some _ => S | none => (match S.free with | [] => { S with e := 8 } | n :: fr => { S with known := upd S.known b n, free := fr, out := S.out ++ [(n, b)] })) else { S with e := 9 }) else S
def wfS (s : ByteArray) : Prop := s.size ≤ maxLen
theorem keysS : Keys Try.prog 9 Value.string wfS where
 inj := fun x y h => by injection h
 keyed := Go.Maps.string_keyed Try.underlying9
 key := fun x h => by
  refine ⟨.string x.data.toList, ?_⟩
  unfold keyOf
  rw [Try.underlying9]
  simp only [mapKey, Try.underlying9]
  exact if_pos h
theorem zero3 (w : World) : (zeroValue 3).run Try.prog w = .ok (.int .i64 0) w := by kernel_rfl
abbrev IsKn := @IsMap ByteArray Int Value.string (Value.int .i64) wfS
def IsPlan (w0 w : World) (g m : Nat) (S : PS) : Prop :=
  ∃ A c v, w.heap[g]? = some (.cells #[.map (some m), .slice A S.free.length c, v, .int .i64 S.e] 68 (0, 0)) ∧ w0.heap.size ≤ g ∧ w0.heap.size ≤ m ∧ IsKn w m S.known ∧ Kd.C (Kd.int .i64) w0 A S.free.length S.free ∧ S.free.length ≤ c ∧ kR.R 28 w w0.heap.size (fun _ => True) v S.out ∧ Below w0.heap.size w0 w
def Kw (w w1 : World) (g : Nat) : Prop := w.heap.size ≤ w1.heap.size ∧ ∀ k c t, t ≠ 28 → k ≠ g → w.heap[k]? = some (.cells c t (0, 0)) → w1.heap[k]? = some (.cells c t (0, 0))
theorem Kw.refl (w : World) (g : Nat) : Kw w w g := ⟨Nat.le_refl _, fun _ _ _ _ _ h => h⟩
theorem Kw.trans {a b c : World} {g : Nat} (h : Kw a b g) (h2 : Kw b c g) : Kw a c g := ⟨Nat.le_trans h.1 h2.1, fun k x t ht hk hb => h2.2 k x t ht hk (h.2 k x t ht hk hb)⟩
theorem Kw.below {w w1 : World} (h : Below w.heap.size w w1) (g : Nat) : Kw w w1 g := ⟨h.size, fun k c t _ _ hb => (h.block k (blk_lt hb)).trans hb⟩
theorem Kw.set {w : World} {g j : Nat} {v : Value} : Kw w (w.setCell ⟨g, j, none⟩ v) g := ⟨by simp [World.setCell], fun k c t _ hk hb => (Below.heap_setCell w ⟨g, j, none⟩ v k hk).trans hb⟩
theorem Kw.map {w w1 : World} {g m : Nat} {f : ByteArray → Option Int} (hm : IsKn w m f) (h : w.grownBy w1 (some m)) : Kw w w1 g := ⟨h.size, fun k c t _ _ hb => (h.block k (blk_lt hb) (by
  intro e; injection e with e; subst e
  obtain ⟨es, cl, h1, _⟩ := hm
  rw [hb] at h1; cases h1)).trans hb⟩
theorem Kw.row {w w1 : World} {g b : Nat} {ok : Nat → Prop} {v : Value} {xs : List R2} (hr : kR.R 28 w b ok v xs) (h : w.grownBy w1 v.ownBlock) : Kw w w1 g := ⟨h.size, fun k c t ht _ hb => (h.block k (blk_lt hb) (Kd.R_ne hr hb (Ne.symm ht))).trans hb⟩
theorem Kw.R {α : Type} {d : Kd α} {e : Nat} {w w1 : World} {g base : Nat} {ok : Nat → Prop} {v : Value} {xs : List α} {cs : Array Value} (h : Kw w w1 g) (hg : w.heap[g]? = some (.cells cs 68 (0, 0))) (hr : d.R e w base ok v xs) (ht : ∀ q, q ∈ e :: d.E → q ≠ 28 ∧ q ≠ 68) : d.R e w1 base ok v xs :=
 Kd.R_mono (Kd.R_move (Kd.R_bound hr) (fun k hk => by
  obtain ⟨_, _, _, q, hq, cells, hc⟩ := hk
  have hkg : k ≠ g := by
   rintro rfl
   rw [hc] at hg
   injection hg with hg
   injection hg with _ hg
   exact (ht q hq).2 hg
  rw [h.2 k cells q (ht q hq).1 hkg hc, hc])) (fun _ h => h.1)
theorem cell68 {w : World} {g : Nat} {a b c d : Value} (h : w.heap[g]? = some (.cells #[a, b, c, d] 68 (0, 0))) :
  w.cell? ⟨g, 0, none⟩ = some a ∧ w.cell? ⟨g, 1, none⟩ = some b ∧ w.cell? ⟨g, 2, none⟩ = some c ∧ w.cell? ⟨g, 3, none⟩ = some d :=
 ⟨(blk_cell h 0).trans rfl, (blk_cell h 1).trans rfl, (blk_cell h 2).trans rfl, (blk_cell h 3).trans rfl⟩
theorem map_ne {w : World} {g m : Nat} {f : ByteArray → Option Int} {cs : Array Value} {t : TypeId} (hm : IsKn w m f) (hb : w.heap[g]? = some (.cells cs t (0, 0))) : m ≠ g := by
  rintro rfl
  obtain ⟨es, cl, h1, _⟩ := hm
  rw [hb] at h1; cases h1
theorem IsPlan.blk {w0 w : World} {g m : Nat} {S : PS} (h : IsPlan w0 w g m S) : ∃ cs, w.heap[g]? = some (.cells cs 68 (0, 0)) := by
  obtain ⟨A, c, v, h1, _⟩ := h
  exact ⟨_, h1⟩
theorem IsPlan.bel {w0 w : World} {g m : Nat} {S : PS} (h : IsPlan w0 w g m S) : Below w0.heap.size w0 w := by
  obtain ⟨A, c, v, _, _, _, _, _, _, _, h1⟩ := h
  exact h1
theorem IsPlan.step {w0 w w1 : World} {g m : Nat} {S : PS} (h : IsPlan w0 w g m S) (hb : Below w.heap.size w w1) : IsPlan w0 w1 g m S := by
  obtain ⟨A, c, v, h1, h2, h3, h4, h5, h6, h7, h8⟩ := h
  exact ⟨A, c, v, (hb.block _ (blk_lt h1)).trans h1, h2, h3, h4.at (hb.block _ h4.lt), h5, h6, Kd.R_below h7 hb, below_step h8 hb⟩
theorem IsPlan.grown {α : Type} {d : Kd α} {e : Nat} {b : Nat} {ok : Nat → Prop} {u : Value} {xs : List α} {w0 w w1 : World} {g m : Nat} {S : PS} (h : IsPlan w0 w g m S) (hr : d.R e w b ok u xs) (hb : w0.heap.size ≤ b) (he : e ≠ 68) (he2 : e ≠ 28) (hg : w.grownBy w1 u.ownBlock) : IsPlan w0 w1 g m S := by
  obtain ⟨A, c, v, h1, h2, h3, h4, h5, h6, h7, h8⟩ := h
  refine ⟨A, c, v, (hg.block _ (blk_lt h1) (Kd.R_ne hr h1 he)).trans h1, h2, h3, h4.at (hg.block _ h4.lt ?_), h5, h6, Kd.R_over h7 hr (by intro q hq; simp [kR, Kd.pair, Kd.int, Kd.string, Kd.scalar] at hq; omega) hg, pw_below_grown h8 _ h8.size hg (fun k hk => Nat.le_trans hb (Kd.R_base hr k hk))⟩
  intro e1
  obtain ⟨c1, e2⟩ := Kd.R_typed hr m e1.symm
  obtain ⟨es, cl, e3, _⟩ := h4
  rw [e2] at e3
  cases e3
theorem row_ne_map {α : Type} {d : Kd α} {e b m : Nat} {w : World} {o : Nat → Prop} {v : Value} {xs : List α} {f : ByteArray → Option Int} (h : d.R e w b o v xs) (hm : IsKn w m f) : some m ≠ v.ownBlock := by
  intro hk
  obtain ⟨c1, e1⟩ := Kd.R_typed h m hk.symm
  obtain ⟨es, c, e2, _⟩ := hm
  rw [e1] at e2
  cases e2
theorem len0 {l : List Int} (h : 0 < l.length) : ∃ n fr, l = n :: fr := by
  cases l with
  | nil => simp at h
  | cons n fr => exact ⟨n, fr, rfl⟩
set_option maxHeartbeats 8000000 in
set_option maxRecDepth 100000 in
theorem put_new {w0 w : World} {g m : Nat} {f : ByteArray → Option Int} {n : Int} {fr : List Int} {out : List R2} (h : IsPlan w0 w g m ⟨f, n :: fr, out, 0⟩) (b : ByteArray) (hb : wfS b) (hk : f b = none) (ho : out.length ≤ 100000) :
  Calls Try.prog 30 #[.pointer (some ⟨g, 0, none⟩), .string b, .bool true] w fun e w' => e = .returned (.int .i64 n) ∧ IsPlan w0 w' g m ⟨upd f b n, fr, out ++ [(n, b)], 0⟩ ∧ Kw w w' g := by
 obtain ⟨A, c, v, h1, h2, h3, h4, h5, h6, h7, h8⟩ := h
 change w.heap[g]? = some (.cells #[.map (some m), .slice A (fr.length + 1) c, v, .int .i64 0] 68 (0, 0)) at h1
 have hlk := h4.look_ok keysS Try.underlying66 (.int .i64 0) (zero3 w) b hb
 rw [show (⟨f, n :: fr, out, 0⟩ : PS).known b = none from hk] at hlk
 change (Instr.lookup 66 (.map (some m)) (.string b) true).run Try.prog w = .ok (.tuple #[.int .i64 0, .bool false]) w at hlk
 obtain ⟨c0, c1, c2, c3⟩ := cell68 h1
 have f1 := blk_frozen h1 1
 obtain ⟨i3, hi3, hz3⟩ := Option.map_eq_some_iff.1 info3
 have hsz3 : i3.size = 1 := by simp only [Prod.mk.injEq] at hz3; exact hz3.2.1
 obtain ⟨ad, rfl, hx0⟩ := Kd.at_int h5 0 (by omega) (by simp)
 have hx1 : w.cell? ad = some (.int .i64 n) := by
  have e0 : ad.add (0 : Int).toNat = ad := by simp [Addr.add]
  rw [e0] at hx0
  exact (h8.cell (World.block_lt_of_cell? w0 _ hx0)).trans hx0
 change fr.length + 1 ≤ c at h6
 obtain ⟨A', hcut, hread, hcap⟩ := print_drop_of (P := Try.prog) (Value.int .i64) (0 : Int) 24 3 .i64 Try.underlying24 hi3 hsz3 (some ad) c (n :: fr) 1 (by omega) (by simp; omega) (by simpa using h6)
 change ∀ W, (Instr.slice 24 (.slice (some ad) (fr.length + 1) c) (some (.int .i64 1)) none none).run Try.prog W = .ok (.slice A' fr.length (c - 1)) W at hcut
 change fr.length ≤ c - 1 at hcap
 have hC' : Kd.C (Kd.int .i64) w0 A' fr.length fr := by
  have := hread w0 (Kd.reads_of_C (d := (0 : Int)) h5)
  exact Kd.C_of_reads this
 have H1 := Aside0.mk h1
 have H2 := Aside0.mk h2
 have H3 := Aside0.mk h3
 have H4 := Aside0.mk h4
 have H7 := Aside0.mk h7
 have H8 := Aside0.mk h8
 have HC' := Aside0.mk hC'
 have HCAP := Aside0.mk hcap
 obtain ⟨nf, hnf⟩ : ∃ nf, nf = fr.length := ⟨_, rfl⟩
 have HNF := Aside0.mk hnf
 rw [← hnf] at hcut c1
 have hnm : nf + 1 ≤ 9223372036854775807 := by
  have h9 : fr.length + 1 ≤ 9223372036854775807 := h5.2.1
  rw [hnf]; exact h9
 have d5 : (0 < nf + 1) = True := eq_true (by omega)
 have d6 : ((0 : Int) < (nf : Int) + 1) = True := eq_true (by omega)
 have d7 : ((nf : Int) + 1 == 0) = false := by simp; omega
 have d8 : (nf + 1 == 0) = false := by simp
 have hb0 := hb
 have ho0 := ho
 clear h1 h2 h3 h4 h5 h6 h7 h8 hb hk hx0 hread hC' hcap hi3 hz3 hsz3 hnf ho
 go_enter Try.func30, Try.ntmps30
 go_upto_region 14 with (fail)
 obtain ⟨w1, hw1⟩ : ∃ w1, w1 = w.setCell ⟨g, 1, none⟩ (.slice A' nf (c - 1)) := ⟨_, rfl⟩
 rw [← hw1]
 have K1 := Aside0.mk (show w1.heap[g]? = some (.cells #[.map (some m), .slice A' nf (c - 1), v, .int .i64 0] 68 (0, 0)) from by rw [hw1]; simpa using blk_set H1.out 1 (.slice A' nf (c - 1)))
 have M1 := Aside0.mk (show IsKn w1 m f from by rw [hw1]; exact H4.out.at (Below.heap_setCell _ _ _ m (map_ne H4.out H1.out)))
 have R1 := Aside0.mk (show kR.R 28 w1 w0.heap.size (fun _ => True) v out from by rw [hw1]; exact Kd.R_set H7.out H1.out (by intro q hq; simp [kR, Kd.pair, Kd.int, Kd.string, Kd.scalar] at hq; omega) 1 _)
 have B1 := Aside0.mk (show Below w0.heap.size w0 w1 from by rw [hw1]; exact below_set H8.out H2.out)
 have W1 := Aside0.mk (show Kw w w1 g from by rw [hw1]; exact Kw.set)
 obtain ⟨e0, e1, e2, e3⟩ := cell68 K1.out
 have HB := Aside0.mk hb0
 have HO := Aside0.mk ho0
 clear hw1 c0 c1 c2 c3 f1 d5 d6 d7 d8 hcut hx1 hlk hb0 ho0
 go_upto_region 15 with (at_mapUpdate; go_must (refine wpList_mapUpdate_g keysS _ rfl _ _ _ 66 rfl 3 Try.underlying66 m f b n rfl rfl rfl M1.out HB.out ?_); intro w2 hm2 hg2; have M2 := Aside0.mk hm2; have G2 := Aside0.mk hg2; clear hm2 hg2)
 have hgm : some g ≠ some m := fun e => map_ne M1.out K1.out (by injection e with e; exact e.symm)
 have K2 := Aside0.mk ((G2.out.block g (blk_lt K1.out) hgm).trans K1.out)
 have R2' := Aside0.mk (Kd.R_grown (ok := fun k => k ≠ m) (Kd.R_mono (Kd.R_bound R1.out) (fun k hk e => by
  obtain ⟨_, _, _, q, hq, cells, hc⟩ := hk
  obtain ⟨es, cl, h1, _⟩ := M1.out
  rw [e, h1] at hc; cases hc)) G2.out (fun k hk e => hk (by injection e)))
 have B2 := Aside0.mk (pw_below_grown B1.out _ B1.out.size G2.out (by rintro k e; injection e with e; rw [← e]; exact H3.out))
 have W2 := Aside0.mk (W1.out.trans (Kw.map M1.out G2.out))
 obtain ⟨y0, y1, y2, y3⟩ := cell68 K2.out
 clear hgm e0 e1 e2 e3
 go_wp2_with (first
  | ((with_reducible refine gate_builtin (b := .append) (xs := #[.tmp 68, .tmp 72]) rfl ?_); at_builtin; go_must (refine Kd.R_append kR w0.heap.size rfl (.tmp 68) (.tmp 72) 23 28 (.agg #[(.int .i64 0), (.string ⟨#[]⟩)]) 24 rfl Try.underlying23 info28 rfl (by decide) (by omega) v out (n, b) [.int .i64 n, .string b] (fun k => True) (fun _ => False) rfl rfl (kR_mkM _ _ _ (n, b)) (fun _ hk => hk.elim) (fun _ _ => trivial) (Kd.R_mono R2'.out (fun _ _ => trivial)) B2.out B2.out.size (by have := HO.out; omega) ?_); intro v3 w3 ho_ hb_ hg_ hat_; obtain ⟨A3, d3, e3⟩ := Kd.R_slice ho_; obtain ⟨l3, hl3⟩ : ∃ l3 : Nat, l3 = (out ++ [(n, b)]).length := ⟨_, rfl⟩; rw [← hl3] at e3; clear hl3; subst e3; have R3 := Aside0.mk ho_; have B3 := Aside0.mk hb_; have K3 := Aside0.mk ((hg_.block g (blk_lt K2.out) (Kd.R_ne R2'.out K2.out (by decide))).trans K2.out); have M3 := Aside0.mk (M2.out.at (hg_.block m M2.out.lt (row_ne_map R2'.out M2.out))); have W3 := Aside0.mk (W2.out.trans (Kw.row R2'.out hg_)); have z2 := (cell68 K3.out).2.2.1; have zf2 := blk_frozen K3.out 2; clear ho_ hb_ hg_ hat_))
 go_ret
 refine ⟨rfl, ⟨A', c - 1, _, by rw [← HNF.out]; simpa using blk_set K3.out 2 (.slice A3 l3 d3), H2.out, H3.out, M3.out.at (Below.heap_setCell _ _ _ m (map_ne M3.out K3.out)), HC'.out, HCAP.out, Kd.R_set R3.out K3.out (by intro q hq; simp [kR, Kd.pair, Kd.int, Kd.string, Kd.scalar] at hq; omega) 2 _, below_set B3.out H2.out⟩, W3.out.trans Kw.set⟩
set_option maxHeartbeats 8000000 in
set_option maxRecDepth 100000 in
theorem put_any {w0 w : World} {g m : Nat} {S : PS} (h : IsPlan w0 w g m S) (b : ByteArray) (is : Bool) (hb : wfS b) (ho : S.out.length ≤ 100000) :
  Calls Try.prog 30 #[.pointer (some ⟨g, 0, none⟩), .string b, .bool is] w fun e w' => e = .returned (.int .i64 (putN S b is)) ∧ IsPlan w0 w' g m (putS S b is) ∧ Kw w w' g := by
 have hP := Aside0.mk h
 obtain ⟨A, c, v, h1, h2, h3, h4, h5, h6, h7, h8⟩ := h
 have H1 := Aside0.mk h1
 have H4 := Aside0.mk h4
 have H7 := Aside0.mk h7
 have H8 := Aside0.mk h8
 obtain ⟨c0, c1, c2, c3⟩ := cell68 h1
 have hlk := h4.look_ok keysS Try.underlying66 (.int .i64 0) (zero3 w) b hb
 by_cases he : S.e = 0
 ·have d1 : (S.e != 0) = false := by simpa using he
  have d2 : (S.e == 0) = true := by simpa using he
  have f3 := blk_frozen h1 3
  cases is with
  | false =>
   have e1 : putN S b false = 0 := by unfold putN; rw [if_pos he]; rfl
   have e2 : putS S b false = { S with e := 9 } := by unfold putS; rw [if_pos he]; rfl
   rw [e1, e2]
   obtain ⟨r1, hr1⟩ : ∃ r, r = ((S.known b).map (Value.int .i64)).getD (.int .i64 0) := ⟨_, rfl⟩
   obtain ⟨r2, hr2⟩ : ∃ r, r = (S.known b).isSome := ⟨_, rfl⟩
   rw [← hr1, ← hr2] at hlk
   have HH := Aside0.mk (And.intro h2 (And.intro h3 (And.intro h5 h6)))
   clear h1 h2 h3 h4 h5 h6 h7 h8 hb he hr1 hr2 e1 e2 ho
   go_enter Try.func30, Try.ntmps30
   go_wp2
   go_ret
   refine ⟨rfl, ⟨A, c, v, by simpa using blk_set H1.out 3 (.int .i64 9), HH.out.1, HH.out.2.1, H4.out.at (Below.heap_setCell _ _ _ m (map_ne H4.out H1.out)), HH.out.2.2.1, HH.out.2.2.2, Kd.R_set H7.out H1.out (by intro q hq; simp [kR, Kd.pair, Kd.int, Kd.string, Kd.scalar] at hq; omega) 3 _, below_set H8.out HH.out.1⟩, Kw.set⟩
  | true =>
   cases hk : S.known b with
   | some n =>
    have e1 : putN S b true = n := by unfold putN; rw [if_pos he, if_pos rfl, hk]
    have e2 : putS S b true = S := by unfold putS; rw [if_pos he, if_pos rfl, hk]
    rw [e1, e2]
    rw [hk] at hlk
    change (Instr.lookup 66 (.map (some m)) (.string b) true).run Try.prog w = .ok (.tuple #[.int .i64 n, .bool true]) w at hlk
    clear h1 h2 h3 h4 h5 h6 h7 h8 hb he e1 e2 ho hk
    go_enter Try.func30, Try.ntmps30
    go_wp2
    go_ret
    exact ⟨rfl, hP.out, Kw.refl _ _⟩
   | none =>
    rw [hk] at hlk
    change (Instr.lookup 66 (.map (some m)) (.string b) true).run Try.prog w = .ok (.tuple #[.int .i64 0, .bool false]) w at hlk
    by_cases hf : S.free.length = 0
    ·have hf2 : S.free = [] := List.eq_nil_of_length_eq_zero hf
     have e1 : putN S b true = 0 := by unfold putN; rw [if_pos he, if_pos rfl, hk, hf2]
     have e2 : putS S b true = { S with e := 8 } := by unfold putS; rw [if_pos he, if_pos rfl, hk, hf2]
     rw [e1, e2]
     rw [hf] at c1
     have HH := Aside0.mk (And.intro h2 (And.intro h3 (And.intro h5 h6)))
     clear h1 h2 h3 h4 h5 h6 h7 h8 hb he e1 e2 ho hk hf hf2
     go_enter Try.func30, Try.ntmps30
     go_wp2
     go_ret
     refine ⟨rfl, ⟨A, c, v, by simpa using blk_set H1.out 3 (.int .i64 8), HH.out.1, HH.out.2.1, H4.out.at (Below.heap_setCell _ _ _ m (map_ne H4.out H1.out)), HH.out.2.2.1, HH.out.2.2.2, Kd.R_set H7.out H1.out (by intro q hq; simp [kR, Kd.pair, Kd.int, Kd.string, Kd.scalar] at hq; omega) 3 _, below_set H8.out HH.out.1⟩, Kw.set⟩
    ·obtain ⟨n, fr, hf2⟩ := len0 (Nat.pos_of_ne_zero hf)
     have e1 : putN S b true = n := by unfold putN; rw [if_pos he, if_pos rfl, hk, hf2]
     have e2 : putS S b true = { S with known := upd S.known b n, free := fr, out := S.out ++ [(n, b)] } := by unfold putS; rw [if_pos he, if_pos rfl, hk, hf2]
     rw [e1, e2]
     obtain ⟨kn, fre, out, e⟩ := S
     simp only at he hf2 hk ho
     subst he hf2
     exact put_new hP.out b hb hk ho
 ·have e1 : putN S b is = 0 := by unfold putN; rw [if_neg he]
  have e2 : putS S b is = S := by unfold putS; rw [if_neg he]
  rw [e1, e2]
  obtain ⟨r1, hr1⟩ : ∃ r, r = ((S.known b).map (Value.int .i64)).getD (.int .i64 0) := ⟨_, rfl⟩
  obtain ⟨r2, hr2⟩ : ∃ r, r = (S.known b).isSome := ⟨_, rfl⟩
  rw [← hr1, ← hr2] at hlk
  have d1 : (S.e != 0) = true := by simpa using he
  have d2 : (S.e == 0) = false := by simpa using he
  clear h1 h2 h3 h4 h5 h6 h7 h8 hb he hr1 hr2 e1 e2 ho
  go_enter Try.func30, Try.ntmps30
  go_wp2
  go_ret
  exact ⟨rfl, hP.out, Kw.refl _ _⟩
end Go.Proofs.Ytpeeojbhfebcdaa.V
end


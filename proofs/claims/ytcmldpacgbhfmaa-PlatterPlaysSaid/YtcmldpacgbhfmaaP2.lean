/- A platter: Store, taken. -/
import Derived.Test.YtcmldpacgbhfmaaP1
namespace Go.Proofs.Ytcmldpacgbhfmaa.V
open Go.RowKit Go.Proofs.YtcmldpacgbhfmaaW.PrintWords Go.Proofs.YtcmldpacgbhfmaaW.PrintLast Go.Proofs.YtcmldpacgbhfmaaW.PrintMore
set_option linter.unusedVariables false
set_option linter.unusedSimpArgs false

section
variable {base : Nat} {F F' : Nat → Prop} {w w' : World} {g : Nat} {S : PS}
theorem own_types {α β : Type} {d : Kd α} {d' : Kd β} {e e' b b' : Nat} {o o' : Nat → Prop} {v v' : Value} {xs : List α} {ys : List β} (h : d.R e w b o v xs) (h' : d'.R e' w b' o' v' ys) (he : e ≠ e') : ∀ k, v.ownBlock = some k → some k ≠ v'.ownBlock := by
  intro k hk hk'
  obtain ⟨c1, e1⟩ := Kd.R_typed h k hk
  obtain ⟨c2, e2⟩ := Kd.R_typed h' k hk'.symm
  rw [e1] at e2
  injection e2 with e2
  injection e2 with _ e2
  exact he e2
theorem own_blk {α : Type} {d : Kd α} {e b : Nat} {o : Nat → Prop} {v : Value} {xs : List α} (h : d.R e w b o v xs) {cs : Array Value} {t : TypeId} (hg : w.heap[g]? = some (.cells cs t (0, 0))) (he : e ≠ t) : some g ≠ v.ownBlock := by
  intro hk
  obtain ⟨c1, e1⟩ := Kd.R_typed h g hk.symm
  rw [hg] at e1
  injection e1 with e1
  injection e1 with _ e1
  exact he e1.symm
theorem own_map {α : Type} {d : Kd α} {e b m : Nat} {o : Nat → Prop} {v : Value} {xs : List α} {f : Int → Option ByteArray} (h : d.R e w b o v xs) (hm : IsLast w m f) : ∀ k, some m = some k → some k ≠ v.ownBlock := by
  intro k hk hk2
  injection hk with hk
  subst hk
  obtain ⟨c1, e1⟩ := Kd.R_typed h m hk2.symm
  obtain ⟨es, c, e2, _⟩ := hm
  rw [e1] at e2
  cases e2
theorem kept_grown {w0 w1 : World} {T : Nat → Prop} {row : Option Nat} (h : Kept w0 w T) (hg : w.grownBy w1 row) (hr : ∀ k, row = some k → T k ∨ w0.heap.size ≤ k) : Kept w0 w1 T := Kept.of_grown hg h hr
theorem below_grown {n : Nat} {u w1 : World} {row : Option Nat} (h : Below n u w) (hg : w.grownBy w1 row) (hr : ∀ k, row = some k → n ≤ k) (hn : n ≤ w.heap.size) : Below n u w1 :=
  h.trans ⟨hg.os, hg.tape, hg.output, hg.size, fun i hi => hg.block i (Nat.lt_of_lt_of_le hi hn) (fun e => by have := hr i e.symm; omega)⟩
end
set_option maxHeartbeats 8000000 in
set_option maxRecDepth 100000 in
theorem store_ok {base : Nat} {F : Nat → Prop} {w : World} {g : Nat} {S : PS} (h : IsP base F w g S) (n : Int) (b : ByteArray) (hm : mayE S n = 0) (hs : b.size = 128) (hh : S.halts = false ∨ S.halts = true ∧ S.after ≠ 0) (wn : (Lit.int .i64 n).wf = true) (hl : S.afl.length ≤ 1000000) :
    Calls Try.prog 14 #[.pointer (some ⟨g, 0, none⟩), .int .i64 n, .string b] w fun e w' => e = .returned (.int .i64 0) ∧ IsP base (fun k => F k ∨ w.heap.size ≤ k) w' g { S with after := max (wrap64 (S.after - 1)) 0, afl := S.afl ++ [⟨n, b⟩], last := upd S.last n b } ∧ Kept w w' F ∧ (base ≤ w.heap.size → Below base w w') := by
  have HP := Aside0.mk h
  have HB := Aside0.mk (Below.refl w.heap.size w)
  have HLe := Aside0.mk hl
  obtain ⟨A, c, m, B, d, h1, h2, h3, h4, h5, h6, h7, h8⟩ := h.cells
  have G1 := Aside0.mk h1
  have G6 := Aside0.mk h6
  have G7 := Aside0.mk h7
  have G8 := Aside0.mk h8
  have G2 := Aside0.mk h2
  have G3 := Aside0.mk h3
  have G4 := Aside0.mk h4
  have G5 := Aside0.mk h5
  clear h1 h2 h3 h4 h5 h6 h7 h8 hl
  have hs1 : ((b.size : Int) != 128) = false := by simp; omega
  have hs2 : ((b.size : Int) == 128) = true := by simp; omega
  rcases hh with hh | ⟨hh, ha⟩
  all_goals
    (try have ha1 : (S.after == 0) = false := beq_eq_false_iff_ne.mpr ha)
    (try clear ha)
    go_enter Try.func14, Try.ntmps14
    go_wp2_with (first
      | (go_at_call 32; (with_reducible refine (may_any HP.out n).mono ?_); rintro e w1 ⟨rfl, hb⟩; rw [hm]
         have HB1 := Aside0.mk hb
         have K1 := (hb.block g (blk_lt G1.out)).trans G1.out
         have J1 := Aside0.mk K1
         have hf2 := blk_frozen K1 2
         have hf4 := blk_frozen K1 4
         obtain ⟨c0, c1, c2, c3, c4, c5⟩ := cell62 K1
         rw [hh] at c3
         clear K1 hb)
      | ((with_reducible refine gate_builtin (b := .append) (xs := #[.tmp 46, .tmp 50]) rfl ?_); at_builtin
         go_must (refine Kd.R_append k65 base rfl (.tmp 46) (.tmp 50) 60 65 (.agg #[(.int .i64 0), (.string ⟨#[]⟩)]) 24 rfl Try.underlying60 info65 rfl (by decide) (by omega) (.slice B S.afl.length d) S.afl (⟨n, b⟩ : S65) [.int .i64 n, .string b] (fun k => F k ∨ w.heap.size ≤ k) (fun _ => False) rfl (congrArg (fun k => Value.slice (some ⟨k, 0, none⟩) 1 1) (show w1.heap.size = (w1.setCell ⟨g, 4, none⟩ (Value.int IntKind.i64 (max (wrap64 (S.after - 1)) 0))).heap.size by simp [World.setCell])) ?aP (fun _ hk => hk.elim) ?aF ?aO (Below.refl base _) ?aS ?aL ?_)
         (case aP => go_must (exact k65_mkM _ _ _ (⟨n, b⟩ : S65)))
         (case aF => intro k hk; right; go_must (exact Nat.le_trans HB1.out.size (by simpa [World.setCell] using hk)))
         (case aO => go_must (exact Kd.R_mono (Kd.R_set (Kd.R_step G7.out (fun k _ hk => HB1.out.block k hk)) J1.out (by intro q hq; simp [k65, Kd.iso, Kd.pair, Kd.int, Kd.string, Kd.scalar] at hq; omega) 4 _) (fun _ hk => .inl hk)))
         (case aS => go_must (exact Nat.le_trans (Nat.le_of_lt (Nat.lt_of_le_of_lt G2.out (blk_lt J1.out))) (by simp [World.setCell])))
         (case aL => have := HLe.out; go_must (omega))
         intro v2 w2 ho hb2 hg2 hat2
         obtain ⟨A2, d2, e2⟩ := Kd.R_slice ho
         obtain ⟨l2, hl2⟩ : ∃ l2 : Nat, l2 = (S.afl ++ [(⟨n, b⟩ : S65)]).length := ⟨_, rfl⟩
         rw [← hl2] at e2
         clear hl2
         subst e2
         have E1 := Aside0.mk ho
         have E2 := Aside0.mk hb2
         have E3 := Aside0.mk hg2
         clear ho hb2 hg2 hat2
         have K0 : (w1.setCell ⟨g, 4, none⟩ (Value.int IntKind.i64 (max (wrap64 (S.after - 1)) 0))).heap[g]? = some (.cells #[.slice A S.safe.length c, .map (some m), .slice B S.afl.length d, .bool S.halts, .int .i64 (max (wrap64 (S.after - 1)) 0), .bool S.halted] 62 (0, 0)) := by simpa using blk_set J1.out 4 (.int .i64 (max (wrap64 (S.after - 1)) 0))
         have K2 := (E3.out.block g (blk_lt K0) (own_blk G7.out G1.out (by decide))).trans K0
         have J0 := Aside0.mk K0
         have J2 := Aside0.mk K2
         have hf22 := blk_frozen K2 2
         obtain ⟨_, c21, _, _, _, _⟩ := cell62 K2
         have L1 := Aside0.mk ((G8.out.at (HB1.out.block m G8.out.lt)).at (Below.heap_setCell w1 ⟨g, 4, none⟩ (Value.int IntKind.i64 (max (wrap64 (S.after - 1)) 0)) m (last_ne G8.out G1.out)))
         have L2 := Aside0.mk ((L1.out.at (E3.out.block m L1.out.lt (own_map G7.out G8.out m rfl))).at (Below.heap_setCell w2 ⟨g, 2, none⟩ (Value.slice A2 l2 d2) m (last_ne G8.out G1.out)))
         clear K0 K2)
      | (at_mapUpdate
         go_must (refine wpList_mapUpdate_last _ rfl _ _ _ 59 rfl 3 9 Try.underlying59 Try.underlying3 m S.last n b rfl rfl rfl L2.out wn ?_)
         intro w3 hl3 hg3
         have E4 := Aside0.mk hl3
         have E5 := Aside0.mk hg3
         clear hl3 hg3))
    go_ret
    have Q2 : (w2.setCell ⟨g, 2, none⟩ (Value.slice A2 l2 d2)).heap[g]? = some (.cells #[.slice A S.safe.length c, .map (some m), (Value.slice A2 l2 d2), .bool S.halts, .int .i64 (max (wrap64 (S.after - 1)) 0), .bool S.halted] 62 (0, 0)) := by simpa using blk_set J2.out 2 (Value.slice A2 l2 d2)
    have hgm : some g ≠ some m := fun e => last_ne G8.out G1.out (by injection e with e; exact e.symm)
    have Q3 := (E5.out.block g (blk_lt Q2) hgm).trans Q2
    have T65 : ∀ q, q ∈ 65 :: k65.E → q ≠ 62 := by intro q hq; simp [k65, Kd.iso, Kd.pair, Kd.int, Kd.string, Kd.scalar] at hq; omega
    have T9 : ∀ q, q ∈ 9 :: Kd.string.E → q ≠ 62 := by intro q hq; simp [Kd.string, Kd.scalar] at hq; omega
    have R2 := Kd.R_grown2 (Kd.R_set E1.out J2.out T65 2 (Value.slice A2 l2 d2)) rfl E5.out (own_map (Kd.R_set E1.out J2.out T65 2 (Value.slice A2 l2 d2)) L2.out)
    have S3 : Kd.R Kd.string 9 w3 base F (.slice A S.safe.length c) S.safe := by
      have a1 := Kd.R_set (Kd.R_step G6.out (fun k _ hk => HB1.out.block k hk)) J1.out T9 4 (Value.int IntKind.i64 (max (wrap64 (S.after - 1)) 0))
      have a7 := Kd.R_set (Kd.R_step G7.out (fun k _ hk => HB1.out.block k hk)) J1.out T65 4 (Value.int IntKind.i64 (max (wrap64 (S.after - 1)) 0))
      have a2 : Kd.R Kd.string 9 w2 base F (.slice A S.safe.length c) S.safe := by
        have ot := own_types a7 a1 (by decide)
        exact Kd.R_grown2 a1 rfl E3.out ot
      have a3 := Kd.R_set a2 J2.out T9 2 (Value.slice A2 l2 d2)
      have om := own_map a3 L2.out
      exact Kd.R_grown2 a3 rfl E5.out om
    refine ⟨rfl, ⟨_, m, (Value.slice A2 l2 d2), Q3, G2.out, .inl G3.out, G4.out, .inl G5.out, Kd.R_mono S3 (fun _ hk => .inl hk), R2, E4.out⟩, ?_, ?_⟩
    · exact kept_grown (Kept.setCell (kept_grown (Kept.setCell (Kept.of_below HB1.out F) (.inl G3.out) _) E3.out (fun k hk => .inl (G7.out.1 k hk))) (.inl G3.out) _) E5.out (fun k hk => by injection hk with hk; subst hk; exact .inl G5.out)
    · intro hw
      have b1 := below_setG (HB1.out.mono hw) G2.out 4 (Value.int IntKind.i64 (max (wrap64 (S.after - 1)) 0))
      have b2 := b1.trans E2.out
      have b3 := below_setG b2 G2.out 2 (Value.slice A2 l2 d2)
      exact below_grown b3 E5.out (fun k hk => by injection hk with hk; subst hk; exact G4.out) (Nat.le_trans G4.out (Nat.le_of_lt L2.out.lt))
end Go.Proofs.Ytcmldpacgbhfmaa.V

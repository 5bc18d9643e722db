/- Of the texts that the row stands on, what it needs (part 39), put together by a program of this session. -/
import Derived.Test.YtdhaoaehboonpaaGreatZcT34
namespace Go.Proofs.YtdhaoaehboonpaaGreat.V
open Go.RowKit Go.Proofs.YtdhaoaehboonpaaGreatW.PrintWords Go.Proofs.YtdhaoaehboonpaaGreatW.PrintLast Go.Proofs.YtdhaoaehboonpaaGreatW.PrintMore Go.Proofs.YtdhaoaehboonpaaGreatM
set_option linter.unusedVariables false
set_option linter.unusedSimpArgs false
theorem C_heap {w W : World} {C : Option Addr} {cl : List Int} (h : (Kd.int .i64).C w C cl.length cl) (hs : w.heap.size ≤ W.heap.size) (hb : ∀ k, k < w.heap.size → W.heap[k]? = w.heap[k]?) : (Kd.int .i64).C W C cl.length cl := by
  have h2 : (Kd.int .i64).C { w with heap := W.heap } C cl.length cl := Kd.C_below h ⟨rfl, rfl, rfl, hs, hb⟩
  exact h2
theorem q_failB {w0 w : World} {g : Nat} {S : VP.PS} (h : VP.IsQ w0 w g S) (hw : VP.pagesOk S) (hl : S.afl.length ≤ 1000) (C : Option Addr) (cc : Nat) (cl : List Int) (hC : (Kd.int .i64).C w0 C cl.length cl) :
    Calls Tryz.prog 21 #[.pointer (some ⟨g, 0, none⟩), .slice C cl.length cc] w fun e w' => ∃ r, e = .returned (.int .i64 r) ∧ VP.IsQ w0 w' g (VP.faS S cl) := by
  refine (VP.fail_any h.2.narrow hw (Nat.le_trans hl (by decide)) C cc cl (fun W' hk => C_heap hC (Nat.le_trans h.1.size hk.1) (fun k hk2 => (hk.2 k (Nat.lt_of_lt_of_le hk2 h.1.size) (fun h3 => absurd h3.1 (Nat.not_le.2 hk2))).trans (h.1.block k hk2)))).mono ?_
  rintro e w' ⟨rfl, hi, hk, hb⟩
  exact ⟨_, rfl, h.1.trans (hb h.1.size), hi.mono (fun k hk => hk.1)⟩
structure SaveO (V' : VS) (la lb : List R2) (e : Int) : Prop where
  disk : ∃ gen root L live, Disk V'.P 200 gen root L live ∧ (e = 0 → L = lb) ∧ (e ≠ 0 → L = la)
  afl : V'.P.afl.length ≤ 1000
  dead : e = 7 → V'.dead = true
theorem sv_afl {V : VS} {m : Nat} {l : List R2} (h : VOk V m) (hp : (svP V m l).2.2 = 0) : (svS V m l).afl.length ≤ 198 := by
  have hd := h.disk
  have h8 := hd.n8
  have h200 := hd.n200
  have hpm := h.pages
  have hnew := sv_new h hp
  have hlen : (svP V m l).1.length ≤ m := by
    have h1 := nodup_le m ((svP V m l).1.map (·.1)) (by
      unfold List.Nodup
      rw [List.pairwise_map]
      exact (List.pairwise_append.1 (sv_apart h hp)).2.1) (fun x hx => by
      obtain ⟨y, hy, rfl⟩ := List.mem_map.1 hx
      have a := hnew y hy
      have b := a.1.1.2
      have c := a.2.1
      omega)
    rwa [List.length_map] at h1
  have hW := writeG (g := V.gen + 1) (r := (svP V m l).2.1) (p := V.pages) h.halted hd.len h.afl hd.pg (by omega) (fun x hx => (hnew x hx).1)
  have e2 : svS V m l = writeS V.P (svP V m l).1 (V.gen + 1) (svP V m l).2.1 V.pages := rfl
  rw [← e2] at hW
  rcases hW with ⟨_, _, _, a, _⟩ | ⟨_, _, _, k, a⟩ | ⟨_, _, _, a⟩
  · rw [a]; exact Nat.zero_le _
  · rw [a]
    have : (toAf ((svP V m l).1.take k)).length ≤ (svP V m l).1.length := by
      unfold toAf
      rw [List.length_map, List.length_take]
      exact Nat.min_le_right _ _
    omega
  · rw [a]; exact Nat.zero_le _
theorem save_o {V : VS} {m : Nat} {l : List R2} {e : Int} {V' : VS} (h : VOk V m) (hN : V.pages = 200) (hg : V.gen < 4611686018427387904) (hs : SaveR V m l e V') : SaveO V' V.recs l e := by
  rcases save_ways h hg hs with ⟨h1, h2, rfl⟩ | ⟨h1, h2, h3, h4, h5, h6⟩ | ⟨h1, h2, h3, h4, h5, h6, h7, h8, h9, h10⟩
  · refine ⟨⟨_, _, _, _, hN ▸ h.disk, fun he => ?_, fun _ => rfl⟩, ?_, fun he => ?_⟩
    · subst he; rcases h2 with h2 | h2 | h2 <;> exact absurd h2 (by decide)
    · rw [h.afl]; exact Nat.zero_le _
    · subst he; rcases h2 with h2 | h2 | h2 <;> exact absurd h2 (by decide)
  · subst h4
    refine ⟨⟨_, _, _, _, hN ▸ h5, fun he => ?_, fun _ => rfl⟩, ?_, fun _ => rfl⟩
    · rw [h1] at he; cases he
    · exact Nat.le_trans (sv_afl h h2) (by decide)
  · refine ⟨⟨_, _, _, _, hN ▸ h7 ▸ h3.disk, fun _ => h5, fun he => absurd h1 he⟩, ?_, fun he => ?_⟩
    · rw [h3.afl]; exact Nat.zero_le _
    · rw [h1] at he; cases he
end Go.Proofs.YtdhaoaehboonpaaGreat.V

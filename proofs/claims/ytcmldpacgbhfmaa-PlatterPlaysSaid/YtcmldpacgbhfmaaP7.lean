/- A platter as a law meets it: its own blocks; it is well; its state behind each call. -/
import Derived.Test.YtcmldpacgbhfmaaFz
namespace Go.Proofs.Ytcmldpacgbhfmaa.V
open Go.RowKit Go.Proofs.YtcmldpacgbhfmaaW.PrintWords Go.Proofs.YtcmldpacgbhfmaaW.PrintLast Go.Proofs.YtcmldpacgbhfmaaW.PrintMore
set_option linter.unusedVariables false
set_option linter.unusedSimpArgs false

/-- the blocks that a platter may own are of these shapes -/
def Own (w : World) (k : Nat) : Prop := (∃ cs q, w.heap[k]? = some (.cells cs q (0, 0)) ∧ (q = 62 ∨ q = 9 ∨ q = 65)) ∨ ∃ es c, w.heap[k]? = some (.map es c)
theorem IsP.narrow {base : Nat} {F : Nat → Prop} {w : World} {g : Nat} {S : PS} (h : IsP base F w g S) : IsP base (fun k => F k ∧ base ≤ k ∧ k < w.heap.size ∧ Own w k) w g S := by
  obtain ⟨v, m, B, h1, h2, h3, h4, h5, h6, h7, h8⟩ := h
  have hl := h8.lt
  obtain ⟨es, c, hm, hrest⟩ := h8
  refine ⟨v, m, B, h1, h2, ⟨h3, h2, blk_lt h1, .inl ⟨_, _, h1, .inl rfl⟩⟩, h4, ⟨h5, h4, hl, .inr ⟨es, c, hm⟩⟩, ?_, ?_, ⟨es, c, hm, hrest⟩⟩
  · refine Kd.R_mono (Kd.R_bound h6) ?_
    rintro k ⟨a, b, d, q, hq, cs, hc⟩
    refine ⟨a, b, d, .inl ⟨cs, q, hc, ?_⟩⟩
    simp [Kd.string, Kd.scalar] at hq
    exact .inr (.inl hq)
  · refine Kd.R_mono (Kd.R_bound h7) ?_
    rintro k ⟨a, b, d, q, hq, cs, hc⟩
    refine ⟨a, b, d, .inl ⟨cs, q, hc, ?_⟩⟩
    simp [k65, Kd.iso, Kd.pair, Kd.int, Kd.string, Kd.scalar] at hq
    exact .inr (.inr hq)
/-- other rows stay -/
def Others (w w' : World) : Prop := ∀ (k : Nat) (cs : Array Value) (t : TypeId), w.heap[k]? = some (.cells cs t (0, 0)) → t ≠ 62 → t ≠ 9 → t ≠ 65 → w'.heap[k]? = some (.cells cs t (0, 0))
theorem Others.of_kept {w w' : World} {F : Nat → Prop} (h : Kept w w' (fun k => F k ∧ Own w k)) : Others w w' := by
  intro k cs t hk h1 h2 h3
  rw [h.2 k (blk_lt hk) ?_]; exact hk
  rintro ⟨_, ⟨cs', q, e, hq⟩ | ⟨es, c, e⟩⟩
  · rw [hk] at e
    injection e with e
    injection e with _ e
    rcases hq with hq | hq | hq
    · exact h1 (e.trans hq)
    · exact h2 (e.trans hq)
    · exact h3 (e.trans hq)
  · rw [hk] at e; cases e
/-- the platter S at block g, of the law's own, in a call that began in w0 -/
def IsQ (w0 w : World) (g : Nat) (S : PS) : Prop := Below w0.heap.size w0 w ∧ IsP w0.heap.size (fun k => w0.heap.size ≤ k) w g S
section
variable {w0 w w' : World} {g : Nat} {S : PS}
theorem IsP.lower {base base' : Nat} {F : Nat → Prop} (h : IsP base F w g S) (hb : base' ≤ base) : IsP base' F w g S := by
  obtain ⟨v, m, B, h1, h2, h3, h4, h5, h6, h7, h8⟩ := h
  exact ⟨v, m, B, h1, Nat.le_trans hb h2, h3, Nat.le_trans hb h4, h5, Kd.R_lower h6 hb, Kd.R_lower h7 hb, h8⟩
theorem IsQ.below (h : IsQ w0 w g S) (hb : Below w.heap.size w w') : IsQ w0 w' g S := ⟨h.1.trans (hb.mono h.1.size), h.2.below hb⟩
theorem IsQ.alloc (h : IsQ w0 w g S) (o : Obj) : IsQ w0 (w.alloc o) g S := h.below (below_alloc (Below.refl _ _) o)
theorem IsQ.drew (h : IsQ w0 w g S) : IsQ w0 w.drew g S := h.below (below_drew (Below.refl _ _))
theorem q_new (w0 w : World) (hb : Below w0.heap.size w0 w) (n : Nat) (h0 : 1 ≤ n) (h1 : n ≤ 200) :
    Calls Try.prog 12 #[.int .i64 n] w fun e w' => ∃ g, e = .returned (.pointer (some ⟨g, 0, none⟩)) ∧ IsQ w0 w' g (newS n) := by
  refine (new_any w n h0 h1).mono ?_
  rintro e w' ⟨g, rfl, hi, hb'⟩
  exact ⟨g, rfl, hb.trans (hb'.mono hb.size), (hi.lower hb.size).mono (fun k hk => Nat.le_trans hb.size hk)⟩
/-- the shape of what a call leaves -/
theorem q_of {S' : PS} (h : IsQ w0 w g S) {F : Nat → Prop} (hF : ∀ k, F k → w0.heap.size ≤ k) (h1 : IsP w0.heap.size (fun k => F k ∨ w.heap.size ≤ k) w' g S') (h2 : w0.heap.size ≤ w.heap.size → Below w0.heap.size w w') : IsQ w0 w' g S' :=
  ⟨h.1.trans (h2 h.1.size), h1.mono (fun k hk => hk.elim (hF k) (fun hk => Nat.le_trans h.1.size hk))⟩
def stS (S : PS) (n : Int) (b : ByteArray) : PS := { S with after := 0, afl := S.afl ++ [⟨n, b⟩], last := upd S.last n b }
def seS (S : PS) : PS := { S with safe := settled S S.afl.length, afl := [], last := fun _ => none }
def faS (S : PS) (cl : List Int) : PS := { safe := (failed S cl S.afl.length).1, last := fun _ => none, afl := [], halts := false, after := 0, halted := false }
theorem q_store (h : IsQ w0 w g S) (n : Int) (b : ByteArray) (hm : mayE S n = 0) (hs : b.size = 128) (hh : S.halts = false) (ha : S.after = 0) (wn : (Lit.int .i64 n).wf = true) (hl : S.afl.length ≤ 1000) :
    Calls Try.prog 14 #[.pointer (some ⟨g, 0, none⟩), .int .i64 n, .string b] w fun e w' => e = .returned (.int .i64 0) ∧ IsQ w0 w' g (stS S n b) ∧ Others w w' := by
  refine (store_ok h.2.narrow n b hm hs (.inl hh) wn (Nat.le_trans hl (by decide))).mono ?_
  rintro e w' ⟨rfl, hi, hk, hb⟩
  refine ⟨rfl, ?_, Others.of_kept (F := fun k => w0.heap.size ≤ k ∧ w0.heap.size ≤ k ∧ k < w.heap.size) ⟨hk.1, fun k h1 h2 => hk.2 k h1 (fun h3 => h2 ⟨⟨h3.1, h3.2.1, h3.2.2.1⟩, h3.2.2.2⟩)⟩⟩
  have e : ({ S with after := max (wrap64 (S.after - 1)) 0, afl := S.afl ++ [⟨n, b⟩], last := upd S.last n b } : PS) = stS S n b := by
    unfold stS
    rw [ha, show max (wrap64 (0 - 1)) 0 = 0 from by unfold wrap64; decide]
  rw [e] at hi
  exact q_of h (F := fun k => w0.heap.size ≤ k ∧ w0.heap.size ≤ k ∧ k < w.heap.size ∧ Own w k) (fun k hk => hk.1) hi hb
theorem q_storeG (h : IsQ w0 w g S) (n : Int) (b : ByteArray) (wn : (Lit.int .i64 n).wf = true) (hl : S.afl.length ≤ 1000) :
    Calls Try.prog 14 #[.pointer (some ⟨g, 0, none⟩), .int .i64 n, .string b] w fun e w' => e = .returned (.int .i64 (storeE S n b)) ∧ IsQ w0 w' g (storeS S n b) ∧ Others w w' := by
  refine (store_any h.2.narrow n b wn (Nat.le_trans hl (by decide))).mono ?_
  rintro e w' ⟨rfl, hi, hk, hb⟩
  refine ⟨rfl, ?_, Others.of_kept (F := fun k => w0.heap.size ≤ k ∧ w0.heap.size ≤ k ∧ k < w.heap.size) ⟨hk.1, fun k h1 h2 => hk.2 k h1 (fun h3 => h2 ⟨⟨h3.1, h3.2.1, h3.2.2.1⟩, h3.2.2.2⟩)⟩⟩
  exact q_of h (F := fun k => w0.heap.size ≤ k ∧ w0.heap.size ≤ k ∧ k < w.heap.size ∧ Own w k) (fun k hk => hk.1) hi hb
theorem q_settle (h : IsQ w0 w g S) (hh : S.halted = false) (hw : ∀ p ∈ S.afl, 0 ≤ p.f0 ∧ p.f0 < S.safe.length) (hl : S.afl.length ≤ 1000) :
    Calls Try.prog 15 #[.pointer (some ⟨g, 0, none⟩)] w fun e w' => e = .returned (.int .i64 0) ∧ IsQ w0 w' g (seS S) := by
  refine (settle_any h.2 hh hw (Nat.le_trans hl (by decide))).mono ?_
  rintro e w' ⟨rfl, hi, hk, hb⟩
  exact ⟨rfl, h.1.trans (hb h.1.size), hi⟩
theorem q_fail (h : IsQ w0 w g S) (hw : pagesOk S) (hl : S.afl.length ≤ 1000) (C : Option Addr) (cc : Nat) (cl : List Int) (hC : ∀ W', Others w W' → (Kd.int .i64).C W' C cl.length cl) :
    Calls Try.prog 16 #[.pointer (some ⟨g, 0, none⟩), .slice C cl.length cc] w fun e w' => e = .returned (.int .i64 (failed S cl S.afl.length).2) ∧ IsQ w0 w' g (faS S cl) := by
  refine (fail_any h.2.narrow hw (Nat.le_trans hl (by decide)) C cc cl (fun W' hk => hC W' (Others.of_kept (F := fun k => w0.heap.size ≤ k ∧ w0.heap.size ≤ k ∧ k < w.heap.size) ⟨hk.1, fun k h1 h2 => hk.2 k h1 (fun h3 => h2 ⟨⟨h3.1, h3.2.1, h3.2.2.1⟩, h3.2.2.2⟩)⟩))).mono ?_
  rintro e w' ⟨rfl, hi, hk, hb⟩
  exact ⟨rfl, h.1.trans (hb h.1.size), hi.mono (fun k hk => hk.1)⟩
theorem q_load (h : IsQ w0 w g S) (n : Int) (wn : (Lit.int .i64 n).wf = true) {b : ByteArray} {e0 : Int} (he : loadE S n = (b, e0)) :
    Calls Try.prog 17 #[.pointer (some ⟨g, 0, none⟩), .int .i64 n] w fun e w' => e = .returned (.tuple #[.string b, .int .i64 e0]) ∧ IsQ w0 w' g S := by
  refine (load_any h.2 n wn).mono ?_
  rintro e w' ⟨rfl, hb⟩
  rw [he]
  exact ⟨rfl, h.below hb⟩
theorem q_afloat (h : IsQ w0 w g S) {n : Int} (hn : (S.afl.length : Int) = n) :
    Calls Try.prog 19 #[.pointer (some ⟨g, 0, none⟩)] w fun e w' => e = .returned (.int .i64 n) ∧ IsQ w0 w' g S := by
  refine (afloat_any h.2).mono ?_
  rintro e w' ⟨rfl, hb⟩
  rw [hn]
  exact ⟨rfl, h.below hb⟩
theorem q_pages (h : IsQ w0 w g S) {n : Int} (hn : (S.safe.length : Int) = n) :
    Calls Try.prog 23 #[.pointer (some ⟨g, 0, none⟩)] w fun e w' => e = .returned (.int .i64 n) ∧ IsQ w0 w' g S := by
  refine (pages_any h.2).mono ?_
  rintro e w' ⟨rfl, hb⟩
  rw [hn]
  exact ⟨rfl, h.below hb⟩
theorem q_halted (h : IsQ w0 w g S) {n : Bool} (hn : S.halted = n) :
    Calls Try.prog 21 #[.pointer (some ⟨g, 0, none⟩)] w fun e w' => e = .returned (.bool n) ∧ IsQ w0 w' g S := by
  refine (halted_any h.2).mono ?_
  rintro e w' ⟨rfl, hb⟩
  rw [hn]
  exact ⟨rfl, h.below hb⟩
theorem q_halt (h : IsQ w0 w g S) (n : Int) :
    Calls Try.prog 20 #[.pointer (some ⟨g, 0, none⟩), .int .i64 n] w fun e w' => e = .returned (.tuple #[]) ∧ IsQ w0 w' g (haltE S n) := by
  refine (halt_any h.2 n).mono ?_
  rintro e w' ⟨rfl, hi, hk, hb⟩
  exact ⟨rfl, h.1.trans (hb h.1.size), hi⟩
theorem q_fill (h : IsQ w0 w g S) (a : ByteArray) :
    Calls Try.prog 13 #[.string a] w fun e w' => e = .returned (.string (fill a)) ∧ IsQ w0 w' g S := by
  refine (fill_any a w).mono ?_
  rintro e w' ⟨rfl, hb⟩
  exact ⟨rfl, h.below hb⟩
/-- a row of whole numbers that was made -/
theorem C_made {c : Nat} {cs : Array Value} {t : TypeId} {w : World} {cl : List Int} (h : w.heap[c]? = some (.cells cs t (0, 0))) (hc : cs = (cl.map (fun x => Value.int .i64 x)).toArray) (h1 : t ≠ 62) (h2 : t ≠ 9) (h3 : t ≠ 65) (hl : cl.length ≤ 1000000) :
    ∀ W', Others w W' → (Kd.int .i64).C W' (some ⟨c, 0, none⟩) cl.length cl := by
  intro W' ho
  have h' := ho c cs t h h1 h2 h3
  subst hc
  refine Kd.C_of_reads (d := 0) ⟨rfl, by omega, fun _ => ⟨_, rfl, fun j hj => ?_⟩⟩
  rw [show (⟨c, 0, none⟩ : Addr).add j = ⟨c, j, none⟩ by simp [Addr.add]; intro he; exact he.symm, blk_cell h']
  simp [List.getD, List.getElem?_eq_getElem hj]
end
/-! ### a platter on which all goes well, of n pages, k stores afloat -/
structure WellS (S : PS) (n k : Nat) : Prop where
  halted : S.halted = false
  halts : S.halts = false
  after : S.after = 0
  pages : pagesOk S
  len : S.safe.length = n
  few : S.afl.length = k
theorem WellS.new (n : Nat) : WellS (newS n) n 0 :=
  ⟨rfl, rfl, rfl, ⟨fun b hb => by obtain ⟨_, rfl⟩ := List.mem_replicate.1 hb; exact zer_size _, fun p hp => by simp [newS] at hp⟩, List.length_replicate, rfl⟩
section
variable {S : PS} {N k : Nat}
theorem WellS.st (h : WellS S N k) {n : Int} {b : ByteArray} (h0 : 0 ≤ n) (h1 : n < N) (hb : b.size = 128) : WellS (stS S n b) N (k + 1) := by
  refine ⟨h.halted, h.halts, rfl, ⟨h.pages.1, fun p hp => ?_⟩, h.len, by simp [stS, h.few]⟩
  rcases List.mem_append.1 hp with hp | hp
  · exact h.pages.2 p hp
  · rw [List.mem_singleton] at hp
    subst hp
    exact ⟨⟨h0, by show n < (S.safe.length : Int); rw [h.len]; exact h1⟩, hb⟩
theorem foldl_size {l : List S65} {sf : List ByteArray} (h : ∀ b ∈ sf, b.size = 128) (hl : ∀ p ∈ l, p.f1.size = 128) : ∀ b ∈ l.foldl (fun sf p => sf.set p.f0.toNat p.f1) sf, b.size = 128 := by
  induction l generalizing sf with
  | nil => exact h
  | cons p t ih =>
    rw [List.foldl_cons]
    refine ih (fun b hb => ?_) (fun q hq => hl q (List.mem_cons_of_mem _ hq))
    rcases List.mem_or_eq_of_mem_set hb with hb | rfl
    · exact h b hb
    · exact hl p List.mem_cons_self
theorem WellS.se (h : WellS S N k) : WellS (seS S) N 0 :=
  ⟨h.halted, h.halts, h.after, ⟨foldl_size h.pages.1 (fun p hp => (h.pages.2 p (List.mem_of_mem_take hp)).2), fun p hp => by simp [seS] at hp⟩, (settled_length _ _).trans h.len, rfl⟩
theorem WellS.fa (h : WellS S N k) (cl : List Int) : WellS (faS S cl) N 0 :=
  ⟨rfl, rfl, rfl, ⟨failed_size h.pages cl _ (Nat.le_refl _), fun p hp => by simp [faS] at hp⟩, (failed_length _ _ _).trans h.len, rfl⟩
theorem WellS.may (h : WellS S N k) {n : Int} (h0 : 0 ≤ n) (h1 : n < N) : mayE S n = 0 := by
  unfold mayE
  rw [h.halted, if_neg (by decide), if_neg (by omega), if_neg (by rw [h.len]; omega)]
variable {w0 w : World} {g : Nat}
theorem q_st (h : IsQ w0 w g S) (W : WellS S N k) (n : Int) (b : ByteArray) (h0 : 0 ≤ n) (h1 : n < N) (hb : b.size = 128) (hk : k ≤ 1000) (hN : N ≤ 1000) :
    Calls Try.prog 14 #[.pointer (some ⟨g, 0, none⟩), .int .i64 n, .string b] w fun e w' => e = .returned (.int .i64 0) ∧ IsQ w0 w' g (stS S n b) ∧ Others w w' :=
  q_store h n b (W.may h0 h1) hb W.halts W.after (Go.WalkArith.wf_i64 (by omega)) (by rw [W.few]; exact hk)
theorem q_se (h : IsQ w0 w g S) (W : WellS S N k) (hk : k ≤ 1000) :
    Calls Try.prog 15 #[.pointer (some ⟨g, 0, none⟩)] w fun e w' => e = .returned (.int .i64 0) ∧ IsQ w0 w' g (seS S) :=
  q_settle h W.halted (fun p hp => (W.pages.2 p hp).1) (by rw [W.few]; exact hk)
theorem q_fa (h : IsQ w0 w g S) (W : WellS S N k) (hk : k ≤ 1000) (C : Option Addr) (cc : Nat) (cl : List Int) (n : Nat) (hn : n = cl.length) (hC : ∀ W', Others w W' → (Kd.int .i64).C W' C cl.length cl) {r : Int} (hr : (failed S cl k).2 = r) :
    Calls Try.prog 16 #[.pointer (some ⟨g, 0, none⟩), .slice C n cc] w fun e w' => e = .returned (.int .i64 r) ∧ IsQ w0 w' g (faS S cl) := by
  subst hn
  have := q_fail h W.pages (by rw [W.few]; exact hk) C cc cl hC
  rw [W.few, hr] at this
  exact this
end
end Go.Proofs.Ytcmldpacgbhfmaa.V

/- Leaf, Index in closed form over lists; Fits; leaves, walked. -/
import Derived.Test.YtpeeojbhfebcdaaP2
namespace Go.Proofs.Ytpeeojbhfebcdaa.V
open Go.RowKit Go.Proofs.YtpeeojbhfebcdaaW.PrintWords Go.Proofs.YtpeeojbhfebcdaaW.PrintLast Go.Proofs.YtpeeojbhfebcdaaW.PrintMore Go.Proofs.YtpeeojbhfebcdaaM
set_option linter.unusedVariables false
set_option linter.unusedSimpArgs false

def leafE (l : List C4) : ByteArray × Bool := lfA (fun i => (atC l i.toNat).1) (fun i => (atC l i.toNat).2.1) (fun i => (atC l i.toNat).2.2.1) (fun i => (atC l i.toNat).2.2.2) l.length
def indexE (l : List S2) : ByteArray × Bool := idxA (fun i => (atS l i.toNat).1) (fun i => (atS l i.toNat).2) l.length
theorem leaf_list (A : Option Addr) (c : Nat) (l : List C4) (w : World) (h : Kd.C kC w A l.length l) :
    Calls Try.prog 31 #[.slice A l.length c] w fun e w' => e = .returned (.tuple #[.string (leafE l).1, .bool (leafE l).2]) ∧ Below w.heap.size w w' :=
  leaf_all A l.length c w _ _ _ _ (fun i h0 h1 => at_C h i.toNat (by omega))
theorem index_list (A : Option Addr) (c : Nat) (l : List S2) (w : World) (h : Kd.C kS w A l.length l) :
    Calls Try.prog 32 #[.slice A l.length c] w fun e w' => e = .returned (.tuple #[.string (indexE l).1, .bool (indexE l).2]) ∧ Below w.heap.size w w' :=
  index_all A l.length c w _ _ (fun i h0 h1 => at_S h i.toNat (by omega))
theorem fullA_size (s : ByteArray) : (fullA s).1.size ≤ 128 := by
  unfold fullA
  split
  · show (s ++ zer (128 - s.size)).size ≤ 128
    rw [ByteArray.size_append, zer_size]; omega
  · exact Nat.zero_le _
theorem leafE_size (l : List C4) : (leafE l).1.size ≤ 128 := by
  unfold leafE lfA
  split
  · split
    · exact fullA_size _
    · exact Nat.zero_le _
  · exact Nat.zero_le _
theorem indexE_size (l : List S2) : (indexE l).1.size ≤ 128 := by
  unfold indexE idxA
  split
  · split
    · exact fullA_size _
    · exact Nat.zero_le _
  · exact Nat.zero_le _
set_option maxHeartbeats 1000000 in
theorem fits_any (A : Option Addr) (c : Nat) (l : List C4) (w : World) (h : Kd.C kC w A l.length l) :
    Calls Try.prog 53 #[.slice A l.length c] w fun e w' => e = .returned (.bool (leafE l).2) ∧ Below w.heap.size w w' := by
  have HL := Aside0.mk (leaf_list A c l w h)
  obtain ⟨r1, h1⟩ : ∃ r, r = (leafE l).1 := ⟨_, rfl⟩
  obtain ⟨r2, h2⟩ : ∃ r, r = (leafE l).2 := ⟨_, rfl⟩
  obtain ⟨n, hn⟩ : ∃ n, n = l.length := ⟨_, rfl⟩
  rw [← h1, ← h2, ← hn] at HL
  rw [← h2, ← hn]
  clear h h1 h2 hn
  go_enter Try.func53, Try.ntmps53
  go_wp2_with (fail)
  with_reducible refine (HL.out).mono ?_
  rintro e w1 ⟨rfl, hb⟩
  have HB := Aside0.mk hb
  clear hb HL
  go_wp2_with (fail)
  go_ret
  exact ⟨rfl, HB.out⟩
/-- cells, as many in each as have room -/
def lvs : List C4 → List C4 → List (List C4)
  | cur, [] => (match cur with | [] => [] | _ :: _ => [cur])
  | cur, c :: r => if (leafE (cur ++ [c])).2 = true then lvs (cur ++ [c]) r else cur :: lvs [c] r
theorem lvs_length : ∀ (r cur : List C4), (lvs cur r).length ≤ r.length + 1
  | [], cur => by unfold lvs; cases cur <;> simp
  | c :: r, cur => by
    unfold lvs
    split
    · have := lvs_length r (cur ++ [c]); rw [List.length_cons]; omega
    · have := lvs_length r [c]; rw [List.length_cons, List.length_cons]; omega
abbrev kL (w : World) : Kd (List C4) := Kd.fixed (Kd.slice 61 kC) w
theorem kL_mk {w w' : World} {base : Nat} {ok : Nat → Prop} {A : Option Addr} {c : Nat} {xs : List C4} (hl : xs.length ≤ c) (h : Kd.C kC w A xs.length xs) : (kL w).M w' base ok xs [.slice A xs.length c] := ⟨A, c, rfl, hl, h⟩
theorem take_drop_len {l : List C4} {a b : Nat} (h1 : a ≤ b) (h2 : b ≤ l.length) : ((l.take b).drop a).length = b - a := by rw [List.length_drop, List.length_take]; omega
set_option maxHeartbeats 8000000 in
set_option maxRecDepth 100000 in
theorem leaves_any (w Wf : World) (A : Option Addr) (c : Nat) (l : List C4) (h : Kd.C kC w A l.length l) (hW : Kd.C kC Wf A l.length l) (hc : l.length ≤ c) (hl : l.length ≤ 100000) :
    Calls Try.prog 28 #[.slice A l.length c] w fun e w' => ∃ v, e = .returned v ∧ (kL Wf).R 59 w' w.heap.size (fun k => w.heap.size ≤ k) v (lvs [] l) ∧ Below w.heap.size w w' := by
  have HC := Aside0.mk h
  have HL := Aside0.mk hl
  obtain ⟨i0, hi0, hz0⟩ := Option.map_eq_some_iff.1 info61
  have hsz0 : i0.size = 4 := by simp only [Prod.mk.injEq] at hz0; exact hz0.2.1
  have hcut := fun (lo hi : Nat) (h1 : lo ≤ hi) (h2 : hi ≤ l.length) => cut_mid (P := Try.prog) 59 61 .i64 .i64 Try.underlying59 hi0 4 hsz0 A l.length c (lo : Int) (hi : Int) (by omega) (by omega) (by omega) hc
  have hcut2 := fun (lo : Nat) (h1 : lo ≤ l.length) => cut_from (P := Try.prog) 59 61 .i64 Try.underlying59 hi0 4 hsz0 A l.length c (lo : Int) (by omega) (by omega)
  have hmid := fun (lo hi : Nat) (h1 : lo ≤ hi) (h2 : hi ≤ l.length) => Kd.C_mid h h1 h2 hc
  have hmidW := fun (lo hi : Nat) (h1 : lo ≤ hi) (h2 : hi ≤ l.length) => Kd.C_mid hW h1 h2 hc
  have hdr := fun (lo : Nat) (h1 : lo ≤ l.length) => Kd.C_drop hW h1 hc
  obtain ⟨n, hn⟩ : ∃ n, n = l.length := ⟨_, rfl⟩
  have HN := Aside0.mk hn
  rw [← hn] at hcut hcut2 hmid hmidW hdr hl hc
  rw [← hn]
  have HCUT := Aside0.mk hcut
  have HCUT2 := Aside0.mk hcut2
  have HMID := Aside0.mk hmid
  have HDR := Aside0.mk hdr
  have HMIDW := Aside0.mk hmidW
  have HCC := Aside0.mk hc
  clear h hW hc hcut hcut2 hmid hmidW hdr hn hi0 hz0 hsz0
  go_enter Try.func28, Try.ntmps28
  go_wp2_with (fail)
  go_loopg [3, 4, 8] n (fun kx v3 v4 v8 wr => ∃ (i f : Nat) (out : List (List C4)), v8 = .int .i64 i ∧ v4 = .int .i64 f ∧ f ≤ i ∧ Aside0 (i + kx = n) ∧ Aside0 (out ++ lvs ((l.take i).drop f) (l.drop i) = lvs [] l) ∧ Aside0 (out.length ≤ i) ∧ Aside0 ((kL Wf).R 59 wr w.heap.size (fun k => w.heap.size ≤ k) v3 out) ∧ Aside0 (Below w.heap.size w wr))
  case atStart => exact ⟨0, 0, [], rfl, rfl, Nat.le_refl _, ⟨by omega⟩, ⟨by simp⟩, ⟨Nat.le_refl _⟩, ⟨Kd.R_nil _ _ _ _ _⟩, ⟨Below.refl _ _⟩⟩
  case round =>
    obtain ⟨i, f, out, rfl, rfl, hfi, HI, HX, HO, HR, HB⟩ := hrel
    have HFI := Aside0.mk hfi
    cases gk with
    | zero =>
      have hi : i = n := by have := HI.out; omega
      have d1 : decide ((i : Int) < (n : Int)) = false := decide_eq_false (by omega)
      have d2 : decide (i < n) = false := decide_eq_false (by omega)
      have hX := HX.out
      rw [show l.drop i = [] from List.drop_of_length_le (by have := HN.out; omega), show l.take i = l from List.take_of_length_le (by have := HN.out; omega)] at hX
      by_cases hf : f < n
      · have d3 : decide ((f : Int) < (n : Int)) = true := decide_eq_true (by omega)
        have d4 : decide (f < n) = true := decide_eq_true hf
        have hne : ∃ a t, l.drop f = a :: t := by
          cases hd : l.drop f with
          | nil => have h2 := congrArg List.length hd; rw [List.length_drop, List.length_nil] at h2; have := HN.out; omega
          | cons a t => exact ⟨a, t, rfl⟩
        obtain ⟨a, t, hat⟩ := hne
        have hX2 : out ++ [l.drop f] = lvs [] l := by rw [← hX, hat]; rfl
        have hrun := HCUT2.out f (by omega)
        rw [Int.toNat_natCast] at hrun
        have hcd := HDR.out f (by omega)
        have hln : (l.drop f).length = n - f := by rw [List.length_drop, HN.out]
        obtain ⟨A2, hA2⟩ : ∃ A2, A2 = (if c = f then A else A.map (·.add (f * 4))) := ⟨_, rfl⟩
        rw [← hA2] at hrun
        have hcd2 : Kd.C kC Wf A2 (l.drop f).length (l.drop f) := by rw [hA2]; exact hcd
        obtain ⟨q, hq⟩ : ∃ q, q = (l.drop f).length := ⟨_, rfl⟩
        rw [show n - f = q by omega] at hrun
        have HQ := Aside0.mk hq
        have HCD := Aside0.mk hcd2
        have HX2 := Aside0.mk hX2
        have hlen : out.length ≤ 100000 := by have := HO.out; omega
        clear hX hX2 hat hcd hcd2 hln hA2 hq hi
        have HQC := Aside0.mk (show (l.drop f).length ≤ c - f by rw [List.length_drop]; have := HN.out; have := HCC.out; omega)
        go_wp2_with (first
          | ((with_reducible refine gate_builtin (b := .append) (xs := #[.tmp 31, .tmp 35]) rfl ?_); at_builtin; go_must (refine Kd.R_append (kL Wf) w.heap.size rfl (.tmp 31) (.tmp 35) 63 59 (.slice none 0 0) 24 rfl Try.underlying63 info59 rfl Nat.one_pos (by omega) u3 out (l.drop f) [.slice A2 q (c - f)] (fun k => w.heap.size ≤ k) (fun _ => False) rfl rfl (by rw [HQ.out]; exact kL_mk HQC.out HCD.out) (fun _ hk => hk.elim) ?aF HR.out HB.out HB.out.size (by omega) ?_); (case aF => exact fun k hk => Nat.le_trans HB.out.size hk); intro v5_ w5_ ho_ hb_ hg_ hat_; rw [HX2.out] at ho_; have HR2 := Aside0.mk ho_; have HB2 := Aside0.mk hb_; clear ho_ hb_ hg_ hat_))
        go_ret
        exact ⟨_, rfl, HR2.out, HB2.out⟩
      · have d3 : decide ((f : Int) < (n : Int)) = false := decide_eq_false (by omega)
        have d4 : decide (f < n) = false := decide_eq_false hf
        have hX2 : out = lvs [] l := by rw [← hX, show l.drop f = [] from List.drop_of_length_le (by have := HN.out; omega)]; simp [lvs]
        have HX2 := Aside0.mk hX2
        clear hX hX2 hi hf
        go_wp2_with (fail)
        go_ret
        exact ⟨_, rfl, by rw [← HX2.out]; exact HR.out, HB.out⟩
    | succ gk =>
      have hi : i < n := by have := HI.out; omega
      have hil : i < l.length := by have := HN.out; omega
      have d1 : decide ((i : Int) < (n : Int)) = true := decide_eq_true (by omega)
      have d2 : decide (i < n) = true := decide_eq_true hi
      have hX := HX.out
      rw [List.drop_eq_getElem_cons hil] at hX
      have htk : (l.take i).drop f ++ [l[i]] = (l.take (i + 1)).drop f := by
        rw [List.take_succ_eq_append_getElem hil, List.drop_append_of_le_length (by rw [List.length_take]; omega)]
      rw [show ∀ cur c r, lvs cur (c :: r) = if (leafE (cur ++ [c])).2 = true then lvs (cur ++ [c]) r else cur :: lvs [c] r from fun _ _ _ => rfl, htk] at hX
      have hrun := HCUT.out f (i + 1) (by omega) (by omega)
      rw [Int.toNat_natCast, Int.toNat_natCast] at hrun
      have hcd := HMID.out f (i + 1) (by omega) (by omega)
      have hln : ((l.take (i + 1)).drop f).length = i + 1 - f := take_drop_len (by omega) (by omega)
      obtain ⟨A2, hA2⟩ : ∃ A2, A2 = (if c = f then A else A.map (·.add (f * 4))) := ⟨_, rfl⟩
      rw [← hA2] at hrun
      have hcd2 : Kd.C kC w A2 ((l.take (i + 1)).drop f).length ((l.take (i + 1)).drop f) := by rw [hA2]; exact hcd
      obtain ⟨xs, hxs⟩ : ∃ xs, xs = (l.take (i + 1)).drop f := ⟨_, rfl⟩
      rw [← hxs] at hcd2 hX hln
      have hfit := fits_any A2 (c - f) xs wr (Kd.C_below hcd2 HB.out)
      rw [hln] at hfit
      rw [show ((i + 1 : Nat) : Int) = (i : Int) + 1 by omega] at hrun
      cases hb : (leafE xs).2 with
      | true =>
        rw [hb] at hfit hX
        rw [if_pos rfl, hxs] at hX
        have HX2 := Aside0.mk hX
        have HF := Aside0.mk hfit
        clear hX hxs hln hcd hcd2 htk hA2 hb hfit hil
        go_wp2_with (fail)
        with_reducible refine (HF.out).mono ?_
        rintro e w2 ⟨rfl, hb2⟩
        have HR2 := Aside0.mk (Kd.R_below HR.out hb2)
        have HB2 := Aside0.mk (below_step HB.out hb2)
        clear hb2 HF hrun
        go_wp2_with (fail)
        go_roundg gk
        case measure => omega
        case rel => exact ⟨i + 1, f, out, by first | rfl | go_num, rfl, by omega, ⟨by have := HI.out; omega⟩, HX2, ⟨by have := HO.out; omega⟩, HR2, HB2⟩
      | false =>
        rw [hb] at hfit hX
        rw [if_neg (by decide), show [l[i]] = (l.take (i + 1)).drop i from by rw [List.take_succ_eq_append_getElem hil, List.drop_append_of_le_length (by rw [List.length_take]; omega), List.drop_of_length_le (by rw [List.length_take]; omega)]; rfl] at hX
        have hrun3 := HCUT.out f i (by omega) (by omega)
        rw [Int.toNat_natCast, Int.toNat_natCast] at hrun3
        have hcd3 := HMIDW.out f i (by omega) (by omega)
        have hln3 : ((l.take i).drop f).length = i - f := take_drop_len (by omega) (by omega)
        rw [← hA2] at hrun3
        have hcd4 : Kd.C kC Wf A2 ((l.take i).drop f).length ((l.take i).drop f) := by rw [hA2]; exact hcd3
        obtain ⟨ys, hys⟩ : ∃ ys, ys = (l.take i).drop f := ⟨_, rfl⟩
        rw [← hys] at hcd4 hX hln3
        have HX2 := Aside0.mk (show (out ++ [ys]) ++ lvs ((l.take (i + 1)).drop i) (l.drop (i + 1)) = lvs [] l by rw [List.append_assoc]; exact hX)
        have HF := Aside0.mk hfit
        have HCD := Aside0.mk hcd4
        obtain ⟨q, hq⟩ : ∃ q, q = i - f := ⟨_, rfl⟩
        rw [← hq] at hrun3
        have HQ := Aside0.mk (show q = ys.length by omega)
        have HQC := Aside0.mk (show ys.length ≤ c - f by have := HCC.out; omega)
        have hlen : out.length ≤ 100000 := by have := HO.out; omega
        clear hX hxs hln hcd hcd2 htk hA2 hb hfit hil hcd3 hcd4 hln3 hys hq
        go_wp2_with (fail)
        with_reducible refine (HF.out).mono ?_
        rintro e w2 ⟨rfl, hb2⟩
        have HR2 := Aside0.mk (Kd.R_below HR.out hb2)
        have HB2 := Aside0.mk (below_step HB.out hb2)
        clear hb2 HF hrun
        go_wp2_with (first
          | ((with_reducible refine gate_builtin (b := .append) (xs := #[.tmp 18, .tmp 23]) rfl ?_); at_builtin; go_must (refine Kd.R_append (kL Wf) w.heap.size rfl (.tmp 18) (.tmp 23) 63 59 (.slice none 0 0) 24 rfl Try.underlying63 info59 rfl Nat.one_pos (by omega) u3 out ys [.slice A2 q (c - f)] (fun k => w.heap.size ≤ k) (fun _ => False) rfl rfl (by rw [HQ.out]; exact kL_mk HQC.out HCD.out) (fun _ hk => hk.elim) ?aF HR2.out HB2.out HB2.out.size (by omega) ?_); (case aF => exact fun k hk => Nat.le_trans HB2.out.size hk); intro v5_ w5_ ho_ hb_ hg_ hat_; have HR3 := Aside0.mk ho_; have HB3 := Aside0.mk hb_; clear ho_ hb_ hg_ hat_))
        go_roundg gk
        case measure => omega
        case rel => exact ⟨i + 1, i, out ++ [ys], by first | rfl | go_num, rfl, by omega, ⟨by have := HI.out; omega⟩, HX2, ⟨by rw [List.length_append]; have := HO.out; simp; omega⟩, HR3, HB3⟩
end Go.Proofs.Ytpeeojbhfebcdaa.V

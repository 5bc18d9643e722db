/- ShelfLong, plain: a record's pieces that are not alike take a page each. -/
import Derived.Test.YtpeeojbhfebcdaaPAllx3
import Derived.Test.YtpeeojbhfebcdaaQ3
import Derived.Test.YtpeeojbhfebcdaaQ4
namespace Go.Proofs.Ytpeeojbhfebcdaa.V
open Go.RowKit Go.Proofs.YtpeeojbhfebcdaaW.PrintWords Go.Proofs.YtpeeojbhfebcdaaW.PrintLast Go.Proofs.YtpeeojbhfebcdaaW.PrintMore Go.Proofs.YtpeeojbhfebcdaaM
open Go.Proofs.Ytpeeojbhfebcdaa.PAll
set_option linter.unusedVariables false
set_option linter.unusedSimpArgs false

theorem piecesF_cons (n : Nat) (b : ByteArray) (h : b.size ≠ 0) : piecesF (n + 1) b = b.extract 0 (min b.size 120) :: piecesF n (b.extract (min b.size 120) b.size) := by
  show (if b.size = 0 then [] else _) = _
  rw [if_neg h]
/-- as many pieces as are needed -/
theorem piecesF_count (n : Nat) : ∀ b : ByteArray, b.size ≤ n → (piecesF n b).length = (b.size + 119) / 120 := by
  induction n with
  | zero => intro b h; have : b.size = 0 := by omega
            rw [this]; rfl
  | succ n ih =>
    intro b h
    by_cases h0 : b.size = 0
    · rw [show piecesF (n + 1) b = [] from by show (if b.size = 0 then [] else _) = _; rw [if_pos h0], h0]; rfl
    · rw [piecesF_cons n b h0, List.length_cons, ih _ (by rw [ByteArray.size_extract]; omega), ByteArray.size_extract]
      omega
/-- the byte that stands at a place of a page -/
def bAt (b : ByteArray) (i : Nat) : Int := (bytesOf b).getD i 0
theorem chA_at4 {nx : Int} {x : ByteArray} (h : (chA nx x).2 = true) (h1 : 1 ≤ x.size) : bAt (chA nx x).1 4 = bAt x 0 := by
  unfold chA at h ⊢
  split at h
  · rename_i hok
    rw [if_pos hok]
    unfold bAt
    rw [bytesOf_strOf (okB_pad (okB_chL nx x))]
    cases hx : bytesOf x with
    | nil => rw [← bytesOf_len, hx] at h1; simp at h1
    | cons y t =>
      unfold pad chL
      rw [hx]
      rfl
  · cases h
/-- pieces whose first bytes rise -/
def inc : Int → List ByteArray → Prop
  | _, [] => True
  | j, x :: t => (1 ≤ x.size ∧ x.size ≤ 120) ∧ bAt x 0 = j ∧ inc (j + 1) t
theorem chain_new : ∀ (l : List ByteArray) (j : Int) (S : PS), inc j l → S.e = 0 → (∀ b, S.known b = none) → l.length ≤ S.free.length → (∀ n ∈ S.free, okP n = true) →
    (chainF l S).2.e = 0 ∧ (chainF l S).2.out.length = S.out.length + l.length ∧ (chainF l S).2.free.length + l.length = S.free.length ∧ (∀ n ∈ (chainF l S).2.free, okP n = true) ∧ ((chainF l S).1 = 0 ∨ okP (chainF l S).1 = true) ∧ (∀ b, (chainF l S).2.known b ≠ none → j ≤ bAt b 4)
  | [], j, S, _, he, hk, _, hp => ⟨he, rfl, rfl, hp, .inl rfl, fun b hb => absurd (hk b) hb⟩
  | x :: t, j, S, hi, he, hk, hl, hp => by
    obtain ⟨⟨i1, i2⟩, i3, i4⟩ := hi
    obtain ⟨a1, a2, a3, a4, a5, a6⟩ := chain_new t (j + 1) S i4 he hk (by rw [List.length_cons] at hl; omega) hp
    rw [chainF_cons]
    rw [List.length_cons] at hl ⊢
    generalize (chainF t S).1 = nx at a5 ⊢
    generalize (chainF t S).2 = T at a1 a2 a3 a4 a6 ⊢
    have hok : chOk nx x = true := by
      unfold chOk
      rcases a5 with rfl | h
      · simp; omega
      · rw [h]; simp; omega
    have h2 : (chA nx x).2 = true := by unfold chA; rw [if_pos hok]
    have h4 := chA_at4 h2 i1
    have hn : T.known (chA nx x).1 = none := by
      cases hc : T.known (chA nx x).1 with
      | none => rfl
      | some n =>
        exfalso
        have := a6 _ (by rw [hc]; exact Option.some_ne_none _)
        rw [h4, i3] at this
        omega
    obtain ⟨f, fr, hf⟩ : ∃ f fr, T.free = f :: fr := by
      cases hc : T.free with
      | nil => rw [hc] at a3; simp at a3; omega
      | cons f fr => exact ⟨f, fr, rfl⟩
    have e1 : putN T (chA nx x).1 (chA nx x).2 = f := by unfold putN; rw [if_pos a1, if_pos h2, hn, hf]
    have e2 : putS T (chA nx x).1 (chA nx x).2 = { T with known := upd T.known (chA nx x).1 f, free := fr, out := T.out ++ [(f, (chA nx x).1)] } := by unfold putS; rw [if_pos a1, if_pos h2, hn, hf]
    show (putS T (chA nx x).1 (chA nx x).2).e = 0 ∧ (putS T (chA nx x).1 (chA nx x).2).out.length = _ ∧ _
    rw [e1, e2]
    rw [hf, List.length_cons] at a3
    refine ⟨a1, ?_, ?_, fun n hn => a4 n (by rw [hf]; exact List.mem_cons_of_mem _ hn), .inr (a4 f (by rw [hf]; exact List.mem_cons_self)), ?_⟩
    · rw [List.length_append, a2]; simp; omega
    · show fr.length + (t.length + 1) = _; omega
    · intro b hb
      by_cases e : b = (chA nx x).1
      · rw [e, h4, i3]; exact Int.le_refl _
      · have := a6 b (by
          have h9 : upd T.known (chA nx x).1 f b ≠ none := hb
          rwa [upd_ne _ _ e] at h9)
        omega
/-- a put that is new, with a page free -/
theorem put_free {S : PS} {b : ByteArray} (he : S.e = 0) (hn : S.known b = none) (hf : 0 < S.free.length) : (putS S b true).e = 0 ∧ (putS S b true).free.length + 1 = S.free.length ∧ ∃ n ∈ S.free, putN S b true = n ∧ (putS S b true).known = upd S.known b n := by
  obtain ⟨f, fr, h⟩ := len0 hf
  have e1 : putN S b true = f := by unfold putN; rw [if_pos he, if_pos rfl, hn, h]
  have e2 : putS S b true = { S with known := upd S.known b f, free := fr, out := S.out ++ [(f, b)] } := by unfold putS; rw [if_pos he, if_pos rfl, hn, h]
  rw [e1, e2, h]
  exact ⟨he, by simp, f, List.mem_cons_self, rfl, rfl⟩
theorem index_one {k p : Int} (h0 : 0 ≤ k) (h1 : k ≤ 2147483647) (hp : okP p = true) : (indexE [(k, p)]).2 = true := by
  unfold indexE idxA
  have hv : idxV (fun i => (atS [(k, p)] i.toNat).1) (fun i => (atS [(k, p)] i.toNat).2) [(k, p)].length = true := by
    unfold idxV
    rw [all_at]
    intro j hj
    have : j = 0 := by simpa using hj
    subst this
    show (okK k (-1) && okP p) = true
    rw [hp]; unfold okK; simp; omega
  rw [if_pos (by simp), if_pos hv]
  unfold fullA
  rw [if_pos]
  rw [strOfNums_size]
  unfold idxB
  show (_ ++ (List.flatten [_])).length ≤ 128
  rw [List.flatten_cons, List.flatten_nil, List.append_nil]
  simp only [List.length_append, byL_length, List.length_cons, List.length_nil]
  omega
theorem pgs_may : mayE [] (pgs 198) = true := by decide +kernel
theorem pgs_ok : ∀ n ∈ pgs 198, okP n = true := (mayE_pg pgs_may).2
/-- one record's pages -/
theorem need_one (b : ByteArray) (hb : b.size ≤ 900) (hi : 24 < b.size → inc 0 (pieces b)) :
    needE [(5, b)] = 2 + if 24 < b.size then (b.size + 119) / 120 else 0 := by
  unfold needE
  have hr : rightF (-1) [((5 : Int), b)] = true := by
    unfold rightF
    simp only [Bool.and_eq_true, decide_eq_true_eq]
    exact ⟨by show (-1 : Int) < 5; decide, by show (5 : Int) ≤ 2147483647; decide, hb, rfl⟩
  have hcok : ∀ p, (24 < b.size → okP p = true) → cellOk (cellE (5, b) p) := fun p hp => cellE_ok (r := (5, b)) (by show (-1 : Int) < 5; decide) (by show (5 : Int) ≤ 2147483647; decide) hb hp
  have hlv : ∀ x : C4, cellOk x → lvs [] [x] = [[x]] := by
    intro x hx
    have h1 : (leafE ([] ++ [x])).2 = true := leaf_one hx
    show (if (leafE ([] ++ [x])).2 = true then lvs ([] ++ [x]) [] else _) = _
    rw [if_pos h1]
    rfl
  -- what the chains leave
  have hch : ∃ (x : C4) (T : PS), chainsF [((5 : Int), b)] ⟨knF [], pgs 198, [], 0⟩ = ([x], T) ∧ x.1 = 5 ∧ cellOk x ∧ T.e = 0 ∧ T.out.length = (if 24 < b.size then (b.size + 119) / 120 else 0) ∧ 100 ≤ T.free.length ∧ (∀ n ∈ T.free, okP n = true) ∧ PC T := by
    rw [chainsF_cons]
    by_cases h24 : 24 < b.size
    · have hpl : (pieces b).length = (b.size + 119) / 120 := piecesF_count _ _ (Nat.le_refl _)
      obtain ⟨a1, a2, a3, a4, a5, a6⟩ := chain_new (pieces b) 0 ⟨knF [], pgs 198, [], 0⟩ (hi h24) rfl (fun _ => rfl) (by rw [hpl]; show _ ≤ (pgs 198).length; rw [pgs_length]; omega) pgs_ok
      have hpc := chainF_pc (pieces b) (S := ⟨knF [], pgs 198, [], 0⟩) (fun b hb => absurd rfl hb)
      rw [if_pos h24, if_pos h24]
      refine ⟨_, _, rfl, ?_, hcok _ (fun _ => ?_), a1, ?_, ?_, a4, hpc⟩
      · show (cellE (5, b) _).1 = 5
        unfold cellE; split <;> rfl
      · rcases a5 with h | h
        · exfalso
          obtain ⟨y, ys, hp⟩ : ∃ y ys, pieces b = y :: ys := by
            cases hc : pieces b with
            | nil => rw [hc] at hpl; simp at hpl; omega
            | cons y ys => exact ⟨y, ys, rfl⟩
          have hh := putN_pg (S := (chainF ys ⟨knF [], pgs 198, [], 0⟩).2) (chainF_pg ys ⟨knF_pg (fun x hx => by cases hx), pgs_ok⟩) (chA (chainF ys ⟨knF [], pgs 198, [], 0⟩).1 y).1 (chA (chainF ys ⟨knF [], pgs 198, [], 0⟩).1 y).2 (by rw [hp, chainF_cons] at a1; exact a1)
          rw [hp, chainF_cons] at h
          change putN _ _ _ = 0 at h
          rw [h] at hh
          exact absurd hh (by decide)
        · exact h
      · show (chainF (pieces b) _).2.out.length = _
        rw [a2, hpl]; simp
      · show 100 ≤ (chainF (pieces b) _).2.free.length
        rw [hpl] at a3
        change _ = (pgs 198).length at a3
        rw [pgs_length] at a3
        omega
    · rw [if_neg h24, if_neg h24]
      refine ⟨_, _, rfl, ?_, hcok _ (fun h => absurd h h24), rfl, rfl, ?_, pgs_ok, fun b hb => absurd rfl hb⟩
      · show (cellE (5, b) _).1 = 5
        unfold cellE; split <;> rfl
      · show 100 ≤ (pgs 198).length; rw [pgs_length]; omega
  obtain ⟨x, T, hE, hx1, hxok, hTe, hTo, hTf, hTp, hpc⟩ := hch
  have eC : planC [((5 : Int), b)] [] (pgs 198) = [x] := by unfold planC; rw [hE]
  have eS : planS [((5 : Int), b)] [] (pgs 198) = T := by unfold planS; rw [hE]
  have eT : planT [((5 : Int), b)] [] (pgs 198) = ([(x.1, putN T (leafE [x]).1 (leafE [x]).2)], putS T (leafE [x]).1 (leafE [x]).2) := by
    unfold planT
    rw [eC, eS, hlv x hxok, slotsF_cons, if_pos hTe]
    rfl
  have hl1 := leaf_one hxok
  have hn1 : T.known (leafE [x]).1 = none := by
    cases hc : T.known (leafE [x]).1 with
    | none => rfl
    | some n =>
      exfalso
      have h1 := hpc _ (show T.known (leafE [x]).1 ≠ none by rw [hc]; exact Option.some_ne_none _)
      rw [leafE_fb hl1] at h1
      injection h1 with h1
      exact absurd h1 (by decide)
  obtain ⟨b1, b2, n, b3, b4, b5⟩ := put_free hTe hn1 (by omega)
  rw [← hl1] at b1 b2 b4 b5
  have hi2 : (indexE [(x.1, putN T (leafE [x]).1 (leafE [x]).2)]).2 = true := index_one (by rw [hx1]; decide) (by rw [hx1]; decide) (by rw [b4]; exact hTp n b3)
  have hn2 : (putS T (leafE [x]).1 (leafE [x]).2).known (indexE [(x.1, putN T (leafE [x]).1 (leafE [x]).2)]).1 = none := by
    cases hc : (putS T (leafE [x]).1 (leafE [x]).2).known (indexE [(x.1, putN T (leafE [x]).1 (leafE [x]).2)]).1 with
    | none => rfl
    | some m =>
      exfalso
      have h9 := indexE_fb hi2
      rcases putS_mem (show (putS T (leafE [x]).1 (leafE [x]).2).known (indexE [(x.1, putN T (leafE [x]).1 (leafE [x]).2)]).1 ≠ none by rw [hc]; exact Option.some_ne_none _) with h | ⟨h, _⟩
      · have h1 := hpc _ h
        rw [h9] at h1; injection h1 with h1; exact absurd h1 (by decide)
      · have h1 := leafE_fb hl1
        rw [← h, h9] at h1; injection h1 with h1; exact absurd h1 (by decide)
  obtain ⟨c1, _, _⟩ := put_free b1 hn2 (by omega)
  rw [← hi2] at c1
  have hZ : (planZ [((5 : Int), b)] [] (pgs 198)).2.e = 0 := by
    unfold planZ
    rw [eT]
    exact c1
  have hplan : (planE [((5 : Int), b)] [] (pgs 198)).2.2 = 0 := by
    unfold planE
    have hA : (rightF (-1) [((5 : Int), b)] && mayE (List.map (fun x => x.1) ([] : List R2)) (pgs 198)) = true := by
      rw [List.map_nil, hr, pgs_may]; rfl
    rw [if_pos hA, if_neg, if_pos hZ]
    rw [show List.map (fun x => cellE x 2) [((5 : Int), b)] = [cellE (5, b) 2] from rfl, hlv _ (hcok 2 (fun _ => by decide))]
    show ¬ 21 < 1
    decide
  rw [plan_count hplan, eS, eC, hlv x hxok, hTo]
  show _ + 1 + 1 = _
  omega
/-- what the law writes -/
def lb (n j : Nat) : List Int := (List.range n).map fun i => if i < j then (i : Int) / 120 else 0
theorem lb_length (n j : Nat) : (lb n j).length = n := by unfold lb; simp
theorem lb_get (n j i : Nat) (h : i < n) : (lb n j).getD i 0 = if i < j then (i : Int) / 120 else 0 := by
  unfold lb; simp [List.getD, h]
theorem lb_set (n j : Nat) (h : j < n) : (lb n j).set j ((j : Int) / 120) = lb n (j + 1) := by
  apply List.ext_getElem?
  intro i
  rw [List.getElem?_set]
  unfold lb
  rw [List.getElem?_map, List.getElem?_map]
  simp only [List.length_map, List.length_range]
  by_cases hj : j = i
  · subst hj
    rw [if_pos rfl, if_pos h, List.getElem?_range h]
    simp
  · rw [if_neg hj]
    by_cases hi : i < n
    · rw [List.getElem?_range hi]
      simp only [Option.map_some]
      congr 1
      by_cases h1 : i < j
      · rw [if_pos h1, if_pos (by omega)]
      · rw [if_neg h1, if_neg (by omega)]
    · rw [List.getElem?_eq_none (by simpa using hi)]; rfl
theorem lb_ok (n j : Nat) (h : n ≤ 900) : okB (lb n j) := by
  intro x hx
  unfold lb at hx
  obtain ⟨i, hi, rfl⟩ := List.mem_map.1 hx
  rw [List.mem_range] at hi
  split <;> omega
theorem inc_of : ∀ (m : Nat) (j : Nat) (l : List Int), okB l → l.length ≤ m → (∀ i, i < l.length → l.getD i 0 = (j : Int) + (i : Int) / 120) → inc (j : Int) (piecesF m (strOfNums l))
  | 0, j, l, _, _, _ => True.intro
  | m + 1, j, l, ho, hl, hg => by
    by_cases h0 : l.length = 0
    · rw [show piecesF (m + 1) (strOfNums l) = [] from by show (if (strOfNums l).size = 0 then [] else _) = _; rw [strOfNums_size, if_pos h0]]
      exact True.intro
    · rw [piecesF_cons m _ (by rw [strOfNums_size]; exact h0), strOfNums_size, extract_strOf, extract_strOf]
      refine ⟨?_, ?_, ?_⟩
      · rw [strOfNums_size]; simp; omega
      · unfold bAt
        rw [bytesOf_strOf (fun x hx => ho x (List.mem_of_mem_drop (List.mem_of_mem_take hx)))]
        have := hg 0 (by omega)
        rw [List.drop_zero]
        cases l with
        | nil => simp at h0
        | cons y t =>
          rw [show min (y :: t).length 120 - 0 = (min (y :: t).length 120 - 1) + 1 from by simp; omega, List.take_succ_cons]
          simp at this ⊢
          exact this
      · have hd : (l.drop (min l.length 120)).take (l.length - min l.length 120) = l.drop 120 := by
          by_cases hc : l.length ≤ 120
          · rw [List.drop_of_length_le (by omega), List.drop_of_length_le hc, List.take_nil]
          · rw [show min l.length 120 = 120 by omega, List.take_of_length_le (by rw [List.length_drop]; omega)]
        rw [hd]
        have := inc_of m (j + 1) (l.drop 120) (fun x hx => ho x (List.mem_of_mem_drop hx)) (by rw [List.length_drop]; omega) (by
          intro i hi
          rw [List.length_drop] at hi
          have := hg (120 + i) (by omega)
          rw [List.getD_eq_getElem?_getD, List.getElem?_drop, ← List.getD_eq_getElem?_getD, this]
          omega)
        exact this
theorem long_want (n : Nat) (h : n ≤ 900) : needE [(5, strOfNums (lb n n))] = 2 + if 24 < n then (n + 119) / 120 else 0 := by
  have := need_one (strOfNums (lb n n)) (by rw [strOfNums_size, lb_length]; exact h) (fun _ => by
    unfold pieces
    have := inc_of (strOfNums (lb n n)).size 0 (lb n n) (lb_ok n n h) (by rw [strOfNums_size]; exact Nat.le_refl _) (by
      intro i hi
      rw [lb_length] at hi
      rw [lb_get n n i hi, if_pos hi]
      omega)
    exact this)
  rw [strOfNums_size, lb_length] at this
  exact this
theorem long_l0 (n : Nat) (hn : n ≤ 900) (d : Nat) : ∀ (k i : Nat), n - i = d → i ≤ n → d + 300 < k → maquettelaw16_ShelfLong.l0 k (n : Int) (lb n i) (n : Int) (i : Int) = some true := by
  induction d with
  | zero =>
    intro k i hd hi hk
    obtain ⟨k, rfl⟩ : ∃ m, k = m + 1 := ⟨k - 1, by omega⟩
    obtain rfl : i = n := by omega
    unfold maquettelaw16_ShelfLong.l0
    have hN := need_f [(⟨5, strOfNums (lb i i)⟩ : S45)] (by show 1 ≤ 9000; decide) k (by omega)
    rw [show tR [(⟨5, strOfNums (lb i i)⟩ : S45)] = [(5, strOfNums (lb i i))] from rfl, long_want i hn] at hN
    rw [if_neg (by omega)]
    by_cases h24 : 24 < i
    · rw [if_pos (by omega), hN, Option.bind_some, if_pos h24]
      have : (((2 + (i + 119) / 120 : Nat) : Int) == wrap64 (2 + wrap64 (Int.tdiv (wrap64 (wrap64 ((i : Int) + 120) - 1)) 120))) = true := by
        rw [show wrap64 (wrap64 ((i : Int) + 120) - 1) = ((i + 119 : Nat) : Int) from by unfold wrap64; omega]
        rw [show Int.tdiv ((i + 119 : Nat) : Int) 120 = (((i + 119) / 120 : Nat) : Int) from by rw [Int.tdiv_eq_ediv_of_nonneg (by omega)]; omega]
        rw [show wrap64 (2 + wrap64 (((i + 119) / 120 : Nat) : Int)) = ((2 + (i + 119) / 120 : Nat) : Int) from by unfold wrap64; omega]
        simp
      rw [this]
    · rw [if_neg (by omega), hN, Option.bind_some, if_neg h24]
      rfl
  | succ d ih =>
    intro k i hd hi hk
    obtain ⟨k, rfl⟩ : ∃ m, k = m + 1 := ⟨k - 1, by omega⟩
    unfold maquettelaw16_ShelfLong.l0
    rw [if_pos (by omega), if_pos (by omega), if_pos (by rw [lb_length]; omega)]
    rw [show wrap64 (Int.tdiv (i : Int) 120) % 256 = (i : Int) / 120 from by rw [Int.tdiv_eq_ediv_of_nonneg (by omega)]; unfold wrap64; omega]
    rw [Int.toNat_natCast, lb_set n i (by omega), show wrap64 ((i : Int) + 1) = ((i + 1 : Nat) : Int) from by unfold wrap64; omega]
    exact ih k (i + 1) (by omega) (by omega) (by omega)
theorem long_j0 (k : Nat) (x : Int) (b : Bool) : maquettelaw16_ShelfLong.j0 (k + 1) x b = (if b = true then ((maquettelaw16_alive.f k).bind fun t200 => (some t200)) else (if 0 ≤ x then (if (x : Int).toNat ≤ 281474976710656 then ((some (List.replicate (x : Int).toNat 0 : List Int)).bind fun y201 => (maquettelaw16_ShelfLong.l0 k x y201 (y201.length : Int) 0)) else (none)) else (none))) := by
  conv => lhs; unfold maquettelaw16_ShelfLong.j0
theorem long_pure (x : Int) : ∃ k, maquettelaw16_ShelfLong.f k x = some true := by
  refine ⟨1300 + 1, ?_⟩
  unfold maquettelaw16_ShelfLong.f
  have hal : ∀ k, 200 ≤ k → maquettelaw16_ShelfLong.j0 (k + 1) x true = some true := by
    intro k hk
    rw [long_j0, if_pos rfl, alive_f k hk]; rfl
  by_cases h1 : x < 0
  · rw [if_pos h1]; exact hal 1300 (by omega)
  · rw [if_neg h1]
    by_cases h2 : x > 900
    · rw [if_pos h2]; exact hal 1300 (by omega)
    · rw [if_neg h2, alive_f _ (by omega), Option.bind_some, long_j0, if_neg (by decide), if_pos (by omega), if_pos (by omega), Option.bind_some, List.length_replicate]
      obtain ⟨n, rfl⟩ : ∃ n : Nat, x = n := ⟨x.toNat, by omega⟩
      rw [Int.toNat_natCast]
      have e : List.replicate n (0 : Int) = lb n 0 := by
        unfold lb
        apply List.ext_getElem?
        intro i
        rw [List.getElem?_map, List.getElem?_replicate]
        by_cases hi : i < n
        · rw [if_pos hi, List.getElem?_range hi]; simp
        · rw [if_neg hi, List.getElem?_eq_none (by simpa using hi)]; rfl
      rw [e]
      exact long_l0 n (by omega) n 1300 0 (by omega) (by omega) (by omega)
theorem long_Pure : maquettelaw16_ShelfLong.Pure := fun x _ => long_pure x
end Go.Proofs.Ytpeeojbhfebcdaa.V

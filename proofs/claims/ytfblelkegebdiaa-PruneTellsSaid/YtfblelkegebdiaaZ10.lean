/- slices' stable sort of whole numbers: symMergeCmpFunc permutes. -/
import Derived.Test.YtfblelkegebdiaaZ6
import Derived.Test.YtfblelkegebdiaaQC
namespace Go.Proofs.Ytfblelkegebdiaa.V
open Go.Proofs Go.Shelf Go.RowKit Go.Lib Go.Sort
set_option linter.unusedVariables false
variable {α : Type} [Inhabited α]

theorem symMerge_s (enc : α → Value) (cf : α → α → Int) (lt : α → α → Bool) (key : α → Nat) (hst : StOrd cf lt key) (g : Nat) (cb : Array Value) (blk off cap : Nat) (d0 : Array α) (w0 : World)
    (eg : ∀ args w, (callFunc g args).run Try.prog w = .ok (.enter g args) w) (hcmp : CmpLays1 Try.prog g cb enc cf blk off d0.size w0)
    (R : Row1 enc w0 blk off d0) (hsz : d0.size < 4611686018427387904) :
    ∀ (N a m b : Nat), b - a ≤ N → a < m → m < b → b ≤ d0.size → SymOK lt key enc g cb blk off cap d0 w0 a m b := by
  intro N
  induction N with
  | zero => intro a m b h h1 h2 _; omega
  | succ N ih =>
    intro a m b h h1 h2 h3 d w hs S
    by_cases hA : m = a + 1
    · exact symMergeA_s enc cf lt key hst g cb blk off cap a m b d0 d w0 w eg hcmp R hs S hA h2 (by omega) (by omega)
    · by_cases hB : b = m + 1
      · exact symMergeB_s enc cf lt key hst g cb blk off cap a m b d0 d w0 w eg hcmp R hs S (by omega) hB (by omega) (by omega)
      · exact symMergeC_s enc cf lt key hst g cb blk off cap a m b d0 d w0 w eg hcmp R hs S (by omega) (by omega) (by omega) (by omega) (fun a' m' b' h4 h5 h6 h7 => ih a' m' b' (by omega) h5 h6 h7)
end Go.Proofs.Ytfblelkegebdiaa.V
/- slices' stable sort of whole numbers: stableCmpFunc permutes. -/
namespace Go.Proofs.Ytfblelkegebdiaa.V
open Go.Proofs Go.Shelf Go.RowKit Go.Lib Go.Sort
set_option linter.unusedVariables false
set_option linter.unusedSimpArgs false
variable {α : Type} [Inhabited α]

theorem insertion_s (enc : α → Value) (cf : α → α → Int) (lt : α → α → Bool) (key : α → Nat) (hst : StOrd cf lt key) (hO : SWO (ltOf cf)) (g : Nat) (cb : Array Value) (blk off cap a b : Nat) (d0 d : Array α) (w0 w : World)
    (eg : ∀ args w, (callFunc g args).run Try.prog w = .ok (.enter g args) w) (hcmp : CmpLays1 Try.prog g cb enc cf blk off d0.size w0)
    (R : Row1 enc w0 blk off d0) (hs : d0.size = d.size) (S : SW enc w0 blk off d w) (hab : a ≤ b) (hb : b ≤ d.size) (hsz : d.size < 4611686018427387904) :
    Calls Try.prog 84 #[.slice (some ⟨blk, off, none⟩) d.size cap, .int .i64 a, .int .i64 b, .func (.func g) #[] cb] w fun e w' => e = .returned (.tuple #[]) ∧ SQ enc w0 blk off d (InsQ lt key a b d) w' := by
  refine (Any.insertionSortCmpFunc_s Try.laysSlF20_f84 enc cf g cb blk off cap a b d0 d w0 w eg hcmp R hs S hab hb hsz).mono ?_
  rintro e w' ⟨rfl, hw⟩
  exact ⟨rfl, _, permIn_mono _ _ _ _ _ _ (Nat.zero_le _) hb (Nat.le_refl _) (insertionSort_holds hO d a b hab hb).1, ins_q hst d a b hb, hw⟩
end Go.Proofs.Ytfblelkegebdiaa.V
/- slices' stable sort of whole numbers: stableCmpFunc permutes. -/
namespace Go.Proofs.Ytfblelkegebdiaa.V
open Go.Proofs Go.Shelf Go.RowKit Go.Lib Go.Sort
set_option linter.unusedVariables false
set_option linter.unusedSimpArgs false
variable {α : Type} [Inhabited α]

set_option maxHeartbeats 2000000 in
set_option maxRecDepth 1000000 in
theorem stable_s (enc : α → Value) (cf : α → α → Int) (lt : α → α → Bool) (key : α → Nat) (hst : StOrd cf lt key) (hO : SWO (ltOf cf)) (g : Nat) (cb : Array Value) (blk off cap : Nat) (d0 d : Array α) (w0 w : World)
    (eg : ∀ args w, (callFunc g args).run Try.prog w = .ok (.enter g args) w) (hcmp : CmpLays1 Try.prog g cb enc cf blk off d0.size w0)
    (R : Row1 enc w0 blk off d0) (hs : d0.size = d.size) (S : SW enc w0 blk off d w) (hsz : d.size ≤ 1000000) (hkey : ∀ x, x < d.size → key d[x]! = x) :
    Calls Try.prog 60 #[.slice (some ⟨blk, off, none⟩) d.size cap, .int .i64 d.size, .func (.func g) #[] cb] w fun e w' => e = .returned (.tuple #[]) ∧ SQ enc w0 blk off d (Asc lt 0 d.size) w' := by
  have HK : Aside (∀ x, x < d.size → key d[x]! = x) := hkey
  clear hkey
  have S0 : Aside (SW enc w0 blk off d w) := S
  have hins : ∀ (a b : Nat) (d1 : Array α) (W : World), a ≤ b → b ≤ d.size → d1.size = d.size → SW enc w0 blk off d1 W → Calls Try.prog 84 #[.slice (some ⟨blk, off, none⟩) d.size cap, .int .i64 a, .int .i64 b, .func (.func g) #[] cb] W fun e w' => e = .returned (.tuple #[]) ∧ SQ enc w0 blk off d1 (InsQ lt key a b d1) w' := by
    intro a b d1 W h1 h2 z hW
    have := insertion_s enc cf lt key hst hO g cb blk off cap a b d0 d1 w0 W eg hcmp R (by omega) hW h1 (by omega) (by omega)
    rw [z] at this
    exact this
  have hsym : ∀ (a m b : Nat) (d1 : Array α) (W : World), a < m → m < b → b ≤ d.size → d1.size = d.size → SW enc w0 blk off d1 W → Calls Try.prog 85 #[.slice (some ⟨blk, off, none⟩) d.size cap, .int .i64 a, .int .i64 m, .int .i64 b, .func (.func g) #[] cb] W fun e w' => e = .returned (.tuple #[]) ∧ SQ enc w0 blk off d1 (SymQ lt key a m b d1) w' := by
    intro a m b d1 W h1 h2 h3 z hW
    have := symMerge_s enc cf lt key hst g cb blk off cap d0 w0 eg hcmp R (by omega) (b - a) a m b (Nat.le_refl _) h1 h2 (by omega) d1 W (by omega) hW
    rw [z] at this
    exact this
  have HINS : Aside (∀ (a b : Nat) (d1 : Array α) (W : World), a ≤ b → b ≤ d.size → d1.size = d.size → SW enc w0 blk off d1 W → Calls Try.prog 84 #[.slice (some ⟨blk, off, none⟩) d.size cap, .int .i64 a, .int .i64 b, .func (.func g) #[] cb] W fun e w' => e = .returned (.tuple #[]) ∧ SQ enc w0 blk off d1 (InsQ lt key a b d1) w') := hins
  have HSYM : Aside (∀ (a m b : Nat) (d1 : Array α) (W : World), a < m → m < b → b ≤ d.size → d1.size = d.size → SW enc w0 blk off d1 W → Calls Try.prog 85 #[.slice (some ⟨blk, off, none⟩) d.size cap, .int .i64 a, .int .i64 m, .int .i64 b, .func (.func g) #[] cb] W fun e w' => e = .returned (.tuple #[]) ∧ SQ enc w0 blk off d1 (SymQ lt key a m b d1) w') := hsym
  clear S hins hsym hcmp
  go_enter Try.func60, Try.ntmps60
  go_wp2_with (fail)
  go_loopg [7, 8] d.size (fun kx s7 s8 wr => ∃ (p : Nat) (dk : Array α), s7 = .int .i64 p ∧ s8 = .int .i64 ((p : Int) + 20) ∧ p ≤ d.size ∧ d.size - p ≤ kx ∧ Aside (dk.size = d.size) ∧ Aside (SW enc w0 blk off dk wr) ∧ Aside (PermIn 0 d.size d dk) ∧ Aside (20 ∣ p) ∧ Aside (St1 lt key d.size p dk))
  case atStart => exact ⟨0, d, rfl, rfl, Nat.zero_le _, by omega, (rfl : d.size = d.size), S0, permIn_refl d 0 d.size, (⟨0, by omega⟩ : 20 ∣ 0), St1.start HK.out⟩
  case round =>
    clear S0
    obtain ⟨p, dk, rfl, rfl, h1, h2, hds, S1, HP, HD, HS⟩ := hrel
    by_cases hlt : p + 20 ≤ d.size
    · have hltz : (p : Int) + 20 ≤ (d.size : Int) := by omega
      go_wp2_with (fail)
      have hc := HINS.out p (p + 20) dk wr (by omega) hlt hds.out S1.out
      rw [show ((p + 20 : Nat) : Int) = (p : Int) + 20 by omega] at hc
      with_reducible refine (hc).mono ?_
      clear hc
      rintro e w' ⟨rfl, e1, hp, hm, hq⟩
      have M1 : Aside (St1 lt key d.size (p + 20) e1) := HS.out.step HD.out hlt hm
      have D1 : Aside (20 ∣ p + 20) := Nat.dvd_add HD.out (Nat.dvd_refl _)
      have Z1 : Aside (e1.size = d.size) := (hp.1).trans hds.out
      have P1 : Aside (PermIn 0 d.size d e1) := permIn_trans _ _ _ _ _ HP.out (by rw [hds.out] at hp; exact hp)
      have T1 : Aside (SW enc w0 blk off e1 w') := hq
      clear hp hm hq
      go_wp2_with (fail)
      go_roundg (d.size - (p + 20))
      case measure => omega
      case rel => exact ⟨p + 20, e1, Value.int.injEq .. |>.mpr ⟨rfl, by omega⟩, Value.int.injEq .. |>.mpr ⟨rfl, by omega⟩, by omega, Nat.le_refl _, Z1, T1, P1, D1, M1⟩
    · have hltz : ¬ (p : Int) + 20 ≤ (d.size : Int) := by omega
      go_wp2_with (fail)
      with_reducible refine (HINS.out p d.size dk _ h1 (Nat.le_refl _) hds.out S1.out).mono ?_
      rintro e w' ⟨rfl, e1, hp, hm, hq⟩
      have M1 : Aside (St2 lt key d.size 20 e1) := HS.out.fin HD.out h1 hlt hm
      have Z1 : Aside (e1.size = d.size) := (hp.1).trans hds.out
      have P1 : Aside (PermIn 0 d.size d e1) := permIn_trans _ _ _ _ _ HP.out (by rw [hds.out] at hp; exact hp)
      have T1 : Aside (SW enc w0 blk off e1 w') := hq
      clear hp hm hq S1 HP hds hlt hltz HS HD
      go_wp2_with (fail)
      clear h1 h2
      go_loopg [6] d.size (fun kx s6 wr => ∃ (bs : Nat) (dk : Array α), s6 = .int .i64 bs ∧ 1 ≤ bs ∧ bs ≤ 2000000 ∧ d.size - bs ≤ kx ∧ Aside (dk.size = d.size) ∧ Aside (SW enc w0 blk off dk wr) ∧ Aside (PermIn 0 d.size d dk) ∧ Aside (St2 lt key d.size bs dk))
      case atStart => exact ⟨20, e1, rfl, by omega, by omega, by omega, Z1, T1, P1, M1⟩
      case round =>
        clear Z1 T1 P1 M1
        obtain ⟨bs, dk, rfl, h1, h2, h3, hds, S1, HP, HS⟩ := hrel
        by_cases hbs : bs < d.size
        · have hbz : (bs : Int) < (d.size : Int) := by omega
          go_wp2_with (fail)
          go_loopg [7, 8] d.size (fun ky s7 s8 wr => ∃ (p : Nat) (dj : Array α), s7 = .int .i64 p ∧ s8 = .int .i64 ((p : Int) + 2 * (bs : Int)) ∧ p ≤ d.size ∧ d.size - p ≤ ky ∧ Aside (dj.size = d.size) ∧ Aside (SW enc w0 blk off dj wr) ∧ Aside (PermIn 0 d.size d dj) ∧ Aside (2 * bs ∣ p) ∧ Aside (St3 lt key d.size bs p dj))
          case atStart => exact ⟨0, dk, rfl, Value.int.injEq .. |>.mpr ⟨rfl, by omega⟩, Nat.zero_le _, by omega, hds, S1, HP, (Nat.dvd_zero _ : 2 * bs ∣ 0), St3.start HS.out⟩
          case round =>
            clear hds S1 HP HS
            obtain ⟨p, dj, rfl, rfl, h4, h5, hds, S1, HP, HD, HS⟩ := hrel
            by_cases hlt : p + 2 * bs ≤ d.size
            · have hltz : (p : Int) + 2 * (bs : Int) ≤ (d.size : Int) := by omega
              go_wp2_with (fail)
              have hc := HSYM.out p (p + bs) (p + 2 * bs) dj wr (by omega) (by omega) hlt hds.out S1.out
              rw [show ((p + bs : Nat) : Int) = (p : Int) + (bs : Int) by omega, show ((p + 2 * bs : Nat) : Int) = (p : Int) + 2 * (bs : Int) by omega] at hc
              with_reducible refine (hc).mono ?_
              clear hc
              rintro e w' ⟨rfl, e2, hp, hm, hq⟩
              have M2 : Aside (St3 lt key d.size bs (p + 2 * bs) e2) := HS.out.step HD.out hlt hm
              have D2 : Aside (2 * bs ∣ p + 2 * bs) := Nat.dvd_add HD.out (Nat.dvd_refl _)
              have Z2 : Aside (e2.size = d.size) := (hp.1).trans hds.out
              have P2 : Aside (PermIn 0 d.size d e2) := permIn_trans _ _ _ _ _ HP.out (by rw [hds.out] at hp; exact hp)
              have T2 : Aside (SW enc w0 blk off e2 w') := hq
              clear hp hm hq
              go_wp2_with (fail)
              go_roundg (d.size - (p + 2 * bs))
              case measure => omega
              case rel => exact ⟨p + 2 * bs, e2, Value.int.injEq .. |>.mpr ⟨rfl, by omega⟩, Value.int.injEq .. |>.mpr ⟨rfl, by omega⟩, by omega, Nat.le_refl _, Z2, T2, P2, D2, M2⟩
            · have hltz : ¬ (p : Int) + 2 * (bs : Int) ≤ (d.size : Int) := by omega
              by_cases hm : p + bs < d.size
              · have hmz : (p : Int) + (bs : Int) < (d.size : Int) := by omega
                go_wp2_with (fail)
                have hc := HSYM.out p (p + bs) d.size dj wr (by omega) hm (Nat.le_refl _) hds.out S1.out
                rw [show ((p + bs : Nat) : Int) = (p : Int) + (bs : Int) by omega] at hc
                with_reducible refine (hc).mono ?_
                clear hc
                rintro e w' ⟨rfl, e2, hp, hm2, hq⟩
                have M2 : Aside (St2 lt key d.size (bs * 2) e2) := by have := HS.out.fin HD.out hm hlt hm2; rw [Nat.mul_comm] at this; exact this
                have Z2 : Aside (e2.size = d.size) := (hp.1).trans hds.out
                have P2 : Aside (PermIn 0 d.size d e2) := permIn_trans _ _ _ _ _ HP.out (by rw [hds.out] at hp; exact hp)
                have T2 : Aside (SW enc w0 blk off e2 w') := hq
                clear hp hm2 hq
                go_wp2_with (fail)
                go_roundg (d.size - bs * 2)
                case measure => omega
                case rel => exact ⟨bs * 2, e2, Value.int.injEq .. |>.mpr ⟨rfl, by omega⟩, by omega, by omega, Nat.le_refl _, Z2, T2, P2, M2⟩
              · have hmz : ¬ (p : Int) + (bs : Int) < (d.size : Int) := by omega
                have M2 : Aside (St2 lt key d.size (bs * 2) dj) := by have := HS.out.fin0 HD.out hm; rw [Nat.mul_comm] at this; exact this
                go_wp2_with (fail)
                go_roundg (d.size - bs * 2)
                case measure => omega
                case rel => exact ⟨bs * 2, dj, Value.int.injEq .. |>.mpr ⟨rfl, by omega⟩, by omega, by omega, Nat.le_refl _, hds, S1, HP, M2⟩
        · have hbz : ¬ (bs : Int) < (d.size : Int) := by omega
          go_wp2_with (fail)
          go_end0
          exact ⟨rfl, dk, HP.out, HS.out.asc (by omega), S1.out⟩
end Go.Proofs.Ytfblelkegebdiaa.V
/- slices.SortStableFunc of whole numbers permutes. -/
namespace Go.Proofs.Ytfblelkegebdiaa.V
open Go.Proofs Go.Shelf Go.RowKit Go.Lib Go.Sort
set_option linter.unusedVariables false
set_option linter.unusedSimpArgs false
variable {α : Type} [Inhabited α]

set_option maxHeartbeats 2000000 in
set_option maxRecDepth 1000000 in
theorem sortStable_s (enc : α → Value) (cf : α → α → Int) (lt : α → α → Bool) (key : α → Nat) (hst : StOrd cf lt key) (hO : SWO (ltOf cf)) (g : Nat) (cb : Array Value) (blk off cap : Nat) (d : Array α) (w : World)
    (eg : ∀ args w, (callFunc g args).run Try.prog w = .ok (.enter g args) w) (hcmp : CmpLays1 Try.prog g cb enc cf blk off d.size w)
    (R : Row1 enc w blk off d) (hsz : d.size ≤ 1000000) (hkey : ∀ x, x < d.size → key d[x]! = x) :
    Calls Try.prog 23 #[.slice (some ⟨blk, off, none⟩) d.size cap, .func (.func g) #[] cb] w fun e w' => e = .returned (.tuple #[]) ∧ SQ enc w blk off d (Asc lt 0 d.size) w' := by
  have hc := stable_s enc cf lt key hst hO g cb blk off cap d d w w eg hcmp R rfl (SW.start R.hH) hsz hkey
  clear hcmp
  have HC : Aside (Calls Try.prog 60 #[.slice (some ⟨blk, off, none⟩) d.size cap, .int .i64 d.size, .func (.func g) #[] cb] w fun e w' => e = .returned (.tuple #[]) ∧ SQ enc w blk off d (Asc lt 0 d.size) w') := hc
  clear hc
  go_enter Try.func23, Try.ntmps23
  go_wp2_with (fail)
  with_reducible refine (HC.out).mono ?_
  rintro e w' ⟨rfl, hp⟩
  have P1 : Aside (SQ enc w blk off d (Asc lt 0 d.size) w') := hp
  clear hp
  go_wp2_with (fail)
  go_end0
  exact ⟨rfl, P1.out⟩
end Go.Proofs.Ytfblelkegebdiaa.V

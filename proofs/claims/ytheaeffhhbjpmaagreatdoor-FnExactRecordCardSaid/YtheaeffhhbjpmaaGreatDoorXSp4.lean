/- Of the reference: whether an entry is right. -/
import Derived.Test.YtheaeffhhbjpmaaGreatDoorXA
import Derived.Test.YtheaeffhhbjpmaaGreatDoorXSz
namespace Go.Proofs.YtheaeffhhbjpmaaGreatDoor
open Go.RowKit Go.Proofs.YtheaeffhhbjpmaaGreatDoorW.PrintWords Go.Proofs.YtheaeffhhbjpmaaGreatDoorW.PrintLast
set_option linter.unusedVariables false
set_option linter.unusedSimpArgs false
abbrev ln (l : List S88) (i : Int) : S88 := rd_T88 l i
def gC (c : Int) (x : S88) : Int := if x.f2 = c then x.f3 else 0
def gD (c : Int) (x : S88) : Int := if x.f1 = c then x.f4 else 0
def pre (g : S88 → Int) (l : List S88) (i : Int) : Int := sumC g (l.take i.toNat)
theorem sumC_app {α : Type} (g : α → Int) : ∀ a b : List α, sumC g (a ++ b) = sumC g a + sumC g b
 | [], b => by simp [sumC]
 | x :: t, b => by simp [sumC, sumC_app g t b, Int.add_assoc]
theorem pre_zero (g : S88 → Int) (l : List S88) : pre g l 0 = 0 := by simp [pre, sumC]
theorem pre_step (g : S88 → Int) (l : List S88) {i : Int} (h0 : 0 ≤ i) (h1 : i < l.length) : pre g l (i + 1) = pre g l i + g (ln l i) := by
 have h : i.toNat < l.length := by omega
 unfold pre ln rd_T88
 rw [show (i + 1).toNat = i.toNat + 1 by omega, List.take_add_one, sumC_app]
 simp [h, sumC]
theorem pre_all (g : S88 → Int) (l : List S88) : pre g l l.length = sumC g l := by simp [pre]
theorem pre_bound (g : S88 → Int) (l : List S88) (B : Int) (hB : ∀ i : Int, 0 ≤ i → i < l.length → -B ≤ g (ln l i) ∧ g (ln l i) ≤ B) : ∀ n : Nat, n ≤ l.length → -(B * n) ≤ pre g l n ∧ pre g l n ≤ B * n
 | 0, _ => by rw [show ((0 : Nat) : Int) = 0 from rfl, pre_zero]; omega
 | n + 1, h => by
  have h1 := pre_bound g l B hB n (by omega)
  have h2 := hB n (by omega) (by omega)
  rw [show ((n + 1 : Nat) : Int) = (n : Int) + 1 by omega, pre_step g l (by omega) (by omega), Int.mul_add]
  omega
def EntryP (f : FrameD) (e : S41) : Prop := (0 ≤ e.f0 ∧ e.f0 ≤ 40000) ∧ (0 ≤ e.f1 ∧ e.f1 ≤ 1000) ∧ TextP e.f2 ∧ (2 ≤ (e.f3.length : Int) ∧ (e.f3.length : Int) ≤ 60) ∧ (∀ i : Int, 0 ≤ i → i < e.f3.length → LineP f (ln e.f3 i)) ∧ ∀ i : Int, 0 ≤ i → i < e.f3.length → sumC (gC (ln e.f3 i).f2) e.f3 = 0 ∧ sumC (gD (ln e.f3 i).f1) e.f3 = 0
theorem gC_bound {f : FrameD} {x : S88} (h : LineP f x) (c : Int) : -100000000000 ≤ gC c x ∧ gC c x ≤ 100000000000 := by have := h.2.2.2.1; unfold gC; split <;> omega
theorem gD_bound {f : FrameD} {x : S88} (h : LineP f x) (c : Int) : -100000000000 ≤ gD c x ∧ gD c x ≤ 100000000000 := by have := h.2.2.2.2.1; unfold gD; split <;> omega
theorem pre_in {g : S88 → Int} {l : List S88} (hB : ∀ i : Int, 0 ≤ i → i < l.length → -100000000000 ≤ g (ln l i) ∧ g (ln l i) ≤ 100000000000) (hl : (l.length : Int) ≤ 60) {i : Int} (h0 : 0 ≤ i) (h1 : i ≤ l.length) : -6000000000000 ≤ pre g l i ∧ pre g l i ≤ 6000000000000 := by
 have h := pre_bound g l 100000000000 hB i.toNat (by omega)
 rw [show ((i.toNat : Nat) : Int) = i by omega] at h
 omega
set_option maxRecDepth 100000 in
set_option maxHeartbeats 2000000 in
theorem sEntryOk_calls (f : FrameD) (A : Option Addr) (c : Nat) (e : S41) (AL : Option Addr) (cL : Nat) (hs : SzC f.chart) (ht : e.f2.size ≤ 9223372036854775807) (r : Bool) (h : bP (FrameP f ∧ EntryP f e) = r) (w : World) (hr : Kd.C k48 w A f.chart.length f.chart) (hl : Kd.C k88 w AL e.f3.length e.f3) :
  Calls Tryz.prog 44 #[.agg #[.slice A f.chart.length c, .int .i64 f.dims, .int .i64 f.curs], .agg #[.int .i64 e.f0, .int .i64 e.f1, .string e.f2, .slice AL e.f3.length cL]] w fun e1 w' => e1 = .returned (.bool r) ∧ Below w.heap.size w w' := by
 have hu := Tryz.underlying26
 have hu2 := Tryz.underlying41
 have hu3 := Tryz.underlying88
 have HR := Aside0.mk hr
 have HLn := Aside0.mk hl
 have HS := Aside0.mk hs
 have hm := C_len hl
 clear hr hl hs
 subst h
 by_cases c1 : FrameP f
 rotate_left
 ·have C1 := Aside0.mk (bP_f c1); have HF := Aside0.mk (bP_f (show ¬ (FrameP f ∧ EntryP f e) from fun h => c1 h.1)); clear c1
  go_enter Tryz.func44, Tryz.ntmps44
  go_wp2_with (first | (go_at_call 87; (with_reducible refine (sFrameOk_calls f _ _ HS.out _ C1.out _ (Kd.C_below HR.out (by repeat (with_reducible first | assumption | exact Below.refl _ _ | apply below_alloc | apply below_drew1 | apply pw_below_drewN | refine below_set ?_ (by omega) | refine below_step ?_ (by assumption))))).mono ?_); rintro e1 w1 ⟨rfl, hb1⟩; obtain ⟨hc1, hf1⟩ := bcell hb1; have hz1 := hb1.size; (try simp at hz1); have hy1 : w.heap.size < w1.heap.size := (by omega); have hx1 : w.heap.size + 1 < w1.heap.size := (by omega)) | (go_at_call 42; (with_reducible refine (l2Day_calls e.f0 _ C2.out _).mono ?_); rintro e1 w' ⟨rfl, rfl⟩) | (go_at_call 34; (with_reducible refine (l1In_calls e.f1 0 1000 _ C3.out _).mono ?_); rintro e1 w' ⟨rfl, rfl⟩) | (go_at_call 99; (with_reducible refine (l5TextOk_calls e.f2 ht _ C4.out _).mono ?_); rintro e1 w' ⟨rfl, rfl⟩) | (go_at_call 34; (with_reducible refine (l1In_calls (e.f3.length : Int) 2 60 _ C5.out _).mono ?_); rintro e1 w' ⟨rfl, rfl⟩))
  go_ret
  exact ⟨ret_b HF.out.symm, (by repeat (with_reducible first | assumption | exact Below.refl _ _ | apply below_alloc | apply below_drew1 | apply pw_below_drewN | refine below_set ?_ (by omega) | refine below_step ?_ (by assumption)))⟩
 by_cases c2 : (0 ≤ e.f0 ∧ e.f0 ≤ 40000)
 rotate_left
 ·have C1 := Aside0.mk (bP_t c1); have C2 := Aside0.mk (bP_f c2); have HF := Aside0.mk (bP_f (show ¬ (FrameP f ∧ EntryP f e) from fun h => c2 h.2.1)); clear c1 c2
  go_enter Tryz.func44, Tryz.ntmps44
  go_wp2_with (first | (go_at_call 87; (with_reducible refine (sFrameOk_calls f _ _ HS.out _ C1.out _ (Kd.C_below HR.out (by repeat (with_reducible first | assumption | exact Below.refl _ _ | apply below_alloc | apply below_drew1 | apply pw_below_drewN | refine below_set ?_ (by omega) | refine below_step ?_ (by assumption))))).mono ?_); rintro e1 w1 ⟨rfl, hb1⟩; obtain ⟨hc1, hf1⟩ := bcell hb1; have hz1 := hb1.size; (try simp at hz1); have hy1 : w.heap.size < w1.heap.size := (by omega); have hx1 : w.heap.size + 1 < w1.heap.size := (by omega)) | (go_at_call 42; (with_reducible refine (l2Day_calls e.f0 _ C2.out _).mono ?_); rintro e1 w' ⟨rfl, rfl⟩) | (go_at_call 34; (with_reducible refine (l1In_calls e.f1 0 1000 _ C3.out _).mono ?_); rintro e1 w' ⟨rfl, rfl⟩) | (go_at_call 99; (with_reducible refine (l5TextOk_calls e.f2 ht _ C4.out _).mono ?_); rintro e1 w' ⟨rfl, rfl⟩) | (go_at_call 34; (with_reducible refine (l1In_calls (e.f3.length : Int) 2 60 _ C5.out _).mono ?_); rintro e1 w' ⟨rfl, rfl⟩))
  go_ret
  exact ⟨ret_b HF.out.symm, (by repeat (with_reducible first | assumption | exact Below.refl _ _ | apply below_alloc | apply below_drew1 | apply pw_below_drewN | refine below_set ?_ (by omega) | refine below_step ?_ (by assumption)))⟩
 by_cases c3 : (0 ≤ e.f1 ∧ e.f1 ≤ 1000)
 rotate_left
 ·have C1 := Aside0.mk (bP_t c1); have C2 := Aside0.mk (bP_t c2); have C3 := Aside0.mk (bP_f c3); have HF := Aside0.mk (bP_f (show ¬ (FrameP f ∧ EntryP f e) from fun h => c3 h.2.2.1)); clear c1 c2 c3
  go_enter Tryz.func44, Tryz.ntmps44
  go_wp2_with (first | (go_at_call 87; (with_reducible refine (sFrameOk_calls f _ _ HS.out _ C1.out _ (Kd.C_below HR.out (by repeat (with_reducible first | assumption | exact Below.refl _ _ | apply below_alloc | apply below_drew1 | apply pw_below_drewN | refine below_set ?_ (by omega) | refine below_step ?_ (by assumption))))).mono ?_); rintro e1 w1 ⟨rfl, hb1⟩; obtain ⟨hc1, hf1⟩ := bcell hb1; have hz1 := hb1.size; (try simp at hz1); have hy1 : w.heap.size < w1.heap.size := (by omega); have hx1 : w.heap.size + 1 < w1.heap.size := (by omega)) | (go_at_call 42; (with_reducible refine (l2Day_calls e.f0 _ C2.out _).mono ?_); rintro e1 w' ⟨rfl, rfl⟩) | (go_at_call 34; (with_reducible refine (l1In_calls e.f1 0 1000 _ C3.out _).mono ?_); rintro e1 w' ⟨rfl, rfl⟩) | (go_at_call 99; (with_reducible refine (l5TextOk_calls e.f2 ht _ C4.out _).mono ?_); rintro e1 w' ⟨rfl, rfl⟩) | (go_at_call 34; (with_reducible refine (l1In_calls (e.f3.length : Int) 2 60 _ C5.out _).mono ?_); rintro e1 w' ⟨rfl, rfl⟩))
  go_ret
  exact ⟨ret_b HF.out.symm, (by repeat (with_reducible first | assumption | exact Below.refl _ _ | apply below_alloc | apply below_drew1 | apply pw_below_drewN | refine below_set ?_ (by omega) | refine below_step ?_ (by assumption)))⟩
 by_cases c4 : TextP e.f2
 rotate_left
 ·have C1 := Aside0.mk (bP_t c1); have C2 := Aside0.mk (bP_t c2); have C3 := Aside0.mk (bP_t c3); have C4 := Aside0.mk (bP_f c4); have HF := Aside0.mk (bP_f (show ¬ (FrameP f ∧ EntryP f e) from fun h => c4 h.2.2.2.1)); clear c1 c2 c3 c4
  go_enter Tryz.func44, Tryz.ntmps44
  go_wp2_with (first | (go_at_call 87; (with_reducible refine (sFrameOk_calls f _ _ HS.out _ C1.out _ (Kd.C_below HR.out (by repeat (with_reducible first | assumption | exact Below.refl _ _ | apply below_alloc | apply below_drew1 | apply pw_below_drewN | refine below_set ?_ (by omega) | refine below_step ?_ (by assumption))))).mono ?_); rintro e1 w1 ⟨rfl, hb1⟩; obtain ⟨hc1, hf1⟩ := bcell hb1; have hz1 := hb1.size; (try simp at hz1); have hy1 : w.heap.size < w1.heap.size := (by omega); have hx1 : w.heap.size + 1 < w1.heap.size := (by omega)) | (go_at_call 42; (with_reducible refine (l2Day_calls e.f0 _ C2.out _).mono ?_); rintro e1 w' ⟨rfl, rfl⟩) | (go_at_call 34; (with_reducible refine (l1In_calls e.f1 0 1000 _ C3.out _).mono ?_); rintro e1 w' ⟨rfl, rfl⟩) | (go_at_call 99; (with_reducible refine (l5TextOk_calls e.f2 ht _ C4.out _).mono ?_); rintro e1 w' ⟨rfl, rfl⟩) | (go_at_call 34; (with_reducible refine (l1In_calls (e.f3.length : Int) 2 60 _ C5.out _).mono ?_); rintro e1 w' ⟨rfl, rfl⟩))
  go_ret
  exact ⟨ret_b HF.out.symm, (by repeat (with_reducible first | assumption | exact Below.refl _ _ | apply below_alloc | apply below_drew1 | apply pw_below_drewN | refine below_set ?_ (by omega) | refine below_step ?_ (by assumption)))⟩
 by_cases c5 : (2 ≤ (e.f3.length : Int) ∧ (e.f3.length : Int) ≤ 60)
 rotate_left
 ·have C1 := Aside0.mk (bP_t c1); have C2 := Aside0.mk (bP_t c2); have C3 := Aside0.mk (bP_t c3); have C4 := Aside0.mk (bP_t c4); have C5 := Aside0.mk (bP_f c5); have HF := Aside0.mk (bP_f (show ¬ (FrameP f ∧ EntryP f e) from fun h => c5 h.2.2.2.2.1)); clear c1 c2 c3 c4 c5
  go_enter Tryz.func44, Tryz.ntmps44
  go_wp2_with (first | (go_at_call 87; (with_reducible refine (sFrameOk_calls f _ _ HS.out _ C1.out _ (Kd.C_below HR.out (by repeat (with_reducible first | assumption | exact Below.refl _ _ | apply below_alloc | apply below_drew1 | apply pw_below_drewN | refine below_set ?_ (by omega) | refine below_step ?_ (by assumption))))).mono ?_); rintro e1 w1 ⟨rfl, hb1⟩; obtain ⟨hc1, hf1⟩ := bcell hb1; have hz1 := hb1.size; (try simp at hz1); have hy1 : w.heap.size < w1.heap.size := (by omega); have hx1 : w.heap.size + 1 < w1.heap.size := (by omega)) | (go_at_call 42; (with_reducible refine (l2Day_calls e.f0 _ C2.out _).mono ?_); rintro e1 w' ⟨rfl, rfl⟩) | (go_at_call 34; (with_reducible refine (l1In_calls e.f1 0 1000 _ C3.out _).mono ?_); rintro e1 w' ⟨rfl, rfl⟩) | (go_at_call 99; (with_reducible refine (l5TextOk_calls e.f2 ht _ C4.out _).mono ?_); rintro e1 w' ⟨rfl, rfl⟩) | (go_at_call 34; (with_reducible refine (l1In_calls (e.f3.length : Int) 2 60 _ C5.out _).mono ?_); rintro e1 w' ⟨rfl, rfl⟩))
  go_ret
  exact ⟨ret_b HF.out.symm, (by repeat (with_reducible first | assumption | exact Below.refl _ _ | apply below_alloc | apply below_drew1 | apply pw_below_drewN | refine below_set ?_ (by omega) | refine below_step ?_ (by assumption)))⟩
 ·have C1 := Aside0.mk (bP_t c1); have C2 := Aside0.mk (bP_t c2); have C3 := Aside0.mk (bP_t c3); have C4 := Aside0.mk (bP_t c4); have C5 := Aside0.mk (bP_t c5); have CF := Aside0.mk c1; have CD := Aside0.mk (And.right (show ChartP f.chart ∧ (1 ≤ f.dims ∧ f.dims ≤ 20) ∧ (1 ≤ f.curs ∧ f.curs ≤ 20) from c1)); have CE := Aside0.mk (And.intro c2 (And.intro c3 (And.intro c4 c5)))
  obtain ⟨n0, n1⟩ := c5
  clear c1 c2 c3 c4
  go_enter Tryz.func44, Tryz.ntmps44
  go_wp2_with (first | (go_at_call 87; (with_reducible refine (sFrameOk_calls f _ _ HS.out _ C1.out _ (Kd.C_below HR.out (by repeat (with_reducible first | assumption | exact Below.refl _ _ | apply below_alloc | apply below_drew1 | apply pw_below_drewN | refine below_set ?_ (by omega) | refine below_step ?_ (by assumption))))).mono ?_); rintro e1 w1 ⟨rfl, hb1⟩; obtain ⟨hc1, hf1⟩ := bcell hb1; have hz1 := hb1.size; (try simp at hz1); have hy1 : w.heap.size < w1.heap.size := (by omega); have hx1 : w.heap.size + 1 < w1.heap.size := (by omega)) | (go_at_call 42; (with_reducible refine (l2Day_calls e.f0 _ C2.out _).mono ?_); rintro e1 w' ⟨rfl, rfl⟩) | (go_at_call 34; (with_reducible refine (l1In_calls e.f1 0 1000 _ C3.out _).mono ?_); rintro e1 w' ⟨rfl, rfl⟩) | (go_at_call 99; (with_reducible refine (l5TextOk_calls e.f2 ht _ C4.out _).mono ?_); rintro e1 w' ⟨rfl, rfl⟩) | (go_at_call 34; (with_reducible refine (l1In_calls (e.f3.length : Int) 2 60 _ C5.out _).mono ?_); rintro e1 w' ⟨rfl, rfl⟩))
  have HB1 := Aside0.mk (show Below w.heap.size w w1 from (by repeat (with_reducible first | assumption | exact Below.refl _ _ | apply below_alloc | apply below_drew1 | apply pw_below_drewN | refine below_set ?_ (by omega) | refine below_step ?_ (by assumption))))
  have F0 : w1.cell? ⟨w.heap.size, 0, none⟩ = some (.slice A f.chart.length c) := by rw [hc1 _ _ (by first | (simp; done) | (simp; omega))]; simp
  have F1 : w1.cell? ⟨w.heap.size, 1, none⟩ = some (.int .i64 f.dims) := by rw [hc1 _ _ (by first | (simp; done) | (simp; omega))]; simp
  have F2 : w1.cell? ⟨w.heap.size, 2, none⟩ = some (.int .i64 f.curs) := by rw [hc1 _ _ (by first | (simp; done) | (simp; omega))]; simp
  have F3 : w1.cell? ⟨w.heap.size + 1, 3, none⟩ = some (.slice AL e.f3.length cL) := by rw [hc1 _ _ (by first | (simp; done) | (simp; omega))]; simp
  have HF4 := Aside0.mk (And.intro F0 (And.intro F1 (And.intro F2 F3)))
  clear F0 F1 F2 F3 hc1 hf1 hb1 C1 C2 C3 C4 C5 hz1
  go_loopg [5] e.f3.length (fun kq v5 w' => ∃ i : Int, v5 = .int .i64 i ∧ 0 ≤ i ∧ i ≤ e.f3.length ∧ Aside0 (kq = e.f3.length - i.toNat) ∧ Aside0 (∀ j : Int, 0 ≤ j → j < i → LineP f (ln e.f3 j)) ∧ Aside0 (Below w1.heap.size w1 w'))
  case atStart => exact ⟨0, rfl, by omega, by omega, ⟨rfl⟩, ⟨fun j h0 h1 => by omega⟩, ⟨Below.refl _ _⟩⟩
  case round =>
   obtain ⟨i, rfl, h0, hi, HK, HE, HB⟩ := hrel
   have F0 := pw_cell_below HB.out HF4.out.1
   have F1 := pw_cell_below HB.out HF4.out.2.1
   have F2 := pw_cell_below HB.out HF4.out.2.2.1
   have F3 := pw_cell_below HB.out HF4.out.2.2.2
   by_cases hlt : i < e.f3.length
   ·obtain ⟨ad, e0, x0⟩ := at88 (Kd.C_below HLn.out (below_step HB1.out HB.out)) i h0 hlt
    cases e0
    have HRr := Aside0.mk (Kd.C_below HR.out (below_step HB1.out HB.out))
    have MK := Aside0.mk (show ∀ W, Below wr.heap.size wr W → (Below wr.heap.size wr W ∧ (W.cell? ⟨w.heap.size, 0, none⟩ = some (.slice A f.chart.length c) ∧ W.cell? ⟨w.heap.size, 1, none⟩ = some (.int .i64 f.dims) ∧ W.cell? ⟨w.heap.size, 2, none⟩ = some (.int .i64 f.curs)) ∧ W.cell? ⟨w.heap.size + 1, 3, none⟩ = some (.slice (some ad) e.f3.length cL) ∧ At88 W (ad.add (i.toNat * 5)) (ln e.f3 i)) from fun W hb => ⟨hb, ⟨pw_cell_below hb F0, pw_cell_below hb F1, pw_cell_below hb F2⟩, pw_cell_below hb F3, x0.below hb⟩)
    clear x0
    by_cases hx : LineP f (ln e.f3 i)
    ·have CX := Aside0.mk (bP_t (And.intro CF.out.1 hx))
     replace hx := Aside0.mk hx
     go_wp2
     clear F0 F1 F2 F3
     go_region_held3 (fun w' => Below wr.heap.size wr w' ∧ (w'.cell? ⟨w.heap.size, 0, none⟩ = some (.slice A f.chart.length c) ∧ w'.cell? ⟨w.heap.size, 1, none⟩ = some (.int .i64 f.dims) ∧ w'.cell? ⟨w.heap.size, 2, none⟩ = some (.int .i64 f.curs)) ∧ w'.cell? ⟨w.heap.size + 1, 3, none⟩ = some (.slice (some ad) e.f3.length cL) ∧ At88 w' (ad.add (i.toNat * 5)) (ln e.f3 i)) ((refine MK.out _ ?_; repeat (with_reducible first | assumption | exact And.left (by assumption) | exact Below.refl _ _ | apply below_drew1 | apply below_alloc | refine below_step ?_ (by assumption)))) (first | (go_at_call 100; (with_reducible refine (l5LineOk_calls f _ _ (ln e.f3 i) HS.out CD.out.1 CD.out.2 _ CX.out _ (Kd.C_below HRr.out (by repeat (with_reducible first | assumption | exact And.left (by assumption) | exact Below.refl _ _ | apply below_drew1 | apply below_alloc | refine below_step ?_ (by assumption))))).mono ?_); rintro e2 w2 ⟨rfl, hb⟩))
     have HB2 := Aside0.mk (below_step HB.out (‹Below wr.heap.size wr _ ∧ _›.1))
     clear HB MK HRr
     go_wp2
     go_roundg (e.f3.length - (i + 1).toNat)
     case measure => have := HK.out; omega
     case rel => exact ⟨i + 1, rfl, by omega, by omega, ⟨rfl⟩, ⟨fun j h0 h1 => by rcases Int.lt_or_eq_of_le (Int.lt_add_one_iff.1 h1) with h | rfl; exact HE.out j h0 h; exact hx.out⟩, HB2⟩
    ·have CX := Aside0.mk (bP_f (fun h : ChartP f.chart ∧ LineP f (ln e.f3 i) => hx h.2))
     have HF := Aside0.mk (bP_f (show ¬ (FrameP f ∧ EntryP f e) from fun h => hx (h.2.2.2.2.2.1 i h0 hlt)))
     clear hx
     go_wp2
     clear F0 F1 F2 F3
     go_region_held3 (fun w' => Below wr.heap.size wr w' ∧ (w'.cell? ⟨w.heap.size, 0, none⟩ = some (.slice A f.chart.length c) ∧ w'.cell? ⟨w.heap.size, 1, none⟩ = some (.int .i64 f.dims) ∧ w'.cell? ⟨w.heap.size, 2, none⟩ = some (.int .i64 f.curs)) ∧ w'.cell? ⟨w.heap.size + 1, 3, none⟩ = some (.slice (some ad) e.f3.length cL) ∧ At88 w' (ad.add (i.toNat * 5)) (ln e.f3 i)) ((refine MK.out _ ?_; repeat (with_reducible first | assumption | exact And.left (by assumption) | exact Below.refl _ _ | apply below_drew1 | apply below_alloc | refine below_step ?_ (by assumption)))) (first | (go_at_call 100; (with_reducible refine (l5LineOk_calls f _ _ (ln e.f3 i) HS.out CD.out.1 CD.out.2 _ CX.out _ (Kd.C_below HRr.out (by repeat (with_reducible first | assumption | exact And.left (by assumption) | exact Below.refl _ _ | apply below_drew1 | apply below_alloc | refine below_step ?_ (by assumption))))).mono ?_); rintro e2 w2 ⟨rfl, hb⟩))
     have HB2 := Aside0.mk (below_step HB1.out (below_step HB.out (‹Below wr.heap.size wr _ ∧ _›.1)))
     clear HB MK HRr
     go_wp2
     go_ret
     exact ⟨ret_b HF.out.symm, HB2.out⟩
   ·have hll := Aside0.mk (show ∀ j : Int, 0 ≤ j → j < e.f3.length → LineP f (ln e.f3 j) from fun j h0 h1 => HE.out j h0 (by omega))
    have HB2 := Aside0.mk (below_step HB1.out HB.out)
    have HG4 := Aside0.mk (And.intro F0 (And.intro F1 (And.intro F2 F3)))
    go_wp2
    clear F0 F1 F2 F3 HE HF4 HB1 HB
    go_loopg [6] e.f3.length (fun kq v6 w' => ∃ i : Int, v6 = .int .i64 i ∧ 0 ≤ i ∧ i ≤ e.f3.length ∧ Aside0 (kq = e.f3.length - i.toNat) ∧ Aside0 (∀ j : Int, 0 ≤ j → j < i → sumC (gC (ln e.f3 j).f2) e.f3 = 0 ∧ sumC (gD (ln e.f3 j).f1) e.f3 = 0) ∧ Aside0 (Below wr.heap.size wr w'))
    case atStart => exact ⟨0, rfl, by omega, by omega, ⟨rfl⟩, ⟨fun j h0 h1 => by omega⟩, ⟨Below.refl _ _⟩⟩
    case round =>
     clear HK h0 hi hlt
     obtain ⟨i, rfl, h0, hi, HK, HE, HB⟩ := hrel
     have F3 := pw_cell_below HB.out HG4.out.2.2.2
     by_cases hlt : i < e.f3.length
     ·obtain ⟨y, hy⟩ : ∃ y, ln e.f3 i = y := ⟨_, rfl⟩
      replace hy := Aside0.mk hy
      go_wp2
      go_loopg [7, 8, 9] e.f3.length (fun kq v7 v8 v9 w' => ∃ a b k : Int, v7 = .int .i64 a ∧ v8 = .int .i64 b ∧ v9 = .int .i64 k ∧ 0 ≤ k ∧ k ≤ e.f3.length ∧ -6000000000000 ≤ a ∧ a ≤ 6000000000000 ∧ -6000000000000 ≤ b ∧ b ≤ 6000000000000 ∧ Aside0 (a = pre (gC y.f2) e.f3 k) ∧ Aside0 (b = pre (gD y.f1) e.f3 k) ∧ Aside0 (kq = e.f3.length - k.toNat) ∧ Aside0 (Below wr.heap.size wr w'))
      case atStart => exact ⟨0, 0, 0, rfl, rfl, rfl, by omega, by omega, by omega, by omega, by omega, by omega, ⟨(pre_zero _ _).symm⟩, ⟨(pre_zero _ _).symm⟩, ⟨rfl⟩, ⟨Below.refl _ _⟩⟩
      case round =>
       have HB3 := Aside0.mk (below_step HB2.out HB.out)
       clear F3
       have HG5 := Aside0.mk (pw_cell_below HB.out HG4.out.2.2.2)
       have HBo := HB
       clear HB
       obtain ⟨a, b, k, rfl, rfl, rfl, g0, g1, b0, b1, b2, b3, HA, HD, HKk, HBk⟩ := hrel
       have F3 := pw_cell_below HBk.out HG5.out
       obtain ⟨ad, e0, y0⟩ := at88 (Kd.C_below HLn.out (below_step HB3.out HBk.out)) i h0 hlt
       cases e0
       rw [show rd_T88 e.f3 i = y from hy.out] at y0
       by_cases hk : k < e.f3.length
       ·obtain ⟨ad2, e0, x0⟩ := at88 (Kd.C_below HLn.out (below_step HB3.out HBk.out)) k g0 hk
        cases e0
        obtain ⟨x, hxx⟩ : ∃ x, ln e.f3 k = x := ⟨_, rfl⟩
        have hxp : LineP f x := by rw [← hxx]; exact hll.out k g0 hk
        rw [show rd_T88 e.f3 k = x from hxx] at x0
        replace hxx := Aside0.mk hxx
        obtain ⟨_, _, _, ⟨r0, r1⟩, ⟨r2, r3⟩, _⟩ := hxp
        obtain ⟨y0, y1, y2, y3, y4⟩ := y0
        obtain ⟨x0, x1, x2, x3, x4⟩ := x0
        by_cases q1 : (ln e.f3 k).f2 = y.f2
        ·by_cases q2 : (ln e.f3 k).f1 = y.f1
         ·have e1 : ((ln e.f3 k).f2 == y.f2) = true := by simp [q1]
          have e2 : ((ln e.f3 k).f1 == y.f1) = true := by simp [q2]
          have HA' := Aside0.mk (show a + x.f3 = pre (gC y.f2) e.f3 (k + 1) by rw [pre_step _ _ g0 hk, ← HA.out]; unfold gC; rw [if_pos q1]; rw [show (ln e.f3 k).f3 = x.f3 from by rw [hxx.out]])
          have HA2 := pre_in (g := gC y.f2) (fun j j0 j1 => gC_bound (hll.out j j0 j1) _) n1 (show 0 ≤ k + 1 by omega) (show k + 1 ≤ e.f3.length by omega)
          rw [← HA'.out] at HA2
          have HD' := Aside0.mk (show b + x.f4 = pre (gD y.f1) e.f3 (k + 1) by rw [pre_step _ _ g0 hk, ← HD.out]; unfold gD; rw [if_pos q2]; rw [show (ln e.f3 k).f4 = x.f4 from by rw [hxx.out]])
          have HD2 := pre_in (g := gD y.f1) (fun j j0 j1 => gD_bound (hll.out j j0 j1) _) n1 (show 0 ≤ k + 1 by omega) (show k + 1 ≤ e.f3.length by omega)
          rw [← HD'.out] at HD2
          obtain ⟨m0, m1⟩ := HA2
          obtain ⟨m2, m3⟩ := HD2
          clear q1 q2
          rw [hxx.out] at e1 e2
          go_wp2
          go_quiet (fail)
          go_wp2
          go_quiet (fail)
          go_wp2
          go_roundg (e.f3.length - (k + 1).toNat)
          case measure => have := HKk.out; omega
          case rel => exact ⟨_, _, k + 1, rfl, rfl, rfl, by omega, by omega, m0, m1, m2, m3, HA', HD', ⟨rfl⟩, ⟨by repeat (with_reducible first | assumption | exact HBk.out | exact Below.refl _ _ | apply below_alloc | apply below_drew1 | apply pw_below_drewN | refine below_step ?_ (by assumption))⟩⟩
         ·have e1 : ((ln e.f3 k).f2 == y.f2) = true := by simp [q1]
          have e2 : ((ln e.f3 k).f1 == y.f1) = false := by simp [q2]
          have HA' := Aside0.mk (show a + x.f3 = pre (gC y.f2) e.f3 (k + 1) by rw [pre_step _ _ g0 hk, ← HA.out]; unfold gC; rw [if_pos q1]; rw [show (ln e.f3 k).f3 = x.f3 from by rw [hxx.out]])
          have HA2 := pre_in (g := gC y.f2) (fun j j0 j1 => gC_bound (hll.out j j0 j1) _) n1 (show 0 ≤ k + 1 by omega) (show k + 1 ≤ e.f3.length by omega)
          rw [← HA'.out] at HA2
          have HD' := Aside0.mk (show b = pre (gD y.f1) e.f3 (k + 1) by rw [pre_step _ _ g0 hk, ← HD.out]; unfold gD; rw [if_neg q2]; omega)
          have HD2 := pre_in (g := gD y.f1) (fun j j0 j1 => gD_bound (hll.out j j0 j1) _) n1 (show 0 ≤ k + 1 by omega) (show k + 1 ≤ e.f3.length by omega)
          rw [← HD'.out] at HD2
          obtain ⟨m0, m1⟩ := HA2
          obtain ⟨m2, m3⟩ := HD2
          clear q1 q2
          rw [hxx.out] at e1 e2
          go_wp2
          go_quiet (fail)
          go_wp2
          go_quiet (fail)
          go_wp2
          go_roundg (e.f3.length - (k + 1).toNat)
          case measure => have := HKk.out; omega
          case rel => exact ⟨_, _, k + 1, rfl, rfl, rfl, by omega, by omega, m0, m1, m2, m3, HA', HD', ⟨rfl⟩, ⟨by repeat (with_reducible first | assumption | exact HBk.out | exact Below.refl _ _ | apply below_alloc | apply below_drew1 | apply pw_below_drewN | refine below_step ?_ (by assumption))⟩⟩
        ·by_cases q2 : (ln e.f3 k).f1 = y.f1
         ·have e1 : ((ln e.f3 k).f2 == y.f2) = false := by simp [q1]
          have e2 : ((ln e.f3 k).f1 == y.f1) = true := by simp [q2]
          have HA' := Aside0.mk (show a = pre (gC y.f2) e.f3 (k + 1) by rw [pre_step _ _ g0 hk, ← HA.out]; unfold gC; rw [if_neg q1]; omega)
          have HA2 := pre_in (g := gC y.f2) (fun j j0 j1 => gC_bound (hll.out j j0 j1) _) n1 (show 0 ≤ k + 1 by omega) (show k + 1 ≤ e.f3.length by omega)
          rw [← HA'.out] at HA2
          have HD' := Aside0.mk (show b + x.f4 = pre (gD y.f1) e.f3 (k + 1) by rw [pre_step _ _ g0 hk, ← HD.out]; unfold gD; rw [if_pos q2]; rw [show (ln e.f3 k).f4 = x.f4 from by rw [hxx.out]])
          have HD2 := pre_in (g := gD y.f1) (fun j j0 j1 => gD_bound (hll.out j j0 j1) _) n1 (show 0 ≤ k + 1 by omega) (show k + 1 ≤ e.f3.length by omega)
          rw [← HD'.out] at HD2
          obtain ⟨m0, m1⟩ := HA2
          obtain ⟨m2, m3⟩ := HD2
          clear q1 q2
          rw [hxx.out] at e1 e2
          go_wp2
          go_quiet (fail)
          go_wp2
          go_quiet (fail)
          go_wp2
          go_roundg (e.f3.length - (k + 1).toNat)
          case measure => have := HKk.out; omega
          case rel => exact ⟨_, _, k + 1, rfl, rfl, rfl, by omega, by omega, m0, m1, m2, m3, HA', HD', ⟨rfl⟩, ⟨by repeat (with_reducible first | assumption | exact HBk.out | exact Below.refl _ _ | apply below_alloc | apply below_drew1 | apply pw_below_drewN | refine below_step ?_ (by assumption))⟩⟩
         ·have e1 : ((ln e.f3 k).f2 == y.f2) = false := by simp [q1]
          have e2 : ((ln e.f3 k).f1 == y.f1) = false := by simp [q2]
          have HA' := Aside0.mk (show a = pre (gC y.f2) e.f3 (k + 1) by rw [pre_step _ _ g0 hk, ← HA.out]; unfold gC; rw [if_neg q1]; omega)
          have HA2 := pre_in (g := gC y.f2) (fun j j0 j1 => gC_bound (hll.out j j0 j1) _) n1 (show 0 ≤ k + 1 by omega) (show k + 1 ≤ e.f3.length by omega)
          rw [← HA'.out] at HA2
          have HD' := Aside0.mk (show b = pre (gD y.f1) e.f3 (k + 1) by rw [pre_step _ _ g0 hk, ← HD.out]; unfold gD; rw [if_neg q2]; omega)
          have HD2 := pre_in (g := gD y.f1) (fun j j0 j1 => gD_bound (hll.out j j0 j1) _) n1 (show 0 ≤ k + 1 by omega) (show k + 1 ≤ e.f3.length by omega)
          rw [← HD'.out] at HD2
          obtain ⟨m0, m1⟩ := HA2
          obtain ⟨m2, m3⟩ := HD2
          clear q1 q2
          rw [hxx.out] at e1 e2
          go_wp2
          go_quiet (fail)
          go_wp2
          go_quiet (fail)
          go_wp2
          go_roundg (e.f3.length - (k + 1).toNat)
          case measure => have := HKk.out; omega
          case rel => exact ⟨_, _, k + 1, rfl, rfl, rfl, by omega, by omega, m0, m1, m2, m3, HA', HD', ⟨rfl⟩, ⟨by repeat (with_reducible first | assumption | exact HBk.out | exact Below.refl _ _ | apply below_alloc | apply below_drew1 | apply pw_below_drewN | refine below_step ?_ (by assumption))⟩⟩
       ·have hk2 : k = e.f3.length := by omega
        have HA1 := HA.out
        have HD1 := HD.out
        rw [hk2, pre_all] at HA1 HD1
        by_cases qa : a = 0
        ·by_cases qb : b = 0
         ·have HZ := Aside0.mk (show sumC (gC (ln e.f3 i).f2) e.f3 = 0 ∧ sumC (gD (ln e.f3 i).f1) e.f3 = 0 by rw [hy.out, ← HA1, ← HD1]; exact ⟨qa, qb⟩)
          clear HA1 HD1
          subst qa qb
          go_wp2
          go_roundg (e.f3.length - (i + 1).toNat)
          case measure => have := HK.out; omega
          case rel => exact ⟨i + 1, rfl, by omega, by omega, ⟨rfl⟩, ⟨fun j h0 h1 => by rcases Int.lt_or_eq_of_le (Int.lt_add_one_iff.1 h1) with h | rfl; exact HE.out j h0 h; exact HZ.out⟩, ⟨below_step HBo.out HBk.out⟩⟩
         ·have HF := Aside0.mk (bP_f (show ¬ (FrameP f ∧ EntryP f e) from fun h => by have := (h.2.2.2.2.2.2 i h0 hlt).2; rw [hy.out, ← HD1] at this; exact qb this))
          have e3 : (b != 0) = true := by simp [qb]
          have e4 : (a != 0) = false := by simp [qa]
          clear HA1 HD1 qa qb
          go_wp2
          go_ret
          exact ⟨ret_b HF.out.symm, below_step HB3.out HBk.out⟩
        ·have HF := Aside0.mk (bP_f (show ¬ (FrameP f ∧ EntryP f e) from fun h => by have := (h.2.2.2.2.2.2 i h0 hlt).1; rw [hy.out, ← HA1] at this; exact qa this))
         have e4 : (a != 0) = true := by simp [qa]
         clear HA1 HD1 qa
         go_wp2
         go_ret
         exact ⟨ret_b HF.out.symm, below_step HB3.out HBk.out⟩
     ·have HF := Aside0.mk (bP_t (show FrameP f ∧ EntryP f e from ⟨CF.out, CE.out.1, CE.out.2.1, CE.out.2.2.1, CE.out.2.2.2, hll.out, fun j h0 h1 => HE.out j h0 (by omega)⟩))
      go_wp2
      go_ret
      exact ⟨ret_b HF.out.symm, below_step HB2.out HB.out⟩
end Go.Proofs.YtheaeffhhbjpmaaGreatDoor

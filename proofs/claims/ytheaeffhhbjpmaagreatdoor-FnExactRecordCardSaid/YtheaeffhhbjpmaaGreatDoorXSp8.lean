/- Of the reference: whether books are right. -/
import Derived.Test.YtheaeffhhbjpmaaGreatDoorXSp7
namespace Go.Proofs.YtheaeffhhbjpmaaGreatDoor
open Go.RowKit Go.Proofs.YtheaeffhhbjpmaaGreatDoorW.PrintWords Go.Proofs.YtheaeffhhbjpmaaGreatDoorW.PrintLast
set_option linter.unusedVariables false
set_option linter.unusedSimpArgs false
def BooksP (b : BooksD) : Prop := LedgerP b.frame b.ledg ∧ YearP b.periods ∧ (0 ≤ b.closed ∧ b.closed ≤ b.periods.length) ∧ LeafP b.frame.chart b.kept ∧ (acc b.frame.chart b.kept).f2 = 3
theorem SzB.chart {b : BooksD} (h : SzB b) : SzC b.frame.chart := fun i h0 h1 => by
 have := h.s1 _ (mem_getD z48 h0 h1)
 unfold acc; unfold rd_T48 at *; omega
theorem SzB.entries {b : BooksD} (h : SzB b) : SzE b.ledg.entries := fun i h0 h1 => by
 have := (h.s3 _ (mem_getD z41 h0 h1)).1
 unfold en rd_T41; omega
set_option maxRecDepth 100000 in
set_option maxHeartbeats 2000000 in
theorem sBooksOk_calls (a : ABooks) (b : BooksD) (hs : SzB b) (r : Bool) (h : bP (BooksP b) = r) (w : World) (hr : RdB w a b) : Calls Tryz.prog 8 #[valB a b] w fun e w' => e = .returned (.bool r) ∧ Below w.heap.size w w' := by
 have hu := Tryz.underlying32
 have hu2 := Tryz.underlying26
 have hu3 := Tryz.underlying29
 have hu4 := Tryz.underlying48
 obtain ⟨A0, c0, A3, c3, A5, c5⟩ := a
 have HR := Aside0.mk hr.r0
 have HE := Aside0.mk hr.r3
 have HP := Aside0.mk hr.r5
 have HS := Aside0.mk hs.chart
 have HT := Aside0.mk hs.entries
 have hm := C_len hr.r5
 have hm0 := C_len hr.r0
 dsimp only at HR HE HP hm hm0
 clear hr hs
 subst h
 by_cases c1 : LedgerP b.frame b.ledg
 rotate_left
 ·have C1 := Aside0.mk (bP_f c1); have HF := Aside0.mk (bP_f (show ¬ BooksP b from fun h => c1 h.1)); clear c1
  go_enter Tryz.func8, Tryz.ntmps8
  go_wp2_with (first | (go_at_call 32; (with_reducible refine (sLedgerOk_calls b.frame _ _ b.ledg _ _ HS.out HT.out _ C1.out _ (Kd.C_below HR.out (by repeat (with_reducible first | assumption | exact Below.refl _ _ | apply below_alloc | apply below_drew1 | apply pw_below_drewN | refine below_set ?_ (by omega) | refine below_step ?_ (by assumption)))) (Kd.C_below HE.out (by repeat (with_reducible first | assumption | exact Below.refl _ _ | apply below_alloc | apply below_drew1 | apply pw_below_drewN | refine below_set ?_ (by omega) | refine below_step ?_ (by assumption))))).mono ?_); rintro e w1 ⟨rfl, hb1⟩; obtain ⟨hc1, hf1⟩ := bcell hb1; have hz1 := hb1.size; (try simp at hz1); have hy1 : w.heap.size < w1.heap.size := (by omega)) | (go_at_call 33; (with_reducible refine (sYear_calls _ _ b.periods _ C2.out _ (Kd.C_below HP.out (by repeat (with_reducible first | assumption | exact Below.refl _ _ | apply below_alloc | apply below_drew1 | apply pw_below_drewN | refine below_set ?_ (by omega) | refine below_step ?_ (by assumption))))).mono ?_); rintro e w2 ⟨rfl, hb2⟩; obtain ⟨hc2, hf2⟩ := bcell hb2; have hz2 := hb2.size; (try simp at hz2); have hy2 : w.heap.size < w2.heap.size := (by omega)) | (go_at_call 34; (with_reducible refine (l1In_calls b.closed 0 (b.periods.length : Int) _ C3.out _).mono ?_); rintro e w' ⟨rfl, rfl⟩) | (go_at_call 35; (with_reducible refine (sLeaf_calls _ _ b.frame.chart b.kept HS.out _ C4.out _ (Kd.C_below HR.out (by repeat (with_reducible first | assumption | exact Below.refl _ _ | apply below_alloc | apply below_drew1 | apply pw_below_drewN | refine below_set ?_ (by omega) | refine below_step ?_ (by assumption))))).mono ?_); rintro e w3 ⟨rfl, hb3⟩; obtain ⟨hc3, hf3⟩ := bcell hb3; have hz3 := hb3.size; (try simp at hz3); have hy3 : w.heap.size < w3.heap.size := (by omega)))
  go_ret
  exact ⟨ret_b HF.out.symm, (by repeat (with_reducible first | assumption | exact Below.refl _ _ | apply below_alloc | apply below_drew1 | apply pw_below_drewN | refine below_set ?_ (by omega) | refine below_step ?_ (by assumption)))⟩
 by_cases c2 : YearP b.periods
 rotate_left
 ·have C1 := Aside0.mk (bP_t c1); have C2 := Aside0.mk (bP_f c2); have HF := Aside0.mk (bP_f (show ¬ BooksP b from fun h => c2 h.2.1)); clear c1 c2
  go_enter Tryz.func8, Tryz.ntmps8
  go_wp2_with (first | (go_at_call 32; (with_reducible refine (sLedgerOk_calls b.frame _ _ b.ledg _ _ HS.out HT.out _ C1.out _ (Kd.C_below HR.out (by repeat (with_reducible first | assumption | exact Below.refl _ _ | apply below_alloc | apply below_drew1 | apply pw_below_drewN | refine below_set ?_ (by omega) | refine below_step ?_ (by assumption)))) (Kd.C_below HE.out (by repeat (with_reducible first | assumption | exact Below.refl _ _ | apply below_alloc | apply below_drew1 | apply pw_below_drewN | refine below_set ?_ (by omega) | refine below_step ?_ (by assumption))))).mono ?_); rintro e w1 ⟨rfl, hb1⟩; obtain ⟨hc1, hf1⟩ := bcell hb1; have hz1 := hb1.size; (try simp at hz1); have hy1 : w.heap.size < w1.heap.size := (by omega)) | (go_at_call 33; (with_reducible refine (sYear_calls _ _ b.periods _ C2.out _ (Kd.C_below HP.out (by repeat (with_reducible first | assumption | exact Below.refl _ _ | apply below_alloc | apply below_drew1 | apply pw_below_drewN | refine below_set ?_ (by omega) | refine below_step ?_ (by assumption))))).mono ?_); rintro e w2 ⟨rfl, hb2⟩; obtain ⟨hc2, hf2⟩ := bcell hb2; have hz2 := hb2.size; (try simp at hz2); have hy2 : w.heap.size < w2.heap.size := (by omega)) | (go_at_call 34; (with_reducible refine (l1In_calls b.closed 0 (b.periods.length : Int) _ C3.out _).mono ?_); rintro e w' ⟨rfl, rfl⟩) | (go_at_call 35; (with_reducible refine (sLeaf_calls _ _ b.frame.chart b.kept HS.out _ C4.out _ (Kd.C_below HR.out (by repeat (with_reducible first | assumption | exact Below.refl _ _ | apply below_alloc | apply below_drew1 | apply pw_below_drewN | refine below_set ?_ (by omega) | refine below_step ?_ (by assumption))))).mono ?_); rintro e w3 ⟨rfl, hb3⟩; obtain ⟨hc3, hf3⟩ := bcell hb3; have hz3 := hb3.size; (try simp at hz3); have hy3 : w.heap.size < w3.heap.size := (by omega)))
  go_ret
  exact ⟨ret_b HF.out.symm, (by repeat (with_reducible first | assumption | exact Below.refl _ _ | apply below_alloc | apply below_drew1 | apply pw_below_drewN | refine below_set ?_ (by omega) | refine below_step ?_ (by assumption)))⟩
 by_cases c3q : (0 ≤ b.closed ∧ b.closed ≤ (b.periods.length : Int))
 rotate_left
 ·have C1 := Aside0.mk (bP_t c1); have C2 := Aside0.mk (bP_t c2); have C3 := Aside0.mk (bP_f c3q); have HF := Aside0.mk (bP_f (show ¬ BooksP b from fun h => c3q h.2.2.1)); clear c1 c2 c3q
  go_enter Tryz.func8, Tryz.ntmps8
  go_wp2_with (first | (go_at_call 32; (with_reducible refine (sLedgerOk_calls b.frame _ _ b.ledg _ _ HS.out HT.out _ C1.out _ (Kd.C_below HR.out (by repeat (with_reducible first | assumption | exact Below.refl _ _ | apply below_alloc | apply below_drew1 | apply pw_below_drewN | refine below_set ?_ (by omega) | refine below_step ?_ (by assumption)))) (Kd.C_below HE.out (by repeat (with_reducible first | assumption | exact Below.refl _ _ | apply below_alloc | apply below_drew1 | apply pw_below_drewN | refine below_set ?_ (by omega) | refine below_step ?_ (by assumption))))).mono ?_); rintro e w1 ⟨rfl, hb1⟩; obtain ⟨hc1, hf1⟩ := bcell hb1; have hz1 := hb1.size; (try simp at hz1); have hy1 : w.heap.size < w1.heap.size := (by omega)) | (go_at_call 33; (with_reducible refine (sYear_calls _ _ b.periods _ C2.out _ (Kd.C_below HP.out (by repeat (with_reducible first | assumption | exact Below.refl _ _ | apply below_alloc | apply below_drew1 | apply pw_below_drewN | refine below_set ?_ (by omega) | refine below_step ?_ (by assumption))))).mono ?_); rintro e w2 ⟨rfl, hb2⟩; obtain ⟨hc2, hf2⟩ := bcell hb2; have hz2 := hb2.size; (try simp at hz2); have hy2 : w.heap.size < w2.heap.size := (by omega)) | (go_at_call 34; (with_reducible refine (l1In_calls b.closed 0 (b.periods.length : Int) _ C3.out _).mono ?_); rintro e w' ⟨rfl, rfl⟩) | (go_at_call 35; (with_reducible refine (sLeaf_calls _ _ b.frame.chart b.kept HS.out _ C4.out _ (Kd.C_below HR.out (by repeat (with_reducible first | assumption | exact Below.refl _ _ | apply below_alloc | apply below_drew1 | apply pw_below_drewN | refine below_set ?_ (by omega) | refine below_step ?_ (by assumption))))).mono ?_); rintro e w3 ⟨rfl, hb3⟩; obtain ⟨hc3, hf3⟩ := bcell hb3; have hz3 := hb3.size; (try simp at hz3); have hy3 : w.heap.size < w3.heap.size := (by omega)))
  go_ret
  exact ⟨ret_b HF.out.symm, (by repeat (with_reducible first | assumption | exact Below.refl _ _ | apply below_alloc | apply below_drew1 | apply pw_below_drewN | refine below_set ?_ (by omega) | refine below_step ?_ (by assumption)))⟩
 by_cases c4 : (ChartP b.frame.chart ∧ LeafP b.frame.chart b.kept)
 rotate_left
 ·have C1 := Aside0.mk (bP_t c1); have C2 := Aside0.mk (bP_t c2); have C3 := Aside0.mk (bP_t c3q); have C4 := Aside0.mk (bP_f c4); have HF := Aside0.mk (bP_f (show ¬ BooksP b from fun h => c4 ⟨h.1.2.1.1, h.2.2.2.1⟩)); clear c1 c2 c3q c4
  go_enter Tryz.func8, Tryz.ntmps8
  go_wp2_with (first | (go_at_call 32; (with_reducible refine (sLedgerOk_calls b.frame _ _ b.ledg _ _ HS.out HT.out _ C1.out _ (Kd.C_below HR.out (by repeat (with_reducible first | assumption | exact Below.refl _ _ | apply below_alloc | apply below_drew1 | apply pw_below_drewN | refine below_set ?_ (by omega) | refine below_step ?_ (by assumption)))) (Kd.C_below HE.out (by repeat (with_reducible first | assumption | exact Below.refl _ _ | apply below_alloc | apply below_drew1 | apply pw_below_drewN | refine below_set ?_ (by omega) | refine below_step ?_ (by assumption))))).mono ?_); rintro e w1 ⟨rfl, hb1⟩; obtain ⟨hc1, hf1⟩ := bcell hb1; have hz1 := hb1.size; (try simp at hz1); have hy1 : w.heap.size < w1.heap.size := (by omega)) | (go_at_call 33; (with_reducible refine (sYear_calls _ _ b.periods _ C2.out _ (Kd.C_below HP.out (by repeat (with_reducible first | assumption | exact Below.refl _ _ | apply below_alloc | apply below_drew1 | apply pw_below_drewN | refine below_set ?_ (by omega) | refine below_step ?_ (by assumption))))).mono ?_); rintro e w2 ⟨rfl, hb2⟩; obtain ⟨hc2, hf2⟩ := bcell hb2; have hz2 := hb2.size; (try simp at hz2); have hy2 : w.heap.size < w2.heap.size := (by omega)) | (go_at_call 34; (with_reducible refine (l1In_calls b.closed 0 (b.periods.length : Int) _ C3.out _).mono ?_); rintro e w' ⟨rfl, rfl⟩) | (go_at_call 35; (with_reducible refine (sLeaf_calls _ _ b.frame.chart b.kept HS.out _ C4.out _ (Kd.C_below HR.out (by repeat (with_reducible first | assumption | exact Below.refl _ _ | apply below_alloc | apply below_drew1 | apply pw_below_drewN | refine below_set ?_ (by omega) | refine below_step ?_ (by assumption))))).mono ?_); rintro e w3 ⟨rfl, hb3⟩; obtain ⟨hc3, hf3⟩ := bcell hb3; have hz3 := hb3.size; (try simp at hz3); have hy3 : w.heap.size < w3.heap.size := (by omega)))
  go_ret
  exact ⟨ret_b HF.out.symm, (by repeat (with_reducible first | assumption | exact Below.refl _ _ | apply below_alloc | apply below_drew1 | apply pw_below_drewN | refine below_set ?_ (by omega) | refine below_step ?_ (by assumption)))⟩
 have k0 := c4.2.1
 have k1 : b.kept < b.frame.chart.length := c4.2.2.1
 obtain ⟨ad, e0, y0, y1, y2⟩ := at48 HR.out b.kept k0 k1
 cases e0
 have YY := Aside0.mk y2
 clear y0 y1 y2
 obtain ⟨z, hz⟩ : ∃ z, (rd_T48 b.frame.chart b.kept).f2 = z := ⟨_, rfl⟩
 rw [hz] at YY
 have HF := Aside0.mk (show (z == 3) = bP (BooksP b) from by
  by_cases hk : z = 3
  ·rw [bP_t (show BooksP b from ⟨c1, c2, c3q, c4.2, by unfold acc; rw [hz]; exact hk⟩)]; simp [hk]
  ·rw [bP_f (show ¬ BooksP b from fun h => hk (by have := h.2.2.2.2; unfold acc at this; rw [hz] at this; exact this))]; simp [hk])
 have C1 := Aside0.mk (bP_t c1); have C2 := Aside0.mk (bP_t c2); have C3 := Aside0.mk (bP_t c3q); have C4 := Aside0.mk (bP_t c4)
 clear c1 c2 c3q c4 hz
 go_enter Tryz.func8, Tryz.ntmps8
 go_wp2_with (first | (go_at_call 32; (with_reducible refine (sLedgerOk_calls b.frame _ _ b.ledg _ _ HS.out HT.out _ C1.out _ (Kd.C_below HR.out (by repeat (with_reducible first | assumption | exact Below.refl _ _ | apply below_alloc | apply below_drew1 | apply pw_below_drewN | refine below_set ?_ (by omega) | refine below_step ?_ (by assumption)))) (Kd.C_below HE.out (by repeat (with_reducible first | assumption | exact Below.refl _ _ | apply below_alloc | apply below_drew1 | apply pw_below_drewN | refine below_set ?_ (by omega) | refine below_step ?_ (by assumption))))).mono ?_); rintro e w1 ⟨rfl, hb1⟩; obtain ⟨hc1, hf1⟩ := bcell hb1; have hz1 := hb1.size; (try simp at hz1); have hy1 : w.heap.size < w1.heap.size := (by omega)) | (go_at_call 33; (with_reducible refine (sYear_calls _ _ b.periods _ C2.out _ (Kd.C_below HP.out (by repeat (with_reducible first | assumption | exact Below.refl _ _ | apply below_alloc | apply below_drew1 | apply pw_below_drewN | refine below_set ?_ (by omega) | refine below_step ?_ (by assumption))))).mono ?_); rintro e w2 ⟨rfl, hb2⟩; obtain ⟨hc2, hf2⟩ := bcell hb2; have hz2 := hb2.size; (try simp at hz2); have hy2 : w.heap.size < w2.heap.size := (by omega)) | (go_at_call 34; (with_reducible refine (l1In_calls b.closed 0 (b.periods.length : Int) _ C3.out _).mono ?_); rintro e w' ⟨rfl, rfl⟩) | (go_at_call 35; (with_reducible refine (sLeaf_calls _ _ b.frame.chart b.kept HS.out _ C4.out _ (Kd.C_below HR.out (by repeat (with_reducible first | assumption | exact Below.refl _ _ | apply below_alloc | apply below_drew1 | apply pw_below_drewN | refine below_set ?_ (by omega) | refine below_step ?_ (by assumption))))).mono ?_); rintro e w3 ⟨rfl, hb3⟩; obtain ⟨hc3, hf3⟩ := bcell hb3; have hz3 := hb3.size; (try simp at hz3); have hy3 : w.heap.size < w3.heap.size := (by omega); have y2 := pw_cell_below (show Below w.heap.size w w3 from (by repeat (with_reducible first | assumption | exact Below.refl _ _ | apply below_alloc | apply below_drew1 | apply pw_below_drewN | refine below_set ?_ (by omega) | refine below_step ?_ (by assumption)))) YY.out))
 go_ret
 exact ⟨ret_b HF.out, (by repeat (with_reducible first | assumption | exact Below.refl _ _ | apply below_alloc | apply below_drew1 | apply pw_below_drewN | refine below_set ?_ (by omega) | refine below_step ?_ (by assumption)))⟩
end Go.Proofs.YtheaeffhhbjpmaaGreatDoor

/- Of the program: whether books are right. -/
import Derived.Test.YtheaeffhhbjpmaaGreatDoorXOk1
namespace Go.Proofs.YtheaeffhhbjpmaaGreatDoor
open Go.RowKit Go.Proofs.YtheaeffhhbjpmaaGreatDoorW.PrintWords Go.Proofs.YtheaeffhhbjpmaaGreatDoorW.PrintLast
set_option linter.unusedVariables false
set_option linter.unusedSimpArgs false
set_option maxRecDepth 100000 in
set_option maxHeartbeats 4000000 in
theorem iBooksOk_calls (a : ABooks) (b : BooksD) (hs : SzB b) (r : Bool) (h : bP (BooksP b) = r) (w : World) (hr : RdB w a b) : Calls Tryz.prog 9 #[valB a b] w fun e w' => e = .returned (.bool r) ∧ Below w.heap.size w w' := by
 subst h
 have hu := Tryz.underlying32
 have hu2 := Tryz.underlying26
 have hu3 := Tryz.underlying29
 have hu4 := Tryz.underlying48
 have hu5 := Tryz.underlying84
 obtain ⟨A0, c0, A3, c3, A5, c5⟩ := a
 have HR := Aside0.mk hr.r0
 have HE := Aside0.mk hr.r3
 have HP := Aside0.mk hr.r5
 have HS := Aside0.mk hs.chart
 have HT := Aside0.mk hs.entries
 have hm := C_len hr.r5
 have hm0 := C_len hr.r0
 dsimp only at HR HE HP hm hm0
 clear hr hs
 by_cases c1 : LedgerP b.frame b.ledg
 rotate_left
 ·have C1 := Aside0.mk (bP_f c1); have HF := Aside0.mk (bP_f (show ¬ (BooksP b) from fun h => c1 h.1)); clear c1
  go_enter Tryz.func9, Tryz.ntmps9
  go_wp2_with (first | (go_at_call 36; (with_reducible refine (iLedgerOk_calls b.frame _ _ b.ledg _ _ HS.out HT.out _ C1.out _ (Kd.C_below HR.out (by repeat (with_reducible first | assumption | exact Below.refl _ _ | apply below_alloc | apply below_drew1 | apply pw_below_drewN | refine below_set ?_ (by omega) | refine below_step ?_ (by assumption)))) (Kd.C_below HE.out (by repeat (with_reducible first | assumption | exact Below.refl _ _ | apply below_alloc | apply below_drew1 | apply pw_below_drewN | refine below_set ?_ (by omega) | refine below_step ?_ (by assumption))))).mono ?_); rintro e_ w1 ⟨rfl, hb1⟩; have BK1 := Aside0.mk (blk_below (blk_new w (.cells #[.slice A0 b.frame.chart.length c0, .int .i64 b.frame.dims, .int .i64 b.frame.curs, .slice A3 b.ledg.entries.length c3, .int .i64 b.ledg.head, .slice A5 b.periods.length c5, .int .i64 b.closed, .int .i64 b.kept] 32 (0, 0))) hb1); have HB1 := Aside0.mk (show Below w.heap.size w w1 from (by repeat (with_reducible first | assumption | exact Below.refl _ _ | apply below_alloc | apply below_drew1 | apply pw_below_drewN | refine below_set ?_ (by omega) | refine below_step ?_ (by assumption)))); clear hb1; have b0 : w1.cell? ⟨w.heap.size, 0, none⟩ = some (.slice A0 b.frame.chart.length c0) := (blk_cell BK1.out 0).trans rfl; have b1 : w1.cell? ⟨w.heap.size, 1, none⟩ = some (.int .i64 b.frame.dims) := (blk_cell BK1.out 1).trans rfl; have b2 : w1.cell? ⟨w.heap.size, 2, none⟩ = some (.int .i64 b.frame.curs) := (blk_cell BK1.out 2).trans rfl; have b3 : w1.cell? ⟨w.heap.size, 3, none⟩ = some (.slice A3 b.ledg.entries.length c3) := (blk_cell BK1.out 3).trans rfl; have b4 : w1.cell? ⟨w.heap.size, 4, none⟩ = some (.int .i64 b.ledg.head) := (blk_cell BK1.out 4).trans rfl; have b5 : w1.cell? ⟨w.heap.size, 5, none⟩ = some (.slice A5 b.periods.length c5) := (blk_cell BK1.out 5).trans rfl; have b6 : w1.cell? ⟨w.heap.size, 6, none⟩ = some (.int .i64 b.closed) := (blk_cell BK1.out 6).trans rfl; have b7 : w1.cell? ⟨w.heap.size, 7, none⟩ = some (.int .i64 b.kept) := (blk_cell BK1.out 7).trans rfl) | (go_at_call 37; (with_reducible refine (between_calls b.closed 0 (b.periods.length : Int) _ C4.out _).mono ?_); rintro e_ w' ⟨rfl, rfl⟩))
  go_ret
  exact ⟨ret_b HF.out.symm, HB1.out⟩
 by_cases c2 : 1 ≤ b.periods.length
 rotate_left
 ·have C1 := Aside0.mk (bP_t c1); have HF := Aside0.mk (bP_f (show ¬ (BooksP b) from fun h => c2 (by have := h.2.1.1.1; omega))); clear c1
  go_enter Tryz.func9, Tryz.ntmps9
  go_wp2_with (first | (go_at_call 36; (with_reducible refine (iLedgerOk_calls b.frame _ _ b.ledg _ _ HS.out HT.out _ C1.out _ (Kd.C_below HR.out (by repeat (with_reducible first | assumption | exact Below.refl _ _ | apply below_alloc | apply below_drew1 | apply pw_below_drewN | refine below_set ?_ (by omega) | refine below_step ?_ (by assumption)))) (Kd.C_below HE.out (by repeat (with_reducible first | assumption | exact Below.refl _ _ | apply below_alloc | apply below_drew1 | apply pw_below_drewN | refine below_set ?_ (by omega) | refine below_step ?_ (by assumption))))).mono ?_); rintro e_ w1 ⟨rfl, hb1⟩; have BK1 := Aside0.mk (blk_below (blk_new w (.cells #[.slice A0 b.frame.chart.length c0, .int .i64 b.frame.dims, .int .i64 b.frame.curs, .slice A3 b.ledg.entries.length c3, .int .i64 b.ledg.head, .slice A5 b.periods.length c5, .int .i64 b.closed, .int .i64 b.kept] 32 (0, 0))) hb1); have HB1 := Aside0.mk (show Below w.heap.size w w1 from (by repeat (with_reducible first | assumption | exact Below.refl _ _ | apply below_alloc | apply below_drew1 | apply pw_below_drewN | refine below_set ?_ (by omega) | refine below_step ?_ (by assumption)))); clear hb1; have b0 : w1.cell? ⟨w.heap.size, 0, none⟩ = some (.slice A0 b.frame.chart.length c0) := (blk_cell BK1.out 0).trans rfl; have b1 : w1.cell? ⟨w.heap.size, 1, none⟩ = some (.int .i64 b.frame.dims) := (blk_cell BK1.out 1).trans rfl; have b2 : w1.cell? ⟨w.heap.size, 2, none⟩ = some (.int .i64 b.frame.curs) := (blk_cell BK1.out 2).trans rfl; have b3 : w1.cell? ⟨w.heap.size, 3, none⟩ = some (.slice A3 b.ledg.entries.length c3) := (blk_cell BK1.out 3).trans rfl; have b4 : w1.cell? ⟨w.heap.size, 4, none⟩ = some (.int .i64 b.ledg.head) := (blk_cell BK1.out 4).trans rfl; have b5 : w1.cell? ⟨w.heap.size, 5, none⟩ = some (.slice A5 b.periods.length c5) := (blk_cell BK1.out 5).trans rfl; have b6 : w1.cell? ⟨w.heap.size, 6, none⟩ = some (.int .i64 b.closed) := (blk_cell BK1.out 6).trans rfl; have b7 : w1.cell? ⟨w.heap.size, 7, none⟩ = some (.int .i64 b.kept) := (blk_cell BK1.out 7).trans rfl) | (go_at_call 37; (with_reducible refine (between_calls b.closed 0 (b.periods.length : Int) _ C4.out _).mono ?_); rintro e_ w' ⟨rfl, rfl⟩))
  go_ret
  exact ⟨ret_b HF.out.symm, HB1.out⟩
 by_cases k3 : b.periods.length ≤ 60
 rotate_left
 ·have C1 := Aside0.mk (bP_t c1); have HF := Aside0.mk (bP_f (show ¬ (BooksP b) from fun h => k3 (by have := h.2.1.1.2; omega))); clear c1
  go_enter Tryz.func9, Tryz.ntmps9
  go_wp2_with (first | (go_at_call 36; (with_reducible refine (iLedgerOk_calls b.frame _ _ b.ledg _ _ HS.out HT.out _ C1.out _ (Kd.C_below HR.out (by repeat (with_reducible first | assumption | exact Below.refl _ _ | apply below_alloc | apply below_drew1 | apply pw_below_drewN | refine below_set ?_ (by omega) | refine below_step ?_ (by assumption)))) (Kd.C_below HE.out (by repeat (with_reducible first | assumption | exact Below.refl _ _ | apply below_alloc | apply below_drew1 | apply pw_below_drewN | refine below_set ?_ (by omega) | refine below_step ?_ (by assumption))))).mono ?_); rintro e_ w1 ⟨rfl, hb1⟩; have BK1 := Aside0.mk (blk_below (blk_new w (.cells #[.slice A0 b.frame.chart.length c0, .int .i64 b.frame.dims, .int .i64 b.frame.curs, .slice A3 b.ledg.entries.length c3, .int .i64 b.ledg.head, .slice A5 b.periods.length c5, .int .i64 b.closed, .int .i64 b.kept] 32 (0, 0))) hb1); have HB1 := Aside0.mk (show Below w.heap.size w w1 from (by repeat (with_reducible first | assumption | exact Below.refl _ _ | apply below_alloc | apply below_drew1 | apply pw_below_drewN | refine below_set ?_ (by omega) | refine below_step ?_ (by assumption)))); clear hb1; have b0 : w1.cell? ⟨w.heap.size, 0, none⟩ = some (.slice A0 b.frame.chart.length c0) := (blk_cell BK1.out 0).trans rfl; have b1 : w1.cell? ⟨w.heap.size, 1, none⟩ = some (.int .i64 b.frame.dims) := (blk_cell BK1.out 1).trans rfl; have b2 : w1.cell? ⟨w.heap.size, 2, none⟩ = some (.int .i64 b.frame.curs) := (blk_cell BK1.out 2).trans rfl; have b3 : w1.cell? ⟨w.heap.size, 3, none⟩ = some (.slice A3 b.ledg.entries.length c3) := (blk_cell BK1.out 3).trans rfl; have b4 : w1.cell? ⟨w.heap.size, 4, none⟩ = some (.int .i64 b.ledg.head) := (blk_cell BK1.out 4).trans rfl; have b5 : w1.cell? ⟨w.heap.size, 5, none⟩ = some (.slice A5 b.periods.length c5) := (blk_cell BK1.out 5).trans rfl; have b6 : w1.cell? ⟨w.heap.size, 6, none⟩ = some (.int .i64 b.closed) := (blk_cell BK1.out 6).trans rfl; have b7 : w1.cell? ⟨w.heap.size, 7, none⟩ = some (.int .i64 b.kept) := (blk_cell BK1.out 7).trans rfl) | (go_at_call 37; (with_reducible refine (between_calls b.closed 0 (b.periods.length : Int) _ C4.out _).mono ?_); rintro e_ w' ⟨rfl, rfl⟩))
  go_ret
  exact ⟨ret_b HF.out.symm, HB1.out⟩
 by_cases c4 : 0 ≤ b.closed ∧ b.closed ≤ (b.periods.length : Int)
 rotate_left
 ·have C1 := Aside0.mk (bP_t c1); have C4 := Aside0.mk (bP_f c4); have HF := Aside0.mk (bP_f (show ¬ (BooksP b) from fun h => c4 h.2.2.1)); clear c1 c4
  go_enter Tryz.func9, Tryz.ntmps9
  go_wp2_with (first | (go_at_call 36; (with_reducible refine (iLedgerOk_calls b.frame _ _ b.ledg _ _ HS.out HT.out _ C1.out _ (Kd.C_below HR.out (by repeat (with_reducible first | assumption | exact Below.refl _ _ | apply below_alloc | apply below_drew1 | apply pw_below_drewN | refine below_set ?_ (by omega) | refine below_step ?_ (by assumption)))) (Kd.C_below HE.out (by repeat (with_reducible first | assumption | exact Below.refl _ _ | apply below_alloc | apply below_drew1 | apply pw_below_drewN | refine below_set ?_ (by omega) | refine below_step ?_ (by assumption))))).mono ?_); rintro e_ w1 ⟨rfl, hb1⟩; have BK1 := Aside0.mk (blk_below (blk_new w (.cells #[.slice A0 b.frame.chart.length c0, .int .i64 b.frame.dims, .int .i64 b.frame.curs, .slice A3 b.ledg.entries.length c3, .int .i64 b.ledg.head, .slice A5 b.periods.length c5, .int .i64 b.closed, .int .i64 b.kept] 32 (0, 0))) hb1); have HB1 := Aside0.mk (show Below w.heap.size w w1 from (by repeat (with_reducible first | assumption | exact Below.refl _ _ | apply below_alloc | apply below_drew1 | apply pw_below_drewN | refine below_set ?_ (by omega) | refine below_step ?_ (by assumption)))); clear hb1; have b0 : w1.cell? ⟨w.heap.size, 0, none⟩ = some (.slice A0 b.frame.chart.length c0) := (blk_cell BK1.out 0).trans rfl; have b1 : w1.cell? ⟨w.heap.size, 1, none⟩ = some (.int .i64 b.frame.dims) := (blk_cell BK1.out 1).trans rfl; have b2 : w1.cell? ⟨w.heap.size, 2, none⟩ = some (.int .i64 b.frame.curs) := (blk_cell BK1.out 2).trans rfl; have b3 : w1.cell? ⟨w.heap.size, 3, none⟩ = some (.slice A3 b.ledg.entries.length c3) := (blk_cell BK1.out 3).trans rfl; have b4 : w1.cell? ⟨w.heap.size, 4, none⟩ = some (.int .i64 b.ledg.head) := (blk_cell BK1.out 4).trans rfl; have b5 : w1.cell? ⟨w.heap.size, 5, none⟩ = some (.slice A5 b.periods.length c5) := (blk_cell BK1.out 5).trans rfl; have b6 : w1.cell? ⟨w.heap.size, 6, none⟩ = some (.int .i64 b.closed) := (blk_cell BK1.out 6).trans rfl; have b7 : w1.cell? ⟨w.heap.size, 7, none⟩ = some (.int .i64 b.kept) := (blk_cell BK1.out 7).trans rfl) | (go_at_call 37; (with_reducible refine (between_calls b.closed 0 (b.periods.length : Int) _ C4.out _).mono ?_); rintro e_ w' ⟨rfl, rfl⟩))
  go_ret
  exact ⟨ret_b HF.out.symm, HB1.out⟩
 have C1 := Aside0.mk (bP_t c1)
 have C4 := Aside0.mk (bP_t c4)
 have HLg := Aside0.mk c1
 have HCh := Aside0.mk (show ChartP b.frame.chart from c1.2.1.1)
 have HCl := Aside0.mk c4
 clear c1 c4
 go_enter Tryz.func9, Tryz.ntmps9
 go_wp2_with (first | (go_at_call 36; (with_reducible refine (iLedgerOk_calls b.frame _ _ b.ledg _ _ HS.out HT.out _ C1.out _ (Kd.C_below HR.out (by repeat (with_reducible first | assumption | exact Below.refl _ _ | apply below_alloc | apply below_drew1 | apply pw_below_drewN | refine below_set ?_ (by omega) | refine below_step ?_ (by assumption)))) (Kd.C_below HE.out (by repeat (with_reducible first | assumption | exact Below.refl _ _ | apply below_alloc | apply below_drew1 | apply pw_below_drewN | refine below_set ?_ (by omega) | refine below_step ?_ (by assumption))))).mono ?_); rintro e_ w1 ⟨rfl, hb1⟩; have BK1 := Aside0.mk (blk_below (blk_new w (.cells #[.slice A0 b.frame.chart.length c0, .int .i64 b.frame.dims, .int .i64 b.frame.curs, .slice A3 b.ledg.entries.length c3, .int .i64 b.ledg.head, .slice A5 b.periods.length c5, .int .i64 b.closed, .int .i64 b.kept] 32 (0, 0))) hb1); have HB1 := Aside0.mk (show Below w.heap.size w w1 from (by repeat (with_reducible first | assumption | exact Below.refl _ _ | apply below_alloc | apply below_drew1 | apply pw_below_drewN | refine below_set ?_ (by omega) | refine below_step ?_ (by assumption)))); clear hb1; have b0 : w1.cell? ⟨w.heap.size, 0, none⟩ = some (.slice A0 b.frame.chart.length c0) := (blk_cell BK1.out 0).trans rfl; have b1 : w1.cell? ⟨w.heap.size, 1, none⟩ = some (.int .i64 b.frame.dims) := (blk_cell BK1.out 1).trans rfl; have b2 : w1.cell? ⟨w.heap.size, 2, none⟩ = some (.int .i64 b.frame.curs) := (blk_cell BK1.out 2).trans rfl; have b3 : w1.cell? ⟨w.heap.size, 3, none⟩ = some (.slice A3 b.ledg.entries.length c3) := (blk_cell BK1.out 3).trans rfl; have b4 : w1.cell? ⟨w.heap.size, 4, none⟩ = some (.int .i64 b.ledg.head) := (blk_cell BK1.out 4).trans rfl; have b5 : w1.cell? ⟨w.heap.size, 5, none⟩ = some (.slice A5 b.periods.length c5) := (blk_cell BK1.out 5).trans rfl; have b6 : w1.cell? ⟨w.heap.size, 6, none⟩ = some (.int .i64 b.closed) := (blk_cell BK1.out 6).trans rfl; have b7 : w1.cell? ⟨w.heap.size, 7, none⟩ = some (.int .i64 b.kept) := (blk_cell BK1.out 7).trans rfl) | (go_at_call 37; (with_reducible refine (between_calls b.closed 0 (b.periods.length : Int) _ C4.out _).mono ?_); rintro e_ w' ⟨rfl, rfl⟩))
 clear C1 C4 b0 b1 b2 b3 b4 b5 b6 b7
 go_loopg [35] b.periods.length (fun kq v35 w' => ∃ i : Int, v35 = .int .i64 i ∧ 0 ≤ i ∧ i ≤ b.periods.length ∧ Aside0 (kq = b.periods.length - i.toNat) ∧ Aside0 (∀ j : Int, 0 ≤ j → j < i → PerOk b.periods j) ∧ Aside0 (w'.heap[w.heap.size]? = some (.cells #[.slice A0 b.frame.chart.length c0, .int .i64 b.frame.dims, .int .i64 b.frame.curs, .slice A3 b.ledg.entries.length c3, .int .i64 b.ledg.head, .slice A5 b.periods.length c5, .int .i64 b.closed, .int .i64 b.kept] 32 (0, 0))) ∧ Aside0 (Below w.heap.size w w'))
 case atStart => exact ⟨0, rfl, by omega, by omega, ⟨rfl⟩, ⟨fun j h0 h1 => by omega⟩, BK1, HB1⟩
 case round =>
  clear BK1 HB1
  obtain ⟨i, rfl, i0, hi, HK, HL, BK, HB⟩ := hrel
  by_cases hlt : i < b.periods.length
  ·obtain ⟨ad, e0, x0, x1⟩ := at84 (Kd.C_below HP.out HB.out) i i0 hlt
   have HNE := Aside0.mk (show ¬ PerOk b.periods i → bP (BooksP b) = false from fun q => bP_f (fun h => q (h.2.1.2 i i0 hlt)))
   obtain ⟨y, hy⟩ : ∃ y, rd_T84 b.periods i = y := ⟨_, rfl⟩
   rw [hy] at x0 x1
   replace hy := Aside0.mk (show pd b.periods i = y from hy)
   have BK1 := Aside0.mk (blk_alloc BK.out (.cells #[.int .i64 y.f0, .int .i64 y.f1] 84 (0, 0)))
   have PB1 := Aside0.mk (blk_new wr (.cells #[.int .i64 y.f0, .int .i64 y.f1] 84 (0, 0)))
   have HB1 := Aside0.mk (below_alloc HB.out (.cells #[.int .i64 y.f0, .int .i64 y.f1] 84 (0, 0)))
   clear BK
   have b0 : (wr.alloc (.cells #[.int .i64 y.f0, .int .i64 y.f1] 84 (0, 0))).cell? ⟨w.heap.size, 0, none⟩ = some (.slice A0 b.frame.chart.length c0) := (blk_cell BK1.out 0).trans rfl
   have b1 : (wr.alloc (.cells #[.int .i64 y.f0, .int .i64 y.f1] 84 (0, 0))).cell? ⟨w.heap.size, 1, none⟩ = some (.int .i64 b.frame.dims) := (blk_cell BK1.out 1).trans rfl
   have b2 : (wr.alloc (.cells #[.int .i64 y.f0, .int .i64 y.f1] 84 (0, 0))).cell? ⟨w.heap.size, 2, none⟩ = some (.int .i64 b.frame.curs) := (blk_cell BK1.out 2).trans rfl
   have b3 : (wr.alloc (.cells #[.int .i64 y.f0, .int .i64 y.f1] 84 (0, 0))).cell? ⟨w.heap.size, 3, none⟩ = some (.slice A3 b.ledg.entries.length c3) := (blk_cell BK1.out 3).trans rfl
   have b4 : (wr.alloc (.cells #[.int .i64 y.f0, .int .i64 y.f1] 84 (0, 0))).cell? ⟨w.heap.size, 4, none⟩ = some (.int .i64 b.ledg.head) := (blk_cell BK1.out 4).trans rfl
   have b5 : (wr.alloc (.cells #[.int .i64 y.f0, .int .i64 y.f1] 84 (0, 0))).cell? ⟨w.heap.size, 5, none⟩ = some (.slice A5 b.periods.length c5) := (blk_cell BK1.out 5).trans rfl
   have b6 : (wr.alloc (.cells #[.int .i64 y.f0, .int .i64 y.f1] 84 (0, 0))).cell? ⟨w.heap.size, 6, none⟩ = some (.int .i64 b.closed) := (blk_cell BK1.out 6).trans rfl
   have b7 : (wr.alloc (.cells #[.int .i64 y.f0, .int .i64 y.f1] 84 (0, 0))).cell? ⟨w.heap.size, 7, none⟩ = some (.int .i64 b.kept) := (blk_cell BK1.out 7).trans rfl
   have p0 : (wr.alloc (.cells #[.int .i64 y.f0, .int .i64 y.f1] 84 (0, 0))).cell? ⟨wr.heap.size, 0, none⟩ = some (.int .i64 y.f0) := (blk_cell PB1.out 0).trans rfl
   have p1 : (wr.alloc (.cells #[.int .i64 y.f0, .int .i64 y.f1] 84 (0, 0))).cell? ⟨wr.heap.size, 1, none⟩ = some (.int .i64 y.f1) := (blk_cell PB1.out 1).trans rfl
   cases e0
   by_cases c1 : 0 ≤ y.f0 ∧ y.f0 ≤ 40000
   ·by_cases c2 : 0 ≤ y.f1 ∧ y.f1 ≤ 40000
    ·by_cases c3 : y.f1 < y.f0
     ·have C1 := Aside0.mk (bP_t c1)
      have C2 := Aside0.mk (bP_t c2)
      have d3 : decide (y.f1 < y.f0) = true := by simp [c3]
      have HF := Aside0.mk (HNE.out (fun q => by have := q.c; rw [hy.out] at this; omega))
      go_wp2
      generalize wr.alloc (.cells #[.int .i64 y.f0, .int .i64 y.f1] 84 (0, 0)) = W1 at *
      go_quiet ((first | (go_at_call 38; (with_reducible refine Calls.quiet_of_same ((isDay_calls y.f0 _ C1.out _).mono (fun _ _ h => ⟨h.1, h.2.symm⟩)))) | (go_at_call 38; (with_reducible refine Calls.quiet_of_same ((isDay_calls y.f1 _ C2.out _).mono (fun _ _ h => ⟨h.1, h.2.symm⟩))))))
      go_wp2
      go_ret
      exact ⟨ret_b HF.out.symm, pw_below_drewN HB1.out _⟩
     ·have C1 := Aside0.mk (bP_t c1)
      have C2 := Aside0.mk (bP_t c2)
      have d3 : decide (y.f1 < y.f0) = false := by simp; omega
      by_cases c4 : 0 < i
      ·have d4 : decide (0 < i) = true := by simp [c4]
       obtain ⟨k, hk⟩ : ∃ k, i - 1 = k := ⟨_, rfl⟩
       have g0 : 0 ≤ k := by omega
       have g1 : k < b.periods.length := by omega
       have s1 : IntKind.i64.wrap (i - 1) = k := by rw [IntWalk.i64_in _ (by omega)]; exact hk
       obtain ⟨ad2, e2, y0, y1⟩ := at84 (Kd.C_below HP.out HB1.out) k g0 g1
       cases e2
       obtain ⟨z, hz⟩ : ∃ z, rd_T84 b.periods k = z := ⟨_, rfl⟩
       rw [hz] at y0 y1
       have hzb := (HL.out k (by omega) (by omega)).b
       unfold pd at hzb
       rw [hz] at hzb
       obtain ⟨z0, z1⟩ := hzb
       have s2 : IntKind.i64.wrap (z.f1 + 1) = z.f1 + 1 := IntWalk.i64_in _ (by omega)
       replace hk := Aside0.mk hk
       replace hz := Aside0.mk (show pd b.periods k = z from hz)
       by_cases c5 : y.f0 = z.f1 + 1
       ·have d5 : (y.f0 != z.f1 + 1) = false := by simp [c5]
        have HA := Aside0.mk (show PerOk b.periods i from ⟨by rw [hy.out]; exact c1, by rw [hy.out]; exact c2, by rw [hy.out]; omega, fun _ => by rw [hk.out, hy.out, hz.out]; exact c5⟩)
        replace c5 := Aside0.mk c5
        go_wp2
        generalize wr.alloc (.cells #[.int .i64 y.f0, .int .i64 y.f1] 84 (0, 0)) = W1 at *
        go_quiet ((first | (go_at_call 38; (with_reducible refine Calls.quiet_of_same ((isDay_calls y.f0 _ C1.out _).mono (fun _ _ h => ⟨h.1, h.2.symm⟩)))) | (go_at_call 38; (with_reducible refine Calls.quiet_of_same ((isDay_calls y.f1 _ C2.out _).mono (fun _ _ h => ⟨h.1, h.2.symm⟩))))))
        go_wp2
        go_roundg (b.periods.length - (i + 1).toNat)
        case measure => have := HK.out; omega
        case rel => exact ⟨i + 1, by go_num, by omega, by omega, ⟨rfl⟩, ⟨fun j h0 h1 => by rcases Int.lt_or_eq_of_le (Int.lt_add_one_iff.1 h1) with h | rfl; exact HL.out j h0 h; exact HA.out⟩, ⟨blk_drewN BK1.out _⟩, ⟨pw_below_drewN HB1.out _⟩⟩
       ·have d5 : (y.f0 != z.f1 + 1) = true := by simp [c5]
        have HF := Aside0.mk (HNE.out (fun q => by have := q.d c4; rw [hk.out, hy.out, hz.out] at this; exact c5 this))
        go_wp2
        generalize wr.alloc (.cells #[.int .i64 y.f0, .int .i64 y.f1] 84 (0, 0)) = W1 at *
        go_quiet ((first | (go_at_call 38; (with_reducible refine Calls.quiet_of_same ((isDay_calls y.f0 _ C1.out _).mono (fun _ _ h => ⟨h.1, h.2.symm⟩)))) | (go_at_call 38; (with_reducible refine Calls.quiet_of_same ((isDay_calls y.f1 _ C2.out _).mono (fun _ _ h => ⟨h.1, h.2.symm⟩))))))
        go_wp2
        go_ret
        exact ⟨ret_b HF.out.symm, pw_below_drewN HB1.out _⟩
      ·have d4 : decide (0 < i) = false := by simp; omega
       have HA := Aside0.mk (show PerOk b.periods i from ⟨by rw [hy.out]; exact c1, by rw [hy.out]; exact c2, by rw [hy.out]; omega, fun h => by omega⟩)
       go_wp2
       generalize wr.alloc (.cells #[.int .i64 y.f0, .int .i64 y.f1] 84 (0, 0)) = W1 at *
       go_quiet ((first | (go_at_call 38; (with_reducible refine Calls.quiet_of_same ((isDay_calls y.f0 _ C1.out _).mono (fun _ _ h => ⟨h.1, h.2.symm⟩)))) | (go_at_call 38; (with_reducible refine Calls.quiet_of_same ((isDay_calls y.f1 _ C2.out _).mono (fun _ _ h => ⟨h.1, h.2.symm⟩))))))
       go_wp2
       go_roundg (b.periods.length - (i + 1).toNat)
       case measure => have := HK.out; omega
       case rel => exact ⟨i + 1, by go_num, by omega, by omega, ⟨rfl⟩, ⟨fun j h0 h1 => by rcases Int.lt_or_eq_of_le (Int.lt_add_one_iff.1 h1) with h | rfl; exact HL.out j h0 h; exact HA.out⟩, ⟨blk_drewN BK1.out _⟩, ⟨pw_below_drewN HB1.out _⟩⟩
    ·have C1 := Aside0.mk (bP_t c1)
     have C2 := Aside0.mk (bP_f c2)
     have HF := Aside0.mk (HNE.out (fun q => by have := q.b; rw [hy.out] at this; exact c2 this))
     go_wp2
     generalize wr.alloc (.cells #[.int .i64 y.f0, .int .i64 y.f1] 84 (0, 0)) = W1 at *
     go_quiet ((first | (go_at_call 38; (with_reducible refine Calls.quiet_of_same ((isDay_calls y.f0 _ C1.out _).mono (fun _ _ h => ⟨h.1, h.2.symm⟩)))) | (go_at_call 38; (with_reducible refine Calls.quiet_of_same ((isDay_calls y.f1 _ C2.out _).mono (fun _ _ h => ⟨h.1, h.2.symm⟩))))))
     go_wp2
     go_ret
     exact ⟨ret_b HF.out.symm, pw_below_drewN HB1.out _⟩
   ·have C1 := Aside0.mk (bP_f c1)
    have HF := Aside0.mk (HNE.out (fun q => by have := q.a; rw [hy.out] at this; exact c1 this))
    go_wp2
    generalize wr.alloc (.cells #[.int .i64 y.f0, .int .i64 y.f1] 84 (0, 0)) = W1 at *
    go_quiet ((first | (go_at_call 38; (with_reducible refine Calls.quiet_of_same ((isDay_calls y.f0 _ C1.out _).mono (fun _ _ h => ⟨h.1, h.2.symm⟩)))) | (go_at_call 38; (with_reducible refine Calls.quiet_of_same ((isDay_calls y.f1 _ C2.out _).mono (fun _ _ h => ⟨h.1, h.2.symm⟩))))))
    go_wp2
    go_ret
    exact ⟨ret_b HF.out.symm, pw_below_drewN HB1.out _⟩
  ·have HY := Aside0.mk (show YearP b.periods from ⟨⟨by omega, by omega⟩, fun j j0 j1 => HL.out j j0 (by omega)⟩)
   clear HL
   have b0 : wr.cell? ⟨w.heap.size, 0, none⟩ = some (.slice A0 b.frame.chart.length c0) := (blk_cell BK.out 0).trans rfl
   have b1 : wr.cell? ⟨w.heap.size, 1, none⟩ = some (.int .i64 b.frame.dims) := (blk_cell BK.out 1).trans rfl
   have b2 : wr.cell? ⟨w.heap.size, 2, none⟩ = some (.int .i64 b.frame.curs) := (blk_cell BK.out 2).trans rfl
   have b3 : wr.cell? ⟨w.heap.size, 3, none⟩ = some (.slice A3 b.ledg.entries.length c3) := (blk_cell BK.out 3).trans rfl
   have b4 : wr.cell? ⟨w.heap.size, 4, none⟩ = some (.int .i64 b.ledg.head) := (blk_cell BK.out 4).trans rfl
   have b5 : wr.cell? ⟨w.heap.size, 5, none⟩ = some (.slice A5 b.periods.length c5) := (blk_cell BK.out 5).trans rfl
   have b6 : wr.cell? ⟨w.heap.size, 6, none⟩ = some (.int .i64 b.closed) := (blk_cell BK.out 6).trans rfl
   have b7 : wr.cell? ⟨w.heap.size, 7, none⟩ = some (.int .i64 b.kept) := (blk_cell BK.out 7).trans rfl
   by_cases c1 : LeafP b.frame.chart b.kept
   ·have C1 := Aside0.mk (bP_t c1)
    have k0 : 0 ≤ b.kept := c1.1
    have k1 : b.kept < b.frame.chart.length := c1.2.1
    obtain ⟨ad, e0, y0, y1, y2⟩ := at48 (Kd.C_below HR.out HB.out) b.kept k0 k1
    cases e0
    obtain ⟨z, hz⟩ : ∃ z, (rd_T48 b.frame.chart b.kept).f2 = z := ⟨_, rfl⟩
    rw [hz] at y2
    have HF := Aside0.mk (show (z == 3) = bP (BooksP b) from by
     by_cases hk : z = 3
     ·rw [bP_t (show BooksP b from ⟨HLg.out, HY.out, HCl.out, c1, by unfold acc; rw [hz]; exact hk⟩)]; simp [hk]
     ·rw [bP_f (show ¬ BooksP b from fun h => hk (by have := h.2.2.2.2; unfold acc at this; rw [hz] at this; exact this))]; simp [hk])
    clear c1 hz y0 y1
    go_wp2_with (go_at_call 39; (with_reducible refine (leafAt_calls _ _ b.frame.chart b.kept HCh.out _ C1.out _ (Kd.C_below HR.out HB.out)).mono ?_); rintro e_ w' ⟨rfl, rfl⟩)
    go_ret
    exact ⟨ret_b HF.out, HB.out⟩
   ·have C1 := Aside0.mk (bP_f c1)
    have HF := Aside0.mk (bP_f (show ¬ BooksP b from fun h => c1 h.2.2.2.1))
    clear c1
    go_wp2_with (go_at_call 39; (with_reducible refine (leafAt_calls _ _ b.frame.chart b.kept HCh.out _ C1.out _ (Kd.C_below HR.out HB.out)).mono ?_); rintro e_ w' ⟨rfl, rfl⟩)
    go_ret
    exact ⟨ret_b HF.out.symm, HB.out⟩
end Go.Proofs.YtheaeffhhbjpmaaGreatDoor

/- The law FnExactRecord: walked, it answers true. -/
import Derived.Test.YtheaeffhhbjpmaaGreatDoorXSp15
import Derived.Test.YtheaeffhhbjpmaaGreatDoorXEq
namespace Go.Proofs.YtheaeffhhbjpmaaGreatDoor
open Go.RowKit Go.Proofs.YtheaeffhhbjpmaaGreatDoorW.PrintWords Go.Proofs.YtheaeffhhbjpmaaGreatDoorW.PrintLast
set_option linter.unusedVariables false
set_option linter.unusedSimpArgs false
theorem OwnP.lowr {w : World} {base base' : Nat} {P P' : Nat → Prop} {a : ABooks} {b : BooksD} (h : OwnP w base P a b) (hb : base' ≤ base) (hP : ∀ k, P k → P' k) : OwnP w base' P' a b :=
 ⟨Kd.R_lower (Kd.R_mono h.o0 hP) hb, S_lower (Kd.S_mono h.o3 hP) hb, Kd.R_lower (Kd.R_mono h.o5 hP) hb⟩
set_option maxRecDepth 100000 in
set_option maxHeartbeats 16000000 in
theorem law4_calls (er : Nat → Addr) (a : ABooks) (b : BooksD) (y : S41) (AL : Option Addr) (cL : Nat) (hs : SzB b) (hy1 : (y.f2.size : Int) ≤ 140737488351232) (hy2 : (y.f3.length : Int) ≤ 140737488351232) (w : World) (hE : Errs w er) (hr : RdB w a b) (hl : Kd.C k88 w AL y.f3.length y.f3) :
  Calls Tryz.prog 4 #[valB a b, .agg #[.int .i64 y.f0, .int .i64 y.f1, .string y.f2, .slice AL y.f3.length cL]] w fun e w' => e = .returned (.bool true) ∧ Below w.heap.size w w' := by
 have hu := Tryz.underlying61
 have hu2 := Tryz.underlying64
 have hu3 := Tryz.underlying32
 have hu4 := Tryz.underlying41
 obtain ⟨A0, c0, A3, c3, A5, c5⟩ := a
 have HEr := Aside0.mk hE
 have HRd := Aside0.mk hr
 have HL := Aside0.mk hl
 have HSz := Aside0.mk hs
 have hty : y.f2.size ≤ 9223372036854775807 := by omega
 clear hE hr hl hs
 by_cases c1 : costB b ≤ 1048576
 rotate_left
 ·have P1 := Aside0.mk (sub_f c1)
  go_enter Tryz.func4, Tryz.ntmps4
  go_wp2_with (go_at_call 18; (with_reducible refine (szBooks_calls ⟨A0, c0, A3, c3, A5, c5⟩ b 1048576 _ P1.out (by omega) (by omega) HSz.out _ (HRd.out.below (by repeat (with_reducible first | assumption | exact Below.refl _ _ | apply below_alloc | apply below_drew1 | apply pw_below_drewN | refine below_set ?_ (by omega) | refine below_step ?_ (by assumption))))).mono ?_); rintro e_ w1 ⟨rfl, hb1⟩; have BX1 := Aside0.mk (blk_below (show ((w.alloc (.cells #[.slice A0 b.frame.chart.length c0, .int .i64 b.frame.dims, .int .i64 b.frame.curs, .slice A3 b.ledg.entries.length c3, .int .i64 b.ledg.head, .slice A5 b.periods.length c5, .int .i64 b.closed, .int .i64 b.kept] 61 (0, 0))).alloc (.cells #[.int .i64 y.f0, .int .i64 y.f1, .string y.f2, .slice AL y.f3.length cL] 64 (0, 0))).heap[w.heap.size]? = some (.cells #[.slice A0 b.frame.chart.length c0, .int .i64 b.frame.dims, .int .i64 b.frame.curs, .slice A3 b.ledg.entries.length c3, .int .i64 b.ledg.head, .slice A5 b.periods.length c5, .int .i64 b.closed, .int .i64 b.kept] 61 (0, 0)) from blk_alloc (blk_new w _) _) hb1); have EX1 := Aside0.mk (blk_below (show ((w.alloc (.cells #[.slice A0 b.frame.chart.length c0, .int .i64 b.frame.dims, .int .i64 b.frame.curs, .slice A3 b.ledg.entries.length c3, .int .i64 b.ledg.head, .slice A5 b.periods.length c5, .int .i64 b.closed, .int .i64 b.kept] 61 (0, 0))).alloc (.cells #[.int .i64 y.f0, .int .i64 y.f1, .string y.f2, .slice AL y.f3.length cL] 64 (0, 0))).heap[w.heap.size + 1]? = some (.cells #[.int .i64 y.f0, .int .i64 y.f1, .string y.f2, .slice AL y.f3.length cL] 64 (0, 0)) from blk_new1 w _ _) hb1); have HB1 := Aside0.mk (show Below w.heap.size w w1 from (by repeat (with_reducible first | assumption | exact Below.refl _ _ | apply below_alloc | apply below_drew1 | apply pw_below_drewN | refine below_set ?_ (by omega) | refine below_step ?_ (by assumption)))); clear hb1; have e10 : w1.cell? ⟨w.heap.size + 1, 0, none⟩ = some (.int .i64 y.f0) := (blk_cell EX1.out 0).trans rfl; have e11 : w1.cell? ⟨w.heap.size + 1, 1, none⟩ = some (.int .i64 y.f1) := (blk_cell EX1.out 1).trans rfl; have e12 : w1.cell? ⟨w.heap.size + 1, 2, none⟩ = some (.string y.f2) := (blk_cell EX1.out 2).trans rfl; have e13 : w1.cell? ⟨w.heap.size + 1, 3, none⟩ = some (.slice AL y.f3.length cL) := (blk_cell EX1.out 3).trans rfl)
  go_ret
  exact ⟨rfl, HB1.out⟩
 have hcn := costB_nn b
 obtain ⟨r1, hr1e⟩ : ∃ r1, 1048576 - costB b = r1 := ⟨_, rfl⟩
 have P1 := Aside0.mk ((sub_t c1).trans hr1e)
 have hr1 : 0 ≤ r1 := by omega
 have hr2 : r1 ≤ 1048576 := by omega
 have HSm := Aside0.mk (sm_of_cost c1).1
 have HLen := Aside0.mk (sm_of_cost c1).2
 clear hr1e c1 hcn
 by_cases c2 : costE y ≤ r1
 rotate_left
 ·have P2 := Aside0.mk (sub_f c2)
  clear c2
  go_enter Tryz.func4, Tryz.ntmps4
  go_wp2_with (first | (go_at_call 18; (with_reducible refine (szBooks_calls ⟨A0, c0, A3, c3, A5, c5⟩ b 1048576 _ P1.out (by omega) (by omega) HSz.out _ (HRd.out.below (by repeat (with_reducible first | assumption | exact Below.refl _ _ | apply below_alloc | apply below_drew1 | apply pw_below_drewN | refine below_set ?_ (by omega) | refine below_step ?_ (by assumption))))).mono ?_); rintro e_ w1 ⟨rfl, hb1⟩; have BX1 := Aside0.mk (blk_below (show ((w.alloc (.cells #[.slice A0 b.frame.chart.length c0, .int .i64 b.frame.dims, .int .i64 b.frame.curs, .slice A3 b.ledg.entries.length c3, .int .i64 b.ledg.head, .slice A5 b.periods.length c5, .int .i64 b.closed, .int .i64 b.kept] 61 (0, 0))).alloc (.cells #[.int .i64 y.f0, .int .i64 y.f1, .string y.f2, .slice AL y.f3.length cL] 64 (0, 0))).heap[w.heap.size]? = some (.cells #[.slice A0 b.frame.chart.length c0, .int .i64 b.frame.dims, .int .i64 b.frame.curs, .slice A3 b.ledg.entries.length c3, .int .i64 b.ledg.head, .slice A5 b.periods.length c5, .int .i64 b.closed, .int .i64 b.kept] 61 (0, 0)) from blk_alloc (blk_new w _) _) hb1); have EX1 := Aside0.mk (blk_below (show ((w.alloc (.cells #[.slice A0 b.frame.chart.length c0, .int .i64 b.frame.dims, .int .i64 b.frame.curs, .slice A3 b.ledg.entries.length c3, .int .i64 b.ledg.head, .slice A5 b.periods.length c5, .int .i64 b.closed, .int .i64 b.kept] 61 (0, 0))).alloc (.cells #[.int .i64 y.f0, .int .i64 y.f1, .string y.f2, .slice AL y.f3.length cL] 64 (0, 0))).heap[w.heap.size + 1]? = some (.cells #[.int .i64 y.f0, .int .i64 y.f1, .string y.f2, .slice AL y.f3.length cL] 64 (0, 0)) from blk_new1 w _ _) hb1); have HB1 := Aside0.mk (show Below w.heap.size w w1 from (by repeat (with_reducible first | assumption | exact Below.refl _ _ | apply below_alloc | apply below_drew1 | apply pw_below_drewN | refine below_set ?_ (by omega) | refine below_step ?_ (by assumption)))); clear hb1; have e10 : w1.cell? ⟨w.heap.size + 1, 0, none⟩ = some (.int .i64 y.f0) := (blk_cell EX1.out 0).trans rfl; have e11 : w1.cell? ⟨w.heap.size + 1, 1, none⟩ = some (.int .i64 y.f1) := (blk_cell EX1.out 1).trans rfl; have e12 : w1.cell? ⟨w.heap.size + 1, 2, none⟩ = some (.string y.f2) := (blk_cell EX1.out 2).trans rfl; have e13 : w1.cell? ⟨w.heap.size + 1, 3, none⟩ = some (.slice AL y.f3.length cL) := (blk_cell EX1.out 3).trans rfl) | (go_at_call 19; (with_reducible refine (szEntry_callsR y.f0 y.f1 y.f2 AL cL y.f3 r1 _ P2.out hr1 hr2 hy1 hy2 _).mono ?_); rintro e_ w2 ⟨rfl, hb2⟩; have BX2 := Aside0.mk (blk_below BX1.out hb2); have EX2 := Aside0.mk (blk_below EX1.out hb2); have HB2 := Aside0.mk (below_step HB1.out hb2); clear hb2))
  go_ret
  exact ⟨rfl, HB2.out⟩
 have hyl : y.f3.length ≤ 1048576 := by unfold costE at c2; omega
 obtain ⟨r2, hr2e⟩ : ∃ r2, r1 - costE y = r2 := ⟨_, rfl⟩
 have hr20 : 0 ≤ r2 := by omega
 have P2 := Aside0.mk ((sub_t c2).trans hr2e)
 clear hr2e c2
 obtain ⟨b', k, hrec⟩ := recP_total b y
 have HLen2 := Aside0.mk (bLen_rec hrec HLen.out hyl)
 have HRec := Aside0.mk hrec
 have HNN := Aside0.mk (bLen_nn b')
 clear hrec
 go_enter Tryz.func4, Tryz.ntmps4
 go_wp2_with (first | (go_at_call 18; (with_reducible refine (szBooks_calls ⟨A0, c0, A3, c3, A5, c5⟩ b 1048576 _ P1.out (by omega) (by omega) HSz.out _ (HRd.out.below (by repeat (with_reducible first | assumption | exact Below.refl _ _ | apply below_alloc | apply below_drew1 | apply pw_below_drewN | refine below_set ?_ (by omega) | refine below_step ?_ (by assumption))))).mono ?_); rintro e_ w1 ⟨rfl, hb1⟩; have BX1 := Aside0.mk (blk_below (show ((w.alloc (.cells #[.slice A0 b.frame.chart.length c0, .int .i64 b.frame.dims, .int .i64 b.frame.curs, .slice A3 b.ledg.entries.length c3, .int .i64 b.ledg.head, .slice A5 b.periods.length c5, .int .i64 b.closed, .int .i64 b.kept] 61 (0, 0))).alloc (.cells #[.int .i64 y.f0, .int .i64 y.f1, .string y.f2, .slice AL y.f3.length cL] 64 (0, 0))).heap[w.heap.size]? = some (.cells #[.slice A0 b.frame.chart.length c0, .int .i64 b.frame.dims, .int .i64 b.frame.curs, .slice A3 b.ledg.entries.length c3, .int .i64 b.ledg.head, .slice A5 b.periods.length c5, .int .i64 b.closed, .int .i64 b.kept] 61 (0, 0)) from blk_alloc (blk_new w _) _) hb1); have EX1 := Aside0.mk (blk_below (show ((w.alloc (.cells #[.slice A0 b.frame.chart.length c0, .int .i64 b.frame.dims, .int .i64 b.frame.curs, .slice A3 b.ledg.entries.length c3, .int .i64 b.ledg.head, .slice A5 b.periods.length c5, .int .i64 b.closed, .int .i64 b.kept] 61 (0, 0))).alloc (.cells #[.int .i64 y.f0, .int .i64 y.f1, .string y.f2, .slice AL y.f3.length cL] 64 (0, 0))).heap[w.heap.size + 1]? = some (.cells #[.int .i64 y.f0, .int .i64 y.f1, .string y.f2, .slice AL y.f3.length cL] 64 (0, 0)) from blk_new1 w _ _) hb1); have HB1 := Aside0.mk (show Below w.heap.size w w1 from (by repeat (with_reducible first | assumption | exact Below.refl _ _ | apply below_alloc | apply below_drew1 | apply pw_below_drewN | refine below_set ?_ (by omega) | refine below_step ?_ (by assumption)))); clear hb1; have e10 : w1.cell? ⟨w.heap.size + 1, 0, none⟩ = some (.int .i64 y.f0) := (blk_cell EX1.out 0).trans rfl; have e11 : w1.cell? ⟨w.heap.size + 1, 1, none⟩ = some (.int .i64 y.f1) := (blk_cell EX1.out 1).trans rfl; have e12 : w1.cell? ⟨w.heap.size + 1, 2, none⟩ = some (.string y.f2) := (blk_cell EX1.out 2).trans rfl; have e13 : w1.cell? ⟨w.heap.size + 1, 3, none⟩ = some (.slice AL y.f3.length cL) := (blk_cell EX1.out 3).trans rfl) | (go_at_call 19; (with_reducible refine (szEntry_callsR y.f0 y.f1 y.f2 AL cL y.f3 r1 _ P2.out hr1 hr2 hy1 hy2 _).mono ?_); rintro e_ w2 ⟨rfl, hb2⟩; have BX2 := Aside0.mk (blk_below BX1.out hb2); have EX2 := Aside0.mk (blk_below EX1.out hb2); have HB2 := Aside0.mk (below_step HB1.out hb2); clear hb2))
 refine start_ (n := 11) (S := fun w' => Below w2.heap.size w2 w') (ds := [9]) #[false, false, false, false, false, false, false, false, false, false, false] (by kernel_rfl) rfl rfl (by exact below_drew (Below.refl _ _)) (fun hHeld => ?_)
 generalize w2.drew = wd at hHeld ⊢
 refine take_ (i := 0) (N := (some 28)) (v := ?_) (a' := ?_) #[true, false, false, false, false, false, false, false, false, false, false] rfl rfl (by kernel_rfl) (fun _ _ _ h => h) (Or.inl ⟨by rfl, ?_⟩) hHeld ?_ ?_
 rotate_left
 ·rintro w' s_
  have bx_ := blk_below BX2.out s_
  have ex_ := blk_below EX2.out s_
  have q_0 : w'.cell? ⟨w.heap.size, 0, none⟩ = some (.slice A0 b.frame.chart.length c0) := (blk_cell bx_ 0).trans rfl
  have q_1 : w'.cell? ⟨w.heap.size, 1, none⟩ = some (.int .i64 b.frame.dims) := (blk_cell bx_ 1).trans rfl
  have q_2 : w'.cell? ⟨w.heap.size, 2, none⟩ = some (.int .i64 b.frame.curs) := (blk_cell bx_ 2).trans rfl
  have q_3 : w'.cell? ⟨w.heap.size, 3, none⟩ = some (.slice A3 b.ledg.entries.length c3) := (blk_cell bx_ 3).trans rfl
  have q_4 : w'.cell? ⟨w.heap.size, 4, none⟩ = some (.int .i64 b.ledg.head) := (blk_cell bx_ 4).trans rfl
  have q_5 : w'.cell? ⟨w.heap.size, 5, none⟩ = some (.slice A5 b.periods.length c5) := (blk_cell bx_ 5).trans rfl
  have q_6 : w'.cell? ⟨w.heap.size, 6, none⟩ = some (.int .i64 b.closed) := (blk_cell bx_ 6).trans rfl
  have q_7 : w'.cell? ⟨w.heap.size, 7, none⟩ = some (.int .i64 b.kept) := (blk_cell bx_ 7).trans rfl
  have p_0 : w'.cell? ⟨w.heap.size + 1, 0, none⟩ = some (.int .i64 y.f0) := (blk_cell ex_ 0).trans rfl
  have p_1 : w'.cell? ⟨w.heap.size + 1, 1, none⟩ = some (.int .i64 y.f1) := (blk_cell ex_ 1).trans rfl
  have p_2 : w'.cell? ⟨w.heap.size + 1, 2, none⟩ = some (.string y.f2) := (blk_cell ex_ 2).trans rfl
  have p_3 : w'.cell? ⟨w.heap.size + 1, 3, none⟩ = some (.slice AL y.f3.length cL) := (blk_cell ex_ 3).trans rfl
  go_simp
  try with_reducible rfl
 rotate_left
 ·simp only [Act.put, List.setIfInBounds_toArray, List.set_cons_zero, List.set_cons_succ]
  rfl
 refine take_ (i := 2) (N := (some 30)) (v := ?_) (a' := ?_) #[true, false, true, false, false, false, false, false, false, false, false] rfl rfl (by kernel_rfl) (fun _ _ _ h => h) (Or.inl ⟨by rfl, ?_⟩) hHeld ?_ ?_
 rotate_left
 ·rintro w' s_
  have bx_ := blk_below BX2.out s_
  have ex_ := blk_below EX2.out s_
  have q_0 : w'.cell? ⟨w.heap.size, 0, none⟩ = some (.slice A0 b.frame.chart.length c0) := (blk_cell bx_ 0).trans rfl
  have q_1 : w'.cell? ⟨w.heap.size, 1, none⟩ = some (.int .i64 b.frame.dims) := (blk_cell bx_ 1).trans rfl
  have q_2 : w'.cell? ⟨w.heap.size, 2, none⟩ = some (.int .i64 b.frame.curs) := (blk_cell bx_ 2).trans rfl
  have q_3 : w'.cell? ⟨w.heap.size, 3, none⟩ = some (.slice A3 b.ledg.entries.length c3) := (blk_cell bx_ 3).trans rfl
  have q_4 : w'.cell? ⟨w.heap.size, 4, none⟩ = some (.int .i64 b.ledg.head) := (blk_cell bx_ 4).trans rfl
  have q_5 : w'.cell? ⟨w.heap.size, 5, none⟩ = some (.slice A5 b.periods.length c5) := (blk_cell bx_ 5).trans rfl
  have q_6 : w'.cell? ⟨w.heap.size, 6, none⟩ = some (.int .i64 b.closed) := (blk_cell bx_ 6).trans rfl
  have q_7 : w'.cell? ⟨w.heap.size, 7, none⟩ = some (.int .i64 b.kept) := (blk_cell bx_ 7).trans rfl
  have p_0 : w'.cell? ⟨w.heap.size + 1, 0, none⟩ = some (.int .i64 y.f0) := (blk_cell ex_ 0).trans rfl
  have p_1 : w'.cell? ⟨w.heap.size + 1, 1, none⟩ = some (.int .i64 y.f1) := (blk_cell ex_ 1).trans rfl
  have p_2 : w'.cell? ⟨w.heap.size + 1, 2, none⟩ = some (.string y.f2) := (blk_cell ex_ 2).trans rfl
  have p_3 : w'.cell? ⟨w.heap.size + 1, 3, none⟩ = some (.slice AL y.f3.length cL) := (blk_cell ex_ 3).trans rfl
  go_simp
  try with_reducible rfl
 rotate_left
 ·simp only [Act.put, List.setIfInBounds_toArray, List.set_cons_zero, List.set_cons_succ]
  rfl
 refine join_ (σ := ABooks × Option Addr × Nat × ABooks × Nat) 2 #[true, true, true, true, true, true, true, true, true, false, false] (fun s => [(29, .agg #[.slice s.1.A0 b.frame.chart.length s.1.c0, .int .i64 b.frame.dims, .int .i64 b.frame.curs, .slice s.1.A3 b.ledg.entries.length s.1.c3, .int .i64 b.ledg.head, .slice s.1.A5 b.periods.length s.1.c5, .int .i64 b.closed, .int .i64 b.kept]), (31, .agg #[.int .i64 y.f0, .int .i64 y.f1, .string y.f2, .slice s.2.1 y.f3.length s.2.2.1]), (32, .tuple #[.agg #[.slice s.2.2.2.1.A0 b'.frame.chart.length s.2.2.2.1.c0, .int .i64 b'.frame.dims, .int .i64 b'.frame.curs, .slice s.2.2.2.1.A3 b'.ledg.entries.length s.2.2.2.1.c3, .int .i64 b'.ledg.head, .slice s.2.2.2.1.A5 b'.periods.length s.2.2.2.1.c5, .int .i64 b'.closed, .int .i64 b'.kept], .int .i64 k]), (27, .tuple #[.agg #[.slice s.2.2.2.1.A0 b'.frame.chart.length s.2.2.2.1.c0, .int .i64 b'.frame.dims, .int .i64 b'.frame.curs, .slice s.2.2.2.1.A3 b'.ledg.entries.length s.2.2.2.1.c3, .int .i64 b'.ledg.head, .slice s.2.2.2.1.A5 b'.periods.length s.2.2.2.1.c5, .int .i64 b'.closed, .int .i64 b'.kept], .int .i64 k]), (33, .agg #[.slice s.2.2.2.1.A0 b'.frame.chart.length s.2.2.2.1.c0, .int .i64 b'.frame.dims, .int .i64 b'.frame.curs, .slice s.2.2.2.1.A3 b'.ledg.entries.length s.2.2.2.1.c3, .int .i64 b'.ledg.head, .slice s.2.2.2.1.A5 b'.periods.length s.2.2.2.1.c5, .int .i64 b'.closed, .int .i64 b'.kept]), (34, .int .i64 k), (6, .pointer (some ⟨s.2.2.2.2, 0, none⟩))]) (fun s w' => Below w2.heap.size w2 w' ∧ RdX s.2.2.2.2 w' s.2.2.2.1 b' ∧ w'.heap[s.2.2.2.2]? = some (.cells #[.slice none 0 0, .int .i64 0, .int .i64 0, .slice none 0 0, .int .i64 0, .slice none 0 0, .int .i64 0, .int .i64 0] 32 (0, 0)) ∧ w2.heap.size ≤ s.2.2.2.2) ?_ ?_
 rotate_left
 ·intro hcont3
  refine join_ (σ := ABooks × Option Addr × Nat × Nat) 6 #[true, true, true, true, false, false, false, false, true, false, false] (fun s => [(29, .agg #[.slice s.1.A0 b.frame.chart.length s.1.c0, .int .i64 b.frame.dims, .int .i64 b.frame.curs, .slice s.1.A3 b.ledg.entries.length s.1.c3, .int .i64 b.ledg.head, .slice s.1.A5 b.periods.length s.1.c5, .int .i64 b.closed, .int .i64 b.kept]), (31, .agg #[.int .i64 y.f0, .int .i64 y.f1, .string y.f2, .slice s.2.1 y.f3.length s.2.2.1]), (6, .pointer (some ⟨s.2.2.2, 0, none⟩))]) (fun s w' => Below w2.heap.size w2 w' ∧ RdB w' s.1 b ∧ Kd.C k88 w' s.2.1 y.f3.length y.f3 ∧ w'.heap[s.2.2.2]? = some (.cells #[.slice none 0 0, .int .i64 0, .int .i64 0, .slice none 0 0, .int .i64 0, .slice none 0 0, .int .i64 0, .int .i64 0] 32 (0, 0)) ∧ w2.heap.size ≤ s.2.2.2) ?_ ?_
  rotate_left
  ·intro hcont2
   refine join_ (σ := ABooks × Nat) 7 #[true, true, true, false, false, false, false, false, true, false, false] (fun s => [(29, .agg #[.slice s.1.A0 b.frame.chart.length s.1.c0, .int .i64 b.frame.dims, .int .i64 b.frame.curs, .slice s.1.A3 b.ledg.entries.length s.1.c3, .int .i64 b.ledg.head, .slice s.1.A5 b.periods.length s.1.c5, .int .i64 b.closed, .int .i64 b.kept]), (6, .pointer (some ⟨s.2, 0, none⟩))]) (fun s w' => Below w2.heap.size w2 w' ∧ RdB w' s.1 b ∧ w'.heap[s.2]? = some (.cells #[.slice none 0 0, .int .i64 0, .int .i64 0, .slice none 0 0, .int .i64 0, .slice none 0 0, .int .i64 0, .int .i64 0] 32 (0, 0)) ∧ w2.heap.size ≤ s.2) ?_ ?_
   rotate_left
   ·intro hcont1
    refine two_ (i := 1) (j := 8) (Ni := (some 29)) (Nj := (some 6)) #[true, true, true, false, false, false, false, false, false, false, false] #[true, false, true, false, false, false, false, false, true, false, false] rfl rfl rfl rfl (by kernel_rfl) (by decide) (by decide) (fun K hK => ?_) (fun K hK => ?_)
    ·refine goes_ Tryz.func21 (by kernel_rfl) rfl #[.agg #[.slice A0 b.frame.chart.length c0, .int .i64 b.frame.dims, .int .i64 b.frame.curs, .slice A3 b.ledg.entries.length c3, .int .i64 b.ledg.head, .slice A5 b.periods.length c5, .int .i64 b.closed, .int .i64 b.kept]] (by rfl) rfl rfl (by (try simp only [List.map_toArray, List.map_cons, List.map_nil]); first | done | rfl) ?_
     with_reducible refine (toBooks_calls ⟨A0, c0, A3, c3, A5, c5⟩ b HSm.out _ (HRd.out.below (below_step HB2.out hHeld))).mono ?_
     rintro e_ wa ⟨a1, rfl, ho1_, hb1_⟩
     have hr1_ := ho1_.rd
     clear ho1_
     have hb0_ := hHeld
     refine ⟨_, rfl, ?_⟩
     refine hK.out _ _ (by exact below_step hHeld hb1_) (fun hHeld => ?_)
     clear hK K
     refine norm_ (a' := ?_) ?_ ?_
     rotate_left
     ·show Act.put _ (some 29) _ = _
      simp only [Act.put, List.setIfInBounds_toArray, List.set_cons_zero, List.set_cons_succ]
      rfl
     refine two_ (i := 3) (j := 8) (Ni := (some 31)) (Nj := (some 6)) #[true, true, true, true, false, false, false, false, false, false, false] #[true, true, true, false, false, false, false, false, true, false, false] rfl rfl rfl rfl (by kernel_rfl) (by decide) (by decide) (fun K hK => ?_) (fun K hK => ?_)
     ·refine goes_ Tryz.func22 (by kernel_rfl) rfl #[.agg #[.int .i64 y.f0, .int .i64 y.f1, .string y.f2, .slice AL y.f3.length cL]] (by rfl) rfl rfl (by (try simp only [List.map_toArray, List.map_cons, List.map_nil]); first | done | rfl) ?_
      with_reducible refine (toEntry_calls y AL cL hyl _ (Kd.C_below HL.out (below_step HB2.out hHeld))).mono ?_
      rintro e_ wb ⟨v_, rfl, ho2_, hb2_⟩
      obtain ⟨V2, c2, rfl⟩ := Kd.R_slice ho2_
      have hr2_ := (Kd.R_reads' ho2_).2.2
      clear ho2_
      refine ⟨_, rfl, ?_⟩
      refine hK.out _ _ (by exact below_step hHeld hb2_) (fun hHeld => ?_)
      clear hK K
      refine norm_ (a' := ?_) ?_ ?_
      rotate_left
      ·show Act.put _ (some 31) _ = _
       simp only [Act.put, List.setIfInBounds_toArray, List.set_cons_zero, List.set_cons_succ]
       rfl
      refine two_ (i := 4) (j := 8) (Ni := (some 32)) (Nj := (some 6)) #[true, true, true, true, true, false, false, false, false, false, false] #[true, true, true, true, false, false, false, false, true, false, false] rfl rfl rfl rfl (by kernel_rfl) (by decide) (by decide) (fun K hK => ?_) (fun K hK => ?_)
      ·refine goes_ Tryz.func20 (by kernel_rfl) rfl #[.agg #[.slice a1.A0 b.frame.chart.length a1.c0, .int .i64 b.frame.dims, .int .i64 b.frame.curs, .slice a1.A3 b.ledg.entries.length a1.c3, .int .i64 b.ledg.head, .slice a1.A5 b.periods.length a1.c5, .int .i64 b.closed, .int .i64 b.kept], .agg #[.int .i64 y.f0, .int .i64 y.f1, .string y.f2, .slice V2 y.f3.length c2]] (by rfl) rfl rfl (by (try simp only [List.map_toArray, List.map_cons, List.map_nil]); first | done | rfl) ?_
       with_reducible refine (sRecord_own a1 b y V2 c2 HSz.out hty b' k HRec.out _ (hr1_.below hb2_) hr2_).mono ?_
       rintro e_ wc ⟨a2, rfl, ho3_, hb3_⟩
       refine ⟨_, rfl, ?_⟩
       refine hK.out _ _ (by exact below_step hHeld hb3_) (fun hHeld => ?_)
       clear hK K
       refine norm_ (a' := ?_) ?_ ?_
       rotate_left
       ·show Act.put _ (some 32) _ = _
        simp only [Act.put, List.setIfInBounds_toArray, List.set_cons_zero, List.set_cons_succ]
        rfl
       refine pure_ (i := 5) (N := (some 27)) (v := ?_) (a' := ?_) #[true, true, true, true, true, true, false, false, false, false, false] rfl rfl (by kernel_rfl) (fun _ _ _ h => h) (Or.inl ⟨by rfl, ?_⟩) ?_ ?_
       rotate_left
       ·intro w'
        go_simp
        try with_reducible rfl
       rotate_left
       ·simp only [Act.put, List.setIfInBounds_toArray, List.set_cons_zero, List.set_cons_succ]
        rfl
       refine pure_ (i := 6) (N := (some 33)) (v := ?_) (a' := ?_) #[true, true, true, true, true, true, true, false, false, false, false] rfl rfl (by kernel_rfl) (fun _ _ _ h => h) (Or.inl ⟨by rfl, ?_⟩) ?_ ?_
       rotate_left
       ·intro w'
        go_simp
        try with_reducible rfl
       rotate_left
       ·simp only [Act.put, List.setIfInBounds_toArray, List.set_cons_zero, List.set_cons_succ]
        rfl
       refine pure_ (i := 7) (N := (some 34)) (v := ?_) (a' := ?_) #[true, true, true, true, true, true, true, true, false, false, false] rfl rfl (by kernel_rfl) (fun _ _ _ h => h) (Or.inl ⟨by rfl, ?_⟩) ?_ ?_
       rotate_left
       ·intro w'
        go_simp
        try with_reducible rfl
       rotate_left
       ·simp only [Act.put, List.setIfInBounds_toArray, List.set_cons_zero, List.set_cons_succ]
        rfl
       refine one_ (i := 8) (N := (some 6)) #[true, true, true, true, true, true, true, true, true, false, false] rfl rfl (by kernel_rfl) (by decide) (fun K hK => ?_)
       refine value_ (w1 := ?_) (v := ?_) (by rfl) rfl ?_ ?_
       rotate_left 2
       ·go_simp
        constructor
        ·rfl
        ·rfl
       refine hK.out _ _ (by exact below_alloc hHeld _) (fun hHeld => ?_)
       clear hK K
       refine norm_ (a' := ?_) ?_ ?_
       rotate_left
       ·show Act.put _ (some 6) _ = _
        simp only [Act.put, List.setIfInBounds_toArray, List.set_cons_zero, List.set_cons_succ]
        rfl
       refine norm_ (a' := putAll _ [(29, _), (31, _), (32, _), (27, _), (33, _), (34, _), (6, _)]) ?_ (hcont3 (a1, V2, c2, a2, wc.heap.size) _ ⟨hHeld, (fun W hW => ho3_.keep (fun k hk1 hk2 => (hW k (by show k ≠ wc.heap.size; omega) (by simp; omega)).trans (Below.heap_alloc wc _ k hk2))), blk_new wc _, (by show w2.heap.size ≤ wc.heap.size; have := hb3_.size; have := hb2_.size; have := hb1_.size; have := hb0_.size; omega)⟩)
       simp only [putAll, Act.put, List.setIfInBounds_toArray, List.set_cons_zero, List.set_cons_succ]
      ·refine value_ (w1 := ?_) (v := ?_) (by rfl) rfl ?_ ?_
       rotate_left 2
       ·go_simp
        constructor
        ·rfl
        ·rfl
       refine hK.out _ _ (by exact below_alloc hHeld _) (fun hHeld => ?_)
       clear hK K
       refine norm_ (a' := ?_) ?_ ?_
       rotate_left
       ·show Act.put _ (some 6) _ = _
        simp only [Act.put, List.setIfInBounds_toArray, List.set_cons_zero, List.set_cons_succ]
        rfl
       refine norm_ (a' := putAll _ [(29, _), (31, _), (6, _)]) ?_ (hcont2 (a1, V2, c2, wb.heap.size) _ ⟨hHeld, (hr1_.below hb2_).below (below_alloc (Below.refl _ _) _), Kd.C_below hr2_ (below_alloc (Below.refl _ _) _), blk_new wb _, (by show w2.heap.size ≤ wb.heap.size; have := hb2_.size; have := hb1_.size; have := hb0_.size; omega)⟩)
       simp only [putAll, Act.put, List.setIfInBounds_toArray, List.set_cons_zero, List.set_cons_succ]
     ·refine value_ (w1 := ?_) (v := ?_) (by rfl) rfl ?_ ?_
      rotate_left 2
      ·go_simp
       constructor
       ·rfl
       ·rfl
      refine hK.out _ _ (by exact below_alloc hHeld _) (fun hHeld => ?_)
      clear hK K
      refine norm_ (a' := ?_) ?_ ?_
      rotate_left
      ·show Act.put _ (some 6) _ = _
       simp only [Act.put, List.setIfInBounds_toArray, List.set_cons_zero, List.set_cons_succ]
       rfl
      refine norm_ (a' := putAll _ [(29, _), (6, _)]) ?_ (hcont1 (a1, wa.heap.size) _ ⟨hHeld, hr1_.below (below_alloc (Below.refl _ _) _), blk_new wa _, (by show w2.heap.size ≤ wa.heap.size; have := hb1_.size; have := hb0_.size; omega)⟩)
      simp only [putAll, Act.put, List.setIfInBounds_toArray, List.set_cons_zero, List.set_cons_succ]
    ·have hb00_ := hHeld
     refine value_ (w1 := ?_) (v := ?_) (by rfl) rfl ?_ ?_
     rotate_left 2
     ·go_simp
      constructor
      ·rfl
      ·rfl
     refine hK.out _ _ (by exact below_alloc hHeld _) (fun hHeld => ?_)
     clear hK K
     refine norm_ (a' := ?_) ?_ ?_
     rotate_left
     ·show Act.put _ (some 6) _ = _
      simp only [Act.put, List.setIfInBounds_toArray, List.set_cons_zero, List.set_cons_succ]
      rfl
     refine one_ (i := 1) (N := (some 29)) #[true, true, true, false, false, false, false, false, true, false, false] rfl rfl (by kernel_rfl) (by decide) (fun K hK => ?_)
     refine goes_ Tryz.func21 (by kernel_rfl) rfl #[.agg #[.slice A0 b.frame.chart.length c0, .int .i64 b.frame.dims, .int .i64 b.frame.curs, .slice A3 b.ledg.entries.length c3, .int .i64 b.ledg.head, .slice A5 b.periods.length c5, .int .i64 b.closed, .int .i64 b.kept]] (by rfl) rfl rfl (by (try simp only [List.map_toArray, List.map_cons, List.map_nil]); first | done | rfl) ?_
     with_reducible refine (toBooks_calls ⟨A0, c0, A3, c3, A5, c5⟩ b HSm.out _ (HRd.out.below (below_step HB2.out hHeld))).mono ?_
     rintro e_ wa ⟨a1, rfl, ho1_, hb1_⟩
     have hr1_ := ho1_.rd
     clear ho1_
     have hb0_ := hHeld
     refine ⟨_, rfl, ?_⟩
     refine hK.out _ _ (by exact below_step hHeld hb1_) (fun hHeld => ?_)
     clear hK K
     refine norm_ (a' := ?_) ?_ ?_
     rotate_left
     ·show Act.put _ (some 29) _ = _
      simp only [Act.put, List.setIfInBounds_toArray, List.set_cons_zero, List.set_cons_succ]
      rfl
     refine norm_ (a' := putAll _ [(29, _), (6, _)]) ?_ (hcont1 (a1, wd.heap.size) _ ⟨hHeld, hr1_, blk_below (blk_new wd _) hb1_, hb00_.size⟩)
     simp only [putAll, Act.put, List.setIfInBounds_toArray, List.set_cons_zero, List.set_cons_succ]
   rintro ⟨a1, gb⟩ wq ⟨hHeld, hr1_, hz_, hge_⟩
   refine norm_ (a' := ?_) ?_ ?_
   rotate_left
   ·simp only [putAll, Act.put, List.setIfInBounds_toArray, List.set_cons_zero, List.set_cons_succ]
    rfl
   dsimp only at hr1_ hz_ hge_
   clear hcont3
   refine one_ (i := 3) (N := (some 31)) #[true, true, true, true, false, false, false, false, true, false, false] rfl rfl (by kernel_rfl) (by decide) (fun K hK => ?_)
   refine goes_ Tryz.func22 (by kernel_rfl) rfl #[.agg #[.int .i64 y.f0, .int .i64 y.f1, .string y.f2, .slice AL y.f3.length cL]] (by rfl) rfl rfl (by (try simp only [List.map_toArray, List.map_cons, List.map_nil]); first | done | rfl) ?_
   with_reducible refine (toEntry_calls y AL cL hyl _ (Kd.C_below HL.out (below_step HB2.out hHeld))).mono ?_
   rintro e_ wb ⟨v_, rfl, ho2_, hb2_⟩
   obtain ⟨V2, c2, rfl⟩ := Kd.R_slice ho2_
   have hr2_ := (Kd.R_reads' ho2_).2.2
   clear ho2_
   refine ⟨_, rfl, ?_⟩
   refine hK.out _ _ (by exact below_step hHeld hb2_) (fun hHeld => ?_)
   clear hK K
   refine norm_ (a' := ?_) ?_ ?_
   rotate_left
   ·show Act.put _ (some 31) _ = _
    simp only [Act.put, List.setIfInBounds_toArray, List.set_cons_zero, List.set_cons_succ]
    rfl
   refine norm_ (a' := putAll _ [(29, _), (31, _), (6, _)]) ?_ (hcont2 (a1, V2, c2, gb) _ ⟨hHeld, hr1_.below hb2_, hr2_, blk_below hz_ hb2_, hge_⟩)
   simp only [putAll, Act.put, List.setIfInBounds_toArray, List.set_cons_zero, List.set_cons_succ]
  rintro ⟨a1, V2, c2, gb⟩ wq ⟨hHeld, hr1_, hr2_, hz_, hge_⟩
  refine norm_ (a' := ?_) ?_ ?_
  rotate_left
  ·simp only [putAll, Act.put, List.setIfInBounds_toArray, List.set_cons_zero, List.set_cons_succ]
   rfl
  dsimp only at hr1_ hr2_ hz_ hge_
  refine one_ (i := 4) (N := (some 32)) #[true, true, true, true, true, false, false, false, true, false, false] rfl rfl (by kernel_rfl) (by decide) (fun K hK => ?_)
  refine goes_ Tryz.func20 (by kernel_rfl) rfl #[.agg #[.slice a1.A0 b.frame.chart.length a1.c0, .int .i64 b.frame.dims, .int .i64 b.frame.curs, .slice a1.A3 b.ledg.entries.length a1.c3, .int .i64 b.ledg.head, .slice a1.A5 b.periods.length a1.c5, .int .i64 b.closed, .int .i64 b.kept], .agg #[.int .i64 y.f0, .int .i64 y.f1, .string y.f2, .slice V2 y.f3.length c2]] (by rfl) rfl rfl (by (try simp only [List.map_toArray, List.map_cons, List.map_nil]); first | done | rfl) ?_
  with_reducible refine (sRecord_own a1 b y V2 c2 HSz.out hty b' k HRec.out _ hr1_ hr2_).mono ?_
  rintro e_ wc ⟨a2, rfl, ho3_, hb3_⟩
  refine ⟨_, rfl, ?_⟩
  refine hK.out _ _ (by exact below_step hHeld hb3_) (fun hHeld => ?_)
  clear hK K
  refine norm_ (a' := ?_) ?_ ?_
  rotate_left
  ·show Act.put _ (some 32) _ = _
   simp only [Act.put, List.setIfInBounds_toArray, List.set_cons_zero, List.set_cons_succ]
   rfl
  refine pure_ (i := 5) (N := (some 27)) (v := ?_) (a' := ?_) #[true, true, true, true, true, true, false, false, true, false, false] rfl rfl (by kernel_rfl) (fun _ _ _ h => h) (Or.inl ⟨by rfl, ?_⟩) ?_ ?_
  rotate_left
  ·intro w'
   go_simp
   try with_reducible rfl
  rotate_left
  ·simp only [Act.put, List.setIfInBounds_toArray, List.set_cons_zero, List.set_cons_succ]
   rfl
  refine pure_ (i := 6) (N := (some 33)) (v := ?_) (a' := ?_) #[true, true, true, true, true, true, true, false, true, false, false] rfl rfl (by kernel_rfl) (fun _ _ _ h => h) (Or.inl ⟨by rfl, ?_⟩) ?_ ?_
  rotate_left
  ·intro w'
   go_simp
   try with_reducible rfl
  rotate_left
  ·simp only [Act.put, List.setIfInBounds_toArray, List.set_cons_zero, List.set_cons_succ]
   rfl
  refine pure_ (i := 7) (N := (some 34)) (v := ?_) (a' := ?_) #[true, true, true, true, true, true, true, true, true, false, false] rfl rfl (by kernel_rfl) (fun _ _ _ h => h) (Or.inl ⟨by rfl, ?_⟩) ?_ ?_
  rotate_left
  ·intro w'
   go_simp
   try with_reducible rfl
  rotate_left
  ·simp only [Act.put, List.setIfInBounds_toArray, List.set_cons_zero, List.set_cons_succ]
   rfl
  refine norm_ (a' := putAll _ [(29, _), (31, _), (32, _), (27, _), (33, _), (34, _), (6, _)]) ?_ (hcont3 (a1, V2, c2, a2, gb) _ ⟨hHeld, (fun W hW => ho3_.keep (fun k hk1 hk2 => hW k (by have := blk_lt hz_; show k ≠ gb; omega) hk2)), blk_below hz_ hb3_, hge_⟩)
  simp only [putAll, Act.put, List.setIfInBounds_toArray, List.set_cons_zero, List.set_cons_succ]
 rintro ⟨a1, V2, c2, au, gu⟩ wu0 ⟨hHeld, hru, hzu, hgeu⟩
 refine norm_ (a' := ?_) ?_ ?_
 rotate_left
 ·simp only [putAll, Act.put, List.setIfInBounds_toArray, List.set_cons_zero, List.set_cons_succ]
  rfl
 dsimp only at hru hzu hgeu
 refine last_ (i := 9) (N := none) #[true, true, true, true, true, true, true, true, true, true, false] rfl rfl (by kernel_rfl) (by decide) (fun K hK => ?_)
 obtain s_ := hHeld
 have z_0 : wu0.cell? ⟨gu, 0, none⟩ = some (.slice none 0 0) := (blk_cell hzu 0).trans rfl
 have z_1 : wu0.cell? ⟨gu, 1, none⟩ = some (.int .i64 0) := (blk_cell hzu 1).trans rfl
 have z_2 : wu0.cell? ⟨gu, 2, none⟩ = some (.int .i64 0) := (blk_cell hzu 2).trans rfl
 have z_3 : wu0.cell? ⟨gu, 3, none⟩ = some (.slice none 0 0) := (blk_cell hzu 3).trans rfl
 have z_4 : wu0.cell? ⟨gu, 4, none⟩ = some (.int .i64 0) := (blk_cell hzu 4).trans rfl
 have z_5 : wu0.cell? ⟨gu, 5, none⟩ = some (.slice none 0 0) := (blk_cell hzu 5).trans rfl
 have z_6 : wu0.cell? ⟨gu, 6, none⟩ = some (.int .i64 0) := (blk_cell hzu 6).trans rfl
 have z_7 : wu0.cell? ⟨gu, 7, none⟩ = some (.int .i64 0) := (blk_cell hzu 7).trans rfl
 have y_0 := blk_frozen hzu 0
 have y_1 := blk_frozen hzu 1
 have y_2 := blk_frozen hzu 2
 have y_3 := blk_frozen hzu 3
 have y_4 := blk_frozen hzu 4
 have y_5 := blk_frozen hzu 5
 have y_6 := blk_frozen hzu 6
 have y_7 := blk_frozen hzu 7
 refine skip_ (w1 := ?_) (by rfl) rfl ?_ ?_
 rotate_left
 ·go_simp
  rfl
 refine hK.out _ _ ?_
 clear hK K
 refine pure_ (i := 10) (N := (some 7)) (v := ?_) (a' := ?_) #[true, true, true, true, true, true, true, true, true, true, true] rfl rfl (by kernel_rfl) (fun _ _ _ h => h) (Or.inl ⟨by rfl, ?_⟩) ?_ ?_
 rotate_left
 ·intro w'
  go_simp
  try with_reducible rfl
 rotate_left
 ·simp only [Act.put, List.setIfInBounds_toArray, List.set_cons_zero, List.set_cons_succ]
  rfl
 refine done_ (by kernel_rfl) ?_
 have hgu := blk_lt hzu
 have hx2 : w.heap.size + 1 < w2.heap.size := blk_lt EX2.out
 have G8 := Aside0.mk (show ((((((((wu0.setCell ⟨gu, 0, none⟩ (.slice au.A0 b'.frame.chart.length au.c0)).setCell ⟨gu, 1, none⟩ (.int .i64 b'.frame.dims)).setCell ⟨gu, 2, none⟩ (.int .i64 b'.frame.curs)).setCell ⟨gu, 3, none⟩ (.slice au.A3 b'.ledg.entries.length au.c3)).setCell ⟨gu, 4, none⟩ (.int .i64 b'.ledg.head)).setCell ⟨gu, 5, none⟩ (.slice au.A5 b'.periods.length au.c5)).setCell ⟨gu, 6, none⟩ (.int .i64 b'.closed)).setCell ⟨gu, 7, none⟩ (.int .i64 b'.kept)).heap[gu]? = some (.cells #[.slice au.A0 b'.frame.chart.length au.c0, .int .i64 b'.frame.dims, .int .i64 b'.frame.curs, .slice au.A3 b'.ledg.entries.length au.c3, .int .i64 b'.ledg.head, .slice au.A5 b'.periods.length au.c5, .int .i64 b'.closed, .int .i64 b'.kept] 32 (0, 0)) from (blk_put (cs' := #[.slice au.A0 b'.frame.chart.length au.c0, .int .i64 b'.frame.dims, .int .i64 b'.frame.curs, .slice au.A3 b'.ledg.entries.length au.c3, .int .i64 b'.ledg.head, .slice au.A5 b'.periods.length au.c5, .int .i64 b'.closed, .int .i64 b'.kept]) (blk_put (cs' := #[.slice au.A0 b'.frame.chart.length au.c0, .int .i64 b'.frame.dims, .int .i64 b'.frame.curs, .slice au.A3 b'.ledg.entries.length au.c3, .int .i64 b'.ledg.head, .slice au.A5 b'.periods.length au.c5, .int .i64 b'.closed, .int .i64 0]) (blk_put (cs' := #[.slice au.A0 b'.frame.chart.length au.c0, .int .i64 b'.frame.dims, .int .i64 b'.frame.curs, .slice au.A3 b'.ledg.entries.length au.c3, .int .i64 b'.ledg.head, .slice au.A5 b'.periods.length au.c5, .int .i64 0, .int .i64 0]) (blk_put (cs' := #[.slice au.A0 b'.frame.chart.length au.c0, .int .i64 b'.frame.dims, .int .i64 b'.frame.curs, .slice au.A3 b'.ledg.entries.length au.c3, .int .i64 b'.ledg.head, .slice none 0 0, .int .i64 0, .int .i64 0]) (blk_put (cs' := #[.slice au.A0 b'.frame.chart.length au.c0, .int .i64 b'.frame.dims, .int .i64 b'.frame.curs, .slice au.A3 b'.ledg.entries.length au.c3, .int .i64 0, .slice none 0 0, .int .i64 0, .int .i64 0]) (blk_put (cs' := #[.slice au.A0 b'.frame.chart.length au.c0, .int .i64 b'.frame.dims, .int .i64 b'.frame.curs, .slice none 0 0, .int .i64 0, .slice none 0 0, .int .i64 0, .int .i64 0]) (blk_put (cs' := #[.slice au.A0 b'.frame.chart.length au.c0, .int .i64 b'.frame.dims, .int .i64 0, .slice none 0 0, .int .i64 0, .slice none 0 0, .int .i64 0, .int .i64 0]) (blk_put (cs' := #[.slice au.A0 b'.frame.chart.length au.c0, .int .i64 0, .int .i64 0, .slice none 0 0, .int .i64 0, .slice none 0 0, .int .i64 0, .int .i64 0]) hzu 0 _ rfl) 1 _ rfl) 2 _ rfl) 3 _ rfl) 4 _ rfl) 5 _ rfl) 6 _ rfl) 7 _ rfl))
 have HW2 := Aside0.mk (show Below w2.heap.size w2 ((((((((wu0.setCell ⟨gu, 0, none⟩ (.slice au.A0 b'.frame.chart.length au.c0)).setCell ⟨gu, 1, none⟩ (.int .i64 b'.frame.dims)).setCell ⟨gu, 2, none⟩ (.int .i64 b'.frame.curs)).setCell ⟨gu, 3, none⟩ (.slice au.A3 b'.ledg.entries.length au.c3)).setCell ⟨gu, 4, none⟩ (.int .i64 b'.ledg.head)).setCell ⟨gu, 5, none⟩ (.slice au.A5 b'.periods.length au.c5)).setCell ⟨gu, 6, none⟩ (.int .i64 b'.closed)).setCell ⟨gu, 7, none⟩ (.int .i64 b'.kept)) from (by repeat (with_reducible first | exact hHeld | refine below_set ?_ (by omega))))
 have RD8 := Aside0.mk (show RdB ((((((((wu0.setCell ⟨gu, 0, none⟩ (.slice au.A0 b'.frame.chart.length au.c0)).setCell ⟨gu, 1, none⟩ (.int .i64 b'.frame.dims)).setCell ⟨gu, 2, none⟩ (.int .i64 b'.frame.curs)).setCell ⟨gu, 3, none⟩ (.slice au.A3 b'.ledg.entries.length au.c3)).setCell ⟨gu, 4, none⟩ (.int .i64 b'.ledg.head)).setCell ⟨gu, 5, none⟩ (.slice au.A5 b'.periods.length au.c5)).setCell ⟨gu, 6, none⟩ (.int .i64 b'.closed)).setCell ⟨gu, 7, none⟩ (.int .i64 b'.kept)) au b' from hru _ (fun k hk _ => by (repeat (with_reducible refine (Below.heap_setCell _ _ _ k (show k ≠ gu from hk)).trans ?_)); with_reducible rfl))
 clear hHeld hzu hgeu hru
 clear z_0 y_0 z_1 y_1 z_2 y_2 z_3 y_3 z_4 y_4 z_5 y_5 z_6 y_6 z_7 y_7
 generalize ((((((((wu0.setCell ⟨gu, 0, none⟩ (.slice au.A0 b'.frame.chart.length au.c0)).setCell ⟨gu, 1, none⟩ (.int .i64 b'.frame.dims)).setCell ⟨gu, 2, none⟩ (.int .i64 b'.frame.curs)).setCell ⟨gu, 3, none⟩ (.slice au.A3 b'.ledg.entries.length au.c3)).setCell ⟨gu, 4, none⟩ (.int .i64 b'.ledg.head)).setCell ⟨gu, 5, none⟩ (.slice au.A5 b'.periods.length au.c5)).setCell ⟨gu, 6, none⟩ (.int .i64 b'.closed)).setCell ⟨gu, 7, none⟩ (.int .i64 b'.kept)) = w8 at *
 have HB8 := Aside0.mk (below_step HB2.out HW2.out)
 have BX8 := Aside0.mk (blk_below BX2.out HW2.out)
 have EX8 := Aside0.mk (blk_below EX2.out HW2.out)
 have hx8 : w.heap.size + 1 < w8.heap.size := blk_lt EX8.out
 have hgu8 : gu < w8.heap.size := blk_lt G8.out
 have qx0 : w8.cell? ⟨w.heap.size, 0, none⟩ = some (.slice A0 b.frame.chart.length c0) := (blk_cell BX8.out 0).trans rfl
 have qx1 : w8.cell? ⟨w.heap.size, 1, none⟩ = some (.int .i64 b.frame.dims) := (blk_cell BX8.out 1).trans rfl
 have qx2 : w8.cell? ⟨w.heap.size, 2, none⟩ = some (.int .i64 b.frame.curs) := (blk_cell BX8.out 2).trans rfl
 have qx3 : w8.cell? ⟨w.heap.size, 3, none⟩ = some (.slice A3 b.ledg.entries.length c3) := (blk_cell BX8.out 3).trans rfl
 have qx4 : w8.cell? ⟨w.heap.size, 4, none⟩ = some (.int .i64 b.ledg.head) := (blk_cell BX8.out 4).trans rfl
 have qx5 : w8.cell? ⟨w.heap.size, 5, none⟩ = some (.slice A5 b.periods.length c5) := (blk_cell BX8.out 5).trans rfl
 have qx6 : w8.cell? ⟨w.heap.size, 6, none⟩ = some (.int .i64 b.closed) := (blk_cell BX8.out 6).trans rfl
 have qx7 : w8.cell? ⟨w.heap.size, 7, none⟩ = some (.int .i64 b.kept) := (blk_cell BX8.out 7).trans rfl
 have qe0 : w8.cell? ⟨w.heap.size + 1, 0, none⟩ = some (.int .i64 y.f0) := (blk_cell EX8.out 0).trans rfl
 have qe1 : w8.cell? ⟨w.heap.size + 1, 1, none⟩ = some (.int .i64 y.f1) := (blk_cell EX8.out 1).trans rfl
 have qe2 : w8.cell? ⟨w.heap.size + 1, 2, none⟩ = some (.string y.f2) := (blk_cell EX8.out 2).trans rfl
 have qe3 : w8.cell? ⟨w.heap.size + 1, 3, none⟩ = some (.slice AL y.f3.length cL) := (blk_cell EX8.out 3).trans rfl
 go_wp2_with (first
  | (go_at_call 21; (with_reducible refine (toBooks_calls ⟨A0, c0, A3, c3, A5, c5⟩ b HSm.out _ (HRd.out.below HB8.out)).mono ?_); rintro e_ w9 ⟨a2, rfl, ho9, hb9⟩; have HW9 := Aside0.mk (show Below w8.heap.size w8 w9 from hb9); have OA9 := Aside0.mk (show OwnP w9 w8.heap.size (fun k => w8.heap.size ≤ k ∧ k < w9.heap.size) a2 b from ho9.range); have EX9 := Aside0.mk (blk_below EX8.out hb9); clear ho9 hb9; have qf0 : w9.cell? ⟨w.heap.size + 1, 0, none⟩ = some (.int .i64 y.f0) := (blk_cell EX9.out 0).trans rfl; have qf1 : w9.cell? ⟨w.heap.size + 1, 1, none⟩ = some (.int .i64 y.f1) := (blk_cell EX9.out 1).trans rfl; have qf2 : w9.cell? ⟨w.heap.size + 1, 2, none⟩ = some (.string y.f2) := (blk_cell EX9.out 2).trans rfl; have qf3 : w9.cell? ⟨w.heap.size + 1, 3, none⟩ = some (.slice AL y.f3.length cL) := (blk_cell EX9.out 3).trans rfl; have hx9 : w.heap.size + 1 < w9.heap.size := blk_lt EX9.out; have hs9 : w8.heap.size ≤ w9.heap.size := HW9.out.size)
  | (go_at_call 22; (with_reducible refine (toEntry_calls y AL cL hyl _ (Kd.C_below HL.out (below_step HB8.out (below_alloc HW9.out _)))).mono ?_); rintro e_ w10 ⟨v10, rfl, ho10, hb10⟩; obtain ⟨V3, c3_, rfl⟩ := Kd.R_slice ho10; have HW10 := Aside0.mk (show Below w8.heap.size w8 w10 from below_step (below_alloc HW9.out _) hb10); have OA10 := Aside0.mk (show OwnP w10 w8.heap.size (fun k => w8.heap.size ≤ k ∧ k < w9.heap.size) a2 b from (OA9.out.below (below_alloc (Below.refl _ _) _)).below hb10); have OE10 := Aside0.mk (show k88.R 88 w10 w8.heap.size (fun k => w9.heap.size < k ∧ k < w10.heap.size) (.slice V3 y.f3.length c3_) y.f3 from Kd.R_lower (Kd.R_mono (Kd.R_bound ho10) (fun k hk => ⟨by have := hk.2.1; simp at this; omega, hk.2.2.1⟩)) (by simp; omega)); have X810 := Aside0.mk (show w10.heap[w9.heap.size]? = some (.cells #[.slice a2.A0 b.frame.chart.length a2.c0, .int .i64 b.frame.dims, .int .i64 b.frame.curs, .slice a2.A3 b.ledg.entries.length a2.c3, .int .i64 b.ledg.head, .slice a2.A5 b.periods.length a2.c5, .int .i64 b.closed, .int .i64 b.kept] 32 (0, 0)) from blk_below (blk_new w9 _) hb10); have hs10 : w9.heap.size < w10.heap.size := (by have := hb10.size; simp at this; omega); clear ho10 hb10; have r0 : w10.cell? ⟨w9.heap.size, 0, none⟩ = some (.slice a2.A0 b.frame.chart.length a2.c0) := (blk_cell X810.out 0).trans rfl; have r1 : w10.cell? ⟨w9.heap.size, 1, none⟩ = some (.int .i64 b.frame.dims) := (blk_cell X810.out 1).trans rfl; have r2 : w10.cell? ⟨w9.heap.size, 2, none⟩ = some (.int .i64 b.frame.curs) := (blk_cell X810.out 2).trans rfl; have r3 : w10.cell? ⟨w9.heap.size, 3, none⟩ = some (.slice a2.A3 b.ledg.entries.length a2.c3) := (blk_cell X810.out 3).trans rfl; have r4 : w10.cell? ⟨w9.heap.size, 4, none⟩ = some (.int .i64 b.ledg.head) := (blk_cell X810.out 4).trans rfl; have r5 : w10.cell? ⟨w9.heap.size, 5, none⟩ = some (.slice a2.A5 b.periods.length a2.c5) := (blk_cell X810.out 5).trans rfl; have r6 : w10.cell? ⟨w9.heap.size, 6, none⟩ = some (.int .i64 b.closed) := (blk_cell X810.out 6).trans rfl; have r7 : w10.cell? ⟨w9.heap.size, 7, none⟩ = some (.int .i64 b.kept) := (blk_cell X810.out 7).trans rfl)
  | (go_at_call 12; (with_reducible refine (iRecord_calls er a2 b y V3 c3_ HSz.out hty b' k HRec.out _ (HEr.out.below (below_alloc (below_step HB8.out HW10.out) _)) (OA10.out.rd.below (below_alloc (Below.refl _ _) _)) (Kd.C_below (Kd.R_reads' OE10.out).2.2 (below_alloc (Below.refl _ _) _))).mono ?_); rintro e_ w11 ⟨a4, rfl, ho11, hb11⟩; have HW11 := Aside0.mk (show Below w8.heap.size w8 w11 from below_step (below_alloc HW10.out _) hb11); have OA11 := Aside0.mk (show OwnP w11 w8.heap.size (fun k => w8.heap.size ≤ k ∧ k < w9.heap.size) a2 b from (OA10.out.below (below_alloc (Below.refl _ _) _)).below hb11); have OE11 := Aside0.mk (show k88.R 88 w11 w8.heap.size (fun k => w9.heap.size < k ∧ k < w10.heap.size) (.slice V3 y.f3.length c3_) y.f3 from Kd.R_below (Kd.R_below OE10.out (below_alloc (Below.refl _ _) _)) hb11); have OG11 := Aside0.mk (show OwnP w11 w8.heap.size (fun k => w10.heap.size < k ∧ k < w11.heap.size) a4 b' from OwnP.lowr (ho11.range) (by simp; omega) (fun k hk => ⟨by have := hk.1; simp at this; omega, hk.2⟩)); have X811 := Aside0.mk (show w11.heap[w9.heap.size]? = some (.cells #[.slice a2.A0 b.frame.chart.length a2.c0, .int .i64 b.frame.dims, .int .i64 b.frame.curs, .slice a2.A3 b.ledg.entries.length a2.c3, .int .i64 b.ledg.head, .slice a2.A5 b.periods.length a2.c5, .int .i64 b.closed, .int .i64 b.kept] 32 (0, 0)) from blk_below (blk_alloc X810.out _) hb11); have X911 := Aside0.mk (show w11.heap[w10.heap.size]? = some (.cells #[.int .i64 y.f0, .int .i64 y.f1, .string y.f2, .slice V3 y.f3.length c3_] 41 (0, 0)) from blk_below (blk_new w10 _) hb11); have G11 := Aside0.mk (blk_below G8.out HW11.out); have hs11 : w10.heap.size < w11.heap.size := (by have := hb11.size; simp at this; omega); have hgu11 : gu < w11.heap.size := (by omega); clear ho11 hb11; have s0 : w11.cell? ⟨gu, 0, none⟩ = some (.slice au.A0 b'.frame.chart.length au.c0) := (blk_cell G11.out 0).trans rfl; have s1 : w11.cell? ⟨gu, 1, none⟩ = some (.int .i64 b'.frame.dims) := (blk_cell G11.out 1).trans rfl; have s2 : w11.cell? ⟨gu, 2, none⟩ = some (.int .i64 b'.frame.curs) := (blk_cell G11.out 2).trans rfl; have s3 : w11.cell? ⟨gu, 3, none⟩ = some (.slice au.A3 b'.ledg.entries.length au.c3) := (blk_cell G11.out 3).trans rfl; have s4 : w11.cell? ⟨gu, 4, none⟩ = some (.int .i64 b'.ledg.head) := (blk_cell G11.out 4).trans rfl; have s5 : w11.cell? ⟨gu, 5, none⟩ = some (.slice au.A5 b'.periods.length au.c5) := (blk_cell G11.out 5).trans rfl; have s6 : w11.cell? ⟨gu, 6, none⟩ = some (.int .i64 b'.closed) := (blk_cell G11.out 6).trans rfl; have s7 : w11.cell? ⟨gu, 7, none⟩ = some (.int .i64 b'.kept) := (blk_cell G11.out 7).trans rfl)
  | (go_at_call 23; (with_reducible refine (eqBooks_calls b' b' a4.A0 a4.c0 au.A0 au.c0 a4.A3 a4.c3 au.A3 au.c3 a4.A5 a4.c5 au.A5 au.c5 true (bP_t rfl) _ (OG11.out.rd.below (below_alloc (Below.refl _ _) _)).r0 (RD8.out.below (below_alloc HW11.out _)).r0 (OG11.out.rd.below (below_alloc (Below.refl _ _) _)).r3 (RD8.out.below (below_alloc HW11.out _)).r3 (OG11.out.rd.below (below_alloc (Below.refl _ _) _)).r5 (RD8.out.below (below_alloc HW11.out _)).r5).mono ?_); rintro e_ w12 ⟨rfl, hb12⟩; have HW12 := Aside0.mk (show Below w8.heap.size w8 w12 from below_step (below_alloc HW11.out _) hb12); have OA12 := Aside0.mk (show OwnP w12 w8.heap.size (fun k => w8.heap.size ≤ k ∧ k < w9.heap.size) a2 b from (OA11.out.below (below_alloc (Below.refl _ _) _)).below hb12); have OE12 := Aside0.mk (show k88.R 88 w12 w8.heap.size (fun k => w9.heap.size < k ∧ k < w10.heap.size) (.slice V3 y.f3.length c3_) y.f3 from Kd.R_below (Kd.R_below OE11.out (below_alloc (Below.refl _ _) _)) hb12); have OG12 := Aside0.mk (show OwnP w12 w8.heap.size (fun k => w10.heap.size < k ∧ k < w11.heap.size) a4 b' from (OG11.out.below (below_alloc (Below.refl _ _) _)).below hb12); have X812 := Aside0.mk (show w12.heap[w9.heap.size]? = some (.cells #[.slice a2.A0 b.frame.chart.length a2.c0, .int .i64 b.frame.dims, .int .i64 b.frame.curs, .slice a2.A3 b.ledg.entries.length a2.c3, .int .i64 b.ledg.head, .slice a2.A5 b.periods.length a2.c5, .int .i64 b.closed, .int .i64 b.kept] 32 (0, 0)) from blk_below (blk_alloc X811.out _) hb12); have X912 := Aside0.mk (show w12.heap[w10.heap.size]? = some (.cells #[.int .i64 y.f0, .int .i64 y.f1, .string y.f2, .slice V3 y.f3.length c3_] 41 (0, 0)) from blk_below (blk_alloc X911.out _) hb12); have X1012 := Aside0.mk (show w12.heap[w11.heap.size]? = some (.cells #[.slice a4.A0 b'.frame.chart.length a4.c0, .int .i64 b'.frame.dims, .int .i64 b'.frame.curs, .slice a4.A3 b'.ledg.entries.length a4.c3, .int .i64 b'.ledg.head, .slice a4.A5 b'.periods.length a4.c5, .int .i64 b'.closed, .int .i64 b'.kept] 32 (0, 0)) from blk_below (blk_new w11 _) hb12); have hs12 : w11.heap.size < w12.heap.size := blk_lt X1012.out; clear hb12))
 clear OA9 OA10 OA11 OE10 OE11 OG11 X810 X811 X911 G11 HW9 HW10 HW11 EX9 qx0 qx1 qx2 qx3 qx4 qx5 qx6 qx7 r0 r1 r2 r3 r4 r5 r6 r7 s0 s1 s2 s3 s4 s5 s6 s7 qe0 qf0 qe1 qf1 qe2 qf2 qe3 qf3
 refine start_ (n := 5) (S := fun w' => Below w12.heap.size w12 w') (ds := []) #[false, false, false, false, false] (by kernel_rfl) rfl rfl (by exact below_drew (Below.refl _ _)) (fun hHeld => ?_)
 generalize w12.drew = wd at hHeld ⊢
 refine take_ (i := 0) (N := (some 54)) (v := ?_) (a' := ?_) #[true, false, false, false, false] rfl rfl (by kernel_rfl) (fun _ _ _ h => h) (Or.inl ⟨by rfl, ?_⟩) hHeld ?_ ?_
 rotate_left
 ·rintro w' s_
  have bx_ := blk_below X812.out s_
  have ex_ := blk_below (blk_below BX8.out HW12.out) s_
  have q_0 : w'.cell? ⟨w9.heap.size, 0, none⟩ = some (.slice a2.A0 b.frame.chart.length a2.c0) := (blk_cell bx_ 0).trans rfl
  have q_1 : w'.cell? ⟨w9.heap.size, 1, none⟩ = some (.int .i64 b.frame.dims) := (blk_cell bx_ 1).trans rfl
  have q_2 : w'.cell? ⟨w9.heap.size, 2, none⟩ = some (.int .i64 b.frame.curs) := (blk_cell bx_ 2).trans rfl
  have q_3 : w'.cell? ⟨w9.heap.size, 3, none⟩ = some (.slice a2.A3 b.ledg.entries.length a2.c3) := (blk_cell bx_ 3).trans rfl
  have q_4 : w'.cell? ⟨w9.heap.size, 4, none⟩ = some (.int .i64 b.ledg.head) := (blk_cell bx_ 4).trans rfl
  have q_5 : w'.cell? ⟨w9.heap.size, 5, none⟩ = some (.slice a2.A5 b.periods.length a2.c5) := (blk_cell bx_ 5).trans rfl
  have q_6 : w'.cell? ⟨w9.heap.size, 6, none⟩ = some (.int .i64 b.closed) := (blk_cell bx_ 6).trans rfl
  have q_7 : w'.cell? ⟨w9.heap.size, 7, none⟩ = some (.int .i64 b.kept) := (blk_cell bx_ 7).trans rfl
  have p_0 : w'.cell? ⟨w.heap.size, 0, none⟩ = some (.slice A0 b.frame.chart.length c0) := (blk_cell ex_ 0).trans rfl
  have p_1 : w'.cell? ⟨w.heap.size, 1, none⟩ = some (.int .i64 b.frame.dims) := (blk_cell ex_ 1).trans rfl
  have p_2 : w'.cell? ⟨w.heap.size, 2, none⟩ = some (.int .i64 b.frame.curs) := (blk_cell ex_ 2).trans rfl
  have p_3 : w'.cell? ⟨w.heap.size, 3, none⟩ = some (.slice A3 b.ledg.entries.length c3) := (blk_cell ex_ 3).trans rfl
  have p_4 : w'.cell? ⟨w.heap.size, 4, none⟩ = some (.int .i64 b.ledg.head) := (blk_cell ex_ 4).trans rfl
  have p_5 : w'.cell? ⟨w.heap.size, 5, none⟩ = some (.slice A5 b.periods.length c5) := (blk_cell ex_ 5).trans rfl
  have p_6 : w'.cell? ⟨w.heap.size, 6, none⟩ = some (.int .i64 b.closed) := (blk_cell ex_ 6).trans rfl
  have p_7 : w'.cell? ⟨w.heap.size, 7, none⟩ = some (.int .i64 b.kept) := (blk_cell ex_ 7).trans rfl
  go_simp
  try with_reducible rfl
 rotate_left
 ·simp only [Act.put, List.setIfInBounds_toArray, List.set_cons_zero, List.set_cons_succ]
  rfl
 refine take_ (i := 1) (N := (some 55)) (v := ?_) (a' := ?_) #[true, true, false, false, false] rfl rfl (by kernel_rfl) (fun _ _ _ h => h) (Or.inl ⟨by rfl, ?_⟩) hHeld ?_ ?_
 rotate_left
 ·rintro w' s_
  have bx_ := blk_below X812.out s_
  have ex_ := blk_below (blk_below BX8.out HW12.out) s_
  have q_0 : w'.cell? ⟨w9.heap.size, 0, none⟩ = some (.slice a2.A0 b.frame.chart.length a2.c0) := (blk_cell bx_ 0).trans rfl
  have q_1 : w'.cell? ⟨w9.heap.size, 1, none⟩ = some (.int .i64 b.frame.dims) := (blk_cell bx_ 1).trans rfl
  have q_2 : w'.cell? ⟨w9.heap.size, 2, none⟩ = some (.int .i64 b.frame.curs) := (blk_cell bx_ 2).trans rfl
  have q_3 : w'.cell? ⟨w9.heap.size, 3, none⟩ = some (.slice a2.A3 b.ledg.entries.length a2.c3) := (blk_cell bx_ 3).trans rfl
  have q_4 : w'.cell? ⟨w9.heap.size, 4, none⟩ = some (.int .i64 b.ledg.head) := (blk_cell bx_ 4).trans rfl
  have q_5 : w'.cell? ⟨w9.heap.size, 5, none⟩ = some (.slice a2.A5 b.periods.length a2.c5) := (blk_cell bx_ 5).trans rfl
  have q_6 : w'.cell? ⟨w9.heap.size, 6, none⟩ = some (.int .i64 b.closed) := (blk_cell bx_ 6).trans rfl
  have q_7 : w'.cell? ⟨w9.heap.size, 7, none⟩ = some (.int .i64 b.kept) := (blk_cell bx_ 7).trans rfl
  have p_0 : w'.cell? ⟨w.heap.size, 0, none⟩ = some (.slice A0 b.frame.chart.length c0) := (blk_cell ex_ 0).trans rfl
  have p_1 : w'.cell? ⟨w.heap.size, 1, none⟩ = some (.int .i64 b.frame.dims) := (blk_cell ex_ 1).trans rfl
  have p_2 : w'.cell? ⟨w.heap.size, 2, none⟩ = some (.int .i64 b.frame.curs) := (blk_cell ex_ 2).trans rfl
  have p_3 : w'.cell? ⟨w.heap.size, 3, none⟩ = some (.slice A3 b.ledg.entries.length c3) := (blk_cell ex_ 3).trans rfl
  have p_4 : w'.cell? ⟨w.heap.size, 4, none⟩ = some (.int .i64 b.ledg.head) := (blk_cell ex_ 4).trans rfl
  have p_5 : w'.cell? ⟨w.heap.size, 5, none⟩ = some (.slice A5 b.periods.length c5) := (blk_cell ex_ 5).trans rfl
  have p_6 : w'.cell? ⟨w.heap.size, 6, none⟩ = some (.int .i64 b.closed) := (blk_cell ex_ 6).trans rfl
  have p_7 : w'.cell? ⟨w.heap.size, 7, none⟩ = some (.int .i64 b.kept) := (blk_cell ex_ 7).trans rfl
  go_simp
  try with_reducible rfl
 rotate_left
 ·simp only [Act.put, List.setIfInBounds_toArray, List.set_cons_zero, List.set_cons_succ]
  rfl
 refine one_ (i := 2) (N := (some 56)) #[true, true, true, false, false] rfl rfl (by kernel_rfl) (by decide) (fun K hK => ?_)
 refine goes_ Tryz.func21 (by kernel_rfl) rfl #[.agg #[.slice A0 b.frame.chart.length c0, .int .i64 b.frame.dims, .int .i64 b.frame.curs, .slice A3 b.ledg.entries.length c3, .int .i64 b.ledg.head, .slice A5 b.periods.length c5, .int .i64 b.closed, .int .i64 b.kept]] (by rfl) rfl rfl (by (try simp only [List.map_toArray, List.map_cons, List.map_nil]); first | done | rfl) ?_
 with_reducible refine (toBooks_calls ⟨A0, c0, A3, c3, A5, c5⟩ b HSm.out _ (HRd.out.below (below_step (below_step HB8.out HW12.out) hHeld))).mono ?_
 rintro e_ wa ⟨a5, rfl, ho5_, hb5_⟩
 refine ⟨_, rfl, ?_⟩
 refine hK.out _ _ (by exact below_step hHeld hb5_) (fun hHeld => ?_)
 clear hK K
 refine norm_ (a' := ?_) ?_ ?_
 rotate_left
 ·show Act.put _ (some 56) _ = _
  simp only [Act.put, List.setIfInBounds_toArray, List.set_cons_zero, List.set_cons_succ]
  rfl
 refine one_ (i := 3) (N := (some 57)) #[true, true, true, true, false] rfl rfl (by kernel_rfl) (by decide) (fun K hK => ?_)
 refine goes_ Tryz.func23 (by kernel_rfl) rfl #[.agg #[.slice a2.A0 b.frame.chart.length a2.c0, .int .i64 b.frame.dims, .int .i64 b.frame.curs, .slice a2.A3 b.ledg.entries.length a2.c3, .int .i64 b.ledg.head, .slice a2.A5 b.periods.length a2.c5, .int .i64 b.closed, .int .i64 b.kept], .agg #[.slice a5.A0 b.frame.chart.length a5.c0, .int .i64 b.frame.dims, .int .i64 b.frame.curs, .slice a5.A3 b.ledg.entries.length a5.c3, .int .i64 b.ledg.head, .slice a5.A5 b.periods.length a5.c5, .int .i64 b.closed, .int .i64 b.kept]] (by rfl) rfl rfl (by (try simp only [List.map_toArray, List.map_cons, List.map_nil]); first | done | rfl) ?_
 with_reducible refine (eqBooks_calls b b a2.A0 a2.c0 a5.A0 a5.c0 a2.A3 a2.c3 a5.A3 a5.c3 a2.A5 a2.c5 a5.A5 a5.c5 true (bP_t rfl) _ ((OA12.out.rd.below hHeld)).r0 (ho5_.rd).r0 ((OA12.out.rd.below hHeld)).r3 (ho5_.rd).r3 ((OA12.out.rd.below hHeld)).r5 (ho5_.rd).r5).mono ?_
 rintro e_ w14 ⟨rfl, hb14⟩
 refine ⟨_, rfl, ?_⟩
 refine hK.out _ _ (by exact below_step hHeld hb14) (fun hHeld => ?_)
 clear hK K
 refine norm_ (a' := ?_) ?_ ?_
 rotate_left
 ·show Act.put _ (some 57) _ = _
  simp only [Act.put, List.setIfInBounds_toArray, List.set_cons_zero, List.set_cons_succ]
  rfl
 refine pure_ (i := 4) (N := (some 58)) (v := ?_) (a' := ?_) #[true, true, true, true, true] rfl rfl (by kernel_rfl) (fun _ _ _ h => h) (Or.inl ⟨by rfl, ?_⟩) ?_ ?_
 rotate_left
 ·intro w'
  go_simp
  try with_reducible rfl
 rotate_left
 ·simp only [Act.put, List.setIfInBounds_toArray, List.set_cons_zero, List.set_cons_succ]
  rfl
 refine done_ (by kernel_rfl) ?_
 have HW14 := Aside0.mk (show Below w8.heap.size w8 w14 from below_step HW12.out hHeld)
 have OA14 := Aside0.mk (show OwnP w14 w8.heap.size (fun k => w8.heap.size ≤ k ∧ k < w9.heap.size) a2 b from OA12.out.below hHeld)
 have OE14 := Aside0.mk (show k88.R 88 w14 w8.heap.size (fun k => w9.heap.size < k ∧ k < w10.heap.size) (.slice V3 y.f3.length c3_) y.f3 from Kd.R_below OE12.out hHeld)
 have OG14 := Aside0.mk (show OwnP w14 w8.heap.size (fun k => w10.heap.size < k ∧ k < w11.heap.size) a4 b' from OG12.out.below hHeld)
 have X814 := Aside0.mk (show w14.heap[w9.heap.size]? = some (.cells #[.slice a2.A0 b.frame.chart.length a2.c0, .int .i64 b.frame.dims, .int .i64 b.frame.curs, .slice a2.A3 b.ledg.entries.length a2.c3, .int .i64 b.ledg.head, .slice a2.A5 b.periods.length a2.c5, .int .i64 b.closed, .int .i64 b.kept] 32 (0, 0)) from blk_below X812.out hHeld)
 have X914 := Aside0.mk (show w14.heap[w10.heap.size]? = some (.cells #[.int .i64 y.f0, .int .i64 y.f1, .string y.f2, .slice V3 y.f3.length c3_] 41 (0, 0)) from blk_below X912.out hHeld)
 have X1014 := Aside0.mk (show w14.heap[w11.heap.size]? = some (.cells #[.slice a4.A0 b'.frame.chart.length a4.c0, .int .i64 b'.frame.dims, .int .i64 b'.frame.curs, .slice a4.A3 b'.ledg.entries.length a4.c3, .int .i64 b'.ledg.head, .slice a4.A5 b'.periods.length a4.c5, .int .i64 b'.closed, .int .i64 b'.kept] 32 (0, 0)) from blk_below X1012.out hHeld)
 clear hHeld OA12 OE12 OG12 X812 X912 X1012 HW12
 go_wp2
 refine start_ (n := 5) (S := fun w' => Below w14.heap.size w14 w') (ds := []) #[false, false, false, false, false] (by kernel_rfl) rfl rfl (by exact below_drew (Below.refl _ _)) (fun hHeld => ?_)
 generalize w14.drew = wd at hHeld ⊢
 refine take_ (i := 0) (N := (some 59)) (v := ?_) (a' := ?_) #[true, false, false, false, false] rfl rfl (by kernel_rfl) (fun _ _ _ h => h) (Or.inl ⟨by rfl, ?_⟩) hHeld ?_ ?_
 rotate_left
 ·rintro w' s_
  have bx_ := blk_below X914.out s_
  have ex_ := blk_below (blk_below EX8.out HW14.out) s_
  have q_0 : w'.cell? ⟨w10.heap.size, 0, none⟩ = some (.int .i64 y.f0) := (blk_cell bx_ 0).trans rfl
  have q_1 : w'.cell? ⟨w10.heap.size, 1, none⟩ = some (.int .i64 y.f1) := (blk_cell bx_ 1).trans rfl
  have q_2 : w'.cell? ⟨w10.heap.size, 2, none⟩ = some (.string y.f2) := (blk_cell bx_ 2).trans rfl
  have q_3 : w'.cell? ⟨w10.heap.size, 3, none⟩ = some (.slice V3 y.f3.length c3_) := (blk_cell bx_ 3).trans rfl
  have p_0 : w'.cell? ⟨w.heap.size + 1, 0, none⟩ = some (.int .i64 y.f0) := (blk_cell ex_ 0).trans rfl
  have p_1 : w'.cell? ⟨w.heap.size + 1, 1, none⟩ = some (.int .i64 y.f1) := (blk_cell ex_ 1).trans rfl
  have p_2 : w'.cell? ⟨w.heap.size + 1, 2, none⟩ = some (.string y.f2) := (blk_cell ex_ 2).trans rfl
  have p_3 : w'.cell? ⟨w.heap.size + 1, 3, none⟩ = some (.slice AL y.f3.length cL) := (blk_cell ex_ 3).trans rfl
  go_simp
  try with_reducible rfl
 rotate_left
 ·simp only [Act.put, List.setIfInBounds_toArray, List.set_cons_zero, List.set_cons_succ]
  rfl
 refine take_ (i := 1) (N := (some 60)) (v := ?_) (a' := ?_) #[true, true, false, false, false] rfl rfl (by kernel_rfl) (fun _ _ _ h => h) (Or.inl ⟨by rfl, ?_⟩) hHeld ?_ ?_
 rotate_left
 ·rintro w' s_
  have bx_ := blk_below X914.out s_
  have ex_ := blk_below (blk_below EX8.out HW14.out) s_
  have q_0 : w'.cell? ⟨w10.heap.size, 0, none⟩ = some (.int .i64 y.f0) := (blk_cell bx_ 0).trans rfl
  have q_1 : w'.cell? ⟨w10.heap.size, 1, none⟩ = some (.int .i64 y.f1) := (blk_cell bx_ 1).trans rfl
  have q_2 : w'.cell? ⟨w10.heap.size, 2, none⟩ = some (.string y.f2) := (blk_cell bx_ 2).trans rfl
  have q_3 : w'.cell? ⟨w10.heap.size, 3, none⟩ = some (.slice V3 y.f3.length c3_) := (blk_cell bx_ 3).trans rfl
  have p_0 : w'.cell? ⟨w.heap.size + 1, 0, none⟩ = some (.int .i64 y.f0) := (blk_cell ex_ 0).trans rfl
  have p_1 : w'.cell? ⟨w.heap.size + 1, 1, none⟩ = some (.int .i64 y.f1) := (blk_cell ex_ 1).trans rfl
  have p_2 : w'.cell? ⟨w.heap.size + 1, 2, none⟩ = some (.string y.f2) := (blk_cell ex_ 2).trans rfl
  have p_3 : w'.cell? ⟨w.heap.size + 1, 3, none⟩ = some (.slice AL y.f3.length cL) := (blk_cell ex_ 3).trans rfl
  go_simp
  try with_reducible rfl
 rotate_left
 ·simp only [Act.put, List.setIfInBounds_toArray, List.set_cons_zero, List.set_cons_succ]
  rfl
 refine one_ (i := 2) (N := (some 61)) #[true, true, true, false, false] rfl rfl (by kernel_rfl) (by decide) (fun K hK => ?_)
 refine goes_ Tryz.func22 (by kernel_rfl) rfl #[.agg #[.int .i64 y.f0, .int .i64 y.f1, .string y.f2, .slice AL y.f3.length cL]] (by rfl) rfl rfl (by (try simp only [List.map_toArray, List.map_cons, List.map_nil]); first | done | rfl) ?_
 with_reducible refine (toEntry_calls y AL cL hyl _ (Kd.C_below HL.out (below_step (below_step HB8.out HW14.out) hHeld))).mono ?_
 rintro e_ wa ⟨v5_, rfl, ho5_, hb5_⟩
 obtain ⟨V5, c5_, rfl⟩ := Kd.R_slice ho5_
 refine ⟨_, rfl, ?_⟩
 refine hK.out _ _ (by exact below_step hHeld hb5_) (fun hHeld => ?_)
 clear hK K
 refine norm_ (a' := ?_) ?_ ?_
 rotate_left
 ·show Act.put _ (some 61) _ = _
  simp only [Act.put, List.setIfInBounds_toArray, List.set_cons_zero, List.set_cons_succ]
  rfl
 refine one_ (i := 3) (N := (some 62)) #[true, true, true, true, false] rfl rfl (by kernel_rfl) (by decide) (fun K hK => ?_)
 refine goes_ Tryz.func24 (by kernel_rfl) rfl #[.agg #[.int .i64 y.f0, .int .i64 y.f1, .string y.f2, .slice V3 y.f3.length c3_], .agg #[.int .i64 y.f0, .int .i64 y.f1, .string y.f2, .slice V5 y.f3.length c5_]] (by rfl) rfl rfl (by (try simp only [List.map_toArray, List.map_cons, List.map_nil]); first | done | rfl) ?_
 with_reducible refine (eqEntry_calls y y V3 c3_ V5 c5_ true (bP_t rfl) _ (Kd.C_below (Kd.R_reads' OE14.out).2.2 hHeld) (Kd.R_reads' ho5_).2.2).mono ?_
 rintro e_ w16 ⟨rfl, hb16⟩
 refine ⟨_, rfl, ?_⟩
 refine hK.out _ _ (by exact below_step hHeld hb16) (fun hHeld => ?_)
 clear hK K
 refine norm_ (a' := ?_) ?_ ?_
 rotate_left
 ·show Act.put _ (some 62) _ = _
  simp only [Act.put, List.setIfInBounds_toArray, List.set_cons_zero, List.set_cons_succ]
  rfl
 refine pure_ (i := 4) (N := (some 63)) (v := ?_) (a' := ?_) #[true, true, true, true, true] rfl rfl (by kernel_rfl) (fun _ _ _ h => h) (Or.inl ⟨by rfl, ?_⟩) ?_ ?_
 rotate_left
 ·intro w'
  go_simp
  try with_reducible rfl
 rotate_left
 ·simp only [Act.put, List.setIfInBounds_toArray, List.set_cons_zero, List.set_cons_succ]
  rfl
 refine done_ (by kernel_rfl) ?_
 have HW16 := Aside0.mk (show Below w8.heap.size w8 w16 from below_step HW14.out hHeld)
 have OA16 := Aside0.mk (show OwnP w16 w8.heap.size (fun k => w8.heap.size ≤ k ∧ k < w9.heap.size) a2 b from OA14.out.below hHeld)
 have OE16 := Aside0.mk (show k88.R 88 w16 w8.heap.size (fun k => w9.heap.size < k ∧ k < w10.heap.size) (.slice V3 y.f3.length c3_) y.f3 from Kd.R_below OE14.out hHeld)
 have OG16 := Aside0.mk (show OwnP w16 w8.heap.size (fun k => w10.heap.size < k ∧ k < w11.heap.size) a4 b' from OG14.out.below hHeld)
 have X816 := Aside0.mk (show w16.heap[w9.heap.size]? = some (.cells #[.slice a2.A0 b.frame.chart.length a2.c0, .int .i64 b.frame.dims, .int .i64 b.frame.curs, .slice a2.A3 b.ledg.entries.length a2.c3, .int .i64 b.ledg.head, .slice a2.A5 b.periods.length a2.c5, .int .i64 b.closed, .int .i64 b.kept] 32 (0, 0)) from blk_below X814.out hHeld)
 have X916 := Aside0.mk (show w16.heap[w10.heap.size]? = some (.cells #[.int .i64 y.f0, .int .i64 y.f1, .string y.f2, .slice V3 y.f3.length c3_] 41 (0, 0)) from blk_below X914.out hHeld)
 have X1016 := Aside0.mk (show w16.heap[w11.heap.size]? = some (.cells #[.slice a4.A0 b'.frame.chart.length a4.c0, .int .i64 b'.frame.dims, .int .i64 b'.frame.curs, .slice a4.A3 b'.ledg.entries.length a4.c3, .int .i64 b'.ledg.head, .slice a4.A5 b'.periods.length a4.c5, .int .i64 b'.closed, .int .i64 b'.kept] 32 (0, 0)) from blk_below X1014.out hHeld)
 clear hHeld OA14 OE14 OG14 X814 X914 X1014 HW14
 have hnb := bLen_nn b
 have hnb2 := HNN.out
 have HH := Aside0.mk (show ∀ w : World, RdB w a4 (mkB 1 b') → Calls Tryz.prog 27 #[valB a4 b', .int .i64 1] w fun e w' => e = .returned (.int .i64 (1 + bLen b')) ∧ Below w.heap.size w w' from fun w hr => by rw [← valB_mk a4 1 b']; exact heldBooks_calls a4 b' 1 (by omega) (by have := HLen2.out; omega) w hr)
 have hs16 : w11.heap.size < w16.heap.size := blk_lt X1016.out
 have hx16 : w9.heap.size < w16.heap.size := blk_lt X816.out
 have r0 : w16.cell? ⟨w9.heap.size, 0, none⟩ = some (.slice a2.A0 b.frame.chart.length a2.c0) := (blk_cell X816.out 0).trans rfl
 have r1 : w16.cell? ⟨w9.heap.size, 1, none⟩ = some (.int .i64 b.frame.dims) := (blk_cell X816.out 1).trans rfl
 have r2 : w16.cell? ⟨w9.heap.size, 2, none⟩ = some (.int .i64 b.frame.curs) := (blk_cell X816.out 2).trans rfl
 have r3 : w16.cell? ⟨w9.heap.size, 3, none⟩ = some (.slice a2.A3 b.ledg.entries.length a2.c3) := (blk_cell X816.out 3).trans rfl
 have r4 : w16.cell? ⟨w9.heap.size, 4, none⟩ = some (.int .i64 b.ledg.head) := (blk_cell X816.out 4).trans rfl
 have r5 : w16.cell? ⟨w9.heap.size, 5, none⟩ = some (.slice a2.A5 b.periods.length a2.c5) := (blk_cell X816.out 5).trans rfl
 have r6 : w16.cell? ⟨w9.heap.size, 6, none⟩ = some (.int .i64 b.closed) := (blk_cell X816.out 6).trans rfl
 have r7 : w16.cell? ⟨w9.heap.size, 7, none⟩ = some (.int .i64 b.kept) := (blk_cell X816.out 7).trans rfl
 go_wp2_with (first
  | (go_at_call 25; (with_reducible refine (markBooks_calls (fun k => w8.heap.size ≤ k ∧ k < w9.heap.size) a2 b 1 (by omega) (by have := HLen.out; omega) w8.heap.size _ HW16.out.size (fun k hk => by have := hk.2; omega) OA16.out).mono ?_); rintro e_ w19 ⟨rfl, hm19, hb19, hl19⟩; have HW19 := Aside0.mk (show Below w8.heap.size w8 w19 from HW16.out.trans hb19); have OE19 := Aside0.mk (show k88.R 88 w19 w8.heap.size (fun k => w9.heap.size < k ∧ k < w10.heap.size) (.slice V3 y.f3.length c3_) y.f3 from R_left OE16.out hl19 (fun k hk h => by have := hk.1; have := h.2; omega)); have OG19 := Aside0.mk (show OwnP w19 w8.heap.size (fun k => w10.heap.size < k ∧ k < w11.heap.size) a4 b' from OG16.out.left hl19 (fun k hk h => by have := hk.1; have := h.2; omega)); have X919 := Aside0.mk (show w19.heap[w10.heap.size]? = some (.cells #[.int .i64 y.f0, .int .i64 y.f1, .string y.f2, .slice V3 y.f3.length c3_] 41 (0, 0)) from (hl19.2 _ (blk_lt X916.out) (fun h => by have := h.1; have := h.2; omega)).trans X916.out); have X1019 := Aside0.mk (show w19.heap[w11.heap.size]? = some (.cells #[.slice a4.A0 b'.frame.chart.length a4.c0, .int .i64 b'.frame.dims, .int .i64 b'.frame.curs, .slice a4.A3 b'.ledg.entries.length a4.c3, .int .i64 b'.ledg.head, .slice a4.A5 b'.periods.length a4.c5, .int .i64 b'.closed, .int .i64 b'.kept] 32 (0, 0)) from (hl19.2 _ (blk_lt X1016.out) (fun h => by have := h.1; have := h.2; omega)).trans X1016.out); clear hm19 hb19 hl19; have hs19 : w11.heap.size < w19.heap.size := blk_lt X1019.out; have t0 : w19.cell? ⟨w10.heap.size, 0, none⟩ = some (.int .i64 y.f0) := (blk_cell X919.out 0).trans rfl; have t1 : w19.cell? ⟨w10.heap.size, 1, none⟩ = some (.int .i64 y.f1) := (blk_cell X919.out 1).trans rfl; have t2 : w19.cell? ⟨w10.heap.size, 2, none⟩ = some (.string y.f2) := (blk_cell X919.out 2).trans rfl; have t3 : w19.cell? ⟨w10.heap.size, 3, none⟩ = some (.slice V3 y.f3.length c3_) := (blk_cell X919.out 3).trans rfl)
  | (go_at_call 26; (with_reducible refine (markEntry_calls (fun k => w9.heap.size < k ∧ k < w10.heap.size) (.slice V3 y.f3.length c3_) y.f3 y.f0 y.f1 y.f2 (1 + bLen b) (by omega) (by have := HLen.out; omega) w8.heap.size _ HW19.out.size OE19.out).mono ?_); rintro e_ w20 ⟨rfl, hm20, hb20, hl20⟩; have HW20 := Aside0.mk (show Below w8.heap.size w8 w20 from HW19.out.trans hb20); have OG20 := Aside0.mk (show OwnP w20 w8.heap.size (fun k => w10.heap.size < k ∧ k < w11.heap.size) a4 b' from OG19.out.left hl20 (fun k hk h => by have := hk.1; have := h.2; omega)); have X1020 := Aside0.mk (show w20.heap[w11.heap.size]? = some (.cells #[.slice a4.A0 b'.frame.chart.length a4.c0, .int .i64 b'.frame.dims, .int .i64 b'.frame.curs, .slice a4.A3 b'.ledg.entries.length a4.c3, .int .i64 b'.ledg.head, .slice a4.A5 b'.periods.length a4.c5, .int .i64 b'.closed, .int .i64 b'.kept] 32 (0, 0)) from (hl20.2 _ (blk_lt X1019.out) (fun h => by have := h.1; have := h.2; omega)).trans X1019.out); have G20 := Aside0.mk (blk_below G8.out HW20.out); clear hm20 hb20 hl20; have hs20 : w11.heap.size < w20.heap.size := blk_lt X1020.out; have m0 : w20.cell? ⟨w11.heap.size, 0, none⟩ = some (.slice a4.A0 b'.frame.chart.length a4.c0) := (blk_cell X1020.out 0).trans rfl; have m1 : w20.cell? ⟨w11.heap.size, 1, none⟩ = some (.int .i64 b'.frame.dims) := (blk_cell X1020.out 1).trans rfl; have m2 : w20.cell? ⟨w11.heap.size, 2, none⟩ = some (.int .i64 b'.frame.curs) := (blk_cell X1020.out 2).trans rfl; have m3 : w20.cell? ⟨w11.heap.size, 3, none⟩ = some (.slice a4.A3 b'.ledg.entries.length a4.c3) := (blk_cell X1020.out 3).trans rfl; have m4 : w20.cell? ⟨w11.heap.size, 4, none⟩ = some (.int .i64 b'.ledg.head) := (blk_cell X1020.out 4).trans rfl; have m5 : w20.cell? ⟨w11.heap.size, 5, none⟩ = some (.slice a4.A5 b'.periods.length a4.c5) := (blk_cell X1020.out 5).trans rfl; have m6 : w20.cell? ⟨w11.heap.size, 6, none⟩ = some (.int .i64 b'.closed) := (blk_cell X1020.out 6).trans rfl; have m7 : w20.cell? ⟨w11.heap.size, 7, none⟩ = some (.int .i64 b'.kept) := (blk_cell X1020.out 7).trans rfl; have s0 : w20.cell? ⟨gu, 0, none⟩ = some (.slice au.A0 b'.frame.chart.length au.c0) := (blk_cell G20.out 0).trans rfl; have s1 : w20.cell? ⟨gu, 1, none⟩ = some (.int .i64 b'.frame.dims) := (blk_cell G20.out 1).trans rfl; have s2 : w20.cell? ⟨gu, 2, none⟩ = some (.int .i64 b'.frame.curs) := (blk_cell G20.out 2).trans rfl; have s3 : w20.cell? ⟨gu, 3, none⟩ = some (.slice au.A3 b'.ledg.entries.length au.c3) := (blk_cell G20.out 3).trans rfl; have s4 : w20.cell? ⟨gu, 4, none⟩ = some (.int .i64 b'.ledg.head) := (blk_cell G20.out 4).trans rfl; have s5 : w20.cell? ⟨gu, 5, none⟩ = some (.slice au.A5 b'.periods.length au.c5) := (blk_cell G20.out 5).trans rfl; have s6 : w20.cell? ⟨gu, 6, none⟩ = some (.int .i64 b'.closed) := (blk_cell G20.out 6).trans rfl; have s7 : w20.cell? ⟨gu, 7, none⟩ = some (.int .i64 b'.kept) := (blk_cell G20.out 7).trans rfl)
  | (go_at_call 23; (with_reducible refine (eqBooks_calls b' b' a4.A0 a4.c0 au.A0 au.c0 a4.A3 a4.c3 au.A3 au.c3 a4.A5 a4.c5 au.A5 au.c5 true (bP_t rfl) _ (OG20.out.rd).r0 (RD8.out.below HW20.out).r0 (OG20.out.rd).r3 (RD8.out.below HW20.out).r3 (OG20.out.rd).r5 (RD8.out.below HW20.out).r5).mono ?_); rintro e_ w21 ⟨rfl, hb21⟩; have HW21 := Aside0.mk (show Below w8.heap.size w8 w21 from below_step HW20.out hb21); have OG21 := Aside0.mk (show OwnP w21 w8.heap.size (fun k => w10.heap.size < k ∧ k < w11.heap.size) a4 b' from OG20.out.below hb21); have X1021 := Aside0.mk (show w21.heap[w11.heap.size]? = some (.cells #[.slice a4.A0 b'.frame.chart.length a4.c0, .int .i64 b'.frame.dims, .int .i64 b'.frame.curs, .slice a4.A3 b'.ledg.entries.length a4.c3, .int .i64 b'.ledg.head, .slice a4.A5 b'.periods.length a4.c5, .int .i64 b'.closed, .int .i64 b'.kept] 32 (0, 0)) from blk_below X1020.out hb21); clear hb21; have hs21 : w11.heap.size < w21.heap.size := blk_lt X1021.out; have n0 : w21.cell? ⟨w11.heap.size, 0, none⟩ = some (.slice a4.A0 b'.frame.chart.length a4.c0) := (blk_cell X1021.out 0).trans rfl; have n1 : w21.cell? ⟨w11.heap.size, 1, none⟩ = some (.int .i64 b'.frame.dims) := (blk_cell X1021.out 1).trans rfl; have n2 : w21.cell? ⟨w11.heap.size, 2, none⟩ = some (.int .i64 b'.frame.curs) := (blk_cell X1021.out 2).trans rfl; have n3 : w21.cell? ⟨w11.heap.size, 3, none⟩ = some (.slice a4.A3 b'.ledg.entries.length a4.c3) := (blk_cell X1021.out 3).trans rfl; have n4 : w21.cell? ⟨w11.heap.size, 4, none⟩ = some (.int .i64 b'.ledg.head) := (blk_cell X1021.out 4).trans rfl; have n5 : w21.cell? ⟨w11.heap.size, 5, none⟩ = some (.slice a4.A5 b'.periods.length a4.c5) := (blk_cell X1021.out 5).trans rfl; have n6 : w21.cell? ⟨w11.heap.size, 6, none⟩ = some (.int .i64 b'.closed) := (blk_cell X1021.out 6).trans rfl; have n7 : w21.cell? ⟨w11.heap.size, 7, none⟩ = some (.int .i64 b'.kept) := (blk_cell X1021.out 7).trans rfl)
  | (go_at_call 25; (with_reducible refine (markBooks_calls (fun k => w10.heap.size < k ∧ k < w11.heap.size) a4 b' 1 (by omega) (by have := HLen2.out; omega) w8.heap.size _ HW21.out.size (fun k hk => by have := hk.2; omega) OG21.out).mono ?_); rintro e_ w24 ⟨rfl, hm24, hb24, hl24⟩; have HW24 := Aside0.mk (show Below w8.heap.size w8 w24 from HW21.out.trans hb24); have OM24 := Aside0.mk hm24; have X1024 := Aside0.mk (show w24.heap[w11.heap.size]? = some (.cells #[.slice a4.A0 b'.frame.chart.length a4.c0, .int .i64 b'.frame.dims, .int .i64 b'.frame.curs, .slice a4.A3 b'.ledg.entries.length a4.c3, .int .i64 b'.ledg.head, .slice a4.A5 b'.periods.length a4.c5, .int .i64 b'.closed, .int .i64 b'.kept] 32 (0, 0)) from (hl24.2 _ (blk_lt X1021.out) (fun h => by have := h.1; have := h.2; omega)).trans X1021.out); clear hm24 hb24 hl24; have hs24 : w11.heap.size < w24.heap.size := blk_lt X1024.out; have o0 : w24.cell? ⟨w11.heap.size, 0, none⟩ = some (.slice a4.A0 b'.frame.chart.length a4.c0) := (blk_cell X1024.out 0).trans rfl; have o1 : w24.cell? ⟨w11.heap.size, 1, none⟩ = some (.int .i64 b'.frame.dims) := (blk_cell X1024.out 1).trans rfl; have o2 : w24.cell? ⟨w11.heap.size, 2, none⟩ = some (.int .i64 b'.frame.curs) := (blk_cell X1024.out 2).trans rfl; have o3 : w24.cell? ⟨w11.heap.size, 3, none⟩ = some (.slice a4.A3 b'.ledg.entries.length a4.c3) := (blk_cell X1024.out 3).trans rfl; have o4 : w24.cell? ⟨w11.heap.size, 4, none⟩ = some (.int .i64 b'.ledg.head) := (blk_cell X1024.out 4).trans rfl; have o5 : w24.cell? ⟨w11.heap.size, 5, none⟩ = some (.slice a4.A5 b'.periods.length a4.c5) := (blk_cell X1024.out 5).trans rfl; have o6 : w24.cell? ⟨w11.heap.size, 6, none⟩ = some (.int .i64 b'.closed) := (blk_cell X1024.out 6).trans rfl; have o7 : w24.cell? ⟨w11.heap.size, 7, none⟩ = some (.int .i64 b'.kept) := (blk_cell X1024.out 7).trans rfl)
  | (go_at_call 27; (with_reducible refine (HH.out _ OM24.out.rd).mono ?_); rintro e_ w26 ⟨rfl, hb26⟩; have HW26 := Aside0.mk (show Below w8.heap.size w8 w26 from below_step HW24.out hb26); have OM26 := Aside0.mk (show OwnP w26 w8.heap.size (fun k => w10.heap.size < k ∧ k < w11.heap.size) a4 (mkB 1 b') from OM24.out.below hb26); have X1026 := Aside0.mk (show w26.heap[w11.heap.size]? = some (.cells #[.slice a4.A0 b'.frame.chart.length a4.c0, .int .i64 b'.frame.dims, .int .i64 b'.frame.curs, .slice a4.A3 b'.ledg.entries.length a4.c3, .int .i64 b'.ledg.head, .slice a4.A5 b'.periods.length a4.c5, .int .i64 b'.closed, .int .i64 b'.kept] 32 (0, 0)) from blk_below X1024.out hb26); clear hb26))
 clear OE16 OG16 OA16 X816 X916 X1016 HW16 OE19 OG19 X919 X1019 HW19 OG20 X1020 HW20 G20 OG21 X1021 HW21 OM24 X1024 HW24 r0 m0 s0 n0 o0 r1 m1 s1 n1 o1 r2 m2 s2 n2 o2 r3 m3 s3 n3 o3 r4 m4 s4 n4 o4 r5 m5 s5 n5 o5 r6 m6 s6 n6 o6 r7 m7 s7 n7 o7 t0 t1 t2 t3
 refine start_ (n := 11) (S := fun w' => Below w26.heap.size w26 w') (ds := [9]) #[false, false, false, false, false, false, false, false, false, false, false] (by kernel_rfl) rfl rfl (by exact below_drew (Below.refl _ _)) (fun hHeld => ?_)
 generalize w26.drew = wd at hHeld ⊢
 refine take_ (i := 0) (N := (some 95)) (v := ?_) (a' := ?_) #[true, false, false, false, false, false, false, false, false, false, false] rfl rfl (by kernel_rfl) (fun _ _ _ h => h) (Or.inl ⟨by rfl, ?_⟩) hHeld ?_ ?_
 rotate_left
 ·rintro w' s_
  have bx_ := blk_below (blk_below BX8.out HW26.out) s_
  have ex_ := blk_below (blk_below EX8.out HW26.out) s_
  have q_0 : w'.cell? ⟨w.heap.size, 0, none⟩ = some (.slice A0 b.frame.chart.length c0) := (blk_cell bx_ 0).trans rfl
  have q_1 : w'.cell? ⟨w.heap.size, 1, none⟩ = some (.int .i64 b.frame.dims) := (blk_cell bx_ 1).trans rfl
  have q_2 : w'.cell? ⟨w.heap.size, 2, none⟩ = some (.int .i64 b.frame.curs) := (blk_cell bx_ 2).trans rfl
  have q_3 : w'.cell? ⟨w.heap.size, 3, none⟩ = some (.slice A3 b.ledg.entries.length c3) := (blk_cell bx_ 3).trans rfl
  have q_4 : w'.cell? ⟨w.heap.size, 4, none⟩ = some (.int .i64 b.ledg.head) := (blk_cell bx_ 4).trans rfl
  have q_5 : w'.cell? ⟨w.heap.size, 5, none⟩ = some (.slice A5 b.periods.length c5) := (blk_cell bx_ 5).trans rfl
  have q_6 : w'.cell? ⟨w.heap.size, 6, none⟩ = some (.int .i64 b.closed) := (blk_cell bx_ 6).trans rfl
  have q_7 : w'.cell? ⟨w.heap.size, 7, none⟩ = some (.int .i64 b.kept) := (blk_cell bx_ 7).trans rfl
  have p_0 : w'.cell? ⟨w.heap.size + 1, 0, none⟩ = some (.int .i64 y.f0) := (blk_cell ex_ 0).trans rfl
  have p_1 : w'.cell? ⟨w.heap.size + 1, 1, none⟩ = some (.int .i64 y.f1) := (blk_cell ex_ 1).trans rfl
  have p_2 : w'.cell? ⟨w.heap.size + 1, 2, none⟩ = some (.string y.f2) := (blk_cell ex_ 2).trans rfl
  have p_3 : w'.cell? ⟨w.heap.size + 1, 3, none⟩ = some (.slice AL y.f3.length cL) := (blk_cell ex_ 3).trans rfl
  go_simp
  try with_reducible rfl
 rotate_left
 ·simp only [Act.put, List.setIfInBounds_toArray, List.set_cons_zero, List.set_cons_succ]
  rfl
 refine take_ (i := 2) (N := (some 97)) (v := ?_) (a' := ?_) #[true, false, true, false, false, false, false, false, false, false, false] rfl rfl (by kernel_rfl) (fun _ _ _ h => h) (Or.inl ⟨by rfl, ?_⟩) hHeld ?_ ?_
 rotate_left
 ·rintro w' s_
  have bx_ := blk_below (blk_below BX8.out HW26.out) s_
  have ex_ := blk_below (blk_below EX8.out HW26.out) s_
  have q_0 : w'.cell? ⟨w.heap.size, 0, none⟩ = some (.slice A0 b.frame.chart.length c0) := (blk_cell bx_ 0).trans rfl
  have q_1 : w'.cell? ⟨w.heap.size, 1, none⟩ = some (.int .i64 b.frame.dims) := (blk_cell bx_ 1).trans rfl
  have q_2 : w'.cell? ⟨w.heap.size, 2, none⟩ = some (.int .i64 b.frame.curs) := (blk_cell bx_ 2).trans rfl
  have q_3 : w'.cell? ⟨w.heap.size, 3, none⟩ = some (.slice A3 b.ledg.entries.length c3) := (blk_cell bx_ 3).trans rfl
  have q_4 : w'.cell? ⟨w.heap.size, 4, none⟩ = some (.int .i64 b.ledg.head) := (blk_cell bx_ 4).trans rfl
  have q_5 : w'.cell? ⟨w.heap.size, 5, none⟩ = some (.slice A5 b.periods.length c5) := (blk_cell bx_ 5).trans rfl
  have q_6 : w'.cell? ⟨w.heap.size, 6, none⟩ = some (.int .i64 b.closed) := (blk_cell bx_ 6).trans rfl
  have q_7 : w'.cell? ⟨w.heap.size, 7, none⟩ = some (.int .i64 b.kept) := (blk_cell bx_ 7).trans rfl
  have p_0 : w'.cell? ⟨w.heap.size + 1, 0, none⟩ = some (.int .i64 y.f0) := (blk_cell ex_ 0).trans rfl
  have p_1 : w'.cell? ⟨w.heap.size + 1, 1, none⟩ = some (.int .i64 y.f1) := (blk_cell ex_ 1).trans rfl
  have p_2 : w'.cell? ⟨w.heap.size + 1, 2, none⟩ = some (.string y.f2) := (blk_cell ex_ 2).trans rfl
  have p_3 : w'.cell? ⟨w.heap.size + 1, 3, none⟩ = some (.slice AL y.f3.length cL) := (blk_cell ex_ 3).trans rfl
  go_simp
  try with_reducible rfl
 rotate_left
 ·simp only [Act.put, List.setIfInBounds_toArray, List.set_cons_zero, List.set_cons_succ]
  rfl
 refine join_ (σ := ABooks × Option Addr × Nat × ABooks × Nat) 2 #[true, true, true, true, true, true, true, true, true, false, false] (fun s => [(96, .agg #[.slice s.1.A0 b.frame.chart.length s.1.c0, .int .i64 b.frame.dims, .int .i64 b.frame.curs, .slice s.1.A3 b.ledg.entries.length s.1.c3, .int .i64 b.ledg.head, .slice s.1.A5 b.periods.length s.1.c5, .int .i64 b.closed, .int .i64 b.kept]), (98, .agg #[.int .i64 y.f0, .int .i64 y.f1, .string y.f2, .slice s.2.1 y.f3.length s.2.2.1]), (99, .tuple #[.agg #[.slice s.2.2.2.1.A0 b'.frame.chart.length s.2.2.2.1.c0, .int .i64 b'.frame.dims, .int .i64 b'.frame.curs, .slice s.2.2.2.1.A3 b'.ledg.entries.length s.2.2.2.1.c3, .int .i64 b'.ledg.head, .slice s.2.2.2.1.A5 b'.periods.length s.2.2.2.1.c5, .int .i64 b'.closed, .int .i64 b'.kept], .int .i64 k]), (94, .tuple #[.agg #[.slice s.2.2.2.1.A0 b'.frame.chart.length s.2.2.2.1.c0, .int .i64 b'.frame.dims, .int .i64 b'.frame.curs, .slice s.2.2.2.1.A3 b'.ledg.entries.length s.2.2.2.1.c3, .int .i64 b'.ledg.head, .slice s.2.2.2.1.A5 b'.periods.length s.2.2.2.1.c5, .int .i64 b'.closed, .int .i64 b'.kept], .int .i64 k]), (100, .agg #[.slice s.2.2.2.1.A0 b'.frame.chart.length s.2.2.2.1.c0, .int .i64 b'.frame.dims, .int .i64 b'.frame.curs, .slice s.2.2.2.1.A3 b'.ledg.entries.length s.2.2.2.1.c3, .int .i64 b'.ledg.head, .slice s.2.2.2.1.A5 b'.periods.length s.2.2.2.1.c5, .int .i64 b'.closed, .int .i64 b'.kept]), (101, .int .i64 k), (15, .pointer (some ⟨s.2.2.2.2, 0, none⟩))]) (fun s w' => Below w26.heap.size w26 w' ∧ RdX s.2.2.2.2 w' s.2.2.2.1 b' ∧ w'.heap[s.2.2.2.2]? = some (.cells #[.slice none 0 0, .int .i64 0, .int .i64 0, .slice none 0 0, .int .i64 0, .slice none 0 0, .int .i64 0, .int .i64 0] 32 (0, 0)) ∧ w26.heap.size ≤ s.2.2.2.2) ?_ ?_
 rotate_left
 ·intro hcont3
  refine join_ (σ := ABooks × Option Addr × Nat × Nat) 6 #[true, true, true, true, false, false, false, false, true, false, false] (fun s => [(96, .agg #[.slice s.1.A0 b.frame.chart.length s.1.c0, .int .i64 b.frame.dims, .int .i64 b.frame.curs, .slice s.1.A3 b.ledg.entries.length s.1.c3, .int .i64 b.ledg.head, .slice s.1.A5 b.periods.length s.1.c5, .int .i64 b.closed, .int .i64 b.kept]), (98, .agg #[.int .i64 y.f0, .int .i64 y.f1, .string y.f2, .slice s.2.1 y.f3.length s.2.2.1]), (15, .pointer (some ⟨s.2.2.2, 0, none⟩))]) (fun s w' => Below w26.heap.size w26 w' ∧ RdB w' s.1 b ∧ Kd.C k88 w' s.2.1 y.f3.length y.f3 ∧ w'.heap[s.2.2.2]? = some (.cells #[.slice none 0 0, .int .i64 0, .int .i64 0, .slice none 0 0, .int .i64 0, .slice none 0 0, .int .i64 0, .int .i64 0] 32 (0, 0)) ∧ w26.heap.size ≤ s.2.2.2) ?_ ?_
  rotate_left
  ·intro hcont2
   refine join_ (σ := ABooks × Nat) 7 #[true, true, true, false, false, false, false, false, true, false, false] (fun s => [(96, .agg #[.slice s.1.A0 b.frame.chart.length s.1.c0, .int .i64 b.frame.dims, .int .i64 b.frame.curs, .slice s.1.A3 b.ledg.entries.length s.1.c3, .int .i64 b.ledg.head, .slice s.1.A5 b.periods.length s.1.c5, .int .i64 b.closed, .int .i64 b.kept]), (15, .pointer (some ⟨s.2, 0, none⟩))]) (fun s w' => Below w26.heap.size w26 w' ∧ RdB w' s.1 b ∧ w'.heap[s.2]? = some (.cells #[.slice none 0 0, .int .i64 0, .int .i64 0, .slice none 0 0, .int .i64 0, .slice none 0 0, .int .i64 0, .int .i64 0] 32 (0, 0)) ∧ w26.heap.size ≤ s.2) ?_ ?_
   rotate_left
   ·intro hcont1
    refine two_ (i := 1) (j := 8) (Ni := (some 96)) (Nj := (some 15)) #[true, true, true, false, false, false, false, false, false, false, false] #[true, false, true, false, false, false, false, false, true, false, false] rfl rfl rfl rfl (by kernel_rfl) (by decide) (by decide) (fun K hK => ?_) (fun K hK => ?_)
    ·refine goes_ Tryz.func21 (by kernel_rfl) rfl #[.agg #[.slice A0 b.frame.chart.length c0, .int .i64 b.frame.dims, .int .i64 b.frame.curs, .slice A3 b.ledg.entries.length c3, .int .i64 b.ledg.head, .slice A5 b.periods.length c5, .int .i64 b.closed, .int .i64 b.kept]] (by rfl) rfl rfl (by (try simp only [List.map_toArray, List.map_cons, List.map_nil]); first | done | rfl) ?_
     with_reducible refine (toBooks_calls ⟨A0, c0, A3, c3, A5, c5⟩ b HSm.out _ (HRd.out.below (below_step (below_step HB8.out HW26.out) hHeld))).mono ?_
     rintro e_ wa ⟨a1, rfl, ho1_, hb1_⟩
     have hr1_ := ho1_.rd
     clear ho1_
     have hb0_ := hHeld
     refine ⟨_, rfl, ?_⟩
     refine hK.out _ _ (by exact below_step hHeld hb1_) (fun hHeld => ?_)
     clear hK K
     refine norm_ (a' := ?_) ?_ ?_
     rotate_left
     ·show Act.put _ (some 96) _ = _
      simp only [Act.put, List.setIfInBounds_toArray, List.set_cons_zero, List.set_cons_succ]
      rfl
     refine two_ (i := 3) (j := 8) (Ni := (some 98)) (Nj := (some 15)) #[true, true, true, true, false, false, false, false, false, false, false] #[true, true, true, false, false, false, false, false, true, false, false] rfl rfl rfl rfl (by kernel_rfl) (by decide) (by decide) (fun K hK => ?_) (fun K hK => ?_)
     ·refine goes_ Tryz.func22 (by kernel_rfl) rfl #[.agg #[.int .i64 y.f0, .int .i64 y.f1, .string y.f2, .slice AL y.f3.length cL]] (by rfl) rfl rfl (by (try simp only [List.map_toArray, List.map_cons, List.map_nil]); first | done | rfl) ?_
      with_reducible refine (toEntry_calls y AL cL hyl _ (Kd.C_below HL.out (below_step (below_step HB8.out HW26.out) hHeld))).mono ?_
      rintro e_ wb ⟨v_, rfl, ho2_, hb2_⟩
      obtain ⟨V2, c2, rfl⟩ := Kd.R_slice ho2_
      have hr2_ := (Kd.R_reads' ho2_).2.2
      clear ho2_
      refine ⟨_, rfl, ?_⟩
      refine hK.out _ _ (by exact below_step hHeld hb2_) (fun hHeld => ?_)
      clear hK K
      refine norm_ (a' := ?_) ?_ ?_
      rotate_left
      ·show Act.put _ (some 98) _ = _
       simp only [Act.put, List.setIfInBounds_toArray, List.set_cons_zero, List.set_cons_succ]
       rfl
      refine two_ (i := 4) (j := 8) (Ni := (some 99)) (Nj := (some 15)) #[true, true, true, true, true, false, false, false, false, false, false] #[true, true, true, true, false, false, false, false, true, false, false] rfl rfl rfl rfl (by kernel_rfl) (by decide) (by decide) (fun K hK => ?_) (fun K hK => ?_)
      ·refine goes_ Tryz.func12 (by kernel_rfl) rfl #[.agg #[.slice a1.A0 b.frame.chart.length a1.c0, .int .i64 b.frame.dims, .int .i64 b.frame.curs, .slice a1.A3 b.ledg.entries.length a1.c3, .int .i64 b.ledg.head, .slice a1.A5 b.periods.length a1.c5, .int .i64 b.closed, .int .i64 b.kept], .agg #[.int .i64 y.f0, .int .i64 y.f1, .string y.f2, .slice V2 y.f3.length c2]] (by rfl) rfl rfl (by (try simp only [List.map_toArray, List.map_cons, List.map_nil]); first | done | rfl) ?_
       with_reducible refine (iRecord_calls er a1 b y V2 c2 HSz.out hty b' k HRec.out _ (HEr.out.below (below_step (below_step HB8.out HW26.out) hHeld)) (hr1_.below hb2_) hr2_).mono ?_
       rintro e_ wc ⟨a2, rfl, ho3_, hb3_⟩
       refine ⟨_, rfl, ?_⟩
       refine hK.out _ _ (by exact below_step hHeld hb3_) (fun hHeld => ?_)
       clear hK K
       refine norm_ (a' := ?_) ?_ ?_
       rotate_left
       ·show Act.put _ (some 99) _ = _
        simp only [Act.put, List.setIfInBounds_toArray, List.set_cons_zero, List.set_cons_succ]
        rfl
       refine pure_ (i := 5) (N := (some 94)) (v := ?_) (a' := ?_) #[true, true, true, true, true, true, false, false, false, false, false] rfl rfl (by kernel_rfl) (fun _ _ _ h => h) (Or.inl ⟨by rfl, ?_⟩) ?_ ?_
       rotate_left
       ·intro w'
        go_simp
        try with_reducible rfl
       rotate_left
       ·simp only [Act.put, List.setIfInBounds_toArray, List.set_cons_zero, List.set_cons_succ]
        rfl
       refine pure_ (i := 6) (N := (some 100)) (v := ?_) (a' := ?_) #[true, true, true, true, true, true, true, false, false, false, false] rfl rfl (by kernel_rfl) (fun _ _ _ h => h) (Or.inl ⟨by rfl, ?_⟩) ?_ ?_
       rotate_left
       ·intro w'
        go_simp
        try with_reducible rfl
       rotate_left
       ·simp only [Act.put, List.setIfInBounds_toArray, List.set_cons_zero, List.set_cons_succ]
        rfl
       refine pure_ (i := 7) (N := (some 101)) (v := ?_) (a' := ?_) #[true, true, true, true, true, true, true, true, false, false, false] rfl rfl (by kernel_rfl) (fun _ _ _ h => h) (Or.inl ⟨by rfl, ?_⟩) ?_ ?_
       rotate_left
       ·intro w'
        go_simp
        try with_reducible rfl
       rotate_left
       ·simp only [Act.put, List.setIfInBounds_toArray, List.set_cons_zero, List.set_cons_succ]
        rfl
       refine one_ (i := 8) (N := (some 15)) #[true, true, true, true, true, true, true, true, true, false, false] rfl rfl (by kernel_rfl) (by decide) (fun K hK => ?_)
       refine value_ (w1 := ?_) (v := ?_) (by rfl) rfl ?_ ?_
       rotate_left 2
       ·go_simp
        constructor
        ·rfl
        ·rfl
       refine hK.out _ _ (by exact below_alloc hHeld _) (fun hHeld => ?_)
       clear hK K
       refine norm_ (a' := ?_) ?_ ?_
       rotate_left
       ·show Act.put _ (some 15) _ = _
        simp only [Act.put, List.setIfInBounds_toArray, List.set_cons_zero, List.set_cons_succ]
        rfl
       refine norm_ (a' := putAll _ [(96, _), (98, _), (99, _), (94, _), (100, _), (101, _), (15, _)]) ?_ (hcont3 (a1, V2, c2, a2, wc.heap.size) _ ⟨hHeld, (fun W hW => ho3_.keep (fun k hk1 hk2 => (hW k (by show k ≠ wc.heap.size; omega) (by simp; omega)).trans (Below.heap_alloc wc _ k hk2))), blk_new wc _, (by show w26.heap.size ≤ wc.heap.size; have := hb3_.size; have := hb2_.size; have := hb1_.size; have := hb0_.size; omega)⟩)
       simp only [putAll, Act.put, List.setIfInBounds_toArray, List.set_cons_zero, List.set_cons_succ]
      ·refine value_ (w1 := ?_) (v := ?_) (by rfl) rfl ?_ ?_
       rotate_left 2
       ·go_simp
        constructor
        ·rfl
        ·rfl
       refine hK.out _ _ (by exact below_alloc hHeld _) (fun hHeld => ?_)
       clear hK K
       refine norm_ (a' := ?_) ?_ ?_
       rotate_left
       ·show Act.put _ (some 15) _ = _
        simp only [Act.put, List.setIfInBounds_toArray, List.set_cons_zero, List.set_cons_succ]
        rfl
       refine norm_ (a' := putAll _ [(96, _), (98, _), (15, _)]) ?_ (hcont2 (a1, V2, c2, wb.heap.size) _ ⟨hHeld, (hr1_.below hb2_).below (below_alloc (Below.refl _ _) _), Kd.C_below hr2_ (below_alloc (Below.refl _ _) _), blk_new wb _, (by show w26.heap.size ≤ wb.heap.size; have := hb2_.size; have := hb1_.size; have := hb0_.size; omega)⟩)
       simp only [putAll, Act.put, List.setIfInBounds_toArray, List.set_cons_zero, List.set_cons_succ]
     ·refine value_ (w1 := ?_) (v := ?_) (by rfl) rfl ?_ ?_
      rotate_left 2
      ·go_simp
       constructor
       ·rfl
       ·rfl
      refine hK.out _ _ (by exact below_alloc hHeld _) (fun hHeld => ?_)
      clear hK K
      refine norm_ (a' := ?_) ?_ ?_
      rotate_left
      ·show Act.put _ (some 15) _ = _
       simp only [Act.put, List.setIfInBounds_toArray, List.set_cons_zero, List.set_cons_succ]
       rfl
      refine norm_ (a' := putAll _ [(96, _), (15, _)]) ?_ (hcont1 (a1, wa.heap.size) _ ⟨hHeld, hr1_.below (below_alloc (Below.refl _ _) _), blk_new wa _, (by show w26.heap.size ≤ wa.heap.size; have := hb1_.size; have := hb0_.size; omega)⟩)
      simp only [putAll, Act.put, List.setIfInBounds_toArray, List.set_cons_zero, List.set_cons_succ]
    ·have hb00_ := hHeld
     refine value_ (w1 := ?_) (v := ?_) (by rfl) rfl ?_ ?_
     rotate_left 2
     ·go_simp
      constructor
      ·rfl
      ·rfl
     refine hK.out _ _ (by exact below_alloc hHeld _) (fun hHeld => ?_)
     clear hK K
     refine norm_ (a' := ?_) ?_ ?_
     rotate_left
     ·show Act.put _ (some 15) _ = _
      simp only [Act.put, List.setIfInBounds_toArray, List.set_cons_zero, List.set_cons_succ]
      rfl
     refine one_ (i := 1) (N := (some 96)) #[true, true, true, false, false, false, false, false, true, false, false] rfl rfl (by kernel_rfl) (by decide) (fun K hK => ?_)
     refine goes_ Tryz.func21 (by kernel_rfl) rfl #[.agg #[.slice A0 b.frame.chart.length c0, .int .i64 b.frame.dims, .int .i64 b.frame.curs, .slice A3 b.ledg.entries.length c3, .int .i64 b.ledg.head, .slice A5 b.periods.length c5, .int .i64 b.closed, .int .i64 b.kept]] (by rfl) rfl rfl (by (try simp only [List.map_toArray, List.map_cons, List.map_nil]); first | done | rfl) ?_
     with_reducible refine (toBooks_calls ⟨A0, c0, A3, c3, A5, c5⟩ b HSm.out _ (HRd.out.below (below_step (below_step HB8.out HW26.out) hHeld))).mono ?_
     rintro e_ wa ⟨a1, rfl, ho1_, hb1_⟩
     have hr1_ := ho1_.rd
     clear ho1_
     have hb0_ := hHeld
     refine ⟨_, rfl, ?_⟩
     refine hK.out _ _ (by exact below_step hHeld hb1_) (fun hHeld => ?_)
     clear hK K
     refine norm_ (a' := ?_) ?_ ?_
     rotate_left
     ·show Act.put _ (some 96) _ = _
      simp only [Act.put, List.setIfInBounds_toArray, List.set_cons_zero, List.set_cons_succ]
      rfl
     refine norm_ (a' := putAll _ [(96, _), (15, _)]) ?_ (hcont1 (a1, wd.heap.size) _ ⟨hHeld, hr1_, blk_below (blk_new wd _) hb1_, hb00_.size⟩)
     simp only [putAll, Act.put, List.setIfInBounds_toArray, List.set_cons_zero, List.set_cons_succ]
   rintro ⟨a1, gb⟩ wq ⟨hHeld, hr1_, hz_, hge_⟩
   refine norm_ (a' := ?_) ?_ ?_
   rotate_left
   ·simp only [putAll, Act.put, List.setIfInBounds_toArray, List.set_cons_zero, List.set_cons_succ]
    rfl
   dsimp only at hr1_ hz_ hge_
   clear hcont3
   refine one_ (i := 3) (N := (some 98)) #[true, true, true, true, false, false, false, false, true, false, false] rfl rfl (by kernel_rfl) (by decide) (fun K hK => ?_)
   refine goes_ Tryz.func22 (by kernel_rfl) rfl #[.agg #[.int .i64 y.f0, .int .i64 y.f1, .string y.f2, .slice AL y.f3.length cL]] (by rfl) rfl rfl (by (try simp only [List.map_toArray, List.map_cons, List.map_nil]); first | done | rfl) ?_
   with_reducible refine (toEntry_calls y AL cL hyl _ (Kd.C_below HL.out (below_step (below_step HB8.out HW26.out) hHeld))).mono ?_
   rintro e_ wb ⟨v_, rfl, ho2_, hb2_⟩
   obtain ⟨V2, c2, rfl⟩ := Kd.R_slice ho2_
   have hr2_ := (Kd.R_reads' ho2_).2.2
   clear ho2_
   refine ⟨_, rfl, ?_⟩
   refine hK.out _ _ (by exact below_step hHeld hb2_) (fun hHeld => ?_)
   clear hK K
   refine norm_ (a' := ?_) ?_ ?_
   rotate_left
   ·show Act.put _ (some 98) _ = _
    simp only [Act.put, List.setIfInBounds_toArray, List.set_cons_zero, List.set_cons_succ]
    rfl
   refine norm_ (a' := putAll _ [(96, _), (98, _), (15, _)]) ?_ (hcont2 (a1, V2, c2, gb) _ ⟨hHeld, hr1_.below hb2_, hr2_, blk_below hz_ hb2_, hge_⟩)
   simp only [putAll, Act.put, List.setIfInBounds_toArray, List.set_cons_zero, List.set_cons_succ]
  rintro ⟨a1, V2, c2, gb⟩ wq ⟨hHeld, hr1_, hr2_, hz_, hge_⟩
  refine norm_ (a' := ?_) ?_ ?_
  rotate_left
  ·simp only [putAll, Act.put, List.setIfInBounds_toArray, List.set_cons_zero, List.set_cons_succ]
   rfl
  dsimp only at hr1_ hr2_ hz_ hge_
  refine one_ (i := 4) (N := (some 99)) #[true, true, true, true, true, false, false, false, true, false, false] rfl rfl (by kernel_rfl) (by decide) (fun K hK => ?_)
  refine goes_ Tryz.func12 (by kernel_rfl) rfl #[.agg #[.slice a1.A0 b.frame.chart.length a1.c0, .int .i64 b.frame.dims, .int .i64 b.frame.curs, .slice a1.A3 b.ledg.entries.length a1.c3, .int .i64 b.ledg.head, .slice a1.A5 b.periods.length a1.c5, .int .i64 b.closed, .int .i64 b.kept], .agg #[.int .i64 y.f0, .int .i64 y.f1, .string y.f2, .slice V2 y.f3.length c2]] (by rfl) rfl rfl (by (try simp only [List.map_toArray, List.map_cons, List.map_nil]); first | done | rfl) ?_
  with_reducible refine (iRecord_calls er a1 b y V2 c2 HSz.out hty b' k HRec.out _ (HEr.out.below (below_step (below_step HB8.out HW26.out) hHeld)) hr1_ hr2_).mono ?_
  rintro e_ wc ⟨a2, rfl, ho3_, hb3_⟩
  refine ⟨_, rfl, ?_⟩
  refine hK.out _ _ (by exact below_step hHeld hb3_) (fun hHeld => ?_)
  clear hK K
  refine norm_ (a' := ?_) ?_ ?_
  rotate_left
  ·show Act.put _ (some 99) _ = _
   simp only [Act.put, List.setIfInBounds_toArray, List.set_cons_zero, List.set_cons_succ]
   rfl
  refine pure_ (i := 5) (N := (some 94)) (v := ?_) (a' := ?_) #[true, true, true, true, true, true, false, false, true, false, false] rfl rfl (by kernel_rfl) (fun _ _ _ h => h) (Or.inl ⟨by rfl, ?_⟩) ?_ ?_
  rotate_left
  ·intro w'
   go_simp
   try with_reducible rfl
  rotate_left
  ·simp only [Act.put, List.setIfInBounds_toArray, List.set_cons_zero, List.set_cons_succ]
   rfl
  refine pure_ (i := 6) (N := (some 100)) (v := ?_) (a' := ?_) #[true, true, true, true, true, true, true, false, true, false, false] rfl rfl (by kernel_rfl) (fun _ _ _ h => h) (Or.inl ⟨by rfl, ?_⟩) ?_ ?_
  rotate_left
  ·intro w'
   go_simp
   try with_reducible rfl
  rotate_left
  ·simp only [Act.put, List.setIfInBounds_toArray, List.set_cons_zero, List.set_cons_succ]
   rfl
  refine pure_ (i := 7) (N := (some 101)) (v := ?_) (a' := ?_) #[true, true, true, true, true, true, true, true, true, false, false] rfl rfl (by kernel_rfl) (fun _ _ _ h => h) (Or.inl ⟨by rfl, ?_⟩) ?_ ?_
  rotate_left
  ·intro w'
   go_simp
   try with_reducible rfl
  rotate_left
  ·simp only [Act.put, List.setIfInBounds_toArray, List.set_cons_zero, List.set_cons_succ]
   rfl
  refine norm_ (a' := putAll _ [(96, _), (98, _), (99, _), (94, _), (100, _), (101, _), (15, _)]) ?_ (hcont3 (a1, V2, c2, a2, gb) _ ⟨hHeld, (fun W hW => ho3_.keep (fun k hk1 hk2 => hW k (by have := blk_lt hz_; show k ≠ gb; omega) hk2)), blk_below hz_ hb3_, hge_⟩)
  simp only [putAll, Act.put, List.setIfInBounds_toArray, List.set_cons_zero, List.set_cons_succ]
 rintro ⟨a1, V2, c2, ai, gi⟩ wi0 ⟨hHeld, hri, hzi, hgei⟩
 refine norm_ (a' := ?_) ?_ ?_
 rotate_left
 ·simp only [putAll, Act.put, List.setIfInBounds_toArray, List.set_cons_zero, List.set_cons_succ]
  rfl
 dsimp only at hri hzi hgei
 refine last_ (i := 9) (N := none) #[true, true, true, true, true, true, true, true, true, true, false] rfl rfl (by kernel_rfl) (by decide) (fun K hK => ?_)
 obtain s_ := hHeld
 have z_0 : wi0.cell? ⟨gi, 0, none⟩ = some (.slice none 0 0) := (blk_cell hzi 0).trans rfl
 have z_1 : wi0.cell? ⟨gi, 1, none⟩ = some (.int .i64 0) := (blk_cell hzi 1).trans rfl
 have z_2 : wi0.cell? ⟨gi, 2, none⟩ = some (.int .i64 0) := (blk_cell hzi 2).trans rfl
 have z_3 : wi0.cell? ⟨gi, 3, none⟩ = some (.slice none 0 0) := (blk_cell hzi 3).trans rfl
 have z_4 : wi0.cell? ⟨gi, 4, none⟩ = some (.int .i64 0) := (blk_cell hzi 4).trans rfl
 have z_5 : wi0.cell? ⟨gi, 5, none⟩ = some (.slice none 0 0) := (blk_cell hzi 5).trans rfl
 have z_6 : wi0.cell? ⟨gi, 6, none⟩ = some (.int .i64 0) := (blk_cell hzi 6).trans rfl
 have z_7 : wi0.cell? ⟨gi, 7, none⟩ = some (.int .i64 0) := (blk_cell hzi 7).trans rfl
 have y_0 := blk_frozen hzi 0
 have y_1 := blk_frozen hzi 1
 have y_2 := blk_frozen hzi 2
 have y_3 := blk_frozen hzi 3
 have y_4 := blk_frozen hzi 4
 have y_5 := blk_frozen hzi 5
 have y_6 := blk_frozen hzi 6
 have y_7 := blk_frozen hzi 7
 refine skip_ (w1 := ?_) (by rfl) rfl ?_ ?_
 rotate_left
 ·go_simp
  rfl
 refine hK.out _ _ ?_
 clear hK K
 refine pure_ (i := 10) (N := (some 16)) (v := ?_) (a' := ?_) #[true, true, true, true, true, true, true, true, true, true, true] rfl rfl (by kernel_rfl) (fun _ _ _ h => h) (Or.inl ⟨by rfl, ?_⟩) ?_ ?_
 rotate_left
 ·intro w'
  go_simp
  try with_reducible rfl
 rotate_left
 ·simp only [Act.put, List.setIfInBounds_toArray, List.set_cons_zero, List.set_cons_succ]
  rfl
 refine done_ (by kernel_rfl) ?_
 have hgi := blk_lt hzi
 have G31 := Aside0.mk (show ((((((((wi0.setCell ⟨gi, 0, none⟩ (.slice ai.A0 b'.frame.chart.length ai.c0)).setCell ⟨gi, 1, none⟩ (.int .i64 b'.frame.dims)).setCell ⟨gi, 2, none⟩ (.int .i64 b'.frame.curs)).setCell ⟨gi, 3, none⟩ (.slice ai.A3 b'.ledg.entries.length ai.c3)).setCell ⟨gi, 4, none⟩ (.int .i64 b'.ledg.head)).setCell ⟨gi, 5, none⟩ (.slice ai.A5 b'.periods.length ai.c5)).setCell ⟨gi, 6, none⟩ (.int .i64 b'.closed)).setCell ⟨gi, 7, none⟩ (.int .i64 b'.kept)).heap[gi]? = some (.cells #[.slice ai.A0 b'.frame.chart.length ai.c0, .int .i64 b'.frame.dims, .int .i64 b'.frame.curs, .slice ai.A3 b'.ledg.entries.length ai.c3, .int .i64 b'.ledg.head, .slice ai.A5 b'.periods.length ai.c5, .int .i64 b'.closed, .int .i64 b'.kept] 32 (0, 0)) from (blk_put (cs' := #[.slice ai.A0 b'.frame.chart.length ai.c0, .int .i64 b'.frame.dims, .int .i64 b'.frame.curs, .slice ai.A3 b'.ledg.entries.length ai.c3, .int .i64 b'.ledg.head, .slice ai.A5 b'.periods.length ai.c5, .int .i64 b'.closed, .int .i64 b'.kept]) (blk_put (cs' := #[.slice ai.A0 b'.frame.chart.length ai.c0, .int .i64 b'.frame.dims, .int .i64 b'.frame.curs, .slice ai.A3 b'.ledg.entries.length ai.c3, .int .i64 b'.ledg.head, .slice ai.A5 b'.periods.length ai.c5, .int .i64 b'.closed, .int .i64 0]) (blk_put (cs' := #[.slice ai.A0 b'.frame.chart.length ai.c0, .int .i64 b'.frame.dims, .int .i64 b'.frame.curs, .slice ai.A3 b'.ledg.entries.length ai.c3, .int .i64 b'.ledg.head, .slice ai.A5 b'.periods.length ai.c5, .int .i64 0, .int .i64 0]) (blk_put (cs' := #[.slice ai.A0 b'.frame.chart.length ai.c0, .int .i64 b'.frame.dims, .int .i64 b'.frame.curs, .slice ai.A3 b'.ledg.entries.length ai.c3, .int .i64 b'.ledg.head, .slice none 0 0, .int .i64 0, .int .i64 0]) (blk_put (cs' := #[.slice ai.A0 b'.frame.chart.length ai.c0, .int .i64 b'.frame.dims, .int .i64 b'.frame.curs, .slice ai.A3 b'.ledg.entries.length ai.c3, .int .i64 0, .slice none 0 0, .int .i64 0, .int .i64 0]) (blk_put (cs' := #[.slice ai.A0 b'.frame.chart.length ai.c0, .int .i64 b'.frame.dims, .int .i64 b'.frame.curs, .slice none 0 0, .int .i64 0, .slice none 0 0, .int .i64 0, .int .i64 0]) (blk_put (cs' := #[.slice ai.A0 b'.frame.chart.length ai.c0, .int .i64 b'.frame.dims, .int .i64 0, .slice none 0 0, .int .i64 0, .slice none 0 0, .int .i64 0, .int .i64 0]) (blk_put (cs' := #[.slice ai.A0 b'.frame.chart.length ai.c0, .int .i64 0, .int .i64 0, .slice none 0 0, .int .i64 0, .slice none 0 0, .int .i64 0, .int .i64 0]) hzi 0 _ rfl) 1 _ rfl) 2 _ rfl) 3 _ rfl) 4 _ rfl) 5 _ rfl) 6 _ rfl) 7 _ rfl))
 have HV31 := Aside0.mk (show Below w26.heap.size w26 ((((((((wi0.setCell ⟨gi, 0, none⟩ (.slice ai.A0 b'.frame.chart.length ai.c0)).setCell ⟨gi, 1, none⟩ (.int .i64 b'.frame.dims)).setCell ⟨gi, 2, none⟩ (.int .i64 b'.frame.curs)).setCell ⟨gi, 3, none⟩ (.slice ai.A3 b'.ledg.entries.length ai.c3)).setCell ⟨gi, 4, none⟩ (.int .i64 b'.ledg.head)).setCell ⟨gi, 5, none⟩ (.slice ai.A5 b'.periods.length ai.c5)).setCell ⟨gi, 6, none⟩ (.int .i64 b'.closed)).setCell ⟨gi, 7, none⟩ (.int .i64 b'.kept)) from (by repeat (with_reducible first | exact hHeld | refine below_set ?_ (by omega))))
 have RD31 := Aside0.mk (show RdB ((((((((wi0.setCell ⟨gi, 0, none⟩ (.slice ai.A0 b'.frame.chart.length ai.c0)).setCell ⟨gi, 1, none⟩ (.int .i64 b'.frame.dims)).setCell ⟨gi, 2, none⟩ (.int .i64 b'.frame.curs)).setCell ⟨gi, 3, none⟩ (.slice ai.A3 b'.ledg.entries.length ai.c3)).setCell ⟨gi, 4, none⟩ (.int .i64 b'.ledg.head)).setCell ⟨gi, 5, none⟩ (.slice ai.A5 b'.periods.length ai.c5)).setCell ⟨gi, 6, none⟩ (.int .i64 b'.closed)).setCell ⟨gi, 7, none⟩ (.int .i64 b'.kept)) ai b' from hri _ (fun k hk _ => by (repeat (with_reducible refine (Below.heap_setCell _ _ _ k (show k ≠ gi from hk)).trans ?_)); with_reducible rfl))
 clear hHeld hzi hgei hri
 clear z_0 y_0 z_1 y_1 z_2 y_2 z_3 y_3 z_4 y_4 z_5 y_5 z_6 y_6 z_7 y_7
 generalize ((((((((wi0.setCell ⟨gi, 0, none⟩ (.slice ai.A0 b'.frame.chart.length ai.c0)).setCell ⟨gi, 1, none⟩ (.int .i64 b'.frame.dims)).setCell ⟨gi, 2, none⟩ (.int .i64 b'.frame.curs)).setCell ⟨gi, 3, none⟩ (.slice ai.A3 b'.ledg.entries.length ai.c3)).setCell ⟨gi, 4, none⟩ (.int .i64 b'.ledg.head)).setCell ⟨gi, 5, none⟩ (.slice ai.A5 b'.periods.length ai.c5)).setCell ⟨gi, 6, none⟩ (.int .i64 b'.closed)).setCell ⟨gi, 7, none⟩ (.int .i64 b'.kept)) = w31 at *
 have HW31 := Aside0.mk (show Below w8.heap.size w8 w31 from below_step HW26.out HV31.out)
 have OM31 := Aside0.mk (show OwnP w31 w8.heap.size (fun k => w10.heap.size < k ∧ k < w11.heap.size) a4 (mkB 1 b') from OM26.out.below HV31.out)
 have X1031 := Aside0.mk (show w31.heap[w11.heap.size]? = some (.cells #[.slice a4.A0 b'.frame.chart.length a4.c0, .int .i64 b'.frame.dims, .int .i64 b'.frame.curs, .slice a4.A3 b'.ledg.entries.length a4.c3, .int .i64 b'.ledg.head, .slice a4.A5 b'.periods.length a4.c5, .int .i64 b'.closed, .int .i64 b'.kept] 32 (0, 0)) from blk_below X1026.out HV31.out)
 have GU31 := Aside0.mk (blk_below G8.out HW31.out)
 have m0 : w31.cell? ⟨gi, 0, none⟩ = some (.slice ai.A0 b'.frame.chart.length ai.c0) := (blk_cell G31.out 0).trans rfl
 have m1 : w31.cell? ⟨gi, 1, none⟩ = some (.int .i64 b'.frame.dims) := (blk_cell G31.out 1).trans rfl
 have m2 : w31.cell? ⟨gi, 2, none⟩ = some (.int .i64 b'.frame.curs) := (blk_cell G31.out 2).trans rfl
 have m3 : w31.cell? ⟨gi, 3, none⟩ = some (.slice ai.A3 b'.ledg.entries.length ai.c3) := (blk_cell G31.out 3).trans rfl
 have m4 : w31.cell? ⟨gi, 4, none⟩ = some (.int .i64 b'.ledg.head) := (blk_cell G31.out 4).trans rfl
 have m5 : w31.cell? ⟨gi, 5, none⟩ = some (.slice ai.A5 b'.periods.length ai.c5) := (blk_cell G31.out 5).trans rfl
 have m6 : w31.cell? ⟨gi, 6, none⟩ = some (.int .i64 b'.closed) := (blk_cell G31.out 6).trans rfl
 have m7 : w31.cell? ⟨gi, 7, none⟩ = some (.int .i64 b'.kept) := (blk_cell G31.out 7).trans rfl
 have s0 : w31.cell? ⟨gu, 0, none⟩ = some (.slice au.A0 b'.frame.chart.length au.c0) := (blk_cell GU31.out 0).trans rfl
 have s1 : w31.cell? ⟨gu, 1, none⟩ = some (.int .i64 b'.frame.dims) := (blk_cell GU31.out 1).trans rfl
 have s2 : w31.cell? ⟨gu, 2, none⟩ = some (.int .i64 b'.frame.curs) := (blk_cell GU31.out 2).trans rfl
 have s3 : w31.cell? ⟨gu, 3, none⟩ = some (.slice au.A3 b'.ledg.entries.length au.c3) := (blk_cell GU31.out 3).trans rfl
 have s4 : w31.cell? ⟨gu, 4, none⟩ = some (.int .i64 b'.ledg.head) := (blk_cell GU31.out 4).trans rfl
 have s5 : w31.cell? ⟨gu, 5, none⟩ = some (.slice au.A5 b'.periods.length au.c5) := (blk_cell GU31.out 5).trans rfl
 have s6 : w31.cell? ⟨gu, 6, none⟩ = some (.int .i64 b'.closed) := (blk_cell GU31.out 6).trans rfl
 have s7 : w31.cell? ⟨gu, 7, none⟩ = some (.int .i64 b'.kept) := (blk_cell GU31.out 7).trans rfl
 go_wp2_with (first
  | (go_at_call 23; (with_reducible refine (eqBooks_calls b' b' ai.A0 ai.c0 au.A0 au.c0 ai.A3 ai.c3 au.A3 au.c3 ai.A5 ai.c5 au.A5 au.c5 true (bP_t rfl) _ (RD31.out).r0 (RD8.out.below HW31.out).r0 (RD31.out).r3 (RD8.out.below HW31.out).r3 (RD31.out).r5 (RD8.out.below HW31.out).r5).mono ?_); rintro e_ w32 ⟨rfl, hb32⟩; have HW32 := Aside0.mk (show Below w8.heap.size w8 w32 from below_step HW31.out hb32); have OM32 := Aside0.mk (show OwnP w32 w8.heap.size (fun k => w10.heap.size < k ∧ k < w11.heap.size) a4 (mkB 1 b') from OM31.out.below hb32); have X1032 := Aside0.mk (show w32.heap[w11.heap.size]? = some (.cells #[.slice a4.A0 b'.frame.chart.length a4.c0, .int .i64 b'.frame.dims, .int .i64 b'.frame.curs, .slice a4.A3 b'.ledg.entries.length a4.c3, .int .i64 b'.ledg.head, .slice a4.A5 b'.periods.length a4.c5, .int .i64 b'.closed, .int .i64 b'.kept] 32 (0, 0)) from blk_below X1031.out hb32); clear hb32; have o0 : w32.cell? ⟨w11.heap.size, 0, none⟩ = some (.slice a4.A0 b'.frame.chart.length a4.c0) := (blk_cell X1032.out 0).trans rfl; have o1 : w32.cell? ⟨w11.heap.size, 1, none⟩ = some (.int .i64 b'.frame.dims) := (blk_cell X1032.out 1).trans rfl; have o2 : w32.cell? ⟨w11.heap.size, 2, none⟩ = some (.int .i64 b'.frame.curs) := (blk_cell X1032.out 2).trans rfl; have o3 : w32.cell? ⟨w11.heap.size, 3, none⟩ = some (.slice a4.A3 b'.ledg.entries.length a4.c3) := (blk_cell X1032.out 3).trans rfl; have o4 : w32.cell? ⟨w11.heap.size, 4, none⟩ = some (.int .i64 b'.ledg.head) := (blk_cell X1032.out 4).trans rfl; have o5 : w32.cell? ⟨w11.heap.size, 5, none⟩ = some (.slice a4.A5 b'.periods.length a4.c5) := (blk_cell X1032.out 5).trans rfl; have o6 : w32.cell? ⟨w11.heap.size, 6, none⟩ = some (.int .i64 b'.closed) := (blk_cell X1032.out 6).trans rfl; have o7 : w32.cell? ⟨w11.heap.size, 7, none⟩ = some (.int .i64 b'.kept) := (blk_cell X1032.out 7).trans rfl)
  | (go_at_call 27; (with_reducible refine (HH.out _ OM32.out.rd).mono ?_); rintro e_ w35 ⟨rfl, hb35⟩; have HW35 := Aside0.mk (show Below w8.heap.size w8 w35 from below_step HW32.out hb35)))
 go_ret
 exact ⟨rfl, below_step HB8.out HW35.out⟩
end Go.Proofs.YtheaeffhhbjpmaaGreatDoor

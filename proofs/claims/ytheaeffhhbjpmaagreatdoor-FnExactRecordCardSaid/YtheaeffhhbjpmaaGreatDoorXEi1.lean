/- Of the program: whether an entry is right, in a right frame. -/
import Derived.Test.YtheaeffhhbjpmaaGreatDoorXM
namespace Go.Proofs.YtheaeffhhbjpmaaGreatDoor
open Go.RowKit Go.Proofs.YtheaeffhhbjpmaaGreatDoorW.PrintWords Go.Proofs.YtheaeffhhbjpmaaGreatDoorW.PrintLast
set_option linter.unusedVariables false
set_option linter.unusedSimpArgs false
theorem pre_bound2 (g : S88 → Int) (l : List S88) (B N : Int) (hN : N ≤ l.length) (hB : ∀ i : Int, 0 ≤ i → i < N → -B ≤ g (ln l i) ∧ g (ln l i) ≤ B) : ∀ n : Nat, n ≤ N → -(B * n) ≤ pre g l n ∧ pre g l n ≤ B * n
 | 0, _ => by rw [show ((0 : Nat) : Int) = 0 from rfl, pre_zero]; omega
 | n + 1, h => by
  have h1 := pre_bound2 g l B N hN hB n (by omega)
  have h2 := hB n (by omega) (by omega)
  rw [show ((n + 1 : Nat) : Int) = (n : Int) + 1 by omega, pre_step g l (by omega) (by omega), Int.mul_add]
  omega
theorem pre_in2 {g : S88 → Int} {l : List S88} {i : Int} (hB : ∀ j : Int, 0 ≤ j → j < i → -100000000000 ≤ g (ln l j) ∧ g (ln l j) ≤ 100000000000) (hl : (l.length : Int) ≤ 60) (h0 : 0 ≤ i) (h1 : i ≤ l.length) : -6000000000000 ≤ pre g l i ∧ pre g l i ≤ 6000000000000 := by
 have h := pre_bound2 g l 100000000000 i h1 hB i.toNat (by omega)
 rw [show ((i.toNat : Nat) : Int) = i by omega] at h
 omega
theorem grown_drew (w : World) (row : Option Nat) : w.grownBy w.drew row := ⟨rfl, rfl, rfl, Nat.le_refl _, fun _ _ _ => rfl⟩
set_option maxRecDepth 100000 in
set_option maxHeartbeats 8000000 in
theorem entryIn_calls (f : FrameD) (A : Option Addr) (c : Nat) (e : S41) (AL : Option Addr) (cL : Nat) (hf : FrameP f) (ht : e.f2.size ≤ 9223372036854775807) (r : Bool) (h : bP (EntryP f e) = r) (w : World) (hr : Kd.C k48 w A f.chart.length f.chart) (hl : Kd.C k88 w AL e.f3.length e.f3) :
  Calls Tryz.prog 52 #[.agg #[.slice A f.chart.length c, .int .i64 f.dims, .int .i64 f.curs], .agg #[.int .i64 e.f0, .int .i64 e.f1, .string e.f2, .slice AL e.f3.length cL]] w fun e1 w' => e1 = .returned (.bool r) ∧ Below w.heap.size w w' := by
 subst h
 have hu := Tryz.underlying26
 have hu2 := Tryz.underlying41
 have hu3 := Tryz.underlying88
 have HR := Aside0.mk hr
 have HLn := Aside0.mk hl
 have HCh := Aside0.mk (show ChartP f.chart from hf.1)
 have hm := C_len hl
 have hd0 := hf.2.1.1
 have hd1 := hf.2.1.2
 have hq0 := hf.2.2.1
 have hq1 := hf.2.2.2
 clear hr hl hf
 by_cases c1 : 0 ≤ e.f0 ∧ e.f0 ≤ 40000
 rotate_left
 ·have C1 := Aside0.mk (bP_f c1); have HF := Aside0.mk (bP_f (show ¬ (EntryP f e) from fun h => c1 h.1)); clear c1
  go_enter Tryz.func52, Tryz.ntmps52
  go_wp2_with (first | (go_at_call 38; (with_reducible refine (isDay_calls e.f0 _ C1.out _).mono ?_); rintro e_ w' ⟨rfl, rfl⟩) | (go_at_call 37; (with_reducible refine (between_calls e.f1 0 1000 _ C2.out _).mono ?_); rintro e_ w' ⟨rfl, rfl⟩))
  go_ret
  exact ⟨ret_b HF.out.symm, (by repeat (with_reducible first | assumption | exact Below.refl _ _ | apply below_alloc | apply below_drew1 | apply pw_below_drewN | refine below_set ?_ (by omega) | refine below_step ?_ (by assumption)))⟩
 by_cases c2 : 0 ≤ e.f1 ∧ e.f1 ≤ 1000
 rotate_left
 ·have C1 := Aside0.mk (bP_t c1); have C2 := Aside0.mk (bP_f c2); have HF := Aside0.mk (bP_f (show ¬ (EntryP f e) from fun h => c2 h.2.1)); clear c1 c2
  go_enter Tryz.func52, Tryz.ntmps52
  go_wp2_with (first | (go_at_call 38; (with_reducible refine (isDay_calls e.f0 _ C1.out _).mono ?_); rintro e_ w' ⟨rfl, rfl⟩) | (go_at_call 37; (with_reducible refine (between_calls e.f1 0 1000 _ C2.out _).mono ?_); rintro e_ w' ⟨rfl, rfl⟩))
  go_ret
  exact ⟨ret_b HF.out.symm, (by repeat (with_reducible first | assumption | exact Below.refl _ _ | apply below_alloc | apply below_drew1 | apply pw_below_drewN | refine below_set ?_ (by omega) | refine below_step ?_ (by assumption)))⟩
 by_cases c3 : e.f2.size ≤ 40
 rotate_left
 ·have C1 := Aside0.mk (bP_t c1); have C2 := Aside0.mk (bP_t c2); have HF := Aside0.mk (bP_f (show ¬ (EntryP f e) from fun h => c3 h.2.2.1.1)); clear c1 c2
  go_enter Tryz.func52, Tryz.ntmps52
  go_wp2_with (first | (go_at_call 38; (with_reducible refine (isDay_calls e.f0 _ C1.out _).mono ?_); rintro e_ w' ⟨rfl, rfl⟩) | (go_at_call 37; (with_reducible refine (between_calls e.f1 0 1000 _ C2.out _).mono ?_); rintro e_ w' ⟨rfl, rfl⟩))
  go_ret
  exact ⟨ret_b HF.out.symm, (by repeat (with_reducible first | assumption | exact Below.refl _ _ | apply below_alloc | apply below_drew1 | apply pw_below_drewN | refine below_set ?_ (by omega) | refine below_step ?_ (by assumption)))⟩
 by_cases c4 : 2 ≤ e.f3.length
 rotate_left
 ·have C1 := Aside0.mk (bP_t c1); have C2 := Aside0.mk (bP_t c2); have HF := Aside0.mk (bP_f (show ¬ (EntryP f e) from fun h => c4 (by have := h.2.2.2.1.1; omega))); clear c1 c2
  go_enter Tryz.func52, Tryz.ntmps52
  go_wp2_with (first | (go_at_call 38; (with_reducible refine (isDay_calls e.f0 _ C1.out _).mono ?_); rintro e_ w' ⟨rfl, rfl⟩) | (go_at_call 37; (with_reducible refine (between_calls e.f1 0 1000 _ C2.out _).mono ?_); rintro e_ w' ⟨rfl, rfl⟩))
  go_ret
  exact ⟨ret_b HF.out.symm, (by repeat (with_reducible first | assumption | exact Below.refl _ _ | apply below_alloc | apply below_drew1 | apply pw_below_drewN | refine below_set ?_ (by omega) | refine below_step ?_ (by assumption)))⟩
 by_cases c5 : e.f3.length ≤ 60
 rotate_left
 ·have C1 := Aside0.mk (bP_t c1); have C2 := Aside0.mk (bP_t c2); have HF := Aside0.mk (bP_f (show ¬ (EntryP f e) from fun h => c5 (by have := h.2.2.2.1.2; omega))); clear c1 c2
  go_enter Tryz.func52, Tryz.ntmps52
  go_wp2_with (first | (go_at_call 38; (with_reducible refine (isDay_calls e.f0 _ C1.out _).mono ?_); rintro e_ w' ⟨rfl, rfl⟩) | (go_at_call 37; (with_reducible refine (between_calls e.f1 0 1000 _ C2.out _).mono ?_); rintro e_ w' ⟨rfl, rfl⟩))
  go_ret
  exact ⟨ret_b HF.out.symm, (by repeat (with_reducible first | assumption | exact Below.refl _ _ | apply below_alloc | apply below_drew1 | apply pw_below_drewN | refine below_set ?_ (by omega) | refine below_step ?_ (by assumption)))⟩
 have C1 := Aside0.mk (bP_t c1)
 have C2 := Aside0.mk (bP_t c2)
 go_enter Tryz.func52, Tryz.ntmps52
 go_wp2_with (first | (go_at_call 38; (with_reducible refine (isDay_calls e.f0 _ C1.out _).mono ?_); rintro e_ w' ⟨rfl, rfl⟩) | (go_at_call 37; (with_reducible refine (between_calls e.f1 0 1000 _ C2.out _).mono ?_); rintro e_ w' ⟨rfl, rfl⟩))
 have HB0 := Aside0.mk (show Below w.heap.size w ((w.alloc (.cells #[.slice A f.chart.length c, .int .i64 f.dims, .int .i64 f.curs] 26 (0, 0))).alloc (.cells #[.int .i64 e.f0, .int .i64 e.f1, .string e.f2, .slice AL e.f3.length cL] 41 (0, 0))) from below_alloc (below_alloc (Below.refl _ _) _) _)
 have BF0 := Aside0.mk (show ((w.alloc (.cells #[.slice A f.chart.length c, .int .i64 f.dims, .int .i64 f.curs] 26 (0, 0))).alloc (.cells #[.int .i64 e.f0, .int .i64 e.f1, .string e.f2, .slice AL e.f3.length cL] 41 (0, 0))).heap[w.heap.size]? = some (.cells #[.slice A f.chart.length c, .int .i64 f.dims, .int .i64 f.curs] 26 (0, 0)) from blk_alloc (blk_new w _) _)
 have BE0 := Aside0.mk (show ((w.alloc (.cells #[.slice A f.chart.length c, .int .i64 f.dims, .int .i64 f.curs] 26 (0, 0))).alloc (.cells #[.int .i64 e.f0, .int .i64 e.f1, .string e.f2, .slice AL e.f3.length cL] 41 (0, 0))).heap[w.heap.size + 1]? = some (.cells #[.int .i64 e.f0, .int .i64 e.f1, .string e.f2, .slice AL e.f3.length cL] 41 (0, 0)) from blk_new1 w _ _)
 generalize ((w.alloc (.cells #[.slice A f.chart.length c, .int .i64 f.dims, .int .i64 f.curs] 26 (0, 0))).alloc (.cells #[.int .i64 e.f0, .int .i64 e.f1, .string e.f2, .slice AL e.f3.length cL] 41 (0, 0))) = W0 at *
 have hz0 : w.heap.size + 1 < W0.heap.size := blk_lt BE0.out
 have e0 : W0.cell? ⟨w.heap.size + 1, 0, none⟩ = some (.int .i64 e.f0) := (blk_cell BE0.out 0).trans rfl
 have e1 : W0.cell? ⟨w.heap.size + 1, 1, none⟩ = some (.int .i64 e.f1) := (blk_cell BE0.out 1).trans rfl
 have e2 : W0.cell? ⟨w.heap.size + 1, 2, none⟩ = some (.string e.f2) := (blk_cell BE0.out 2).trans rfl
 have e3 : W0.cell? ⟨w.heap.size + 1, 3, none⟩ = some (.slice AL e.f3.length cL) := (blk_cell BE0.out 3).trans rfl
 go_loopg [5] e.f2.size (fun kq v5 w' => ∃ i : Nat, v5 = .int .i64 i ∧ i ≤ e.f2.size ∧ Aside0 (kq = e.f2.size - i) ∧ Aside0 (∀ j : Int, 0 ≤ j → j < i → 32 ≤ bt e.f2 j) ∧ Aside0 (W0 = w'))
 case atStart => exact ⟨0, rfl, by omega, ⟨rfl⟩, ⟨fun j h0 h1 => by omega⟩, ⟨rfl⟩⟩
 case round =>
  obtain ⟨i, rfl, hi, HK, HT, ⟨rfl⟩⟩ := hrel
  by_cases hlt : i < e.f2.size
  ·have hB := bt_at e.f2 i hlt
   by_cases hx : 32 ≤ bt e.f2 i
   ·have hx' := Aside0.mk hx
    rw [hB] at hx
    clear hB
    go_wp2
    go_roundg (e.f2.size - (i + 1))
    case measure => have := HK.out; omega
    case rel => exact ⟨i + 1, by go_num, by omega, ⟨rfl⟩, ⟨fun j h0 h1 => by rcases Int.lt_or_eq_of_le (Int.lt_add_one_iff.1 (show j < (i : Int) + 1 by omega)) with h | rfl; exact HT.out j h0 h; exact hx'.out⟩, ⟨rfl⟩⟩
   ·have HF := Aside0.mk (bP_f (show ¬ EntryP f e from fun h => hx (h.2.2.1.2 i (by omega) (by omega))))
    rw [hB] at hx
    clear hB
    go_wp2
    go_ret
    exact ⟨ret_b HF.out.symm, HB0.out⟩
  ·have HTX := Aside0.mk (show TextP e.f2 from ⟨c3, fun j j0 j1 => HT.out j j0 (by omega)⟩)
   clear HT HK
   have hmm := @run_makeMap Tryz.prog
   go_wp2
   clear hmm
   have HM0 := Aside0.mk (World.ownsMap_made (H := Unit) W0 Tryz.prog 154 (plainElem (H := Unit) Tryz.prog 3))
   have HB1 := Aside0.mk (below_alloc (Below.refl W0.heap.size W0) (.map #[] 0))
   clear e0 e1 e2 e3 hi hlt
   go_loopg [55] e.f3.length (fun kq v55 w' => ∃ (i : Int) (D : DataW Unit), v55 = .int .i64 i ∧ 0 ≤ i ∧ i ≤ e.f3.length ∧ Aside0 (kq = e.f3.length - i.toNat) ∧ Aside0 (∀ j : Int, 0 ≤ j → j < i → LineP f (ln e.f3 j)) ∧ Aside0 (w'.ownsMap Tryz.prog 154 (plainElem (H := Unit) Tryz.prog 3) W0.heap.size (2 * i.toNat) D) ∧ Aside0 (SumD e.f3 D i) ∧ Aside0 (Below W0.heap.size W0 w'))
   case atStart => exact ⟨0, _, rfl, by omega, by omega, ⟨rfl⟩, ⟨fun j h0 h1 => by omega⟩, HM0, ⟨SumD.zero _⟩, HB1⟩
   case round =>
    clear HM0 HB1
    obtain ⟨i, D, rfl, i0, hi, HK, HL, HM, HSm, HB⟩ := hrel
    by_cases hlt : i < e.f3.length
    ·obtain ⟨ad, e0', x0, x1, x2, x3, x4⟩ := at88 (Kd.C_below HLn.out (below_step HB0.out HB.out)) i i0 hlt
     cases e0'
     have HNE := Aside0.mk (show ¬ LineP f (rd_T88 e.f3 i) → bP (EntryP f e) = false from fun q => bP_f (fun h => q (h.2.2.2.2.1 i i0 hlt)))
     have HST := Aside0.mk (fun w1 w2 => HSm.out.step i0 hlt w1 w2)
     have HPC := Aside0.mk (show ∀ q, -6000000000000 ≤ pre (gC q) e.f3 i ∧ pre (gC q) e.f3 i ≤ 6000000000000 from fun q => pre_in2 (fun j j0 j1 => gC_bound (HL.out j j0 j1) q) (by omega) i0 hi)
     have HPD := Aside0.mk (show ∀ q, -6000000000000 ≤ pre (gD q) e.f3 i ∧ pre (gD q) e.f3 i ≤ 6000000000000 from fun q => pre_in2 (fun j j0 j1 => gD_bound (HL.out j j0 j1) q) (by omega) i0 hi)
     have HLN := Aside0.mk (show LineP f (rd_T88 e.f3 i) → ∀ j : Int, 0 ≤ j → j < i + 1 → LineP f (ln e.f3 j) from fun q j j0 j1 => by rcases Int.lt_or_eq_of_le (Int.lt_add_one_iff.1 j1) with h | rfl; exact HL.out j j0 h; exact q)
     replace HST : Aside0 (∀ (w1 : (Lit.int .i64 (rd_T88 e.f3 i).f1).wf = true) (w2 : (Lit.int .i64 (rd_T88 e.f3 i).f2).wf = true), SumD e.f3 ((D.put (kk 0 (rd_T88 e.f3 i).f2) (.lit (.int .i64 (pre (gC (rd_T88 e.f3 i).f2) e.f3 i + (rd_T88 e.f3 i).f3)))).put (kk 1 (rd_T88 e.f3 i).f1) (.lit (.int .i64 (pre (gD (rd_T88 e.f3 i).f1) e.f3 i + (rd_T88 e.f3 i).f4)))) (i + 1)) := HST
     obtain ⟨x, hx⟩ : ∃ x, rd_T88 e.f3 i = x := ⟨_, rfl⟩
     rw [hx] at x0 x1 x2 x3 x4 HNE HST HLN
     clear hx HL
     have HBW := Aside0.mk (below_step HB0.out HB.out)
     have bf := blk_below BF0.out HB.out
     have f0 : wr.cell? ⟨w.heap.size, 0, none⟩ = some (.slice A f.chart.length c) := (blk_cell bf 0).trans rfl
     have f1 : wr.cell? ⟨w.heap.size, 1, none⟩ = some (.int .i64 f.dims) := (blk_cell bf 1).trans rfl
     have f2 : wr.cell? ⟨w.heap.size, 2, none⟩ = some (.int .i64 f.curs) := (blk_cell bf 2).trans rfl
     clear bf
     have hzr : w.heap.size + 1 < wr.heap.size := by have := HB.out.size; omega
     have hzw : w.heap.size < wr.heap.size := by omega
     have hz1 : W0.heap.size < wr.heap.size := HM.out.lt
     by_cases c1 : LeafP f.chart x.f0
     rotate_left
     ·have C1 := Aside0.mk (bP_f c1); have HF := Aside0.mk (bP_f (show ¬ (LineP f x) from fun h => c1 h.1)); clear c1
      go_wp2_with (first | (go_at_call 39; (with_reducible refine (leafAt_calls _ _ f.chart x.f0 HCh.out _ C1.out _ (Kd.C_below HR.out (below_alloc HBW.out _))).mono ?_); rintro e_ w' ⟨rfl, rfl⟩) | (go_at_call 37; (with_reducible refine (between_calls x.f1 0 (f.dims - 1) _ C2.out _).mono ?_); rintro e_ w' ⟨rfl, rfl⟩) | (go_at_call 37; (with_reducible refine (between_calls x.f2 0 (f.curs - 1) _ C3.out _).mono ?_); rintro e_ w' ⟨rfl, rfl⟩) | (go_at_call 58; (with_reducible refine (amount_calls x.f3 _ C4.out _).mono ?_); rintro e_ w' ⟨rfl, rfl⟩) | (go_at_call 58; (with_reducible refine (amount_calls x.f4 _ C5.out _).mono ?_); rintro e_ w' ⟨rfl, rfl⟩))
      go_ret
      exact ⟨ret_b (HNE.out (bP_iff_f.1 HF.out)).symm, below_alloc HBW.out _⟩
     by_cases c2 : 0 ≤ x.f1 ∧ x.f1 ≤ f.dims - 1
     rotate_left
     ·have C1 := Aside0.mk (bP_t c1); have C2 := Aside0.mk (bP_f c2); have HF := Aside0.mk (bP_f (show ¬ (LineP f x) from fun h => c2 h.2.1)); clear c1 c2
      go_wp2_with (first | (go_at_call 39; (with_reducible refine (leafAt_calls _ _ f.chart x.f0 HCh.out _ C1.out _ (Kd.C_below HR.out (below_alloc HBW.out _))).mono ?_); rintro e_ w' ⟨rfl, rfl⟩) | (go_at_call 37; (with_reducible refine (between_calls x.f1 0 (f.dims - 1) _ C2.out _).mono ?_); rintro e_ w' ⟨rfl, rfl⟩) | (go_at_call 37; (with_reducible refine (between_calls x.f2 0 (f.curs - 1) _ C3.out _).mono ?_); rintro e_ w' ⟨rfl, rfl⟩) | (go_at_call 58; (with_reducible refine (amount_calls x.f3 _ C4.out _).mono ?_); rintro e_ w' ⟨rfl, rfl⟩) | (go_at_call 58; (with_reducible refine (amount_calls x.f4 _ C5.out _).mono ?_); rintro e_ w' ⟨rfl, rfl⟩))
      go_ret
      exact ⟨ret_b (HNE.out (bP_iff_f.1 HF.out)).symm, below_alloc HBW.out _⟩
     by_cases c3_ : 0 ≤ x.f2 ∧ x.f2 ≤ f.curs - 1
     rotate_left
     ·have C1 := Aside0.mk (bP_t c1); have C2 := Aside0.mk (bP_t c2); have C3 := Aside0.mk (bP_f c3_); have HF := Aside0.mk (bP_f (show ¬ (LineP f x) from fun h => c3_ h.2.2.1)); clear c1 c2 c3_
      go_wp2_with (first | (go_at_call 39; (with_reducible refine (leafAt_calls _ _ f.chart x.f0 HCh.out _ C1.out _ (Kd.C_below HR.out (below_alloc HBW.out _))).mono ?_); rintro e_ w' ⟨rfl, rfl⟩) | (go_at_call 37; (with_reducible refine (between_calls x.f1 0 (f.dims - 1) _ C2.out _).mono ?_); rintro e_ w' ⟨rfl, rfl⟩) | (go_at_call 37; (with_reducible refine (between_calls x.f2 0 (f.curs - 1) _ C3.out _).mono ?_); rintro e_ w' ⟨rfl, rfl⟩) | (go_at_call 58; (with_reducible refine (amount_calls x.f3 _ C4.out _).mono ?_); rintro e_ w' ⟨rfl, rfl⟩) | (go_at_call 58; (with_reducible refine (amount_calls x.f4 _ C5.out _).mono ?_); rintro e_ w' ⟨rfl, rfl⟩))
      go_ret
      exact ⟨ret_b (HNE.out (bP_iff_f.1 HF.out)).symm, below_alloc HBW.out _⟩
     by_cases c4_ : -100000000000 ≤ x.f3 ∧ x.f3 ≤ 100000000000
     rotate_left
     ·have C1 := Aside0.mk (bP_t c1); have C2 := Aside0.mk (bP_t c2); have C3 := Aside0.mk (bP_t c3_); have C4 := Aside0.mk (bP_f c4_); have HF := Aside0.mk (bP_f (show ¬ (LineP f x) from fun h => c4_ h.2.2.2.1)); clear c1 c2 c3_ c4_
      go_wp2_with (first | (go_at_call 39; (with_reducible refine (leafAt_calls _ _ f.chart x.f0 HCh.out _ C1.out _ (Kd.C_below HR.out (below_alloc HBW.out _))).mono ?_); rintro e_ w' ⟨rfl, rfl⟩) | (go_at_call 37; (with_reducible refine (between_calls x.f1 0 (f.dims - 1) _ C2.out _).mono ?_); rintro e_ w' ⟨rfl, rfl⟩) | (go_at_call 37; (with_reducible refine (between_calls x.f2 0 (f.curs - 1) _ C3.out _).mono ?_); rintro e_ w' ⟨rfl, rfl⟩) | (go_at_call 58; (with_reducible refine (amount_calls x.f3 _ C4.out _).mono ?_); rintro e_ w' ⟨rfl, rfl⟩) | (go_at_call 58; (with_reducible refine (amount_calls x.f4 _ C5.out _).mono ?_); rintro e_ w' ⟨rfl, rfl⟩))
      go_ret
      exact ⟨ret_b (HNE.out (bP_iff_f.1 HF.out)).symm, below_alloc HBW.out _⟩
     by_cases c5_ : -100000000000 ≤ x.f4 ∧ x.f4 ≤ 100000000000
     rotate_left
     ·have C1 := Aside0.mk (bP_t c1); have C2 := Aside0.mk (bP_t c2); have C3 := Aside0.mk (bP_t c3_); have C4 := Aside0.mk (bP_t c4_); have C5 := Aside0.mk (bP_f c5_); have HF := Aside0.mk (bP_f (show ¬ (LineP f x) from fun h => c5_ h.2.2.2.2.1)); clear c1 c2 c3_ c4_ c5_
      go_wp2_with (first | (go_at_call 39; (with_reducible refine (leafAt_calls _ _ f.chart x.f0 HCh.out _ C1.out _ (Kd.C_below HR.out (below_alloc HBW.out _))).mono ?_); rintro e_ w' ⟨rfl, rfl⟩) | (go_at_call 37; (with_reducible refine (between_calls x.f1 0 (f.dims - 1) _ C2.out _).mono ?_); rintro e_ w' ⟨rfl, rfl⟩) | (go_at_call 37; (with_reducible refine (between_calls x.f2 0 (f.curs - 1) _ C3.out _).mono ?_); rintro e_ w' ⟨rfl, rfl⟩) | (go_at_call 58; (with_reducible refine (amount_calls x.f3 _ C4.out _).mono ?_); rintro e_ w' ⟨rfl, rfl⟩) | (go_at_call 58; (with_reducible refine (amount_calls x.f4 _ C5.out _).mono ?_); rintro e_ w' ⟨rfl, rfl⟩))
      go_ret
      exact ⟨ret_b (HNE.out (bP_iff_f.1 HF.out)).symm, below_alloc HBW.out _⟩
     have C1 := Aside0.mk (bP_t c1); have C2 := Aside0.mk (bP_t c2); have C3 := Aside0.mk (bP_t c3_); have C4 := Aside0.mk (bP_t c4_); have C5 := Aside0.mk (bP_t c5_)
     by_cases z2 : x.f2 = 0
     ·have e2 : (x.f2 == 0) = true := by simp [z2]
      by_cases z3 : x.f3 = x.f4
      ·have e3 : (x.f3 != x.f4) = false := by simp [z3]
       have HLx := Aside0.mk (show LineP f x from ⟨c1, c2, c3_, c4_, c5_, .inr z3⟩)
       clear z3 z2 c1 c2 c3_ c4_ c5_
       have wf1 := wf_small (x := x.f1) (by have := HLx.out.2.1; omega) (by have := HLx.out.2.1; omega)
       have wf2 := wf_small (x := x.f2) (by have := HLx.out.2.2.1; omega) (by have := HLx.out.2.2.1; omega)
       have hn01 : kk 1 x.f1 ≠ kk 0 x.f2 := fun e2 => by have := (kk_inj (a := 1) (b := x.f1) (a' := 0) (b' := x.f2) (by decide) wf1 (by decide) wf2 e2).1; omega
       go_wp2_with (first | (go_at_call 39; (with_reducible refine (leafAt_calls _ _ f.chart x.f0 HCh.out _ C1.out _ (Kd.C_below HR.out (below_alloc HBW.out _))).mono ?_); rintro e_ w' ⟨rfl, rfl⟩) | (go_at_call 37; (with_reducible refine (between_calls x.f1 0 (f.dims - 1) _ C2.out _).mono ?_); rintro e_ w' ⟨rfl, rfl⟩) | (go_at_call 37; (with_reducible refine (between_calls x.f2 0 (f.curs - 1) _ C3.out _).mono ?_); rintro e_ w' ⟨rfl, rfl⟩) | (go_at_call 58; (with_reducible refine (amount_calls x.f3 _ C4.out _).mono ?_); rintro e_ w' ⟨rfl, rfl⟩) | (go_at_call 58; (with_reducible refine (amount_calls x.f4 _ C5.out _).mono ?_); rintro e_ w' ⟨rfl, rfl⟩))
       have HM1 := Aside0.mk (HM.out.alloc (.cells #[.int .i64 x.f0, .int .i64 x.f1, .int .i64 x.f2, .int .i64 x.f3, .int .i64 x.f4] 88 (0, 0)))
       have BL1 := Aside0.mk (blk_new wr (.cells #[.int .i64 x.f0, .int .i64 x.f1, .int .i64 x.f2, .int .i64 x.f3, .int .i64 x.f4] 88 (0, 0)))
       have HB1 := Aside0.mk ((HB.out).alloc HB.out.size (.cells #[.int .i64 x.f0, .int .i64 x.f1, .int .i64 x.f2, .int .i64 x.f3, .int .i64 x.f4] 88 (0, 0)))
       generalize wr.alloc (.cells #[.int .i64 x.f0, .int .i64 x.f1, .int .i64 x.f2, .int .i64 x.f3, .int .i64 x.f4] 88 (0, 0)) = W1 at *
       have HLx := HLx
       obtain ⟨q1, v1, st1, w11, hat1, hlk1, hme1, hlk11, hg11, hsto1⟩ := map_add (w := W1.drew) (b := W0.heap.size) (n := 2 * i.toNat) (D := D) HM1.out (by unfold maxLen; omega) 0 x.f2 (by decide) wf2
       have HQ1 : q1 = pre (gC x.f2) e.f3 i := by
        have e1 := HSm.out.c x.f2 wf2
        rw [hat1] at e1
        injection e1 with e1
        injection e1
       obtain ⟨w12, hst1, ho1, hg12⟩ := hsto1 (IntKind.i64.wrap (q1 + x.f3)) (by rw [i64_w]; exact wrap64_wf _)
       have HQW1 : IntKind.i64.wrap (q1 + x.f3) = pre (gC x.f2) e.f3 i + x.f3 := by have := HPC.out x.f2; have := HLx.out.2.2.2.1; have := HLx.out.2.2.2.2.1; rw [← HQ1] at *; rw [i64_w]; unfold wrap64; omega
       replace HQ1 := Aside0.mk HQ1
       replace HQW1 := Aside0.mk HQW1
       clear hat1 hsto1
       replace ho1 := Aside0.mk ho1
       replace hg11 := Aside0.mk hg11
       replace hg12 := Aside0.mk hg12
       have HD1 := Aside0.mk (grown_drew W1 (some W0.heap.size))
       refine start_ (n := 11) (S := fun w' => W1.grownBy w' (some W0.heap.size) ∧ (Instr.lookup 153 (.map (some W0.heap.size)) (.agg #[.int .i64 0, .int .i64 x.f2]) false).run Tryz.prog w' = .ok (.int .i64 q1) w') (ds := [10]) #[false, false, false, false, false, false, false, false, false, false, false] (by kernel_rfl) rfl rfl (by exact ⟨grown_drew _ _, hlk1⟩) (fun hHeld => ?_)
       generalize W1.drew = wd1 at *
       refine pure_ (i := 0) (N := (some 107)) (v := ?_) (a' := ?_) #[true, false, false, false, false, false, false, false, false, false, false] rfl rfl (by kernel_rfl) (fun _ _ _ h => h) (Or.inl ⟨by rfl, ?_⟩) ?_ ?_
       rotate_left
       ·intro w'
        go_simp
        try with_reducible rfl
       rotate_left
       ·simp only [Act.put, List.setIfInBounds_toArray, List.set_cons_zero, List.set_cons_succ]
        rfl
       refine pure_ (i := 1) (N := (some 108)) (v := ?_) (a' := ?_) #[true, true, false, false, false, false, false, false, false, false, false] rfl rfl (by kernel_rfl) (fun _ _ _ h => h) (Or.inl ⟨by rfl, ?_⟩) ?_ ?_
       rotate_left
       ·intro w'
        go_simp
        try with_reducible rfl
       rotate_left
       ·simp only [Act.put, List.setIfInBounds_toArray, List.set_cons_zero, List.set_cons_succ]
        rfl
       refine take_ (i := 2) (N := (some 109)) (v := ?_) (a' := ?_) #[true, true, true, false, false, false, false, false, false, false, false] rfl rfl (by kernel_rfl) (fun _ _ _ h => h) (Or.inl ⟨by rfl, ?_⟩) hHeld ?_ ?_
       rotate_left
       ·rintro w' ⟨s_, hlk⟩
        have bl := blk_grown BL1.out s_ (by simp; omega)
        have p2 : w'.cell? ⟨wr.heap.size, 2, none⟩ = some (.int .i64 x.f2) := (blk_cell bl 2).trans rfl
        have p3 : w'.cell? ⟨wr.heap.size, 3, none⟩ = some (.int .i64 x.f3) := (blk_cell bl 3).trans rfl
        go_simp
        try with_reducible rfl
       rotate_left
       ·simp only [Act.put, List.setIfInBounds_toArray, List.set_cons_zero, List.set_cons_succ]
        rfl
       refine pure_ (i := 3) (N := (some 110)) (v := ?_) (a' := ?_) #[true, true, true, true, false, false, false, false, false, false, false] rfl rfl (by kernel_rfl) (fun _ _ _ h => h) (Or.inl ⟨by rfl, ?_⟩) ?_ ?_
       rotate_left
       ·intro w'
        go_simp
        try with_reducible rfl
       rotate_left
       ·simp only [Act.put, List.setIfInBounds_toArray, List.set_cons_zero, List.set_cons_succ]
        rfl
       refine pure_ (i := 5) (N := (some 112)) (v := ?_) (a' := ?_) #[true, true, true, true, false, true, false, false, false, false, false] rfl rfl (by kernel_rfl) (fun _ _ _ h => h) (Or.inl ⟨by rfl, ?_⟩) ?_ ?_
       rotate_left
       ·intro w'
        go_simp
        try with_reducible rfl
       rotate_left
       ·simp only [Act.put, List.setIfInBounds_toArray, List.set_cons_zero, List.set_cons_succ]
        rfl
       refine take_ (i := 6) (N := (some 113)) (v := ?_) (a' := ?_) #[true, true, true, true, false, true, true, false, false, false, false] rfl rfl (by kernel_rfl) (fun _ _ _ h => h) (Or.inl ⟨by rfl, ?_⟩) hHeld ?_ ?_
       rotate_left
       ·rintro w' ⟨s_, hlk⟩
        have bl := blk_grown BL1.out s_ (by simp; omega)
        have p2 : w'.cell? ⟨wr.heap.size, 2, none⟩ = some (.int .i64 x.f2) := (blk_cell bl 2).trans rfl
        have p3 : w'.cell? ⟨wr.heap.size, 3, none⟩ = some (.int .i64 x.f3) := (blk_cell bl 3).trans rfl
        go_simp
        try with_reducible rfl
       rotate_left
       ·simp only [Act.put, List.setIfInBounds_toArray, List.set_cons_zero, List.set_cons_succ]
        rfl
       refine take_ (i := 4) (N := (some 111)) (v := ?_) (a' := ?_) #[true, true, true, true, true, true, true, false, false, false, false] rfl rfl (by kernel_rfl) (fun _ _ _ h => h) (Or.inl ⟨by rfl, ?_⟩) hHeld ?_ ?_
       rotate_left
       ·rintro w' ⟨s_, hlk⟩
        have bl := blk_grown BL1.out s_ (by simp; omega)
        have p2 : w'.cell? ⟨wr.heap.size, 2, none⟩ = some (.int .i64 x.f2) := (blk_cell bl 2).trans rfl
        have p3 : w'.cell? ⟨wr.heap.size, 3, none⟩ = some (.int .i64 x.f3) := (blk_cell bl 3).trans rfl
        go_simp
        try with_reducible rfl
       rotate_left
       ·simp only [Act.put, List.setIfInBounds_toArray, List.set_cons_zero, List.set_cons_succ]
        rfl
       refine pure_ (i := 7) (N := (some 114)) (v := ?_) (a' := ?_) #[true, true, true, true, true, true, true, true, false, false, false] rfl rfl (by kernel_rfl) (fun _ _ _ h => h) (Or.inl ⟨by rfl, ?_⟩) ?_ ?_
       rotate_left
       ·intro w'
        go_simp
        try with_reducible rfl
       rotate_left
       ·simp only [Act.put, List.setIfInBounds_toArray, List.set_cons_zero, List.set_cons_succ]
        rfl
       refine one_ (i := 8) (N := (some 115)) #[true, true, true, true, true, true, true, true, true, false, false] rfl rfl (by kernel_rfl) (by decide) (fun K hK => ?_)
       refine value_ (w1 := ?_) (v := ?_) (by rfl) rfl ?_ ?_
       rotate_left 2
       ·go_simp
        constructor
        ·rfl
        ·rfl
       refine hK.out _ _ (by exact ⟨HD1.out.trans hg11.out, hlk11⟩) (fun hHeld => ?_)
       clear hK K
       refine norm_ (a' := ?_) ?_ ?_
       rotate_left
       ·show Act.put _ (some 115) _ = _
        simp only [Act.put, List.setIfInBounds_toArray, List.set_cons_zero, List.set_cons_succ]
        rfl
       refine pure_ (i := 9) (N := (some 116)) (v := ?_) (a' := ?_) #[true, true, true, true, true, true, true, true, true, true, false] rfl rfl (by kernel_rfl) (fun _ _ _ h => h) (Or.inl ⟨by rfl, ?_⟩) ?_ ?_
       rotate_left
       ·intro w'
        go_simp
        try with_reducible rfl
       rotate_left
       ·simp only [Act.put, List.setIfInBounds_toArray, List.set_cons_zero, List.set_cons_succ]
        rfl
       refine last_ (i := 10) (N := none) #[true, true, true, true, true, true, true, true, true, true, true] rfl rfl (by kernel_rfl) (by decide) (fun K hK => ?_)
       obtain ⟨s_, hlk⟩ := hHeld
       refine skip_ (w1 := ?_) (by rfl) rfl ?_ ?_
       rotate_left
       ·go_simp
        rfl
       refine hK.out _ _ ?_
       clear hK K
       refine done_ (by kernel_rfl) ?_
       go_wp2
       have hgA := HD1.out.trans hg12.out
       have BL2 := Aside0.mk (blk_grown BL1.out hgA (by simp; omega))
       have HB2 := Aside0.mk (HB1.out.grown hgA HB1.out.size (by intro k hk; cases hk; exact Nat.le_refl _))
       clear hgA
       have ho1' := ho1.out
       rw [HQW1.out] at ho1'
       have HM2 := Aside0.mk ho1'
       clear ho1 ho1' hlk1 hme1 hlk11 hg11 hst1 hg12 HD1 HM1 BL1 HB1
       obtain ⟨q2, v2, st2, w21, hat2, hlk2, hme2, hlk21, hg21, hsto2⟩ := map_add (w := w12.drew) (b := W0.heap.size) (n := 2 * i.toNat + 1) (D := _) HM2.out (by unfold maxLen; omega) 1 x.f1 (by decide) wf1
       rw [Maps.atKey_put_other hn01] at hat2
       have HQ2 : q2 = pre (gD x.f1) e.f3 i := by
        have e1 := HSm.out.d x.f1 wf1
        rw [hat2] at e1
        injection e1 with e1
        injection e1
       obtain ⟨w22, hst2, ho2, hg22⟩ := hsto2 (IntKind.i64.wrap (q2 + x.f4)) (by rw [i64_w]; exact wrap64_wf _)
       have HQW2 : IntKind.i64.wrap (q2 + x.f4) = pre (gD x.f1) e.f3 i + x.f4 := by have := HPD.out x.f1; have := HLx.out.2.2.2.1; have := HLx.out.2.2.2.2.1; rw [← HQ2] at *; rw [i64_w]; unfold wrap64; omega
       replace HQ2 := Aside0.mk HQ2
       replace HQW2 := Aside0.mk HQW2
       clear hat2 hsto2
       replace ho2 := Aside0.mk ho2
       replace hg21 := Aside0.mk hg21
       replace hg22 := Aside0.mk hg22
       have HD2 := Aside0.mk (grown_drew w12 (some W0.heap.size))
       refine start_ (n := 11) (S := fun w' => w12.grownBy w' (some W0.heap.size) ∧ (Instr.lookup 153 (.map (some W0.heap.size)) (.agg #[.int .i64 1, .int .i64 x.f1]) false).run Tryz.prog w' = .ok (.int .i64 q2) w') (ds := [10]) #[false, false, false, false, false, false, false, false, false, false, false] (by kernel_rfl) rfl rfl (by exact ⟨grown_drew _ _, hlk2⟩) (fun hHeld => ?_)
       generalize w12.drew = wd2 at *
       refine pure_ (i := 0) (N := (some 117)) (v := ?_) (a' := ?_) #[true, false, false, false, false, false, false, false, false, false, false] rfl rfl (by kernel_rfl) (fun _ _ _ h => h) (Or.inl ⟨by rfl, ?_⟩) ?_ ?_
       rotate_left
       ·intro w'
        go_simp
        try with_reducible rfl
       rotate_left
       ·simp only [Act.put, List.setIfInBounds_toArray, List.set_cons_zero, List.set_cons_succ]
        rfl
       refine pure_ (i := 1) (N := (some 118)) (v := ?_) (a' := ?_) #[true, true, false, false, false, false, false, false, false, false, false] rfl rfl (by kernel_rfl) (fun _ _ _ h => h) (Or.inl ⟨by rfl, ?_⟩) ?_ ?_
       rotate_left
       ·intro w'
        go_simp
        try with_reducible rfl
       rotate_left
       ·simp only [Act.put, List.setIfInBounds_toArray, List.set_cons_zero, List.set_cons_succ]
        rfl
       refine take_ (i := 2) (N := (some 119)) (v := ?_) (a' := ?_) #[true, true, true, false, false, false, false, false, false, false, false] rfl rfl (by kernel_rfl) (fun _ _ _ h => h) (Or.inl ⟨by rfl, ?_⟩) hHeld ?_ ?_
       rotate_left
       ·rintro w' ⟨s_, hlk⟩
        have bl := blk_grown BL2.out s_ (by simp; omega)
        have p1 : w'.cell? ⟨wr.heap.size, 1, none⟩ = some (.int .i64 x.f1) := (blk_cell bl 1).trans rfl
        have p4 : w'.cell? ⟨wr.heap.size, 4, none⟩ = some (.int .i64 x.f4) := (blk_cell bl 4).trans rfl
        go_simp
        try with_reducible rfl
       rotate_left
       ·simp only [Act.put, List.setIfInBounds_toArray, List.set_cons_zero, List.set_cons_succ]
        rfl
       refine pure_ (i := 3) (N := (some 120)) (v := ?_) (a' := ?_) #[true, true, true, true, false, false, false, false, false, false, false] rfl rfl (by kernel_rfl) (fun _ _ _ h => h) (Or.inl ⟨by rfl, ?_⟩) ?_ ?_
       rotate_left
       ·intro w'
        go_simp
        try with_reducible rfl
       rotate_left
       ·simp only [Act.put, List.setIfInBounds_toArray, List.set_cons_zero, List.set_cons_succ]
        rfl
       refine pure_ (i := 5) (N := (some 122)) (v := ?_) (a' := ?_) #[true, true, true, true, false, true, false, false, false, false, false] rfl rfl (by kernel_rfl) (fun _ _ _ h => h) (Or.inl ⟨by rfl, ?_⟩) ?_ ?_
       rotate_left
       ·intro w'
        go_simp
        try with_reducible rfl
       rotate_left
       ·simp only [Act.put, List.setIfInBounds_toArray, List.set_cons_zero, List.set_cons_succ]
        rfl
       refine take_ (i := 6) (N := (some 123)) (v := ?_) (a' := ?_) #[true, true, true, true, false, true, true, false, false, false, false] rfl rfl (by kernel_rfl) (fun _ _ _ h => h) (Or.inl ⟨by rfl, ?_⟩) hHeld ?_ ?_
       rotate_left
       ·rintro w' ⟨s_, hlk⟩
        have bl := blk_grown BL2.out s_ (by simp; omega)
        have p1 : w'.cell? ⟨wr.heap.size, 1, none⟩ = some (.int .i64 x.f1) := (blk_cell bl 1).trans rfl
        have p4 : w'.cell? ⟨wr.heap.size, 4, none⟩ = some (.int .i64 x.f4) := (blk_cell bl 4).trans rfl
        go_simp
        try with_reducible rfl
       rotate_left
       ·simp only [Act.put, List.setIfInBounds_toArray, List.set_cons_zero, List.set_cons_succ]
        rfl
       refine take_ (i := 4) (N := (some 121)) (v := ?_) (a' := ?_) #[true, true, true, true, true, true, true, false, false, false, false] rfl rfl (by kernel_rfl) (fun _ _ _ h => h) (Or.inl ⟨by rfl, ?_⟩) hHeld ?_ ?_
       rotate_left
       ·rintro w' ⟨s_, hlk⟩
        have bl := blk_grown BL2.out s_ (by simp; omega)
        have p1 : w'.cell? ⟨wr.heap.size, 1, none⟩ = some (.int .i64 x.f1) := (blk_cell bl 1).trans rfl
        have p4 : w'.cell? ⟨wr.heap.size, 4, none⟩ = some (.int .i64 x.f4) := (blk_cell bl 4).trans rfl
        go_simp
        try with_reducible rfl
       rotate_left
       ·simp only [Act.put, List.setIfInBounds_toArray, List.set_cons_zero, List.set_cons_succ]
        rfl
       refine pure_ (i := 7) (N := (some 124)) (v := ?_) (a' := ?_) #[true, true, true, true, true, true, true, true, false, false, false] rfl rfl (by kernel_rfl) (fun _ _ _ h => h) (Or.inl ⟨by rfl, ?_⟩) ?_ ?_
       rotate_left
       ·intro w'
        go_simp
        try with_reducible rfl
       rotate_left
       ·simp only [Act.put, List.setIfInBounds_toArray, List.set_cons_zero, List.set_cons_succ]
        rfl
       refine one_ (i := 8) (N := (some 125)) #[true, true, true, true, true, true, true, true, true, false, false] rfl rfl (by kernel_rfl) (by decide) (fun K hK => ?_)
       refine value_ (w1 := ?_) (v := ?_) (by rfl) rfl ?_ ?_
       rotate_left 2
       ·go_simp
        constructor
        ·rfl
        ·rfl
       refine hK.out _ _ (by exact ⟨HD2.out.trans hg21.out, hlk21⟩) (fun hHeld => ?_)
       clear hK K
       refine norm_ (a' := ?_) ?_ ?_
       rotate_left
       ·show Act.put _ (some 125) _ = _
        simp only [Act.put, List.setIfInBounds_toArray, List.set_cons_zero, List.set_cons_succ]
        rfl
       refine pure_ (i := 9) (N := (some 126)) (v := ?_) (a' := ?_) #[true, true, true, true, true, true, true, true, true, true, false] rfl rfl (by kernel_rfl) (fun _ _ _ h => h) (Or.inl ⟨by rfl, ?_⟩) ?_ ?_
       rotate_left
       ·intro w'
        go_simp
        try with_reducible rfl
       rotate_left
       ·simp only [Act.put, List.setIfInBounds_toArray, List.set_cons_zero, List.set_cons_succ]
        rfl
       refine last_ (i := 10) (N := none) #[true, true, true, true, true, true, true, true, true, true, true] rfl rfl (by kernel_rfl) (by decide) (fun K hK => ?_)
       obtain ⟨s_, hlk⟩ := hHeld
       refine skip_ (w1 := ?_) (by rfl) rfl ?_ ?_
       rotate_left
       ·go_simp
        rfl
       refine hK.out _ _ ?_
       clear hK K
       refine done_ (by kernel_rfl) ?_
       go_wp2
       have hgA := HD2.out.trans hg22.out
       have HB3 := Aside0.mk (HB2.out.grown hgA HB2.out.size (by intro k hk; cases hk; exact Nat.le_refl _))
       have ho2' := ho2.out
       rw [HQW2.out] at ho2'
       go_roundg (e.f3.length - (i + 1).toNat)
       case measure => have := HK.out; omega
       case rel => exact ⟨i + 1, _, by go_num, by omega, by omega, ⟨rfl⟩, ⟨HLN.out HLx.out⟩, ⟨by rw [show 2 * (i + 1).toNat = 2 * i.toNat + 1 + 1 by omega]; exact ho2'⟩, ⟨HST.out wf1 wf2⟩, HB3⟩
      ·have e3 : (x.f3 != x.f4) = true := by simp [z3]
       have HF := Aside0.mk (bP_f (show ¬ LineP f x from fun h => by rcases h.2.2.2.2.2 with q | q; exact q z2; exact z3 q))
       clear z3 z2 c1 c2 c3_ c4_ c5_
       go_wp2_with (first | (go_at_call 39; (with_reducible refine (leafAt_calls _ _ f.chart x.f0 HCh.out _ C1.out _ (Kd.C_below HR.out (below_alloc HBW.out _))).mono ?_); rintro e_ w' ⟨rfl, rfl⟩) | (go_at_call 37; (with_reducible refine (between_calls x.f1 0 (f.dims - 1) _ C2.out _).mono ?_); rintro e_ w' ⟨rfl, rfl⟩) | (go_at_call 37; (with_reducible refine (between_calls x.f2 0 (f.curs - 1) _ C3.out _).mono ?_); rintro e_ w' ⟨rfl, rfl⟩) | (go_at_call 58; (with_reducible refine (amount_calls x.f3 _ C4.out _).mono ?_); rintro e_ w' ⟨rfl, rfl⟩) | (go_at_call 58; (with_reducible refine (amount_calls x.f4 _ C5.out _).mono ?_); rintro e_ w' ⟨rfl, rfl⟩))
       go_ret
       exact ⟨ret_b (HNE.out (bP_iff_f.1 HF.out)).symm, below_alloc HBW.out _⟩
     ·have e2 : (x.f2 == 0) = false := by simp [z2]
      have HLx := Aside0.mk (show LineP f x from ⟨c1, c2, c3_, c4_, c5_, .inl z2⟩)
      clear z2 c1 c2 c3_ c4_ c5_
      have wf1 := wf_small (x := x.f1) (by have := HLx.out.2.1; omega) (by have := HLx.out.2.1; omega)
      have wf2 := wf_small (x := x.f2) (by have := HLx.out.2.2.1; omega) (by have := HLx.out.2.2.1; omega)
      have hn01 : kk 1 x.f1 ≠ kk 0 x.f2 := fun e2 => by have := (kk_inj (a := 1) (b := x.f1) (a' := 0) (b' := x.f2) (by decide) wf1 (by decide) wf2 e2).1; omega
      go_wp2_with (first | (go_at_call 39; (with_reducible refine (leafAt_calls _ _ f.chart x.f0 HCh.out _ C1.out _ (Kd.C_below HR.out (below_alloc HBW.out _))).mono ?_); rintro e_ w' ⟨rfl, rfl⟩) | (go_at_call 37; (with_reducible refine (between_calls x.f1 0 (f.dims - 1) _ C2.out _).mono ?_); rintro e_ w' ⟨rfl, rfl⟩) | (go_at_call 37; (with_reducible refine (between_calls x.f2 0 (f.curs - 1) _ C3.out _).mono ?_); rintro e_ w' ⟨rfl, rfl⟩) | (go_at_call 58; (with_reducible refine (amount_calls x.f3 _ C4.out _).mono ?_); rintro e_ w' ⟨rfl, rfl⟩) | (go_at_call 58; (with_reducible refine (amount_calls x.f4 _ C5.out _).mono ?_); rintro e_ w' ⟨rfl, rfl⟩))
      have HM1 := Aside0.mk (HM.out.alloc (.cells #[.int .i64 x.f0, .int .i64 x.f1, .int .i64 x.f2, .int .i64 x.f3, .int .i64 x.f4] 88 (0, 0)))
      have BL1 := Aside0.mk (blk_new wr (.cells #[.int .i64 x.f0, .int .i64 x.f1, .int .i64 x.f2, .int .i64 x.f3, .int .i64 x.f4] 88 (0, 0)))
      have HB1 := Aside0.mk ((HB.out).alloc HB.out.size (.cells #[.int .i64 x.f0, .int .i64 x.f1, .int .i64 x.f2, .int .i64 x.f3, .int .i64 x.f4] 88 (0, 0)))
      generalize wr.alloc (.cells #[.int .i64 x.f0, .int .i64 x.f1, .int .i64 x.f2, .int .i64 x.f3, .int .i64 x.f4] 88 (0, 0)) = W1 at *
      have HLx := HLx
      obtain ⟨q1, v1, st1, w11, hat1, hlk1, hme1, hlk11, hg11, hsto1⟩ := map_add (w := W1.drew) (b := W0.heap.size) (n := 2 * i.toNat) (D := D) HM1.out (by unfold maxLen; omega) 0 x.f2 (by decide) wf2
      have HQ1 : q1 = pre (gC x.f2) e.f3 i := by
       have e1 := HSm.out.c x.f2 wf2
       rw [hat1] at e1
       injection e1 with e1
       injection e1
      obtain ⟨w12, hst1, ho1, hg12⟩ := hsto1 (IntKind.i64.wrap (q1 + x.f3)) (by rw [i64_w]; exact wrap64_wf _)
      have HQW1 : IntKind.i64.wrap (q1 + x.f3) = pre (gC x.f2) e.f3 i + x.f3 := by have := HPC.out x.f2; have := HLx.out.2.2.2.1; have := HLx.out.2.2.2.2.1; rw [← HQ1] at *; rw [i64_w]; unfold wrap64; omega
      replace HQ1 := Aside0.mk HQ1
      replace HQW1 := Aside0.mk HQW1
      clear hat1 hsto1
      replace ho1 := Aside0.mk ho1
      replace hg11 := Aside0.mk hg11
      replace hg12 := Aside0.mk hg12
      have HD1 := Aside0.mk (grown_drew W1 (some W0.heap.size))
      refine start_ (n := 11) (S := fun w' => W1.grownBy w' (some W0.heap.size) ∧ (Instr.lookup 153 (.map (some W0.heap.size)) (.agg #[.int .i64 0, .int .i64 x.f2]) false).run Tryz.prog w' = .ok (.int .i64 q1) w') (ds := [10]) #[false, false, false, false, false, false, false, false, false, false, false] (by kernel_rfl) rfl rfl (by exact ⟨grown_drew _ _, hlk1⟩) (fun hHeld => ?_)
      generalize W1.drew = wd1 at *
      refine pure_ (i := 0) (N := (some 107)) (v := ?_) (a' := ?_) #[true, false, false, false, false, false, false, false, false, false, false] rfl rfl (by kernel_rfl) (fun _ _ _ h => h) (Or.inl ⟨by rfl, ?_⟩) ?_ ?_
      rotate_left
      ·intro w'
       go_simp
       try with_reducible rfl
      rotate_left
      ·simp only [Act.put, List.setIfInBounds_toArray, List.set_cons_zero, List.set_cons_succ]
       rfl
      refine pure_ (i := 1) (N := (some 108)) (v := ?_) (a' := ?_) #[true, true, false, false, false, false, false, false, false, false, false] rfl rfl (by kernel_rfl) (fun _ _ _ h => h) (Or.inl ⟨by rfl, ?_⟩) ?_ ?_
      rotate_left
      ·intro w'
       go_simp
       try with_reducible rfl
      rotate_left
      ·simp only [Act.put, List.setIfInBounds_toArray, List.set_cons_zero, List.set_cons_succ]
       rfl
      refine take_ (i := 2) (N := (some 109)) (v := ?_) (a' := ?_) #[true, true, true, false, false, false, false, false, false, false, false] rfl rfl (by kernel_rfl) (fun _ _ _ h => h) (Or.inl ⟨by rfl, ?_⟩) hHeld ?_ ?_
      rotate_left
      ·rintro w' ⟨s_, hlk⟩
       have bl := blk_grown BL1.out s_ (by simp; omega)
       have p2 : w'.cell? ⟨wr.heap.size, 2, none⟩ = some (.int .i64 x.f2) := (blk_cell bl 2).trans rfl
       have p3 : w'.cell? ⟨wr.heap.size, 3, none⟩ = some (.int .i64 x.f3) := (blk_cell bl 3).trans rfl
       go_simp
       try with_reducible rfl
      rotate_left
      ·simp only [Act.put, List.setIfInBounds_toArray, List.set_cons_zero, List.set_cons_succ]
       rfl
      refine pure_ (i := 3) (N := (some 110)) (v := ?_) (a' := ?_) #[true, true, true, true, false, false, false, false, false, false, false] rfl rfl (by kernel_rfl) (fun _ _ _ h => h) (Or.inl ⟨by rfl, ?_⟩) ?_ ?_
      rotate_left
      ·intro w'
       go_simp
       try with_reducible rfl
      rotate_left
      ·simp only [Act.put, List.setIfInBounds_toArray, List.set_cons_zero, List.set_cons_succ]
       rfl
      refine pure_ (i := 5) (N := (some 112)) (v := ?_) (a' := ?_) #[true, true, true, true, false, true, false, false, false, false, false] rfl rfl (by kernel_rfl) (fun _ _ _ h => h) (Or.inl ⟨by rfl, ?_⟩) ?_ ?_
      rotate_left
      ·intro w'
       go_simp
       try with_reducible rfl
      rotate_left
      ·simp only [Act.put, List.setIfInBounds_toArray, List.set_cons_zero, List.set_cons_succ]
       rfl
      refine take_ (i := 6) (N := (some 113)) (v := ?_) (a' := ?_) #[true, true, true, true, false, true, true, false, false, false, false] rfl rfl (by kernel_rfl) (fun _ _ _ h => h) (Or.inl ⟨by rfl, ?_⟩) hHeld ?_ ?_
      rotate_left
      ·rintro w' ⟨s_, hlk⟩
       have bl := blk_grown BL1.out s_ (by simp; omega)
       have p2 : w'.cell? ⟨wr.heap.size, 2, none⟩ = some (.int .i64 x.f2) := (blk_cell bl 2).trans rfl
       have p3 : w'.cell? ⟨wr.heap.size, 3, none⟩ = some (.int .i64 x.f3) := (blk_cell bl 3).trans rfl
       go_simp
       try with_reducible rfl
      rotate_left
      ·simp only [Act.put, List.setIfInBounds_toArray, List.set_cons_zero, List.set_cons_succ]
       rfl
      refine take_ (i := 4) (N := (some 111)) (v := ?_) (a' := ?_) #[true, true, true, true, true, true, true, false, false, false, false] rfl rfl (by kernel_rfl) (fun _ _ _ h => h) (Or.inl ⟨by rfl, ?_⟩) hHeld ?_ ?_
      rotate_left
      ·rintro w' ⟨s_, hlk⟩
       have bl := blk_grown BL1.out s_ (by simp; omega)
       have p2 : w'.cell? ⟨wr.heap.size, 2, none⟩ = some (.int .i64 x.f2) := (blk_cell bl 2).trans rfl
       have p3 : w'.cell? ⟨wr.heap.size, 3, none⟩ = some (.int .i64 x.f3) := (blk_cell bl 3).trans rfl
       go_simp
       try with_reducible rfl
      rotate_left
      ·simp only [Act.put, List.setIfInBounds_toArray, List.set_cons_zero, List.set_cons_succ]
       rfl
      refine pure_ (i := 7) (N := (some 114)) (v := ?_) (a' := ?_) #[true, true, true, true, true, true, true, true, false, false, false] rfl rfl (by kernel_rfl) (fun _ _ _ h => h) (Or.inl ⟨by rfl, ?_⟩) ?_ ?_
      rotate_left
      ·intro w'
       go_simp
       try with_reducible rfl
      rotate_left
      ·simp only [Act.put, List.setIfInBounds_toArray, List.set_cons_zero, List.set_cons_succ]
       rfl
      refine one_ (i := 8) (N := (some 115)) #[true, true, true, true, true, true, true, true, true, false, false] rfl rfl (by kernel_rfl) (by decide) (fun K hK => ?_)
      refine value_ (w1 := ?_) (v := ?_) (by rfl) rfl ?_ ?_
      rotate_left 2
      ·go_simp
       constructor
       ·rfl
       ·rfl
      refine hK.out _ _ (by exact ⟨HD1.out.trans hg11.out, hlk11⟩) (fun hHeld => ?_)
      clear hK K
      refine norm_ (a' := ?_) ?_ ?_
      rotate_left
      ·show Act.put _ (some 115) _ = _
       simp only [Act.put, List.setIfInBounds_toArray, List.set_cons_zero, List.set_cons_succ]
       rfl
      refine pure_ (i := 9) (N := (some 116)) (v := ?_) (a' := ?_) #[true, true, true, true, true, true, true, true, true, true, false] rfl rfl (by kernel_rfl) (fun _ _ _ h => h) (Or.inl ⟨by rfl, ?_⟩) ?_ ?_
      rotate_left
      ·intro w'
       go_simp
       try with_reducible rfl
      rotate_left
      ·simp only [Act.put, List.setIfInBounds_toArray, List.set_cons_zero, List.set_cons_succ]
       rfl
      refine last_ (i := 10) (N := none) #[true, true, true, true, true, true, true, true, true, true, true] rfl rfl (by kernel_rfl) (by decide) (fun K hK => ?_)
      obtain ⟨s_, hlk⟩ := hHeld
      refine skip_ (w1 := ?_) (by rfl) rfl ?_ ?_
      rotate_left
      ·go_simp
       rfl
      refine hK.out _ _ ?_
      clear hK K
      refine done_ (by kernel_rfl) ?_
      go_wp2
      have hgA := HD1.out.trans hg12.out
      have BL2 := Aside0.mk (blk_grown BL1.out hgA (by simp; omega))
      have HB2 := Aside0.mk (HB1.out.grown hgA HB1.out.size (by intro k hk; cases hk; exact Nat.le_refl _))
      clear hgA
      have ho1' := ho1.out
      rw [HQW1.out] at ho1'
      have HM2 := Aside0.mk ho1'
      clear ho1 ho1' hlk1 hme1 hlk11 hg11 hst1 hg12 HD1 HM1 BL1 HB1
      obtain ⟨q2, v2, st2, w21, hat2, hlk2, hme2, hlk21, hg21, hsto2⟩ := map_add (w := w12.drew) (b := W0.heap.size) (n := 2 * i.toNat + 1) (D := _) HM2.out (by unfold maxLen; omega) 1 x.f1 (by decide) wf1
      rw [Maps.atKey_put_other hn01] at hat2
      have HQ2 : q2 = pre (gD x.f1) e.f3 i := by
       have e1 := HSm.out.d x.f1 wf1
       rw [hat2] at e1
       injection e1 with e1
       injection e1
      obtain ⟨w22, hst2, ho2, hg22⟩ := hsto2 (IntKind.i64.wrap (q2 + x.f4)) (by rw [i64_w]; exact wrap64_wf _)
      have HQW2 : IntKind.i64.wrap (q2 + x.f4) = pre (gD x.f1) e.f3 i + x.f4 := by have := HPD.out x.f1; have := HLx.out.2.2.2.1; have := HLx.out.2.2.2.2.1; rw [← HQ2] at *; rw [i64_w]; unfold wrap64; omega
      replace HQ2 := Aside0.mk HQ2
      replace HQW2 := Aside0.mk HQW2
      clear hat2 hsto2
      replace ho2 := Aside0.mk ho2
      replace hg21 := Aside0.mk hg21
      replace hg22 := Aside0.mk hg22
      have HD2 := Aside0.mk (grown_drew w12 (some W0.heap.size))
      refine start_ (n := 11) (S := fun w' => w12.grownBy w' (some W0.heap.size) ∧ (Instr.lookup 153 (.map (some W0.heap.size)) (.agg #[.int .i64 1, .int .i64 x.f1]) false).run Tryz.prog w' = .ok (.int .i64 q2) w') (ds := [10]) #[false, false, false, false, false, false, false, false, false, false, false] (by kernel_rfl) rfl rfl (by exact ⟨grown_drew _ _, hlk2⟩) (fun hHeld => ?_)
      generalize w12.drew = wd2 at *
      refine pure_ (i := 0) (N := (some 117)) (v := ?_) (a' := ?_) #[true, false, false, false, false, false, false, false, false, false, false] rfl rfl (by kernel_rfl) (fun _ _ _ h => h) (Or.inl ⟨by rfl, ?_⟩) ?_ ?_
      rotate_left
      ·intro w'
       go_simp
       try with_reducible rfl
      rotate_left
      ·simp only [Act.put, List.setIfInBounds_toArray, List.set_cons_zero, List.set_cons_succ]
       rfl
      refine pure_ (i := 1) (N := (some 118)) (v := ?_) (a' := ?_) #[true, true, false, false, false, false, false, false, false, false, false] rfl rfl (by kernel_rfl) (fun _ _ _ h => h) (Or.inl ⟨by rfl, ?_⟩) ?_ ?_
      rotate_left
      ·intro w'
       go_simp
       try with_reducible rfl
      rotate_left
      ·simp only [Act.put, List.setIfInBounds_toArray, List.set_cons_zero, List.set_cons_succ]
       rfl
      refine take_ (i := 2) (N := (some 119)) (v := ?_) (a' := ?_) #[true, true, true, false, false, false, false, false, false, false, false] rfl rfl (by kernel_rfl) (fun _ _ _ h => h) (Or.inl ⟨by rfl, ?_⟩) hHeld ?_ ?_
      rotate_left
      ·rintro w' ⟨s_, hlk⟩
       have bl := blk_grown BL2.out s_ (by simp; omega)
       have p1 : w'.cell? ⟨wr.heap.size, 1, none⟩ = some (.int .i64 x.f1) := (blk_cell bl 1).trans rfl
       have p4 : w'.cell? ⟨wr.heap.size, 4, none⟩ = some (.int .i64 x.f4) := (blk_cell bl 4).trans rfl
       go_simp
       try with_reducible rfl
      rotate_left
      ·simp only [Act.put, List.setIfInBounds_toArray, List.set_cons_zero, List.set_cons_succ]
       rfl
      refine pure_ (i := 3) (N := (some 120)) (v := ?_) (a' := ?_) #[true, true, true, true, false, false, false, false, false, false, false] rfl rfl (by kernel_rfl) (fun _ _ _ h => h) (Or.inl ⟨by rfl, ?_⟩) ?_ ?_
      rotate_left
      ·intro w'
       go_simp
       try with_reducible rfl
      rotate_left
      ·simp only [Act.put, List.setIfInBounds_toArray, List.set_cons_zero, List.set_cons_succ]
       rfl
      refine pure_ (i := 5) (N := (some 122)) (v := ?_) (a' := ?_) #[true, true, true, true, false, true, false, false, false, false, false] rfl rfl (by kernel_rfl) (fun _ _ _ h => h) (Or.inl ⟨by rfl, ?_⟩) ?_ ?_
      rotate_left
      ·intro w'
       go_simp
       try with_reducible rfl
      rotate_left
      ·simp only [Act.put, List.setIfInBounds_toArray, List.set_cons_zero, List.set_cons_succ]
       rfl
      refine take_ (i := 6) (N := (some 123)) (v := ?_) (a' := ?_) #[true, true, true, true, false, true, true, false, false, false, false] rfl rfl (by kernel_rfl) (fun _ _ _ h => h) (Or.inl ⟨by rfl, ?_⟩) hHeld ?_ ?_
      rotate_left
      ·rintro w' ⟨s_, hlk⟩
       have bl := blk_grown BL2.out s_ (by simp; omega)
       have p1 : w'.cell? ⟨wr.heap.size, 1, none⟩ = some (.int .i64 x.f1) := (blk_cell bl 1).trans rfl
       have p4 : w'.cell? ⟨wr.heap.size, 4, none⟩ = some (.int .i64 x.f4) := (blk_cell bl 4).trans rfl
       go_simp
       try with_reducible rfl
      rotate_left
      ·simp only [Act.put, List.setIfInBounds_toArray, List.set_cons_zero, List.set_cons_succ]
       rfl
      refine take_ (i := 4) (N := (some 121)) (v := ?_) (a' := ?_) #[true, true, true, true, true, true, true, false, false, false, false] rfl rfl (by kernel_rfl) (fun _ _ _ h => h) (Or.inl ⟨by rfl, ?_⟩) hHeld ?_ ?_
      rotate_left
      ·rintro w' ⟨s_, hlk⟩
       have bl := blk_grown BL2.out s_ (by simp; omega)
       have p1 : w'.cell? ⟨wr.heap.size, 1, none⟩ = some (.int .i64 x.f1) := (blk_cell bl 1).trans rfl
       have p4 : w'.cell? ⟨wr.heap.size, 4, none⟩ = some (.int .i64 x.f4) := (blk_cell bl 4).trans rfl
       go_simp
       try with_reducible rfl
      rotate_left
      ·simp only [Act.put, List.setIfInBounds_toArray, List.set_cons_zero, List.set_cons_succ]
       rfl
      refine pure_ (i := 7) (N := (some 124)) (v := ?_) (a' := ?_) #[true, true, true, true, true, true, true, true, false, false, false] rfl rfl (by kernel_rfl) (fun _ _ _ h => h) (Or.inl ⟨by rfl, ?_⟩) ?_ ?_
      rotate_left
      ·intro w'
       go_simp
       try with_reducible rfl
      rotate_left
      ·simp only [Act.put, List.setIfInBounds_toArray, List.set_cons_zero, List.set_cons_succ]
       rfl
      refine one_ (i := 8) (N := (some 125)) #[true, true, true, true, true, true, true, true, true, false, false] rfl rfl (by kernel_rfl) (by decide) (fun K hK => ?_)
      refine value_ (w1 := ?_) (v := ?_) (by rfl) rfl ?_ ?_
      rotate_left 2
      ·go_simp
       constructor
       ·rfl
       ·rfl
      refine hK.out _ _ (by exact ⟨HD2.out.trans hg21.out, hlk21⟩) (fun hHeld => ?_)
      clear hK K
      refine norm_ (a' := ?_) ?_ ?_
      rotate_left
      ·show Act.put _ (some 125) _ = _
       simp only [Act.put, List.setIfInBounds_toArray, List.set_cons_zero, List.set_cons_succ]
       rfl
      refine pure_ (i := 9) (N := (some 126)) (v := ?_) (a' := ?_) #[true, true, true, true, true, true, true, true, true, true, false] rfl rfl (by kernel_rfl) (fun _ _ _ h => h) (Or.inl ⟨by rfl, ?_⟩) ?_ ?_
      rotate_left
      ·intro w'
       go_simp
       try with_reducible rfl
      rotate_left
      ·simp only [Act.put, List.setIfInBounds_toArray, List.set_cons_zero, List.set_cons_succ]
       rfl
      refine last_ (i := 10) (N := none) #[true, true, true, true, true, true, true, true, true, true, true] rfl rfl (by kernel_rfl) (by decide) (fun K hK => ?_)
      obtain ⟨s_, hlk⟩ := hHeld
      refine skip_ (w1 := ?_) (by rfl) rfl ?_ ?_
      rotate_left
      ·go_simp
       rfl
      refine hK.out _ _ ?_
      clear hK K
      refine done_ (by kernel_rfl) ?_
      go_wp2
      have hgA := HD2.out.trans hg22.out
      have HB3 := Aside0.mk (HB2.out.grown hgA HB2.out.size (by intro k hk; cases hk; exact Nat.le_refl _))
      have ho2' := ho2.out
      rw [HQW2.out] at ho2'
      go_roundg (e.f3.length - (i + 1).toNat)
      case measure => have := HK.out; omega
      case rel => exact ⟨i + 1, _, by go_num, by omega, by omega, ⟨rfl⟩, ⟨HLN.out HLx.out⟩, ⟨by rw [show 2 * (i + 1).toNat = 2 * i.toNat + 1 + 1 by omega]; exact ho2'⟩, ⟨HST.out wf1 wf2⟩, HB3⟩
    ·have hie : i = e.f3.length := by omega
     subst hie
     have HWF : Aside0 (∀ j : Int, 0 ≤ j → j < e.f3.length → (Lit.int .i64 (ln e.f3 j).f2).wf = true ∧ (Lit.int .i64 (ln e.f3 j).f1).wf = true) := ⟨fun j j0 j1 => by have h := HL.out j j0 j1; have h1 := h.2.1; have h2 := h.2.2.1; exact ⟨wf_small (by omega) (by omega), wf_small (by omega) (by omega)⟩⟩
     have HEP := Aside0.mk (show (∀ j : Int, 0 ≤ j → j < e.f3.length → sumC (gC (ln e.f3 j).f2) e.f3 = 0 ∧ sumC (gD (ln e.f3 j).f1) e.f3 = 0) → EntryP f e from fun q => ⟨bP_iff.1 C1.out, bP_iff.1 C2.out, HTX.out, ⟨by omega, by omega⟩, HL.out, q⟩)
     have HBW := Aside0.mk (below_step HB0.out HB.out)
     go_wp2_with (at_range; refine wpList_range_own _ rfl _ 153 rfl 154 3 kkeyed Tryz.underlying153 _ W0.heap.size _ D rfl HM.out ?_; intro w5 hrg5 hg5 hs5; have HRG := Aside0.mk hrg5; have HB5 := Aside0.mk (HBW.out.grown hg5 HBW.out.size (by intro k hk; cases hk)); clear hrg5 hg5 hs5)
     try go_frame
     go_loopg [10] (Maps.size D) (fun kq v10 w' => ∃ left : Lit → Bool, Aside0 (w'.ranges Tryz.prog 154 (plainElem (H := Unit) Tryz.prog 3) W0.heap.size wr.heap.size (2 * (e.f3.length : Int).toNat) D left kq) ∧ Aside0 ((∀ kl, left kl = true → Maps.has D kl = true) ∧ ∀ kl, Maps.has D kl = true → left kl = true ∨ D.atKey kl z0 = z0) ∧ Aside0 (Below w.heap.size w w'))
     case atStart => exact ⟨_, HRG, ⟨⟨fun kl h => h, fun kl h => .inl h⟩⟩, HB5⟩
     case round =>
      clear HRG HB5
      obtain ⟨left, HRG, HLf, HB6⟩ := hrel
      have hrw := HRG.out.lt
      go_wp2_with (at_next; refine wpList_next_ranges _ rfl _ rfl 154 kkeyed (plainElem (H := Unit) Tryz.prog 3) id (Value.int .i64) (fun key kl h => ⟨key, rfl⟩) (fun v y hv => by obtain ⟨a, rfl, _⟩ := plainElem_int_inv Tryz.underlying3 hv; exact ⟨a, rfl⟩) W0.heap.size _ _ D left _ rfl HRG.out ?_ ?_)
      ·intro _ hl0
       have HF := Aside0.mk (bP_t (HEP.out (fun j j0 j1 => by
        have h2 := HSm.out.h2 j j0 j1
        have hw := HWF.out j j0 j1
        constructor
        ·have e1 := HSm.out.c _ hw.1
         rcases HLf.out.2 _ h2.1 with q | q
         ·rw [hl0] at q; cases q
         ·rw [q, pre_all] at e1
          injection e1 with e1; injection e1 with _ e1; exact e1.symm
        ·have e1 := HSm.out.d _ hw.2
         rcases HLf.out.2 _ h2.2 with q | q
         ·rw [hl0] at q; cases q
         ·rw [q, pre_all] at e1
          injection e1 with e1; injection e1 with _ e1; exact e1.symm)))
       go_wp2
       go_ret
       exact ⟨ret_b HF.out.symm, HB6.out⟩
      ·intro key cv kl yd yp w6 cnt1 hwk hlk hwc hat hrg1 hlt1 hg1 hs1 hen
       have hy1 : yd = .lit (.int .i64 cv) := by
        obtain ⟨a, ha, hz, _⟩ := plainElem_int_inv Tryz.underlying3 hwc
        injection ha with _ ha
        injection hz with hz
        rw [hz, ha]
       have HAT := Aside0.mk (show D.atKey kl z0 = .lit (.int .i64 cv) by rw [hat, hy1])
       have HRG1 := Aside0.mk hrg1
       have HLK := Aside0.mk hlk
       have HB7 := Aside0.mk (HB6.out.grown hg1 HB6.out.size (by intro k hk; cases hk; exact HBW.out.size))
       replace hlt1 := Aside0.mk hlt1
       clear hwk hlk hwc hat hrg1 hg1 hs1 hy1
       by_cases hc : cv = 0
       ·have hc1 : (cv != 0) = false := by simp [hc]
        have HZ := Aside0.mk hc
        clear hc
        go_wp2
        go_roundg cnt1
        case measure => exact hlt1.out
        case rel =>
         refine ⟨_, HRG1, ⟨⟨fun z hz => HLf.out.1 z (by simp at hz; exact hz.1), fun z hz => ?_⟩⟩, HB7⟩
         rcases HLf.out.2 z hz with q | q
         ·cases hs : z.sameKey kl with
          | true =>
           right
           rw [WideAt.sameKey_eq hs, HAT.out, HZ.out]
          | false => left; rw [q]; rfl
         ·exact .inr q
       ·have hc1 : (cv != 0) = true := by simp [hc]
        have HF := Aside0.mk (bP_f (show ¬ EntryP f e from fun h => by
         obtain ⟨j, j0, j1, hk⟩ := HSm.out.h kl (HLf.out.1 kl HLK.out)
         have hw := HWF.out j j0 j1
         have hz := h.2.2.2.2.2 j j0 j1
         have ha := HAT.out
         rcases hk with hk | hk
         ·rw [hk, HSm.out.c _ hw.1, pre_all, hz.1] at ha
          injection ha with ha; injection ha with _ ha; exact hc ha.symm
         ·rw [hk, HSm.out.d _ hw.2, pre_all, hz.2] at ha
          injection ha with ha; injection ha with _ ha; exact hc ha.symm))
        clear hc
        go_wp2
        go_ret
        exact ⟨ret_b HF.out.symm, HB7.out⟩
end Go.Proofs.YtheaeffhhbjpmaaGreatDoor

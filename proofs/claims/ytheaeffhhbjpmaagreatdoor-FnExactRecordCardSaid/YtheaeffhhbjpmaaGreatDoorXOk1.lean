/- Of the program: whether a ledger is right. -/
import Derived.Test.YtheaeffhhbjpmaaGreatDoorXEi1
namespace Go.Proofs.YtheaeffhhbjpmaaGreatDoor
open Go.RowKit Go.Proofs.YtheaeffhhbjpmaaGreatDoorW.PrintWords Go.Proofs.YtheaeffhhbjpmaaGreatDoorW.PrintLast
set_option linter.unusedVariables false
set_option linter.unusedSimpArgs false
set_option maxRecDepth 100000 in
set_option maxHeartbeats 4000000 in
theorem iLedgerOk_calls (f : FrameD) (A : Option Addr) (c : Nat) (g : LedgD) (A3 : Option Addr) (c3 : Nat) (hs : SzC f.chart) (ht : SzE g.entries) (r : Bool) (h : bP (LedgerP f g) = r) (w : World) (hr : Kd.C k48 w A f.chart.length f.chart) (he : Kd.C k41 w A3 g.entries.length g.entries) :
  Calls Tryz.prog 36 #[.agg #[.slice A f.chart.length c, .int .i64 f.dims, .int .i64 f.curs], .agg #[.slice A3 g.entries.length c3, .int .i64 g.head]] w fun e w' => e = .returned (.bool r) ∧ Below w.heap.size w w' := by
 subst h
 have hu := Tryz.underlying26
 have hu2 := Tryz.underlying29
 have hu3 := Tryz.underlying41
 have HR := Aside0.mk hr
 have HE := Aside0.mk he
 have HS := Aside0.mk hs
 have HT := Aside0.mk ht
 have hm := C_len he
 clear hr he hs ht
 by_cases c1 : FrameP f
 rotate_left
 ·have C1 := Aside0.mk (bP_f c1)
  have HF := Aside0.mk (bP_f (show ¬ LedgerP f g from fun h => c1 h.2.1))
  clear c1
  go_enter Tryz.func36, Tryz.ntmps36
  go_wp2_with (go_at_call 90; (with_reducible refine (iFrameOk_calls f _ _ HS.out _ C1.out _ (Kd.C_below HR.out (by repeat (with_reducible first | assumption | exact Below.refl _ _ | apply below_alloc | apply below_drew1 | apply pw_below_drewN | refine below_set ?_ (by omega) | refine below_step ?_ (by assumption))))).mono ?_); rintro e_ w1 ⟨rfl, hb1⟩)
  go_ret
  exact ⟨ret_b HF.out.symm, (by repeat (with_reducible first | assumption | exact Below.refl _ _ | apply below_alloc | apply below_drew1 | apply pw_below_drewN | refine below_set ?_ (by omega) | refine below_step ?_ (by assumption)))⟩
 have C1 := Aside0.mk (bP_t c1)
 have HFr := Aside0.mk c1
 clear c1
 by_cases hl : 1000 < g.entries.length
 ·have HF := Aside0.mk (bP_f (show ¬ LedgerP f g from fun h => by have := h.1; omega))
  go_enter Tryz.func36, Tryz.ntmps36
  go_wp2_with (go_at_call 90; (with_reducible refine (iFrameOk_calls f _ _ HS.out _ C1.out _ (Kd.C_below HR.out (by repeat (with_reducible first | assumption | exact Below.refl _ _ | apply below_alloc | apply below_drew1 | apply pw_below_drewN | refine below_set ?_ (by omega) | refine below_step ?_ (by assumption))))).mono ?_); rintro e_ w1 ⟨rfl, hb1⟩; have BF1 := Aside0.mk (blk_below (show ((w.alloc (.cells #[.slice A f.chart.length c, .int .i64 f.dims, .int .i64 f.curs] 26 (0, 0))).alloc (.cells #[.slice A3 g.entries.length c3, .int .i64 g.head] 29 (0, 0))).heap[w.heap.size]? = some (.cells #[.slice A f.chart.length c, .int .i64 f.dims, .int .i64 f.curs] 26 (0, 0)) from blk_alloc (blk_new w _) _) hb1); have BG1 := Aside0.mk (blk_below (show ((w.alloc (.cells #[.slice A f.chart.length c, .int .i64 f.dims, .int .i64 f.curs] 26 (0, 0))).alloc (.cells #[.slice A3 g.entries.length c3, .int .i64 g.head] 29 (0, 0))).heap[w.heap.size + 1]? = some (.cells #[.slice A3 g.entries.length c3, .int .i64 g.head] 29 (0, 0)) from blk_new1 w _ _) hb1); have HB1 := Aside0.mk (show Below w.heap.size w w1 from (by repeat (with_reducible first | assumption | exact Below.refl _ _ | apply below_alloc | apply below_drew1 | apply pw_below_drewN | refine below_set ?_ (by omega) | refine below_step ?_ (by assumption)))); clear hb1; have g0 : w1.cell? ⟨w.heap.size + 1, 0, none⟩ = some (.slice A3 g.entries.length c3) := (blk_cell BG1.out 0).trans rfl; have g1 : w1.cell? ⟨w.heap.size + 1, 1, none⟩ = some (.int .i64 g.head) := (blk_cell BG1.out 1).trans rfl)
  go_ret
  exact ⟨ret_b HF.out.symm, HB1.out⟩
 replace hl : g.entries.length ≤ 1000 := by omega
 go_enter Tryz.func36, Tryz.ntmps36
 go_wp2_with (go_at_call 90; (with_reducible refine (iFrameOk_calls f _ _ HS.out _ C1.out _ (Kd.C_below HR.out (by repeat (with_reducible first | assumption | exact Below.refl _ _ | apply below_alloc | apply below_drew1 | apply pw_below_drewN | refine below_set ?_ (by omega) | refine below_step ?_ (by assumption))))).mono ?_); rintro e_ w1 ⟨rfl, hb1⟩; have BF1 := Aside0.mk (blk_below (show ((w.alloc (.cells #[.slice A f.chart.length c, .int .i64 f.dims, .int .i64 f.curs] 26 (0, 0))).alloc (.cells #[.slice A3 g.entries.length c3, .int .i64 g.head] 29 (0, 0))).heap[w.heap.size]? = some (.cells #[.slice A f.chart.length c, .int .i64 f.dims, .int .i64 f.curs] 26 (0, 0)) from blk_alloc (blk_new w _) _) hb1); have BG1 := Aside0.mk (blk_below (show ((w.alloc (.cells #[.slice A f.chart.length c, .int .i64 f.dims, .int .i64 f.curs] 26 (0, 0))).alloc (.cells #[.slice A3 g.entries.length c3, .int .i64 g.head] 29 (0, 0))).heap[w.heap.size + 1]? = some (.cells #[.slice A3 g.entries.length c3, .int .i64 g.head] 29 (0, 0)) from blk_new1 w _ _) hb1); have HB1 := Aside0.mk (show Below w.heap.size w w1 from (by repeat (with_reducible first | assumption | exact Below.refl _ _ | apply below_alloc | apply below_drew1 | apply pw_below_drewN | refine below_set ?_ (by omega) | refine below_step ?_ (by assumption)))); clear hb1; have g0 : w1.cell? ⟨w.heap.size + 1, 0, none⟩ = some (.slice A3 g.entries.length c3) := (blk_cell BG1.out 0).trans rfl; have g1 : w1.cell? ⟨w.heap.size + 1, 1, none⟩ = some (.int .i64 g.head) := (blk_cell BG1.out 1).trans rfl)
 clear g0 g1
 go_loopg [19] g.entries.length (fun kq v19 w' => ∃ i : Int, v19 = .int .i64 i ∧ 0 ≤ i ∧ i ≤ g.entries.length ∧ Aside0 (kq = g.entries.length - i.toNat) ∧ Aside0 (∀ j : Int, 0 ≤ j → j < i → EntryP f (en g.entries j)) ∧ Aside0 (w'.heap[w.heap.size]? = some (.cells #[.slice A f.chart.length c, .int .i64 f.dims, .int .i64 f.curs] 26 (0, 0))) ∧ Aside0 (w'.heap[w.heap.size + 1]? = some (.cells #[.slice A3 g.entries.length c3, .int .i64 g.head] 29 (0, 0))) ∧ Aside0 (Below w.heap.size w w'))
 case atStart => exact ⟨0, rfl, by omega, by omega, ⟨rfl⟩, ⟨fun j h0 h1 => by omega⟩, BF1, BG1, HB1⟩
 case round =>
  clear BF1 BG1 HB1
  obtain ⟨i, rfl, h0, hi, HK, HL, BF, BG, HB⟩ := hrel
  have hz1 : w.heap.size + 1 < wr.heap.size := blk_lt BG.out
  have hz0 : w.heap.size < wr.heap.size := by omega
  by_cases hlt : i < g.entries.length
  ·obtain ⟨ad, A4, c4, e0, x, _, y4⟩ := at41 (Kd.C_below HE.out HB.out) i h0 hlt
   cases e0
   obtain ⟨x0, x1, x2, x3⟩ := x
   have hy2 : (rd_T41 g.entries i).f2.size ≤ 9223372036854775807 := HT.out i h0 hlt
   have HNE := Aside0.mk (show ¬ EntryP f (rd_T41 g.entries i) → bP (LedgerP f g) = false from fun q => bP_f (fun h => q (h.2.2.2 i h0 hlt)))
   have HLN := Aside0.mk (show EntryP f (rd_T41 g.entries i) → ∀ j : Int, 0 ≤ j → j < i + 1 → EntryP f (en g.entries j) from fun q j j0 j1 => by rcases Int.lt_or_eq_of_le (Int.lt_add_one_iff.1 j1) with h | rfl; exact HL.out j j0 h; exact q)
   have HY := Aside0.mk y4
   clear y4
   obtain ⟨y, hy⟩ : ∃ y, rd_T41 g.entries i = y := ⟨_, rfl⟩
   rw [hy] at x0 x1 x2 x3 hy2 HNE HLN HY
   clear hy HL
   have f0 : wr.cell? ⟨w.heap.size, 0, none⟩ = some (.slice A f.chart.length c) := (blk_cell BF.out 0).trans rfl
   have f1 : wr.cell? ⟨w.heap.size, 1, none⟩ = some (.int .i64 f.dims) := (blk_cell BF.out 1).trans rfl
   have f2 : wr.cell? ⟨w.heap.size, 2, none⟩ = some (.int .i64 f.curs) := (blk_cell BF.out 2).trans rfl
   have HYA := Aside0.mk (Kd.C_below HY.out (below_alloc (Below.refl _ _) (.cells #[.int .i64 y.f0, .int .i64 y.f1, .string y.f2, .slice A4 y.f3.length c4] 41 (0, 0))))
   by_cases c2 : EntryP f y
   ·have C2 := Aside0.mk (bP_t c2)
    have HL := Aside0.mk (HLN.out c2)
    clear c2
    go_wp2_with (go_at_call 52; (with_reducible refine (entryIn_calls f _ _ y _ _ HFr.out hy2 _ C2.out _ (Kd.C_below HR.out (below_alloc HB.out _)) HYA.out).mono ?_); rintro e_ w2 ⟨rfl, hb2⟩; have HB2 := Aside0.mk (below_step (below_alloc HB.out _) hb2); have BF2 := Aside0.mk (blk_below (blk_alloc BF.out _) hb2); have BG2 := Aside0.mk (blk_below (blk_alloc BG.out _) hb2); clear hb2)
    go_roundg (g.entries.length - (i + 1).toNat)
    case measure => have := HK.out; omega
    case rel => exact ⟨i + 1, by go_num, by omega, by omega, ⟨rfl⟩, HL, BF2, BG2, HB2⟩
   ·have C2 := Aside0.mk (bP_f c2)
    have HF := Aside0.mk (HNE.out c2)
    clear c2
    go_wp2_with (go_at_call 52; (with_reducible refine (entryIn_calls f _ _ y _ _ HFr.out hy2 _ C2.out _ (Kd.C_below HR.out (below_alloc HB.out _)) HYA.out).mono ?_); rintro e_ w2 ⟨rfl, hb2⟩; have HB2 := Aside0.mk (below_step (below_alloc HB.out _) hb2); clear hb2)
    go_ret
    exact ⟨ret_b HF.out.symm, HB2.out⟩
  ·have HF := Aside0.mk (show bP (g.head = headF g.entries) = bP (LedgerP f g) from bP_congr ⟨fun h => ⟨hl, HFr.out, h, fun j j0 j1 => HL.out j j0 (by omega)⟩, fun h => h.2.2.1⟩)
   obtain ⟨hh, hhe⟩ : ∃ hh, headF g.entries = hh := ⟨_, rfl⟩
   rw [hhe] at HF
   have HH := Aside0.mk hhe
   clear hhe
   go_wp2
   refine start_ (n := 7) (S := fun w' => Below w.heap.size w w' ∧ Below wr.heap.size wr w' ∧ w'.heap[w.heap.size + 1]? = some (.cells #[.slice A3 g.entries.length c3, .int .i64 g.head] 29 (0, 0))) (ds := []) #[false, false, false, false, false, false, false] (by kernel_rfl) rfl rfl (by exact ⟨below_drew HB.out, below_drew (Below.refl _ _), BG.out⟩) (fun hHeld => ?_)
   generalize wr.drew = wd at hHeld ⊢
   refine pure_ (i := 0) (N := (some 28)) (v := ?_) (a' := ?_) #[true, false, false, false, false, false, false] rfl rfl (by kernel_rfl) (fun _ _ _ h => h) (Or.inl ⟨by rfl, ?_⟩) ?_ ?_
   rotate_left
   ·intro w'
    go_simp
    try with_reducible rfl
   rotate_left
   ·simp only [Act.put, List.setIfInBounds_toArray, List.set_cons_zero, List.set_cons_succ]
    rfl
   refine take_ (i := 1) (N := (some 29)) (v := ?_) (a' := ?_) #[true, true, false, false, false, false, false] rfl rfl (by kernel_rfl) (fun _ _ _ h => h) (Or.inl ⟨by rfl, ?_⟩) hHeld ?_ ?_
   rotate_left
   ·rintro w' ⟨s_, s2_, sb⟩
    have g0 : w'.cell? ⟨w.heap.size + 1, 0, none⟩ = some (.slice A3 g.entries.length c3) := (blk_cell sb 0).trans rfl
    have g1 : w'.cell? ⟨w.heap.size + 1, 1, none⟩ = some (.int .i64 g.head) := (blk_cell sb 1).trans rfl
    go_simp
    try with_reducible rfl
   rotate_left
   ·simp only [Act.put, List.setIfInBounds_toArray, List.set_cons_zero, List.set_cons_succ]
    rfl
   refine pure_ (i := 2) (N := (some 30)) (v := ?_) (a' := ?_) #[true, true, true, false, false, false, false] rfl rfl (by kernel_rfl) (fun _ _ _ h => h) (Or.inl ⟨by rfl, ?_⟩) ?_ ?_
   rotate_left
   ·intro w'
    go_simp
    try with_reducible rfl
   rotate_left
   ·simp only [Act.put, List.setIfInBounds_toArray, List.set_cons_zero, List.set_cons_succ]
    rfl
   refine take_ (i := 3) (N := (some 31)) (v := ?_) (a' := ?_) #[true, true, true, true, false, false, false] rfl rfl (by kernel_rfl) (fun _ _ _ h => h) (Or.inl ⟨by rfl, ?_⟩) hHeld ?_ ?_
   rotate_left
   ·rintro w' ⟨s_, s2_, sb⟩
    have g0 : w'.cell? ⟨w.heap.size + 1, 0, none⟩ = some (.slice A3 g.entries.length c3) := (blk_cell sb 0).trans rfl
    have g1 : w'.cell? ⟨w.heap.size + 1, 1, none⟩ = some (.int .i64 g.head) := (blk_cell sb 1).trans rfl
    go_simp
    try with_reducible rfl
   rotate_left
   ·simp only [Act.put, List.setIfInBounds_toArray, List.set_cons_zero, List.set_cons_succ]
    rfl
   refine one_ (i := 4) (N := (some 32)) #[true, true, true, true, true, false, false] rfl rfl (by kernel_rfl) (by decide) (fun K hK => ?_)
   refine goes_ Tryz.func91 (by kernel_rfl) rfl #[.slice A3 g.entries.length c3] (by rfl) rfl rfl (by (try simp only [List.map_toArray, List.map_cons, List.map_nil]); first | done | rfl) ?_
   with_reducible refine (iHeadOf_calls A3 c3 g.entries HT.out _ HH.out _ (Kd.C_below HE.out hHeld.1)).mono ?_
   rintro e_ w2 ⟨rfl, hb2⟩
   refine ⟨_, rfl, ?_⟩
   refine hK.out _ _ (by exact ⟨below_step hHeld.1 hb2, below_step hHeld.2.1 hb2, blk_below hHeld.2.2 hb2⟩) (fun hHeld => ?_)
   clear hK K
   refine norm_ (a' := ?_) ?_ ?_
   rotate_left
   ·show Act.put _ (some 32) _ = _
    simp only [Act.put, List.setIfInBounds_toArray, List.set_cons_zero, List.set_cons_succ]
    rfl
   refine pure_ (i := 5) (N := (some 33)) (v := ?_) (a' := ?_) #[true, true, true, true, true, true, false] rfl rfl (by kernel_rfl) (fun _ _ _ h => h) (Or.inl ⟨by rfl, ?_⟩) ?_ ?_
   rotate_left
   ·intro w'
    go_simp
    try with_reducible rfl
   rotate_left
   ·simp only [Act.put, List.setIfInBounds_toArray, List.set_cons_zero, List.set_cons_succ]
    rfl
   refine pure_ (i := 6) (N := (some 4)) (v := ?_) (a' := ?_) #[true, true, true, true, true, true, true] rfl rfl (by kernel_rfl) (fun _ _ _ h => h) (Or.inl ⟨by rfl, ?_⟩) ?_ ?_
   rotate_left
   ·intro w'
    go_simp
    try with_reducible rfl
   rotate_left
   ·simp only [Act.put, List.setIfInBounds_toArray, List.set_cons_zero, List.set_cons_succ]
    rfl
   refine done_ (by kernel_rfl) ?_
   go_wp2
   go_ret
   refine ⟨ret_b ?_, hHeld.1⟩
   rw [← HF.out]
   by_cases q : g.head = hh
   ·rw [bP_t q]; simp [q]
   ·rw [bP_f q]; simp [q]
end Go.Proofs.YtheaeffhhbjpmaaGreatDoor

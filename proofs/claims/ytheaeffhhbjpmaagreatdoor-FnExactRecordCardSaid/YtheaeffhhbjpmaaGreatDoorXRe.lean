/- Of the program: an entry is recorded; where it is refused, an error that wraps the reason. -/
import Derived.Test.YtheaeffhhbjpmaaGreatDoorXPo
namespace Go.Proofs.YtheaeffhhbjpmaaGreatDoor
open Go.RowKit Go.Proofs.YtheaeffhhbjpmaaGreatDoorW.PrintWords Go.Proofs.YtheaeffhhbjpmaaGreatDoorW.PrintLast
set_option linter.unusedVariables false
set_option linter.unusedSimpArgs false
theorem setcell_far {w : World} {a p : Addr} {v u : Value} (h : w.cell? a = some v) (hne : a.block ≠ p.block) : (w.setCell p u).cell? a = some v := by
 rw [← h]
 exact World.cell?_of_block (Below.heap_setCell w p u a.block hne)
set_option maxRecDepth 100000 in
set_option maxHeartbeats 4000000 in
theorem record_bad (er : Nat → Addr) (a : ABooks) (b : BooksD) (y : S41) (AL : Option Addr) (cL : Nat) (hs : SzB b) (hty : y.f2.size ≤ 9223372036854775807) (h : ¬ BooksP b) (w : World) (hE : Errs w er) (hr : RdB w a b) (hl : Kd.C k88 w AL y.f3.length y.f3) : Calls Tryz.prog 45 #[valB a b, .agg #[.int .i64 y.f0, .int .i64 y.f1, .string y.f2, .slice AL y.f3.length cL]] w fun e w' => ∃ V n cv hd p, e = .returned (.tuple #[.agg #[.slice V n cv, .int .i64 hd], .iface 149 (.pointer (some ⟨p, 0, none⟩))]) ∧ w'.cell? ⟨p, 1, none⟩ = some (.iface 209 (.pointer (some (er 0)))) ∧ Below w.heap.size w w' := by
 have hu := Tryz.underlying32
 have hu2 := Tryz.underlying26
 have hu3 := Tryz.underlying29
 have hu4 := Tryz.underlying41
 have hu5 := Tryz.underlying151
 obtain ⟨A0, c0, A3, c3, A5, c5⟩ := a
 have HEr := Aside0.mk hE
 have HRd := Aside0.mk hr
 have HL := Aside0.mk hl
 have HSz := Aside0.mk hs
 have HSc := Aside0.mk hs.chart
 have HSe := Aside0.mk hs.entries
 clear hE hr hl hs
 have P1 := Aside0.mk (bP_f h)
 clear h
 go_enter Tryz.func45, Tryz.ntmps45
 go_wp2_with (first | (go_at_call 9; (with_reducible refine (iBooksOk_calls ⟨A0, c0, A3, c3, A5, c5⟩ b HSz.out _ P1.out _ (HRd.out.below (by repeat (with_reducible first | assumption | exact Below.refl _ _ | apply below_alloc | apply below_drew1 | apply pw_below_drewN | refine below_set ?_ (by omega) | refine below_step ?_ (by assumption))))).mono ?_); rintro e_ w1 ⟨rfl, hb1⟩; have Ba1 := Aside0.mk (show w1.heap[w.heap.size]? = some (.cells #[.slice A0 b.frame.chart.length c0, .int .i64 b.frame.dims, .int .i64 b.frame.curs, .slice A3 b.ledg.entries.length c3, .int .i64 b.ledg.head, .slice A5 b.periods.length c5, .int .i64 b.closed, .int .i64 b.kept] 32 (0, 0)) from blk_below (blk_alloc (blk_alloc (blk_new w _) _) _) hb1); have qa10 : w1.cell? ⟨w.heap.size, 0, none⟩ = some (.slice A0 b.frame.chart.length c0) := (blk_cell Ba1.out 0).trans rfl; have qa11 : w1.cell? ⟨w.heap.size, 1, none⟩ = some (.int .i64 b.frame.dims) := (blk_cell Ba1.out 1).trans rfl; have qa12 : w1.cell? ⟨w.heap.size, 2, none⟩ = some (.int .i64 b.frame.curs) := (blk_cell Ba1.out 2).trans rfl; have qa13 : w1.cell? ⟨w.heap.size, 3, none⟩ = some (.slice A3 b.ledg.entries.length c3) := (blk_cell Ba1.out 3).trans rfl; have qa14 : w1.cell? ⟨w.heap.size, 4, none⟩ = some (.int .i64 b.ledg.head) := (blk_cell Ba1.out 4).trans rfl; have qa15 : w1.cell? ⟨w.heap.size, 5, none⟩ = some (.slice A5 b.periods.length c5) := (blk_cell Ba1.out 5).trans rfl; have qa16 : w1.cell? ⟨w.heap.size, 6, none⟩ = some (.int .i64 b.closed) := (blk_cell Ba1.out 6).trans rfl; have qa17 : w1.cell? ⟨w.heap.size, 7, none⟩ = some (.int .i64 b.kept) := (blk_cell Ba1.out 7).trans rfl; have Bb1 := Aside0.mk (show w1.heap[w.heap.size + 1]? = some (.cells #[.int .i64 y.f0, .int .i64 y.f1, .string y.f2, .slice AL y.f3.length cL] 41 (0, 0)) from blk_below (blk_alloc (blk_new1 w _ _) _) hb1); have qb10 : w1.cell? ⟨w.heap.size + 1, 0, none⟩ = some (.int .i64 y.f0) := (blk_cell Bb1.out 0).trans rfl; have qb11 : w1.cell? ⟨w.heap.size + 1, 1, none⟩ = some (.int .i64 y.f1) := (blk_cell Bb1.out 1).trans rfl; have qb12 : w1.cell? ⟨w.heap.size + 1, 2, none⟩ = some (.string y.f2) := (blk_cell Bb1.out 2).trans rfl; have qb13 : w1.cell? ⟨w.heap.size + 1, 3, none⟩ = some (.slice AL y.f3.length cL) := (blk_cell Bb1.out 3).trans rfl; have Bc1 := Aside0.mk (show w1.heap[w.heap.size + 1 + 1]? = some (.cells #[.slice none 0 0, .int .i64 0] 29 (0, 0)) from blk_below (blk_new2 w _ _ _) hb1); have qc10 : w1.cell? ⟨w.heap.size + 1 + 1, 0, none⟩ = some (.slice none 0 0) := (blk_cell Bc1.out 0).trans rfl; have fc10 := blk_frozen Bc1.out 0; have qc11 : w1.cell? ⟨w.heap.size + 1 + 1, 1, none⟩ = some (.int .i64 0) := (blk_cell Bc1.out 1).trans rfl; have fc11 := blk_frozen Bc1.out 1; have HB1 := Aside0.mk (show Below w.heap.size w w1 from (by repeat (with_reducible first | assumption | exact Below.refl _ _ | apply below_alloc | apply below_drew1 | apply pw_below_drewN | refine below_set ?_ (by omega) | refine below_step ?_ (by assumption)))); have HE1 := Aside0.mk (HEr.out.below HB1.out); clear hb1; have hz1 : w.heap.size + 1 + 1 < w1.heap.size := blk_lt Bc1.out; have hz10 : w.heap.size < w1.heap.size := (by omega); have hz11 : w.heap.size + 1 < w1.heap.size := (by omega)))
 have hgl : 0 < w.heap.size := cell_lt (HEr.out.g 0 (by decide))
 refine start_ (n := 7) (S := fun w' => Below w.heap.size w w' ∧ w'.heap[w.heap.size + 1 + 1]? = some (.cells #[.slice none 0 0, .int .i64 0] 29 (0, 0)) ∧ w'.cell? ⟨0, 0, none⟩ = some (.iface 209 (.pointer (some (er 0))))) (ds := []) #[false, false, false, false, false, false, false] (by kernel_rfl) rfl rfl (by exact ⟨below_drew HB1.out, blk_drew Bc1.out, HE1.out.g 0 (by decide)⟩) (fun hHeld => ?_)
 generalize w1.drew = wd at hHeld ⊢
 refine pure_ (i := 0) (N := (some 12)) (v := ?_) (a' := ?_) #[true, false, false, false, false, false, false] rfl rfl (by kernel_rfl) (fun _ _ _ h => h) (Or.inl ⟨by rfl, ?_⟩) ?_ ?_
 rotate_left
 ·intro w'
  go_simp
  try with_reducible rfl
 rotate_left
 ·simp only [Act.put, List.setIfInBounds_toArray, List.set_cons_zero, List.set_cons_succ]
  rfl
 refine take_ (i := 1) (N := (some 13)) (v := ?_) (a' := ?_) #[true, true, false, false, false, false, false] rfl rfl (by kernel_rfl) (fun _ _ _ h => h) (Or.inl ⟨by rfl, ?_⟩) hHeld ?_ ?_
 rotate_left
 ·rintro w' ⟨s_, sc, sg⟩
  go_simp
  try with_reducible rfl
 rotate_left
 ·simp only [Act.put, List.setIfInBounds_toArray, List.set_cons_zero, List.set_cons_succ]
  rfl
 refine pure_ (i := 2) (N := (some 14)) (v := ?_) (a' := ?_) #[true, true, true, false, false, false, false] rfl rfl (by kernel_rfl) (fun _ _ _ h => h) (Or.inl ⟨by rfl, ?_⟩) ?_ ?_
 rotate_left
 ·intro w'
  go_simp
  try with_reducible rfl
 rotate_left
 ·simp only [Act.put, List.setIfInBounds_toArray, List.set_cons_zero, List.set_cons_succ]
  rfl
 refine join_ (σ := Nat) 1 #[true, true, true, true, true, true, false] (fun p => [(15, .pointer (some ⟨p, 0, none⟩)), (16, .iface 149 (.pointer (some ⟨p, 0, none⟩)))]) (fun p w' => (Below w.heap.size w w' ∧ w'.heap[w.heap.size + 1 + 1]? = some (.cells #[.slice none 0 0, .int .i64 0] 29 (0, 0)) ∧ w'.cell? ⟨0, 0, none⟩ = some (.iface 209 (.pointer (some (er 0))))) ∧ w'.heap[p]? = some (.cells #[.string ⟨#[114, 101, 99, 111, 114, 100]⟩, .iface 209 (.pointer (some (er 0)))] 151 (0, 0))) ?_ ?_
 rotate_left
 ·intro hcont
  refine two_ (i := 3) (j := 5) (Ni := (some 15)) (Nj := none) #[true, true, true, true, false, false, false] #[true, true, true, false, false, true, false] rfl rfl rfl rfl (by kernel_rfl) (by decide) (by decide) (fun K hK => ?_) (fun K hK => ?_)
  ·have hHeld0 := hHeld
   refine value_ (w1 := ?_) (v := ?_) (by rfl) rfl ?_ ?_
   rotate_left 2
   ·go_simp
    constructor
    ·rfl
    ·rfl
   refine hK.out _ _ (by exact ⟨below_alloc hHeld.1 _, blk_alloc hHeld.2.1 _, pw_cell_below (below_alloc (Below.refl _ _) _) hHeld.2.2⟩) (fun hHeld => ?_)
   clear hK K
   refine norm_ (a' := ?_) ?_ ?_
   rotate_left
   ·show Act.put _ (some 15) _ = _
    simp only [Act.put, List.setIfInBounds_toArray, List.set_cons_zero, List.set_cons_succ]
    rfl
   refine pure_ (i := 4) (N := (some 16)) (v := ?_) (a' := ?_) #[true, true, true, true, true, false, false] rfl rfl (by kernel_rfl) (fun _ _ _ h => h) (Or.inl ⟨by rfl, ?_⟩) ?_ ?_
   rotate_left
   ·intro w'
    go_simp
    try with_reducible rfl
   rotate_left
   ·simp only [Act.put, List.setIfInBounds_toArray, List.set_cons_zero, List.set_cons_succ]
    rfl
   have hbx : (wd.alloc (.cells #[.string ⟨#[114, 101, 99, 111, 114, 100]⟩, .iface 209 (.pointer (some (er 0)))] 151 (0, 0))).heap[wd.heap.size]? = some (.cells #[.string ⟨#[114, 101, 99, 111, 114, 100]⟩, .iface 209 (.pointer (some (er 0)))] 151 (0, 0)) := blk_new wd _
   have hne : wd.heap.size ≠ w.heap.size + 1 + 1 := by have := blk_lt hHeld0.2.1; omega
   generalize wd.alloc (.cells #[.string ⟨#[114, 101, 99, 111, 114, 100]⟩, .iface 209 (.pointer (some (er 0)))] 151 (0, 0)) = wx at *
   refine one_ (i := 5) (N := none) #[true, true, true, true, true, true, false] rfl rfl (by kernel_rfl) (by decide) (fun K hK => ?_)
   obtain ⟨s_, sc, sg⟩ := hHeld
   have z0_ : wx.cell? ⟨w.heap.size + 1 + 1, 0, none⟩ = some (.slice none 0 0) := (blk_cell sc 0).trans rfl
   have z1_ : wx.cell? ⟨w.heap.size + 1 + 1, 1, none⟩ = some (.int .i64 0) := (blk_cell sc 1).trans rfl
   have y0_ := blk_frozen sc 0
   have y1_ := blk_frozen sc 1
   have hzx := blk_lt sc
   refine skip_ (w1 := ?_) (by rfl) rfl ?_ ?_
   rotate_left
   ·go_simp
    rfl
   refine hK.out _ _ (by exact ⟨below_set (below_set s_ (by omega)) (by omega), blk_put (cs' := #[.slice none 0 0, .int .i64 0]) (blk_put (cs' := #[.slice none 0 0, .int .i64 0]) sc 0 _ rfl) 1 _ rfl, (setcell_far (setcell_far sg (by show 0 ≠ w.heap.size + 1 + 1; omega)) (by show 0 ≠ w.heap.size + 1 + 1; omega))⟩) (fun hHeld => ?_)
   clear hK K
   refine norm_ (a' := putAll _ [(15, _), (16, _)]) ?_ (hcont wd.heap.size _ ⟨hHeld, blk_far (blk_far hbx hne _) hne _⟩)
   simp only [putAll, Act.put, List.setIfInBounds_toArray, List.set_cons_zero, List.set_cons_succ]
  ·obtain ⟨s_, sc, sg⟩ := hHeld
   have z0_ : wd.cell? ⟨w.heap.size + 1 + 1, 0, none⟩ = some (.slice none 0 0) := (blk_cell sc 0).trans rfl
   have z1_ : wd.cell? ⟨w.heap.size + 1 + 1, 1, none⟩ = some (.int .i64 0) := (blk_cell sc 1).trans rfl
   have y0_ := blk_frozen sc 0
   have y1_ := blk_frozen sc 1
   have hzx := blk_lt sc
   refine skip_ (w1 := ?_) (by rfl) rfl ?_ ?_
   rotate_left
   ·go_simp
    rfl
   refine hK.out _ _ (by exact ⟨below_set (below_set s_ (by omega)) (by omega), blk_put (cs' := #[.slice none 0 0, .int .i64 0]) (blk_put (cs' := #[.slice none 0 0, .int .i64 0]) sc 0 _ rfl) 1 _ rfl, (setcell_far (setcell_far sg (by show 0 ≠ w.heap.size + 1 + 1; omega)) (by show 0 ≠ w.heap.size + 1 + 1; omega))⟩) (fun hHeld => ?_)
   clear hK K
   generalize ((wd.setCell ⟨w.heap.size + 1 + 1, 0, none⟩ (.slice none 0 0)).setCell ⟨w.heap.size + 1 + 1, 1, none⟩ (.int .i64 0)) = wx at *
   refine one_ (i := 3) (N := (some 15)) #[true, true, true, true, false, true, false] rfl rfl (by kernel_rfl) (by decide) (fun K hK => ?_)
   refine value_ (w1 := ?_) (v := ?_) (by rfl) rfl ?_ ?_
   rotate_left 2
   ·go_simp
    constructor
    ·rfl
    ·rfl
   refine hK.out _ _ (by exact ⟨below_alloc hHeld.1 _, blk_alloc hHeld.2.1 _, pw_cell_below (below_alloc (Below.refl _ _) _) hHeld.2.2⟩) (fun hHeld => ?_)
   clear hK K
   refine norm_ (a' := ?_) ?_ ?_
   rotate_left
   ·show Act.put _ (some 15) _ = _
    simp only [Act.put, List.setIfInBounds_toArray, List.set_cons_zero, List.set_cons_succ]
    rfl
   refine pure_ (i := 4) (N := (some 16)) (v := ?_) (a' := ?_) #[true, true, true, true, true, true, false] rfl rfl (by kernel_rfl) (fun _ _ _ h => h) (Or.inl ⟨by rfl, ?_⟩) ?_ ?_
   rotate_left
   ·intro w'
    go_simp
    try with_reducible rfl
   rotate_left
   ·simp only [Act.put, List.setIfInBounds_toArray, List.set_cons_zero, List.set_cons_succ]
    rfl
   refine norm_ (a' := putAll _ [(15, _), (16, _)]) ?_ (hcont wx.heap.size _ ⟨hHeld, blk_new wx _⟩)
   simp only [putAll, Act.put, List.setIfInBounds_toArray, List.set_cons_zero, List.set_cons_succ]
 rintro p wz ⟨hHeld, hbx⟩
 refine norm_ (a' := ?_) ?_ ?_
 rotate_left
 ·simp only [putAll, Act.put, List.setIfInBounds_toArray, List.set_cons_zero, List.set_cons_succ]
  rfl
 refine pure_ (i := 6) (N := (some 5)) (v := ?_) (a' := ?_) #[true, true, true, true, true, true, true] rfl rfl (by kernel_rfl) (fun _ _ _ h => h) (Or.inl ⟨by rfl, ?_⟩) ?_ ?_
 rotate_left
 ·intro w'
  go_simp
  try with_reducible rfl
 rotate_left
 ·simp only [Act.put, List.setIfInBounds_toArray, List.set_cons_zero, List.set_cons_succ]
  rfl
 refine done_ (by kernel_rfl) ?_
 obtain ⟨s_, sc, sg⟩ := hHeld
 have z0_ : wz.cell? ⟨w.heap.size + 1 + 1, 0, none⟩ = some (.slice none 0 0) := (blk_cell sc 0).trans rfl
 have z1_ : wz.cell? ⟨w.heap.size + 1 + 1, 1, none⟩ = some (.int .i64 0) := (blk_cell sc 1).trans rfl
 have y0_ := blk_frozen sc 0
 have y1_ := blk_frozen sc 1
 go_wp2
 refine bodyPost_ret (v := .tuple #[.agg #[.slice none 0 0, .int .i64 0], .iface 149 (.pointer (some ⟨p, 0, none⟩))]) (by simp [results, Tryz.results45, go_sem, z0_, z1_, y0_, y1_]) rfl ⟨_, _, _, _, p, rfl, (blk_cell hbx 1).trans rfl, s_⟩
set_option maxRecDepth 100000 in
set_option maxHeartbeats 4000000 in
theorem record_entry (er : Nat → Addr) (a : ABooks) (b : BooksD) (y : S41) (AL : Option Addr) (cL : Nat) (hs : SzB b) (hty : y.f2.size ≤ 9223372036854775807) (h : BooksP b) (h2 : ¬ EntryP b.frame y) (w : World) (hE : Errs w er) (hr : RdB w a b) (hl : Kd.C k88 w AL y.f3.length y.f3) : Calls Tryz.prog 45 #[valB a b, .agg #[.int .i64 y.f0, .int .i64 y.f1, .string y.f2, .slice AL y.f3.length cL]] w fun e w' => ∃ V n cv hd p, e = .returned (.tuple #[.agg #[.slice V n cv, .int .i64 hd], .iface 149 (.pointer (some ⟨p, 0, none⟩))]) ∧ w'.cell? ⟨p, 1, none⟩ = some (.iface 209 (.pointer (some (er 1)))) ∧ Below w.heap.size w w' := by
 have hu := Tryz.underlying32
 have hu2 := Tryz.underlying26
 have hu3 := Tryz.underlying29
 have hu4 := Tryz.underlying41
 have hu5 := Tryz.underlying151
 obtain ⟨A0, c0, A3, c3, A5, c5⟩ := a
 have HEr := Aside0.mk hE
 have HRd := Aside0.mk hr
 have HL := Aside0.mk hl
 have HSz := Aside0.mk hs
 have HSc := Aside0.mk hs.chart
 have HSe := Aside0.mk hs.entries
 clear hE hr hl hs
 have P1 := Aside0.mk (bP_t h)
 have HFr := Aside0.mk (show FrameP b.frame from h.1.2.1)
 have HLP := Aside0.mk (show LedgerP b.frame b.ledg from h.1)
 clear h
 have P2 := Aside0.mk (bP_f h2)
 clear h2
 go_enter Tryz.func45, Tryz.ntmps45
 go_wp2_with (first | (go_at_call 9; (with_reducible refine (iBooksOk_calls ⟨A0, c0, A3, c3, A5, c5⟩ b HSz.out _ P1.out _ (HRd.out.below (by repeat (with_reducible first | assumption | exact Below.refl _ _ | apply below_alloc | apply below_drew1 | apply pw_below_drewN | refine below_set ?_ (by omega) | refine below_step ?_ (by assumption))))).mono ?_); rintro e_ w1 ⟨rfl, hb1⟩; have Ba1 := Aside0.mk (show w1.heap[w.heap.size]? = some (.cells #[.slice A0 b.frame.chart.length c0, .int .i64 b.frame.dims, .int .i64 b.frame.curs, .slice A3 b.ledg.entries.length c3, .int .i64 b.ledg.head, .slice A5 b.periods.length c5, .int .i64 b.closed, .int .i64 b.kept] 32 (0, 0)) from blk_below (blk_alloc (blk_alloc (blk_new w _) _) _) hb1); have qa10 : w1.cell? ⟨w.heap.size, 0, none⟩ = some (.slice A0 b.frame.chart.length c0) := (blk_cell Ba1.out 0).trans rfl; have qa11 : w1.cell? ⟨w.heap.size, 1, none⟩ = some (.int .i64 b.frame.dims) := (blk_cell Ba1.out 1).trans rfl; have qa12 : w1.cell? ⟨w.heap.size, 2, none⟩ = some (.int .i64 b.frame.curs) := (blk_cell Ba1.out 2).trans rfl; have qa13 : w1.cell? ⟨w.heap.size, 3, none⟩ = some (.slice A3 b.ledg.entries.length c3) := (blk_cell Ba1.out 3).trans rfl; have qa14 : w1.cell? ⟨w.heap.size, 4, none⟩ = some (.int .i64 b.ledg.head) := (blk_cell Ba1.out 4).trans rfl; have qa15 : w1.cell? ⟨w.heap.size, 5, none⟩ = some (.slice A5 b.periods.length c5) := (blk_cell Ba1.out 5).trans rfl; have qa16 : w1.cell? ⟨w.heap.size, 6, none⟩ = some (.int .i64 b.closed) := (blk_cell Ba1.out 6).trans rfl; have qa17 : w1.cell? ⟨w.heap.size, 7, none⟩ = some (.int .i64 b.kept) := (blk_cell Ba1.out 7).trans rfl; have Bb1 := Aside0.mk (show w1.heap[w.heap.size + 1]? = some (.cells #[.int .i64 y.f0, .int .i64 y.f1, .string y.f2, .slice AL y.f3.length cL] 41 (0, 0)) from blk_below (blk_alloc (blk_new1 w _ _) _) hb1); have qb10 : w1.cell? ⟨w.heap.size + 1, 0, none⟩ = some (.int .i64 y.f0) := (blk_cell Bb1.out 0).trans rfl; have qb11 : w1.cell? ⟨w.heap.size + 1, 1, none⟩ = some (.int .i64 y.f1) := (blk_cell Bb1.out 1).trans rfl; have qb12 : w1.cell? ⟨w.heap.size + 1, 2, none⟩ = some (.string y.f2) := (blk_cell Bb1.out 2).trans rfl; have qb13 : w1.cell? ⟨w.heap.size + 1, 3, none⟩ = some (.slice AL y.f3.length cL) := (blk_cell Bb1.out 3).trans rfl; have Bc1 := Aside0.mk (show w1.heap[w.heap.size + 1 + 1]? = some (.cells #[.slice none 0 0, .int .i64 0] 29 (0, 0)) from blk_below (blk_new2 w _ _ _) hb1); have qc10 : w1.cell? ⟨w.heap.size + 1 + 1, 0, none⟩ = some (.slice none 0 0) := (blk_cell Bc1.out 0).trans rfl; have fc10 := blk_frozen Bc1.out 0; have qc11 : w1.cell? ⟨w.heap.size + 1 + 1, 1, none⟩ = some (.int .i64 0) := (blk_cell Bc1.out 1).trans rfl; have fc11 := blk_frozen Bc1.out 1; have HB1 := Aside0.mk (show Below w.heap.size w w1 from (by repeat (with_reducible first | assumption | exact Below.refl _ _ | apply below_alloc | apply below_drew1 | apply pw_below_drewN | refine below_set ?_ (by omega) | refine below_step ?_ (by assumption)))); have HE1 := Aside0.mk (HEr.out.below HB1.out); clear hb1; have hz1 : w.heap.size + 1 + 1 < w1.heap.size := blk_lt Bc1.out; have hz10 : w.heap.size < w1.heap.size := (by omega); have hz11 : w.heap.size + 1 < w1.heap.size := (by omega)) | (go_at_call 52; (with_reducible refine (entryIn_calls b.frame _ _ y _ _ HFr.out hty _ P2.out _ (Kd.C_below HRd.out.r0 HB1.out) (Kd.C_below HL.out HB1.out)).mono ?_); rintro e_ w2 ⟨rfl, hb2⟩; have Ba2 := Aside0.mk (show w2.heap[w.heap.size]? = some (.cells #[.slice A0 b.frame.chart.length c0, .int .i64 b.frame.dims, .int .i64 b.frame.curs, .slice A3 b.ledg.entries.length c3, .int .i64 b.ledg.head, .slice A5 b.periods.length c5, .int .i64 b.closed, .int .i64 b.kept] 32 (0, 0)) from blk_below Ba1.out hb2); have qa20 : w2.cell? ⟨w.heap.size, 0, none⟩ = some (.slice A0 b.frame.chart.length c0) := (blk_cell Ba2.out 0).trans rfl; have qa21 : w2.cell? ⟨w.heap.size, 1, none⟩ = some (.int .i64 b.frame.dims) := (blk_cell Ba2.out 1).trans rfl; have qa22 : w2.cell? ⟨w.heap.size, 2, none⟩ = some (.int .i64 b.frame.curs) := (blk_cell Ba2.out 2).trans rfl; have qa23 : w2.cell? ⟨w.heap.size, 3, none⟩ = some (.slice A3 b.ledg.entries.length c3) := (blk_cell Ba2.out 3).trans rfl; have qa24 : w2.cell? ⟨w.heap.size, 4, none⟩ = some (.int .i64 b.ledg.head) := (blk_cell Ba2.out 4).trans rfl; have qa25 : w2.cell? ⟨w.heap.size, 5, none⟩ = some (.slice A5 b.periods.length c5) := (blk_cell Ba2.out 5).trans rfl; have qa26 : w2.cell? ⟨w.heap.size, 6, none⟩ = some (.int .i64 b.closed) := (blk_cell Ba2.out 6).trans rfl; have qa27 : w2.cell? ⟨w.heap.size, 7, none⟩ = some (.int .i64 b.kept) := (blk_cell Ba2.out 7).trans rfl; have Bb2 := Aside0.mk (show w2.heap[w.heap.size + 1]? = some (.cells #[.int .i64 y.f0, .int .i64 y.f1, .string y.f2, .slice AL y.f3.length cL] 41 (0, 0)) from blk_below Bb1.out hb2); have qb20 : w2.cell? ⟨w.heap.size + 1, 0, none⟩ = some (.int .i64 y.f0) := (blk_cell Bb2.out 0).trans rfl; have qb21 : w2.cell? ⟨w.heap.size + 1, 1, none⟩ = some (.int .i64 y.f1) := (blk_cell Bb2.out 1).trans rfl; have qb22 : w2.cell? ⟨w.heap.size + 1, 2, none⟩ = some (.string y.f2) := (blk_cell Bb2.out 2).trans rfl; have qb23 : w2.cell? ⟨w.heap.size + 1, 3, none⟩ = some (.slice AL y.f3.length cL) := (blk_cell Bb2.out 3).trans rfl; have Bc2 := Aside0.mk (show w2.heap[w.heap.size + 1 + 1]? = some (.cells #[.slice none 0 0, .int .i64 0] 29 (0, 0)) from blk_below Bc1.out hb2); have qc20 : w2.cell? ⟨w.heap.size + 1 + 1, 0, none⟩ = some (.slice none 0 0) := (blk_cell Bc2.out 0).trans rfl; have fc20 := blk_frozen Bc2.out 0; have qc21 : w2.cell? ⟨w.heap.size + 1 + 1, 1, none⟩ = some (.int .i64 0) := (blk_cell Bc2.out 1).trans rfl; have fc21 := blk_frozen Bc2.out 1; have HB2 := Aside0.mk (below_step HB1.out hb2); have HE2 := Aside0.mk (HEr.out.below HB2.out); clear hb2; have hz2 : w.heap.size + 1 + 1 < w2.heap.size := blk_lt Bc2.out; have hz20 : w.heap.size < w2.heap.size := (by omega); have hz21 : w.heap.size + 1 < w2.heap.size := (by omega)))
 have hgl : 1 < w.heap.size := cell_lt (HEr.out.g 1 (by decide))
 refine start_ (n := 7) (S := fun w' => Below w.heap.size w w' ∧ w'.heap[w.heap.size + 1 + 1]? = some (.cells #[.slice none 0 0, .int .i64 0] 29 (0, 0)) ∧ w'.cell? ⟨1, 0, none⟩ = some (.iface 209 (.pointer (some (er 1))))) (ds := []) #[false, false, false, false, false, false, false] (by kernel_rfl) rfl rfl (by exact ⟨below_drew HB2.out, blk_drew Bc2.out, HE2.out.g 1 (by decide)⟩) (fun hHeld => ?_)
 generalize w2.drew = wd at hHeld ⊢
 refine pure_ (i := 0) (N := (some 22)) (v := ?_) (a' := ?_) #[true, false, false, false, false, false, false] rfl rfl (by kernel_rfl) (fun _ _ _ h => h) (Or.inl ⟨by rfl, ?_⟩) ?_ ?_
 rotate_left
 ·intro w'
  go_simp
  try with_reducible rfl
 rotate_left
 ·simp only [Act.put, List.setIfInBounds_toArray, List.set_cons_zero, List.set_cons_succ]
  rfl
 refine take_ (i := 1) (N := (some 23)) (v := ?_) (a' := ?_) #[true, true, false, false, false, false, false] rfl rfl (by kernel_rfl) (fun _ _ _ h => h) (Or.inl ⟨by rfl, ?_⟩) hHeld ?_ ?_
 rotate_left
 ·rintro w' ⟨s_, sc, sg⟩
  go_simp
  try with_reducible rfl
 rotate_left
 ·simp only [Act.put, List.setIfInBounds_toArray, List.set_cons_zero, List.set_cons_succ]
  rfl
 refine pure_ (i := 2) (N := (some 24)) (v := ?_) (a' := ?_) #[true, true, true, false, false, false, false] rfl rfl (by kernel_rfl) (fun _ _ _ h => h) (Or.inl ⟨by rfl, ?_⟩) ?_ ?_
 rotate_left
 ·intro w'
  go_simp
  try with_reducible rfl
 rotate_left
 ·simp only [Act.put, List.setIfInBounds_toArray, List.set_cons_zero, List.set_cons_succ]
  rfl
 refine join_ (σ := Nat) 1 #[true, true, true, true, true, true, false] (fun p => [(25, .pointer (some ⟨p, 0, none⟩)), (26, .iface 149 (.pointer (some ⟨p, 0, none⟩)))]) (fun p w' => (Below w.heap.size w w' ∧ w'.heap[w.heap.size + 1 + 1]? = some (.cells #[.slice none 0 0, .int .i64 0] 29 (0, 0)) ∧ w'.cell? ⟨1, 0, none⟩ = some (.iface 209 (.pointer (some (er 1))))) ∧ w'.heap[p]? = some (.cells #[.string ⟨#[114, 101, 99, 111, 114, 100]⟩, .iface 209 (.pointer (some (er 1)))] 151 (0, 0))) ?_ ?_
 rotate_left
 ·intro hcont
  refine two_ (i := 3) (j := 5) (Ni := (some 25)) (Nj := none) #[true, true, true, true, false, false, false] #[true, true, true, false, false, true, false] rfl rfl rfl rfl (by kernel_rfl) (by decide) (by decide) (fun K hK => ?_) (fun K hK => ?_)
  ·have hHeld0 := hHeld
   refine value_ (w1 := ?_) (v := ?_) (by rfl) rfl ?_ ?_
   rotate_left 2
   ·go_simp
    constructor
    ·rfl
    ·rfl
   refine hK.out _ _ (by exact ⟨below_alloc hHeld.1 _, blk_alloc hHeld.2.1 _, pw_cell_below (below_alloc (Below.refl _ _) _) hHeld.2.2⟩) (fun hHeld => ?_)
   clear hK K
   refine norm_ (a' := ?_) ?_ ?_
   rotate_left
   ·show Act.put _ (some 25) _ = _
    simp only [Act.put, List.setIfInBounds_toArray, List.set_cons_zero, List.set_cons_succ]
    rfl
   refine pure_ (i := 4) (N := (some 26)) (v := ?_) (a' := ?_) #[true, true, true, true, true, false, false] rfl rfl (by kernel_rfl) (fun _ _ _ h => h) (Or.inl ⟨by rfl, ?_⟩) ?_ ?_
   rotate_left
   ·intro w'
    go_simp
    try with_reducible rfl
   rotate_left
   ·simp only [Act.put, List.setIfInBounds_toArray, List.set_cons_zero, List.set_cons_succ]
    rfl
   have hbx : (wd.alloc (.cells #[.string ⟨#[114, 101, 99, 111, 114, 100]⟩, .iface 209 (.pointer (some (er 1)))] 151 (0, 0))).heap[wd.heap.size]? = some (.cells #[.string ⟨#[114, 101, 99, 111, 114, 100]⟩, .iface 209 (.pointer (some (er 1)))] 151 (0, 0)) := blk_new wd _
   have hne : wd.heap.size ≠ w.heap.size + 1 + 1 := by have := blk_lt hHeld0.2.1; omega
   generalize wd.alloc (.cells #[.string ⟨#[114, 101, 99, 111, 114, 100]⟩, .iface 209 (.pointer (some (er 1)))] 151 (0, 0)) = wx at *
   refine one_ (i := 5) (N := none) #[true, true, true, true, true, true, false] rfl rfl (by kernel_rfl) (by decide) (fun K hK => ?_)
   obtain ⟨s_, sc, sg⟩ := hHeld
   have z0_ : wx.cell? ⟨w.heap.size + 1 + 1, 0, none⟩ = some (.slice none 0 0) := (blk_cell sc 0).trans rfl
   have z1_ : wx.cell? ⟨w.heap.size + 1 + 1, 1, none⟩ = some (.int .i64 0) := (blk_cell sc 1).trans rfl
   have y0_ := blk_frozen sc 0
   have y1_ := blk_frozen sc 1
   have hzx := blk_lt sc
   refine skip_ (w1 := ?_) (by rfl) rfl ?_ ?_
   rotate_left
   ·go_simp
    rfl
   refine hK.out _ _ (by exact ⟨below_set (below_set s_ (by omega)) (by omega), blk_put (cs' := #[.slice none 0 0, .int .i64 0]) (blk_put (cs' := #[.slice none 0 0, .int .i64 0]) sc 0 _ rfl) 1 _ rfl, (setcell_far (setcell_far sg (by show 1 ≠ w.heap.size + 1 + 1; omega)) (by show 1 ≠ w.heap.size + 1 + 1; omega))⟩) (fun hHeld => ?_)
   clear hK K
   refine norm_ (a' := putAll _ [(25, _), (26, _)]) ?_ (hcont wd.heap.size _ ⟨hHeld, blk_far (blk_far hbx hne _) hne _⟩)
   simp only [putAll, Act.put, List.setIfInBounds_toArray, List.set_cons_zero, List.set_cons_succ]
  ·obtain ⟨s_, sc, sg⟩ := hHeld
   have z0_ : wd.cell? ⟨w.heap.size + 1 + 1, 0, none⟩ = some (.slice none 0 0) := (blk_cell sc 0).trans rfl
   have z1_ : wd.cell? ⟨w.heap.size + 1 + 1, 1, none⟩ = some (.int .i64 0) := (blk_cell sc 1).trans rfl
   have y0_ := blk_frozen sc 0
   have y1_ := blk_frozen sc 1
   have hzx := blk_lt sc
   refine skip_ (w1 := ?_) (by rfl) rfl ?_ ?_
   rotate_left
   ·go_simp
    rfl
   refine hK.out _ _ (by exact ⟨below_set (below_set s_ (by omega)) (by omega), blk_put (cs' := #[.slice none 0 0, .int .i64 0]) (blk_put (cs' := #[.slice none 0 0, .int .i64 0]) sc 0 _ rfl) 1 _ rfl, (setcell_far (setcell_far sg (by show 1 ≠ w.heap.size + 1 + 1; omega)) (by show 1 ≠ w.heap.size + 1 + 1; omega))⟩) (fun hHeld => ?_)
   clear hK K
   generalize ((wd.setCell ⟨w.heap.size + 1 + 1, 0, none⟩ (.slice none 0 0)).setCell ⟨w.heap.size + 1 + 1, 1, none⟩ (.int .i64 0)) = wx at *
   refine one_ (i := 3) (N := (some 25)) #[true, true, true, true, false, true, false] rfl rfl (by kernel_rfl) (by decide) (fun K hK => ?_)
   refine value_ (w1 := ?_) (v := ?_) (by rfl) rfl ?_ ?_
   rotate_left 2
   ·go_simp
    constructor
    ·rfl
    ·rfl
   refine hK.out _ _ (by exact ⟨below_alloc hHeld.1 _, blk_alloc hHeld.2.1 _, pw_cell_below (below_alloc (Below.refl _ _) _) hHeld.2.2⟩) (fun hHeld => ?_)
   clear hK K
   refine norm_ (a' := ?_) ?_ ?_
   rotate_left
   ·show Act.put _ (some 25) _ = _
    simp only [Act.put, List.setIfInBounds_toArray, List.set_cons_zero, List.set_cons_succ]
    rfl
   refine pure_ (i := 4) (N := (some 26)) (v := ?_) (a' := ?_) #[true, true, true, true, true, true, false] rfl rfl (by kernel_rfl) (fun _ _ _ h => h) (Or.inl ⟨by rfl, ?_⟩) ?_ ?_
   rotate_left
   ·intro w'
    go_simp
    try with_reducible rfl
   rotate_left
   ·simp only [Act.put, List.setIfInBounds_toArray, List.set_cons_zero, List.set_cons_succ]
    rfl
   refine norm_ (a' := putAll _ [(25, _), (26, _)]) ?_ (hcont wx.heap.size _ ⟨hHeld, blk_new wx _⟩)
   simp only [putAll, Act.put, List.setIfInBounds_toArray, List.set_cons_zero, List.set_cons_succ]
 rintro p wz ⟨hHeld, hbx⟩
 refine norm_ (a' := ?_) ?_ ?_
 rotate_left
 ·simp only [putAll, Act.put, List.setIfInBounds_toArray, List.set_cons_zero, List.set_cons_succ]
  rfl
 refine pure_ (i := 6) (N := (some 5)) (v := ?_) (a' := ?_) #[true, true, true, true, true, true, true] rfl rfl (by kernel_rfl) (fun _ _ _ h => h) (Or.inl ⟨by rfl, ?_⟩) ?_ ?_
 rotate_left
 ·intro w'
  go_simp
  try with_reducible rfl
 rotate_left
 ·simp only [Act.put, List.setIfInBounds_toArray, List.set_cons_zero, List.set_cons_succ]
  rfl
 refine done_ (by kernel_rfl) ?_
 obtain ⟨s_, sc, sg⟩ := hHeld
 have z0_ : wz.cell? ⟨w.heap.size + 1 + 1, 0, none⟩ = some (.slice none 0 0) := (blk_cell sc 0).trans rfl
 have z1_ : wz.cell? ⟨w.heap.size + 1 + 1, 1, none⟩ = some (.int .i64 0) := (blk_cell sc 1).trans rfl
 have y0_ := blk_frozen sc 0
 have y1_ := blk_frozen sc 1
 go_wp2
 refine bodyPost_ret (v := .tuple #[.agg #[.slice none 0 0, .int .i64 0], .iface 149 (.pointer (some ⟨p, 0, none⟩))]) (by simp [results, Tryz.results45, go_sem, z0_, z1_, y0_, y1_]) rfl ⟨_, _, _, _, p, rfl, (blk_cell hbx 1).trans rfl, s_⟩
set_option maxRecDepth 100000 in
set_option maxHeartbeats 4000000 in
theorem record_none (er : Nat → Addr) (a : ABooks) (b : BooksD) (y : S41) (AL : Option Addr) (cL : Nat) (hs : SzB b) (hty : y.f2.size ≤ 9223372036854775807) (h : BooksP b) (h2 : EntryP b.frame y) (h3 : periodAt b.periods y.f0 < 0) (w : World) (hE : Errs w er) (hr : RdB w a b) (hl : Kd.C k88 w AL y.f3.length y.f3) : Calls Tryz.prog 45 #[valB a b, .agg #[.int .i64 y.f0, .int .i64 y.f1, .string y.f2, .slice AL y.f3.length cL]] w fun e w' => ∃ V n cv hd p, e = .returned (.tuple #[.agg #[.slice V n cv, .int .i64 hd], .iface 149 (.pointer (some ⟨p, 0, none⟩))]) ∧ w'.cell? ⟨p, 1, none⟩ = some (.iface 209 (.pointer (some (er 2)))) ∧ Below w.heap.size w w' := by
 have hu := Tryz.underlying32
 have hu2 := Tryz.underlying26
 have hu3 := Tryz.underlying29
 have hu4 := Tryz.underlying41
 have hu5 := Tryz.underlying151
 obtain ⟨A0, c0, A3, c3, A5, c5⟩ := a
 have HEr := Aside0.mk hE
 have HRd := Aside0.mk hr
 have HL := Aside0.mk hl
 have HSz := Aside0.mk hs
 have HSc := Aside0.mk hs.chart
 have HSe := Aside0.mk hs.entries
 clear hE hr hl hs
 have P1 := Aside0.mk (bP_t h)
 have HFr := Aside0.mk (show FrameP b.frame from h.1.2.1)
 have HLP := Aside0.mk (show LedgerP b.frame b.ledg from h.1)
 clear h
 have P2 := Aside0.mk (bP_t h2)
 have HYP := Aside0.mk h2
 clear h2
 obtain ⟨pt, hpt⟩ : ∃ pt, periodAt b.periods y.f0 = pt := ⟨_, rfl⟩
 rw [hpt] at h3
 have P3 := Aside0.mk hpt
 clear hpt
 have d3 : decide (pt < 0) = true := by simp [h3]
 go_enter Tryz.func45, Tryz.ntmps45
 go_wp2_with (first | (go_at_call 9; (with_reducible refine (iBooksOk_calls ⟨A0, c0, A3, c3, A5, c5⟩ b HSz.out _ P1.out _ (HRd.out.below (by repeat (with_reducible first | assumption | exact Below.refl _ _ | apply below_alloc | apply below_drew1 | apply pw_below_drewN | refine below_set ?_ (by omega) | refine below_step ?_ (by assumption))))).mono ?_); rintro e_ w1 ⟨rfl, hb1⟩; have Ba1 := Aside0.mk (show w1.heap[w.heap.size]? = some (.cells #[.slice A0 b.frame.chart.length c0, .int .i64 b.frame.dims, .int .i64 b.frame.curs, .slice A3 b.ledg.entries.length c3, .int .i64 b.ledg.head, .slice A5 b.periods.length c5, .int .i64 b.closed, .int .i64 b.kept] 32 (0, 0)) from blk_below (blk_alloc (blk_alloc (blk_new w _) _) _) hb1); have qa10 : w1.cell? ⟨w.heap.size, 0, none⟩ = some (.slice A0 b.frame.chart.length c0) := (blk_cell Ba1.out 0).trans rfl; have qa11 : w1.cell? ⟨w.heap.size, 1, none⟩ = some (.int .i64 b.frame.dims) := (blk_cell Ba1.out 1).trans rfl; have qa12 : w1.cell? ⟨w.heap.size, 2, none⟩ = some (.int .i64 b.frame.curs) := (blk_cell Ba1.out 2).trans rfl; have qa13 : w1.cell? ⟨w.heap.size, 3, none⟩ = some (.slice A3 b.ledg.entries.length c3) := (blk_cell Ba1.out 3).trans rfl; have qa14 : w1.cell? ⟨w.heap.size, 4, none⟩ = some (.int .i64 b.ledg.head) := (blk_cell Ba1.out 4).trans rfl; have qa15 : w1.cell? ⟨w.heap.size, 5, none⟩ = some (.slice A5 b.periods.length c5) := (blk_cell Ba1.out 5).trans rfl; have qa16 : w1.cell? ⟨w.heap.size, 6, none⟩ = some (.int .i64 b.closed) := (blk_cell Ba1.out 6).trans rfl; have qa17 : w1.cell? ⟨w.heap.size, 7, none⟩ = some (.int .i64 b.kept) := (blk_cell Ba1.out 7).trans rfl; have Bb1 := Aside0.mk (show w1.heap[w.heap.size + 1]? = some (.cells #[.int .i64 y.f0, .int .i64 y.f1, .string y.f2, .slice AL y.f3.length cL] 41 (0, 0)) from blk_below (blk_alloc (blk_new1 w _ _) _) hb1); have qb10 : w1.cell? ⟨w.heap.size + 1, 0, none⟩ = some (.int .i64 y.f0) := (blk_cell Bb1.out 0).trans rfl; have qb11 : w1.cell? ⟨w.heap.size + 1, 1, none⟩ = some (.int .i64 y.f1) := (blk_cell Bb1.out 1).trans rfl; have qb12 : w1.cell? ⟨w.heap.size + 1, 2, none⟩ = some (.string y.f2) := (blk_cell Bb1.out 2).trans rfl; have qb13 : w1.cell? ⟨w.heap.size + 1, 3, none⟩ = some (.slice AL y.f3.length cL) := (blk_cell Bb1.out 3).trans rfl; have Bc1 := Aside0.mk (show w1.heap[w.heap.size + 1 + 1]? = some (.cells #[.slice none 0 0, .int .i64 0] 29 (0, 0)) from blk_below (blk_new2 w _ _ _) hb1); have qc10 : w1.cell? ⟨w.heap.size + 1 + 1, 0, none⟩ = some (.slice none 0 0) := (blk_cell Bc1.out 0).trans rfl; have fc10 := blk_frozen Bc1.out 0; have qc11 : w1.cell? ⟨w.heap.size + 1 + 1, 1, none⟩ = some (.int .i64 0) := (blk_cell Bc1.out 1).trans rfl; have fc11 := blk_frozen Bc1.out 1; have HB1 := Aside0.mk (show Below w.heap.size w w1 from (by repeat (with_reducible first | assumption | exact Below.refl _ _ | apply below_alloc | apply below_drew1 | apply pw_below_drewN | refine below_set ?_ (by omega) | refine below_step ?_ (by assumption)))); have HE1 := Aside0.mk (HEr.out.below HB1.out); clear hb1; have hz1 : w.heap.size + 1 + 1 < w1.heap.size := blk_lt Bc1.out; have hz10 : w.heap.size < w1.heap.size := (by omega); have hz11 : w.heap.size + 1 < w1.heap.size := (by omega)) | (go_at_call 52; (with_reducible refine (entryIn_calls b.frame _ _ y _ _ HFr.out hty _ P2.out _ (Kd.C_below HRd.out.r0 HB1.out) (Kd.C_below HL.out HB1.out)).mono ?_); rintro e_ w2 ⟨rfl, hb2⟩; have Ba2 := Aside0.mk (show w2.heap[w.heap.size]? = some (.cells #[.slice A0 b.frame.chart.length c0, .int .i64 b.frame.dims, .int .i64 b.frame.curs, .slice A3 b.ledg.entries.length c3, .int .i64 b.ledg.head, .slice A5 b.periods.length c5, .int .i64 b.closed, .int .i64 b.kept] 32 (0, 0)) from blk_below Ba1.out hb2); have qa20 : w2.cell? ⟨w.heap.size, 0, none⟩ = some (.slice A0 b.frame.chart.length c0) := (blk_cell Ba2.out 0).trans rfl; have qa21 : w2.cell? ⟨w.heap.size, 1, none⟩ = some (.int .i64 b.frame.dims) := (blk_cell Ba2.out 1).trans rfl; have qa22 : w2.cell? ⟨w.heap.size, 2, none⟩ = some (.int .i64 b.frame.curs) := (blk_cell Ba2.out 2).trans rfl; have qa23 : w2.cell? ⟨w.heap.size, 3, none⟩ = some (.slice A3 b.ledg.entries.length c3) := (blk_cell Ba2.out 3).trans rfl; have qa24 : w2.cell? ⟨w.heap.size, 4, none⟩ = some (.int .i64 b.ledg.head) := (blk_cell Ba2.out 4).trans rfl; have qa25 : w2.cell? ⟨w.heap.size, 5, none⟩ = some (.slice A5 b.periods.length c5) := (blk_cell Ba2.out 5).trans rfl; have qa26 : w2.cell? ⟨w.heap.size, 6, none⟩ = some (.int .i64 b.closed) := (blk_cell Ba2.out 6).trans rfl; have qa27 : w2.cell? ⟨w.heap.size, 7, none⟩ = some (.int .i64 b.kept) := (blk_cell Ba2.out 7).trans rfl; have Bb2 := Aside0.mk (show w2.heap[w.heap.size + 1]? = some (.cells #[.int .i64 y.f0, .int .i64 y.f1, .string y.f2, .slice AL y.f3.length cL] 41 (0, 0)) from blk_below Bb1.out hb2); have qb20 : w2.cell? ⟨w.heap.size + 1, 0, none⟩ = some (.int .i64 y.f0) := (blk_cell Bb2.out 0).trans rfl; have qb21 : w2.cell? ⟨w.heap.size + 1, 1, none⟩ = some (.int .i64 y.f1) := (blk_cell Bb2.out 1).trans rfl; have qb22 : w2.cell? ⟨w.heap.size + 1, 2, none⟩ = some (.string y.f2) := (blk_cell Bb2.out 2).trans rfl; have qb23 : w2.cell? ⟨w.heap.size + 1, 3, none⟩ = some (.slice AL y.f3.length cL) := (blk_cell Bb2.out 3).trans rfl; have Bc2 := Aside0.mk (show w2.heap[w.heap.size + 1 + 1]? = some (.cells #[.slice none 0 0, .int .i64 0] 29 (0, 0)) from blk_below Bc1.out hb2); have qc20 : w2.cell? ⟨w.heap.size + 1 + 1, 0, none⟩ = some (.slice none 0 0) := (blk_cell Bc2.out 0).trans rfl; have fc20 := blk_frozen Bc2.out 0; have qc21 : w2.cell? ⟨w.heap.size + 1 + 1, 1, none⟩ = some (.int .i64 0) := (blk_cell Bc2.out 1).trans rfl; have fc21 := blk_frozen Bc2.out 1; have HB2 := Aside0.mk (below_step HB1.out hb2); have HE2 := Aside0.mk (HEr.out.below HB2.out); clear hb2; have hz2 : w.heap.size + 1 + 1 < w2.heap.size := blk_lt Bc2.out; have hz20 : w.heap.size < w2.heap.size := (by omega); have hz21 : w.heap.size + 1 < w2.heap.size := (by omega)) | (go_at_call 101; (with_reducible refine (iPeriodAt_calls _ _ b.periods y.f0 _ P3.out _ (Kd.C_below HRd.out.r5 HB2.out)).mono ?_); rintro e_ w3 ⟨rfl, hb3⟩; have Ba3 := Aside0.mk (show w3.heap[w.heap.size]? = some (.cells #[.slice A0 b.frame.chart.length c0, .int .i64 b.frame.dims, .int .i64 b.frame.curs, .slice A3 b.ledg.entries.length c3, .int .i64 b.ledg.head, .slice A5 b.periods.length c5, .int .i64 b.closed, .int .i64 b.kept] 32 (0, 0)) from blk_below Ba2.out hb3); have qa30 : w3.cell? ⟨w.heap.size, 0, none⟩ = some (.slice A0 b.frame.chart.length c0) := (blk_cell Ba3.out 0).trans rfl; have qa31 : w3.cell? ⟨w.heap.size, 1, none⟩ = some (.int .i64 b.frame.dims) := (blk_cell Ba3.out 1).trans rfl; have qa32 : w3.cell? ⟨w.heap.size, 2, none⟩ = some (.int .i64 b.frame.curs) := (blk_cell Ba3.out 2).trans rfl; have qa33 : w3.cell? ⟨w.heap.size, 3, none⟩ = some (.slice A3 b.ledg.entries.length c3) := (blk_cell Ba3.out 3).trans rfl; have qa34 : w3.cell? ⟨w.heap.size, 4, none⟩ = some (.int .i64 b.ledg.head) := (blk_cell Ba3.out 4).trans rfl; have qa35 : w3.cell? ⟨w.heap.size, 5, none⟩ = some (.slice A5 b.periods.length c5) := (blk_cell Ba3.out 5).trans rfl; have qa36 : w3.cell? ⟨w.heap.size, 6, none⟩ = some (.int .i64 b.closed) := (blk_cell Ba3.out 6).trans rfl; have qa37 : w3.cell? ⟨w.heap.size, 7, none⟩ = some (.int .i64 b.kept) := (blk_cell Ba3.out 7).trans rfl; have Bb3 := Aside0.mk (show w3.heap[w.heap.size + 1]? = some (.cells #[.int .i64 y.f0, .int .i64 y.f1, .string y.f2, .slice AL y.f3.length cL] 41 (0, 0)) from blk_below Bb2.out hb3); have qb30 : w3.cell? ⟨w.heap.size + 1, 0, none⟩ = some (.int .i64 y.f0) := (blk_cell Bb3.out 0).trans rfl; have qb31 : w3.cell? ⟨w.heap.size + 1, 1, none⟩ = some (.int .i64 y.f1) := (blk_cell Bb3.out 1).trans rfl; have qb32 : w3.cell? ⟨w.heap.size + 1, 2, none⟩ = some (.string y.f2) := (blk_cell Bb3.out 2).trans rfl; have qb33 : w3.cell? ⟨w.heap.size + 1, 3, none⟩ = some (.slice AL y.f3.length cL) := (blk_cell Bb3.out 3).trans rfl; have Bc3 := Aside0.mk (show w3.heap[w.heap.size + 1 + 1]? = some (.cells #[.slice none 0 0, .int .i64 0] 29 (0, 0)) from blk_below Bc2.out hb3); have qc30 : w3.cell? ⟨w.heap.size + 1 + 1, 0, none⟩ = some (.slice none 0 0) := (blk_cell Bc3.out 0).trans rfl; have fc30 := blk_frozen Bc3.out 0; have qc31 : w3.cell? ⟨w.heap.size + 1 + 1, 1, none⟩ = some (.int .i64 0) := (blk_cell Bc3.out 1).trans rfl; have fc31 := blk_frozen Bc3.out 1; have HB3 := Aside0.mk (below_step HB2.out hb3); have HE3 := Aside0.mk (HEr.out.below HB3.out); clear hb3; have hz3 : w.heap.size + 1 + 1 < w3.heap.size := blk_lt Bc3.out; have hz30 : w.heap.size < w3.heap.size := (by omega); have hz31 : w.heap.size + 1 < w3.heap.size := (by omega)))
 have hgl : 2 < w.heap.size := cell_lt (HEr.out.g 2 (by decide))
 refine start_ (n := 7) (S := fun w' => Below w.heap.size w w' ∧ w'.heap[w.heap.size + 1 + 1]? = some (.cells #[.slice none 0 0, .int .i64 0] 29 (0, 0)) ∧ w'.cell? ⟨2, 0, none⟩ = some (.iface 209 (.pointer (some (er 2))))) (ds := []) #[false, false, false, false, false, false, false] (by kernel_rfl) rfl rfl (by exact ⟨below_drew HB3.out, blk_drew Bc3.out, HE3.out.g 2 (by decide)⟩) (fun hHeld => ?_)
 generalize w3.drew = wd at hHeld ⊢
 refine pure_ (i := 0) (N := (some 34)) (v := ?_) (a' := ?_) #[true, false, false, false, false, false, false] rfl rfl (by kernel_rfl) (fun _ _ _ h => h) (Or.inl ⟨by rfl, ?_⟩) ?_ ?_
 rotate_left
 ·intro w'
  go_simp
  try with_reducible rfl
 rotate_left
 ·simp only [Act.put, List.setIfInBounds_toArray, List.set_cons_zero, List.set_cons_succ]
  rfl
 refine take_ (i := 1) (N := (some 35)) (v := ?_) (a' := ?_) #[true, true, false, false, false, false, false] rfl rfl (by kernel_rfl) (fun _ _ _ h => h) (Or.inl ⟨by rfl, ?_⟩) hHeld ?_ ?_
 rotate_left
 ·rintro w' ⟨s_, sc, sg⟩
  go_simp
  try with_reducible rfl
 rotate_left
 ·simp only [Act.put, List.setIfInBounds_toArray, List.set_cons_zero, List.set_cons_succ]
  rfl
 refine pure_ (i := 2) (N := (some 36)) (v := ?_) (a' := ?_) #[true, true, true, false, false, false, false] rfl rfl (by kernel_rfl) (fun _ _ _ h => h) (Or.inl ⟨by rfl, ?_⟩) ?_ ?_
 rotate_left
 ·intro w'
  go_simp
  try with_reducible rfl
 rotate_left
 ·simp only [Act.put, List.setIfInBounds_toArray, List.set_cons_zero, List.set_cons_succ]
  rfl
 refine join_ (σ := Nat) 1 #[true, true, true, true, true, true, false] (fun p => [(37, .pointer (some ⟨p, 0, none⟩)), (38, .iface 149 (.pointer (some ⟨p, 0, none⟩)))]) (fun p w' => (Below w.heap.size w w' ∧ w'.heap[w.heap.size + 1 + 1]? = some (.cells #[.slice none 0 0, .int .i64 0] 29 (0, 0)) ∧ w'.cell? ⟨2, 0, none⟩ = some (.iface 209 (.pointer (some (er 2))))) ∧ w'.heap[p]? = some (.cells #[.string ⟨#[114, 101, 99, 111, 114, 100]⟩, .iface 209 (.pointer (some (er 2)))] 151 (0, 0))) ?_ ?_
 rotate_left
 ·intro hcont
  refine two_ (i := 3) (j := 5) (Ni := (some 37)) (Nj := none) #[true, true, true, true, false, false, false] #[true, true, true, false, false, true, false] rfl rfl rfl rfl (by kernel_rfl) (by decide) (by decide) (fun K hK => ?_) (fun K hK => ?_)
  ·have hHeld0 := hHeld
   refine value_ (w1 := ?_) (v := ?_) (by rfl) rfl ?_ ?_
   rotate_left 2
   ·go_simp
    constructor
    ·rfl
    ·rfl
   refine hK.out _ _ (by exact ⟨below_alloc hHeld.1 _, blk_alloc hHeld.2.1 _, pw_cell_below (below_alloc (Below.refl _ _) _) hHeld.2.2⟩) (fun hHeld => ?_)
   clear hK K
   refine norm_ (a' := ?_) ?_ ?_
   rotate_left
   ·show Act.put _ (some 37) _ = _
    simp only [Act.put, List.setIfInBounds_toArray, List.set_cons_zero, List.set_cons_succ]
    rfl
   refine pure_ (i := 4) (N := (some 38)) (v := ?_) (a' := ?_) #[true, true, true, true, true, false, false] rfl rfl (by kernel_rfl) (fun _ _ _ h => h) (Or.inl ⟨by rfl, ?_⟩) ?_ ?_
   rotate_left
   ·intro w'
    go_simp
    try with_reducible rfl
   rotate_left
   ·simp only [Act.put, List.setIfInBounds_toArray, List.set_cons_zero, List.set_cons_succ]
    rfl
   have hbx : (wd.alloc (.cells #[.string ⟨#[114, 101, 99, 111, 114, 100]⟩, .iface 209 (.pointer (some (er 2)))] 151 (0, 0))).heap[wd.heap.size]? = some (.cells #[.string ⟨#[114, 101, 99, 111, 114, 100]⟩, .iface 209 (.pointer (some (er 2)))] 151 (0, 0)) := blk_new wd _
   have hne : wd.heap.size ≠ w.heap.size + 1 + 1 := by have := blk_lt hHeld0.2.1; omega
   generalize wd.alloc (.cells #[.string ⟨#[114, 101, 99, 111, 114, 100]⟩, .iface 209 (.pointer (some (er 2)))] 151 (0, 0)) = wx at *
   refine one_ (i := 5) (N := none) #[true, true, true, true, true, true, false] rfl rfl (by kernel_rfl) (by decide) (fun K hK => ?_)
   obtain ⟨s_, sc, sg⟩ := hHeld
   have z0_ : wx.cell? ⟨w.heap.size + 1 + 1, 0, none⟩ = some (.slice none 0 0) := (blk_cell sc 0).trans rfl
   have z1_ : wx.cell? ⟨w.heap.size + 1 + 1, 1, none⟩ = some (.int .i64 0) := (blk_cell sc 1).trans rfl
   have y0_ := blk_frozen sc 0
   have y1_ := blk_frozen sc 1
   have hzx := blk_lt sc
   refine skip_ (w1 := ?_) (by rfl) rfl ?_ ?_
   rotate_left
   ·go_simp
    rfl
   refine hK.out _ _ (by exact ⟨below_set (below_set s_ (by omega)) (by omega), blk_put (cs' := #[.slice none 0 0, .int .i64 0]) (blk_put (cs' := #[.slice none 0 0, .int .i64 0]) sc 0 _ rfl) 1 _ rfl, (setcell_far (setcell_far sg (by show 2 ≠ w.heap.size + 1 + 1; omega)) (by show 2 ≠ w.heap.size + 1 + 1; omega))⟩) (fun hHeld => ?_)
   clear hK K
   refine norm_ (a' := putAll _ [(37, _), (38, _)]) ?_ (hcont wd.heap.size _ ⟨hHeld, blk_far (blk_far hbx hne _) hne _⟩)
   simp only [putAll, Act.put, List.setIfInBounds_toArray, List.set_cons_zero, List.set_cons_succ]
  ·obtain ⟨s_, sc, sg⟩ := hHeld
   have z0_ : wd.cell? ⟨w.heap.size + 1 + 1, 0, none⟩ = some (.slice none 0 0) := (blk_cell sc 0).trans rfl
   have z1_ : wd.cell? ⟨w.heap.size + 1 + 1, 1, none⟩ = some (.int .i64 0) := (blk_cell sc 1).trans rfl
   have y0_ := blk_frozen sc 0
   have y1_ := blk_frozen sc 1
   have hzx := blk_lt sc
   refine skip_ (w1 := ?_) (by rfl) rfl ?_ ?_
   rotate_left
   ·go_simp
    rfl
   refine hK.out _ _ (by exact ⟨below_set (below_set s_ (by omega)) (by omega), blk_put (cs' := #[.slice none 0 0, .int .i64 0]) (blk_put (cs' := #[.slice none 0 0, .int .i64 0]) sc 0 _ rfl) 1 _ rfl, (setcell_far (setcell_far sg (by show 2 ≠ w.heap.size + 1 + 1; omega)) (by show 2 ≠ w.heap.size + 1 + 1; omega))⟩) (fun hHeld => ?_)
   clear hK K
   generalize ((wd.setCell ⟨w.heap.size + 1 + 1, 0, none⟩ (.slice none 0 0)).setCell ⟨w.heap.size + 1 + 1, 1, none⟩ (.int .i64 0)) = wx at *
   refine one_ (i := 3) (N := (some 37)) #[true, true, true, true, false, true, false] rfl rfl (by kernel_rfl) (by decide) (fun K hK => ?_)
   refine value_ (w1 := ?_) (v := ?_) (by rfl) rfl ?_ ?_
   rotate_left 2
   ·go_simp
    constructor
    ·rfl
    ·rfl
   refine hK.out _ _ (by exact ⟨below_alloc hHeld.1 _, blk_alloc hHeld.2.1 _, pw_cell_below (below_alloc (Below.refl _ _) _) hHeld.2.2⟩) (fun hHeld => ?_)
   clear hK K
   refine norm_ (a' := ?_) ?_ ?_
   rotate_left
   ·show Act.put _ (some 37) _ = _
    simp only [Act.put, List.setIfInBounds_toArray, List.set_cons_zero, List.set_cons_succ]
    rfl
   refine pure_ (i := 4) (N := (some 38)) (v := ?_) (a' := ?_) #[true, true, true, true, true, true, false] rfl rfl (by kernel_rfl) (fun _ _ _ h => h) (Or.inl ⟨by rfl, ?_⟩) ?_ ?_
   rotate_left
   ·intro w'
    go_simp
    try with_reducible rfl
   rotate_left
   ·simp only [Act.put, List.setIfInBounds_toArray, List.set_cons_zero, List.set_cons_succ]
    rfl
   refine norm_ (a' := putAll _ [(37, _), (38, _)]) ?_ (hcont wx.heap.size _ ⟨hHeld, blk_new wx _⟩)
   simp only [putAll, Act.put, List.setIfInBounds_toArray, List.set_cons_zero, List.set_cons_succ]
 rintro p wz ⟨hHeld, hbx⟩
 refine norm_ (a' := ?_) ?_ ?_
 rotate_left
 ·simp only [putAll, Act.put, List.setIfInBounds_toArray, List.set_cons_zero, List.set_cons_succ]
  rfl
 refine pure_ (i := 6) (N := (some 5)) (v := ?_) (a' := ?_) #[true, true, true, true, true, true, true] rfl rfl (by kernel_rfl) (fun _ _ _ h => h) (Or.inl ⟨by rfl, ?_⟩) ?_ ?_
 rotate_left
 ·intro w'
  go_simp
  try with_reducible rfl
 rotate_left
 ·simp only [Act.put, List.setIfInBounds_toArray, List.set_cons_zero, List.set_cons_succ]
  rfl
 refine done_ (by kernel_rfl) ?_
 obtain ⟨s_, sc, sg⟩ := hHeld
 have z0_ : wz.cell? ⟨w.heap.size + 1 + 1, 0, none⟩ = some (.slice none 0 0) := (blk_cell sc 0).trans rfl
 have z1_ : wz.cell? ⟨w.heap.size + 1 + 1, 1, none⟩ = some (.int .i64 0) := (blk_cell sc 1).trans rfl
 have y0_ := blk_frozen sc 0
 have y1_ := blk_frozen sc 1
 go_wp2
 refine bodyPost_ret (v := .tuple #[.agg #[.slice none 0 0, .int .i64 0], .iface 149 (.pointer (some ⟨p, 0, none⟩))]) (by simp [results, Tryz.results45, go_sem, z0_, z1_, y0_, y1_]) rfl ⟨_, _, _, _, p, rfl, (blk_cell hbx 1).trans rfl, s_⟩
set_option maxRecDepth 100000 in
set_option maxHeartbeats 4000000 in
theorem record_shut (er : Nat → Addr) (a : ABooks) (b : BooksD) (y : S41) (AL : Option Addr) (cL : Nat) (hs : SzB b) (hty : y.f2.size ≤ 9223372036854775807) (h : BooksP b) (h2 : EntryP b.frame y) (h3 : 0 ≤ periodAt b.periods y.f0) (h4 : periodAt b.periods y.f0 < b.closed) (w : World) (hE : Errs w er) (hr : RdB w a b) (hl : Kd.C k88 w AL y.f3.length y.f3) : Calls Tryz.prog 45 #[valB a b, .agg #[.int .i64 y.f0, .int .i64 y.f1, .string y.f2, .slice AL y.f3.length cL]] w fun e w' => ∃ V n cv hd p, e = .returned (.tuple #[.agg #[.slice V n cv, .int .i64 hd], .iface 149 (.pointer (some ⟨p, 0, none⟩))]) ∧ w'.cell? ⟨p, 1, none⟩ = some (.iface 209 (.pointer (some (er 3)))) ∧ Below w.heap.size w w' := by
 have hu := Tryz.underlying32
 have hu2 := Tryz.underlying26
 have hu3 := Tryz.underlying29
 have hu4 := Tryz.underlying41
 have hu5 := Tryz.underlying151
 obtain ⟨A0, c0, A3, c3, A5, c5⟩ := a
 have HEr := Aside0.mk hE
 have HRd := Aside0.mk hr
 have HL := Aside0.mk hl
 have HSz := Aside0.mk hs
 have HSc := Aside0.mk hs.chart
 have HSe := Aside0.mk hs.entries
 clear hE hr hl hs
 have P1 := Aside0.mk (bP_t h)
 have HFr := Aside0.mk (show FrameP b.frame from h.1.2.1)
 have HLP := Aside0.mk (show LedgerP b.frame b.ledg from h.1)
 clear h
 have P2 := Aside0.mk (bP_t h2)
 have HYP := Aside0.mk h2
 clear h2
 obtain ⟨pt, hpt⟩ : ∃ pt, periodAt b.periods y.f0 = pt := ⟨_, rfl⟩
 rw [hpt] at h3
 have P3 := Aside0.mk hpt
 rw [hpt] at h4
 clear hpt
 have d3 : decide (pt < 0) = false := by simp; omega
 have d4 : decide (pt < b.closed) = true := by simp [h4]
 go_enter Tryz.func45, Tryz.ntmps45
 go_wp2_with (first | (go_at_call 9; (with_reducible refine (iBooksOk_calls ⟨A0, c0, A3, c3, A5, c5⟩ b HSz.out _ P1.out _ (HRd.out.below (by repeat (with_reducible first | assumption | exact Below.refl _ _ | apply below_alloc | apply below_drew1 | apply pw_below_drewN | refine below_set ?_ (by omega) | refine below_step ?_ (by assumption))))).mono ?_); rintro e_ w1 ⟨rfl, hb1⟩; have Ba1 := Aside0.mk (show w1.heap[w.heap.size]? = some (.cells #[.slice A0 b.frame.chart.length c0, .int .i64 b.frame.dims, .int .i64 b.frame.curs, .slice A3 b.ledg.entries.length c3, .int .i64 b.ledg.head, .slice A5 b.periods.length c5, .int .i64 b.closed, .int .i64 b.kept] 32 (0, 0)) from blk_below (blk_alloc (blk_alloc (blk_new w _) _) _) hb1); have qa10 : w1.cell? ⟨w.heap.size, 0, none⟩ = some (.slice A0 b.frame.chart.length c0) := (blk_cell Ba1.out 0).trans rfl; have qa11 : w1.cell? ⟨w.heap.size, 1, none⟩ = some (.int .i64 b.frame.dims) := (blk_cell Ba1.out 1).trans rfl; have qa12 : w1.cell? ⟨w.heap.size, 2, none⟩ = some (.int .i64 b.frame.curs) := (blk_cell Ba1.out 2).trans rfl; have qa13 : w1.cell? ⟨w.heap.size, 3, none⟩ = some (.slice A3 b.ledg.entries.length c3) := (blk_cell Ba1.out 3).trans rfl; have qa14 : w1.cell? ⟨w.heap.size, 4, none⟩ = some (.int .i64 b.ledg.head) := (blk_cell Ba1.out 4).trans rfl; have qa15 : w1.cell? ⟨w.heap.size, 5, none⟩ = some (.slice A5 b.periods.length c5) := (blk_cell Ba1.out 5).trans rfl; have qa16 : w1.cell? ⟨w.heap.size, 6, none⟩ = some (.int .i64 b.closed) := (blk_cell Ba1.out 6).trans rfl; have qa17 : w1.cell? ⟨w.heap.size, 7, none⟩ = some (.int .i64 b.kept) := (blk_cell Ba1.out 7).trans rfl; have Bb1 := Aside0.mk (show w1.heap[w.heap.size + 1]? = some (.cells #[.int .i64 y.f0, .int .i64 y.f1, .string y.f2, .slice AL y.f3.length cL] 41 (0, 0)) from blk_below (blk_alloc (blk_new1 w _ _) _) hb1); have qb10 : w1.cell? ⟨w.heap.size + 1, 0, none⟩ = some (.int .i64 y.f0) := (blk_cell Bb1.out 0).trans rfl; have qb11 : w1.cell? ⟨w.heap.size + 1, 1, none⟩ = some (.int .i64 y.f1) := (blk_cell Bb1.out 1).trans rfl; have qb12 : w1.cell? ⟨w.heap.size + 1, 2, none⟩ = some (.string y.f2) := (blk_cell Bb1.out 2).trans rfl; have qb13 : w1.cell? ⟨w.heap.size + 1, 3, none⟩ = some (.slice AL y.f3.length cL) := (blk_cell Bb1.out 3).trans rfl; have Bc1 := Aside0.mk (show w1.heap[w.heap.size + 1 + 1]? = some (.cells #[.slice none 0 0, .int .i64 0] 29 (0, 0)) from blk_below (blk_new2 w _ _ _) hb1); have qc10 : w1.cell? ⟨w.heap.size + 1 + 1, 0, none⟩ = some (.slice none 0 0) := (blk_cell Bc1.out 0).trans rfl; have fc10 := blk_frozen Bc1.out 0; have qc11 : w1.cell? ⟨w.heap.size + 1 + 1, 1, none⟩ = some (.int .i64 0) := (blk_cell Bc1.out 1).trans rfl; have fc11 := blk_frozen Bc1.out 1; have HB1 := Aside0.mk (show Below w.heap.size w w1 from (by repeat (with_reducible first | assumption | exact Below.refl _ _ | apply below_alloc | apply below_drew1 | apply pw_below_drewN | refine below_set ?_ (by omega) | refine below_step ?_ (by assumption)))); have HE1 := Aside0.mk (HEr.out.below HB1.out); clear hb1; have hz1 : w.heap.size + 1 + 1 < w1.heap.size := blk_lt Bc1.out; have hz10 : w.heap.size < w1.heap.size := (by omega); have hz11 : w.heap.size + 1 < w1.heap.size := (by omega)) | (go_at_call 52; (with_reducible refine (entryIn_calls b.frame _ _ y _ _ HFr.out hty _ P2.out _ (Kd.C_below HRd.out.r0 HB1.out) (Kd.C_below HL.out HB1.out)).mono ?_); rintro e_ w2 ⟨rfl, hb2⟩; have Ba2 := Aside0.mk (show w2.heap[w.heap.size]? = some (.cells #[.slice A0 b.frame.chart.length c0, .int .i64 b.frame.dims, .int .i64 b.frame.curs, .slice A3 b.ledg.entries.length c3, .int .i64 b.ledg.head, .slice A5 b.periods.length c5, .int .i64 b.closed, .int .i64 b.kept] 32 (0, 0)) from blk_below Ba1.out hb2); have qa20 : w2.cell? ⟨w.heap.size, 0, none⟩ = some (.slice A0 b.frame.chart.length c0) := (blk_cell Ba2.out 0).trans rfl; have qa21 : w2.cell? ⟨w.heap.size, 1, none⟩ = some (.int .i64 b.frame.dims) := (blk_cell Ba2.out 1).trans rfl; have qa22 : w2.cell? ⟨w.heap.size, 2, none⟩ = some (.int .i64 b.frame.curs) := (blk_cell Ba2.out 2).trans rfl; have qa23 : w2.cell? ⟨w.heap.size, 3, none⟩ = some (.slice A3 b.ledg.entries.length c3) := (blk_cell Ba2.out 3).trans rfl; have qa24 : w2.cell? ⟨w.heap.size, 4, none⟩ = some (.int .i64 b.ledg.head) := (blk_cell Ba2.out 4).trans rfl; have qa25 : w2.cell? ⟨w.heap.size, 5, none⟩ = some (.slice A5 b.periods.length c5) := (blk_cell Ba2.out 5).trans rfl; have qa26 : w2.cell? ⟨w.heap.size, 6, none⟩ = some (.int .i64 b.closed) := (blk_cell Ba2.out 6).trans rfl; have qa27 : w2.cell? ⟨w.heap.size, 7, none⟩ = some (.int .i64 b.kept) := (blk_cell Ba2.out 7).trans rfl; have Bb2 := Aside0.mk (show w2.heap[w.heap.size + 1]? = some (.cells #[.int .i64 y.f0, .int .i64 y.f1, .string y.f2, .slice AL y.f3.length cL] 41 (0, 0)) from blk_below Bb1.out hb2); have qb20 : w2.cell? ⟨w.heap.size + 1, 0, none⟩ = some (.int .i64 y.f0) := (blk_cell Bb2.out 0).trans rfl; have qb21 : w2.cell? ⟨w.heap.size + 1, 1, none⟩ = some (.int .i64 y.f1) := (blk_cell Bb2.out 1).trans rfl; have qb22 : w2.cell? ⟨w.heap.size + 1, 2, none⟩ = some (.string y.f2) := (blk_cell Bb2.out 2).trans rfl; have qb23 : w2.cell? ⟨w.heap.size + 1, 3, none⟩ = some (.slice AL y.f3.length cL) := (blk_cell Bb2.out 3).trans rfl; have Bc2 := Aside0.mk (show w2.heap[w.heap.size + 1 + 1]? = some (.cells #[.slice none 0 0, .int .i64 0] 29 (0, 0)) from blk_below Bc1.out hb2); have qc20 : w2.cell? ⟨w.heap.size + 1 + 1, 0, none⟩ = some (.slice none 0 0) := (blk_cell Bc2.out 0).trans rfl; have fc20 := blk_frozen Bc2.out 0; have qc21 : w2.cell? ⟨w.heap.size + 1 + 1, 1, none⟩ = some (.int .i64 0) := (blk_cell Bc2.out 1).trans rfl; have fc21 := blk_frozen Bc2.out 1; have HB2 := Aside0.mk (below_step HB1.out hb2); have HE2 := Aside0.mk (HEr.out.below HB2.out); clear hb2; have hz2 : w.heap.size + 1 + 1 < w2.heap.size := blk_lt Bc2.out; have hz20 : w.heap.size < w2.heap.size := (by omega); have hz21 : w.heap.size + 1 < w2.heap.size := (by omega)) | (go_at_call 101; (with_reducible refine (iPeriodAt_calls _ _ b.periods y.f0 _ P3.out _ (Kd.C_below HRd.out.r5 HB2.out)).mono ?_); rintro e_ w3 ⟨rfl, hb3⟩; have Ba3 := Aside0.mk (show w3.heap[w.heap.size]? = some (.cells #[.slice A0 b.frame.chart.length c0, .int .i64 b.frame.dims, .int .i64 b.frame.curs, .slice A3 b.ledg.entries.length c3, .int .i64 b.ledg.head, .slice A5 b.periods.length c5, .int .i64 b.closed, .int .i64 b.kept] 32 (0, 0)) from blk_below Ba2.out hb3); have qa30 : w3.cell? ⟨w.heap.size, 0, none⟩ = some (.slice A0 b.frame.chart.length c0) := (blk_cell Ba3.out 0).trans rfl; have qa31 : w3.cell? ⟨w.heap.size, 1, none⟩ = some (.int .i64 b.frame.dims) := (blk_cell Ba3.out 1).trans rfl; have qa32 : w3.cell? ⟨w.heap.size, 2, none⟩ = some (.int .i64 b.frame.curs) := (blk_cell Ba3.out 2).trans rfl; have qa33 : w3.cell? ⟨w.heap.size, 3, none⟩ = some (.slice A3 b.ledg.entries.length c3) := (blk_cell Ba3.out 3).trans rfl; have qa34 : w3.cell? ⟨w.heap.size, 4, none⟩ = some (.int .i64 b.ledg.head) := (blk_cell Ba3.out 4).trans rfl; have qa35 : w3.cell? ⟨w.heap.size, 5, none⟩ = some (.slice A5 b.periods.length c5) := (blk_cell Ba3.out 5).trans rfl; have qa36 : w3.cell? ⟨w.heap.size, 6, none⟩ = some (.int .i64 b.closed) := (blk_cell Ba3.out 6).trans rfl; have qa37 : w3.cell? ⟨w.heap.size, 7, none⟩ = some (.int .i64 b.kept) := (blk_cell Ba3.out 7).trans rfl; have Bb3 := Aside0.mk (show w3.heap[w.heap.size + 1]? = some (.cells #[.int .i64 y.f0, .int .i64 y.f1, .string y.f2, .slice AL y.f3.length cL] 41 (0, 0)) from blk_below Bb2.out hb3); have qb30 : w3.cell? ⟨w.heap.size + 1, 0, none⟩ = some (.int .i64 y.f0) := (blk_cell Bb3.out 0).trans rfl; have qb31 : w3.cell? ⟨w.heap.size + 1, 1, none⟩ = some (.int .i64 y.f1) := (blk_cell Bb3.out 1).trans rfl; have qb32 : w3.cell? ⟨w.heap.size + 1, 2, none⟩ = some (.string y.f2) := (blk_cell Bb3.out 2).trans rfl; have qb33 : w3.cell? ⟨w.heap.size + 1, 3, none⟩ = some (.slice AL y.f3.length cL) := (blk_cell Bb3.out 3).trans rfl; have Bc3 := Aside0.mk (show w3.heap[w.heap.size + 1 + 1]? = some (.cells #[.slice none 0 0, .int .i64 0] 29 (0, 0)) from blk_below Bc2.out hb3); have qc30 : w3.cell? ⟨w.heap.size + 1 + 1, 0, none⟩ = some (.slice none 0 0) := (blk_cell Bc3.out 0).trans rfl; have fc30 := blk_frozen Bc3.out 0; have qc31 : w3.cell? ⟨w.heap.size + 1 + 1, 1, none⟩ = some (.int .i64 0) := (blk_cell Bc3.out 1).trans rfl; have fc31 := blk_frozen Bc3.out 1; have HB3 := Aside0.mk (below_step HB2.out hb3); have HE3 := Aside0.mk (HEr.out.below HB3.out); clear hb3; have hz3 : w.heap.size + 1 + 1 < w3.heap.size := blk_lt Bc3.out; have hz30 : w.heap.size < w3.heap.size := (by omega); have hz31 : w.heap.size + 1 < w3.heap.size := (by omega)))
 have hgl : 3 < w.heap.size := cell_lt (HEr.out.g 3 (by decide))
 refine start_ (n := 7) (S := fun w' => Below w.heap.size w w' ∧ w'.heap[w.heap.size + 1 + 1]? = some (.cells #[.slice none 0 0, .int .i64 0] 29 (0, 0)) ∧ w'.cell? ⟨3, 0, none⟩ = some (.iface 209 (.pointer (some (er 3))))) (ds := []) #[false, false, false, false, false, false, false] (by kernel_rfl) rfl rfl (by exact ⟨below_drew HB3.out, blk_drew Bc3.out, HE3.out.g 3 (by decide)⟩) (fun hHeld => ?_)
 generalize w3.drew = wd at hHeld ⊢
 refine pure_ (i := 0) (N := (some 43)) (v := ?_) (a' := ?_) #[true, false, false, false, false, false, false] rfl rfl (by kernel_rfl) (fun _ _ _ h => h) (Or.inl ⟨by rfl, ?_⟩) ?_ ?_
 rotate_left
 ·intro w'
  go_simp
  try with_reducible rfl
 rotate_left
 ·simp only [Act.put, List.setIfInBounds_toArray, List.set_cons_zero, List.set_cons_succ]
  rfl
 refine take_ (i := 1) (N := (some 44)) (v := ?_) (a' := ?_) #[true, true, false, false, false, false, false] rfl rfl (by kernel_rfl) (fun _ _ _ h => h) (Or.inl ⟨by rfl, ?_⟩) hHeld ?_ ?_
 rotate_left
 ·rintro w' ⟨s_, sc, sg⟩
  go_simp
  try with_reducible rfl
 rotate_left
 ·simp only [Act.put, List.setIfInBounds_toArray, List.set_cons_zero, List.set_cons_succ]
  rfl
 refine pure_ (i := 2) (N := (some 45)) (v := ?_) (a' := ?_) #[true, true, true, false, false, false, false] rfl rfl (by kernel_rfl) (fun _ _ _ h => h) (Or.inl ⟨by rfl, ?_⟩) ?_ ?_
 rotate_left
 ·intro w'
  go_simp
  try with_reducible rfl
 rotate_left
 ·simp only [Act.put, List.setIfInBounds_toArray, List.set_cons_zero, List.set_cons_succ]
  rfl
 refine join_ (σ := Nat) 1 #[true, true, true, true, true, true, false] (fun p => [(46, .pointer (some ⟨p, 0, none⟩)), (47, .iface 149 (.pointer (some ⟨p, 0, none⟩)))]) (fun p w' => (Below w.heap.size w w' ∧ w'.heap[w.heap.size + 1 + 1]? = some (.cells #[.slice none 0 0, .int .i64 0] 29 (0, 0)) ∧ w'.cell? ⟨3, 0, none⟩ = some (.iface 209 (.pointer (some (er 3))))) ∧ w'.heap[p]? = some (.cells #[.string ⟨#[114, 101, 99, 111, 114, 100]⟩, .iface 209 (.pointer (some (er 3)))] 151 (0, 0))) ?_ ?_
 rotate_left
 ·intro hcont
  refine two_ (i := 3) (j := 5) (Ni := (some 46)) (Nj := none) #[true, true, true, true, false, false, false] #[true, true, true, false, false, true, false] rfl rfl rfl rfl (by kernel_rfl) (by decide) (by decide) (fun K hK => ?_) (fun K hK => ?_)
  ·have hHeld0 := hHeld
   refine value_ (w1 := ?_) (v := ?_) (by rfl) rfl ?_ ?_
   rotate_left 2
   ·go_simp
    constructor
    ·rfl
    ·rfl
   refine hK.out _ _ (by exact ⟨below_alloc hHeld.1 _, blk_alloc hHeld.2.1 _, pw_cell_below (below_alloc (Below.refl _ _) _) hHeld.2.2⟩) (fun hHeld => ?_)
   clear hK K
   refine norm_ (a' := ?_) ?_ ?_
   rotate_left
   ·show Act.put _ (some 46) _ = _
    simp only [Act.put, List.setIfInBounds_toArray, List.set_cons_zero, List.set_cons_succ]
    rfl
   refine pure_ (i := 4) (N := (some 47)) (v := ?_) (a' := ?_) #[true, true, true, true, true, false, false] rfl rfl (by kernel_rfl) (fun _ _ _ h => h) (Or.inl ⟨by rfl, ?_⟩) ?_ ?_
   rotate_left
   ·intro w'
    go_simp
    try with_reducible rfl
   rotate_left
   ·simp only [Act.put, List.setIfInBounds_toArray, List.set_cons_zero, List.set_cons_succ]
    rfl
   have hbx : (wd.alloc (.cells #[.string ⟨#[114, 101, 99, 111, 114, 100]⟩, .iface 209 (.pointer (some (er 3)))] 151 (0, 0))).heap[wd.heap.size]? = some (.cells #[.string ⟨#[114, 101, 99, 111, 114, 100]⟩, .iface 209 (.pointer (some (er 3)))] 151 (0, 0)) := blk_new wd _
   have hne : wd.heap.size ≠ w.heap.size + 1 + 1 := by have := blk_lt hHeld0.2.1; omega
   generalize wd.alloc (.cells #[.string ⟨#[114, 101, 99, 111, 114, 100]⟩, .iface 209 (.pointer (some (er 3)))] 151 (0, 0)) = wx at *
   refine one_ (i := 5) (N := none) #[true, true, true, true, true, true, false] rfl rfl (by kernel_rfl) (by decide) (fun K hK => ?_)
   obtain ⟨s_, sc, sg⟩ := hHeld
   have z0_ : wx.cell? ⟨w.heap.size + 1 + 1, 0, none⟩ = some (.slice none 0 0) := (blk_cell sc 0).trans rfl
   have z1_ : wx.cell? ⟨w.heap.size + 1 + 1, 1, none⟩ = some (.int .i64 0) := (blk_cell sc 1).trans rfl
   have y0_ := blk_frozen sc 0
   have y1_ := blk_frozen sc 1
   have hzx := blk_lt sc
   refine skip_ (w1 := ?_) (by rfl) rfl ?_ ?_
   rotate_left
   ·go_simp
    rfl
   refine hK.out _ _ (by exact ⟨below_set (below_set s_ (by omega)) (by omega), blk_put (cs' := #[.slice none 0 0, .int .i64 0]) (blk_put (cs' := #[.slice none 0 0, .int .i64 0]) sc 0 _ rfl) 1 _ rfl, (setcell_far (setcell_far sg (by show 3 ≠ w.heap.size + 1 + 1; omega)) (by show 3 ≠ w.heap.size + 1 + 1; omega))⟩) (fun hHeld => ?_)
   clear hK K
   refine norm_ (a' := putAll _ [(46, _), (47, _)]) ?_ (hcont wd.heap.size _ ⟨hHeld, blk_far (blk_far hbx hne _) hne _⟩)
   simp only [putAll, Act.put, List.setIfInBounds_toArray, List.set_cons_zero, List.set_cons_succ]
  ·obtain ⟨s_, sc, sg⟩ := hHeld
   have z0_ : wd.cell? ⟨w.heap.size + 1 + 1, 0, none⟩ = some (.slice none 0 0) := (blk_cell sc 0).trans rfl
   have z1_ : wd.cell? ⟨w.heap.size + 1 + 1, 1, none⟩ = some (.int .i64 0) := (blk_cell sc 1).trans rfl
   have y0_ := blk_frozen sc 0
   have y1_ := blk_frozen sc 1
   have hzx := blk_lt sc
   refine skip_ (w1 := ?_) (by rfl) rfl ?_ ?_
   rotate_left
   ·go_simp
    rfl
   refine hK.out _ _ (by exact ⟨below_set (below_set s_ (by omega)) (by omega), blk_put (cs' := #[.slice none 0 0, .int .i64 0]) (blk_put (cs' := #[.slice none 0 0, .int .i64 0]) sc 0 _ rfl) 1 _ rfl, (setcell_far (setcell_far sg (by show 3 ≠ w.heap.size + 1 + 1; omega)) (by show 3 ≠ w.heap.size + 1 + 1; omega))⟩) (fun hHeld => ?_)
   clear hK K
   generalize ((wd.setCell ⟨w.heap.size + 1 + 1, 0, none⟩ (.slice none 0 0)).setCell ⟨w.heap.size + 1 + 1, 1, none⟩ (.int .i64 0)) = wx at *
   refine one_ (i := 3) (N := (some 46)) #[true, true, true, true, false, true, false] rfl rfl (by kernel_rfl) (by decide) (fun K hK => ?_)
   refine value_ (w1 := ?_) (v := ?_) (by rfl) rfl ?_ ?_
   rotate_left 2
   ·go_simp
    constructor
    ·rfl
    ·rfl
   refine hK.out _ _ (by exact ⟨below_alloc hHeld.1 _, blk_alloc hHeld.2.1 _, pw_cell_below (below_alloc (Below.refl _ _) _) hHeld.2.2⟩) (fun hHeld => ?_)
   clear hK K
   refine norm_ (a' := ?_) ?_ ?_
   rotate_left
   ·show Act.put _ (some 46) _ = _
    simp only [Act.put, List.setIfInBounds_toArray, List.set_cons_zero, List.set_cons_succ]
    rfl
   refine pure_ (i := 4) (N := (some 47)) (v := ?_) (a' := ?_) #[true, true, true, true, true, true, false] rfl rfl (by kernel_rfl) (fun _ _ _ h => h) (Or.inl ⟨by rfl, ?_⟩) ?_ ?_
   rotate_left
   ·intro w'
    go_simp
    try with_reducible rfl
   rotate_left
   ·simp only [Act.put, List.setIfInBounds_toArray, List.set_cons_zero, List.set_cons_succ]
    rfl
   refine norm_ (a' := putAll _ [(46, _), (47, _)]) ?_ (hcont wx.heap.size _ ⟨hHeld, blk_new wx _⟩)
   simp only [putAll, Act.put, List.setIfInBounds_toArray, List.set_cons_zero, List.set_cons_succ]
 rintro p wz ⟨hHeld, hbx⟩
 refine norm_ (a' := ?_) ?_ ?_
 rotate_left
 ·simp only [putAll, Act.put, List.setIfInBounds_toArray, List.set_cons_zero, List.set_cons_succ]
  rfl
 refine pure_ (i := 6) (N := (some 5)) (v := ?_) (a' := ?_) #[true, true, true, true, true, true, true] rfl rfl (by kernel_rfl) (fun _ _ _ h => h) (Or.inl ⟨by rfl, ?_⟩) ?_ ?_
 rotate_left
 ·intro w'
  go_simp
  try with_reducible rfl
 rotate_left
 ·simp only [Act.put, List.setIfInBounds_toArray, List.set_cons_zero, List.set_cons_succ]
  rfl
 refine done_ (by kernel_rfl) ?_
 obtain ⟨s_, sc, sg⟩ := hHeld
 have z0_ : wz.cell? ⟨w.heap.size + 1 + 1, 0, none⟩ = some (.slice none 0 0) := (blk_cell sc 0).trans rfl
 have z1_ : wz.cell? ⟨w.heap.size + 1 + 1, 1, none⟩ = some (.int .i64 0) := (blk_cell sc 1).trans rfl
 have y0_ := blk_frozen sc 0
 have y1_ := blk_frozen sc 1
 go_wp2
 refine bodyPost_ret (v := .tuple #[.agg #[.slice none 0 0, .int .i64 0], .iface 149 (.pointer (some ⟨p, 0, none⟩))]) (by simp [results, Tryz.results45, go_sem, z0_, z1_, y0_, y1_]) rfl ⟨_, _, _, _, p, rfl, (blk_cell hbx 1).trans rfl, s_⟩
set_option maxRecDepth 100000 in
set_option maxHeartbeats 4000000 in
theorem record_full (er : Nat → Addr) (a : ABooks) (b : BooksD) (y : S41) (AL : Option Addr) (cL : Nat) (hs : SzB b) (hty : y.f2.size ≤ 9223372036854775807) (h : BooksP b) (h2 : EntryP b.frame y) (h3 : 0 ≤ periodAt b.periods y.f0) (h4 : b.closed ≤ periodAt b.periods y.f0) (hn5 : b.ledg.entries.length = 1000) (w : World) (hE : Errs w er) (hr : RdB w a b) (hl : Kd.C k88 w AL y.f3.length y.f3) : Calls Tryz.prog 45 #[valB a b, .agg #[.int .i64 y.f0, .int .i64 y.f1, .string y.f2, .slice AL y.f3.length cL]] w fun e w' => ∃ V n cv hd p, e = .returned (.tuple #[.agg #[.slice V n cv, .int .i64 hd], .iface 149 (.pointer (some ⟨p, 0, none⟩))]) ∧ w'.cell? ⟨p, 1, none⟩ = some (.iface 209 (.pointer (some (er 4)))) ∧ Below w.heap.size w w' := by
 have hu := Tryz.underlying32
 have hu2 := Tryz.underlying26
 have hu3 := Tryz.underlying29
 have hu4 := Tryz.underlying41
 have hu5 := Tryz.underlying151
 obtain ⟨A0, c0, A3, c3, A5, c5⟩ := a
 have HEr := Aside0.mk hE
 have HRd := Aside0.mk hr
 have HL := Aside0.mk hl
 have HSz := Aside0.mk hs
 have HSc := Aside0.mk hs.chart
 have HSe := Aside0.mk hs.entries
 clear hE hr hl hs
 have P1 := Aside0.mk (bP_t h)
 have HFr := Aside0.mk (show FrameP b.frame from h.1.2.1)
 have HLP := Aside0.mk (show LedgerP b.frame b.ledg from h.1)
 clear h
 have P2 := Aside0.mk (bP_t h2)
 have HYP := Aside0.mk h2
 clear h2
 obtain ⟨pt, hpt⟩ : ∃ pt, periodAt b.periods y.f0 = pt := ⟨_, rfl⟩
 rw [hpt] at h3
 have P3 := Aside0.mk hpt
 rw [hpt] at h4
 clear hpt
 have d3 : decide (pt < 0) = false := by simp; omega
 have d4 : decide (pt < b.closed) = false := by simp; omega
 replace hn5 := Aside0.mk hn5
 go_enter Tryz.func45, Tryz.ntmps45
 go_wp2_with (first | (go_at_call 9; (with_reducible refine (iBooksOk_calls ⟨A0, c0, A3, c3, A5, c5⟩ b HSz.out _ P1.out _ (HRd.out.below (by repeat (with_reducible first | assumption | exact Below.refl _ _ | apply below_alloc | apply below_drew1 | apply pw_below_drewN | refine below_set ?_ (by omega) | refine below_step ?_ (by assumption))))).mono ?_); rintro e_ w1 ⟨rfl, hb1⟩; have Ba1 := Aside0.mk (show w1.heap[w.heap.size]? = some (.cells #[.slice A0 b.frame.chart.length c0, .int .i64 b.frame.dims, .int .i64 b.frame.curs, .slice A3 b.ledg.entries.length c3, .int .i64 b.ledg.head, .slice A5 b.periods.length c5, .int .i64 b.closed, .int .i64 b.kept] 32 (0, 0)) from blk_below (blk_alloc (blk_alloc (blk_new w _) _) _) hb1); have qa10 : w1.cell? ⟨w.heap.size, 0, none⟩ = some (.slice A0 b.frame.chart.length c0) := (blk_cell Ba1.out 0).trans rfl; have qa11 : w1.cell? ⟨w.heap.size, 1, none⟩ = some (.int .i64 b.frame.dims) := (blk_cell Ba1.out 1).trans rfl; have qa12 : w1.cell? ⟨w.heap.size, 2, none⟩ = some (.int .i64 b.frame.curs) := (blk_cell Ba1.out 2).trans rfl; have qa13 : w1.cell? ⟨w.heap.size, 3, none⟩ = some (.slice A3 b.ledg.entries.length c3) := (blk_cell Ba1.out 3).trans rfl; have qa14 : w1.cell? ⟨w.heap.size, 4, none⟩ = some (.int .i64 b.ledg.head) := (blk_cell Ba1.out 4).trans rfl; have qa15 : w1.cell? ⟨w.heap.size, 5, none⟩ = some (.slice A5 b.periods.length c5) := (blk_cell Ba1.out 5).trans rfl; have qa16 : w1.cell? ⟨w.heap.size, 6, none⟩ = some (.int .i64 b.closed) := (blk_cell Ba1.out 6).trans rfl; have qa17 : w1.cell? ⟨w.heap.size, 7, none⟩ = some (.int .i64 b.kept) := (blk_cell Ba1.out 7).trans rfl; have Bb1 := Aside0.mk (show w1.heap[w.heap.size + 1]? = some (.cells #[.int .i64 y.f0, .int .i64 y.f1, .string y.f2, .slice AL y.f3.length cL] 41 (0, 0)) from blk_below (blk_alloc (blk_new1 w _ _) _) hb1); have qb10 : w1.cell? ⟨w.heap.size + 1, 0, none⟩ = some (.int .i64 y.f0) := (blk_cell Bb1.out 0).trans rfl; have qb11 : w1.cell? ⟨w.heap.size + 1, 1, none⟩ = some (.int .i64 y.f1) := (blk_cell Bb1.out 1).trans rfl; have qb12 : w1.cell? ⟨w.heap.size + 1, 2, none⟩ = some (.string y.f2) := (blk_cell Bb1.out 2).trans rfl; have qb13 : w1.cell? ⟨w.heap.size + 1, 3, none⟩ = some (.slice AL y.f3.length cL) := (blk_cell Bb1.out 3).trans rfl; have Bc1 := Aside0.mk (show w1.heap[w.heap.size + 1 + 1]? = some (.cells #[.slice none 0 0, .int .i64 0] 29 (0, 0)) from blk_below (blk_new2 w _ _ _) hb1); have qc10 : w1.cell? ⟨w.heap.size + 1 + 1, 0, none⟩ = some (.slice none 0 0) := (blk_cell Bc1.out 0).trans rfl; have fc10 := blk_frozen Bc1.out 0; have qc11 : w1.cell? ⟨w.heap.size + 1 + 1, 1, none⟩ = some (.int .i64 0) := (blk_cell Bc1.out 1).trans rfl; have fc11 := blk_frozen Bc1.out 1; have HB1 := Aside0.mk (show Below w.heap.size w w1 from (by repeat (with_reducible first | assumption | exact Below.refl _ _ | apply below_alloc | apply below_drew1 | apply pw_below_drewN | refine below_set ?_ (by omega) | refine below_step ?_ (by assumption)))); have HE1 := Aside0.mk (HEr.out.below HB1.out); clear hb1; have hz1 : w.heap.size + 1 + 1 < w1.heap.size := blk_lt Bc1.out; have hz10 : w.heap.size < w1.heap.size := (by omega); have hz11 : w.heap.size + 1 < w1.heap.size := (by omega)) | (go_at_call 52; (with_reducible refine (entryIn_calls b.frame _ _ y _ _ HFr.out hty _ P2.out _ (Kd.C_below HRd.out.r0 HB1.out) (Kd.C_below HL.out HB1.out)).mono ?_); rintro e_ w2 ⟨rfl, hb2⟩; have Ba2 := Aside0.mk (show w2.heap[w.heap.size]? = some (.cells #[.slice A0 b.frame.chart.length c0, .int .i64 b.frame.dims, .int .i64 b.frame.curs, .slice A3 b.ledg.entries.length c3, .int .i64 b.ledg.head, .slice A5 b.periods.length c5, .int .i64 b.closed, .int .i64 b.kept] 32 (0, 0)) from blk_below Ba1.out hb2); have qa20 : w2.cell? ⟨w.heap.size, 0, none⟩ = some (.slice A0 b.frame.chart.length c0) := (blk_cell Ba2.out 0).trans rfl; have qa21 : w2.cell? ⟨w.heap.size, 1, none⟩ = some (.int .i64 b.frame.dims) := (blk_cell Ba2.out 1).trans rfl; have qa22 : w2.cell? ⟨w.heap.size, 2, none⟩ = some (.int .i64 b.frame.curs) := (blk_cell Ba2.out 2).trans rfl; have qa23 : w2.cell? ⟨w.heap.size, 3, none⟩ = some (.slice A3 b.ledg.entries.length c3) := (blk_cell Ba2.out 3).trans rfl; have qa24 : w2.cell? ⟨w.heap.size, 4, none⟩ = some (.int .i64 b.ledg.head) := (blk_cell Ba2.out 4).trans rfl; have qa25 : w2.cell? ⟨w.heap.size, 5, none⟩ = some (.slice A5 b.periods.length c5) := (blk_cell Ba2.out 5).trans rfl; have qa26 : w2.cell? ⟨w.heap.size, 6, none⟩ = some (.int .i64 b.closed) := (blk_cell Ba2.out 6).trans rfl; have qa27 : w2.cell? ⟨w.heap.size, 7, none⟩ = some (.int .i64 b.kept) := (blk_cell Ba2.out 7).trans rfl; have Bb2 := Aside0.mk (show w2.heap[w.heap.size + 1]? = some (.cells #[.int .i64 y.f0, .int .i64 y.f1, .string y.f2, .slice AL y.f3.length cL] 41 (0, 0)) from blk_below Bb1.out hb2); have qb20 : w2.cell? ⟨w.heap.size + 1, 0, none⟩ = some (.int .i64 y.f0) := (blk_cell Bb2.out 0).trans rfl; have qb21 : w2.cell? ⟨w.heap.size + 1, 1, none⟩ = some (.int .i64 y.f1) := (blk_cell Bb2.out 1).trans rfl; have qb22 : w2.cell? ⟨w.heap.size + 1, 2, none⟩ = some (.string y.f2) := (blk_cell Bb2.out 2).trans rfl; have qb23 : w2.cell? ⟨w.heap.size + 1, 3, none⟩ = some (.slice AL y.f3.length cL) := (blk_cell Bb2.out 3).trans rfl; have Bc2 := Aside0.mk (show w2.heap[w.heap.size + 1 + 1]? = some (.cells #[.slice none 0 0, .int .i64 0] 29 (0, 0)) from blk_below Bc1.out hb2); have qc20 : w2.cell? ⟨w.heap.size + 1 + 1, 0, none⟩ = some (.slice none 0 0) := (blk_cell Bc2.out 0).trans rfl; have fc20 := blk_frozen Bc2.out 0; have qc21 : w2.cell? ⟨w.heap.size + 1 + 1, 1, none⟩ = some (.int .i64 0) := (blk_cell Bc2.out 1).trans rfl; have fc21 := blk_frozen Bc2.out 1; have HB2 := Aside0.mk (below_step HB1.out hb2); have HE2 := Aside0.mk (HEr.out.below HB2.out); clear hb2; have hz2 : w.heap.size + 1 + 1 < w2.heap.size := blk_lt Bc2.out; have hz20 : w.heap.size < w2.heap.size := (by omega); have hz21 : w.heap.size + 1 < w2.heap.size := (by omega)) | (go_at_call 101; (with_reducible refine (iPeriodAt_calls _ _ b.periods y.f0 _ P3.out _ (Kd.C_below HRd.out.r5 HB2.out)).mono ?_); rintro e_ w3 ⟨rfl, hb3⟩; have Ba3 := Aside0.mk (show w3.heap[w.heap.size]? = some (.cells #[.slice A0 b.frame.chart.length c0, .int .i64 b.frame.dims, .int .i64 b.frame.curs, .slice A3 b.ledg.entries.length c3, .int .i64 b.ledg.head, .slice A5 b.periods.length c5, .int .i64 b.closed, .int .i64 b.kept] 32 (0, 0)) from blk_below Ba2.out hb3); have qa30 : w3.cell? ⟨w.heap.size, 0, none⟩ = some (.slice A0 b.frame.chart.length c0) := (blk_cell Ba3.out 0).trans rfl; have qa31 : w3.cell? ⟨w.heap.size, 1, none⟩ = some (.int .i64 b.frame.dims) := (blk_cell Ba3.out 1).trans rfl; have qa32 : w3.cell? ⟨w.heap.size, 2, none⟩ = some (.int .i64 b.frame.curs) := (blk_cell Ba3.out 2).trans rfl; have qa33 : w3.cell? ⟨w.heap.size, 3, none⟩ = some (.slice A3 b.ledg.entries.length c3) := (blk_cell Ba3.out 3).trans rfl; have qa34 : w3.cell? ⟨w.heap.size, 4, none⟩ = some (.int .i64 b.ledg.head) := (blk_cell Ba3.out 4).trans rfl; have qa35 : w3.cell? ⟨w.heap.size, 5, none⟩ = some (.slice A5 b.periods.length c5) := (blk_cell Ba3.out 5).trans rfl; have qa36 : w3.cell? ⟨w.heap.size, 6, none⟩ = some (.int .i64 b.closed) := (blk_cell Ba3.out 6).trans rfl; have qa37 : w3.cell? ⟨w.heap.size, 7, none⟩ = some (.int .i64 b.kept) := (blk_cell Ba3.out 7).trans rfl; have Bb3 := Aside0.mk (show w3.heap[w.heap.size + 1]? = some (.cells #[.int .i64 y.f0, .int .i64 y.f1, .string y.f2, .slice AL y.f3.length cL] 41 (0, 0)) from blk_below Bb2.out hb3); have qb30 : w3.cell? ⟨w.heap.size + 1, 0, none⟩ = some (.int .i64 y.f0) := (blk_cell Bb3.out 0).trans rfl; have qb31 : w3.cell? ⟨w.heap.size + 1, 1, none⟩ = some (.int .i64 y.f1) := (blk_cell Bb3.out 1).trans rfl; have qb32 : w3.cell? ⟨w.heap.size + 1, 2, none⟩ = some (.string y.f2) := (blk_cell Bb3.out 2).trans rfl; have qb33 : w3.cell? ⟨w.heap.size + 1, 3, none⟩ = some (.slice AL y.f3.length cL) := (blk_cell Bb3.out 3).trans rfl; have Bc3 := Aside0.mk (show w3.heap[w.heap.size + 1 + 1]? = some (.cells #[.slice none 0 0, .int .i64 0] 29 (0, 0)) from blk_below Bc2.out hb3); have qc30 : w3.cell? ⟨w.heap.size + 1 + 1, 0, none⟩ = some (.slice none 0 0) := (blk_cell Bc3.out 0).trans rfl; have fc30 := blk_frozen Bc3.out 0; have qc31 : w3.cell? ⟨w.heap.size + 1 + 1, 1, none⟩ = some (.int .i64 0) := (blk_cell Bc3.out 1).trans rfl; have fc31 := blk_frozen Bc3.out 1; have HB3 := Aside0.mk (below_step HB2.out hb3); have HE3 := Aside0.mk (HEr.out.below HB3.out); clear hb3; have hz3 : w.heap.size + 1 + 1 < w3.heap.size := blk_lt Bc3.out; have hz30 : w.heap.size < w3.heap.size := (by omega); have hz31 : w.heap.size + 1 < w3.heap.size := (by omega)) | (go_at_call 16; (with_reducible refine (iPostFull_calls b.frame _ _ b.ledg _ _ y _ _ HSc.out HSe.out hty HLP.out HYP.out hn5.out _ (Kd.C_below HRd.out.r0 HB3.out) (Kd.C_below HRd.out.r3 HB3.out) (Kd.C_below HL.out HB3.out)).mono ?_); rintro e_ w4 ⟨Vp, np, cp, hp, rfl, hb4⟩; have Ba4 := Aside0.mk (show w4.heap[w.heap.size]? = some (.cells #[.slice A0 b.frame.chart.length c0, .int .i64 b.frame.dims, .int .i64 b.frame.curs, .slice A3 b.ledg.entries.length c3, .int .i64 b.ledg.head, .slice A5 b.periods.length c5, .int .i64 b.closed, .int .i64 b.kept] 32 (0, 0)) from blk_below Ba3.out hb4); have qa40 : w4.cell? ⟨w.heap.size, 0, none⟩ = some (.slice A0 b.frame.chart.length c0) := (blk_cell Ba4.out 0).trans rfl; have qa41 : w4.cell? ⟨w.heap.size, 1, none⟩ = some (.int .i64 b.frame.dims) := (blk_cell Ba4.out 1).trans rfl; have qa42 : w4.cell? ⟨w.heap.size, 2, none⟩ = some (.int .i64 b.frame.curs) := (blk_cell Ba4.out 2).trans rfl; have qa43 : w4.cell? ⟨w.heap.size, 3, none⟩ = some (.slice A3 b.ledg.entries.length c3) := (blk_cell Ba4.out 3).trans rfl; have qa44 : w4.cell? ⟨w.heap.size, 4, none⟩ = some (.int .i64 b.ledg.head) := (blk_cell Ba4.out 4).trans rfl; have qa45 : w4.cell? ⟨w.heap.size, 5, none⟩ = some (.slice A5 b.periods.length c5) := (blk_cell Ba4.out 5).trans rfl; have qa46 : w4.cell? ⟨w.heap.size, 6, none⟩ = some (.int .i64 b.closed) := (blk_cell Ba4.out 6).trans rfl; have qa47 : w4.cell? ⟨w.heap.size, 7, none⟩ = some (.int .i64 b.kept) := (blk_cell Ba4.out 7).trans rfl; have Bb4 := Aside0.mk (show w4.heap[w.heap.size + 1]? = some (.cells #[.int .i64 y.f0, .int .i64 y.f1, .string y.f2, .slice AL y.f3.length cL] 41 (0, 0)) from blk_below Bb3.out hb4); have qb40 : w4.cell? ⟨w.heap.size + 1, 0, none⟩ = some (.int .i64 y.f0) := (blk_cell Bb4.out 0).trans rfl; have qb41 : w4.cell? ⟨w.heap.size + 1, 1, none⟩ = some (.int .i64 y.f1) := (blk_cell Bb4.out 1).trans rfl; have qb42 : w4.cell? ⟨w.heap.size + 1, 2, none⟩ = some (.string y.f2) := (blk_cell Bb4.out 2).trans rfl; have qb43 : w4.cell? ⟨w.heap.size + 1, 3, none⟩ = some (.slice AL y.f3.length cL) := (blk_cell Bb4.out 3).trans rfl; have Bc4 := Aside0.mk (show w4.heap[w.heap.size + 1 + 1]? = some (.cells #[.slice none 0 0, .int .i64 0] 29 (0, 0)) from blk_below Bc3.out hb4); have qc40 : w4.cell? ⟨w.heap.size + 1 + 1, 0, none⟩ = some (.slice none 0 0) := (blk_cell Bc4.out 0).trans rfl; have fc40 := blk_frozen Bc4.out 0; have qc41 : w4.cell? ⟨w.heap.size + 1 + 1, 1, none⟩ = some (.int .i64 0) := (blk_cell Bc4.out 1).trans rfl; have fc41 := blk_frozen Bc4.out 1; have HB4 := Aside0.mk (below_step HB3.out hb4); have HE4 := Aside0.mk (HEr.out.below HB4.out); clear hb4; have hz4 : w.heap.size + 1 + 1 < w4.heap.size := blk_lt Bc4.out; have hz40 : w.heap.size < w4.heap.size := (by omega); have hz41 : w.heap.size + 1 < w4.heap.size := (by omega)))
 have HB5 := Aside0.mk (below_alloc HB4.out (.cells #[.slice Vp np cp, .int .i64 hp] 29 (0, 0)))
 have HE5 := Aside0.mk (HEr.out.below HB5.out)
 have Bc5 := Aside0.mk (blk_alloc Bc4.out (.cells #[.slice Vp np cp, .int .i64 hp] 29 (0, 0)))
 generalize w4.alloc (.cells #[.slice Vp np cp, .int .i64 hp] 29 (0, 0)) = w5 at *
 have hgl : 4 < w.heap.size := cell_lt (HEr.out.g 4 (by decide))
 refine start_ (n := 7) (S := fun w' => Below w.heap.size w w' ∧ w'.heap[w.heap.size + 1 + 1]? = some (.cells #[.slice none 0 0, .int .i64 0] 29 (0, 0)) ∧ w'.cell? ⟨4, 0, none⟩ = some (.iface 209 (.pointer (some (er 4))))) (ds := []) #[false, false, false, false, false, false, false] (by kernel_rfl) rfl rfl (by exact ⟨below_drew HB5.out, blk_drew Bc5.out, HE5.out.g 4 (by decide)⟩) (fun hHeld => ?_)
 generalize w5.drew = wd at hHeld ⊢
 refine pure_ (i := 0) (N := (some 59)) (v := ?_) (a' := ?_) #[true, false, false, false, false, false, false] rfl rfl (by kernel_rfl) (fun _ _ _ h => h) (Or.inl ⟨by rfl, ?_⟩) ?_ ?_
 rotate_left
 ·intro w'
  go_simp
  try with_reducible rfl
 rotate_left
 ·simp only [Act.put, List.setIfInBounds_toArray, List.set_cons_zero, List.set_cons_succ]
  rfl
 refine take_ (i := 1) (N := (some 60)) (v := ?_) (a' := ?_) #[true, true, false, false, false, false, false] rfl rfl (by kernel_rfl) (fun _ _ _ h => h) (Or.inl ⟨by rfl, ?_⟩) hHeld ?_ ?_
 rotate_left
 ·rintro w' ⟨s_, sc, sg⟩
  go_simp
  try with_reducible rfl
 rotate_left
 ·simp only [Act.put, List.setIfInBounds_toArray, List.set_cons_zero, List.set_cons_succ]
  rfl
 refine pure_ (i := 2) (N := (some 61)) (v := ?_) (a' := ?_) #[true, true, true, false, false, false, false] rfl rfl (by kernel_rfl) (fun _ _ _ h => h) (Or.inl ⟨by rfl, ?_⟩) ?_ ?_
 rotate_left
 ·intro w'
  go_simp
  try with_reducible rfl
 rotate_left
 ·simp only [Act.put, List.setIfInBounds_toArray, List.set_cons_zero, List.set_cons_succ]
  rfl
 refine join_ (σ := Nat) 1 #[true, true, true, true, true, true, false] (fun p => [(62, .pointer (some ⟨p, 0, none⟩)), (63, .iface 149 (.pointer (some ⟨p, 0, none⟩)))]) (fun p w' => (Below w.heap.size w w' ∧ w'.heap[w.heap.size + 1 + 1]? = some (.cells #[.slice none 0 0, .int .i64 0] 29 (0, 0)) ∧ w'.cell? ⟨4, 0, none⟩ = some (.iface 209 (.pointer (some (er 4))))) ∧ w'.heap[p]? = some (.cells #[.string ⟨#[114, 101, 99, 111, 114, 100]⟩, .iface 209 (.pointer (some (er 4)))] 151 (0, 0))) ?_ ?_
 rotate_left
 ·intro hcont
  refine two_ (i := 3) (j := 5) (Ni := (some 62)) (Nj := none) #[true, true, true, true, false, false, false] #[true, true, true, false, false, true, false] rfl rfl rfl rfl (by kernel_rfl) (by decide) (by decide) (fun K hK => ?_) (fun K hK => ?_)
  ·have hHeld0 := hHeld
   refine value_ (w1 := ?_) (v := ?_) (by rfl) rfl ?_ ?_
   rotate_left 2
   ·go_simp
    constructor
    ·rfl
    ·rfl
   refine hK.out _ _ (by exact ⟨below_alloc hHeld.1 _, blk_alloc hHeld.2.1 _, pw_cell_below (below_alloc (Below.refl _ _) _) hHeld.2.2⟩) (fun hHeld => ?_)
   clear hK K
   refine norm_ (a' := ?_) ?_ ?_
   rotate_left
   ·show Act.put _ (some 62) _ = _
    simp only [Act.put, List.setIfInBounds_toArray, List.set_cons_zero, List.set_cons_succ]
    rfl
   refine pure_ (i := 4) (N := (some 63)) (v := ?_) (a' := ?_) #[true, true, true, true, true, false, false] rfl rfl (by kernel_rfl) (fun _ _ _ h => h) (Or.inl ⟨by rfl, ?_⟩) ?_ ?_
   rotate_left
   ·intro w'
    go_simp
    try with_reducible rfl
   rotate_left
   ·simp only [Act.put, List.setIfInBounds_toArray, List.set_cons_zero, List.set_cons_succ]
    rfl
   have hbx : (wd.alloc (.cells #[.string ⟨#[114, 101, 99, 111, 114, 100]⟩, .iface 209 (.pointer (some (er 4)))] 151 (0, 0))).heap[wd.heap.size]? = some (.cells #[.string ⟨#[114, 101, 99, 111, 114, 100]⟩, .iface 209 (.pointer (some (er 4)))] 151 (0, 0)) := blk_new wd _
   have hne : wd.heap.size ≠ w.heap.size + 1 + 1 := by have := blk_lt hHeld0.2.1; omega
   generalize wd.alloc (.cells #[.string ⟨#[114, 101, 99, 111, 114, 100]⟩, .iface 209 (.pointer (some (er 4)))] 151 (0, 0)) = wx at *
   refine one_ (i := 5) (N := none) #[true, true, true, true, true, true, false] rfl rfl (by kernel_rfl) (by decide) (fun K hK => ?_)
   obtain ⟨s_, sc, sg⟩ := hHeld
   have z0_ : wx.cell? ⟨w.heap.size + 1 + 1, 0, none⟩ = some (.slice none 0 0) := (blk_cell sc 0).trans rfl
   have z1_ : wx.cell? ⟨w.heap.size + 1 + 1, 1, none⟩ = some (.int .i64 0) := (blk_cell sc 1).trans rfl
   have y0_ := blk_frozen sc 0
   have y1_ := blk_frozen sc 1
   have hzx := blk_lt sc
   refine skip_ (w1 := ?_) (by rfl) rfl ?_ ?_
   rotate_left
   ·go_simp
    rfl
   refine hK.out _ _ (by exact ⟨below_set (below_set s_ (by omega)) (by omega), blk_put (cs' := #[.slice none 0 0, .int .i64 0]) (blk_put (cs' := #[.slice none 0 0, .int .i64 0]) sc 0 _ rfl) 1 _ rfl, (setcell_far (setcell_far sg (by show 4 ≠ w.heap.size + 1 + 1; omega)) (by show 4 ≠ w.heap.size + 1 + 1; omega))⟩) (fun hHeld => ?_)
   clear hK K
   refine norm_ (a' := putAll _ [(62, _), (63, _)]) ?_ (hcont wd.heap.size _ ⟨hHeld, blk_far (blk_far hbx hne _) hne _⟩)
   simp only [putAll, Act.put, List.setIfInBounds_toArray, List.set_cons_zero, List.set_cons_succ]
  ·obtain ⟨s_, sc, sg⟩ := hHeld
   have z0_ : wd.cell? ⟨w.heap.size + 1 + 1, 0, none⟩ = some (.slice none 0 0) := (blk_cell sc 0).trans rfl
   have z1_ : wd.cell? ⟨w.heap.size + 1 + 1, 1, none⟩ = some (.int .i64 0) := (blk_cell sc 1).trans rfl
   have y0_ := blk_frozen sc 0
   have y1_ := blk_frozen sc 1
   have hzx := blk_lt sc
   refine skip_ (w1 := ?_) (by rfl) rfl ?_ ?_
   rotate_left
   ·go_simp
    rfl
   refine hK.out _ _ (by exact ⟨below_set (below_set s_ (by omega)) (by omega), blk_put (cs' := #[.slice none 0 0, .int .i64 0]) (blk_put (cs' := #[.slice none 0 0, .int .i64 0]) sc 0 _ rfl) 1 _ rfl, (setcell_far (setcell_far sg (by show 4 ≠ w.heap.size + 1 + 1; omega)) (by show 4 ≠ w.heap.size + 1 + 1; omega))⟩) (fun hHeld => ?_)
   clear hK K
   generalize ((wd.setCell ⟨w.heap.size + 1 + 1, 0, none⟩ (.slice none 0 0)).setCell ⟨w.heap.size + 1 + 1, 1, none⟩ (.int .i64 0)) = wx at *
   refine one_ (i := 3) (N := (some 62)) #[true, true, true, true, false, true, false] rfl rfl (by kernel_rfl) (by decide) (fun K hK => ?_)
   refine value_ (w1 := ?_) (v := ?_) (by rfl) rfl ?_ ?_
   rotate_left 2
   ·go_simp
    constructor
    ·rfl
    ·rfl
   refine hK.out _ _ (by exact ⟨below_alloc hHeld.1 _, blk_alloc hHeld.2.1 _, pw_cell_below (below_alloc (Below.refl _ _) _) hHeld.2.2⟩) (fun hHeld => ?_)
   clear hK K
   refine norm_ (a' := ?_) ?_ ?_
   rotate_left
   ·show Act.put _ (some 62) _ = _
    simp only [Act.put, List.setIfInBounds_toArray, List.set_cons_zero, List.set_cons_succ]
    rfl
   refine pure_ (i := 4) (N := (some 63)) (v := ?_) (a' := ?_) #[true, true, true, true, true, true, false] rfl rfl (by kernel_rfl) (fun _ _ _ h => h) (Or.inl ⟨by rfl, ?_⟩) ?_ ?_
   rotate_left
   ·intro w'
    go_simp
    try with_reducible rfl
   rotate_left
   ·simp only [Act.put, List.setIfInBounds_toArray, List.set_cons_zero, List.set_cons_succ]
    rfl
   refine norm_ (a' := putAll _ [(62, _), (63, _)]) ?_ (hcont wx.heap.size _ ⟨hHeld, blk_new wx _⟩)
   simp only [putAll, Act.put, List.setIfInBounds_toArray, List.set_cons_zero, List.set_cons_succ]
 rintro p wz ⟨hHeld, hbx⟩
 refine norm_ (a' := ?_) ?_ ?_
 rotate_left
 ·simp only [putAll, Act.put, List.setIfInBounds_toArray, List.set_cons_zero, List.set_cons_succ]
  rfl
 refine pure_ (i := 6) (N := (some 5)) (v := ?_) (a' := ?_) #[true, true, true, true, true, true, true] rfl rfl (by kernel_rfl) (fun _ _ _ h => h) (Or.inl ⟨by rfl, ?_⟩) ?_ ?_
 rotate_left
 ·intro w'
  go_simp
  try with_reducible rfl
 rotate_left
 ·simp only [Act.put, List.setIfInBounds_toArray, List.set_cons_zero, List.set_cons_succ]
  rfl
 refine done_ (by kernel_rfl) ?_
 obtain ⟨s_, sc, sg⟩ := hHeld
 have z0_ : wz.cell? ⟨w.heap.size + 1 + 1, 0, none⟩ = some (.slice none 0 0) := (blk_cell sc 0).trans rfl
 have z1_ : wz.cell? ⟨w.heap.size + 1 + 1, 1, none⟩ = some (.int .i64 0) := (blk_cell sc 1).trans rfl
 have y0_ := blk_frozen sc 0
 have y1_ := blk_frozen sc 1
 go_wp2
 refine bodyPost_ret (v := .tuple #[.agg #[.slice none 0 0, .int .i64 0], .iface 149 (.pointer (some ⟨p, 0, none⟩))]) (by simp [results, Tryz.results45, go_sem, z0_, z1_, y0_, y1_]) rfl ⟨_, _, _, _, p, rfl, (blk_cell hbx 1).trans rfl, s_⟩
set_option maxRecDepth 100000 in
set_option maxHeartbeats 4000000 in
theorem record_ok (er : Nat → Addr) (a : ABooks) (b : BooksD) (y : S41) (AL : Option Addr) (cL : Nat) (hs : SzB b) (hty : y.f2.size ≤ 9223372036854775807) (h : BooksP b) (h2 : EntryP b.frame y) (h3 : 0 ≤ periodAt b.periods y.f0) (h4 : b.closed ≤ periodAt b.periods y.f0) (hn5 : b.ledg.entries.length < 1000) (w : World) (hE : Errs w er) (hr : RdB w a b) (hl : Kd.C k88 w AL y.f3.length y.f3) : Calls Tryz.prog 45 #[valB a b, .agg #[.int .i64 y.f0, .int .i64 y.f1, .string y.f2, .slice AL y.f3.length cL]] w fun e w' => ∃ A' c', e = .returned (.tuple #[.agg #[.slice A' (b.ledg.entries ++ [y]).length c', .int .i64 (headF (b.ledg.entries ++ [y]))], .nilIface]) ∧ Kd.S k41 41 w' w.heap.size (fun _ => True) (.slice A' (b.ledg.entries ++ [y]).length c') (b.ledg.entries ++ [y]) ∧ Below w.heap.size w w' := by
 have hu := Tryz.underlying32
 have hu2 := Tryz.underlying26
 have hu3 := Tryz.underlying29
 have hu4 := Tryz.underlying41
 have hu5 := Tryz.underlying151
 obtain ⟨A0, c0, A3, c3, A5, c5⟩ := a
 have HEr := Aside0.mk hE
 have HRd := Aside0.mk hr
 have HL := Aside0.mk hl
 have HSz := Aside0.mk hs
 have HSc := Aside0.mk hs.chart
 have HSe := Aside0.mk hs.entries
 clear hE hr hl hs
 have P1 := Aside0.mk (bP_t h)
 have HFr := Aside0.mk (show FrameP b.frame from h.1.2.1)
 have HLP := Aside0.mk (show LedgerP b.frame b.ledg from h.1)
 clear h
 have P2 := Aside0.mk (bP_t h2)
 have HYP := Aside0.mk h2
 clear h2
 obtain ⟨pt, hpt⟩ : ∃ pt, periodAt b.periods y.f0 = pt := ⟨_, rfl⟩
 rw [hpt] at h3
 have P3 := Aside0.mk hpt
 rw [hpt] at h4
 clear hpt
 have d3 : decide (pt < 0) = false := by simp; omega
 have d4 : decide (pt < b.closed) = false := by simp; omega
 replace hn5 := Aside0.mk hn5
 obtain ⟨hd, hhd⟩ : ∃ hd, headF (b.ledg.entries ++ [y]) = hd := ⟨_, rfl⟩
 rw [hhd]
 have HHd := Aside0.mk hhd
 clear hhd
 go_enter Tryz.func45, Tryz.ntmps45
 go_wp2_with (first | (go_at_call 9; (with_reducible refine (iBooksOk_calls ⟨A0, c0, A3, c3, A5, c5⟩ b HSz.out _ P1.out _ (HRd.out.below (by repeat (with_reducible first | assumption | exact Below.refl _ _ | apply below_alloc | apply below_drew1 | apply pw_below_drewN | refine below_set ?_ (by omega) | refine below_step ?_ (by assumption))))).mono ?_); rintro e_ w1 ⟨rfl, hb1⟩; have Ba1 := Aside0.mk (show w1.heap[w.heap.size]? = some (.cells #[.slice A0 b.frame.chart.length c0, .int .i64 b.frame.dims, .int .i64 b.frame.curs, .slice A3 b.ledg.entries.length c3, .int .i64 b.ledg.head, .slice A5 b.periods.length c5, .int .i64 b.closed, .int .i64 b.kept] 32 (0, 0)) from blk_below (blk_alloc (blk_alloc (blk_new w _) _) _) hb1); have qa10 : w1.cell? ⟨w.heap.size, 0, none⟩ = some (.slice A0 b.frame.chart.length c0) := (blk_cell Ba1.out 0).trans rfl; have qa11 : w1.cell? ⟨w.heap.size, 1, none⟩ = some (.int .i64 b.frame.dims) := (blk_cell Ba1.out 1).trans rfl; have qa12 : w1.cell? ⟨w.heap.size, 2, none⟩ = some (.int .i64 b.frame.curs) := (blk_cell Ba1.out 2).trans rfl; have qa13 : w1.cell? ⟨w.heap.size, 3, none⟩ = some (.slice A3 b.ledg.entries.length c3) := (blk_cell Ba1.out 3).trans rfl; have qa14 : w1.cell? ⟨w.heap.size, 4, none⟩ = some (.int .i64 b.ledg.head) := (blk_cell Ba1.out 4).trans rfl; have qa15 : w1.cell? ⟨w.heap.size, 5, none⟩ = some (.slice A5 b.periods.length c5) := (blk_cell Ba1.out 5).trans rfl; have qa16 : w1.cell? ⟨w.heap.size, 6, none⟩ = some (.int .i64 b.closed) := (blk_cell Ba1.out 6).trans rfl; have qa17 : w1.cell? ⟨w.heap.size, 7, none⟩ = some (.int .i64 b.kept) := (blk_cell Ba1.out 7).trans rfl; have Bb1 := Aside0.mk (show w1.heap[w.heap.size + 1]? = some (.cells #[.int .i64 y.f0, .int .i64 y.f1, .string y.f2, .slice AL y.f3.length cL] 41 (0, 0)) from blk_below (blk_alloc (blk_new1 w _ _) _) hb1); have qb10 : w1.cell? ⟨w.heap.size + 1, 0, none⟩ = some (.int .i64 y.f0) := (blk_cell Bb1.out 0).trans rfl; have qb11 : w1.cell? ⟨w.heap.size + 1, 1, none⟩ = some (.int .i64 y.f1) := (blk_cell Bb1.out 1).trans rfl; have qb12 : w1.cell? ⟨w.heap.size + 1, 2, none⟩ = some (.string y.f2) := (blk_cell Bb1.out 2).trans rfl; have qb13 : w1.cell? ⟨w.heap.size + 1, 3, none⟩ = some (.slice AL y.f3.length cL) := (blk_cell Bb1.out 3).trans rfl; have Bc1 := Aside0.mk (show w1.heap[w.heap.size + 1 + 1]? = some (.cells #[.slice none 0 0, .int .i64 0] 29 (0, 0)) from blk_below (blk_new2 w _ _ _) hb1); have qc10 : w1.cell? ⟨w.heap.size + 1 + 1, 0, none⟩ = some (.slice none 0 0) := (blk_cell Bc1.out 0).trans rfl; have fc10 := blk_frozen Bc1.out 0; have qc11 : w1.cell? ⟨w.heap.size + 1 + 1, 1, none⟩ = some (.int .i64 0) := (blk_cell Bc1.out 1).trans rfl; have fc11 := blk_frozen Bc1.out 1; have HB1 := Aside0.mk (show Below w.heap.size w w1 from (by repeat (with_reducible first | assumption | exact Below.refl _ _ | apply below_alloc | apply below_drew1 | apply pw_below_drewN | refine below_set ?_ (by omega) | refine below_step ?_ (by assumption)))); have HE1 := Aside0.mk (HEr.out.below HB1.out); clear hb1; have hz1 : w.heap.size + 1 + 1 < w1.heap.size := blk_lt Bc1.out; have hz10 : w.heap.size < w1.heap.size := (by omega); have hz11 : w.heap.size + 1 < w1.heap.size := (by omega)) | (go_at_call 52; (with_reducible refine (entryIn_calls b.frame _ _ y _ _ HFr.out hty _ P2.out _ (Kd.C_below HRd.out.r0 HB1.out) (Kd.C_below HL.out HB1.out)).mono ?_); rintro e_ w2 ⟨rfl, hb2⟩; have Ba2 := Aside0.mk (show w2.heap[w.heap.size]? = some (.cells #[.slice A0 b.frame.chart.length c0, .int .i64 b.frame.dims, .int .i64 b.frame.curs, .slice A3 b.ledg.entries.length c3, .int .i64 b.ledg.head, .slice A5 b.periods.length c5, .int .i64 b.closed, .int .i64 b.kept] 32 (0, 0)) from blk_below Ba1.out hb2); have qa20 : w2.cell? ⟨w.heap.size, 0, none⟩ = some (.slice A0 b.frame.chart.length c0) := (blk_cell Ba2.out 0).trans rfl; have qa21 : w2.cell? ⟨w.heap.size, 1, none⟩ = some (.int .i64 b.frame.dims) := (blk_cell Ba2.out 1).trans rfl; have qa22 : w2.cell? ⟨w.heap.size, 2, none⟩ = some (.int .i64 b.frame.curs) := (blk_cell Ba2.out 2).trans rfl; have qa23 : w2.cell? ⟨w.heap.size, 3, none⟩ = some (.slice A3 b.ledg.entries.length c3) := (blk_cell Ba2.out 3).trans rfl; have qa24 : w2.cell? ⟨w.heap.size, 4, none⟩ = some (.int .i64 b.ledg.head) := (blk_cell Ba2.out 4).trans rfl; have qa25 : w2.cell? ⟨w.heap.size, 5, none⟩ = some (.slice A5 b.periods.length c5) := (blk_cell Ba2.out 5).trans rfl; have qa26 : w2.cell? ⟨w.heap.size, 6, none⟩ = some (.int .i64 b.closed) := (blk_cell Ba2.out 6).trans rfl; have qa27 : w2.cell? ⟨w.heap.size, 7, none⟩ = some (.int .i64 b.kept) := (blk_cell Ba2.out 7).trans rfl; have Bb2 := Aside0.mk (show w2.heap[w.heap.size + 1]? = some (.cells #[.int .i64 y.f0, .int .i64 y.f1, .string y.f2, .slice AL y.f3.length cL] 41 (0, 0)) from blk_below Bb1.out hb2); have qb20 : w2.cell? ⟨w.heap.size + 1, 0, none⟩ = some (.int .i64 y.f0) := (blk_cell Bb2.out 0).trans rfl; have qb21 : w2.cell? ⟨w.heap.size + 1, 1, none⟩ = some (.int .i64 y.f1) := (blk_cell Bb2.out 1).trans rfl; have qb22 : w2.cell? ⟨w.heap.size + 1, 2, none⟩ = some (.string y.f2) := (blk_cell Bb2.out 2).trans rfl; have qb23 : w2.cell? ⟨w.heap.size + 1, 3, none⟩ = some (.slice AL y.f3.length cL) := (blk_cell Bb2.out 3).trans rfl; have Bc2 := Aside0.mk (show w2.heap[w.heap.size + 1 + 1]? = some (.cells #[.slice none 0 0, .int .i64 0] 29 (0, 0)) from blk_below Bc1.out hb2); have qc20 : w2.cell? ⟨w.heap.size + 1 + 1, 0, none⟩ = some (.slice none 0 0) := (blk_cell Bc2.out 0).trans rfl; have fc20 := blk_frozen Bc2.out 0; have qc21 : w2.cell? ⟨w.heap.size + 1 + 1, 1, none⟩ = some (.int .i64 0) := (blk_cell Bc2.out 1).trans rfl; have fc21 := blk_frozen Bc2.out 1; have HB2 := Aside0.mk (below_step HB1.out hb2); have HE2 := Aside0.mk (HEr.out.below HB2.out); clear hb2; have hz2 : w.heap.size + 1 + 1 < w2.heap.size := blk_lt Bc2.out; have hz20 : w.heap.size < w2.heap.size := (by omega); have hz21 : w.heap.size + 1 < w2.heap.size := (by omega)) | (go_at_call 101; (with_reducible refine (iPeriodAt_calls _ _ b.periods y.f0 _ P3.out _ (Kd.C_below HRd.out.r5 HB2.out)).mono ?_); rintro e_ w3 ⟨rfl, hb3⟩; have Ba3 := Aside0.mk (show w3.heap[w.heap.size]? = some (.cells #[.slice A0 b.frame.chart.length c0, .int .i64 b.frame.dims, .int .i64 b.frame.curs, .slice A3 b.ledg.entries.length c3, .int .i64 b.ledg.head, .slice A5 b.periods.length c5, .int .i64 b.closed, .int .i64 b.kept] 32 (0, 0)) from blk_below Ba2.out hb3); have qa30 : w3.cell? ⟨w.heap.size, 0, none⟩ = some (.slice A0 b.frame.chart.length c0) := (blk_cell Ba3.out 0).trans rfl; have qa31 : w3.cell? ⟨w.heap.size, 1, none⟩ = some (.int .i64 b.frame.dims) := (blk_cell Ba3.out 1).trans rfl; have qa32 : w3.cell? ⟨w.heap.size, 2, none⟩ = some (.int .i64 b.frame.curs) := (blk_cell Ba3.out 2).trans rfl; have qa33 : w3.cell? ⟨w.heap.size, 3, none⟩ = some (.slice A3 b.ledg.entries.length c3) := (blk_cell Ba3.out 3).trans rfl; have qa34 : w3.cell? ⟨w.heap.size, 4, none⟩ = some (.int .i64 b.ledg.head) := (blk_cell Ba3.out 4).trans rfl; have qa35 : w3.cell? ⟨w.heap.size, 5, none⟩ = some (.slice A5 b.periods.length c5) := (blk_cell Ba3.out 5).trans rfl; have qa36 : w3.cell? ⟨w.heap.size, 6, none⟩ = some (.int .i64 b.closed) := (blk_cell Ba3.out 6).trans rfl; have qa37 : w3.cell? ⟨w.heap.size, 7, none⟩ = some (.int .i64 b.kept) := (blk_cell Ba3.out 7).trans rfl; have Bb3 := Aside0.mk (show w3.heap[w.heap.size + 1]? = some (.cells #[.int .i64 y.f0, .int .i64 y.f1, .string y.f2, .slice AL y.f3.length cL] 41 (0, 0)) from blk_below Bb2.out hb3); have qb30 : w3.cell? ⟨w.heap.size + 1, 0, none⟩ = some (.int .i64 y.f0) := (blk_cell Bb3.out 0).trans rfl; have qb31 : w3.cell? ⟨w.heap.size + 1, 1, none⟩ = some (.int .i64 y.f1) := (blk_cell Bb3.out 1).trans rfl; have qb32 : w3.cell? ⟨w.heap.size + 1, 2, none⟩ = some (.string y.f2) := (blk_cell Bb3.out 2).trans rfl; have qb33 : w3.cell? ⟨w.heap.size + 1, 3, none⟩ = some (.slice AL y.f3.length cL) := (blk_cell Bb3.out 3).trans rfl; have Bc3 := Aside0.mk (show w3.heap[w.heap.size + 1 + 1]? = some (.cells #[.slice none 0 0, .int .i64 0] 29 (0, 0)) from blk_below Bc2.out hb3); have qc30 : w3.cell? ⟨w.heap.size + 1 + 1, 0, none⟩ = some (.slice none 0 0) := (blk_cell Bc3.out 0).trans rfl; have fc30 := blk_frozen Bc3.out 0; have qc31 : w3.cell? ⟨w.heap.size + 1 + 1, 1, none⟩ = some (.int .i64 0) := (blk_cell Bc3.out 1).trans rfl; have fc31 := blk_frozen Bc3.out 1; have HB3 := Aside0.mk (below_step HB2.out hb3); have HE3 := Aside0.mk (HEr.out.below HB3.out); clear hb3; have hz3 : w.heap.size + 1 + 1 < w3.heap.size := blk_lt Bc3.out; have hz30 : w.heap.size < w3.heap.size := (by omega); have hz31 : w.heap.size + 1 < w3.heap.size := (by omega)) | (go_at_call 16; (with_reducible refine (iPostOk_calls b.frame _ _ b.ledg _ _ y _ _ HSc.out HSe.out hty HLP.out HYP.out hn5.out _ HHd.out _ (Kd.C_below HRd.out.r0 HB3.out) (Kd.C_below HRd.out.r3 HB3.out) (Kd.C_below HL.out HB3.out)).mono ?_); rintro e_ w4 ⟨Vp, cp, rfl, ho4, hb4⟩; replace ho4 := Aside0.mk ho4; have Ba4 := Aside0.mk (show w4.heap[w.heap.size]? = some (.cells #[.slice A0 b.frame.chart.length c0, .int .i64 b.frame.dims, .int .i64 b.frame.curs, .slice A3 b.ledg.entries.length c3, .int .i64 b.ledg.head, .slice A5 b.periods.length c5, .int .i64 b.closed, .int .i64 b.kept] 32 (0, 0)) from blk_below Ba3.out hb4); have qa40 : w4.cell? ⟨w.heap.size, 0, none⟩ = some (.slice A0 b.frame.chart.length c0) := (blk_cell Ba4.out 0).trans rfl; have qa41 : w4.cell? ⟨w.heap.size, 1, none⟩ = some (.int .i64 b.frame.dims) := (blk_cell Ba4.out 1).trans rfl; have qa42 : w4.cell? ⟨w.heap.size, 2, none⟩ = some (.int .i64 b.frame.curs) := (blk_cell Ba4.out 2).trans rfl; have qa43 : w4.cell? ⟨w.heap.size, 3, none⟩ = some (.slice A3 b.ledg.entries.length c3) := (blk_cell Ba4.out 3).trans rfl; have qa44 : w4.cell? ⟨w.heap.size, 4, none⟩ = some (.int .i64 b.ledg.head) := (blk_cell Ba4.out 4).trans rfl; have qa45 : w4.cell? ⟨w.heap.size, 5, none⟩ = some (.slice A5 b.periods.length c5) := (blk_cell Ba4.out 5).trans rfl; have qa46 : w4.cell? ⟨w.heap.size, 6, none⟩ = some (.int .i64 b.closed) := (blk_cell Ba4.out 6).trans rfl; have qa47 : w4.cell? ⟨w.heap.size, 7, none⟩ = some (.int .i64 b.kept) := (blk_cell Ba4.out 7).trans rfl; have Bb4 := Aside0.mk (show w4.heap[w.heap.size + 1]? = some (.cells #[.int .i64 y.f0, .int .i64 y.f1, .string y.f2, .slice AL y.f3.length cL] 41 (0, 0)) from blk_below Bb3.out hb4); have qb40 : w4.cell? ⟨w.heap.size + 1, 0, none⟩ = some (.int .i64 y.f0) := (blk_cell Bb4.out 0).trans rfl; have qb41 : w4.cell? ⟨w.heap.size + 1, 1, none⟩ = some (.int .i64 y.f1) := (blk_cell Bb4.out 1).trans rfl; have qb42 : w4.cell? ⟨w.heap.size + 1, 2, none⟩ = some (.string y.f2) := (blk_cell Bb4.out 2).trans rfl; have qb43 : w4.cell? ⟨w.heap.size + 1, 3, none⟩ = some (.slice AL y.f3.length cL) := (blk_cell Bb4.out 3).trans rfl; have Bc4 := Aside0.mk (show w4.heap[w.heap.size + 1 + 1]? = some (.cells #[.slice none 0 0, .int .i64 0] 29 (0, 0)) from blk_below Bc3.out hb4); have qc40 : w4.cell? ⟨w.heap.size + 1 + 1, 0, none⟩ = some (.slice none 0 0) := (blk_cell Bc4.out 0).trans rfl; have fc40 := blk_frozen Bc4.out 0; have qc41 : w4.cell? ⟨w.heap.size + 1 + 1, 1, none⟩ = some (.int .i64 0) := (blk_cell Bc4.out 1).trans rfl; have fc41 := blk_frozen Bc4.out 1; have HB4 := Aside0.mk (below_step HB3.out hb4); have HE4 := Aside0.mk (HEr.out.below HB4.out); clear hb4; have hz4 : w.heap.size + 1 + 1 < w4.heap.size := blk_lt Bc4.out; have hz40 : w.heap.size < w4.heap.size := (by omega); have hz41 : w.heap.size + 1 < w4.heap.size := (by omega)))
 refine bodyPost_ret (v := .tuple #[.agg #[.slice Vp (b.ledg.entries ++ [y]).length cp, .int .i64 hd], .nilIface]) (by simp [results, Tryz.results45, go_sem, qc40, qc41, fc40, fc41, hz4]) rfl ⟨Vp, cp, rfl, ?_, ?_⟩
 ·refine S_lower (Kd.S_mono (Kd.S_alloc (Kd.S_far (p := ⟨w.heap.size + 1 + 1, 1, none⟩) (Kd.S_far (p := ⟨w.heap.size + 1 + 1, 0, none⟩) (Kd.S_types ho4.out Bc4.out (by decide)) (fun _ hk => hk.2) _) (fun _ hk => hk.2) _) _) (fun _ _ => trivial)) HB3.out.size
 ·exact below_alloc (below_set (below_set HB4.out (by omega)) (by omega)) _
end Go.Proofs.YtheaeffhhbjpmaaGreatDoor

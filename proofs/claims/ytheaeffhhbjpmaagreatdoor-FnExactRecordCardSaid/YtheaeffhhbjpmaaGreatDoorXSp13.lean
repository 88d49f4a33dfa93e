/- Of the reference: an entry is posted. -/
import Derived.Test.YtheaeffhhbjpmaaGreatDoorXC
namespace Go.Proofs.YtheaeffhhbjpmaaGreatDoor
open Go.RowKit Go.Proofs.YtheaeffhhbjpmaaGreatDoorW.PrintWords Go.Proofs.YtheaeffhhbjpmaaGreatDoorW.PrintLast
set_option linter.unusedVariables false
set_option linter.unusedSimpArgs false
theorem blk_new2 (w : World) (o o' o2 : Obj) : (((w.alloc o).alloc o').alloc o2).heap[w.heap.size + 1 + 1]? = some o2 := by
 have h := blk_new ((w.alloc o).alloc o') o2
 rwa [show ((w.alloc o).alloc o').heap.size = w.heap.size + 1 + 1 by simp] at h
theorem blk_new3 (w : World) (o o' o2 o3 : Obj) : ((((w.alloc o).alloc o').alloc o2).alloc o3).heap[w.heap.size + 1 + 1 + 1]? = some o3 := by
 have h := blk_new (((w.alloc o).alloc o').alloc o2) o3
 rwa [show (((w.alloc o).alloc o').alloc o2).heap.size = w.heap.size + 1 + 1 + 1 by simp] at h
set_option maxRecDepth 100000 in
set_option maxHeartbeats 4000000 in
theorem sPostFull_calls (f : FrameD) (A : Option Addr) (c : Nat) (g : LedgD) (A3 : Option Addr) (c3 : Nat) (y : S41) (AL : Option Addr) (cL : Nat) (hs : SzC f.chart) (ht : SzE g.entries) (hty : y.f2.size ≤ 9223372036854775807) (hP : LedgerP f g) (hY : EntryP f y) (hn : g.entries.length = 1000) (w : World) (hr : Kd.C k48 w A f.chart.length f.chart) (he : Kd.C k41 w A3 g.entries.length g.entries) (hl : Kd.C k88 w AL y.f3.length y.f3) : Calls Tryz.prog 65 #[.agg #[.slice A f.chart.length c, .int .i64 f.dims, .int .i64 f.curs], .agg #[.slice A3 g.entries.length c3, .int .i64 g.head], .agg #[.int .i64 y.f0, .int .i64 y.f1, .string y.f2, .slice AL y.f3.length cL]] w fun e w' => ∃ A' n' c' hd, e = .returned (.tuple #[.agg #[.slice A' n' c', .int .i64 hd], .int .i64 3]) ∧ Below w.heap.size w w' := by
 have hu := Tryz.underlying26
 have hu2 := Tryz.underlying29
 have hu3 := Tryz.underlying41
 have HR := Aside0.mk hr
 have HE := Aside0.mk he
 have HL := Aside0.mk hl
 have HS := Aside0.mk hs
 have HT := Aside0.mk ht
 have hl3 := Aside0.mk (show ∀ i : Int, 0 ≤ i → i < g.entries.length → (en g.entries i).f3.length ≤ 1048576 from fun i h0 h1 => by have := (hP.2.2.2 i h0 h1).2.2.2.1.2; omega)
 have hle : g.entries.length ≤ 1048576 := by have := hP.1; omega
 have P1 := Aside0.mk (bP_t hP)
 have P2 := Aside0.mk (bP_t (And.intro hP.2.1 hY))
 have hln : y.f3.length ≤ 1048576 := by have := hY.2.2.2.1.2; omega
 have HP := Aside0.mk hP
 clear hr he hl hs ht hP
 have hn1 : ((g.entries.length : Int) == 1000) = true := by rw [hn]; rfl
 replace hn := Aside0.mk hn
 go_enter Tryz.func65, Tryz.ntmps65
 go_wp2_with (first | (go_at_call 32; (with_reducible refine (sLedgerOk_calls f _ _ g _ _ HS.out HT.out _ P1.out _ (Kd.C_below HR.out (by repeat (with_reducible first | assumption | exact Below.refl _ _ | apply below_alloc | apply below_drew1 | apply pw_below_drewN | refine below_set ?_ (by omega) | refine below_step ?_ (by assumption)))) (Kd.C_below HE.out (by repeat (with_reducible first | assumption | exact Below.refl _ _ | apply below_alloc | apply below_drew1 | apply pw_below_drewN | refine below_set ?_ (by omega) | refine below_step ?_ (by assumption))))).mono ?_); rintro e w1 ⟨rfl, hb1⟩; have Ba1 := Aside0.mk (show w1.heap[w.heap.size]? = some (.cells #[.slice A f.chart.length c, .int .i64 f.dims, .int .i64 f.curs] 26 (0, 0)) from blk_below (blk_alloc (blk_alloc (blk_alloc (blk_new w _) _) _) _) hb1); have qa10 : w1.cell? ⟨w.heap.size, 0, none⟩ = some (.slice A f.chart.length c) := (blk_cell Ba1.out 0).trans rfl; have fa10 := blk_frozen Ba1.out 0; have qa11 : w1.cell? ⟨w.heap.size, 1, none⟩ = some (.int .i64 f.dims) := (blk_cell Ba1.out 1).trans rfl; have fa11 := blk_frozen Ba1.out 1; have qa12 : w1.cell? ⟨w.heap.size, 2, none⟩ = some (.int .i64 f.curs) := (blk_cell Ba1.out 2).trans rfl; have fa12 := blk_frozen Ba1.out 2; have Bb1 := Aside0.mk (show w1.heap[w.heap.size + 1]? = some (.cells #[.slice A3 g.entries.length c3, .int .i64 g.head] 29 (0, 0)) from blk_below (blk_alloc (blk_alloc (blk_new1 w _ _) _) _) hb1); have qb10 : w1.cell? ⟨w.heap.size + 1, 0, none⟩ = some (.slice A3 g.entries.length c3) := (blk_cell Bb1.out 0).trans rfl; have fb10 := blk_frozen Bb1.out 0; have qb11 : w1.cell? ⟨w.heap.size + 1, 1, none⟩ = some (.int .i64 g.head) := (blk_cell Bb1.out 1).trans rfl; have fb11 := blk_frozen Bb1.out 1; have Bc1 := Aside0.mk (show w1.heap[w.heap.size + 1 + 1]? = some (.cells #[.int .i64 y.f0, .int .i64 y.f1, .string y.f2, .slice AL y.f3.length cL] 41 (0, 0)) from blk_below (blk_alloc (blk_new2 w _ _ _) _) hb1); have qc10 : w1.cell? ⟨w.heap.size + 1 + 1, 0, none⟩ = some (.int .i64 y.f0) := (blk_cell Bc1.out 0).trans rfl; have fc10 := blk_frozen Bc1.out 0; have qc11 : w1.cell? ⟨w.heap.size + 1 + 1, 1, none⟩ = some (.int .i64 y.f1) := (blk_cell Bc1.out 1).trans rfl; have fc11 := blk_frozen Bc1.out 1; have qc12 : w1.cell? ⟨w.heap.size + 1 + 1, 2, none⟩ = some (.string y.f2) := (blk_cell Bc1.out 2).trans rfl; have fc12 := blk_frozen Bc1.out 2; have qc13 : w1.cell? ⟨w.heap.size + 1 + 1, 3, none⟩ = some (.slice AL y.f3.length cL) := (blk_cell Bc1.out 3).trans rfl; have fc13 := blk_frozen Bc1.out 3; have Bd1 := Aside0.mk (show w1.heap[w.heap.size + 1 + 1 + 1]? = some (.cells #[.slice none 0 0, .int .i64 0] 29 (0, 0)) from blk_below (blk_new3 w _ _ _ _) hb1); have qd10 : w1.cell? ⟨w.heap.size + 1 + 1 + 1, 0, none⟩ = some (.slice none 0 0) := (blk_cell Bd1.out 0).trans rfl; have fd10 := blk_frozen Bd1.out 0; have qd11 : w1.cell? ⟨w.heap.size + 1 + 1 + 1, 1, none⟩ = some (.int .i64 0) := (blk_cell Bd1.out 1).trans rfl; have fd11 := blk_frozen Bd1.out 1; have HB1 := Aside0.mk (show Below w.heap.size w w1 from (by repeat (with_reducible first | assumption | exact Below.refl _ _ | apply below_alloc | apply below_drew1 | apply pw_below_drewN | refine below_set ?_ (by omega) | refine below_step ?_ (by assumption)))); have hz1 : w.heap.size + 1 + 1 + 1 < w1.heap.size := cell_lt qd10; have hz10 : w.heap.size < w1.heap.size := (by omega); have hz11 : w.heap.size + 1 < w1.heap.size := (by omega); have hz12 : w.heap.size + 1 + 1 < w1.heap.size := (by omega); clear hb1) | (go_at_call 105; (with_reducible refine (sLedgerCopy_calls g _ _ hle hl3.out _ (Kd.C_below HE.out HB1.out)).mono ?_); rintro e w2 ⟨V2, cv2, rfl, ho2, hb2⟩; replace ho2 := Aside0.mk ho2; have Ba2 := Aside0.mk (show w2.heap[w.heap.size]? = some (.cells #[.slice A f.chart.length c, .int .i64 f.dims, .int .i64 f.curs] 26 (0, 0)) from blk_below Ba1.out hb2); have qa20 : w2.cell? ⟨w.heap.size, 0, none⟩ = some (.slice A f.chart.length c) := (blk_cell Ba2.out 0).trans rfl; have fa20 := blk_frozen Ba2.out 0; have qa21 : w2.cell? ⟨w.heap.size, 1, none⟩ = some (.int .i64 f.dims) := (blk_cell Ba2.out 1).trans rfl; have fa21 := blk_frozen Ba2.out 1; have qa22 : w2.cell? ⟨w.heap.size, 2, none⟩ = some (.int .i64 f.curs) := (blk_cell Ba2.out 2).trans rfl; have fa22 := blk_frozen Ba2.out 2; have Bb2 := Aside0.mk (show w2.heap[w.heap.size + 1]? = some (.cells #[.slice A3 g.entries.length c3, .int .i64 g.head] 29 (0, 0)) from blk_below Bb1.out hb2); have qb20 : w2.cell? ⟨w.heap.size + 1, 0, none⟩ = some (.slice A3 g.entries.length c3) := (blk_cell Bb2.out 0).trans rfl; have fb20 := blk_frozen Bb2.out 0; have qb21 : w2.cell? ⟨w.heap.size + 1, 1, none⟩ = some (.int .i64 g.head) := (blk_cell Bb2.out 1).trans rfl; have fb21 := blk_frozen Bb2.out 1; have Bc2 := Aside0.mk (show w2.heap[w.heap.size + 1 + 1]? = some (.cells #[.int .i64 y.f0, .int .i64 y.f1, .string y.f2, .slice AL y.f3.length cL] 41 (0, 0)) from blk_below Bc1.out hb2); have qc20 : w2.cell? ⟨w.heap.size + 1 + 1, 0, none⟩ = some (.int .i64 y.f0) := (blk_cell Bc2.out 0).trans rfl; have fc20 := blk_frozen Bc2.out 0; have qc21 : w2.cell? ⟨w.heap.size + 1 + 1, 1, none⟩ = some (.int .i64 y.f1) := (blk_cell Bc2.out 1).trans rfl; have fc21 := blk_frozen Bc2.out 1; have qc22 : w2.cell? ⟨w.heap.size + 1 + 1, 2, none⟩ = some (.string y.f2) := (blk_cell Bc2.out 2).trans rfl; have fc22 := blk_frozen Bc2.out 2; have qc23 : w2.cell? ⟨w.heap.size + 1 + 1, 3, none⟩ = some (.slice AL y.f3.length cL) := (blk_cell Bc2.out 3).trans rfl; have fc23 := blk_frozen Bc2.out 3; have Bd2 := Aside0.mk (show w2.heap[w.heap.size + 1 + 1 + 1]? = some (.cells #[.slice none 0 0, .int .i64 0] 29 (0, 0)) from blk_below Bd1.out hb2); have qd20 : w2.cell? ⟨w.heap.size + 1 + 1 + 1, 0, none⟩ = some (.slice none 0 0) := (blk_cell Bd2.out 0).trans rfl; have fd20 := blk_frozen Bd2.out 0; have qd21 : w2.cell? ⟨w.heap.size + 1 + 1 + 1, 1, none⟩ = some (.int .i64 0) := (blk_cell Bd2.out 1).trans rfl; have fd21 := blk_frozen Bd2.out 1; have HB2 := Aside0.mk (show Below w.heap.size w w2 from below_step HB1.out hb2); have hz2 : w.heap.size + 1 + 1 + 1 < w2.heap.size := cell_lt qd20; have hz20 : w.heap.size < w2.heap.size := (by omega); have hz21 : w.heap.size + 1 < w2.heap.size := (by omega); have hz22 : w.heap.size + 1 + 1 < w2.heap.size := (by omega)) | (go_at_call 44; (with_reducible refine (sEntryOk_calls f _ _ y _ _ HS.out hty _ P2.out _ (Kd.C_below HR.out (below_alloc HB2.out _)) (Kd.C_below HL.out (below_alloc HB2.out _))).mono ?_); rintro e w3 ⟨rfl, hb3⟩; have Ba3 := Aside0.mk (show w3.heap[w.heap.size]? = some (.cells #[.slice A f.chart.length c, .int .i64 f.dims, .int .i64 f.curs] 26 (0, 0)) from blk_below (blk_alloc Ba2.out _) hb3); have qa30 : w3.cell? ⟨w.heap.size, 0, none⟩ = some (.slice A f.chart.length c) := (blk_cell Ba3.out 0).trans rfl; have fa30 := blk_frozen Ba3.out 0; have qa31 : w3.cell? ⟨w.heap.size, 1, none⟩ = some (.int .i64 f.dims) := (blk_cell Ba3.out 1).trans rfl; have fa31 := blk_frozen Ba3.out 1; have qa32 : w3.cell? ⟨w.heap.size, 2, none⟩ = some (.int .i64 f.curs) := (blk_cell Ba3.out 2).trans rfl; have fa32 := blk_frozen Ba3.out 2; have Bb3 := Aside0.mk (show w3.heap[w.heap.size + 1]? = some (.cells #[.slice A3 g.entries.length c3, .int .i64 g.head] 29 (0, 0)) from blk_below (blk_alloc Bb2.out _) hb3); have qb30 : w3.cell? ⟨w.heap.size + 1, 0, none⟩ = some (.slice A3 g.entries.length c3) := (blk_cell Bb3.out 0).trans rfl; have fb30 := blk_frozen Bb3.out 0; have qb31 : w3.cell? ⟨w.heap.size + 1, 1, none⟩ = some (.int .i64 g.head) := (blk_cell Bb3.out 1).trans rfl; have fb31 := blk_frozen Bb3.out 1; have Bc3 := Aside0.mk (show w3.heap[w.heap.size + 1 + 1]? = some (.cells #[.int .i64 y.f0, .int .i64 y.f1, .string y.f2, .slice AL y.f3.length cL] 41 (0, 0)) from blk_below (blk_alloc Bc2.out _) hb3); have qc30 : w3.cell? ⟨w.heap.size + 1 + 1, 0, none⟩ = some (.int .i64 y.f0) := (blk_cell Bc3.out 0).trans rfl; have fc30 := blk_frozen Bc3.out 0; have qc31 : w3.cell? ⟨w.heap.size + 1 + 1, 1, none⟩ = some (.int .i64 y.f1) := (blk_cell Bc3.out 1).trans rfl; have fc31 := blk_frozen Bc3.out 1; have qc32 : w3.cell? ⟨w.heap.size + 1 + 1, 2, none⟩ = some (.string y.f2) := (blk_cell Bc3.out 2).trans rfl; have fc32 := blk_frozen Bc3.out 2; have qc33 : w3.cell? ⟨w.heap.size + 1 + 1, 3, none⟩ = some (.slice AL y.f3.length cL) := (blk_cell Bc3.out 3).trans rfl; have fc33 := blk_frozen Bc3.out 3; have Bd3 := Aside0.mk (show w3.heap[w.heap.size + 1 + 1 + 1]? = some (.cells #[.slice none 0 0, .int .i64 0] 29 (0, 0)) from blk_below (blk_alloc Bd2.out _) hb3); have qd30 : w3.cell? ⟨w.heap.size + 1 + 1 + 1, 0, none⟩ = some (.slice none 0 0) := (blk_cell Bd3.out 0).trans rfl; have fd30 := blk_frozen Bd3.out 0; have qd31 : w3.cell? ⟨w.heap.size + 1 + 1 + 1, 1, none⟩ = some (.int .i64 0) := (blk_cell Bd3.out 1).trans rfl; have fd31 := blk_frozen Bd3.out 1; have Be3 := Aside0.mk (show w3.heap[w2.heap.size]? = some (.cells #[.slice V2 g.entries.length cv2, .int .i64 g.head] 29 (0, 0)) from blk_below (blk_new w2 _) hb3); have qe30 : w3.cell? ⟨w2.heap.size, 0, none⟩ = some (.slice V2 g.entries.length cv2) := (blk_cell Be3.out 0).trans rfl; have fe30 := blk_frozen Be3.out 0; have qe31 : w3.cell? ⟨w2.heap.size, 1, none⟩ = some (.int .i64 g.head) := (blk_cell Be3.out 1).trans rfl; have fe31 := blk_frozen Be3.out 1; have HB3 := Aside0.mk (show Below w.heap.size w w3 from below_step (below_alloc HB2.out _) hb3); have hz3 : w2.heap.size < w3.heap.size := cell_lt qe30))
 refine bodyPost_ret (v := .tuple #[.agg #[.slice V2 g.entries.length cv2, .int .i64 g.head], .int .i64 3]) (by simp [results, Tryz.results65, go_sem, qd30, qd31, fd30, fd31]) rfl ⟨_, _, _, _, rfl, ?_⟩
 exact below_set (below_set HB3.out (by omega)) (by omega)
set_option maxRecDepth 100000 in
set_option maxHeartbeats 4000000 in
theorem sPostOk_calls (f : FrameD) (A : Option Addr) (c : Nat) (g : LedgD) (A3 : Option Addr) (c3 : Nat) (y : S41) (AL : Option Addr) (cL : Nat) (hs : SzC f.chart) (ht : SzE g.entries) (hty : y.f2.size ≤ 9223372036854775807) (hP : LedgerP f g) (hY : EntryP f y) (hn : g.entries.length < 1000) (r : Int) (hr2 : headF (g.entries ++ [y]) = r) (w : World) (hr : Kd.C k48 w A f.chart.length f.chart) (he : Kd.C k41 w A3 g.entries.length g.entries) (hl : Kd.C k88 w AL y.f3.length y.f3) : Calls Tryz.prog 65 #[.agg #[.slice A f.chart.length c, .int .i64 f.dims, .int .i64 f.curs], .agg #[.slice A3 g.entries.length c3, .int .i64 g.head], .agg #[.int .i64 y.f0, .int .i64 y.f1, .string y.f2, .slice AL y.f3.length cL]] w fun e w' => ∃ A' c', e = .returned (.tuple #[.agg #[.slice A' (g.entries ++ [y]).length c', .int .i64 r], .int .i64 0]) ∧ k41.R 41 w' w.heap.size (fun _ => True) (.slice A' (g.entries ++ [y]).length c') (g.entries ++ [y]) ∧ Below w.heap.size w w' := by
 have hu := Tryz.underlying26
 have hu2 := Tryz.underlying29
 have hu3 := Tryz.underlying41
 have HR := Aside0.mk hr
 have HE := Aside0.mk he
 have HL := Aside0.mk hl
 have HS := Aside0.mk hs
 have HT := Aside0.mk ht
 have hl3 := Aside0.mk (show ∀ i : Int, 0 ≤ i → i < g.entries.length → (en g.entries i).f3.length ≤ 1048576 from fun i h0 h1 => by have := (hP.2.2.2 i h0 h1).2.2.2.1.2; omega)
 have hle : g.entries.length ≤ 1048576 := by have := hP.1; omega
 have P1 := Aside0.mk (bP_t hP)
 have P2 := Aside0.mk (bP_t (And.intro hP.2.1 hY))
 have hln : y.f3.length ≤ 1048576 := by have := hY.2.2.2.1.2; omega
 have HP := Aside0.mk hP
 clear hr he hl hs ht hP
 have HH := Aside0.mk hr2
 have HT2 := Aside0.mk (show SzE (g.entries ++ [y]) from fun i h0 h1 => by
  by_cases h : i < g.entries.length
  ·have hi : i.toNat < g.entries.length := by omega
   have := HT.out i h0 h
   unfold en rd_T41 at *
   rw [List.getD_eq_getElem?_getD] at this ⊢; rw [List.getElem?_append_left hi]; exact this
  ·have hi : i.toNat = g.entries.length := by simp at h1; omega
   unfold en rd_T41
   rw [hi]; simpa using hty)
 clear hr2
 obtain ⟨L, hL⟩ : ∃ L, g.entries ++ [y] = L := ⟨_, rfl⟩
 rw [hL] at HH HT2 ⊢
 replace hL := Aside0.mk hL
 have hn1 : ((g.entries.length : Int) == 1000) = false := by simp; omega
 go_enter Tryz.func65, Tryz.ntmps65
 go_wp2_with (first | (go_at_call 32; (with_reducible refine (sLedgerOk_calls f _ _ g _ _ HS.out HT.out _ P1.out _ (Kd.C_below HR.out (by repeat (with_reducible first | assumption | exact Below.refl _ _ | apply below_alloc | apply below_drew1 | apply pw_below_drewN | refine below_set ?_ (by omega) | refine below_step ?_ (by assumption)))) (Kd.C_below HE.out (by repeat (with_reducible first | assumption | exact Below.refl _ _ | apply below_alloc | apply below_drew1 | apply pw_below_drewN | refine below_set ?_ (by omega) | refine below_step ?_ (by assumption))))).mono ?_); rintro e w1 ⟨rfl, hb1⟩; have Ba1 := Aside0.mk (show w1.heap[w.heap.size]? = some (.cells #[.slice A f.chart.length c, .int .i64 f.dims, .int .i64 f.curs] 26 (0, 0)) from blk_below (blk_alloc (blk_alloc (blk_alloc (blk_new w _) _) _) _) hb1); have qa10 : w1.cell? ⟨w.heap.size, 0, none⟩ = some (.slice A f.chart.length c) := (blk_cell Ba1.out 0).trans rfl; have fa10 := blk_frozen Ba1.out 0; have qa11 : w1.cell? ⟨w.heap.size, 1, none⟩ = some (.int .i64 f.dims) := (blk_cell Ba1.out 1).trans rfl; have fa11 := blk_frozen Ba1.out 1; have qa12 : w1.cell? ⟨w.heap.size, 2, none⟩ = some (.int .i64 f.curs) := (blk_cell Ba1.out 2).trans rfl; have fa12 := blk_frozen Ba1.out 2; have Bb1 := Aside0.mk (show w1.heap[w.heap.size + 1]? = some (.cells #[.slice A3 g.entries.length c3, .int .i64 g.head] 29 (0, 0)) from blk_below (blk_alloc (blk_alloc (blk_new1 w _ _) _) _) hb1); have qb10 : w1.cell? ⟨w.heap.size + 1, 0, none⟩ = some (.slice A3 g.entries.length c3) := (blk_cell Bb1.out 0).trans rfl; have fb10 := blk_frozen Bb1.out 0; have qb11 : w1.cell? ⟨w.heap.size + 1, 1, none⟩ = some (.int .i64 g.head) := (blk_cell Bb1.out 1).trans rfl; have fb11 := blk_frozen Bb1.out 1; have Bc1 := Aside0.mk (show w1.heap[w.heap.size + 1 + 1]? = some (.cells #[.int .i64 y.f0, .int .i64 y.f1, .string y.f2, .slice AL y.f3.length cL] 41 (0, 0)) from blk_below (blk_alloc (blk_new2 w _ _ _) _) hb1); have qc10 : w1.cell? ⟨w.heap.size + 1 + 1, 0, none⟩ = some (.int .i64 y.f0) := (blk_cell Bc1.out 0).trans rfl; have fc10 := blk_frozen Bc1.out 0; have qc11 : w1.cell? ⟨w.heap.size + 1 + 1, 1, none⟩ = some (.int .i64 y.f1) := (blk_cell Bc1.out 1).trans rfl; have fc11 := blk_frozen Bc1.out 1; have qc12 : w1.cell? ⟨w.heap.size + 1 + 1, 2, none⟩ = some (.string y.f2) := (blk_cell Bc1.out 2).trans rfl; have fc12 := blk_frozen Bc1.out 2; have qc13 : w1.cell? ⟨w.heap.size + 1 + 1, 3, none⟩ = some (.slice AL y.f3.length cL) := (blk_cell Bc1.out 3).trans rfl; have fc13 := blk_frozen Bc1.out 3; have Bd1 := Aside0.mk (show w1.heap[w.heap.size + 1 + 1 + 1]? = some (.cells #[.slice none 0 0, .int .i64 0] 29 (0, 0)) from blk_below (blk_new3 w _ _ _ _) hb1); have qd10 : w1.cell? ⟨w.heap.size + 1 + 1 + 1, 0, none⟩ = some (.slice none 0 0) := (blk_cell Bd1.out 0).trans rfl; have fd10 := blk_frozen Bd1.out 0; have qd11 : w1.cell? ⟨w.heap.size + 1 + 1 + 1, 1, none⟩ = some (.int .i64 0) := (blk_cell Bd1.out 1).trans rfl; have fd11 := blk_frozen Bd1.out 1; have HB1 := Aside0.mk (show Below w.heap.size w w1 from (by repeat (with_reducible first | assumption | exact Below.refl _ _ | apply below_alloc | apply below_drew1 | apply pw_below_drewN | refine below_set ?_ (by omega) | refine below_step ?_ (by assumption)))); have hz1 : w.heap.size + 1 + 1 + 1 < w1.heap.size := cell_lt qd10; have hz10 : w.heap.size < w1.heap.size := (by omega); have hz11 : w.heap.size + 1 < w1.heap.size := (by omega); have hz12 : w.heap.size + 1 + 1 < w1.heap.size := (by omega); clear hb1) | (go_at_call 105; (with_reducible refine (sLedgerCopy_calls g _ _ hle hl3.out _ (Kd.C_below HE.out HB1.out)).mono ?_); rintro e w2 ⟨V2, cv2, rfl, ho2, hb2⟩; replace ho2 := Aside0.mk ho2; have Ba2 := Aside0.mk (show w2.heap[w.heap.size]? = some (.cells #[.slice A f.chart.length c, .int .i64 f.dims, .int .i64 f.curs] 26 (0, 0)) from blk_below Ba1.out hb2); have qa20 : w2.cell? ⟨w.heap.size, 0, none⟩ = some (.slice A f.chart.length c) := (blk_cell Ba2.out 0).trans rfl; have fa20 := blk_frozen Ba2.out 0; have qa21 : w2.cell? ⟨w.heap.size, 1, none⟩ = some (.int .i64 f.dims) := (blk_cell Ba2.out 1).trans rfl; have fa21 := blk_frozen Ba2.out 1; have qa22 : w2.cell? ⟨w.heap.size, 2, none⟩ = some (.int .i64 f.curs) := (blk_cell Ba2.out 2).trans rfl; have fa22 := blk_frozen Ba2.out 2; have Bb2 := Aside0.mk (show w2.heap[w.heap.size + 1]? = some (.cells #[.slice A3 g.entries.length c3, .int .i64 g.head] 29 (0, 0)) from blk_below Bb1.out hb2); have qb20 : w2.cell? ⟨w.heap.size + 1, 0, none⟩ = some (.slice A3 g.entries.length c3) := (blk_cell Bb2.out 0).trans rfl; have fb20 := blk_frozen Bb2.out 0; have qb21 : w2.cell? ⟨w.heap.size + 1, 1, none⟩ = some (.int .i64 g.head) := (blk_cell Bb2.out 1).trans rfl; have fb21 := blk_frozen Bb2.out 1; have Bc2 := Aside0.mk (show w2.heap[w.heap.size + 1 + 1]? = some (.cells #[.int .i64 y.f0, .int .i64 y.f1, .string y.f2, .slice AL y.f3.length cL] 41 (0, 0)) from blk_below Bc1.out hb2); have qc20 : w2.cell? ⟨w.heap.size + 1 + 1, 0, none⟩ = some (.int .i64 y.f0) := (blk_cell Bc2.out 0).trans rfl; have fc20 := blk_frozen Bc2.out 0; have qc21 : w2.cell? ⟨w.heap.size + 1 + 1, 1, none⟩ = some (.int .i64 y.f1) := (blk_cell Bc2.out 1).trans rfl; have fc21 := blk_frozen Bc2.out 1; have qc22 : w2.cell? ⟨w.heap.size + 1 + 1, 2, none⟩ = some (.string y.f2) := (blk_cell Bc2.out 2).trans rfl; have fc22 := blk_frozen Bc2.out 2; have qc23 : w2.cell? ⟨w.heap.size + 1 + 1, 3, none⟩ = some (.slice AL y.f3.length cL) := (blk_cell Bc2.out 3).trans rfl; have fc23 := blk_frozen Bc2.out 3; have Bd2 := Aside0.mk (show w2.heap[w.heap.size + 1 + 1 + 1]? = some (.cells #[.slice none 0 0, .int .i64 0] 29 (0, 0)) from blk_below Bd1.out hb2); have qd20 : w2.cell? ⟨w.heap.size + 1 + 1 + 1, 0, none⟩ = some (.slice none 0 0) := (blk_cell Bd2.out 0).trans rfl; have fd20 := blk_frozen Bd2.out 0; have qd21 : w2.cell? ⟨w.heap.size + 1 + 1 + 1, 1, none⟩ = some (.int .i64 0) := (blk_cell Bd2.out 1).trans rfl; have fd21 := blk_frozen Bd2.out 1; have HB2 := Aside0.mk (show Below w.heap.size w w2 from below_step HB1.out hb2); have hz2 : w.heap.size + 1 + 1 + 1 < w2.heap.size := cell_lt qd20; have hz20 : w.heap.size < w2.heap.size := (by omega); have hz21 : w.heap.size + 1 < w2.heap.size := (by omega); have hz22 : w.heap.size + 1 + 1 < w2.heap.size := (by omega)) | (go_at_call 44; (with_reducible refine (sEntryOk_calls f _ _ y _ _ HS.out hty _ P2.out _ (Kd.C_below HR.out (below_alloc HB2.out _)) (Kd.C_below HL.out (below_alloc HB2.out _))).mono ?_); rintro e w3 ⟨rfl, hb3⟩; have Ba3 := Aside0.mk (show w3.heap[w.heap.size]? = some (.cells #[.slice A f.chart.length c, .int .i64 f.dims, .int .i64 f.curs] 26 (0, 0)) from blk_below (blk_alloc Ba2.out _) hb3); have qa30 : w3.cell? ⟨w.heap.size, 0, none⟩ = some (.slice A f.chart.length c) := (blk_cell Ba3.out 0).trans rfl; have fa30 := blk_frozen Ba3.out 0; have qa31 : w3.cell? ⟨w.heap.size, 1, none⟩ = some (.int .i64 f.dims) := (blk_cell Ba3.out 1).trans rfl; have fa31 := blk_frozen Ba3.out 1; have qa32 : w3.cell? ⟨w.heap.size, 2, none⟩ = some (.int .i64 f.curs) := (blk_cell Ba3.out 2).trans rfl; have fa32 := blk_frozen Ba3.out 2; have Bb3 := Aside0.mk (show w3.heap[w.heap.size + 1]? = some (.cells #[.slice A3 g.entries.length c3, .int .i64 g.head] 29 (0, 0)) from blk_below (blk_alloc Bb2.out _) hb3); have qb30 : w3.cell? ⟨w.heap.size + 1, 0, none⟩ = some (.slice A3 g.entries.length c3) := (blk_cell Bb3.out 0).trans rfl; have fb30 := blk_frozen Bb3.out 0; have qb31 : w3.cell? ⟨w.heap.size + 1, 1, none⟩ = some (.int .i64 g.head) := (blk_cell Bb3.out 1).trans rfl; have fb31 := blk_frozen Bb3.out 1; have Bc3 := Aside0.mk (show w3.heap[w.heap.size + 1 + 1]? = some (.cells #[.int .i64 y.f0, .int .i64 y.f1, .string y.f2, .slice AL y.f3.length cL] 41 (0, 0)) from blk_below (blk_alloc Bc2.out _) hb3); have qc30 : w3.cell? ⟨w.heap.size + 1 + 1, 0, none⟩ = some (.int .i64 y.f0) := (blk_cell Bc3.out 0).trans rfl; have fc30 := blk_frozen Bc3.out 0; have qc31 : w3.cell? ⟨w.heap.size + 1 + 1, 1, none⟩ = some (.int .i64 y.f1) := (blk_cell Bc3.out 1).trans rfl; have fc31 := blk_frozen Bc3.out 1; have qc32 : w3.cell? ⟨w.heap.size + 1 + 1, 2, none⟩ = some (.string y.f2) := (blk_cell Bc3.out 2).trans rfl; have fc32 := blk_frozen Bc3.out 2; have qc33 : w3.cell? ⟨w.heap.size + 1 + 1, 3, none⟩ = some (.slice AL y.f3.length cL) := (blk_cell Bc3.out 3).trans rfl; have fc33 := blk_frozen Bc3.out 3; have Bd3 := Aside0.mk (show w3.heap[w.heap.size + 1 + 1 + 1]? = some (.cells #[.slice none 0 0, .int .i64 0] 29 (0, 0)) from blk_below (blk_alloc Bd2.out _) hb3); have qd30 : w3.cell? ⟨w.heap.size + 1 + 1 + 1, 0, none⟩ = some (.slice none 0 0) := (blk_cell Bd3.out 0).trans rfl; have fd30 := blk_frozen Bd3.out 0; have qd31 : w3.cell? ⟨w.heap.size + 1 + 1 + 1, 1, none⟩ = some (.int .i64 0) := (blk_cell Bd3.out 1).trans rfl; have fd31 := blk_frozen Bd3.out 1; have Be3 := Aside0.mk (show w3.heap[w2.heap.size]? = some (.cells #[.slice V2 g.entries.length cv2, .int .i64 g.head] 29 (0, 0)) from blk_below (blk_new w2 _) hb3); have qe30 : w3.cell? ⟨w2.heap.size, 0, none⟩ = some (.slice V2 g.entries.length cv2) := (blk_cell Be3.out 0).trans rfl; have fe30 := blk_frozen Be3.out 0; have qe31 : w3.cell? ⟨w2.heap.size, 1, none⟩ = some (.int .i64 g.head) := (blk_cell Be3.out 1).trans rfl; have fe31 := blk_frozen Be3.out 1; have HB3 := Aside0.mk (show Below w.heap.size w w3 from below_step (below_alloc HB2.out _) hb3); have hz3 : w2.heap.size < w3.heap.size := cell_lt qe30))
 refine start_ (n := 8) (S := fun (w' : World) => w'.cell? ⟨w2.heap.size, 0, none⟩ = some (.slice V2 g.entries.length cv2) ∧ w'.cell? ⟨w.heap.size + 1 + 1, 0, none⟩ = some (.int .i64 y.f0) ∧ w'.cell? ⟨w.heap.size + 1 + 1, 1, none⟩ = some (.int .i64 y.f1) ∧ w'.cell? ⟨w.heap.size + 1 + 1, 2, none⟩ = some (.string y.f2) ∧ w'.cell? ⟨w.heap.size + 1 + 1, 3, none⟩ = some (.slice AL y.f3.length cL)) (ds := [7]) #[false, false, false, false, false, false, false, false] (by kernel_rfl) rfl rfl (by exact ⟨(blk_cell (blk_drew Be3.out) 0).trans rfl, (blk_cell (blk_drew Bc3.out) 0).trans rfl, (blk_cell (blk_drew Bc3.out) 1).trans rfl, (blk_cell (blk_drew Bc3.out) 2).trans rfl, (blk_cell (blk_drew Bc3.out) 3).trans rfl⟩) (fun hHeld => ?_)
 have Bc := Aside0.mk (blk_drew Bc3.out)
 have Be := Aside0.mk (blk_drew Be3.out)
 have HBd := Aside0.mk (show Below w1.heap.size w1 w3.drew from below_drew (below_step (below_alloc hb2 _) hb3))
 have HO := Aside0.mk (Kd.R_drew (Kd.R_below (Kd.R_alloc ho2.out _) hb3))
 generalize w3.drew = wd at hHeld Bc Be HBd HO ⊢
 refine pure_ (i := 0) (N := (some 26)) (v := ?_) (a' := ?_) #[true, false, false, false, false, false, false, false] rfl rfl (by kernel_rfl) (fun _ _ _ h => h) (Or.inl ⟨by rfl, ?_⟩) ?_ ?_
 rotate_left
 ·intro w'
  go_simp
  try with_reducible rfl
 rotate_left
 ·simp only [Act.put, List.setIfInBounds_toArray, List.set_cons_zero, List.set_cons_succ]
  rfl
 refine take_ (i := 1) (N := (some 27)) (v := ?_) (a' := ?_) #[true, true, false, false, false, false, false, false] rfl rfl (by kernel_rfl) (fun _ _ _ h => h) (Or.inl ⟨by rfl, ?_⟩) hHeld ?_ ?_
 rotate_left
 ·rintro w' ⟨s0, s1, s2, s3, s4⟩
  go_simp
  try with_reducible rfl
 rotate_left
 ·simp only [Act.put, List.setIfInBounds_toArray, List.set_cons_zero, List.set_cons_succ]
  rfl
 refine take_ (i := 2) (N := (some 28)) (v := ?_) (a' := ?_) #[true, true, true, false, false, false, false, false] rfl rfl (by kernel_rfl) (fun _ _ _ h => h) (Or.inl ⟨by rfl, ?_⟩) hHeld ?_ ?_
 rotate_left
 ·rintro w' ⟨s0, s1, s2, s3, s4⟩
  go_simp
  try with_reducible rfl
 rotate_left
 ·simp only [Act.put, List.setIfInBounds_toArray, List.set_cons_zero, List.set_cons_succ]
  rfl
 refine one_ (i := 3) (N := (some 29)) #[true, true, true, true, false, false, false, false] rfl rfl (by kernel_rfl) (by decide) (fun K hK => ?_)
 refine goes_ Tryz.func106 (by kernel_rfl) rfl #[.agg #[.int .i64 y.f0, .int .i64 y.f1, .string y.f2, .slice AL y.f3.length cL]] (by rfl) rfl rfl (by (try simp only [List.map_toArray, List.map_cons, List.map_nil]); first | done | rfl) ?_
 with_reducible refine (sEntryCopy_calls y AL cL hln _ (Kd.C_below HL.out (below_step HB1.out HBd.out))).mono ?_
 rintro e w4 ⟨v, rfl, ho4, hb4⟩
 obtain ⟨V4, cv4, rfl⟩ := Kd.R_slice ho4
 replace ho4 := Aside0.mk ho4
 have Bc4 := Aside0.mk (show w4.heap[w.heap.size + 1 + 1]? = some (.cells #[.int .i64 y.f0, .int .i64 y.f1, .string y.f2, .slice AL y.f3.length cL] 41 (0, 0)) from blk_below Bc.out hb4)
 have qc40 : w4.cell? ⟨w.heap.size + 1 + 1, 0, none⟩ = some (.int .i64 y.f0) := (blk_cell Bc4.out 0).trans rfl
 have fc40 := blk_frozen Bc4.out 0
 have qc41 : w4.cell? ⟨w.heap.size + 1 + 1, 1, none⟩ = some (.int .i64 y.f1) := (blk_cell Bc4.out 1).trans rfl
 have fc41 := blk_frozen Bc4.out 1
 have qc42 : w4.cell? ⟨w.heap.size + 1 + 1, 2, none⟩ = some (.string y.f2) := (blk_cell Bc4.out 2).trans rfl
 have fc42 := blk_frozen Bc4.out 2
 have qc43 : w4.cell? ⟨w.heap.size + 1 + 1, 3, none⟩ = some (.slice AL y.f3.length cL) := (blk_cell Bc4.out 3).trans rfl
 have fc43 := blk_frozen Bc4.out 3
 have Be4 := Aside0.mk (show w4.heap[w2.heap.size]? = some (.cells #[.slice V2 g.entries.length cv2, .int .i64 g.head] 29 (0, 0)) from blk_below Be.out hb4)
 have qe40 : w4.cell? ⟨w2.heap.size, 0, none⟩ = some (.slice V2 g.entries.length cv2) := (blk_cell Be4.out 0).trans rfl
 have fe40 := blk_frozen Be4.out 0
 have qe41 : w4.cell? ⟨w2.heap.size, 1, none⟩ = some (.int .i64 g.head) := (blk_cell Be4.out 1).trans rfl
 have fe41 := blk_frozen Be4.out 1
 have HB4 := Aside0.mk (below_step HBd.out hb4)
 have HO4 := Aside0.mk (Kd.R_below HO.out hb4)
 refine ⟨_, rfl, ?_⟩
 refine hK.out _ _ (by exact ⟨(blk_cell (Be4.out) 0).trans rfl, (blk_cell (Bc4.out) 0).trans rfl, (blk_cell (Bc4.out) 1).trans rfl, (blk_cell (Bc4.out) 2).trans rfl, (blk_cell (Bc4.out) 3).trans rfl⟩) (fun hHeld => ?_)
 clear hK K
 refine norm_ (a' := ?_) ?_ ?_
 rotate_left
 ·show Act.put _ (some 29) _ = _
  simp only [Act.put, List.setIfInBounds_toArray, List.set_cons_zero, List.set_cons_succ]
  rfl
 refine one_ (i := 4) (N := (some 30)) #[true, true, true, true, true, false, false, false] rfl rfl (by kernel_rfl) (by decide) (fun K hK => ?_)
 refine value_ (w1 := ?_) (v := ?_) (by rfl) rfl ?_ ?_
 rotate_left 2
 ·go_simp
  constructor
  ·rfl
  ·rfl
 refine hK.out _ _ (by exact ⟨(blk_cell (blk_alloc Be4.out _) 0).trans rfl, (blk_cell (blk_alloc Bc4.out _) 0).trans rfl, (blk_cell (blk_alloc Bc4.out _) 1).trans rfl, (blk_cell (blk_alloc Bc4.out _) 2).trans rfl, (blk_cell (blk_alloc Bc4.out _) 3).trans rfl⟩) (fun hHeld => ?_)
 clear hK K
 refine norm_ (a' := ?_) ?_ ?_
 rotate_left
 ·show Act.put _ (some 30) _ = _
  simp only [Act.put, List.setIfInBounds_toArray, List.set_cons_zero, List.set_cons_succ]
  rfl
 refine one_ (i := 5) (N := (some 31)) #[true, true, true, true, true, true, false, false] rfl rfl (by kernel_rfl) (by decide) (fun K hK => ?_)
 refine Kd.R_append_step k41 (w0 := w1) w1.heap.size (by rfl) (.tmp 27) (.tmp 30) 27 41 (.agg #[(.int .i64 0), (.int .i64 0), (.string ⟨#[]⟩), (.slice none 0 0)]) 56 rfl Tryz.underlying27 info41 rfl (by decide) (by omega) (.slice V2 g.entries.length cv2) g.entries y [.int .i64 y.f0, .int .i64 y.f1, .string y.f2, .slice V4 y.f3.length cv4] (fun _ => True) (fun k => wd.heap.size ≤ k) rfl rfl ?aP ?aK (fun _ _ => trivial) ?aO ?aB ?aS ?aL ?_
 case aP => exact k41_mkM _ _ _ y (Kd.R_lower (Kd.R_mono (Kd.R_bound ho4.out) (fun k hk => hk.2.1)) HBd.out.size)
 case aK => exact fun k hk => ⟨trivial, fun e => by have := Kd.R_lt HO.out k e.symm; omega⟩
 case aO => exact HO4.out
 case aB => exact HB4.out
 case aS => exact HB4.out.size
 case aL => omega
 intro v5 w5 ho5 hb5 hg5 hat5
 rw [hL.out] at ho5
 obtain ⟨V5, cv5, rfl⟩ := Kd.R_slice ho5
 replace ho5 := Aside0.mk ho5
 have Bc5 := Aside0.mk (show w5.heap[w.heap.size + 1 + 1]? = some (.cells #[.int .i64 y.f0, .int .i64 y.f1, .string y.f2, .slice AL y.f3.length cL] 41 (0, 0)) from blk_below Bc1.out hb5)
 have qc50 : w5.cell? ⟨w.heap.size + 1 + 1, 0, none⟩ = some (.int .i64 y.f0) := (blk_cell Bc5.out 0).trans rfl
 have fc50 := blk_frozen Bc5.out 0
 have qc51 : w5.cell? ⟨w.heap.size + 1 + 1, 1, none⟩ = some (.int .i64 y.f1) := (blk_cell Bc5.out 1).trans rfl
 have fc51 := blk_frozen Bc5.out 1
 have qc52 : w5.cell? ⟨w.heap.size + 1 + 1, 2, none⟩ = some (.string y.f2) := (blk_cell Bc5.out 2).trans rfl
 have fc52 := blk_frozen Bc5.out 2
 have qc53 : w5.cell? ⟨w.heap.size + 1 + 1, 3, none⟩ = some (.slice AL y.f3.length cL) := (blk_cell Bc5.out 3).trans rfl
 have fc53 := blk_frozen Bc5.out 3
 have Bd5 := Aside0.mk (show w5.heap[w.heap.size + 1 + 1 + 1]? = some (.cells #[.slice none 0 0, .int .i64 0] 29 (0, 0)) from blk_below Bd1.out hb5)
 have qd50 : w5.cell? ⟨w.heap.size + 1 + 1 + 1, 0, none⟩ = some (.slice none 0 0) := (blk_cell Bd5.out 0).trans rfl
 have fd50 := blk_frozen Bd5.out 0
 have qd51 : w5.cell? ⟨w.heap.size + 1 + 1 + 1, 1, none⟩ = some (.int .i64 0) := (blk_cell Bd5.out 1).trans rfl
 have fd51 := blk_frozen Bd5.out 1
 have Be5 := Aside0.mk (show w5.heap[w2.heap.size]? = some (.cells #[.slice V2 g.entries.length cv2, .int .i64 g.head] 29 (0, 0)) from blk_grown Be4.out hg5 (Kd.R_ne HO4.out Be4.out (by decide)))
 have qe50 : w5.cell? ⟨w2.heap.size, 0, none⟩ = some (.slice V2 g.entries.length cv2) := (blk_cell Be5.out 0).trans rfl
 have fe50 := blk_frozen Be5.out 0
 have qe51 : w5.cell? ⟨w2.heap.size, 1, none⟩ = some (.int .i64 g.head) := (blk_cell Be5.out 1).trans rfl
 have fe51 := blk_frozen Be5.out 1
 refine hK.out _ _ (by exact ⟨(blk_cell (Be5.out) 0).trans rfl, (blk_cell (Bc5.out) 0).trans rfl, (blk_cell (Bc5.out) 1).trans rfl, (blk_cell (Bc5.out) 2).trans rfl, (blk_cell (Bc5.out) 3).trans rfl⟩) (fun hHeld => ?_)
 clear hK K
 refine norm_ (a' := ?_) ?_ ?_
 rotate_left
 ·show Act.put _ (some 31) _ = _
  simp only [Act.put, List.setIfInBounds_toArray, List.set_cons_zero, List.set_cons_succ]
  rfl
 refine pure_ (i := 6) (N := (some 32)) (v := ?_) (a' := ?_) #[true, true, true, true, true, true, true, false] rfl rfl (by kernel_rfl) (fun _ _ _ h => h) (Or.inl ⟨by rfl, ?_⟩) ?_ ?_
 rotate_left
 ·intro w'
  go_simp
  try with_reducible rfl
 rotate_left
 ·simp only [Act.put, List.setIfInBounds_toArray, List.set_cons_zero, List.set_cons_succ]
  rfl
 refine last_ (i := 7) (N := none) #[true, true, true, true, true, true, true, true] rfl rfl (by kernel_rfl) (by decide) (fun K hK => ?_)
 obtain ⟨s0, s1, s2, s3, s4⟩ := hHeld
 refine skip_ (w1 := ?_) (by rfl) rfl ?_ ?_
 rotate_left
 ·go_simp
  rfl
 refine hK.out _ _ ?_
 clear hK K
 refine done_ (by kernel_rfl) ?_
 have HO5 := Aside0.mk (Kd.R_far (p := ⟨w2.heap.size, 0, none⟩) (Kd.R_types ho5.out Be5.out (by decide)) (fun _ hk => hk.2) (.slice V5 L.length cv5))
 have hz5 : w2.heap.size < w5.heap.size := cell_lt qe50
 go_wp2_with (first | (go_at_call 88; (with_reducible refine (sHeadOf_calls _ _ L HT2.out _ HH.out _ (Kd.R_reads' HO5.out).2.2).mono ?_); rintro e w6 ⟨rfl, hb6⟩; have Bd6 := Aside0.mk (show w6.heap[w.heap.size + 1 + 1 + 1]? = some (.cells #[.slice none 0 0, .int .i64 0] 29 (0, 0)) from blk_below (blk_far Bd5.out (by show w.heap.size + 1 + 1 + 1 ≠ w2.heap.size; omega) _) hb6); have qd60 : w6.cell? ⟨w.heap.size + 1 + 1 + 1, 0, none⟩ = some (.slice none 0 0) := (blk_cell Bd6.out 0).trans rfl; have fd60 := blk_frozen Bd6.out 0; have qd61 : w6.cell? ⟨w.heap.size + 1 + 1 + 1, 1, none⟩ = some (.int .i64 0) := (blk_cell Bd6.out 1).trans rfl; have fd61 := blk_frozen Bd6.out 1; have Be6 := Aside0.mk (show w6.heap[w2.heap.size]? = some (.cells #[.slice V5 L.length cv5, .int .i64 g.head] 29 (0, 0)) from blk_below (blk_put Be5.out 0 (.slice V5 L.length cv5) rfl) hb6); have qe60 : w6.cell? ⟨w2.heap.size, 0, none⟩ = some (.slice V5 L.length cv5) := (blk_cell Be6.out 0).trans rfl; have fe60 := blk_frozen Be6.out 0; have qe61 : w6.cell? ⟨w2.heap.size, 1, none⟩ = some (.int .i64 g.head) := (blk_cell Be6.out 1).trans rfl; have fe61 := blk_frozen Be6.out 1))
 refine bodyPost_ret (v := .tuple #[.agg #[.slice V5 L.length cv5, .int .i64 r], .int .i64 0]) (by simp [results, Tryz.results65, go_sem, qd60, qd61, fd60, fd61]) rfl ⟨V5, cv5, rfl, ?_, ?_⟩
 ·have h6 := Kd.R_types (Kd.R_below HO5.out hb6) Bd6.out (by decide)
  exact Kd.R_lower (Kd.R_mono (Kd.R_far (p := ⟨w.heap.size + 1 + 1 + 1, 1, none⟩) (Kd.R_far (p := ⟨w.heap.size + 1 + 1 + 1, 0, none⟩) (Kd.R_far (p := ⟨w2.heap.size, 1, none⟩) h6 (fun _ hk => hk.1.2) _) (fun _ hk => hk.2) _) (fun _ hk => hk.2) _) (fun _ _ => trivial)) HB1.out.size
 ·refine below_set (below_set (below_set (below_step (below_set (below_step HB1.out hb5) (by omega)) hb6) (by have := HB2.out.size; omega)) (by omega)) (by omega)
end Go.Proofs.YtheaeffhhbjpmaaGreatDoor

/- Of the program: an entry is posted. -/
import Derived.Test.YtheaeffhhbjpmaaGreatDoorXOk2
namespace Go.Proofs.YtheaeffhhbjpmaaGreatDoor
open Go.RowKit Go.Proofs.YtheaeffhhbjpmaaGreatDoorW.PrintWords Go.Proofs.YtheaeffhhbjpmaaGreatDoorW.PrintLast
set_option linter.unusedVariables false
set_option linter.unusedSimpArgs false
theorem headF_range {l : List S41} (h : HeadP l) : 0 ≤ headF l ∧ headF l < 1099511627791 := by
 rw [headF_t h]
 unfold headGo
 have key : ∀ (t : List S41) (k : Int), (∀ e ∈ t, NumsOk e) → 0 ≤ k ∧ k < 1099511627791 → 0 ≤ t.foldl linkE k ∧ t.foldl linkE k < 1099511627791 := by
  intro t
  induction t with
  | nil => intro k _ hk; exact hk
  | cons a t ih => intro k ha hk; exact ih _ (fun e he => ha e (List.mem_cons_of_mem _ he)) (linkE_range hk (ha a (List.mem_cons_self ..)))
 refine key l 1 (fun e he => ?_) ⟨by decide, by decide⟩
 obtain ⟨i, h0, h1, rfl⟩ := of_getD z41 he
 exact h.2 i h0 h1
set_option maxRecDepth 100000 in
set_option maxHeartbeats 4000000 in
theorem iPostFull_calls (f : FrameD) (A : Option Addr) (c : Nat) (g : LedgD) (A3 : Option Addr) (c3 : Nat) (y : S41) (AL : Option Addr) (cL : Nat) (hs : SzC f.chart) (ht : SzE g.entries) (hty : y.f2.size ≤ 9223372036854775807) (hP : LedgerP f g) (hY : EntryP f y) (hn : g.entries.length = 1000) (w : World) (hr : Kd.C k48 w A f.chart.length f.chart) (he : Kd.C k41 w A3 g.entries.length g.entries) (hl : Kd.C k88 w AL y.f3.length y.f3) : Calls Tryz.prog 16 #[.agg #[.slice A f.chart.length c, .int .i64 f.dims, .int .i64 f.curs], .agg #[.slice A3 g.entries.length c3, .int .i64 g.head], .agg #[.int .i64 y.f0, .int .i64 y.f1, .string y.f2, .slice AL y.f3.length cL]] w fun e w' => ∃ A' n' c' hd, e = .returned (.tuple #[.agg #[.slice A' n' c', .int .i64 hd], .int .i64 3]) ∧ Below w.heap.size w w' := by
 have hu := Tryz.underlying26
 have hu2 := Tryz.underlying29
 have hu3 := Tryz.underlying41
 have hu4 := Tryz.underlying110
 have HR := Aside0.mk hr
 have HE := Aside0.mk he
 have HL := Aside0.mk hl
 have HS := Aside0.mk hs
 have HT := Aside0.mk ht
 have hl3 := Aside0.mk (show ∀ x ∈ g.entries, x.f3.length ≤ 1048576 from fun x hx => by
  obtain ⟨i, h0, h1, rfl⟩ := of_getD z41 hx
  have := (hP.2.2.2 i h0 h1).2.2.2.1.2
  unfold en rd_T41 at this
  omega)
 have hle : g.entries.length ≤ 1048576 := by have := hP.1; omega
 have P1 := Aside0.mk (bP_t hP)
 have P2 := Aside0.mk (bP_t hY)
 have HFr := Aside0.mk hP.2.1
 have hln : y.f3.length ≤ 1048576 := by have := hY.2.2.2.1.2; omega
 clear hr he hl hs ht hP hY
 have hn1 : ((g.entries.length : Int) == 1000) = true := by rw [hn]; rfl
 replace hn := Aside0.mk hn
 go_enter Tryz.func16, Tryz.ntmps16
 go_wp2_with (first | (go_at_call 36; (with_reducible refine (iLedgerOk_calls f _ _ g _ _ HS.out HT.out _ P1.out _ (Kd.C_below HR.out (by repeat (with_reducible first | assumption | exact Below.refl _ _ | apply below_alloc | apply below_drew1 | apply pw_below_drewN | refine below_set ?_ (by omega) | refine below_step ?_ (by assumption)))) (Kd.C_below HE.out (by repeat (with_reducible first | assumption | exact Below.refl _ _ | apply below_alloc | apply below_drew1 | apply pw_below_drewN | refine below_set ?_ (by omega) | refine below_step ?_ (by assumption))))).mono ?_); rintro e w1 ⟨rfl, hb1⟩; have Ba1 := Aside0.mk (show w1.heap[w.heap.size]? = some (.cells #[.slice A f.chart.length c, .int .i64 f.dims, .int .i64 f.curs] 26 (0, 0)) from blk_below (blk_alloc (blk_alloc (blk_alloc (blk_new w _) _) _) _) hb1); have qa10 : w1.cell? ⟨w.heap.size, 0, none⟩ = some (.slice A f.chart.length c) := (blk_cell Ba1.out 0).trans rfl; have fa10 := blk_frozen Ba1.out 0; have qa11 : w1.cell? ⟨w.heap.size, 1, none⟩ = some (.int .i64 f.dims) := (blk_cell Ba1.out 1).trans rfl; have fa11 := blk_frozen Ba1.out 1; have qa12 : w1.cell? ⟨w.heap.size, 2, none⟩ = some (.int .i64 f.curs) := (blk_cell Ba1.out 2).trans rfl; have fa12 := blk_frozen Ba1.out 2; have Bb1 := Aside0.mk (show w1.heap[w.heap.size + 1]? = some (.cells #[.slice A3 g.entries.length c3, .int .i64 g.head] 29 (0, 0)) from blk_below (blk_alloc (blk_alloc (blk_new1 w _ _) _) _) hb1); have qb10 : w1.cell? ⟨w.heap.size + 1, 0, none⟩ = some (.slice A3 g.entries.length c3) := (blk_cell Bb1.out 0).trans rfl; have fb10 := blk_frozen Bb1.out 0; have qb11 : w1.cell? ⟨w.heap.size + 1, 1, none⟩ = some (.int .i64 g.head) := (blk_cell Bb1.out 1).trans rfl; have fb11 := blk_frozen Bb1.out 1; have Bc1 := Aside0.mk (show w1.heap[w.heap.size + 1 + 1]? = some (.cells #[.int .i64 y.f0, .int .i64 y.f1, .string y.f2, .slice AL y.f3.length cL] 41 (0, 0)) from blk_below (blk_alloc (blk_new2 w _ _ _) _) hb1); have qc10 : w1.cell? ⟨w.heap.size + 1 + 1, 0, none⟩ = some (.int .i64 y.f0) := (blk_cell Bc1.out 0).trans rfl; have fc10 := blk_frozen Bc1.out 0; have qc11 : w1.cell? ⟨w.heap.size + 1 + 1, 1, none⟩ = some (.int .i64 y.f1) := (blk_cell Bc1.out 1).trans rfl; have fc11 := blk_frozen Bc1.out 1; have qc12 : w1.cell? ⟨w.heap.size + 1 + 1, 2, none⟩ = some (.string y.f2) := (blk_cell Bc1.out 2).trans rfl; have fc12 := blk_frozen Bc1.out 2; have qc13 : w1.cell? ⟨w.heap.size + 1 + 1, 3, none⟩ = some (.slice AL y.f3.length cL) := (blk_cell Bc1.out 3).trans rfl; have fc13 := blk_frozen Bc1.out 3; have Bd1 := Aside0.mk (show w1.heap[w.heap.size + 1 + 1 + 1]? = some (.cells #[.slice none 0 0, .int .i64 0] 29 (0, 0)) from blk_below (blk_new3 w _ _ _ _) hb1); have qd10 : w1.cell? ⟨w.heap.size + 1 + 1 + 1, 0, none⟩ = some (.slice none 0 0) := (blk_cell Bd1.out 0).trans rfl; have fd10 := blk_frozen Bd1.out 0; have qd11 : w1.cell? ⟨w.heap.size + 1 + 1 + 1, 1, none⟩ = some (.int .i64 0) := (blk_cell Bd1.out 1).trans rfl; have fd11 := blk_frozen Bd1.out 1; have HB1 := Aside0.mk (show Below w.heap.size w w1 from (by repeat (with_reducible first | assumption | exact Below.refl _ _ | apply below_alloc | apply below_drew1 | apply pw_below_drewN | refine below_set ?_ (by omega) | refine below_step ?_ (by assumption)))); have hz1 : w.heap.size + 1 + 1 + 1 < w1.heap.size := cell_lt qd10; have hz10 : w.heap.size < w1.heap.size := (by omega); have hz11 : w.heap.size + 1 < w1.heap.size := (by omega); have hz12 : w.heap.size + 1 + 1 < w1.heap.size := (by omega); clear hb1) | (go_at_call 54; (with_reducible refine (iLedgerCopy_calls g _ _ hle hl3.out _ (Kd.C_below HE.out HB1.out)).mono ?_); rintro e w2 ⟨V2, cv2, rfl, ho2, hb2⟩; replace ho2 := Aside0.mk ho2; have Ba2 := Aside0.mk (show w2.heap[w.heap.size]? = some (.cells #[.slice A f.chart.length c, .int .i64 f.dims, .int .i64 f.curs] 26 (0, 0)) from blk_below Ba1.out hb2); have qa20 : w2.cell? ⟨w.heap.size, 0, none⟩ = some (.slice A f.chart.length c) := (blk_cell Ba2.out 0).trans rfl; have fa20 := blk_frozen Ba2.out 0; have qa21 : w2.cell? ⟨w.heap.size, 1, none⟩ = some (.int .i64 f.dims) := (blk_cell Ba2.out 1).trans rfl; have fa21 := blk_frozen Ba2.out 1; have qa22 : w2.cell? ⟨w.heap.size, 2, none⟩ = some (.int .i64 f.curs) := (blk_cell Ba2.out 2).trans rfl; have fa22 := blk_frozen Ba2.out 2; have Bb2 := Aside0.mk (show w2.heap[w.heap.size + 1]? = some (.cells #[.slice A3 g.entries.length c3, .int .i64 g.head] 29 (0, 0)) from blk_below Bb1.out hb2); have qb20 : w2.cell? ⟨w.heap.size + 1, 0, none⟩ = some (.slice A3 g.entries.length c3) := (blk_cell Bb2.out 0).trans rfl; have fb20 := blk_frozen Bb2.out 0; have qb21 : w2.cell? ⟨w.heap.size + 1, 1, none⟩ = some (.int .i64 g.head) := (blk_cell Bb2.out 1).trans rfl; have fb21 := blk_frozen Bb2.out 1; have Bc2 := Aside0.mk (show w2.heap[w.heap.size + 1 + 1]? = some (.cells #[.int .i64 y.f0, .int .i64 y.f1, .string y.f2, .slice AL y.f3.length cL] 41 (0, 0)) from blk_below Bc1.out hb2); have qc20 : w2.cell? ⟨w.heap.size + 1 + 1, 0, none⟩ = some (.int .i64 y.f0) := (blk_cell Bc2.out 0).trans rfl; have fc20 := blk_frozen Bc2.out 0; have qc21 : w2.cell? ⟨w.heap.size + 1 + 1, 1, none⟩ = some (.int .i64 y.f1) := (blk_cell Bc2.out 1).trans rfl; have fc21 := blk_frozen Bc2.out 1; have qc22 : w2.cell? ⟨w.heap.size + 1 + 1, 2, none⟩ = some (.string y.f2) := (blk_cell Bc2.out 2).trans rfl; have fc22 := blk_frozen Bc2.out 2; have qc23 : w2.cell? ⟨w.heap.size + 1 + 1, 3, none⟩ = some (.slice AL y.f3.length cL) := (blk_cell Bc2.out 3).trans rfl; have fc23 := blk_frozen Bc2.out 3; have Bd2 := Aside0.mk (show w2.heap[w.heap.size + 1 + 1 + 1]? = some (.cells #[.slice none 0 0, .int .i64 0] 29 (0, 0)) from blk_below Bd1.out hb2); have qd20 : w2.cell? ⟨w.heap.size + 1 + 1 + 1, 0, none⟩ = some (.slice none 0 0) := (blk_cell Bd2.out 0).trans rfl; have fd20 := blk_frozen Bd2.out 0; have qd21 : w2.cell? ⟨w.heap.size + 1 + 1 + 1, 1, none⟩ = some (.int .i64 0) := (blk_cell Bd2.out 1).trans rfl; have fd21 := blk_frozen Bd2.out 1; have HB2 := Aside0.mk (show Below w.heap.size w w2 from below_step HB1.out hb2); have hz2 : w.heap.size + 1 + 1 + 1 < w2.heap.size := cell_lt qd20; have hz20 : w.heap.size < w2.heap.size := (by omega); have hz21 : w.heap.size + 1 < w2.heap.size := (by omega); have hz22 : w.heap.size + 1 + 1 < w2.heap.size := (by omega)) | (go_at_call 52; (with_reducible refine (entryIn_calls f _ _ y _ _ HFr.out hty _ P2.out _ (Kd.C_below HR.out (below_alloc HB2.out _)) (Kd.C_below HL.out (below_alloc HB2.out _))).mono ?_); rintro e w3 ⟨rfl, hb3⟩; have Ba3 := Aside0.mk (show w3.heap[w.heap.size]? = some (.cells #[.slice A f.chart.length c, .int .i64 f.dims, .int .i64 f.curs] 26 (0, 0)) from blk_below (blk_alloc Ba2.out _) hb3); have qa30 : w3.cell? ⟨w.heap.size, 0, none⟩ = some (.slice A f.chart.length c) := (blk_cell Ba3.out 0).trans rfl; have fa30 := blk_frozen Ba3.out 0; have qa31 : w3.cell? ⟨w.heap.size, 1, none⟩ = some (.int .i64 f.dims) := (blk_cell Ba3.out 1).trans rfl; have fa31 := blk_frozen Ba3.out 1; have qa32 : w3.cell? ⟨w.heap.size, 2, none⟩ = some (.int .i64 f.curs) := (blk_cell Ba3.out 2).trans rfl; have fa32 := blk_frozen Ba3.out 2; have Bb3 := Aside0.mk (show w3.heap[w.heap.size + 1]? = some (.cells #[.slice A3 g.entries.length c3, .int .i64 g.head] 29 (0, 0)) from blk_below (blk_alloc Bb2.out _) hb3); have qb30 : w3.cell? ⟨w.heap.size + 1, 0, none⟩ = some (.slice A3 g.entries.length c3) := (blk_cell Bb3.out 0).trans rfl; have fb30 := blk_frozen Bb3.out 0; have qb31 : w3.cell? ⟨w.heap.size + 1, 1, none⟩ = some (.int .i64 g.head) := (blk_cell Bb3.out 1).trans rfl; have fb31 := blk_frozen Bb3.out 1; have Bc3 := Aside0.mk (show w3.heap[w.heap.size + 1 + 1]? = some (.cells #[.int .i64 y.f0, .int .i64 y.f1, .string y.f2, .slice AL y.f3.length cL] 41 (0, 0)) from blk_below (blk_alloc Bc2.out _) hb3); have qc30 : w3.cell? ⟨w.heap.size + 1 + 1, 0, none⟩ = some (.int .i64 y.f0) := (blk_cell Bc3.out 0).trans rfl; have fc30 := blk_frozen Bc3.out 0; have qc31 : w3.cell? ⟨w.heap.size + 1 + 1, 1, none⟩ = some (.int .i64 y.f1) := (blk_cell Bc3.out 1).trans rfl; have fc31 := blk_frozen Bc3.out 1; have qc32 : w3.cell? ⟨w.heap.size + 1 + 1, 2, none⟩ = some (.string y.f2) := (blk_cell Bc3.out 2).trans rfl; have fc32 := blk_frozen Bc3.out 2; have qc33 : w3.cell? ⟨w.heap.size + 1 + 1, 3, none⟩ = some (.slice AL y.f3.length cL) := (blk_cell Bc3.out 3).trans rfl; have fc33 := blk_frozen Bc3.out 3; have Bd3 := Aside0.mk (show w3.heap[w.heap.size + 1 + 1 + 1]? = some (.cells #[.slice none 0 0, .int .i64 0] 29 (0, 0)) from blk_below (blk_alloc Bd2.out _) hb3); have qd30 : w3.cell? ⟨w.heap.size + 1 + 1 + 1, 0, none⟩ = some (.slice none 0 0) := (blk_cell Bd3.out 0).trans rfl; have fd30 := blk_frozen Bd3.out 0; have qd31 : w3.cell? ⟨w.heap.size + 1 + 1 + 1, 1, none⟩ = some (.int .i64 0) := (blk_cell Bd3.out 1).trans rfl; have fd31 := blk_frozen Bd3.out 1; have Be3 := Aside0.mk (show w3.heap[w2.heap.size]? = some (.cells #[.slice V2 g.entries.length cv2, .int .i64 g.head] 29 (0, 0)) from blk_below (blk_new w2 _) hb3); have qe30 : w3.cell? ⟨w2.heap.size, 0, none⟩ = some (.slice V2 g.entries.length cv2) := (blk_cell Be3.out 0).trans rfl; have fe30 := blk_frozen Be3.out 0; have qe31 : w3.cell? ⟨w2.heap.size, 1, none⟩ = some (.int .i64 g.head) := (blk_cell Be3.out 1).trans rfl; have fe31 := blk_frozen Be3.out 1; have HB3 := Aside0.mk (show Below w.heap.size w w3 from below_step (below_alloc HB2.out _) hb3); have hz3 : w2.heap.size < w3.heap.size := cell_lt qe30))
 refine bodyPost_ret (v := .tuple #[.agg #[.slice V2 g.entries.length cv2, .int .i64 g.head], .int .i64 3]) (by simp [results, Tryz.results16, go_sem, qd30, qd31, fd30, fd31]) rfl ⟨_, _, _, _, rfl, ?_⟩
 exact below_set (below_set HB3.out (by omega)) (by omega)
set_option maxRecDepth 100000 in
set_option maxHeartbeats 4000000 in
theorem iPostOk_calls (f : FrameD) (A : Option Addr) (c : Nat) (g : LedgD) (A3 : Option Addr) (c3 : Nat) (y : S41) (AL : Option Addr) (cL : Nat) (hs : SzC f.chart) (ht : SzE g.entries) (hty : y.f2.size ≤ 9223372036854775807) (hP : LedgerP f g) (hY : EntryP f y) (hn : g.entries.length < 1000) (r : Int) (hr2 : headF (g.entries ++ [y]) = r) (w : World) (hr : Kd.C k48 w A f.chart.length f.chart) (he : Kd.C k41 w A3 g.entries.length g.entries) (hl : Kd.C k88 w AL y.f3.length y.f3) : Calls Tryz.prog 16 #[.agg #[.slice A f.chart.length c, .int .i64 f.dims, .int .i64 f.curs], .agg #[.slice A3 g.entries.length c3, .int .i64 g.head], .agg #[.int .i64 y.f0, .int .i64 y.f1, .string y.f2, .slice AL y.f3.length cL]] w fun e w' => ∃ A' c', e = .returned (.tuple #[.agg #[.slice A' (g.entries ++ [y]).length c', .int .i64 r], .int .i64 0]) ∧ Kd.S k41 41 w' w.heap.size (fun _ => True) (.slice A' (g.entries ++ [y]).length c') (g.entries ++ [y]) ∧ Below w.heap.size w w' := by
 have hu := Tryz.underlying26
 have hu2 := Tryz.underlying29
 have hu3 := Tryz.underlying41
 have hu4 := Tryz.underlying110
 have HR := Aside0.mk hr
 have HE := Aside0.mk he
 have HL := Aside0.mk hl
 have HS := Aside0.mk hs
 have HT := Aside0.mk ht
 have hl3 := Aside0.mk (show ∀ x ∈ g.entries, x.f3.length ≤ 1048576 from fun x hx => by
  obtain ⟨i, h0, h1, rfl⟩ := of_getD z41 hx
  have := (hP.2.2.2 i h0 h1).2.2.2.1.2
  unfold en rd_T41 at this
  omega)
 have hle : g.entries.length ≤ 1048576 := by have := hP.1; omega
 have P1 := Aside0.mk (bP_t hP)
 have P2 := Aside0.mk (bP_t hY)
 have HFr := Aside0.mk hP.2.1
 have hln : y.f3.length ≤ 1048576 := by have := hY.2.2.2.1.2; omega
 have hln2 : y.f3.length ≤ 60 := by have := hY.2.2.2.1.2; omega
 have HYt := Aside0.mk (show y.f2.size ≤ 40 from hY.2.2.1.1)
 have hNy := numsOk_of hP.2.1 hY
 have hHd : g.head = headF g.entries := hP.2.2.1
 have hHP := headP_of hP
 have HIn := Aside0.mk (show InH (g.head, false) by rw [hHd]; exact headF_range hHP)
 have hST := Aside0.mk (show (numsE y).foldl stS (g.head, false) = (r, false) by
  rw [stS_fold_ok (fun x hx => by obtain ⟨k, k0, k1, rfl⟩ := of_getD 0 hx; exact hNy.2.2 k k0 k1), ← hr2, headF_snoc hHP hNy hn, ← hHd]
  rfl)
 clear hr he hl hs ht hP hY hr2 hNy hHP
 replace hHd := Aside0.mk hHd
 obtain ⟨L, hL⟩ : ∃ L, g.entries ++ [y] = L := ⟨_, rfl⟩
 rw [hL] at ⊢
 replace hL := Aside0.mk hL
 have hn1 : ((g.entries.length : Int) == 1000) = false := by simp; omega
 go_enter Tryz.func16, Tryz.ntmps16
 go_wp2_with (first | (go_at_call 36; (with_reducible refine (iLedgerOk_calls f _ _ g _ _ HS.out HT.out _ P1.out _ (Kd.C_below HR.out (by repeat (with_reducible first | assumption | exact Below.refl _ _ | apply below_alloc | apply below_drew1 | apply pw_below_drewN | refine below_set ?_ (by omega) | refine below_step ?_ (by assumption)))) (Kd.C_below HE.out (by repeat (with_reducible first | assumption | exact Below.refl _ _ | apply below_alloc | apply below_drew1 | apply pw_below_drewN | refine below_set ?_ (by omega) | refine below_step ?_ (by assumption))))).mono ?_); rintro e w1 ⟨rfl, hb1⟩; have Ba1 := Aside0.mk (show w1.heap[w.heap.size]? = some (.cells #[.slice A f.chart.length c, .int .i64 f.dims, .int .i64 f.curs] 26 (0, 0)) from blk_below (blk_alloc (blk_alloc (blk_alloc (blk_new w _) _) _) _) hb1); have qa10 : w1.cell? ⟨w.heap.size, 0, none⟩ = some (.slice A f.chart.length c) := (blk_cell Ba1.out 0).trans rfl; have fa10 := blk_frozen Ba1.out 0; have qa11 : w1.cell? ⟨w.heap.size, 1, none⟩ = some (.int .i64 f.dims) := (blk_cell Ba1.out 1).trans rfl; have fa11 := blk_frozen Ba1.out 1; have qa12 : w1.cell? ⟨w.heap.size, 2, none⟩ = some (.int .i64 f.curs) := (blk_cell Ba1.out 2).trans rfl; have fa12 := blk_frozen Ba1.out 2; have Bb1 := Aside0.mk (show w1.heap[w.heap.size + 1]? = some (.cells #[.slice A3 g.entries.length c3, .int .i64 g.head] 29 (0, 0)) from blk_below (blk_alloc (blk_alloc (blk_new1 w _ _) _) _) hb1); have qb10 : w1.cell? ⟨w.heap.size + 1, 0, none⟩ = some (.slice A3 g.entries.length c3) := (blk_cell Bb1.out 0).trans rfl; have fb10 := blk_frozen Bb1.out 0; have qb11 : w1.cell? ⟨w.heap.size + 1, 1, none⟩ = some (.int .i64 g.head) := (blk_cell Bb1.out 1).trans rfl; have fb11 := blk_frozen Bb1.out 1; have Bc1 := Aside0.mk (show w1.heap[w.heap.size + 1 + 1]? = some (.cells #[.int .i64 y.f0, .int .i64 y.f1, .string y.f2, .slice AL y.f3.length cL] 41 (0, 0)) from blk_below (blk_alloc (blk_new2 w _ _ _) _) hb1); have qc10 : w1.cell? ⟨w.heap.size + 1 + 1, 0, none⟩ = some (.int .i64 y.f0) := (blk_cell Bc1.out 0).trans rfl; have fc10 := blk_frozen Bc1.out 0; have qc11 : w1.cell? ⟨w.heap.size + 1 + 1, 1, none⟩ = some (.int .i64 y.f1) := (blk_cell Bc1.out 1).trans rfl; have fc11 := blk_frozen Bc1.out 1; have qc12 : w1.cell? ⟨w.heap.size + 1 + 1, 2, none⟩ = some (.string y.f2) := (blk_cell Bc1.out 2).trans rfl; have fc12 := blk_frozen Bc1.out 2; have qc13 : w1.cell? ⟨w.heap.size + 1 + 1, 3, none⟩ = some (.slice AL y.f3.length cL) := (blk_cell Bc1.out 3).trans rfl; have fc13 := blk_frozen Bc1.out 3; have Bd1 := Aside0.mk (show w1.heap[w.heap.size + 1 + 1 + 1]? = some (.cells #[.slice none 0 0, .int .i64 0] 29 (0, 0)) from blk_below (blk_new3 w _ _ _ _) hb1); have qd10 : w1.cell? ⟨w.heap.size + 1 + 1 + 1, 0, none⟩ = some (.slice none 0 0) := (blk_cell Bd1.out 0).trans rfl; have fd10 := blk_frozen Bd1.out 0; have qd11 : w1.cell? ⟨w.heap.size + 1 + 1 + 1, 1, none⟩ = some (.int .i64 0) := (blk_cell Bd1.out 1).trans rfl; have fd11 := blk_frozen Bd1.out 1; have HB1 := Aside0.mk (show Below w.heap.size w w1 from (by repeat (with_reducible first | assumption | exact Below.refl _ _ | apply below_alloc | apply below_drew1 | apply pw_below_drewN | refine below_set ?_ (by omega) | refine below_step ?_ (by assumption)))); have hz1 : w.heap.size + 1 + 1 + 1 < w1.heap.size := cell_lt qd10; have hz10 : w.heap.size < w1.heap.size := (by omega); have hz11 : w.heap.size + 1 < w1.heap.size := (by omega); have hz12 : w.heap.size + 1 + 1 < w1.heap.size := (by omega); clear hb1) | (go_at_call 54; (with_reducible refine (iLedgerCopy_calls g _ _ hle hl3.out _ (Kd.C_below HE.out HB1.out)).mono ?_); rintro e w2 ⟨V2, cv2, rfl, ho2, hb2⟩; replace ho2 := Aside0.mk ho2; have Ba2 := Aside0.mk (show w2.heap[w.heap.size]? = some (.cells #[.slice A f.chart.length c, .int .i64 f.dims, .int .i64 f.curs] 26 (0, 0)) from blk_below Ba1.out hb2); have qa20 : w2.cell? ⟨w.heap.size, 0, none⟩ = some (.slice A f.chart.length c) := (blk_cell Ba2.out 0).trans rfl; have fa20 := blk_frozen Ba2.out 0; have qa21 : w2.cell? ⟨w.heap.size, 1, none⟩ = some (.int .i64 f.dims) := (blk_cell Ba2.out 1).trans rfl; have fa21 := blk_frozen Ba2.out 1; have qa22 : w2.cell? ⟨w.heap.size, 2, none⟩ = some (.int .i64 f.curs) := (blk_cell Ba2.out 2).trans rfl; have fa22 := blk_frozen Ba2.out 2; have Bb2 := Aside0.mk (show w2.heap[w.heap.size + 1]? = some (.cells #[.slice A3 g.entries.length c3, .int .i64 g.head] 29 (0, 0)) from blk_below Bb1.out hb2); have qb20 : w2.cell? ⟨w.heap.size + 1, 0, none⟩ = some (.slice A3 g.entries.length c3) := (blk_cell Bb2.out 0).trans rfl; have fb20 := blk_frozen Bb2.out 0; have qb21 : w2.cell? ⟨w.heap.size + 1, 1, none⟩ = some (.int .i64 g.head) := (blk_cell Bb2.out 1).trans rfl; have fb21 := blk_frozen Bb2.out 1; have Bc2 := Aside0.mk (show w2.heap[w.heap.size + 1 + 1]? = some (.cells #[.int .i64 y.f0, .int .i64 y.f1, .string y.f2, .slice AL y.f3.length cL] 41 (0, 0)) from blk_below Bc1.out hb2); have qc20 : w2.cell? ⟨w.heap.size + 1 + 1, 0, none⟩ = some (.int .i64 y.f0) := (blk_cell Bc2.out 0).trans rfl; have fc20 := blk_frozen Bc2.out 0; have qc21 : w2.cell? ⟨w.heap.size + 1 + 1, 1, none⟩ = some (.int .i64 y.f1) := (blk_cell Bc2.out 1).trans rfl; have fc21 := blk_frozen Bc2.out 1; have qc22 : w2.cell? ⟨w.heap.size + 1 + 1, 2, none⟩ = some (.string y.f2) := (blk_cell Bc2.out 2).trans rfl; have fc22 := blk_frozen Bc2.out 2; have qc23 : w2.cell? ⟨w.heap.size + 1 + 1, 3, none⟩ = some (.slice AL y.f3.length cL) := (blk_cell Bc2.out 3).trans rfl; have fc23 := blk_frozen Bc2.out 3; have Bd2 := Aside0.mk (show w2.heap[w.heap.size + 1 + 1 + 1]? = some (.cells #[.slice none 0 0, .int .i64 0] 29 (0, 0)) from blk_below Bd1.out hb2); have qd20 : w2.cell? ⟨w.heap.size + 1 + 1 + 1, 0, none⟩ = some (.slice none 0 0) := (blk_cell Bd2.out 0).trans rfl; have fd20 := blk_frozen Bd2.out 0; have qd21 : w2.cell? ⟨w.heap.size + 1 + 1 + 1, 1, none⟩ = some (.int .i64 0) := (blk_cell Bd2.out 1).trans rfl; have fd21 := blk_frozen Bd2.out 1; have HB2 := Aside0.mk (show Below w.heap.size w w2 from below_step HB1.out hb2); have hz2 : w.heap.size + 1 + 1 + 1 < w2.heap.size := cell_lt qd20; have hz20 : w.heap.size < w2.heap.size := (by omega); have hz21 : w.heap.size + 1 < w2.heap.size := (by omega); have hz22 : w.heap.size + 1 + 1 < w2.heap.size := (by omega)) | (go_at_call 52; (with_reducible refine (entryIn_calls f _ _ y _ _ HFr.out hty _ P2.out _ (Kd.C_below HR.out (below_alloc HB2.out _)) (Kd.C_below HL.out (below_alloc HB2.out _))).mono ?_); rintro e w3 ⟨rfl, hb3⟩; have Ba3 := Aside0.mk (show w3.heap[w.heap.size]? = some (.cells #[.slice A f.chart.length c, .int .i64 f.dims, .int .i64 f.curs] 26 (0, 0)) from blk_below (blk_alloc Ba2.out _) hb3); have qa30 : w3.cell? ⟨w.heap.size, 0, none⟩ = some (.slice A f.chart.length c) := (blk_cell Ba3.out 0).trans rfl; have fa30 := blk_frozen Ba3.out 0; have qa31 : w3.cell? ⟨w.heap.size, 1, none⟩ = some (.int .i64 f.dims) := (blk_cell Ba3.out 1).trans rfl; have fa31 := blk_frozen Ba3.out 1; have qa32 : w3.cell? ⟨w.heap.size, 2, none⟩ = some (.int .i64 f.curs) := (blk_cell Ba3.out 2).trans rfl; have fa32 := blk_frozen Ba3.out 2; have Bb3 := Aside0.mk (show w3.heap[w.heap.size + 1]? = some (.cells #[.slice A3 g.entries.length c3, .int .i64 g.head] 29 (0, 0)) from blk_below (blk_alloc Bb2.out _) hb3); have qb30 : w3.cell? ⟨w.heap.size + 1, 0, none⟩ = some (.slice A3 g.entries.length c3) := (blk_cell Bb3.out 0).trans rfl; have fb30 := blk_frozen Bb3.out 0; have qb31 : w3.cell? ⟨w.heap.size + 1, 1, none⟩ = some (.int .i64 g.head) := (blk_cell Bb3.out 1).trans rfl; have fb31 := blk_frozen Bb3.out 1; have Bc3 := Aside0.mk (show w3.heap[w.heap.size + 1 + 1]? = some (.cells #[.int .i64 y.f0, .int .i64 y.f1, .string y.f2, .slice AL y.f3.length cL] 41 (0, 0)) from blk_below (blk_alloc Bc2.out _) hb3); have qc30 : w3.cell? ⟨w.heap.size + 1 + 1, 0, none⟩ = some (.int .i64 y.f0) := (blk_cell Bc3.out 0).trans rfl; have fc30 := blk_frozen Bc3.out 0; have qc31 : w3.cell? ⟨w.heap.size + 1 + 1, 1, none⟩ = some (.int .i64 y.f1) := (blk_cell Bc3.out 1).trans rfl; have fc31 := blk_frozen Bc3.out 1; have qc32 : w3.cell? ⟨w.heap.size + 1 + 1, 2, none⟩ = some (.string y.f2) := (blk_cell Bc3.out 2).trans rfl; have fc32 := blk_frozen Bc3.out 2; have qc33 : w3.cell? ⟨w.heap.size + 1 + 1, 3, none⟩ = some (.slice AL y.f3.length cL) := (blk_cell Bc3.out 3).trans rfl; have fc33 := blk_frozen Bc3.out 3; have Bd3 := Aside0.mk (show w3.heap[w.heap.size + 1 + 1 + 1]? = some (.cells #[.slice none 0 0, .int .i64 0] 29 (0, 0)) from blk_below (blk_alloc Bd2.out _) hb3); have qd30 : w3.cell? ⟨w.heap.size + 1 + 1 + 1, 0, none⟩ = some (.slice none 0 0) := (blk_cell Bd3.out 0).trans rfl; have fd30 := blk_frozen Bd3.out 0; have qd31 : w3.cell? ⟨w.heap.size + 1 + 1 + 1, 1, none⟩ = some (.int .i64 0) := (blk_cell Bd3.out 1).trans rfl; have fd31 := blk_frozen Bd3.out 1; have Be3 := Aside0.mk (show w3.heap[w2.heap.size]? = some (.cells #[.slice V2 g.entries.length cv2, .int .i64 g.head] 29 (0, 0)) from blk_below (blk_new w2 _) hb3); have qe30 : w3.cell? ⟨w2.heap.size, 0, none⟩ = some (.slice V2 g.entries.length cv2) := (blk_cell Be3.out 0).trans rfl; have fe30 := blk_frozen Be3.out 0; have qe31 : w3.cell? ⟨w2.heap.size, 1, none⟩ = some (.int .i64 g.head) := (blk_cell Be3.out 1).trans rfl; have fe31 := blk_frozen Be3.out 1; have HB3 := Aside0.mk (show Below w.heap.size w w3 from below_step (below_alloc HB2.out _) hb3); have hz3 : w2.heap.size < w3.heap.size := cell_lt qe30))
 refine start_ (n := 8) (S := fun w' => w'.heap[w2.heap.size]? = some (.cells #[.slice V2 g.entries.length cv2, .int .i64 g.head] 29 (0, 0)) ∧ w'.heap[w.heap.size + 1 + 1]? = some (.cells #[.int .i64 y.f0, .int .i64 y.f1, .string y.f2, .slice AL y.f3.length cL] 41 (0, 0))) (ds := [7]) #[false, false, false, false, false, false, false, false] (by kernel_rfl) rfl rfl (by exact ⟨blk_drew Be3.out, blk_drew Bc3.out⟩) (fun hHeld => ?_)
 have Bb := Aside0.mk (blk_drew Bb3.out)
 have Bc := Aside0.mk (blk_drew Bc3.out)
 have Bd := Aside0.mk (blk_drew Bd3.out)
 have Be := Aside0.mk (blk_drew Be3.out)
 have HBd := Aside0.mk (show Below w1.heap.size w1 w3.drew from below_drew (below_step (below_alloc hb2 _) hb3))
 have HO_ := Kd.S_drew (Kd.S_below (Kd.S_alloc ho2.out (.cells #[.slice V2 g.entries.length cv2, .int .i64 g.head] 29 (0, 0))) hb3)
 generalize w3.drew = wd at hHeld Bb Bc Bd Be HBd HO_ ⊢
 have HO := Aside0.mk (Kd.S_mono (ok' := fun k => True ∧ ¬ wd.heap.size ≤ k) (Kd.S_bound HO_) (fun k hk => ⟨trivial, by have := hk.2.2.1; omega⟩))
 clear HO_
 refine pure_ (i := 0) (N := (some 27)) (v := ?_) (a' := ?_) #[true, false, false, false, false, false, false, false] rfl rfl (by kernel_rfl) (fun _ _ _ h => h) (Or.inl ⟨by rfl, ?_⟩) ?_ ?_
 rotate_left
 ·intro w'
  go_simp
  try with_reducible rfl
 rotate_left
 ·simp only [Act.put, List.setIfInBounds_toArray, List.set_cons_zero, List.set_cons_succ]
  rfl
 refine take_ (i := 1) (N := (some 28)) (v := ?_) (a' := ?_) #[true, true, false, false, false, false, false, false] rfl rfl (by kernel_rfl) (fun _ _ _ h => h) (Or.inl ⟨by rfl, ?_⟩) hHeld ?_ ?_
 rotate_left
 ·rintro w' ⟨se, sc⟩
  have k0 : w'.cell? ⟨w2.heap.size, 0, none⟩ = some (.slice V2 g.entries.length cv2) := (blk_cell se 0).trans rfl
  have j0 : w'.cell? ⟨w.heap.size + 1 + 1, 0, none⟩ = some (.int .i64 y.f0) := (blk_cell sc 0).trans rfl
  have j1 : w'.cell? ⟨w.heap.size + 1 + 1, 1, none⟩ = some (.int .i64 y.f1) := (blk_cell sc 1).trans rfl
  have j2 : w'.cell? ⟨w.heap.size + 1 + 1, 2, none⟩ = some (.string y.f2) := (blk_cell sc 2).trans rfl
  have j3 : w'.cell? ⟨w.heap.size + 1 + 1, 3, none⟩ = some (.slice AL y.f3.length cL) := (blk_cell sc 3).trans rfl
  go_simp
  try with_reducible rfl
 rotate_left
 ·simp only [Act.put, List.setIfInBounds_toArray, List.set_cons_zero, List.set_cons_succ]
  rfl
 refine take_ (i := 2) (N := (some 29)) (v := ?_) (a' := ?_) #[true, true, true, false, false, false, false, false] rfl rfl (by kernel_rfl) (fun _ _ _ h => h) (Or.inl ⟨by rfl, ?_⟩) hHeld ?_ ?_
 rotate_left
 ·rintro w' ⟨se, sc⟩
  have k0 : w'.cell? ⟨w2.heap.size, 0, none⟩ = some (.slice V2 g.entries.length cv2) := (blk_cell se 0).trans rfl
  have j0 : w'.cell? ⟨w.heap.size + 1 + 1, 0, none⟩ = some (.int .i64 y.f0) := (blk_cell sc 0).trans rfl
  have j1 : w'.cell? ⟨w.heap.size + 1 + 1, 1, none⟩ = some (.int .i64 y.f1) := (blk_cell sc 1).trans rfl
  have j2 : w'.cell? ⟨w.heap.size + 1 + 1, 2, none⟩ = some (.string y.f2) := (blk_cell sc 2).trans rfl
  have j3 : w'.cell? ⟨w.heap.size + 1 + 1, 3, none⟩ = some (.slice AL y.f3.length cL) := (blk_cell sc 3).trans rfl
  go_simp
  try with_reducible rfl
 rotate_left
 ·simp only [Act.put, List.setIfInBounds_toArray, List.set_cons_zero, List.set_cons_succ]
  rfl
 refine one_ (i := 3) (N := (some 30)) #[true, true, true, true, false, false, false, false] rfl rfl (by kernel_rfl) (by decide) (fun K hK => ?_)
 refine goes_ Tryz.func55 (by kernel_rfl) rfl #[.agg #[.int .i64 y.f0, .int .i64 y.f1, .string y.f2, .slice AL y.f3.length cL]] (by rfl) rfl rfl (by (try simp only [List.map_toArray, List.map_cons, List.map_nil]); first | done | rfl) ?_
 with_reducible refine (copyEntry_calls y AL cL hln _ (Kd.C_below HL.out (below_step HB1.out HBd.out))).mono ?_
 rintro e w4 ⟨v, rfl, ho4, hb4⟩
 obtain ⟨V4, cv4, rfl⟩ := Kd.R_slice ho4
 replace ho4 := Aside0.mk ho4
 have Bb4 := Aside0.mk (blk_below Bb.out hb4)
 have Bc4 := Aside0.mk (blk_below Bc.out hb4)
 have Bd4 := Aside0.mk (blk_below Bd.out hb4)
 have Be4 := Aside0.mk (blk_below Be.out hb4)
 have HB4 := Aside0.mk (below_step HBd.out hb4)
 have HO4 := Aside0.mk (Kd.S_below HO.out hb4)
 refine ⟨_, rfl, ?_⟩
 refine hK.out _ _ (by exact ⟨Be4.out, Bc4.out⟩) (fun hHeld => ?_)
 clear hK K
 refine norm_ (a' := ?_) ?_ ?_
 rotate_left
 ·show Act.put _ (some 30) _ = _
  simp only [Act.put, List.setIfInBounds_toArray, List.set_cons_zero, List.set_cons_succ]
  rfl
 refine one_ (i := 4) (N := (some 31)) #[true, true, true, true, true, false, false, false] rfl rfl (by kernel_rfl) (by decide) (fun K hK => ?_)
 refine value_ (w1 := ?_) (v := ?_) (by rfl) rfl ?_ ?_
 rotate_left 2
 ·go_simp
  constructor
  ·rfl
  ·rfl
 refine hK.out _ _ (by exact ⟨blk_alloc Be4.out _, blk_alloc Bc4.out _⟩) (fun hHeld => ?_)
 clear hK K
 refine norm_ (a' := ?_) ?_ ?_
 rotate_left
 ·show Act.put _ (some 31) _ = _
  simp only [Act.put, List.setIfInBounds_toArray, List.set_cons_zero, List.set_cons_succ]
  rfl
 refine one_ (i := 5) (N := (some 32)) #[true, true, true, true, true, true, false, false] rfl rfl (by kernel_rfl) (by decide) (fun K hK => ?_)
 refine Kd.S_append_step k41 (w0 := w1) w1.heap.size (by rfl) (.tmp 28) (.tmp 31) 27 41 (.agg #[(.int .i64 0), (.int .i64 0), (.string ⟨#[]⟩), (.slice none 0 0)]) 56 rfl Tryz.underlying27 info41 rfl (by decide) (by omega) (.slice V2 g.entries.length cv2) g.entries y [.int .i64 y.f0, .int .i64 y.f1, .string y.f2, .slice V4 y.f3.length cv4] (fun _ => True) (fun k => wd.heap.size ≤ k) rfl rfl ?aP ?aK (fun _ _ => trivial) ?aO ?aB ?aS ?aL ?_
 case aP => exact k41_mkM _ _ _ y (Kd.R_lower (Kd.R_mono (Kd.R_bound ho4.out) (fun k hk => hk.2.1)) HBd.out.size)
 case aK => exact fun k hk => ⟨trivial, fun e => by have := Kd.S_lt HO.out k e.symm; omega⟩
 case aO => exact HO4.out
 case aB => exact HB4.out
 case aS => exact HB4.out.size
 case aL => omega
 intro v5 w5 ho5 hb5 hg5 hat5
 rw [hL.out] at ho5
 obtain ⟨V5, cv5, rfl⟩ := Kd.S_slice ho5
 replace ho5 := Aside0.mk ho5
 have Bb5 := Aside0.mk (blk_grown Bb4.out hg5 (Kd.S_ne HO4.out Bb4.out (by decide)))
 have Bc5 := Aside0.mk (blk_grown Bc4.out hg5 ?nC)
 case nC => have := Kd.S_base2 HO4.out; rcases this with q | ⟨k, q, hk⟩ <;> rw [q] <;> simp <;> omega
 have Bd5 := Aside0.mk (blk_grown Bd4.out hg5 (Kd.S_ne HO4.out Bd4.out (by decide)))
 have Be5 := Aside0.mk (blk_grown Be4.out hg5 (Kd.S_ne HO4.out Be4.out (by decide)))
 refine hK.out _ _ (by exact ⟨Be5.out, Bc5.out⟩) (fun hHeld => ?_)
 clear hK K
 refine norm_ (a' := ?_) ?_ ?_
 rotate_left
 ·show Act.put _ (some 32) _ = _
  simp only [Act.put, List.setIfInBounds_toArray, List.set_cons_zero, List.set_cons_succ]
  rfl
 refine pure_ (i := 6) (N := (some 33)) (v := ?_) (a' := ?_) #[true, true, true, true, true, true, true, false] rfl rfl (by kernel_rfl) (fun _ _ _ h => h) (Or.inl ⟨by rfl, ?_⟩) ?_ ?_
 rotate_left
 ·intro w'
  go_simp
  try with_reducible rfl
 rotate_left
 ·simp only [Act.put, List.setIfInBounds_toArray, List.set_cons_zero, List.set_cons_succ]
  rfl
 refine last_ (i := 7) (N := none) #[true, true, true, true, true, true, true, true] rfl rfl (by kernel_rfl) (by decide) (fun K hK => ?_)
 obtain ⟨se, sc⟩ := hHeld
 have k0 : w5.cell? ⟨w2.heap.size, 0, none⟩ = some (.slice V2 g.entries.length cv2) := (blk_cell se 0).trans rfl
 have fz0 := blk_frozen se 0
 refine skip_ (w1 := ?_) (by rfl) rfl ?_ ?_
 rotate_left
 ·go_simp
  rfl
 refine hK.out _ _ ?_
 clear hK K
 refine done_ (by kernel_rfl) ?_
 have HS6 := Aside0.mk (Kd.S_set ho5.out Be5.out (by decide) 0 (.slice V5 L.length cv5))
 have hz5 : w2.heap.size < w5.heap.size := blk_lt se
 have Bb6 := Aside0.mk (blk_far Bb5.out (p := ⟨w2.heap.size, 0, none⟩) (by show w.heap.size + 1 ≠ w2.heap.size; omega) (.slice V5 L.length cv5))
 have Bc6 := Aside0.mk (blk_far Bc5.out (p := ⟨w2.heap.size, 0, none⟩) (by show w.heap.size + 1 + 1 ≠ w2.heap.size; omega) (.slice V5 L.length cv5))
 have Bd6 := Aside0.mk (blk_far Bd5.out (p := ⟨w2.heap.size, 0, none⟩) (by show w.heap.size + 1 + 1 + 1 ≠ w2.heap.size; omega) (.slice V5 L.length cv5))
 have Be6 := Aside0.mk (blk_put (cs' := #[.slice V5 L.length cv5, .int .i64 g.head]) Be5.out 0 (.slice V5 L.length cv5) rfl)
 have HB6 := Aside0.mk (below_set (below_step HB1.out hb5) (g := w2.heap.size) (j := 0) (v := .slice V5 L.length cv5) (by have := HB2.out.size; omega))
 clear ho5 Bb5 Bc5 Bd5 Be5 se sc k0 fz0 hb5 hg5 hat5
 generalize (w5.setCell ⟨w2.heap.size, 0, none⟩ (.slice V5 L.length cv5)) = w6 at *
 have b6 : w6.cell? ⟨w.heap.size + 1, 1, none⟩ = some (.int .i64 g.head) := (blk_cell Bb6.out 1).trans rfl
 have c60 : w6.cell? ⟨w.heap.size + 1 + 1, 0, none⟩ = some (.int .i64 y.f0) := (blk_cell Bc6.out 0).trans rfl
 have c61 : w6.cell? ⟨w.heap.size + 1 + 1, 1, none⟩ = some (.int .i64 y.f1) := (blk_cell Bc6.out 1).trans rfl
 have c62 : w6.cell? ⟨w.heap.size + 1 + 1, 2, none⟩ = some (.string y.f2) := (blk_cell Bc6.out 2).trans rfl
 have c63 : w6.cell? ⟨w.heap.size + 1 + 1, 3, none⟩ = some (.slice AL y.f3.length cL) := (blk_cell Bc6.out 3).trans rfl
 have hz6 : w2.heap.size < w6.heap.size := blk_lt Be6.out
 have hz61 : w.heap.size + 1 < w6.heap.size := blk_lt Bb6.out
 have hz62 : w.heap.size + 1 + 1 < w6.heap.size := blk_lt Bc6.out
 have hz63 : w.heap.size + 1 + 1 + 1 < w6.heap.size := blk_lt Bd6.out
 go_wp2_with (go_at_call 56; (with_reducible refine (numbersOf_calls y AL cL HYt.out hln2 w6.heap.size (g.head, false) HIn.out w _ HL.out (below_alloc HB6.out _) HB6.out.size (blk_new w6 (.cells #[.int .i64 g.head, .bool false] 110 (0, 0)))).mono ?_); rintro e_ w7 ⟨rfl, hg7, hG7⟩; rw [hST.out] at hg7; have BC7 := Aside0.mk hg7; have Be7 := Aside0.mk (blk_grown (blk_alloc Be6.out (.cells #[.int .i64 g.head, .bool false] 110 (0, 0))) hG7 (by simp; omega)); have Bd7 := Aside0.mk (blk_grown (blk_alloc Bd6.out (.cells #[.int .i64 g.head, .bool false] 110 (0, 0))) hG7 (by simp; omega)); have HG7 := Aside0.mk hG7; have cc0 : w7.cell? ⟨w6.heap.size, 0, none⟩ = some (.int .i64 r) := (blk_cell BC7.out 0).trans rfl; have ce0 : w7.cell? ⟨w2.heap.size, 0, none⟩ = some (.slice V5 L.length cv5) := (blk_cell Be7.out 0).trans rfl; have ce1 : w7.cell? ⟨w2.heap.size, 1, none⟩ = some (.int .i64 g.head) := (blk_cell Be7.out 1).trans rfl; have fe0 := blk_frozen Be7.out 0; have fe1 := blk_frozen Be7.out 1; have cd0 : w7.cell? ⟨w.heap.size + 1 + 1 + 1, 0, none⟩ = some (.slice none 0 0) := (blk_cell Bd7.out 0).trans rfl; have cd1 : w7.cell? ⟨w.heap.size + 1 + 1 + 1, 1, none⟩ = some (.int .i64 0) := (blk_cell Bd7.out 1).trans rfl; have fd0 := blk_frozen Bd7.out 0; have fd1 := blk_frozen Bd7.out 1; clear hg7 hG7)
 refine bodyPost_ret (v := .tuple #[.agg #[.slice V5 L.length cv5, .int .i64 r], .int .i64 0]) (by simp [results, Tryz.results16, go_sem, cd0, cd1, fd0, fd1]) rfl ⟨V5, cv5, rfl, ?_, ?_⟩
 ·have h6 := Kd.S_mono (Kd.S_bound (Kd.S_types (Kd.S_types HS6.out Be6.out (by decide)) Bd6.out (by decide))) (ok' := fun k => (k ≠ w2.heap.size ∧ k ≠ w.heap.size + 1 + 1 + 1) ∧ k < w6.heap.size) (fun k hk => ⟨⟨hk.1.1.2, hk.1.2⟩, hk.2.2.1⟩)
  have h7 := Kd.S_grown (Kd.S_alloc h6 (.cells #[.int .i64 g.head, .bool false] 110 (0, 0))) HG7.out (fun k hk e => by injection e with e; have := hk.2; omega)
  exact S_lower (Kd.S_mono (Kd.S_far (p := ⟨w.heap.size + 1 + 1 + 1, 1, none⟩) (Kd.S_far (p := ⟨w.heap.size + 1 + 1 + 1, 0, none⟩) (Kd.S_far (p := ⟨w2.heap.size, 1, none⟩) h7 (fun _ hk => hk.1.1) _) (fun _ hk => hk.1.2) _) (fun _ hk => hk.1.2) _) (fun _ _ => trivial)) HB1.out.size
 ·refine below_set (below_set (below_set (grown_below (below_alloc HB6.out _) HG7.out HB6.out.size) (by have := HB2.out.size; omega)) (by omega)) (by omega)
end Go.Proofs.YtheaeffhhbjpmaaGreatDoor

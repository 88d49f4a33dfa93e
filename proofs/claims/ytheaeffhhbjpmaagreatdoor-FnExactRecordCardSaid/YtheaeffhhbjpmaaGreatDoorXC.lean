/- Of the reference: copies of an entry, of a list of them, of a ledger, of books. Of the reference: a copy of a ledger, of books. Of the reference: a copy of books. Of the reference: the period of a day. -/
import Derived.Test.YtheaeffhhbjpmaaGreatDoorXSp8
import Derived.Test.YtheaeffhhbjpmaaGreatDoorXTo
namespace Go.Proofs.YtheaeffhhbjpmaaGreatDoor
open Go.RowKit Go.Proofs.YtheaeffhhbjpmaaGreatDoorW.PrintWords Go.Proofs.YtheaeffhhbjpmaaGreatDoorW.PrintLast
set_option linter.unusedVariables false
set_option linter.unusedSimpArgs false
theorem flat88 {w W : World} {base : Nat} {ok : Nat → Prop} {x : S88} {cs : List Value} (h : k88.K w x cs) : k88.M W base ok x cs := by obtain rfl := k88_open h; exact k88_mkM _ _ _ _
theorem flat84 {w W : World} {base : Nat} {ok : Nat → Prop} {x : S84} {cs : List Value} (h : k84.K w x cs) : k84.M W base ok x cs := by obtain rfl := k84_open h; exact k84_mkM _ _ _ _
theorem flat48 {w W : World} {base : Nat} {ok : Nat → Prop} {x : S48} {cs : List Value} (h : k48.K w x cs) : k48.M W base ok x cs := by obtain rfl := k48_open h; exact k48_mkM _ _ _ _
set_option maxRecDepth 100000 in
set_option maxHeartbeats 1000000 in
theorem sEntryCopy_calls (y : S41) (A : Option Addr) (c : Nat) (hs : y.f3.length ≤ 1048576) (w : World) (hr : Kd.C k88 w A y.f3.length y.f3) :
  Calls Tryz.prog 106 #[.agg #[.int .i64 y.f0, .int .i64 y.f1, .string y.f2, .slice A y.f3.length c]] w fun e w' => ∃ v : Value, e = .returned (.agg #[.int .i64 y.f0, .int .i64 y.f1, .string y.f2, v]) ∧ k88.R 88 w' w.heap.size (fun _ => True) v y.f3 ∧ Below w.heap.size w w' := by
 have hu2 := Tryz.underlying41
 have HR := Aside0.mk hr
 have hm := C_len hr
 clear hr
 go_enter Tryz.func106, Tryz.ntmps106
 go_wp2_with (first | ((with_reducible refine gate_dst (N := 3) rfl ?_); refine Kd.R_lit k88 _ 88 ?hg (N := 3) ?hd (xs := ([] : List S88)) (inner := []) (ok := fun _ => True) (okp := fun _ => True) ?hr (Reps.none _ _) (fun _ hk => hk) trivial (Below.refl _ _) (Nat.le_refl _) (by simp) ?_; (case hd => rfl); (case hg => rfl); (case hr => first | (go_simp; done) | (go_simp; rfl)); intro v1 w1 ho1 hb1 hg_ hnew_; clear hg_ hnew_; obtain ⟨hc1, hf1⟩ := bcell hb1; have hz1 := hb1.size; (try simp at hz1); have hy10 : w.heap.size < w1.heap.size := (by omega); have hy11 : w.heap.size + 1 < w1.heap.size := (by omega)) | ((with_reducible refine gate_dst (N := 6) rfl ?_); at_builtin; refine Kd.R_append_rows k88 (Rr := k88.K w1) _ rfl (.tmp 3) (.tmp 5) 39 88 (.agg #[(.int .i64 0), (.int .i64 0), (.int .i64 0), (.int .i64 0), (.int .i64 0)]) 40 rfl Tryz.underlying39 info88 rfl (by decide) (by omega) v1 [] y.f3 A y.f3.length c (fun _ => True) (fun _ => False) rfl rfl ho1 ?aR (fun _ _ h => flat88 h) (fun _ hk => hk.elim) (fun _ _ => trivial) hb1 ?aS ?aL ?_; (case aR => exact Kd.C_below HR.out (by repeat (with_reducible first | assumption | exact Below.refl _ _ | apply below_alloc | apply below_drew1 | apply pw_below_drewN | refine below_set ?_ (by omega) | refine below_step ?_ (by assumption)))); (case aS => first | exact hb1.size | (have := hb1.size; simp at this ⊢; omega)); (case aL => simp only [List.length_nil]; omega); intro v2 w2 ho2 hb2 hg_ hat_; clear hg_ hat_; rw [List.nil_append] at ho2; obtain ⟨V2, cv2, rfl⟩ := Kd.R_slice ho2; replace ho2 := Aside0.mk ho2; obtain ⟨hc2, hf2⟩ := bcell hb2; have hz2 := hb2.size; (try simp at hz2); have hy20 : w.heap.size < w2.heap.size := (by omega); have hy21 : w.heap.size + 1 < w2.heap.size := (by omega); have q2 : w2.cell? ⟨w.heap.size, 3, none⟩ = some (.slice A y.f3.length c) := (by rw [hc2 _ _ (by simp; omega)]; simp); have qf : w2.frozen? ⟨w.heap.size, 3, none⟩ = false := (by rw [hf2 _ _ (by simp; omega)]; simp)))
 refine bodyPost_ret (v := .agg #[.int .i64 y.f0, .int .i64 y.f1, .string y.f2, .slice V2 y.f3.length cv2]) (by simp [results, Tryz.results106, go_sem, hc2, hy20, hy21]) rfl ⟨_, rfl, ?_, ?_⟩
 ·refine Kd.R_lower (R_after ho2.out ?_) (by simp; omega)
  intro k hk
  simp at hk
  repeat (with_reducible refine (heap_set1 _ _ _ _ hk (by omega)).trans ?_)
  with_reducible rfl
 ·exact (by repeat (with_reducible first | assumption | exact Below.refl _ _ | apply below_alloc | apply below_drew1 | apply pw_below_drewN | refine below_set ?_ (by omega) | refine below_step ?_ (by assumption)))
set_option maxRecDepth 100000 in
set_option maxHeartbeats 1000000 in
theorem sEntries_calls (es : List S41) (A : Option Addr) (c : Nat) (hs : es.length ≤ 1048576) (hs2 : ∀ i : Int, 0 ≤ i → i < es.length → (en es i).f3.length ≤ 1048576) (w : World) (hr : Kd.C k41 w A es.length es) :
  Calls Tryz.prog 130 #[.slice A es.length c] w fun e w' => ∃ v : Value, e = .returned v ∧ k41.R 41 w' w.heap.size (fun _ => True) v es ∧ Below w.heap.size w w' := by
 have hu2 := Tryz.underlying41
 have HR := Aside0.mk hr
 have HS := Aside0.mk hs2
 have hm := C_len hr
 clear hr hs2
 go_enter Tryz.func130, Tryz.ntmps130
 go_wp2_with (first | ((with_reducible refine gate_dst (N := 5) rfl ?_); refine Kd.R_lit k41 _ 41 ?hg (N := 5) ?hd (xs := ([] : List S41)) (inner := []) (ok := fun _ => True) (okp := fun _ => True) ?hr (Reps.none _ _) (fun _ hk => hk) trivial (Below.refl _ _) (Nat.le_refl _) (by simp) ?_; (case hd => rfl); (case hg => rfl); (case hr => first | (go_simp; done) | (go_simp; rfl)); intro v1 w1 ho1 hb1 hg_ hnew_; clear hg_ hnew_; obtain ⟨hc1, hf1⟩ := bcell hb1; have hz1 := hb1.size; (try simp at hz1); skip))
 have HO1 := Aside0.mk ho1
 have HB1 := Aside0.mk hb1
 clear ho1 hb1 hc1 hf1 hz1
 go_loopg [3, 4] es.length (fun kq v3 v4 w' => ∃ i : Int, v4 = .int .i64 i ∧ 0 ≤ i ∧ i ≤ es.length ∧ Aside0 (kq = es.length - i.toNat) ∧ Aside0 (k41.R 41 w' w.heap.size (fun _ => True) v3 (es.take i.toNat)) ∧ Aside0 (Below w.heap.size w w'))
 case atStart => exact ⟨0, rfl, by omega, by omega, ⟨rfl⟩, ⟨by simpa using HO1.out⟩, HB1⟩
 case round =>
  clear HO1 HB1
  obtain ⟨i, rfl, h0, hi, HK, HO, HB⟩ := hrel
  by_cases hlt : i < es.length
  ·obtain ⟨ad, A4, c4, e0, ⟨x0, x1, x2, x3⟩, hc4, hC4⟩ := at41 (Kd.C_below HR.out HB.out) i h0 hlt
   cases e0
   have hsl : (rd_T41 es i).f3.length ≤ 1048576 := HS.out i h0 hlt
   have HT := Aside0.mk (show es.take (i + 1).toNat = es.take i.toNat ++ [rd_T41 es i] by
    have h : i.toNat < es.length := by omega
    unfold rd_T41
    rw [show (i + 1).toNat = i.toNat + 1 by omega, List.take_add_one]
    simp [h])
   obtain ⟨y, hy⟩ : ∃ y, rd_T41 es i = y := ⟨_, rfl⟩
   rw [hy] at x0 x1 x2 x3 hc4 hC4 hsl HT
   clear hy
   have HC4 := Aside0.mk hC4
   have hln : (es.take i.toNat).length ≤ 1048576 := by rw [List.length_take]; omega
   clear hC4
   go_wp2_with (first | (go_at_call 106; (with_reducible refine (sEntryCopy_calls y _ _ hsl _ HC4.out).mono ?_); rintro e w1 ⟨v, rfl, ho, hb⟩; obtain ⟨V, cv, rfl⟩ := Kd.R_slice ho; replace ho := Aside0.mk ho; have HB1 := Aside0.mk (below_step HB.out hb); have hz := hb.size) | ((with_reducible refine gate_dst (N := 19) rfl ?_); at_builtin; refine Kd.R_append k41 (w0 := w) w.heap.size rfl (.tmp 12) (.tmp 18) 27 41 (.agg #[(.int .i64 0), (.int .i64 0), (.string ⟨#[]⟩), (.slice none 0 0)]) 56 rfl Tryz.underlying27 info41 rfl (by decide) (by omega) u3 (es.take i.toNat) y [.int .i64 y.f0, .int .i64 y.f1, .string y.f2, .slice V y.f3.length cv] (fun _ => True) (fun k => wr.heap.size ≤ k) rfl rfl ?aP ?aK (fun _ _ => trivial) ?aO ?aB ?aS ?aL ?_; (case aP => exact k41_mkM _ _ _ y (Kd.R_lower (Kd.R_mono (Kd.R_bound ho.out) (fun k hk => hk.2.1)) HB.out.size)); (case aK => exact fun k hk => ⟨trivial, fun e => by have := Kd.R_lt HO.out k e.symm; omega⟩); (case aO => exact Kd.R_below HO.out hb); (case aB => exact HB1.out); (case aS => exact HB1.out.size); (case aL => omega); intro v1 w2 ho2 hb2 hg hat; rw [← HT.out] at ho2; have HO2 := Aside0.mk ho2; have HB2 := Aside0.mk hb2; clear ho2 hb2 hg hat))
   go_roundg (es.length - (i + 1).toNat)
   case measure => have := HK.out; omega
   case rel => exact ⟨i + 1, by go_num, by omega, by omega, ⟨rfl⟩, HO2, HB2⟩
  ·have hie : i.toNat = es.length := by omega
   have HO2 := HO.out
   rw [hie, List.take_length] at HO2
   replace HO2 := Aside0.mk HO2
   clear HO hie
   go_wp2
   go_ret
   exact ⟨_, rfl, HO2.out, HB.out⟩
end Go.Proofs.YtheaeffhhbjpmaaGreatDoor
namespace Go.Proofs.YtheaeffhhbjpmaaGreatDoor
open Go.RowKit Go.Proofs.YtheaeffhhbjpmaaGreatDoorW.PrintWords Go.Proofs.YtheaeffhhbjpmaaGreatDoorW.PrintLast
set_option linter.unusedVariables false
set_option linter.unusedSimpArgs false
set_option maxRecDepth 100000 in
set_option maxHeartbeats 1000000 in
theorem sLedgerCopy_calls (g : LedgD) (A : Option Addr) (c : Nat) (hs : g.entries.length ≤ 1048576) (hs2 : ∀ i : Int, 0 ≤ i → i < g.entries.length → (en g.entries i).f3.length ≤ 1048576) (w : World) (hr : Kd.C k41 w A g.entries.length g.entries) :
  Calls Tryz.prog 105 #[.agg #[.slice A g.entries.length c, .int .i64 g.head]] w fun e w' => ∃ A' c', e = .returned (.agg #[.slice A' g.entries.length c', .int .i64 g.head]) ∧ k41.R 41 w' w.heap.size (fun _ => True) (.slice A' g.entries.length c') g.entries ∧ Below w.heap.size w w' := by
 have hu2 := Tryz.underlying29
 replace hs2 := Aside0.mk hs2
 go_enter Tryz.func105, Tryz.ntmps105
 go_wp2
 have HB0 := Aside0.mk (show Below w.heap.size w ((w.alloc (.cells #[.slice A g.entries.length c, .int .i64 g.head] 29 (0, 0))).alloc (.cells #[.slice none 0 0, .int .i64 0] 29 (0, 0))) from (by repeat (with_reducible first | assumption | exact Below.refl _ _ | apply below_alloc | apply below_drew1 | apply pw_below_drewN | refine below_set ?_ (by omega) | refine below_step ?_ (by assumption))))
 have HC0 := Aside0.mk (show (fun (w' : World) => (w'.cell? ⟨w.heap.size, 0, none⟩ = some (.slice A g.entries.length c) ∧ w'.cell? ⟨w.heap.size, 1, none⟩ = some (.int .i64 g.head)) ∧ (w'.cell? ⟨w.heap.size + 1, 0, none⟩ = some (.slice none 0 0) ∧ w'.cell? ⟨w.heap.size + 1, 1, none⟩ = some (.int .i64 0)) ∧ w'.frozen? ⟨w.heap.size + 1, 0, none⟩ = false ∧ w'.frozen? ⟨w.heap.size + 1, 1, none⟩ = false) ((w.alloc (.cells #[.slice A g.entries.length c, .int .i64 g.head] 29 (0, 0))).alloc (.cells #[.slice none 0 0, .int .i64 0] 29 (0, 0))) from by refine ⟨⟨?_, ?_⟩, ⟨?_, ?_⟩, ?_, ?_⟩ <;> simp)
 generalize ((w.alloc (.cells #[.slice A g.entries.length c, .int .i64 g.head] 29 (0, 0))).alloc (.cells #[.slice none 0 0, .int .i64 0] 29 (0, 0))) = W0 at *
 have hz0 : w.heap.size + 1 < W0.heap.size := cell_lt HC0.out.2.1.1
 have HR := Aside0.mk (Kd.C_below hr HB0.out)
 refine start_ (n := 7) (S := fun w' => Below W0.heap.size W0 w' ∧ (w'.cell? ⟨w.heap.size, 0, none⟩ = some (.slice A g.entries.length c) ∧ w'.cell? ⟨w.heap.size, 1, none⟩ = some (.int .i64 g.head)) ∧ (w'.cell? ⟨w.heap.size + 1, 0, none⟩ = some (.slice none 0 0) ∧ w'.cell? ⟨w.heap.size + 1, 1, none⟩ = some (.int .i64 0)) ∧ w'.frozen? ⟨w.heap.size + 1, 0, none⟩ = false ∧ w'.frozen? ⟨w.heap.size + 1, 1, none⟩ = false) (ds := [6]) #[false, false, false, false, false, false, false] (by kernel_rfl) rfl rfl (by exact ⟨below_drew (Below.refl _ _), HC0.out⟩) (fun hHeld => ?_)
 generalize W0.drew = wd at hHeld ⊢
 have hzd : W0.heap.size ≤ wd.heap.size := hHeld.1.size
 refine pure_ (i := 0) (N := (some 3)) (v := ?_) (a' := ?_) #[true, false, false, false, false, false, false] rfl rfl (by kernel_rfl) (fun _ _ _ h => h) (Or.inl ⟨by rfl, ?_⟩) ?_ ?_
 rotate_left
 ·intro w'
  go_simp
  try with_reducible rfl
 rotate_left
 ·simp only [Act.put, List.setIfInBounds_toArray, List.set_cons_zero, List.set_cons_succ]
  rfl
 refine take_ (i := 1) (N := (some 4)) (v := ?_) (a' := ?_) #[true, true, false, false, false, false, false] rfl rfl (by kernel_rfl) (fun _ _ _ h => h) (Or.inl ⟨by rfl, ?_⟩) hHeld ?_ ?_
 rotate_left
 ·rintro w' ⟨s_, ⟨s0, s1⟩, ⟨s2, s3⟩, s4, s5⟩
  go_simp
  try with_reducible rfl
 rotate_left
 ·simp only [Act.put, List.setIfInBounds_toArray, List.set_cons_zero, List.set_cons_succ]
  rfl
 refine pure_ (i := 3) (N := (some 6)) (v := ?_) (a' := ?_) #[true, true, false, true, false, false, false] rfl rfl (by kernel_rfl) (fun _ _ _ h => h) (Or.inl ⟨by rfl, ?_⟩) ?_ ?_
 rotate_left
 ·intro w'
  go_simp
  try with_reducible rfl
 rotate_left
 ·simp only [Act.put, List.setIfInBounds_toArray, List.set_cons_zero, List.set_cons_succ]
  rfl
 refine take_ (i := 4) (N := (some 7)) (v := ?_) (a' := ?_) #[true, true, false, true, true, false, false] rfl rfl (by kernel_rfl) (fun _ _ _ h => h) (Or.inl ⟨by rfl, ?_⟩) hHeld ?_ ?_
 rotate_left
 ·rintro w' ⟨s_, ⟨s0, s1⟩, ⟨s2, s3⟩, s4, s5⟩
  go_simp
  try with_reducible rfl
 rotate_left
 ·simp only [Act.put, List.setIfInBounds_toArray, List.set_cons_zero, List.set_cons_succ]
  rfl
 refine one_ (i := 2) (N := (some 5)) #[true, true, true, true, true, false, false] rfl rfl (by kernel_rfl) (by decide) (fun K hK => ?_)
 refine goes_ Tryz.func130 (by kernel_rfl) rfl #[.slice A g.entries.length c] (by rfl) rfl rfl (by (try simp only [List.map_toArray, List.map_cons, List.map_nil]); first | done | rfl) ?_
 with_reducible refine (sEntries_calls g.entries A c hs hs2.out _ (Kd.C_below HR.out hHeld.1)).mono ?_
 rintro e w1 ⟨v, rfl, ho, hb⟩
 obtain ⟨V, cv, rfl⟩ := Kd.R_slice ho
 replace ho := Aside0.mk ho
 refine ⟨_, rfl, ?_⟩
 refine hK.out _ _ (by exact ⟨below_step hHeld.1 hb, ⟨pw_cell_below hb hHeld.2.1.1, pw_cell_below hb hHeld.2.1.2⟩, ⟨pw_cell_below hb hHeld.2.2.1.1, pw_cell_below hb hHeld.2.2.1.2⟩, (hb.frozen (p := ⟨w.heap.size + 1, 0, none⟩) (cell_lt hHeld.2.2.1.1)).trans hHeld.2.2.2.1, (hb.frozen (p := ⟨w.heap.size + 1, 1, none⟩) (cell_lt hHeld.2.2.1.1)).trans hHeld.2.2.2.2⟩) (fun hHeld => ?_)
 clear hK K
 refine norm_ (a' := ?_) ?_ ?_
 rotate_left
 ·show Act.put _ (some 5) _ = _
  simp only [Act.put, List.setIfInBounds_toArray, List.set_cons_zero, List.set_cons_succ]
  rfl
 refine pure_ (i := 5) (N := (some 8)) (v := ?_) (a' := ?_) #[true, true, true, true, true, true, false] rfl rfl (by kernel_rfl) (fun _ _ _ h => h) (Or.inl ⟨by rfl, ?_⟩) ?_ ?_
 rotate_left
 ·intro w'
  go_simp
  try with_reducible rfl
 rotate_left
 ·simp only [Act.put, List.setIfInBounds_toArray, List.set_cons_zero, List.set_cons_succ]
  rfl
 refine last_ (i := 6) (N := none) #[true, true, true, true, true, true, true] rfl rfl (by kernel_rfl) (by decide) (fun K hK => ?_)
 obtain ⟨s_, ⟨s0, s1⟩, ⟨s2, s3⟩, s4, s5⟩ := hHeld
 refine skip_ (w1 := ?_) (by rfl) rfl ?_ ?_
 rotate_left
 ·go_simp
  rfl
 refine hK.out _ _ ?_
 clear hK K
 refine done_ (by kernel_rfl) ?_
 have hzw : w.heap.size + 1 < w1.heap.size := cell_lt s2
 go_wp2
 refine bodyPost_ret (v := .agg #[.slice V g.entries.length cv, .int .i64 g.head]) (by simp [results, Tryz.results105, go_sem, s2, s3, s4, s5]) rfl ⟨V, cv, rfl, ?_, ?_⟩
 ·refine Kd.R_lower (R_after ho.out ?_) (by omega)
  intro k hk
  have hk2 : W0.heap.size ≤ k := by omega
  repeat (with_reducible refine (heap_set1 _ _ _ _ hk2 (by omega)).trans ?_)
  with_reducible rfl
 ·refine below_set (below_set (below_step HB0.out s_) (by simp)) (by simp)
end Go.Proofs.YtheaeffhhbjpmaaGreatDoor
namespace Go.Proofs.YtheaeffhhbjpmaaGreatDoor
open Go.RowKit Go.Proofs.YtheaeffhhbjpmaaGreatDoorW.PrintWords Go.Proofs.YtheaeffhhbjpmaaGreatDoorW.PrintLast
set_option linter.unusedVariables false
set_option linter.unusedSimpArgs false
theorem blk_new1 (w : World) (o o' : Obj) : ((w.alloc o).alloc o').heap[w.heap.size + 1]? = some o' := by
 have h := blk_new (w.alloc o) o'
 rwa [show (w.alloc o).heap.size = w.heap.size + 1 by simp] at h
/-- A books' value in memory from base on, for reading. -/
structure OwR (w : World) (base : Nat) (a : ABooks) (b : BooksD) : Prop where
 o0 : k48.R 48 w base (fun _ => True) (.slice a.A0 b.frame.chart.length a.c0) b.frame.chart
 o3 : k41.R 41 w base (fun _ => True) (.slice a.A3 b.ledg.entries.length a.c3) b.ledg.entries
 o5 : k84.R 84 w base (fun _ => True) (.slice a.A5 b.periods.length a.c5) b.periods
set_option maxRecDepth 100000 in
set_option maxHeartbeats 4000000 in
theorem sBooksCopy_calls (a : ABooks) (b : BooksD) (hs : SmB b) (w : World) (hr : RdB w a b) : Calls Tryz.prog 63 #[valB a b] w fun e w' => ∃ a', e = .returned (valB a' b) ∧ OwR w' w.heap.size a' b ∧ Below w.heap.size w w' := by
 have hu := Tryz.underlying32
 have hu2 := Tryz.underlying26
 have hu3 := Tryz.underlying29
 obtain ⟨A0, c0, A3, c3, A5, c5⟩ := a
 have HR := Aside0.mk hr.r0
 have HE := Aside0.mk hr.r3
 have HP := Aside0.mk hr.r5
 have HS := Aside0.mk hs
 have HS3 := Aside0.mk (show ∀ i : Int, 0 ≤ i → i < b.ledg.entries.length → (en b.ledg.entries i).f3.length ≤ 1048576 from fun i h0 h1 => hs.s3 _ (mem_getD z41 h0 h1))
 have hm := C_len hr.r5
 have hm0 := C_len hr.r0
 have hm1 := hs.s0
 have hm2 := hs.s4
 dsimp only at HR HE HP hm hm0
 clear hr hs
 go_enter Tryz.func63, Tryz.ntmps63
 go_wp2_with (first | ((with_reducible refine gate_dst (N := 3) rfl ?_); refine Kd.R_lit k48 _ 48 ?hg (N := 3) ?hd (xs := ([] : List S48)) (inner := []) (ok := fun _ => True) (okp := fun _ => True) ?hr (Reps.none _ _) (fun _ hk => hk) trivial (Below.refl _ _) (Nat.le_refl _) (by simp) ?_; (case hd => rfl); (case hg => rfl); (case hr => first | (go_simp; done) | (go_simp; rfl)); intro v1 w1 ho1 hb1 hg_ hnew_; clear hg_ hnew_; have Ba1 := Aside0.mk (show w1.heap[w.heap.size]? = some (.cells #[.slice A0 b.frame.chart.length c0, .int .i64 b.frame.dims, .int .i64 b.frame.curs, .slice A3 b.ledg.entries.length c3, .int .i64 b.ledg.head, .slice A5 b.periods.length c5, .int .i64 b.closed, .int .i64 b.kept] 32 (0, 0)) from blk_below (blk_alloc (blk_new w _) _) hb1); have Bb1 := Aside0.mk (show w1.heap[w.heap.size + 1]? = some (.cells #[.slice none 0 0, .int .i64 0, .int .i64 0, .slice none 0 0, .int .i64 0, .slice none 0 0, .int .i64 0, .int .i64 0] 32 (0, 0)) from blk_below (blk_new1 w _ _) hb1); have ac10 : w1.cell? ⟨w.heap.size, 0, none⟩ = some (.slice A0 b.frame.chart.length c0) := (blk_cell Ba1.out 0).trans rfl; have af10 := blk_frozen Ba1.out 0; have ac11 : w1.cell? ⟨w.heap.size, 1, none⟩ = some (.int .i64 b.frame.dims) := (blk_cell Ba1.out 1).trans rfl; have af11 := blk_frozen Ba1.out 1; have ac12 : w1.cell? ⟨w.heap.size, 2, none⟩ = some (.int .i64 b.frame.curs) := (blk_cell Ba1.out 2).trans rfl; have af12 := blk_frozen Ba1.out 2; have ac13 : w1.cell? ⟨w.heap.size, 3, none⟩ = some (.slice A3 b.ledg.entries.length c3) := (blk_cell Ba1.out 3).trans rfl; have af13 := blk_frozen Ba1.out 3; have ac14 : w1.cell? ⟨w.heap.size, 4, none⟩ = some (.int .i64 b.ledg.head) := (blk_cell Ba1.out 4).trans rfl; have af14 := blk_frozen Ba1.out 4; have ac15 : w1.cell? ⟨w.heap.size, 5, none⟩ = some (.slice A5 b.periods.length c5) := (blk_cell Ba1.out 5).trans rfl; have af15 := blk_frozen Ba1.out 5; have ac16 : w1.cell? ⟨w.heap.size, 6, none⟩ = some (.int .i64 b.closed) := (blk_cell Ba1.out 6).trans rfl; have af16 := blk_frozen Ba1.out 6; have ac17 : w1.cell? ⟨w.heap.size, 7, none⟩ = some (.int .i64 b.kept) := (blk_cell Ba1.out 7).trans rfl; have af17 := blk_frozen Ba1.out 7; have bc10 : w1.cell? ⟨w.heap.size + 1, 0, none⟩ = some (.slice none 0 0) := (blk_cell Bb1.out 0).trans rfl; have bf10 := blk_frozen Bb1.out 0; have bc11 : w1.cell? ⟨w.heap.size + 1, 1, none⟩ = some (.int .i64 0) := (blk_cell Bb1.out 1).trans rfl; have bf11 := blk_frozen Bb1.out 1; have bc12 : w1.cell? ⟨w.heap.size + 1, 2, none⟩ = some (.int .i64 0) := (blk_cell Bb1.out 2).trans rfl; have bf12 := blk_frozen Bb1.out 2; have bc13 : w1.cell? ⟨w.heap.size + 1, 3, none⟩ = some (.slice none 0 0) := (blk_cell Bb1.out 3).trans rfl; have bf13 := blk_frozen Bb1.out 3; have bc14 : w1.cell? ⟨w.heap.size + 1, 4, none⟩ = some (.int .i64 0) := (blk_cell Bb1.out 4).trans rfl; have bf14 := blk_frozen Bb1.out 4; have bc15 : w1.cell? ⟨w.heap.size + 1, 5, none⟩ = some (.slice none 0 0) := (blk_cell Bb1.out 5).trans rfl; have bf15 := blk_frozen Bb1.out 5; have bc16 : w1.cell? ⟨w.heap.size + 1, 6, none⟩ = some (.int .i64 0) := (blk_cell Bb1.out 6).trans rfl; have bf16 := blk_frozen Bb1.out 6; have bc17 : w1.cell? ⟨w.heap.size + 1, 7, none⟩ = some (.int .i64 0) := (blk_cell Bb1.out 7).trans rfl; have bf17 := blk_frozen Bb1.out 7) | ((with_reducible refine gate_dst (N := 7) rfl ?_); at_builtin; refine Kd.R_append_rows k48 (Rr := k48.K w1) _ rfl (.tmp 3) (.tmp 6) 24 48 (.agg #[(.string ⟨#[]⟩), (.int .i64 0), (.int .i64 0)]) 32 rfl Tryz.underlying24 info48 rfl (by decide) (by omega) v1 [] b.frame.chart A0 b.frame.chart.length c0 (fun _ => True) (fun _ => False) rfl rfl ho1 ?aR (fun _ _ h => flat48 h) (fun _ hk => hk.elim) (fun _ _ => trivial) hb1 ?aS ?aL ?_; (case aR => exact Kd.C_below HR.out (by repeat (with_reducible first | assumption | exact Below.refl _ _ | apply below_alloc | apply below_drew1 | apply pw_below_drewN | refine below_set ?_ (by omega) | refine below_step ?_ (by assumption)))); (case aS => exact hb1.size); (case aL => simp only [List.length_nil]; omega); intro v2 w2 ho2 hb2 hg_ hat_; clear hg_ hat_; rw [List.nil_append] at ho2; obtain ⟨V2, cv2, rfl⟩ := Kd.R_slice ho2; replace ho2 := Aside0.mk ho2; have Ba2 := Aside0.mk (show w2.heap[w.heap.size]? = some (.cells #[.slice A0 b.frame.chart.length c0, .int .i64 b.frame.dims, .int .i64 b.frame.curs, .slice A3 b.ledg.entries.length c3, .int .i64 b.ledg.head, .slice A5 b.periods.length c5, .int .i64 b.closed, .int .i64 b.kept] 32 (0, 0)) from blk_below (blk_alloc (blk_new w _) _) hb2); have Bb2 := Aside0.mk (show w2.heap[w.heap.size + 1]? = some (.cells #[.slice none 0 0, .int .i64 0, .int .i64 0, .slice none 0 0, .int .i64 0, .slice none 0 0, .int .i64 0, .int .i64 0] 32 (0, 0)) from blk_below (blk_new1 w _ _) hb2); have ac20 : w2.cell? ⟨w.heap.size, 0, none⟩ = some (.slice A0 b.frame.chart.length c0) := (blk_cell Ba2.out 0).trans rfl; have af20 := blk_frozen Ba2.out 0; have ac21 : w2.cell? ⟨w.heap.size, 1, none⟩ = some (.int .i64 b.frame.dims) := (blk_cell Ba2.out 1).trans rfl; have af21 := blk_frozen Ba2.out 1; have ac22 : w2.cell? ⟨w.heap.size, 2, none⟩ = some (.int .i64 b.frame.curs) := (blk_cell Ba2.out 2).trans rfl; have af22 := blk_frozen Ba2.out 2; have ac23 : w2.cell? ⟨w.heap.size, 3, none⟩ = some (.slice A3 b.ledg.entries.length c3) := (blk_cell Ba2.out 3).trans rfl; have af23 := blk_frozen Ba2.out 3; have ac24 : w2.cell? ⟨w.heap.size, 4, none⟩ = some (.int .i64 b.ledg.head) := (blk_cell Ba2.out 4).trans rfl; have af24 := blk_frozen Ba2.out 4; have ac25 : w2.cell? ⟨w.heap.size, 5, none⟩ = some (.slice A5 b.periods.length c5) := (blk_cell Ba2.out 5).trans rfl; have af25 := blk_frozen Ba2.out 5; have ac26 : w2.cell? ⟨w.heap.size, 6, none⟩ = some (.int .i64 b.closed) := (blk_cell Ba2.out 6).trans rfl; have af26 := blk_frozen Ba2.out 6; have ac27 : w2.cell? ⟨w.heap.size, 7, none⟩ = some (.int .i64 b.kept) := (blk_cell Ba2.out 7).trans rfl; have af27 := blk_frozen Ba2.out 7; have bc20 : w2.cell? ⟨w.heap.size + 1, 0, none⟩ = some (.slice none 0 0) := (blk_cell Bb2.out 0).trans rfl; have bf20 := blk_frozen Bb2.out 0; have bc21 : w2.cell? ⟨w.heap.size + 1, 1, none⟩ = some (.int .i64 0) := (blk_cell Bb2.out 1).trans rfl; have bf21 := blk_frozen Bb2.out 1; have bc22 : w2.cell? ⟨w.heap.size + 1, 2, none⟩ = some (.int .i64 0) := (blk_cell Bb2.out 2).trans rfl; have bf22 := blk_frozen Bb2.out 2; have bc23 : w2.cell? ⟨w.heap.size + 1, 3, none⟩ = some (.slice none 0 0) := (blk_cell Bb2.out 3).trans rfl; have bf23 := blk_frozen Bb2.out 3; have bc24 : w2.cell? ⟨w.heap.size + 1, 4, none⟩ = some (.int .i64 0) := (blk_cell Bb2.out 4).trans rfl; have bf24 := blk_frozen Bb2.out 4; have bc25 : w2.cell? ⟨w.heap.size + 1, 5, none⟩ = some (.slice none 0 0) := (blk_cell Bb2.out 5).trans rfl; have bf25 := blk_frozen Bb2.out 5; have bc26 : w2.cell? ⟨w.heap.size + 1, 6, none⟩ = some (.int .i64 0) := (blk_cell Bb2.out 6).trans rfl; have bf26 := blk_frozen Bb2.out 6; have bc27 : w2.cell? ⟨w.heap.size + 1, 7, none⟩ = some (.int .i64 0) := (blk_cell Bb2.out 7).trans rfl; have bf27 := blk_frozen Bb2.out 7) | (go_at_call 105; (with_reducible refine (sLedgerCopy_calls b.ledg _ _ HS.out.s2 HS3.out _ (Kd.C_below HE.out (by repeat (with_reducible first | assumption | exact Below.refl _ _ | apply below_alloc | apply below_drew1 | apply pw_below_drewN | refine below_set ?_ (by omega) | refine below_step ?_ (by assumption))))).mono ?_); rintro e w3 ⟨V3, cv3, rfl, ho3, hb3⟩; replace ho3 := Aside0.mk ho3; have Ba3 := Aside0.mk (show w3.heap[w.heap.size]? = some (.cells #[.slice V2 b.frame.chart.length cv2, .int .i64 b.frame.dims, .int .i64 b.frame.curs, .slice A3 b.ledg.entries.length c3, .int .i64 b.ledg.head, .slice A5 b.periods.length c5, .int .i64 b.closed, .int .i64 b.kept] 32 (0, 0)) from blk_below (blk_put Ba2.out 0 (.slice V2 b.frame.chart.length cv2) rfl) hb3); have Bb3 := Aside0.mk (show w3.heap[w.heap.size + 1]? = some (.cells #[.slice none 0 0, .int .i64 0, .int .i64 0, .slice none 0 0, .int .i64 0, .slice none 0 0, .int .i64 0, .int .i64 0] 32 (0, 0)) from blk_below (blk_far Bb2.out (by simp) _) hb3); have ac30 : w3.cell? ⟨w.heap.size, 0, none⟩ = some (.slice V2 b.frame.chart.length cv2) := (blk_cell Ba3.out 0).trans rfl; have af30 := blk_frozen Ba3.out 0; have ac31 : w3.cell? ⟨w.heap.size, 1, none⟩ = some (.int .i64 b.frame.dims) := (blk_cell Ba3.out 1).trans rfl; have af31 := blk_frozen Ba3.out 1; have ac32 : w3.cell? ⟨w.heap.size, 2, none⟩ = some (.int .i64 b.frame.curs) := (blk_cell Ba3.out 2).trans rfl; have af32 := blk_frozen Ba3.out 2; have ac33 : w3.cell? ⟨w.heap.size, 3, none⟩ = some (.slice A3 b.ledg.entries.length c3) := (blk_cell Ba3.out 3).trans rfl; have af33 := blk_frozen Ba3.out 3; have ac34 : w3.cell? ⟨w.heap.size, 4, none⟩ = some (.int .i64 b.ledg.head) := (blk_cell Ba3.out 4).trans rfl; have af34 := blk_frozen Ba3.out 4; have ac35 : w3.cell? ⟨w.heap.size, 5, none⟩ = some (.slice A5 b.periods.length c5) := (blk_cell Ba3.out 5).trans rfl; have af35 := blk_frozen Ba3.out 5; have ac36 : w3.cell? ⟨w.heap.size, 6, none⟩ = some (.int .i64 b.closed) := (blk_cell Ba3.out 6).trans rfl; have af36 := blk_frozen Ba3.out 6; have ac37 : w3.cell? ⟨w.heap.size, 7, none⟩ = some (.int .i64 b.kept) := (blk_cell Ba3.out 7).trans rfl; have af37 := blk_frozen Ba3.out 7; have bc30 : w3.cell? ⟨w.heap.size + 1, 0, none⟩ = some (.slice none 0 0) := (blk_cell Bb3.out 0).trans rfl; have bf30 := blk_frozen Bb3.out 0; have bc31 : w3.cell? ⟨w.heap.size + 1, 1, none⟩ = some (.int .i64 0) := (blk_cell Bb3.out 1).trans rfl; have bf31 := blk_frozen Bb3.out 1; have bc32 : w3.cell? ⟨w.heap.size + 1, 2, none⟩ = some (.int .i64 0) := (blk_cell Bb3.out 2).trans rfl; have bf32 := blk_frozen Bb3.out 2; have bc33 : w3.cell? ⟨w.heap.size + 1, 3, none⟩ = some (.slice none 0 0) := (blk_cell Bb3.out 3).trans rfl; have bf33 := blk_frozen Bb3.out 3; have bc34 : w3.cell? ⟨w.heap.size + 1, 4, none⟩ = some (.int .i64 0) := (blk_cell Bb3.out 4).trans rfl; have bf34 := blk_frozen Bb3.out 4; have bc35 : w3.cell? ⟨w.heap.size + 1, 5, none⟩ = some (.slice none 0 0) := (blk_cell Bb3.out 5).trans rfl; have bf35 := blk_frozen Bb3.out 5; have bc36 : w3.cell? ⟨w.heap.size + 1, 6, none⟩ = some (.int .i64 0) := (blk_cell Bb3.out 6).trans rfl; have bf36 := blk_frozen Bb3.out 6; have bc37 : w3.cell? ⟨w.heap.size + 1, 7, none⟩ = some (.int .i64 0) := (blk_cell Bb3.out 7).trans rfl; have bf37 := blk_frozen Bb3.out 7) | ((with_reducible refine gate_dst (N := 14) rfl ?_); refine Kd.R_lit k84 _ 84 ?hg (N := 14) ?hd (xs := ([] : List S84)) (inner := []) (ok := fun _ => True) (okp := fun _ => True) ?hr (Reps.none _ _) (fun _ hk => hk) trivial (Below.refl _ _) (Nat.le_refl _) (by simp) ?_; (case hd => rfl); (case hg => rfl); (case hr => first | (go_simp; done) | (go_simp; rfl)); intro v4 w4 ho4 hb4 hg_ hnew_; clear hg_ hnew_; have Ba4 := Aside0.mk (show w4.heap[w.heap.size]? = some (.cells #[.slice V2 b.frame.chart.length cv2, .int .i64 b.frame.dims, .int .i64 b.frame.curs, .slice V3 b.ledg.entries.length cv3, .int .i64 b.ledg.head, .slice A5 b.periods.length c5, .int .i64 b.closed, .int .i64 b.kept] 32 (0, 0)) from blk_below (blk_put (blk_put Ba3.out 3 (.slice V3 b.ledg.entries.length cv3) rfl) 4 (.int .i64 b.ledg.head) rfl) hb4); have Bb4 := Aside0.mk (show w4.heap[w.heap.size + 1]? = some (.cells #[.slice none 0 0, .int .i64 0, .int .i64 0, .slice none 0 0, .int .i64 0, .slice none 0 0, .int .i64 0, .int .i64 0] 32 (0, 0)) from blk_below (blk_far (blk_far Bb3.out (by simp) _) (by simp) _) hb4); have ac40 : w4.cell? ⟨w.heap.size, 0, none⟩ = some (.slice V2 b.frame.chart.length cv2) := (blk_cell Ba4.out 0).trans rfl; have af40 := blk_frozen Ba4.out 0; have ac41 : w4.cell? ⟨w.heap.size, 1, none⟩ = some (.int .i64 b.frame.dims) := (blk_cell Ba4.out 1).trans rfl; have af41 := blk_frozen Ba4.out 1; have ac42 : w4.cell? ⟨w.heap.size, 2, none⟩ = some (.int .i64 b.frame.curs) := (blk_cell Ba4.out 2).trans rfl; have af42 := blk_frozen Ba4.out 2; have ac43 : w4.cell? ⟨w.heap.size, 3, none⟩ = some (.slice V3 b.ledg.entries.length cv3) := (blk_cell Ba4.out 3).trans rfl; have af43 := blk_frozen Ba4.out 3; have ac44 : w4.cell? ⟨w.heap.size, 4, none⟩ = some (.int .i64 b.ledg.head) := (blk_cell Ba4.out 4).trans rfl; have af44 := blk_frozen Ba4.out 4; have ac45 : w4.cell? ⟨w.heap.size, 5, none⟩ = some (.slice A5 b.periods.length c5) := (blk_cell Ba4.out 5).trans rfl; have af45 := blk_frozen Ba4.out 5; have ac46 : w4.cell? ⟨w.heap.size, 6, none⟩ = some (.int .i64 b.closed) := (blk_cell Ba4.out 6).trans rfl; have af46 := blk_frozen Ba4.out 6; have ac47 : w4.cell? ⟨w.heap.size, 7, none⟩ = some (.int .i64 b.kept) := (blk_cell Ba4.out 7).trans rfl; have af47 := blk_frozen Ba4.out 7; have bc40 : w4.cell? ⟨w.heap.size + 1, 0, none⟩ = some (.slice none 0 0) := (blk_cell Bb4.out 0).trans rfl; have bf40 := blk_frozen Bb4.out 0; have bc41 : w4.cell? ⟨w.heap.size + 1, 1, none⟩ = some (.int .i64 0) := (blk_cell Bb4.out 1).trans rfl; have bf41 := blk_frozen Bb4.out 1; have bc42 : w4.cell? ⟨w.heap.size + 1, 2, none⟩ = some (.int .i64 0) := (blk_cell Bb4.out 2).trans rfl; have bf42 := blk_frozen Bb4.out 2; have bc43 : w4.cell? ⟨w.heap.size + 1, 3, none⟩ = some (.slice none 0 0) := (blk_cell Bb4.out 3).trans rfl; have bf43 := blk_frozen Bb4.out 3; have bc44 : w4.cell? ⟨w.heap.size + 1, 4, none⟩ = some (.int .i64 0) := (blk_cell Bb4.out 4).trans rfl; have bf44 := blk_frozen Bb4.out 4; have bc45 : w4.cell? ⟨w.heap.size + 1, 5, none⟩ = some (.slice none 0 0) := (blk_cell Bb4.out 5).trans rfl; have bf45 := blk_frozen Bb4.out 5; have bc46 : w4.cell? ⟨w.heap.size + 1, 6, none⟩ = some (.int .i64 0) := (blk_cell Bb4.out 6).trans rfl; have bf46 := blk_frozen Bb4.out 6; have bc47 : w4.cell? ⟨w.heap.size + 1, 7, none⟩ = some (.int .i64 0) := (blk_cell Bb4.out 7).trans rfl; have bf47 := blk_frozen Bb4.out 7) | ((with_reducible refine gate_dst (N := 17) rfl ?_); at_builtin; refine Kd.R_append_rows k84 (Rr := k84.K w4) _ rfl (.tmp 14) (.tmp 16) 30 84 (.agg #[(.int .i64 0), (.int .i64 0)]) 16 rfl Tryz.underlying30 info84 rfl (by decide) (by omega) v4 [] b.periods A5 b.periods.length c5 (fun _ => True) (fun _ => False) rfl rfl ho4 ?aR (fun _ _ h => flat84 h) (fun _ hk => hk.elim) (fun _ _ => trivial) hb4 ?aS ?aL ?_; (case aR => exact Kd.C_below HP.out (by repeat (with_reducible first | assumption | exact Below.refl _ _ | apply below_alloc | apply below_drew1 | apply pw_below_drewN | refine below_set ?_ (by omega) | refine below_step ?_ (by assumption)))); (case aS => exact hb4.size); (case aL => simp only [List.length_nil]; omega); intro v5 w5 ho5 hb5 hg_ hat_; clear hg_ hat_; rw [List.nil_append] at ho5; obtain ⟨V5, cv5, rfl⟩ := Kd.R_slice ho5; replace ho5 := Aside0.mk ho5; have Ba5 := Aside0.mk (show w5.heap[w.heap.size]? = some (.cells #[.slice V2 b.frame.chart.length cv2, .int .i64 b.frame.dims, .int .i64 b.frame.curs, .slice V3 b.ledg.entries.length cv3, .int .i64 b.ledg.head, .slice A5 b.periods.length c5, .int .i64 b.closed, .int .i64 b.kept] 32 (0, 0)) from blk_below (blk_put (blk_put Ba3.out 3 (.slice V3 b.ledg.entries.length cv3) rfl) 4 (.int .i64 b.ledg.head) rfl) hb5); have Bb5 := Aside0.mk (show w5.heap[w.heap.size + 1]? = some (.cells #[.slice none 0 0, .int .i64 0, .int .i64 0, .slice none 0 0, .int .i64 0, .slice none 0 0, .int .i64 0, .int .i64 0] 32 (0, 0)) from blk_below (blk_far (blk_far Bb3.out (by simp) _) (by simp) _) hb5); have ac50 : w5.cell? ⟨w.heap.size, 0, none⟩ = some (.slice V2 b.frame.chart.length cv2) := (blk_cell Ba5.out 0).trans rfl; have af50 := blk_frozen Ba5.out 0; have ac51 : w5.cell? ⟨w.heap.size, 1, none⟩ = some (.int .i64 b.frame.dims) := (blk_cell Ba5.out 1).trans rfl; have af51 := blk_frozen Ba5.out 1; have ac52 : w5.cell? ⟨w.heap.size, 2, none⟩ = some (.int .i64 b.frame.curs) := (blk_cell Ba5.out 2).trans rfl; have af52 := blk_frozen Ba5.out 2; have ac53 : w5.cell? ⟨w.heap.size, 3, none⟩ = some (.slice V3 b.ledg.entries.length cv3) := (blk_cell Ba5.out 3).trans rfl; have af53 := blk_frozen Ba5.out 3; have ac54 : w5.cell? ⟨w.heap.size, 4, none⟩ = some (.int .i64 b.ledg.head) := (blk_cell Ba5.out 4).trans rfl; have af54 := blk_frozen Ba5.out 4; have ac55 : w5.cell? ⟨w.heap.size, 5, none⟩ = some (.slice A5 b.periods.length c5) := (blk_cell Ba5.out 5).trans rfl; have af55 := blk_frozen Ba5.out 5; have ac56 : w5.cell? ⟨w.heap.size, 6, none⟩ = some (.int .i64 b.closed) := (blk_cell Ba5.out 6).trans rfl; have af56 := blk_frozen Ba5.out 6; have ac57 : w5.cell? ⟨w.heap.size, 7, none⟩ = some (.int .i64 b.kept) := (blk_cell Ba5.out 7).trans rfl; have af57 := blk_frozen Ba5.out 7; have bc50 : w5.cell? ⟨w.heap.size + 1, 0, none⟩ = some (.slice none 0 0) := (blk_cell Bb5.out 0).trans rfl; have bf50 := blk_frozen Bb5.out 0; have bc51 : w5.cell? ⟨w.heap.size + 1, 1, none⟩ = some (.int .i64 0) := (blk_cell Bb5.out 1).trans rfl; have bf51 := blk_frozen Bb5.out 1; have bc52 : w5.cell? ⟨w.heap.size + 1, 2, none⟩ = some (.int .i64 0) := (blk_cell Bb5.out 2).trans rfl; have bf52 := blk_frozen Bb5.out 2; have bc53 : w5.cell? ⟨w.heap.size + 1, 3, none⟩ = some (.slice none 0 0) := (blk_cell Bb5.out 3).trans rfl; have bf53 := blk_frozen Bb5.out 3; have bc54 : w5.cell? ⟨w.heap.size + 1, 4, none⟩ = some (.int .i64 0) := (blk_cell Bb5.out 4).trans rfl; have bf54 := blk_frozen Bb5.out 4; have bc55 : w5.cell? ⟨w.heap.size + 1, 5, none⟩ = some (.slice none 0 0) := (blk_cell Bb5.out 5).trans rfl; have bf55 := blk_frozen Bb5.out 5; have bc56 : w5.cell? ⟨w.heap.size + 1, 6, none⟩ = some (.int .i64 0) := (blk_cell Bb5.out 6).trans rfl; have bf56 := blk_frozen Bb5.out 6; have bc57 : w5.cell? ⟨w.heap.size + 1, 7, none⟩ = some (.int .i64 0) := (blk_cell Bb5.out 7).trans rfl; have bf57 := blk_frozen Bb5.out 7))
 have hz2 := hb2.size
 have hz3 := hb3.size
 have hz5 := hb5.size
 simp at hz2 hz3 hz5
 refine bodyPost_ret (results_cell_row rfl _ _ (w.heap.size + 1) 32 #[.slice V2 b.frame.chart.length cv2, .int .i64 b.frame.dims, .int .i64 b.frame.curs, .slice V3 b.ledg.entries.length cv3, .int .i64 b.ledg.head, .slice V5 b.periods.length cv5, .int .i64 b.closed, .int .i64 b.kept] (0, 0) _ rfl (blk_put (cs' := #[.slice V2 b.frame.chart.length cv2, .int .i64 b.frame.dims, .int .i64 b.frame.curs, .slice V3 b.ledg.entries.length cv3, .int .i64 b.ledg.head, .slice V5 b.periods.length cv5, .int .i64 b.closed, .int .i64 b.kept]) (blk_put (cs' := #[.slice V2 b.frame.chart.length cv2, .int .i64 b.frame.dims, .int .i64 b.frame.curs, .slice V3 b.ledg.entries.length cv3, .int .i64 b.ledg.head, .slice V5 b.periods.length cv5, .int .i64 b.closed, .int .i64 0]) (blk_put (cs' := #[.slice V2 b.frame.chart.length cv2, .int .i64 b.frame.dims, .int .i64 b.frame.curs, .slice V3 b.ledg.entries.length cv3, .int .i64 b.ledg.head, .slice V5 b.periods.length cv5, .int .i64 0, .int .i64 0]) (blk_put (cs' := #[.slice V2 b.frame.chart.length cv2, .int .i64 b.frame.dims, .int .i64 b.frame.curs, .slice V3 b.ledg.entries.length cv3, .int .i64 b.ledg.head, .slice none 0 0, .int .i64 0, .int .i64 0]) (blk_put (cs' := #[.slice V2 b.frame.chart.length cv2, .int .i64 b.frame.dims, .int .i64 b.frame.curs, .slice V3 b.ledg.entries.length cv3, .int .i64 0, .slice none 0 0, .int .i64 0, .int .i64 0]) (blk_put (cs' := #[.slice V2 b.frame.chart.length cv2, .int .i64 b.frame.dims, .int .i64 b.frame.curs, .slice none 0 0, .int .i64 0, .slice none 0 0, .int .i64 0, .int .i64 0]) (blk_put (cs' := #[.slice V2 b.frame.chart.length cv2, .int .i64 b.frame.dims, .int .i64 0, .slice none 0 0, .int .i64 0, .slice none 0 0, .int .i64 0, .int .i64 0]) (blk_put (cs' := #[.slice V2 b.frame.chart.length cv2, .int .i64 0, .int .i64 0, .slice none 0 0, .int .i64 0, .slice none 0 0, .int .i64 0, .int .i64 0]) (blk_far Bb5.out (by simp) _) 0 _ rfl) 1 _ rfl) 2 _ rfl) 3 _ rfl) 4 _ rfl) 5 _ rfl) 6 _ rfl) 7 _ rfl) Tryz.underlying32 rfl (by kernel_rfl)) rfl ⟨⟨V2, cv2, V3, cv3, V5, cv5⟩, rfl, ⟨?_, ?_, ?_⟩, ?_⟩
 ·refine Kd.R_lower (R_after2 ho2.out ?_) (by simp; omega)
  intro k hk hk2
  simp at hk
  repeat (with_reducible first | refine (heap_set1 _ _ _ _ hk (by omega)).trans ?_ | refine (hb5.block k (by simp; omega)).trans ?_ | refine (hb3.block k (by simp; omega)).trans ?_)
  with_reducible rfl
 ·refine Kd.R_lower (R_after2 ho3.out ?_) (by simp; omega)
  intro k hk hk2
  simp at hk
  have hk3 : w.heap.size + 2 ≤ k := by omega
  repeat (with_reducible first | refine (heap_set1 _ _ _ _ hk3 (by omega)).trans ?_ | refine (hb5.block k (by simp; omega)).trans ?_)
  with_reducible rfl
 ·refine Kd.R_lower (R_after2 ho5.out ?_) (by simp; omega)
  intro k hk hk2
  simp at hk
  have hk3 : w.heap.size + 2 ≤ k := by omega
  repeat (with_reducible first | refine (heap_set1 _ _ _ _ hk3 (by omega)).trans ?_)
  with_reducible rfl
 ·exact (by repeat (with_reducible first | exact Below.refl _ _ | apply below_alloc | refine below_set ?_ (by omega) | refine below_step ?_ hb5 | refine below_step ?_ hb3 | refine below_step ?_ hb2))
end Go.Proofs.YtheaeffhhbjpmaaGreatDoor
namespace Go.Proofs.YtheaeffhhbjpmaaGreatDoor
open Go.RowKit Go.Proofs.YtheaeffhhbjpmaaGreatDoorW.PrintWords Go.Proofs.YtheaeffhhbjpmaaGreatDoorW.PrintLast
set_option linter.unusedVariables false
set_option linter.unusedSimpArgs false
def inPer (p : S84) (d : Int) : Prop := p.f0 ≤ d ∧ d ≤ p.f1
/-- What the period's place of a day is: the first that holds the day, -1 where there is none or too many. -/
def PerAt (l : List S84) (d r : Int) : Prop := ((60 : Int) < l.length ∧ r = -1) ∨ ((l.length : Int) ≤ 60 ∧ ((0 ≤ r ∧ r < l.length ∧ inPer (pd l r) d ∧ ∀ j : Int, 0 ≤ j → j < r → ¬ inPer (pd l j) d) ∨ (r = -1 ∧ ∀ j : Int, 0 ≤ j → j < l.length → ¬ inPer (pd l j) d)))
theorem PerAt.uniq {l : List S84} {d r s : Int} (h : PerAt l d r) (h2 : PerAt l d s) : r = s := by
 rcases h with ⟨a, rfl⟩ | ⟨a, ⟨b, c, e, f⟩ | ⟨rfl, f⟩⟩ <;> rcases h2 with ⟨a', rfl⟩ | ⟨a', ⟨b', c', e', f'⟩ | ⟨rfl, f'⟩⟩ <;> first | rfl | omega | skip
 ·rcases Int.lt_trichotomy r s with q | q | q
  ·exact absurd e (f' r b q)
  ·exact q
  ·exact absurd e' (f s b' q)
 ·exact absurd e (f' r b c)
 ·exact absurd e' (f s b' c')
noncomputable def periodAt (l : List S84) (d : Int) : Int := @Classical.epsilon Int ⟨0⟩ (PerAt l d)
theorem periodAt_eq {l : List S84} {d r : Int} (h : PerAt l d r) : periodAt l d = r := PerAt.uniq (@Classical.epsilon_spec Int (PerAt l d) ⟨r, h⟩) h
set_option maxRecDepth 100000 in
theorem sPeriodAt_calls (A : Option Addr) (c : Nat) (l : List S84) (d r : Int) (h : periodAt l d = r) (w : World) (hr : Kd.C k84 w A l.length l) :
  Calls Tryz.prog 64 #[.slice A l.length c, .int .i64 d] w fun e w' => e = .returned (.int .i64 r) ∧ w = w' := by
 subst h
 have hu := Tryz.underlying84
 have HR := Aside0.mk hr
 have hm := C_len hr
 clear hr
 by_cases hl : (60 : Int) < l.length
 ·have HF := Aside0.mk (periodAt_eq (d := d) (.inl ⟨hl, rfl⟩))
  go_enter Tryz.func64, Tryz.ntmps64
  go_wp2
  go_ret
  exact ⟨ret_i HF.out.symm, rfl⟩
 replace hl : (l.length : Int) ≤ 60 := by omega
 go_enter Tryz.func64, Tryz.ntmps64
 go_wp2
 go_loopg [5] l.length (fun kq v5 w' => ∃ i : Int, v5 = .int .i64 i ∧ 0 ≤ i ∧ i ≤ l.length ∧ Aside0 (kq = l.length - i.toNat) ∧ Aside0 (∀ j : Int, 0 ≤ j → j < i → ¬ inPer (pd l j) d) ∧ Aside0 (w = w'))
 case atStart => exact ⟨0, rfl, by omega, by omega, ⟨rfl⟩, ⟨fun j h0 h1 => by omega⟩, ⟨rfl⟩⟩
 case round =>
  obtain ⟨i, rfl, h0, hi, HK, HE, ⟨rfl⟩⟩ := hrel
  by_cases hlt : i < l.length
  ·obtain ⟨ad, e0, x0, x1⟩ := at84 HR.out i h0 hlt
   cases e0
   have HIn := Aside0.mk (fun (hq : inPer (rd_T84 l i) d) => periodAt_eq (d := d) (r := i) (.inr ⟨hl, .inl ⟨h0, hlt, hq, HE.out⟩⟩))
   have HNx := Aside0.mk (fun (hq : ¬ inPer (rd_T84 l i) d) => show ∀ j : Int, 0 ≤ j → j < i + 1 → ¬ inPer (pd l j) d from fun j j0 j1 => by rcases Int.lt_or_eq_of_le (Int.lt_add_one_iff.1 j1) with h | rfl; exact HE.out j j0 h; exact hq)
   obtain ⟨y, hy⟩ : ∃ y, rd_T84 l i = y := ⟨_, rfl⟩
   rw [hy] at x0 x1 HIn HNx
   clear hy
   by_cases c1 : y.f0 ≤ d
   ·by_cases c2 : d ≤ y.f1
    ·have HF := Aside0.mk (HIn.out ⟨c1, c2⟩)
     go_wp2
     go_ret
     exact ⟨ret_i HF.out.symm, rfl⟩
    ·have HN := Aside0.mk (HNx.out (fun h => c2 h.2))
     go_wp2
     go_roundg (l.length - (i + 1).toNat)
     case measure => have := HK.out; omega
     case rel => exact ⟨i + 1, rfl, by omega, by omega, ⟨rfl⟩, HN, ⟨rfl⟩⟩
   ·have HN := Aside0.mk (HNx.out (fun h => c1 h.1))
    go_wp2
    go_roundg (l.length - (i + 1).toNat)
    case measure => have := HK.out; omega
    case rel => exact ⟨i + 1, rfl, by omega, by omega, ⟨rfl⟩, HN, ⟨rfl⟩⟩
  ·have HF := Aside0.mk (periodAt_eq (d := d) (r := -1) (.inr ⟨hl, .inr ⟨rfl, fun j j0 j1 => HE.out j j0 (by omega)⟩⟩))
   go_wp2
   go_ret
   exact ⟨ret_i HF.out.symm, rfl⟩
end Go.Proofs.YtheaeffhhbjpmaaGreatDoor

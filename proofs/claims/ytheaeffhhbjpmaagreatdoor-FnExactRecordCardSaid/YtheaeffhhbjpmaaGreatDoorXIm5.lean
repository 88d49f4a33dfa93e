/- Of the program: an entry's numbers are handed to a head that is being reckoned. -/
import Derived.Test.YtheaeffhhbjpmaaGreatDoorXIm4
namespace Go.Proofs.YtheaeffhhbjpmaaGreatDoor
open Go.RowKit Go.Proofs.YtheaeffhhbjpmaaGreatDoorW.PrintWords Go.Proofs.YtheaeffhhbjpmaaGreatDoorW.PrintLast
set_option linter.unusedVariables false
set_option linter.unusedSimpArgs false
theorem InH.steps {p : Int × Bool} (h : InH p) : ∀ l : List Int, InH (l.foldl stS p)
 | [] => h
 | x :: t => InH.steps (h.step x) t
theorem foldl_snoc1 {α β : Type} (f : β → α → β) (b : β) (l : List α) (x : α) : (l ++ [x]).foldl f b = f (l.foldl f b) x := by rw [List.foldl_append]; rfl
theorem grown_set (w : World) (g i : Nat) (v : Value) : w.grownBy (w.setCell ⟨g, i, none⟩ v) (some g) := ⟨rfl, rfl, rfl, by simp, fun k _ hk => Below.heap_setCell w ⟨g, i, none⟩ v k (by rintro rfl; exact hk rfl)⟩
theorem link_callsG (g : Nat) (p : Int × Bool) (hp : InH p) (x : Int) (w : World) (hb : w.heap[g]? = some (.cells #[.int .i64 p.1, .bool p.2] 110 (0, 0))) :
  Calls Tryz.prog 57 #[.pointer (some ⟨g, 0, none⟩), .int .i64 x] w fun e w' => e = .returned (.tuple #[]) ∧ w'.heap[g]? = some (.cells #[.int .i64 (stS p x).1, .bool (stS p x).2] 110 (0, 0)) ∧ w.grownBy w' (some g) := by
 by_cases hx : inR x
 ·refine (linkIn_calls g p.1 x p.2 hp.1 hp.2 hx w hb).mono ?_
  rintro e w' ⟨rfl, rfl⟩
  rw [stS_in hx]
  exact ⟨rfl, blk_put hb 0 _ rfl, grown_set _ _ _ _⟩
 ·refine (linkOut_calls g p.1 x p.2 hx w hb).mono ?_
  rintro e w' ⟨rfl, rfl⟩
  rw [stS_out hx]
  exact ⟨rfl, blk_put hb 1 _ rfl, grown_set _ _ _ _⟩
theorem grown_below {w0 w w' : World} {g : Nat} (h : Below w0.heap.size w0 w) (hg : w.grownBy w' (some g)) (h0 : w0.heap.size ≤ g) : Below w0.heap.size w0 w' := h.grown hg h.size (by intro k hk; cases hk; exact h0)
theorem numsE_fold (e : S41) (p : Int × Bool) : (numsE e).foldl stS p = (numsLs e.f3).foldl stS (stS ((numsT e.f2 e.f2.size).foldl stS (stS (stS (stS p e.f0) e.f1) (e.f2.size : Int))) (e.f3.length : Int)) := by
 unfold numsE
 simp [List.foldl_append]
set_option maxRecDepth 100000 in
set_option maxHeartbeats 2000000 in
theorem numbersOf_calls (e : S41) (AL : Option Addr) (cL : Nat) (ht : e.f2.size ≤ 40) (hn : e.f3.length ≤ 60) (g : Nat) (p : Int × Bool) (hp : InH p) (w0 w : World) (hl : Kd.C k88 w0 AL e.f3.length e.f3) (hw : Below w0.heap.size w0 w) (h0 : w0.heap.size ≤ g) (hg : w.heap[g]? = some (.cells #[.int .i64 (p).1, .bool (p).2] 110 (0, 0))) :
  Calls Tryz.prog 56 #[.agg #[.int .i64 e.f0, .int .i64 e.f1, .string e.f2, .slice AL e.f3.length cL], .func (Fn.func 57) #[.pointer (some ⟨g, 0, none⟩)] #[]] w fun e1 w' => e1 = .returned (.tuple #[]) ∧ w'.heap[g]? = some (.cells #[.int .i64 ((numsE e).foldl stS p).1, .bool ((numsE e).foldl stS p).2] 110 (0, 0)) ∧ w.grownBy w' (some g) := by
 have hu2 := Tryz.underlying41
 have hu3 := Tryz.underlying88
 have HLn := Aside0.mk hl
 have hm := C_len hl
 have HW := Aside0.mk hw
 have H0 := Aside0.mk h0
 have HP0 := Aside0.mk hp
 have HNE := Aside0.mk (show w.heap.size ≠ g by have := blk_lt hg; omega)
 have BG0 := Aside0.mk (blk_alloc hg (.cells #[.int .i64 e.f0, .int .i64 e.f1, .string e.f2, .slice AL e.f3.length cL] 41 (0, 0)))
 have BB0 := Aside0.mk (blk_new w (.cells #[.int .i64 e.f0, .int .i64 e.f1, .string e.f2, .slice AL e.f3.length cL] 41 (0, 0)))
 clear hl hw h0 hp hg
 go_enter Tryz.func56, Tryz.ntmps56
 go_wp2_with (first | (go_at_call 57; (with_reducible refine (link_callsG g _ HP0.out e.f0 _ BG0.out).mono ?_); rintro e_ w1 ⟨rfl, hg1, hG1⟩; have HG1 := Aside0.mk (show w.grownBy w1 (some g) from (World.grownBy_alloc w _ _).trans hG1); have BB1 := Aside0.mk (blk_grown BB0.out hG1 (by simpa using HNE.out)); have BG1 := Aside0.mk hg1; have HZ1 := Aside0.mk hG1.size; clear hg1 hG1; have q10 : w1.cell? ⟨w.heap.size, 0, none⟩ = some (.int .i64 e.f0) := (blk_cell BB1.out 0).trans rfl; have f10 := blk_frozen BB1.out 0; have q11 : w1.cell? ⟨w.heap.size, 1, none⟩ = some (.int .i64 e.f1) := (blk_cell BB1.out 1).trans rfl; have f11 := blk_frozen BB1.out 1; have q12 : w1.cell? ⟨w.heap.size, 2, none⟩ = some (.string e.f2) := (blk_cell BB1.out 2).trans rfl; have f12 := blk_frozen BB1.out 2; have q13 : w1.cell? ⟨w.heap.size, 3, none⟩ = some (.slice AL e.f3.length cL) := (blk_cell BB1.out 3).trans rfl; have f13 := blk_frozen BB1.out 3) | (go_at_call 57; (with_reducible refine (link_callsG g _ (HP0.out.step _) e.f1 _ BG1.out).mono ?_); rintro e_ w2 ⟨rfl, hg2, hG2⟩; have HG2 := Aside0.mk (show w.grownBy w2 (some g) from HG1.out.trans hG2); have BB2 := Aside0.mk (blk_grown BB1.out hG2 (by simpa using HNE.out)); have BG2 := Aside0.mk hg2; have HZ2 := Aside0.mk hG2.size; clear hg2 hG2; have q20 : w2.cell? ⟨w.heap.size, 0, none⟩ = some (.int .i64 e.f0) := (blk_cell BB2.out 0).trans rfl; have f20 := blk_frozen BB2.out 0; have q21 : w2.cell? ⟨w.heap.size, 1, none⟩ = some (.int .i64 e.f1) := (blk_cell BB2.out 1).trans rfl; have f21 := blk_frozen BB2.out 1; have q22 : w2.cell? ⟨w.heap.size, 2, none⟩ = some (.string e.f2) := (blk_cell BB2.out 2).trans rfl; have f22 := blk_frozen BB2.out 2; have q23 : w2.cell? ⟨w.heap.size, 3, none⟩ = some (.slice AL e.f3.length cL) := (blk_cell BB2.out 3).trans rfl; have f23 := blk_frozen BB2.out 3) | (go_at_call 57; (with_reducible refine (link_callsG g _ ((HP0.out.step _).step _) (e.f2.size : Int) _ BG2.out).mono ?_); rintro e_ w3 ⟨rfl, hg3, hG3⟩; have HG3 := Aside0.mk (show w.grownBy w3 (some g) from HG2.out.trans hG3); have BB3 := Aside0.mk (blk_grown BB2.out hG3 (by simpa using HNE.out)); have BG3 := Aside0.mk hg3; have HZ3 := Aside0.mk hG3.size; clear hg3 hG3; have q30 : w3.cell? ⟨w.heap.size, 0, none⟩ = some (.int .i64 e.f0) := (blk_cell BB3.out 0).trans rfl; have f30 := blk_frozen BB3.out 0; have q31 : w3.cell? ⟨w.heap.size, 1, none⟩ = some (.int .i64 e.f1) := (blk_cell BB3.out 1).trans rfl; have f31 := blk_frozen BB3.out 1; have q32 : w3.cell? ⟨w.heap.size, 2, none⟩ = some (.string e.f2) := (blk_cell BB3.out 2).trans rfl; have f32 := blk_frozen BB3.out 2; have q33 : w3.cell? ⟨w.heap.size, 3, none⟩ = some (.slice AL e.f3.length cL) := (blk_cell BB3.out 3).trans rfl; have f33 := blk_frozen BB3.out 3))
 obtain ⟨p3, hp3⟩ : ∃ p3, p3 = stS (stS (stS p e.f0) e.f1) (e.f2.size : Int) := ⟨_, rfl⟩
 have HP3 := Aside0.mk (show InH p3 by rw [hp3]; exact ((HP0.out.step _).step _).step _)
 have BG3' := BG3.out
 rw [← hp3] at BG3'
 replace BG3 := Aside0.mk BG3'
 clear BG3'
 replace hp3 := Aside0.mk hp3
 go_loopg [4] e.f2.size (fun kq v4 w' => ∃ i : Nat, v4 = .int .i64 i ∧ i ≤ e.f2.size ∧ Aside0 (kq = e.f2.size - i) ∧ Aside0 (w'.heap[g]? = some (.cells #[.int .i64 ((numsT e.f2 i).foldl stS p3).1, .bool ((numsT e.f2 i).foldl stS p3).2] 110 (0, 0))) ∧ Aside0 (w'.heap[w.heap.size]? = some (.cells #[.int .i64 e.f0, .int .i64 e.f1, .string e.f2, .slice AL e.f3.length cL] 41 (0, 0))) ∧ Aside0 (w.grownBy w' (some g)))
 case atStart => exact ⟨0, rfl, by omega, ⟨rfl⟩, ⟨by simpa [numsT] using BG3.out⟩, BB3, HG3⟩
 case round =>
  clear BG3 BB3 HG3 BG2 BB2 HG2 BG1 BB1 HG1 BG0 BB0 HZ1 HZ2 HZ3 q10 q11 q12 q13 q20 q21 q22 q23 q30 q31 q32 q33 f10 f11 f12 f13 f20 f21 f22 f23 f30 f31 f32 f33
  obtain ⟨i, rfl, hi, HK, BG4, BB4, HG4⟩ := hrel
  have q40 : wr.cell? ⟨w.heap.size, 0, none⟩ = some (.int .i64 e.f0) := (blk_cell BB4.out 0).trans rfl
  have f40 := blk_frozen BB4.out 0
  have q41 : wr.cell? ⟨w.heap.size, 1, none⟩ = some (.int .i64 e.f1) := (blk_cell BB4.out 1).trans rfl
  have f41 := blk_frozen BB4.out 1
  have q42 : wr.cell? ⟨w.heap.size, 2, none⟩ = some (.string e.f2) := (blk_cell BB4.out 2).trans rfl
  have f42 := blk_frozen BB4.out 2
  have q43 : wr.cell? ⟨w.heap.size, 3, none⟩ = some (.slice AL e.f3.length cL) := (blk_cell BB4.out 3).trans rfl
  have f43 := blk_frozen BB4.out 3
  by_cases hlt : i < e.f2.size
  ·have hx := bt_at e.f2 i hlt
   have HX := Aside0.mk (show wrap64 ((e.f2[i].toNat : Nat) : Int) = bt e.f2 i by have := UInt8.toNat_lt (e.f2[i]); rw [bt_at _ _ hlt]; unfold wrap64; omega)
   clear hx
   go_wp2_with (go_at_call 57; (with_reducible refine (link_callsG g _ (HP3.out.steps _) (wrap64 ((e.f2[i].toNat : Nat) : Int)) _ BG4.out).mono ?_); rintro e_ w5 ⟨rfl, hg5, hG5⟩; have HG5 := Aside0.mk (show w.grownBy w5 (some g) from HG4.out.trans hG5); have BB5 := Aside0.mk (blk_grown BB4.out hG5 (by simpa using HNE.out)); have BG5 := Aside0.mk hg5; have HZ5 := Aside0.mk hG5.size; clear hg5 hG5; skip)
   go_roundg (e.f2.size - (i + 1))
   case measure => have := HK.out; omega
   case rel => exact ⟨i + 1, by go_num, by omega, ⟨rfl⟩, ⟨by rw [numsT_step, foldl_snoc1, ← HX.out]; exact BG5.out⟩, BB5, HG5⟩
  ·have hie : i = e.f2.size := by omega
   subst hie
   clear hi hlt
   obtain ⟨p4, hp4⟩ : ∃ p4, p4 = (numsT e.f2 e.f2.size).foldl stS p3 := ⟨_, rfl⟩
   have HP4 := Aside0.mk (show InH p4 by rw [hp4]; exact HP3.out.steps _)
   have BG4' := BG4.out
   rw [← hp4] at BG4'
   replace BG4 := Aside0.mk BG4'
   clear BG4'
   replace hp4 := Aside0.mk hp4
   go_wp2_with (go_at_call 57; (with_reducible refine (link_callsG g _ HP4.out (e.f3.length : Int) _ BG4.out).mono ?_); rintro e_ w5 ⟨rfl, hg5, hG5⟩; have HG5 := Aside0.mk (show w.grownBy w5 (some g) from HG4.out.trans hG5); have BB5 := Aside0.mk (blk_grown BB4.out hG5 (by simpa using HNE.out)); have BG5 := Aside0.mk hg5; have HZ5 := Aside0.mk hG5.size; clear hg5 hG5; have q50 : w5.cell? ⟨w.heap.size, 0, none⟩ = some (.int .i64 e.f0) := (blk_cell BB5.out 0).trans rfl; have f50 := blk_frozen BB5.out 0; have q51 : w5.cell? ⟨w.heap.size, 1, none⟩ = some (.int .i64 e.f1) := (blk_cell BB5.out 1).trans rfl; have f51 := blk_frozen BB5.out 1; have q52 : w5.cell? ⟨w.heap.size, 2, none⟩ = some (.string e.f2) := (blk_cell BB5.out 2).trans rfl; have f52 := blk_frozen BB5.out 2; have q53 : w5.cell? ⟨w.heap.size, 3, none⟩ = some (.slice AL e.f3.length cL) := (blk_cell BB5.out 3).trans rfl; have f53 := blk_frozen BB5.out 3)
   obtain ⟨p5, hp5⟩ : ∃ p5, p5 = stS p4 (e.f3.length : Int) := ⟨_, rfl⟩
   have HP5 := Aside0.mk (show InH p5 by rw [hp5]; exact HP4.out.step _)
   have BG5' := BG5.out
   rw [← hp5] at BG5'
   replace BG5 := Aside0.mk BG5'
   clear BG5'
   have HFIN := Aside0.mk (show (numsLs e.f3).foldl stS p5 = (numsE e).foldl stS p by rw [numsE_fold, hp5, hp4.out, hp3.out])
   clear BG4 BB4 HG4 q40 q41 q42 q43 f40 f41 f42 f43 hp5 hp4 hp3
   go_loopg [42] e.f3.length (fun kq v42 w' => ∃ i : Int, v42 = .int .i64 i ∧ 0 ≤ i ∧ i ≤ e.f3.length ∧ Aside0 (kq = e.f3.length - i.toNat) ∧ Aside0 (w'.heap[g]? = some (.cells #[.int .i64 ((numsLs (e.f3.take i.toNat)).foldl stS p5).1, .bool ((numsLs (e.f3.take i.toNat)).foldl stS p5).2] 110 (0, 0))) ∧ Aside0 (w.grownBy w' (some g)))
   case atStart => exact ⟨0, rfl, by omega, by omega, ⟨rfl⟩, ⟨by simpa [numsLs] using BG5.out⟩, HG5⟩
   case round =>
    clear BG5 BB5 HG5 HK HZ5 q50 q51 q52 q53 f50 f51 f52 f53
    obtain ⟨i, rfl, i0, hi, HK, BG6, HG6⟩ := hrel
    by_cases hlt : i < e.f3.length
    ·obtain ⟨ad, e0, x0, x1, x2, x3, x4⟩ := at88 (Kd.C_below HLn.out (grown_below HW.out HG6.out H0.out)) i i0 hlt
     cases e0
     obtain ⟨x, hx⟩ : ∃ x, rd_T88 e.f3 i = x := ⟨_, rfl⟩
     rw [hx] at x0 x1 x2 x3 x4
     replace hx := Aside0.mk hx
     obtain ⟨p6, hp6⟩ : ∃ p6, p6 = (numsLs (e.f3.take i.toNat)).foldl stS p5 := ⟨_, rfl⟩
     have HP6 := Aside0.mk (show InH p6 by rw [hp6]; exact HP5.out.steps _)
     have BG6' := BG6.out
     rw [← hp6] at BG6'
     have BL6 := Aside0.mk (blk_new wr (.cells #[.int .i64 x.f0, .int .i64 x.f1, .int .i64 x.f2, .int .i64 x.f3, .int .i64 x.f4] 88 (0, 0)))
     have HNL := Aside0.mk (show wr.heap.size ≠ g by have := blk_lt BG6'; omega)
     replace BG6 := Aside0.mk (blk_alloc BG6' (.cells #[.int .i64 x.f0, .int .i64 x.f1, .int .i64 x.f2, .int .i64 x.f3, .int .i64 x.f4] 88 (0, 0)))
     clear BG6'
     replace HG6 := Aside0.mk (HG6.out.trans (World.grownBy_alloc wr (.cells #[.int .i64 x.f0, .int .i64 x.f1, .int .i64 x.f2, .int .i64 x.f3, .int .i64 x.f4] 88 (0, 0)) _))
     replace hp6 := Aside0.mk hp6
     go_wp2_with (first | (go_at_call 57; (with_reducible refine (link_callsG g _ HP6.out x.f0 _ BG6.out).mono ?_); rintro e_ w7 ⟨rfl, hg7, hG7⟩; have HG7 := Aside0.mk (show w.grownBy w7 (some g) from HG6.out.trans hG7); have BL7 := Aside0.mk (blk_grown BL6.out hG7 (by simpa using HNL.out)); have BG7 := Aside0.mk hg7; clear hg7 hG7; have q70 : w7.cell? ⟨wr.heap.size, 0, none⟩ = some (.int .i64 x.f0) := (blk_cell BL7.out 0).trans rfl; have f70 := blk_frozen BL7.out 0; have q71 : w7.cell? ⟨wr.heap.size, 1, none⟩ = some (.int .i64 x.f1) := (blk_cell BL7.out 1).trans rfl; have f71 := blk_frozen BL7.out 1; have q72 : w7.cell? ⟨wr.heap.size, 2, none⟩ = some (.int .i64 x.f2) := (blk_cell BL7.out 2).trans rfl; have f72 := blk_frozen BL7.out 2; have q73 : w7.cell? ⟨wr.heap.size, 3, none⟩ = some (.int .i64 x.f3) := (blk_cell BL7.out 3).trans rfl; have f73 := blk_frozen BL7.out 3; have q74 : w7.cell? ⟨wr.heap.size, 4, none⟩ = some (.int .i64 x.f4) := (blk_cell BL7.out 4).trans rfl; have f74 := blk_frozen BL7.out 4) | (go_at_call 57; (with_reducible refine (link_callsG g _ (HP6.out.step _) x.f1 _ BG7.out).mono ?_); rintro e_ w8 ⟨rfl, hg8, hG8⟩; have HG8 := Aside0.mk (show w.grownBy w8 (some g) from HG7.out.trans hG8); have BL8 := Aside0.mk (blk_grown BL7.out hG8 (by simpa using HNL.out)); have BG8 := Aside0.mk hg8; clear hg8 hG8; have q80 : w8.cell? ⟨wr.heap.size, 0, none⟩ = some (.int .i64 x.f0) := (blk_cell BL8.out 0).trans rfl; have f80 := blk_frozen BL8.out 0; have q81 : w8.cell? ⟨wr.heap.size, 1, none⟩ = some (.int .i64 x.f1) := (blk_cell BL8.out 1).trans rfl; have f81 := blk_frozen BL8.out 1; have q82 : w8.cell? ⟨wr.heap.size, 2, none⟩ = some (.int .i64 x.f2) := (blk_cell BL8.out 2).trans rfl; have f82 := blk_frozen BL8.out 2; have q83 : w8.cell? ⟨wr.heap.size, 3, none⟩ = some (.int .i64 x.f3) := (blk_cell BL8.out 3).trans rfl; have f83 := blk_frozen BL8.out 3; have q84 : w8.cell? ⟨wr.heap.size, 4, none⟩ = some (.int .i64 x.f4) := (blk_cell BL8.out 4).trans rfl; have f84 := blk_frozen BL8.out 4) | (go_at_call 57; (with_reducible refine (link_callsG g _ ((HP6.out.step _).step _) x.f2 _ BG8.out).mono ?_); rintro e_ w9 ⟨rfl, hg9, hG9⟩; have HG9 := Aside0.mk (show w.grownBy w9 (some g) from HG8.out.trans hG9); have BL9 := Aside0.mk (blk_grown BL8.out hG9 (by simpa using HNL.out)); have BG9 := Aside0.mk hg9; clear hg9 hG9; have q90 : w9.cell? ⟨wr.heap.size, 0, none⟩ = some (.int .i64 x.f0) := (blk_cell BL9.out 0).trans rfl; have f90 := blk_frozen BL9.out 0; have q91 : w9.cell? ⟨wr.heap.size, 1, none⟩ = some (.int .i64 x.f1) := (blk_cell BL9.out 1).trans rfl; have f91 := blk_frozen BL9.out 1; have q92 : w9.cell? ⟨wr.heap.size, 2, none⟩ = some (.int .i64 x.f2) := (blk_cell BL9.out 2).trans rfl; have f92 := blk_frozen BL9.out 2; have q93 : w9.cell? ⟨wr.heap.size, 3, none⟩ = some (.int .i64 x.f3) := (blk_cell BL9.out 3).trans rfl; have f93 := blk_frozen BL9.out 3; have q94 : w9.cell? ⟨wr.heap.size, 4, none⟩ = some (.int .i64 x.f4) := (blk_cell BL9.out 4).trans rfl; have f94 := blk_frozen BL9.out 4) | (go_at_call 57; (with_reducible refine (link_callsG g _ (((HP6.out.step _).step _).step _) x.f3 _ BG9.out).mono ?_); rintro e_ w10 ⟨rfl, hg10, hG10⟩; have HG10 := Aside0.mk (show w.grownBy w10 (some g) from HG9.out.trans hG10); have BL10 := Aside0.mk (blk_grown BL9.out hG10 (by simpa using HNL.out)); have BG10 := Aside0.mk hg10; clear hg10 hG10; have q100 : w10.cell? ⟨wr.heap.size, 0, none⟩ = some (.int .i64 x.f0) := (blk_cell BL10.out 0).trans rfl; have f100 := blk_frozen BL10.out 0; have q101 : w10.cell? ⟨wr.heap.size, 1, none⟩ = some (.int .i64 x.f1) := (blk_cell BL10.out 1).trans rfl; have f101 := blk_frozen BL10.out 1; have q102 : w10.cell? ⟨wr.heap.size, 2, none⟩ = some (.int .i64 x.f2) := (blk_cell BL10.out 2).trans rfl; have f102 := blk_frozen BL10.out 2; have q103 : w10.cell? ⟨wr.heap.size, 3, none⟩ = some (.int .i64 x.f3) := (blk_cell BL10.out 3).trans rfl; have f103 := blk_frozen BL10.out 3; have q104 : w10.cell? ⟨wr.heap.size, 4, none⟩ = some (.int .i64 x.f4) := (blk_cell BL10.out 4).trans rfl; have f104 := blk_frozen BL10.out 4) | (go_at_call 57; (with_reducible refine (link_callsG g _ ((((HP6.out.step _).step _).step _).step _) x.f4 _ BG10.out).mono ?_); rintro e_ w11 ⟨rfl, hg11, hG11⟩; have HG11 := Aside0.mk (show w.grownBy w11 (some g) from HG10.out.trans hG11); have BL11 := Aside0.mk (blk_grown BL10.out hG11 (by simpa using HNL.out)); have BG11 := Aside0.mk hg11; clear hg11 hG11; have q110 : w11.cell? ⟨wr.heap.size, 0, none⟩ = some (.int .i64 x.f0) := (blk_cell BL11.out 0).trans rfl; have f110 := blk_frozen BL11.out 0; have q111 : w11.cell? ⟨wr.heap.size, 1, none⟩ = some (.int .i64 x.f1) := (blk_cell BL11.out 1).trans rfl; have f111 := blk_frozen BL11.out 1; have q112 : w11.cell? ⟨wr.heap.size, 2, none⟩ = some (.int .i64 x.f2) := (blk_cell BL11.out 2).trans rfl; have f112 := blk_frozen BL11.out 2; have q113 : w11.cell? ⟨wr.heap.size, 3, none⟩ = some (.int .i64 x.f3) := (blk_cell BL11.out 3).trans rfl; have f113 := blk_frozen BL11.out 3; have q114 : w11.cell? ⟨wr.heap.size, 4, none⟩ = some (.int .i64 x.f4) := (blk_cell BL11.out 4).trans rfl; have f114 := blk_frozen BL11.out 4))
     go_roundg (e.f3.length - (i + 1).toNat)
     case measure => have := HK.out; omega
     case rel => exact ⟨i + 1, by go_num, by omega, by omega, ⟨rfl⟩, ⟨by rw [numsLs_step _ i0 hlt, show ln e.f3 i = x from hx.out, List.foldl_append, ← hp6.out]; exact BG11.out⟩, HG11⟩
    ·have hie : i.toNat = e.f3.length := by omega
     have BG7 := BG6.out
     rw [hie, List.take_length, HFIN.out] at BG7
     replace BG7 := Aside0.mk BG7
     clear BG6
     go_wp2
     refine bodyPost_end (v := .tuple #[]) (by simp [results, Tryz.f56, Tryz.results56, go_sem]) rfl ⟨rfl, BG7.out, HG6.out⟩
end Go.Proofs.YtheaeffhhbjpmaaGreatDoor

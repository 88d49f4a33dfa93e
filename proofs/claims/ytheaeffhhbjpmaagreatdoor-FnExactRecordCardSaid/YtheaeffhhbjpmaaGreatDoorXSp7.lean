/- Of the reference: whether a year's periods are right, whether a ledger is, whether books are. -/
import Derived.Test.YtheaeffhhbjpmaaGreatDoorXB
import Derived.BigQuiet
namespace Go.Proofs.YtheaeffhhbjpmaaGreatDoor
open Go.RowKit Go.Proofs.YtheaeffhhbjpmaaGreatDoorW.PrintWords Go.Proofs.YtheaeffhhbjpmaaGreatDoorW.PrintLast
set_option linter.unusedVariables false
set_option linter.unusedSimpArgs false
abbrev pd (l : List S84) (i : Int) : S84 := rd_T84 l i
structure PerOk (l : List S84) (i : Int) : Prop where
 a : 0 ≤ (pd l i).f0 ∧ (pd l i).f0 ≤ 40000
 b : 0 ≤ (pd l i).f1 ∧ (pd l i).f1 ≤ 40000
 c : (pd l i).f0 ≤ (pd l i).f1
 d : 0 < i → (pd l i).f0 = (pd l (i - 1)).f1 + 1
def YearP (l : List S84) : Prop := (1 ≤ (l.length : Int) ∧ (l.length : Int) ≤ 60) ∧ ∀ i : Int, 0 ≤ i → i < l.length → PerOk l i
set_option maxRecDepth 100000 in
set_option maxHeartbeats 4000000 in
theorem sYear_calls (A : Option Addr) (c : Nat) (l : List S84) (r : Bool) (h : bP (YearP l) = r) (w : World) (hr : Kd.C k84 w A l.length l) :
  Calls Tryz.prog 33 #[.slice A l.length c] w fun e w' => e = .returned (.bool r) ∧ Below w.heap.size w w' := by
 subst h
 have hu := Tryz.underlying84
 have HR := Aside0.mk hr
 have hm := C_len hr
 clear hr
 go_enter Tryz.func33, Tryz.ntmps33
 go_wp2
 go_loopg [3] l.length (fun kq v3 w' => ∃ i : Int, v3 = .int .i64 i ∧ 0 ≤ i ∧ i ≤ l.length ∧ Aside0 (kq = l.length - i.toNat) ∧ Aside0 (∀ j : Int, 0 ≤ j → j < i → PerOk l j) ∧ Aside0 (Below w.heap.size w w'))
 case atStart => exact ⟨0, rfl, by omega, by omega, ⟨rfl⟩, ⟨fun j h0 h1 => by omega⟩, ⟨Below.refl _ _⟩⟩
 case round =>
  obtain ⟨i, rfl, h0, hi, HK, HE, HB⟩ := hrel
  by_cases hlt : i < l.length
  ·obtain ⟨ad, e0, x0, x1⟩ := at84 (Kd.C_below HR.out HB.out) i h0 hlt
   cases e0
   obtain ⟨y, hy⟩ : ∃ y, rd_T84 l i = y := ⟨_, rfl⟩
   rw [hy] at x0 x1
   by_cases c1 : 0 ≤ y.f0 ∧ y.f0 ≤ 40000
   ·by_cases c2 : 0 ≤ y.f1 ∧ y.f1 ≤ 40000
    ·by_cases c3 : y.f1 < y.f0
     ·have C1 := Aside0.mk (bP_t c1)
      have C2 := Aside0.mk (bP_t c2)
      have d3 : decide (y.f1 < y.f0) = true := by simp [c3]
      have HF := Aside0.mk (bP_f (show ¬ YearP l from fun h => by have q := h.2 i h0 hlt; have := q.c; unfold pd at this; rw [hy] at this; omega))
      go_wp2
      go_quiet ((first | (go_at_call 42; (with_reducible refine Calls.quiet_of_same ((l2Day_calls y.f0 _ C1.out _).mono (fun _ _ h => ⟨h.1, h.2.symm⟩)))) | (go_at_call 42; (with_reducible refine Calls.quiet_of_same ((l2Day_calls y.f1 _ C2.out _).mono (fun _ _ h => ⟨h.1, h.2.symm⟩))))))
      go_wp2
      go_ret
      exact ⟨ret_b HF.out.symm, pw_below_drewN HB.out _⟩

     ·have C1 := Aside0.mk (bP_t c1)
      have C2 := Aside0.mk (bP_t c2)
      have d3 : decide (y.f1 < y.f0) = false := by simp; omega
      by_cases c4 : 0 < i
      ·have d4 : decide (0 < i) = true := by simp [c4]
       obtain ⟨k, hk⟩ : ∃ k, i - 1 = k := ⟨_, rfl⟩
       have g0 : 0 ≤ k := by omega
       have g1 : k < l.length := by omega
       have s1 : IntKind.i64.wrap (i - 1) = k := by rw [IntWalk.i64_in _ (by omega)]; exact hk
       obtain ⟨ad2, e2, y0, y1⟩ := at84 (Kd.C_below HR.out HB.out) k g0 g1
       cases e2
       obtain ⟨z, hz⟩ : ∃ z, rd_T84 l k = z := ⟨_, rfl⟩
       rw [hz] at y0 y1
       have hzb := (HE.out k (by omega) (by omega)).b
       unfold pd at hzb
       rw [hz] at hzb
       obtain ⟨z0, z1⟩ := hzb
       by_cases c5 : y.f0 = z.f1 + 1
       ·have d5 : (y.f0 != z.f1 + 1) = false := by simp [c5]
        have HA := Aside0.mk (show PerOk l i from ⟨by unfold pd; rw [hy]; exact c1, by unfold pd; rw [hy]; exact c2, by unfold pd; rw [hy]; omega, fun _ => by unfold pd; rw [hk, hy, hz]; exact c5⟩)
        replace c5 := Aside0.mk c5
        replace hk := Aside0.mk hk
        replace hy := Aside0.mk hy
        replace hz := Aside0.mk hz
        have s2 : IntKind.i64.wrap (z.f1 + 1) = z.f1 + 1 := IntWalk.i64_in _ (by omega)
        go_wp2
        go_quiet ((first | (go_at_call 42; (with_reducible refine Calls.quiet_of_same ((l2Day_calls y.f0 _ C1.out _).mono (fun _ _ h => ⟨h.1, h.2.symm⟩)))) | (go_at_call 42; (with_reducible refine Calls.quiet_of_same ((l2Day_calls y.f1 _ C2.out _).mono (fun _ _ h => ⟨h.1, h.2.symm⟩))))))
        go_wp2
        go_roundg (l.length - (i + 1).toNat)
        case measure => have := HK.out; omega
        case rel => exact ⟨i + 1, by go_num, by omega, by omega, ⟨rfl⟩, ⟨fun j h0 h1 => by rcases Int.lt_or_eq_of_le (Int.lt_add_one_iff.1 h1) with h | rfl; exact HE.out j h0 h; exact HA.out⟩, ⟨pw_below_drewN HB.out _⟩⟩

       ·have d5 : (y.f0 != z.f1 + 1) = true := by simp [c5]
        have s2 : IntKind.i64.wrap (z.f1 + 1) = z.f1 + 1 := IntWalk.i64_in _ (by omega)
        have HF := Aside0.mk (bP_f (show ¬ YearP l from fun h => by have q := h.2 i h0 hlt; have := q.d c4; unfold pd at this; rw [hk, hy, hz] at this; exact c5 this))
        go_wp2
        go_quiet ((first | (go_at_call 42; (with_reducible refine Calls.quiet_of_same ((l2Day_calls y.f0 _ C1.out _).mono (fun _ _ h => ⟨h.1, h.2.symm⟩)))) | (go_at_call 42; (with_reducible refine Calls.quiet_of_same ((l2Day_calls y.f1 _ C2.out _).mono (fun _ _ h => ⟨h.1, h.2.symm⟩))))))
        go_wp2
        go_ret
        exact ⟨ret_b HF.out.symm, pw_below_drewN HB.out _⟩

      ·have d4 : decide (0 < i) = false := by simp; omega
       have HA := Aside0.mk (show PerOk l i from ⟨by unfold pd; rw [hy]; exact c1, by unfold pd; rw [hy]; exact c2, by unfold pd; rw [hy]; omega, fun h => by omega⟩)
       go_wp2
       go_quiet ((first | (go_at_call 42; (with_reducible refine Calls.quiet_of_same ((l2Day_calls y.f0 _ C1.out _).mono (fun _ _ h => ⟨h.1, h.2.symm⟩)))) | (go_at_call 42; (with_reducible refine Calls.quiet_of_same ((l2Day_calls y.f1 _ C2.out _).mono (fun _ _ h => ⟨h.1, h.2.symm⟩))))))
       go_wp2
       go_roundg (l.length - (i + 1).toNat)
       case measure => have := HK.out; omega
       case rel => exact ⟨i + 1, by go_num, by omega, by omega, ⟨rfl⟩, ⟨fun j h0 h1 => by rcases Int.lt_or_eq_of_le (Int.lt_add_one_iff.1 h1) with h | rfl; exact HE.out j h0 h; exact HA.out⟩, ⟨pw_below_drewN HB.out _⟩⟩

    ·have C1 := Aside0.mk (bP_t c1)
     have C2 := Aside0.mk (bP_f c2)
     have HF := Aside0.mk (bP_f (show ¬ YearP l from fun h => by have q := h.2 i h0 hlt; have := q.b; subst hy; exact c2 this))
     go_wp2
     go_quiet ((first | (go_at_call 42; (with_reducible refine Calls.quiet_of_same ((l2Day_calls y.f0 _ C1.out _).mono (fun _ _ h => ⟨h.1, h.2.symm⟩)))) | (go_at_call 42; (with_reducible refine Calls.quiet_of_same ((l2Day_calls y.f1 _ C2.out _).mono (fun _ _ h => ⟨h.1, h.2.symm⟩))))))
     go_wp2
     go_ret
     exact ⟨ret_b HF.out.symm, pw_below_drewN HB.out _⟩

   ·have C1 := Aside0.mk (bP_f c1)
    have HF := Aside0.mk (bP_f (show ¬ YearP l from fun h => by have q := h.2 i h0 hlt; have := q.a; subst hy; exact c1 this))
    go_wp2
    go_quiet ((first | (go_at_call 42; (with_reducible refine Calls.quiet_of_same ((l2Day_calls y.f0 _ C1.out _).mono (fun _ _ h => ⟨h.1, h.2.symm⟩)))) | (go_at_call 42; (with_reducible refine Calls.quiet_of_same ((l2Day_calls y.f1 _ C2.out _).mono (fun _ _ h => ⟨h.1, h.2.symm⟩))))))
    go_wp2
    go_ret
    exact ⟨ret_b HF.out.symm, pw_below_drewN HB.out _⟩

  ·have HG := Aside0.mk (show bP (1 ≤ (l.length : Int) ∧ (l.length : Int) ≤ 60) = bP (YearP l) from bP_congr ⟨fun h => ⟨h, fun j j0 j1 => HE.out j j0 (by omega)⟩, fun h => h.1⟩)
   go_wp2_with (go_at_call 34; (with_reducible refine (l1In_calls (l.length : Int) 1 60 _ HG.out _).mono ?_); rintro e w' ⟨rfl, rfl⟩)
   go_ret
   exact ⟨rfl, HB.out⟩
def LedgerP (f : FrameD) (g : LedgD) : Prop := g.entries.length ≤ 1000 ∧ FrameP f ∧ g.head = headF g.entries ∧ ∀ i : Int, 0 ≤ i → i < g.entries.length → EntryP f (en g.entries i)
theorem cell_lt {w : World} {b o : Nat} {v : Value} (h : w.cell? ⟨b, o, none⟩ = some v) : b < w.heap.size := by
 by_cases hb : b < w.heap.size
 ·exact hb
 ·exfalso
  unfold World.cell? at h
  simp [show w.heap[b]? = none from Array.getElem?_eq_none (by omega)] at h
abbrev SzE (es : List S41) : Prop := ∀ i : Int, 0 ≤ i → i < es.length → (en es i).f2.size ≤ 9223372036854775807
set_option maxRecDepth 100000 in
set_option maxHeartbeats 4000000 in
theorem sLedgerOk_calls (f : FrameD) (A : Option Addr) (c : Nat) (g : LedgD) (A3 : Option Addr) (c3 : Nat) (hs : SzC f.chart) (ht : SzE g.entries) (r : Bool) (h : bP (LedgerP f g) = r) (w : World) (hr : Kd.C k48 w A f.chart.length f.chart) (he : Kd.C k41 w A3 g.entries.length g.entries) :
  Calls Tryz.prog 32 #[.agg #[.slice A f.chart.length c, .int .i64 f.dims, .int .i64 f.curs], .agg #[.slice A3 g.entries.length c3, .int .i64 g.head]] w fun e w' => e = .returned (.bool r) ∧ Below w.heap.size w w' := by
 subst h
 have hu := Tryz.underlying26
 have hu2 := Tryz.underlying29
 have hu3 := Tryz.underlying41
 have HR := Aside0.mk hr
 have HE3 := Aside0.mk he
 have HS := Aside0.mk hs
 have HT := Aside0.mk ht
 have hm := C_len he
 clear hr he hs ht
 obtain ⟨hh, HH⟩ : ∃ hh, Aside0 (headF g.entries = hh) := ⟨_, ⟨rfl⟩⟩
 by_cases c1 : (1000 : Int) < g.entries.length
 ·have d1 : decide ((1000 : Int) < g.entries.length) = true := decide_eq_true c1
  have HF := Aside0.mk (bP_f (show ¬ LedgerP f g from fun h => by have := h.1; omega))
  go_enter Tryz.func32, Tryz.ntmps32
  go_wp2
  have HB0 := Aside0.mk (show Below w.heap.size w ((w.alloc (.cells #[.slice A f.chart.length c, .int .i64 f.dims, .int .i64 f.curs] 26 (0, 0))).alloc (.cells #[.slice A3 g.entries.length c3, .int .i64 g.head] 29 (0, 0))) from (by repeat (with_reducible first | assumption | exact Below.refl _ _ | apply below_alloc | apply below_drew1 | apply pw_below_drewN | refine below_set ?_ (by omega) | refine below_step ?_ (by assumption))))
  have HC0 := Aside0.mk (show (fun w' => (w'.cell? ⟨w.heap.size, 0, none⟩ = some (.slice A f.chart.length c) ∧ w'.cell? ⟨w.heap.size, 1, none⟩ = some (.int .i64 f.dims) ∧ w'.cell? ⟨w.heap.size, 2, none⟩ = some (.int .i64 f.curs)) ∧ (w'.cell? ⟨w.heap.size + 1, 0, none⟩ = some (.slice A3 g.entries.length c3) ∧ w'.cell? ⟨w.heap.size + 1, 1, none⟩ = some (.int .i64 g.head))) ((w.alloc (.cells #[.slice A f.chart.length c, .int .i64 f.dims, .int .i64 f.curs] 26 (0, 0))).alloc (.cells #[.slice A3 g.entries.length c3, .int .i64 g.head] 29 (0, 0))) from by refine ⟨⟨?_, ?_, ?_⟩, ?_, ?_⟩ <;> simp)
  generalize (w.alloc (.cells #[.slice A f.chart.length c, .int .i64 f.dims, .int .i64 f.curs] 26 (0, 0))).alloc (.cells #[.slice A3 g.entries.length c3, .int .i64 g.head] 29 (0, 0)) = W0 at *
  replace HR := Aside0.mk (Kd.C_below HR.out HB0.out)
  replace HE3 := Aside0.mk (Kd.C_below HE3.out HB0.out)
  have hz0 : w.heap.size + 1 < W0.heap.size := by
   have h := HC0.out.2.2
   exact cell_lt h
  have MK := Aside0.mk (show ∀ w', Below W0.heap.size W0 w' → (Below W0.heap.size W0 w' ∧ (w'.cell? ⟨w.heap.size, 0, none⟩ = some (.slice A f.chart.length c) ∧ w'.cell? ⟨w.heap.size, 1, none⟩ = some (.int .i64 f.dims) ∧ w'.cell? ⟨w.heap.size, 2, none⟩ = some (.int .i64 f.curs)) ∧ (w'.cell? ⟨w.heap.size + 1, 0, none⟩ = some (.slice A3 g.entries.length c3) ∧ w'.cell? ⟨w.heap.size + 1, 1, none⟩ = some (.int .i64 g.head))) from fun w' hb => ⟨hb, ⟨pw_cell_below hb HC0.out.1.1, pw_cell_below hb HC0.out.1.2.1, pw_cell_below hb HC0.out.1.2.2⟩, pw_cell_below hb HC0.out.2.1, pw_cell_below hb HC0.out.2.2⟩)
  refine start_ (n := 17) (S := (fun w' => Below W0.heap.size W0 w' ∧ (w'.cell? ⟨w.heap.size, 0, none⟩ = some (.slice A f.chart.length c) ∧ w'.cell? ⟨w.heap.size, 1, none⟩ = some (.int .i64 f.dims) ∧ w'.cell? ⟨w.heap.size, 2, none⟩ = some (.int .i64 f.curs)) ∧ (w'.cell? ⟨w.heap.size + 1, 0, none⟩ = some (.slice A3 g.entries.length c3) ∧ w'.cell? ⟨w.heap.size + 1, 1, none⟩ = some (.int .i64 g.head)))) (ds := []) #[false, false, false, false, false, false, false, false, false, false, false, false, false, false, false, false, false] (by kernel_rfl) rfl rfl (by refine MK.out _ ?_; apply below_drew; exact Below.refl _ _) (fun hHeld => ?_)
  generalize W0.drew = wd at hHeld ⊢
  refine pure_ (i := 0) (N := (some 6)) (v := ?_) (a' := ?_) #[true, false, false, false, false, false, false, false, false, false, false, false, false, false, false, false, false] rfl rfl (by kernel_rfl) (fun _ _ _ h => h) (Or.inl ⟨by rfl, ?_⟩) ?_ ?_
  rotate_left
  ·intro w'
   go_simp
   try with_reducible rfl
  rotate_left
  ·simp only [Act.put, List.setIfInBounds_toArray, List.set_cons_zero, List.set_cons_succ]
   rfl
  refine take_ (i := 1) (N := (some 7)) (v := ?_) (a' := ?_) #[true, true, false, false, false, false, false, false, false, false, false, false, false, false, false, false, false] rfl rfl (by kernel_rfl) (fun _ _ _ h => h) (Or.inl ⟨by rfl, ?_⟩) hHeld ?_ ?_
  rotate_left
  ·rintro w' ⟨hb_, ⟨s0, s1, s2⟩, s3, s4⟩
   go_simp
   try with_reducible rfl
  rotate_left
  ·simp only [Act.put, List.setIfInBounds_toArray, List.set_cons_zero, List.set_cons_succ]
   rfl
  refine pure_ (i := 2) (N := (some 8)) (v := ?_) (a' := ?_) #[true, true, true, false, false, false, false, false, false, false, false, false, false, false, false, false, false] rfl rfl (by kernel_rfl) (fun _ _ _ h => h) (Or.inl ⟨by rfl, ?_⟩) ?_ ?_
  rotate_left
  ·intro w'
   go_simp
   try with_reducible rfl
  rotate_left
  ·simp only [Act.put, List.setIfInBounds_toArray, List.set_cons_zero, List.set_cons_succ]
   rfl
  refine pure_ (i := 3) (N := (some 9)) (v := ?_) (a' := ?_) #[true, true, true, true, false, false, false, false, false, false, false, false, false, false, false, false, false] rfl rfl (by kernel_rfl) (fun _ _ _ h => h) (Or.inl ⟨by rfl, ?_⟩) ?_ ?_
  rotate_left
  ·intro w'
   go_simp
   try with_reducible rfl
  rotate_left
  ·simp only [Act.put, List.setIfInBounds_toArray, List.set_cons_zero, List.set_cons_succ]
   rfl
  refine pure_ (i := 4) (N := (some 10)) (v := ?_) (a' := ?_) #[true, true, true, true, true, false, false, false, false, false, false, false, false, false, false, false, false] rfl rfl (by kernel_rfl) (fun _ _ _ h => h) (Or.inl ⟨by rfl, ?_⟩) ?_ ?_
  rotate_left
  ·intro w'
   go_simp
   try with_reducible rfl
  rotate_left
  ·simp only [Act.put, List.setIfInBounds_toArray, List.set_cons_zero, List.set_cons_succ]
   rfl
  refine pure_ (i := 5) (N := (some 11)) (v := undef) (a' := ?_) #[true, true, true, true, true, true, false, false, false, false, false, false, false, false, false, false, false] rfl rfl (by kernel_rfl) (fun _ _ _ h => h) (Or.inr ⟨by rfl, rfl⟩) ?_ ?_
  rotate_left
  ·simp only [Act.put, List.setIfInBounds_toArray, List.set_cons_zero, List.set_cons_succ]
   rfl
  refine pure_ (i := 6) (N := (some 12)) (v := undef) (a' := ?_) #[true, true, true, true, true, true, true, false, false, false, false, false, false, false, false, false, false] rfl rfl (by kernel_rfl) (fun _ _ _ h => h) (Or.inr ⟨by rfl, rfl⟩) ?_ ?_
  rotate_left
  ·simp only [Act.put, List.setIfInBounds_toArray, List.set_cons_zero, List.set_cons_succ]
   rfl
  refine pure_ (i := 7) (N := (some 13)) (v := undef) (a' := ?_) #[true, true, true, true, true, true, true, true, false, false, false, false, false, false, false, false, false] rfl rfl (by kernel_rfl) (fun _ _ _ h => h) (Or.inr ⟨by rfl, rfl⟩) ?_ ?_
  rotate_left
  ·simp only [Act.put, List.setIfInBounds_toArray, List.set_cons_zero, List.set_cons_succ]
   rfl
  refine pure_ (i := 8) (N := (some 14)) (v := ?_) (a' := ?_) #[true, true, true, true, true, true, true, true, true, false, false, false, false, false, false, false, false] rfl rfl (by kernel_rfl) (fun _ _ _ h => h) (Or.inl ⟨by rfl, ?_⟩) ?_ ?_
  rotate_left
  ·intro w'
   go_simp
   try with_reducible rfl
  rotate_left
  ·simp only [Act.put, List.setIfInBounds_toArray, List.set_cons_zero, List.set_cons_succ]
   rfl
  refine pure_ (i := 9) (N := (some 15)) (v := ?_) (a' := ?_) #[true, true, true, true, true, true, true, true, true, true, false, false, false, false, false, false, false] rfl rfl (by kernel_rfl) (fun _ _ _ h => h) (Or.inl ⟨by rfl, ?_⟩) ?_ ?_
  rotate_left
  ·intro w'
   go_simp
   try with_reducible rfl
  rotate_left
  ·simp only [Act.put, List.setIfInBounds_toArray, List.set_cons_zero, List.set_cons_succ]
   rfl
  refine pure_ (i := 10) (N := (some 16)) (v := undef) (a' := ?_) #[true, true, true, true, true, true, true, true, true, true, true, false, false, false, false, false, false] rfl rfl (by kernel_rfl) (fun _ _ _ h => h) (Or.inr ⟨by rfl, rfl⟩) ?_ ?_
  rotate_left
  ·simp only [Act.put, List.setIfInBounds_toArray, List.set_cons_zero, List.set_cons_succ]
   rfl
  refine pure_ (i := 11) (N := (some 17)) (v := undef) (a' := ?_) #[true, true, true, true, true, true, true, true, true, true, true, true, false, false, false, false, false] rfl rfl (by kernel_rfl) (fun _ _ _ h => h) (Or.inr ⟨by rfl, rfl⟩) ?_ ?_
  rotate_left
  ·simp only [Act.put, List.setIfInBounds_toArray, List.set_cons_zero, List.set_cons_succ]
   rfl
  refine pure_ (i := 12) (N := (some 18)) (v := undef) (a' := ?_) #[true, true, true, true, true, true, true, true, true, true, true, true, true, false, false, false, false] rfl rfl (by kernel_rfl) (fun _ _ _ h => h) (Or.inr ⟨by rfl, rfl⟩) ?_ ?_
  rotate_left
  ·simp only [Act.put, List.setIfInBounds_toArray, List.set_cons_zero, List.set_cons_succ]
   rfl
  refine pure_ (i := 13) (N := (some 19)) (v := undef) (a' := ?_) #[true, true, true, true, true, true, true, true, true, true, true, true, true, true, false, false, false] rfl rfl (by kernel_rfl) (fun _ _ _ h => h) (Or.inr ⟨by rfl, rfl⟩) ?_ ?_
  rotate_left
  ·simp only [Act.put, List.setIfInBounds_toArray, List.set_cons_zero, List.set_cons_succ]
   rfl
  refine pure_ (i := 14) (N := (some 20)) (v := undef) (a' := ?_) #[true, true, true, true, true, true, true, true, true, true, true, true, true, true, true, false, false] rfl rfl (by kernel_rfl) (fun _ _ _ h => h) (Or.inr ⟨by rfl, rfl⟩) ?_ ?_
  rotate_left
  ·simp only [Act.put, List.setIfInBounds_toArray, List.set_cons_zero, List.set_cons_succ]
   rfl
  refine pure_ (i := 15) (N := (some 21)) (v := undef) (a' := ?_) #[true, true, true, true, true, true, true, true, true, true, true, true, true, true, true, true, false] rfl rfl (by kernel_rfl) (fun _ _ _ h => h) (Or.inr ⟨by rfl, rfl⟩) ?_ ?_
  rotate_left
  ·simp only [Act.put, List.setIfInBounds_toArray, List.set_cons_zero, List.set_cons_succ]
   rfl
  refine pure_ (i := 16) (N := (some 22)) (v := ?_) (a' := ?_) #[true, true, true, true, true, true, true, true, true, true, true, true, true, true, true, true, true] rfl rfl (by kernel_rfl) (fun _ _ _ h => h) (Or.inl ⟨by rfl, ?_⟩) ?_ ?_
  rotate_left
  ·intro w'
   go_simp
   try with_reducible rfl
  rotate_left
  ·simp only [Act.put, List.setIfInBounds_toArray, List.set_cons_zero, List.set_cons_succ]
   rfl
  refine done_ (by kernel_rfl) ?_
  have HB1 := Aside0.mk hHeld.1
  go_wp2
  go_ret
  exact ⟨ret_b HF.out.symm, below_step HB0.out HB1.out⟩
 have d1 : decide ((1000 : Int) < g.entries.length) = false := decide_eq_false c1
 by_cases c2 : FrameP f
 rotate_left
 ·have C1 := Aside0.mk (bP_f c2)
  have HF := Aside0.mk (bP_f (show ¬ LedgerP f g from fun h => c2 h.2.1))
  go_enter Tryz.func32, Tryz.ntmps32
  go_wp2
  have HB0 := Aside0.mk (show Below w.heap.size w ((w.alloc (.cells #[.slice A f.chart.length c, .int .i64 f.dims, .int .i64 f.curs] 26 (0, 0))).alloc (.cells #[.slice A3 g.entries.length c3, .int .i64 g.head] 29 (0, 0))) from (by repeat (with_reducible first | assumption | exact Below.refl _ _ | apply below_alloc | apply below_drew1 | apply pw_below_drewN | refine below_set ?_ (by omega) | refine below_step ?_ (by assumption))))
  have HC0 := Aside0.mk (show (fun w' => (w'.cell? ⟨w.heap.size, 0, none⟩ = some (.slice A f.chart.length c) ∧ w'.cell? ⟨w.heap.size, 1, none⟩ = some (.int .i64 f.dims) ∧ w'.cell? ⟨w.heap.size, 2, none⟩ = some (.int .i64 f.curs)) ∧ (w'.cell? ⟨w.heap.size + 1, 0, none⟩ = some (.slice A3 g.entries.length c3) ∧ w'.cell? ⟨w.heap.size + 1, 1, none⟩ = some (.int .i64 g.head))) ((w.alloc (.cells #[.slice A f.chart.length c, .int .i64 f.dims, .int .i64 f.curs] 26 (0, 0))).alloc (.cells #[.slice A3 g.entries.length c3, .int .i64 g.head] 29 (0, 0))) from by refine ⟨⟨?_, ?_, ?_⟩, ?_, ?_⟩ <;> simp)
  generalize (w.alloc (.cells #[.slice A f.chart.length c, .int .i64 f.dims, .int .i64 f.curs] 26 (0, 0))).alloc (.cells #[.slice A3 g.entries.length c3, .int .i64 g.head] 29 (0, 0)) = W0 at *
  replace HR := Aside0.mk (Kd.C_below HR.out HB0.out)
  replace HE3 := Aside0.mk (Kd.C_below HE3.out HB0.out)
  have hz0 : w.heap.size + 1 < W0.heap.size := by
   have h := HC0.out.2.2
   exact cell_lt h
  have MK := Aside0.mk (show ∀ w', Below W0.heap.size W0 w' → (Below W0.heap.size W0 w' ∧ (w'.cell? ⟨w.heap.size, 0, none⟩ = some (.slice A f.chart.length c) ∧ w'.cell? ⟨w.heap.size, 1, none⟩ = some (.int .i64 f.dims) ∧ w'.cell? ⟨w.heap.size, 2, none⟩ = some (.int .i64 f.curs)) ∧ (w'.cell? ⟨w.heap.size + 1, 0, none⟩ = some (.slice A3 g.entries.length c3) ∧ w'.cell? ⟨w.heap.size + 1, 1, none⟩ = some (.int .i64 g.head))) from fun w' hb => ⟨hb, ⟨pw_cell_below hb HC0.out.1.1, pw_cell_below hb HC0.out.1.2.1, pw_cell_below hb HC0.out.1.2.2⟩, pw_cell_below hb HC0.out.2.1, pw_cell_below hb HC0.out.2.2⟩)
  refine start_ (n := 17) (S := (fun w' => Below W0.heap.size W0 w' ∧ (w'.cell? ⟨w.heap.size, 0, none⟩ = some (.slice A f.chart.length c) ∧ w'.cell? ⟨w.heap.size, 1, none⟩ = some (.int .i64 f.dims) ∧ w'.cell? ⟨w.heap.size, 2, none⟩ = some (.int .i64 f.curs)) ∧ (w'.cell? ⟨w.heap.size + 1, 0, none⟩ = some (.slice A3 g.entries.length c3) ∧ w'.cell? ⟨w.heap.size + 1, 1, none⟩ = some (.int .i64 g.head)))) (ds := []) #[false, false, false, false, false, false, false, false, false, false, false, false, false, false, false, false, false] (by kernel_rfl) rfl rfl (by refine MK.out _ ?_; apply below_drew; exact Below.refl _ _) (fun hHeld => ?_)
  generalize W0.drew = wd at hHeld ⊢
  refine pure_ (i := 0) (N := (some 6)) (v := ?_) (a' := ?_) #[true, false, false, false, false, false, false, false, false, false, false, false, false, false, false, false, false] rfl rfl (by kernel_rfl) (fun _ _ _ h => h) (Or.inl ⟨by rfl, ?_⟩) ?_ ?_
  rotate_left
  ·intro w'
   go_simp
   try with_reducible rfl
  rotate_left
  ·simp only [Act.put, List.setIfInBounds_toArray, List.set_cons_zero, List.set_cons_succ]
   rfl
  refine take_ (i := 1) (N := (some 7)) (v := ?_) (a' := ?_) #[true, true, false, false, false, false, false, false, false, false, false, false, false, false, false, false, false] rfl rfl (by kernel_rfl) (fun _ _ _ h => h) (Or.inl ⟨by rfl, ?_⟩) hHeld ?_ ?_
  rotate_left
  ·rintro w' ⟨hb_, ⟨s0, s1, s2⟩, s3, s4⟩
   go_simp
   try with_reducible rfl
  rotate_left
  ·simp only [Act.put, List.setIfInBounds_toArray, List.set_cons_zero, List.set_cons_succ]
   rfl
  refine pure_ (i := 2) (N := (some 8)) (v := ?_) (a' := ?_) #[true, true, true, false, false, false, false, false, false, false, false, false, false, false, false, false, false] rfl rfl (by kernel_rfl) (fun _ _ _ h => h) (Or.inl ⟨by rfl, ?_⟩) ?_ ?_
  rotate_left
  ·intro w'
   go_simp
   try with_reducible rfl
  rotate_left
  ·simp only [Act.put, List.setIfInBounds_toArray, List.set_cons_zero, List.set_cons_succ]
   rfl
  refine pure_ (i := 3) (N := (some 9)) (v := ?_) (a' := ?_) #[true, true, true, true, false, false, false, false, false, false, false, false, false, false, false, false, false] rfl rfl (by kernel_rfl) (fun _ _ _ h => h) (Or.inl ⟨by rfl, ?_⟩) ?_ ?_
  rotate_left
  ·intro w'
   go_simp
   try with_reducible rfl
  rotate_left
  ·simp only [Act.put, List.setIfInBounds_toArray, List.set_cons_zero, List.set_cons_succ]
   rfl
  refine pure_ (i := 4) (N := (some 10)) (v := ?_) (a' := ?_) #[true, true, true, true, true, false, false, false, false, false, false, false, false, false, false, false, false] rfl rfl (by kernel_rfl) (fun _ _ _ h => h) (Or.inl ⟨by rfl, ?_⟩) ?_ ?_
  rotate_left
  ·intro w'
   go_simp
   try with_reducible rfl
  rotate_left
  ·simp only [Act.put, List.setIfInBounds_toArray, List.set_cons_zero, List.set_cons_succ]
   rfl
  refine take_ (i := 5) (N := (some 11)) (v := ?_) (a' := ?_) #[true, true, true, true, true, true, false, false, false, false, false, false, false, false, false, false, false] rfl rfl (by kernel_rfl) (fun _ _ _ h => h) (Or.inl ⟨by rfl, ?_⟩) hHeld ?_ ?_
  rotate_left
  ·rintro w' ⟨hb_, ⟨s0, s1, s2⟩, s3, s4⟩
   go_simp
   try with_reducible rfl
  rotate_left
  ·simp only [Act.put, List.setIfInBounds_toArray, List.set_cons_zero, List.set_cons_succ]
   rfl
  refine one_ (i := 6) (N := (some 12)) #[true, true, true, true, true, true, true, false, false, false, false, false, false, false, false, false, false] rfl rfl (by kernel_rfl) (by decide) (fun K hK => ?_)
  refine goes_ Tryz.func87 (by kernel_rfl) rfl #[.agg #[.slice A f.chart.length c, .int .i64 f.dims, .int .i64 f.curs]] (by rfl) rfl rfl (by (try simp only [List.map_toArray, List.map_cons, List.map_nil]); first | done | rfl) ?_
  with_reducible refine (sFrameOk_calls f _ _ HS.out _ C1.out _ (Kd.C_below HR.out hHeld.1)).mono ?_
  rintro e w1 ⟨rfl, hb⟩
  refine ⟨_, rfl, ?_⟩
  refine hK.out _ _ (by refine MK.out _ (below_step hHeld.1 hb)) (fun hHeld => ?_)
  clear hK K
  refine norm_ (a' := ?_) ?_ ?_
  rotate_left
  ·show Act.put _ (some 12) _ = _
   simp only [Act.put, List.setIfInBounds_toArray, List.set_cons_zero, List.set_cons_succ]
   rfl
  refine pure_ (i := 7) (N := (some 13)) (v := ?_) (a' := ?_) #[true, true, true, true, true, true, true, true, false, false, false, false, false, false, false, false, false] rfl rfl (by kernel_rfl) (fun _ _ _ h => h) (Or.inl ⟨by rfl, ?_⟩) ?_ ?_
  rotate_left
  ·intro w'
   go_simp
   try with_reducible rfl
  rotate_left
  ·simp only [Act.put, List.setIfInBounds_toArray, List.set_cons_zero, List.set_cons_succ]
   rfl
  refine pure_ (i := 8) (N := (some 14)) (v := ?_) (a' := ?_) #[true, true, true, true, true, true, true, true, true, false, false, false, false, false, false, false, false] rfl rfl (by kernel_rfl) (fun _ _ _ h => h) (Or.inl ⟨by rfl, ?_⟩) ?_ ?_
  rotate_left
  ·intro w'
   go_simp
   try with_reducible rfl
  rotate_left
  ·simp only [Act.put, List.setIfInBounds_toArray, List.set_cons_zero, List.set_cons_succ]
   rfl
  refine pure_ (i := 9) (N := (some 15)) (v := ?_) (a' := ?_) #[true, true, true, true, true, true, true, true, true, true, false, false, false, false, false, false, false] rfl rfl (by kernel_rfl) (fun _ _ _ h => h) (Or.inl ⟨by rfl, ?_⟩) ?_ ?_
  rotate_left
  ·intro w'
   go_simp
   try with_reducible rfl
  rotate_left
  ·simp only [Act.put, List.setIfInBounds_toArray, List.set_cons_zero, List.set_cons_succ]
   rfl
  refine pure_ (i := 10) (N := (some 16)) (v := undef) (a' := ?_) #[true, true, true, true, true, true, true, true, true, true, true, false, false, false, false, false, false] rfl rfl (by kernel_rfl) (fun _ _ _ h => h) (Or.inr ⟨by rfl, rfl⟩) ?_ ?_
  rotate_left
  ·simp only [Act.put, List.setIfInBounds_toArray, List.set_cons_zero, List.set_cons_succ]
   rfl
  refine pure_ (i := 11) (N := (some 17)) (v := undef) (a' := ?_) #[true, true, true, true, true, true, true, true, true, true, true, true, false, false, false, false, false] rfl rfl (by kernel_rfl) (fun _ _ _ h => h) (Or.inr ⟨by rfl, rfl⟩) ?_ ?_
  rotate_left
  ·simp only [Act.put, List.setIfInBounds_toArray, List.set_cons_zero, List.set_cons_succ]
   rfl
  refine pure_ (i := 12) (N := (some 18)) (v := undef) (a' := ?_) #[true, true, true, true, true, true, true, true, true, true, true, true, true, false, false, false, false] rfl rfl (by kernel_rfl) (fun _ _ _ h => h) (Or.inr ⟨by rfl, rfl⟩) ?_ ?_
  rotate_left
  ·simp only [Act.put, List.setIfInBounds_toArray, List.set_cons_zero, List.set_cons_succ]
   rfl
  refine pure_ (i := 13) (N := (some 19)) (v := undef) (a' := ?_) #[true, true, true, true, true, true, true, true, true, true, true, true, true, true, false, false, false] rfl rfl (by kernel_rfl) (fun _ _ _ h => h) (Or.inr ⟨by rfl, rfl⟩) ?_ ?_
  rotate_left
  ·simp only [Act.put, List.setIfInBounds_toArray, List.set_cons_zero, List.set_cons_succ]
   rfl
  refine pure_ (i := 14) (N := (some 20)) (v := undef) (a' := ?_) #[true, true, true, true, true, true, true, true, true, true, true, true, true, true, true, false, false] rfl rfl (by kernel_rfl) (fun _ _ _ h => h) (Or.inr ⟨by rfl, rfl⟩) ?_ ?_
  rotate_left
  ·simp only [Act.put, List.setIfInBounds_toArray, List.set_cons_zero, List.set_cons_succ]
   rfl
  refine pure_ (i := 15) (N := (some 21)) (v := undef) (a' := ?_) #[true, true, true, true, true, true, true, true, true, true, true, true, true, true, true, true, false] rfl rfl (by kernel_rfl) (fun _ _ _ h => h) (Or.inr ⟨by rfl, rfl⟩) ?_ ?_
  rotate_left
  ·simp only [Act.put, List.setIfInBounds_toArray, List.set_cons_zero, List.set_cons_succ]
   rfl
  refine pure_ (i := 16) (N := (some 22)) (v := ?_) (a' := ?_) #[true, true, true, true, true, true, true, true, true, true, true, true, true, true, true, true, true] rfl rfl (by kernel_rfl) (fun _ _ _ h => h) (Or.inl ⟨by rfl, ?_⟩) ?_ ?_
  rotate_left
  ·intro w'
   go_simp
   try with_reducible rfl
  rotate_left
  ·simp only [Act.put, List.setIfInBounds_toArray, List.set_cons_zero, List.set_cons_succ]
   rfl
  refine done_ (by kernel_rfl) ?_
  have HB1 := Aside0.mk hHeld.1
  go_wp2
  go_ret
  exact ⟨ret_b HF.out.symm, below_step HB0.out HB1.out⟩
 have C1 := Aside0.mk (bP_t c2)
 by_cases c3' : g.head = hh
 rotate_left
 ·have d3 : (g.head != hh) = true := by simp [c3']
  have HF := Aside0.mk (bP_f (show ¬ LedgerP f g from fun h => c3' (by rw [h.2.2.1]; exact HH.out)))
  go_enter Tryz.func32, Tryz.ntmps32
  go_wp2
  have HB0 := Aside0.mk (show Below w.heap.size w ((w.alloc (.cells #[.slice A f.chart.length c, .int .i64 f.dims, .int .i64 f.curs] 26 (0, 0))).alloc (.cells #[.slice A3 g.entries.length c3, .int .i64 g.head] 29 (0, 0))) from (by repeat (with_reducible first | assumption | exact Below.refl _ _ | apply below_alloc | apply below_drew1 | apply pw_below_drewN | refine below_set ?_ (by omega) | refine below_step ?_ (by assumption))))
  have HC0 := Aside0.mk (show (fun w' => (w'.cell? ⟨w.heap.size, 0, none⟩ = some (.slice A f.chart.length c) ∧ w'.cell? ⟨w.heap.size, 1, none⟩ = some (.int .i64 f.dims) ∧ w'.cell? ⟨w.heap.size, 2, none⟩ = some (.int .i64 f.curs)) ∧ (w'.cell? ⟨w.heap.size + 1, 0, none⟩ = some (.slice A3 g.entries.length c3) ∧ w'.cell? ⟨w.heap.size + 1, 1, none⟩ = some (.int .i64 g.head))) ((w.alloc (.cells #[.slice A f.chart.length c, .int .i64 f.dims, .int .i64 f.curs] 26 (0, 0))).alloc (.cells #[.slice A3 g.entries.length c3, .int .i64 g.head] 29 (0, 0))) from by refine ⟨⟨?_, ?_, ?_⟩, ?_, ?_⟩ <;> simp)
  generalize (w.alloc (.cells #[.slice A f.chart.length c, .int .i64 f.dims, .int .i64 f.curs] 26 (0, 0))).alloc (.cells #[.slice A3 g.entries.length c3, .int .i64 g.head] 29 (0, 0)) = W0 at *
  replace HR := Aside0.mk (Kd.C_below HR.out HB0.out)
  replace HE3 := Aside0.mk (Kd.C_below HE3.out HB0.out)
  have hz0 : w.heap.size + 1 < W0.heap.size := by
   have h := HC0.out.2.2
   exact cell_lt h
  have MK := Aside0.mk (show ∀ w', Below W0.heap.size W0 w' → (Below W0.heap.size W0 w' ∧ (w'.cell? ⟨w.heap.size, 0, none⟩ = some (.slice A f.chart.length c) ∧ w'.cell? ⟨w.heap.size, 1, none⟩ = some (.int .i64 f.dims) ∧ w'.cell? ⟨w.heap.size, 2, none⟩ = some (.int .i64 f.curs)) ∧ (w'.cell? ⟨w.heap.size + 1, 0, none⟩ = some (.slice A3 g.entries.length c3) ∧ w'.cell? ⟨w.heap.size + 1, 1, none⟩ = some (.int .i64 g.head))) from fun w' hb => ⟨hb, ⟨pw_cell_below hb HC0.out.1.1, pw_cell_below hb HC0.out.1.2.1, pw_cell_below hb HC0.out.1.2.2⟩, pw_cell_below hb HC0.out.2.1, pw_cell_below hb HC0.out.2.2⟩)
  refine start_ (n := 17) (S := (fun w' => Below W0.heap.size W0 w' ∧ (w'.cell? ⟨w.heap.size, 0, none⟩ = some (.slice A f.chart.length c) ∧ w'.cell? ⟨w.heap.size, 1, none⟩ = some (.int .i64 f.dims) ∧ w'.cell? ⟨w.heap.size, 2, none⟩ = some (.int .i64 f.curs)) ∧ (w'.cell? ⟨w.heap.size + 1, 0, none⟩ = some (.slice A3 g.entries.length c3) ∧ w'.cell? ⟨w.heap.size + 1, 1, none⟩ = some (.int .i64 g.head)))) (ds := []) #[false, false, false, false, false, false, false, false, false, false, false, false, false, false, false, false, false] (by kernel_rfl) rfl rfl (by refine MK.out _ ?_; apply below_drew; exact Below.refl _ _) (fun hHeld => ?_)
  generalize W0.drew = wd at hHeld ⊢
  refine pure_ (i := 0) (N := (some 6)) (v := ?_) (a' := ?_) #[true, false, false, false, false, false, false, false, false, false, false, false, false, false, false, false, false] rfl rfl (by kernel_rfl) (fun _ _ _ h => h) (Or.inl ⟨by rfl, ?_⟩) ?_ ?_
  rotate_left
  ·intro w'
   go_simp
   try with_reducible rfl
  rotate_left
  ·simp only [Act.put, List.setIfInBounds_toArray, List.set_cons_zero, List.set_cons_succ]
   rfl
  refine take_ (i := 1) (N := (some 7)) (v := ?_) (a' := ?_) #[true, true, false, false, false, false, false, false, false, false, false, false, false, false, false, false, false] rfl rfl (by kernel_rfl) (fun _ _ _ h => h) (Or.inl ⟨by rfl, ?_⟩) hHeld ?_ ?_
  rotate_left
  ·rintro w' ⟨hb_, ⟨s0, s1, s2⟩, s3, s4⟩
   go_simp
   try with_reducible rfl
  rotate_left
  ·simp only [Act.put, List.setIfInBounds_toArray, List.set_cons_zero, List.set_cons_succ]
   rfl
  refine pure_ (i := 2) (N := (some 8)) (v := ?_) (a' := ?_) #[true, true, true, false, false, false, false, false, false, false, false, false, false, false, false, false, false] rfl rfl (by kernel_rfl) (fun _ _ _ h => h) (Or.inl ⟨by rfl, ?_⟩) ?_ ?_
  rotate_left
  ·intro w'
   go_simp
   try with_reducible rfl
  rotate_left
  ·simp only [Act.put, List.setIfInBounds_toArray, List.set_cons_zero, List.set_cons_succ]
   rfl
  refine pure_ (i := 3) (N := (some 9)) (v := ?_) (a' := ?_) #[true, true, true, true, false, false, false, false, false, false, false, false, false, false, false, false, false] rfl rfl (by kernel_rfl) (fun _ _ _ h => h) (Or.inl ⟨by rfl, ?_⟩) ?_ ?_
  rotate_left
  ·intro w'
   go_simp
   try with_reducible rfl
  rotate_left
  ·simp only [Act.put, List.setIfInBounds_toArray, List.set_cons_zero, List.set_cons_succ]
   rfl
  refine pure_ (i := 4) (N := (some 10)) (v := ?_) (a' := ?_) #[true, true, true, true, true, false, false, false, false, false, false, false, false, false, false, false, false] rfl rfl (by kernel_rfl) (fun _ _ _ h => h) (Or.inl ⟨by rfl, ?_⟩) ?_ ?_
  rotate_left
  ·intro w'
   go_simp
   try with_reducible rfl
  rotate_left
  ·simp only [Act.put, List.setIfInBounds_toArray, List.set_cons_zero, List.set_cons_succ]
   rfl
  refine take_ (i := 5) (N := (some 11)) (v := ?_) (a' := ?_) #[true, true, true, true, true, true, false, false, false, false, false, false, false, false, false, false, false] rfl rfl (by kernel_rfl) (fun _ _ _ h => h) (Or.inl ⟨by rfl, ?_⟩) hHeld ?_ ?_
  rotate_left
  ·rintro w' ⟨hb_, ⟨s0, s1, s2⟩, s3, s4⟩
   go_simp
   try with_reducible rfl
  rotate_left
  ·simp only [Act.put, List.setIfInBounds_toArray, List.set_cons_zero, List.set_cons_succ]
   rfl
  refine one_ (i := 6) (N := (some 12)) #[true, true, true, true, true, true, true, false, false, false, false, false, false, false, false, false, false] rfl rfl (by kernel_rfl) (by decide) (fun K hK => ?_)
  refine goes_ Tryz.func87 (by kernel_rfl) rfl #[.agg #[.slice A f.chart.length c, .int .i64 f.dims, .int .i64 f.curs]] (by rfl) rfl rfl (by (try simp only [List.map_toArray, List.map_cons, List.map_nil]); first | done | rfl) ?_
  with_reducible refine (sFrameOk_calls f _ _ HS.out _ C1.out _ (Kd.C_below HR.out hHeld.1)).mono ?_
  rintro e w1 ⟨rfl, hb⟩
  refine ⟨_, rfl, ?_⟩
  refine hK.out _ _ (by refine MK.out _ (below_step hHeld.1 hb)) (fun hHeld => ?_)
  clear hK K
  refine norm_ (a' := ?_) ?_ ?_
  rotate_left
  ·show Act.put _ (some 12) _ = _
   simp only [Act.put, List.setIfInBounds_toArray, List.set_cons_zero, List.set_cons_succ]
   rfl
  refine pure_ (i := 7) (N := (some 13)) (v := ?_) (a' := ?_) #[true, true, true, true, true, true, true, true, false, false, false, false, false, false, false, false, false] rfl rfl (by kernel_rfl) (fun _ _ _ h => h) (Or.inl ⟨by rfl, ?_⟩) ?_ ?_
  rotate_left
  ·intro w'
   go_simp
   try with_reducible rfl
  rotate_left
  ·simp only [Act.put, List.setIfInBounds_toArray, List.set_cons_zero, List.set_cons_succ]
   rfl
  refine pure_ (i := 8) (N := (some 14)) (v := ?_) (a' := ?_) #[true, true, true, true, true, true, true, true, true, false, false, false, false, false, false, false, false] rfl rfl (by kernel_rfl) (fun _ _ _ h => h) (Or.inl ⟨by rfl, ?_⟩) ?_ ?_
  rotate_left
  ·intro w'
   go_simp
   try with_reducible rfl
  rotate_left
  ·simp only [Act.put, List.setIfInBounds_toArray, List.set_cons_zero, List.set_cons_succ]
   rfl
  refine pure_ (i := 9) (N := (some 15)) (v := ?_) (a' := ?_) #[true, true, true, true, true, true, true, true, true, true, false, false, false, false, false, false, false] rfl rfl (by kernel_rfl) (fun _ _ _ h => h) (Or.inl ⟨by rfl, ?_⟩) ?_ ?_
  rotate_left
  ·intro w'
   go_simp
   try with_reducible rfl
  rotate_left
  ·simp only [Act.put, List.setIfInBounds_toArray, List.set_cons_zero, List.set_cons_succ]
   rfl
  refine pure_ (i := 10) (N := (some 16)) (v := ?_) (a' := ?_) #[true, true, true, true, true, true, true, true, true, true, true, false, false, false, false, false, false] rfl rfl (by kernel_rfl) (fun _ _ _ h => h) (Or.inl ⟨by rfl, ?_⟩) ?_ ?_
  rotate_left
  ·intro w'
   go_simp
   try with_reducible rfl
  rotate_left
  ·simp only [Act.put, List.setIfInBounds_toArray, List.set_cons_zero, List.set_cons_succ]
   rfl
  refine take_ (i := 11) (N := (some 17)) (v := ?_) (a' := ?_) #[true, true, true, true, true, true, true, true, true, true, true, true, false, false, false, false, false] rfl rfl (by kernel_rfl) (fun _ _ _ h => h) (Or.inl ⟨by rfl, ?_⟩) hHeld ?_ ?_
  rotate_left
  ·rintro w' ⟨hb_, ⟨s0, s1, s2⟩, s3, s4⟩
   go_simp
   try with_reducible rfl
  rotate_left
  ·simp only [Act.put, List.setIfInBounds_toArray, List.set_cons_zero, List.set_cons_succ]
   rfl
  refine pure_ (i := 12) (N := (some 18)) (v := ?_) (a' := ?_) #[true, true, true, true, true, true, true, true, true, true, true, true, true, false, false, false, false] rfl rfl (by kernel_rfl) (fun _ _ _ h => h) (Or.inl ⟨by rfl, ?_⟩) ?_ ?_
  rotate_left
  ·intro w'
   go_simp
   try with_reducible rfl
  rotate_left
  ·simp only [Act.put, List.setIfInBounds_toArray, List.set_cons_zero, List.set_cons_succ]
   rfl
  refine take_ (i := 13) (N := (some 19)) (v := ?_) (a' := ?_) #[true, true, true, true, true, true, true, true, true, true, true, true, true, true, false, false, false] rfl rfl (by kernel_rfl) (fun _ _ _ h => h) (Or.inl ⟨by rfl, ?_⟩) hHeld ?_ ?_
  rotate_left
  ·rintro w' ⟨hb_, ⟨s0, s1, s2⟩, s3, s4⟩
   go_simp
   try with_reducible rfl
  rotate_left
  ·simp only [Act.put, List.setIfInBounds_toArray, List.set_cons_zero, List.set_cons_succ]
   rfl
  refine one_ (i := 14) (N := (some 20)) #[true, true, true, true, true, true, true, true, true, true, true, true, true, true, true, false, false] rfl rfl (by kernel_rfl) (by decide) (fun K hK => ?_)
  refine goes_ Tryz.func88 (by kernel_rfl) rfl #[.slice A3 g.entries.length c3] (by rfl) rfl rfl (by (try simp only [List.map_toArray, List.map_cons, List.map_nil]); first | done | rfl) ?_
  with_reducible refine (sHeadOf_calls _ _ g.entries HT.out _ HH.out _ (Kd.C_below HE3.out hHeld.1)).mono ?_
  rintro e w1 ⟨rfl, hb⟩
  refine ⟨_, rfl, ?_⟩
  refine hK.out _ _ (by refine MK.out _ (below_step hHeld.1 hb)) (fun hHeld => ?_)
  clear hK K
  refine norm_ (a' := ?_) ?_ ?_
  rotate_left
  ·show Act.put _ (some 20) _ = _
   simp only [Act.put, List.setIfInBounds_toArray, List.set_cons_zero, List.set_cons_succ]
   rfl
  refine pure_ (i := 15) (N := (some 21)) (v := ?_) (a' := ?_) #[true, true, true, true, true, true, true, true, true, true, true, true, true, true, true, true, false] rfl rfl (by kernel_rfl) (fun _ _ _ h => h) (Or.inl ⟨by rfl, ?_⟩) ?_ ?_
  rotate_left
  ·intro w'
   go_simp
   try with_reducible rfl
  rotate_left
  ·simp only [Act.put, List.setIfInBounds_toArray, List.set_cons_zero, List.set_cons_succ]
   rfl
  refine pure_ (i := 16) (N := (some 22)) (v := ?_) (a' := ?_) #[true, true, true, true, true, true, true, true, true, true, true, true, true, true, true, true, true] rfl rfl (by kernel_rfl) (fun _ _ _ h => h) (Or.inl ⟨by rfl, ?_⟩) ?_ ?_
  rotate_left
  ·intro w'
   go_simp
   try with_reducible rfl
  rotate_left
  ·simp only [Act.put, List.setIfInBounds_toArray, List.set_cons_zero, List.set_cons_succ]
   rfl
  refine done_ (by kernel_rfl) ?_
  have HB1 := Aside0.mk hHeld.1
  go_wp2
  go_ret
  exact ⟨ret_b HF.out.symm, below_step HB0.out HB1.out⟩
 have d3 : (g.head != hh) = false := by simp [c3']
 have HP := Aside0.mk (show g.entries.length ≤ 1000 ∧ FrameP f ∧ g.head = headF g.entries from ⟨by omega, c2, by rw [HH.out]; exact c3'⟩)
 replace c1 : g.entries.length ≤ 1000 := by omega
 clear c2 c3'
 go_enter Tryz.func32, Tryz.ntmps32
 go_wp2
 have HB0 := Aside0.mk (show Below w.heap.size w ((w.alloc (.cells #[.slice A f.chart.length c, .int .i64 f.dims, .int .i64 f.curs] 26 (0, 0))).alloc (.cells #[.slice A3 g.entries.length c3, .int .i64 g.head] 29 (0, 0))) from (by repeat (with_reducible first | assumption | exact Below.refl _ _ | apply below_alloc | apply below_drew1 | apply pw_below_drewN | refine below_set ?_ (by omega) | refine below_step ?_ (by assumption))))
 have HC0 := Aside0.mk (show (fun w' => (w'.cell? ⟨w.heap.size, 0, none⟩ = some (.slice A f.chart.length c) ∧ w'.cell? ⟨w.heap.size, 1, none⟩ = some (.int .i64 f.dims) ∧ w'.cell? ⟨w.heap.size, 2, none⟩ = some (.int .i64 f.curs)) ∧ (w'.cell? ⟨w.heap.size + 1, 0, none⟩ = some (.slice A3 g.entries.length c3) ∧ w'.cell? ⟨w.heap.size + 1, 1, none⟩ = some (.int .i64 g.head))) ((w.alloc (.cells #[.slice A f.chart.length c, .int .i64 f.dims, .int .i64 f.curs] 26 (0, 0))).alloc (.cells #[.slice A3 g.entries.length c3, .int .i64 g.head] 29 (0, 0))) from by refine ⟨⟨?_, ?_, ?_⟩, ?_, ?_⟩ <;> simp)
 generalize (w.alloc (.cells #[.slice A f.chart.length c, .int .i64 f.dims, .int .i64 f.curs] 26 (0, 0))).alloc (.cells #[.slice A3 g.entries.length c3, .int .i64 g.head] 29 (0, 0)) = W0 at *
 replace HR := Aside0.mk (Kd.C_below HR.out HB0.out)
 replace HE3 := Aside0.mk (Kd.C_below HE3.out HB0.out)
 have hz0 : w.heap.size + 1 < W0.heap.size := by
  have h := HC0.out.2.2
  exact cell_lt h
 have MK := Aside0.mk (show ∀ w', Below W0.heap.size W0 w' → (Below W0.heap.size W0 w' ∧ (w'.cell? ⟨w.heap.size, 0, none⟩ = some (.slice A f.chart.length c) ∧ w'.cell? ⟨w.heap.size, 1, none⟩ = some (.int .i64 f.dims) ∧ w'.cell? ⟨w.heap.size, 2, none⟩ = some (.int .i64 f.curs)) ∧ (w'.cell? ⟨w.heap.size + 1, 0, none⟩ = some (.slice A3 g.entries.length c3) ∧ w'.cell? ⟨w.heap.size + 1, 1, none⟩ = some (.int .i64 g.head))) from fun w' hb => ⟨hb, ⟨pw_cell_below hb HC0.out.1.1, pw_cell_below hb HC0.out.1.2.1, pw_cell_below hb HC0.out.1.2.2⟩, pw_cell_below hb HC0.out.2.1, pw_cell_below hb HC0.out.2.2⟩)
 refine start_ (n := 17) (S := (fun w' => Below W0.heap.size W0 w' ∧ (w'.cell? ⟨w.heap.size, 0, none⟩ = some (.slice A f.chart.length c) ∧ w'.cell? ⟨w.heap.size, 1, none⟩ = some (.int .i64 f.dims) ∧ w'.cell? ⟨w.heap.size, 2, none⟩ = some (.int .i64 f.curs)) ∧ (w'.cell? ⟨w.heap.size + 1, 0, none⟩ = some (.slice A3 g.entries.length c3) ∧ w'.cell? ⟨w.heap.size + 1, 1, none⟩ = some (.int .i64 g.head)))) (ds := []) #[false, false, false, false, false, false, false, false, false, false, false, false, false, false, false, false, false] (by kernel_rfl) rfl rfl (by refine MK.out _ ?_; apply below_drew; exact Below.refl _ _) (fun hHeld => ?_)
 generalize W0.drew = wd at hHeld ⊢
 refine pure_ (i := 0) (N := (some 6)) (v := ?_) (a' := ?_) #[true, false, false, false, false, false, false, false, false, false, false, false, false, false, false, false, false] rfl rfl (by kernel_rfl) (fun _ _ _ h => h) (Or.inl ⟨by rfl, ?_⟩) ?_ ?_
 rotate_left
 ·intro w'
  go_simp
  try with_reducible rfl
 rotate_left
 ·simp only [Act.put, List.setIfInBounds_toArray, List.set_cons_zero, List.set_cons_succ]
  rfl
 refine take_ (i := 1) (N := (some 7)) (v := ?_) (a' := ?_) #[true, true, false, false, false, false, false, false, false, false, false, false, false, false, false, false, false] rfl rfl (by kernel_rfl) (fun _ _ _ h => h) (Or.inl ⟨by rfl, ?_⟩) hHeld ?_ ?_
 rotate_left
 ·rintro w' ⟨hb_, ⟨s0, s1, s2⟩, s3, s4⟩
  go_simp
  try with_reducible rfl
 rotate_left
 ·simp only [Act.put, List.setIfInBounds_toArray, List.set_cons_zero, List.set_cons_succ]
  rfl
 refine pure_ (i := 2) (N := (some 8)) (v := ?_) (a' := ?_) #[true, true, true, false, false, false, false, false, false, false, false, false, false, false, false, false, false] rfl rfl (by kernel_rfl) (fun _ _ _ h => h) (Or.inl ⟨by rfl, ?_⟩) ?_ ?_
 rotate_left
 ·intro w'
  go_simp
  try with_reducible rfl
 rotate_left
 ·simp only [Act.put, List.setIfInBounds_toArray, List.set_cons_zero, List.set_cons_succ]
  rfl
 refine pure_ (i := 3) (N := (some 9)) (v := ?_) (a' := ?_) #[true, true, true, true, false, false, false, false, false, false, false, false, false, false, false, false, false] rfl rfl (by kernel_rfl) (fun _ _ _ h => h) (Or.inl ⟨by rfl, ?_⟩) ?_ ?_
 rotate_left
 ·intro w'
  go_simp
  try with_reducible rfl
 rotate_left
 ·simp only [Act.put, List.setIfInBounds_toArray, List.set_cons_zero, List.set_cons_succ]
  rfl
 refine pure_ (i := 4) (N := (some 10)) (v := ?_) (a' := ?_) #[true, true, true, true, true, false, false, false, false, false, false, false, false, false, false, false, false] rfl rfl (by kernel_rfl) (fun _ _ _ h => h) (Or.inl ⟨by rfl, ?_⟩) ?_ ?_
 rotate_left
 ·intro w'
  go_simp
  try with_reducible rfl
 rotate_left
 ·simp only [Act.put, List.setIfInBounds_toArray, List.set_cons_zero, List.set_cons_succ]
  rfl
 refine take_ (i := 5) (N := (some 11)) (v := ?_) (a' := ?_) #[true, true, true, true, true, true, false, false, false, false, false, false, false, false, false, false, false] rfl rfl (by kernel_rfl) (fun _ _ _ h => h) (Or.inl ⟨by rfl, ?_⟩) hHeld ?_ ?_
 rotate_left
 ·rintro w' ⟨hb_, ⟨s0, s1, s2⟩, s3, s4⟩
  go_simp
  try with_reducible rfl
 rotate_left
 ·simp only [Act.put, List.setIfInBounds_toArray, List.set_cons_zero, List.set_cons_succ]
  rfl
 refine one_ (i := 6) (N := (some 12)) #[true, true, true, true, true, true, true, false, false, false, false, false, false, false, false, false, false] rfl rfl (by kernel_rfl) (by decide) (fun K hK => ?_)
 refine goes_ Tryz.func87 (by kernel_rfl) rfl #[.agg #[.slice A f.chart.length c, .int .i64 f.dims, .int .i64 f.curs]] (by rfl) rfl rfl (by (try simp only [List.map_toArray, List.map_cons, List.map_nil]); first | done | rfl) ?_
 with_reducible refine (sFrameOk_calls f _ _ HS.out _ C1.out _ (Kd.C_below HR.out hHeld.1)).mono ?_
 rintro e w1 ⟨rfl, hb⟩
 refine ⟨_, rfl, ?_⟩
 refine hK.out _ _ (by refine MK.out _ (below_step hHeld.1 hb)) (fun hHeld => ?_)
 clear hK K
 refine norm_ (a' := ?_) ?_ ?_
 rotate_left
 ·show Act.put _ (some 12) _ = _
  simp only [Act.put, List.setIfInBounds_toArray, List.set_cons_zero, List.set_cons_succ]
  rfl
 refine pure_ (i := 7) (N := (some 13)) (v := ?_) (a' := ?_) #[true, true, true, true, true, true, true, true, false, false, false, false, false, false, false, false, false] rfl rfl (by kernel_rfl) (fun _ _ _ h => h) (Or.inl ⟨by rfl, ?_⟩) ?_ ?_
 rotate_left
 ·intro w'
  go_simp
  try with_reducible rfl
 rotate_left
 ·simp only [Act.put, List.setIfInBounds_toArray, List.set_cons_zero, List.set_cons_succ]
  rfl
 refine pure_ (i := 8) (N := (some 14)) (v := ?_) (a' := ?_) #[true, true, true, true, true, true, true, true, true, false, false, false, false, false, false, false, false] rfl rfl (by kernel_rfl) (fun _ _ _ h => h) (Or.inl ⟨by rfl, ?_⟩) ?_ ?_
 rotate_left
 ·intro w'
  go_simp
  try with_reducible rfl
 rotate_left
 ·simp only [Act.put, List.setIfInBounds_toArray, List.set_cons_zero, List.set_cons_succ]
  rfl
 refine pure_ (i := 9) (N := (some 15)) (v := ?_) (a' := ?_) #[true, true, true, true, true, true, true, true, true, true, false, false, false, false, false, false, false] rfl rfl (by kernel_rfl) (fun _ _ _ h => h) (Or.inl ⟨by rfl, ?_⟩) ?_ ?_
 rotate_left
 ·intro w'
  go_simp
  try with_reducible rfl
 rotate_left
 ·simp only [Act.put, List.setIfInBounds_toArray, List.set_cons_zero, List.set_cons_succ]
  rfl
 refine pure_ (i := 10) (N := (some 16)) (v := ?_) (a' := ?_) #[true, true, true, true, true, true, true, true, true, true, true, false, false, false, false, false, false] rfl rfl (by kernel_rfl) (fun _ _ _ h => h) (Or.inl ⟨by rfl, ?_⟩) ?_ ?_
 rotate_left
 ·intro w'
  go_simp
  try with_reducible rfl
 rotate_left
 ·simp only [Act.put, List.setIfInBounds_toArray, List.set_cons_zero, List.set_cons_succ]
  rfl
 refine take_ (i := 11) (N := (some 17)) (v := ?_) (a' := ?_) #[true, true, true, true, true, true, true, true, true, true, true, true, false, false, false, false, false] rfl rfl (by kernel_rfl) (fun _ _ _ h => h) (Or.inl ⟨by rfl, ?_⟩) hHeld ?_ ?_
 rotate_left
 ·rintro w' ⟨hb_, ⟨s0, s1, s2⟩, s3, s4⟩
  go_simp
  try with_reducible rfl
 rotate_left
 ·simp only [Act.put, List.setIfInBounds_toArray, List.set_cons_zero, List.set_cons_succ]
  rfl
 refine pure_ (i := 12) (N := (some 18)) (v := ?_) (a' := ?_) #[true, true, true, true, true, true, true, true, true, true, true, true, true, false, false, false, false] rfl rfl (by kernel_rfl) (fun _ _ _ h => h) (Or.inl ⟨by rfl, ?_⟩) ?_ ?_
 rotate_left
 ·intro w'
  go_simp
  try with_reducible rfl
 rotate_left
 ·simp only [Act.put, List.setIfInBounds_toArray, List.set_cons_zero, List.set_cons_succ]
  rfl
 refine take_ (i := 13) (N := (some 19)) (v := ?_) (a' := ?_) #[true, true, true, true, true, true, true, true, true, true, true, true, true, true, false, false, false] rfl rfl (by kernel_rfl) (fun _ _ _ h => h) (Or.inl ⟨by rfl, ?_⟩) hHeld ?_ ?_
 rotate_left
 ·rintro w' ⟨hb_, ⟨s0, s1, s2⟩, s3, s4⟩
  go_simp
  try with_reducible rfl
 rotate_left
 ·simp only [Act.put, List.setIfInBounds_toArray, List.set_cons_zero, List.set_cons_succ]
  rfl
 refine one_ (i := 14) (N := (some 20)) #[true, true, true, true, true, true, true, true, true, true, true, true, true, true, true, false, false] rfl rfl (by kernel_rfl) (by decide) (fun K hK => ?_)
 refine goes_ Tryz.func88 (by kernel_rfl) rfl #[.slice A3 g.entries.length c3] (by rfl) rfl rfl (by (try simp only [List.map_toArray, List.map_cons, List.map_nil]); first | done | rfl) ?_
 with_reducible refine (sHeadOf_calls _ _ g.entries HT.out _ HH.out _ (Kd.C_below HE3.out hHeld.1)).mono ?_
 rintro e w1 ⟨rfl, hb⟩
 refine ⟨_, rfl, ?_⟩
 refine hK.out _ _ (by refine MK.out _ (below_step hHeld.1 hb)) (fun hHeld => ?_)
 clear hK K
 refine norm_ (a' := ?_) ?_ ?_
 rotate_left
 ·show Act.put _ (some 20) _ = _
  simp only [Act.put, List.setIfInBounds_toArray, List.set_cons_zero, List.set_cons_succ]
  rfl
 refine pure_ (i := 15) (N := (some 21)) (v := ?_) (a' := ?_) #[true, true, true, true, true, true, true, true, true, true, true, true, true, true, true, true, false] rfl rfl (by kernel_rfl) (fun _ _ _ h => h) (Or.inl ⟨by rfl, ?_⟩) ?_ ?_
 rotate_left
 ·intro w'
  go_simp
  try with_reducible rfl
 rotate_left
 ·simp only [Act.put, List.setIfInBounds_toArray, List.set_cons_zero, List.set_cons_succ]
  rfl
 refine pure_ (i := 16) (N := (some 22)) (v := ?_) (a' := ?_) #[true, true, true, true, true, true, true, true, true, true, true, true, true, true, true, true, true] rfl rfl (by kernel_rfl) (fun _ _ _ h => h) (Or.inl ⟨by rfl, ?_⟩) ?_ ?_
 rotate_left
 ·intro w'
  go_simp
  try with_reducible rfl
 rotate_left
 ·simp only [Act.put, List.setIfInBounds_toArray, List.set_cons_zero, List.set_cons_succ]
  rfl
 refine done_ (by kernel_rfl) ?_
 have HB1 := Aside0.mk hHeld.1
 have HQ := Aside0.mk hHeld.2
 have HB2 := Aside0.mk (below_step HB0.out HB1.out)
 replace HR := Aside0.mk (Kd.C_below HR.out HB1.out)
 replace HE3 := Aside0.mk (Kd.C_below HE3.out HB1.out)
 have hz1 : w.heap.size + 1 < w1.heap.size := Nat.lt_of_lt_of_le hz0 HB1.out.size
 clear hHeld hb HB1 HB0 HC0 MK C1 d1 d3 hz0
 go_wp2
 go_loopg [5] g.entries.length (fun kq v5 w' => ∃ i : Int, v5 = .int .i64 i ∧ 0 ≤ i ∧ i ≤ g.entries.length ∧ Aside0 (kq = g.entries.length - i.toNat) ∧ Aside0 (∀ j : Int, 0 ≤ j → j < i → EntryP f (en g.entries j)) ∧ Aside0 (Below w1.heap.size w1 w'))
 case atStart => exact ⟨0, rfl, by omega, by omega, ⟨rfl⟩, ⟨fun j h0 h1 => by omega⟩, ⟨Below.refl _ _⟩⟩
 case round =>
  obtain ⟨i, rfl, h0, hi, HK, HE, HB⟩ := hrel
  have f3 := pw_cell_below HB.out HQ.out.2.1
  by_cases hlt : i < g.entries.length
  ·obtain ⟨ad, A4, c4, e0, x0, hc4, hC4⟩ := at41 (Kd.C_below HE3.out HB.out) i h0 hlt
   cases e0
   have hty : (rd_T41 g.entries i).f2.size ≤ 9223372036854775807 := HT.out i h0 hlt
   obtain ⟨y, hy⟩ : ∃ y, rd_T41 g.entries i = y := ⟨_, rfl⟩
   rw [hy] at x0 hc4 hC4 hty
   replace hy := Aside0.mk hy
   have HC4 := Aside0.mk hC4
   have HRr := Aside0.mk (Kd.C_below HR.out HB.out)
   have MK := Aside0.mk (show ∀ w', Below wr.heap.size wr w' → (Below wr.heap.size wr w' ∧ ((w'.cell? ⟨w.heap.size, 0, none⟩ = some (.slice A f.chart.length c) ∧ w'.cell? ⟨w.heap.size, 1, none⟩ = some (.int .i64 f.dims) ∧ w'.cell? ⟨w.heap.size, 2, none⟩ = some (.int .i64 f.curs)) ∧ (w'.cell? ⟨w.heap.size + 1, 0, none⟩ = some (.slice (some ad) g.entries.length c3) ∧ w'.cell? ⟨w.heap.size + 1, 1, none⟩ = some (.int .i64 g.head))) ∧ At41 w' (ad.add (i.toNat * 4)) y A4 c4) from fun w' hb => ⟨hb, ⟨⟨pw_cell_below hb (pw_cell_below HB.out HQ.out.1.1), pw_cell_below hb (pw_cell_below HB.out HQ.out.1.2.1), pw_cell_below hb (pw_cell_below HB.out HQ.out.1.2.2)⟩, pw_cell_below hb (pw_cell_below HB.out HQ.out.2.1), pw_cell_below hb (pw_cell_below HB.out HQ.out.2.2)⟩, x0.below hb⟩)
   clear x0 hC4 hc4
   by_cases hx : EntryP f y
   ·have CX := Aside0.mk (bP_t (And.intro HP.out.2.1 hx))
    replace hx := Aside0.mk hx
    go_wp2
    clear f3
    go_region_held3 (fun w' => Below wr.heap.size wr w' ∧ ((w'.cell? ⟨w.heap.size, 0, none⟩ = some (.slice A f.chart.length c) ∧ w'.cell? ⟨w.heap.size, 1, none⟩ = some (.int .i64 f.dims) ∧ w'.cell? ⟨w.heap.size, 2, none⟩ = some (.int .i64 f.curs)) ∧ (w'.cell? ⟨w.heap.size + 1, 0, none⟩ = some (.slice (some ad) g.entries.length c3) ∧ w'.cell? ⟨w.heap.size + 1, 1, none⟩ = some (.int .i64 g.head))) ∧ At41 w' (ad.add (i.toNat * 4)) y A4 c4) ((refine MK.out _ ?_; repeat (with_reducible first | assumption | exact And.left (by assumption) | exact Below.refl _ _ | apply below_drew1 | apply below_alloc | refine below_step ?_ (by assumption)))) (first | (go_at_call 44; (with_reducible refine (sEntryOk_calls f _ _ y _ _ HS.out hty _ CX.out _ (Kd.C_below HRr.out (by repeat (with_reducible first | assumption | exact And.left (by assumption) | exact Below.refl _ _ | apply below_drew1 | apply below_alloc | refine below_step ?_ (by assumption)))) (Kd.C_below HC4.out (by repeat (with_reducible first | assumption | exact And.left (by assumption) | exact Below.refl _ _ | apply below_drew1 | apply below_alloc | refine below_step ?_ (by assumption))))).mono ?_); rintro e w2 ⟨rfl, hb⟩))
    have HB3 := Aside0.mk (below_step HB.out (‹Below wr.heap.size wr _ ∧ _›.1))
    clear HB MK HRr
    go_wp2
    go_roundg (g.entries.length - (i + 1).toNat)
    case measure => have := HK.out; omega
    case rel => exact ⟨i + 1, rfl, by omega, by omega, ⟨rfl⟩, ⟨fun j h0 h1 => by rcases Int.lt_or_eq_of_le (Int.lt_add_one_iff.1 h1) with h | rfl; exact HE.out j h0 h; unfold en; rw [hy.out]; exact hx.out⟩, HB3⟩
   ·have CX := Aside0.mk (bP_f (fun h : FrameP f ∧ EntryP f y => hx h.2))
    have HF := Aside0.mk (bP_f (show ¬ LedgerP f g from fun h => hx (by have := h.2.2.2 i h0 hlt; unfold en at this; rw [hy.out] at this; exact this)))
    clear hx
    go_wp2
    clear f3
    go_region_held3 (fun w' => Below wr.heap.size wr w' ∧ ((w'.cell? ⟨w.heap.size, 0, none⟩ = some (.slice A f.chart.length c) ∧ w'.cell? ⟨w.heap.size, 1, none⟩ = some (.int .i64 f.dims) ∧ w'.cell? ⟨w.heap.size, 2, none⟩ = some (.int .i64 f.curs)) ∧ (w'.cell? ⟨w.heap.size + 1, 0, none⟩ = some (.slice (some ad) g.entries.length c3) ∧ w'.cell? ⟨w.heap.size + 1, 1, none⟩ = some (.int .i64 g.head))) ∧ At41 w' (ad.add (i.toNat * 4)) y A4 c4) ((refine MK.out _ ?_; repeat (with_reducible first | assumption | exact And.left (by assumption) | exact Below.refl _ _ | apply below_drew1 | apply below_alloc | refine below_step ?_ (by assumption)))) (first | (go_at_call 44; (with_reducible refine (sEntryOk_calls f _ _ y _ _ HS.out hty _ CX.out _ (Kd.C_below HRr.out (by repeat (with_reducible first | assumption | exact And.left (by assumption) | exact Below.refl _ _ | apply below_drew1 | apply below_alloc | refine below_step ?_ (by assumption)))) (Kd.C_below HC4.out (by repeat (with_reducible first | assumption | exact And.left (by assumption) | exact Below.refl _ _ | apply below_drew1 | apply below_alloc | refine below_step ?_ (by assumption))))).mono ?_); rintro e w2 ⟨rfl, hb⟩))
    have HB3 := Aside0.mk (below_step HB2.out (below_step HB.out (‹Below wr.heap.size wr _ ∧ _›.1)))
    clear HB MK HRr
    go_wp2
    go_ret
    exact ⟨ret_b HF.out.symm, HB3.out⟩
  ·have HF := Aside0.mk (bP_t (show LedgerP f g from ⟨HP.out.1, HP.out.2.1, HP.out.2.2, fun j h0 h1 => HE.out j h0 (by omega)⟩))
   go_wp2
   go_ret
   exact ⟨ret_b HF.out.symm, below_step HB2.out HB.out⟩
end Go.Proofs.YtheaeffhhbjpmaaGreatDoor

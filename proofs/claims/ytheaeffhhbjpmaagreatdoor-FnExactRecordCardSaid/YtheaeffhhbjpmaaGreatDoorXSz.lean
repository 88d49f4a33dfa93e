/- The sz.. functions of the exact laws take a value's size off a bound (-1 where it does not suffice), and turn nothing that was there. -/
import Derived.Test.YtheaeffhhbjpmaaGreatDoorXB0
namespace Go.Proofs.YtheaeffhhbjpmaaGreatDoor
open Go.RowKit Go.Proofs.YtheaeffhhbjpmaaGreatDoorW.PrintWords Go.Proofs.YtheaeffhhbjpmaaGreatDoorW.PrintLast
set_option linter.unusedVariables false
set_option linter.unusedSimpArgs false
def sub (left c : Int) : Int := if left - c < 0 then -1 else left - c
def sumC {α : Type} (f : α → Int) : List α → Int
 | [] => 0
 | a :: t => f a + sumC f t
theorem sumC_nonneg {α : Type} {f : α → Int} (hf : ∀ a, 0 ≤ f a) : ∀ l : List α, 0 ≤ sumC f l
 | [] => Int.le_refl _
 | a :: t => by have := sumC_nonneg hf t; have := hf a; simp only [sumC]; omega
theorem drop_cons {α : Type} (l : List α) (d : α) {i : Int} (h0 : 0 ≤ i) (h1 : i < l.length) : l.drop i.toNat = l.getD i.toNat d :: l.drop (i + 1).toNat := by
 have h : i.toNat < l.length := by omega
 rw [show (i + 1).toNat = i.toNat + 1 by omega, List.drop_eq_getElem_cons h]
 simp [h]
def costA (a : S48) : Int := a.f0.size
def costAs (l : List S48) : Int := l.length + sumC costA l
def costE (e : S41) : Int := e.f2.size + e.f3.length
def costEs (l : List S41) : Int := l.length + sumC costE l
def costB (b : BooksD) : Int := costAs b.frame.chart + costEs b.ledg.entries + b.periods.length
theorem costA_nn (a : S48) : 0 ≤ costA a := by unfold costA; omega
theorem costE_nn (a : S41) : 0 ≤ costE a := by unfold costE; omega
theorem sub_lt {l a b : Int} (ha : l - a < 0) (hb : 0 ≤ b) : -1 = sub l (a + b) := by unfold sub; rw [if_pos (by omega)]
abbrev BIG : Int := 140737488351232

theorem szAccount_calls (a0 : ByteArray) (a1 a2 : Int) (left : Int) (h0 : 0 ≤ left) (h1 : left ≤ 1048576) (hs : (a0.size : Int) ≤ 140737488351232) (w : World) : Calls Tryz.prog 129 #[.agg #[.string a0, .int .i64 a1, .int .i64 a2], .int .i64 left] w fun e w' => e = .returned (.int .i64 (sub left ((a0.size : Int)))) ∧ Below w.heap.size w w' := by
 go_enter Tryz.func129, Tryz.ntmps129
 go_wp2
 all_goals (go_ret; refine ⟨ret_i (by unfold sub; first | (rw [if_pos (by omega)]; done) | (rw [if_neg (by omega)]; done)), (by repeat (first | (with_reducible assumption) | exact Below.refl _ _ | apply below_alloc | apply below_drew1 | refine below_step ?_ (by assumption)))⟩)

theorem szLineS_calls (A : Option Addr) (c : Nat) (l : List S88) (left : Int) (h0 : 0 ≤ left) (h1 : left ≤ 1048576) (hs : (l.length : Int) ≤ 140737488351232) (w : World) : Calls Tryz.prog 62 #[.slice A l.length c, .int .i64 left] w fun e w' => e = .returned (.int .i64 (sub left ((l.length : Int)))) ∧ Below w.heap.size w w' := by
 go_enter Tryz.func62, Tryz.ntmps62
 go_wp2
 all_goals (go_ret; refine ⟨ret_i (by unfold sub; first | (rw [if_pos (by omega)]; done) | (rw [if_neg (by omega)]; done)), (by repeat (first | (with_reducible assumption) | exact Below.refl _ _ | apply below_alloc | apply below_drew1 | refine below_step ?_ (by assumption)))⟩)

theorem szPeriodS_calls (A : Option Addr) (c : Nat) (l : List S84) (left : Int) (h0 : 0 ≤ left) (h1 : left ≤ 1048576) (hs : (l.length : Int) ≤ 140737488351232) (w : World) : Calls Tryz.prog 61 #[.slice A l.length c, .int .i64 left] w fun e w' => e = .returned (.int .i64 (sub left ((l.length : Int)))) ∧ Below w.heap.size w w' := by
 go_enter Tryz.func61, Tryz.ntmps61
 go_wp2
 all_goals (go_ret; refine ⟨ret_i (by unfold sub; first | (rw [if_pos (by omega)]; done) | (rw [if_neg (by omega)]; done)), (by repeat (first | (with_reducible assumption) | exact Below.refl _ _ | apply below_alloc | apply below_drew1 | refine below_step ?_ (by assumption)))⟩)

theorem szAccount_callsR (a0 : ByteArray) (a1 a2 : Int) (left : Int) (r : Int) (h : sub left (costA ⟨a0, a1, a2⟩) = r) (h0 : 0 ≤ left) (h1 : left ≤ 1048576) (hs : (a0.size : Int) ≤ 140737488351232) (w : World) : Calls Tryz.prog 129 #[.agg #[.string a0, .int .i64 a1, .int .i64 a2], .int .i64 left] w fun e w' => e = .returned (.int .i64 r) ∧ Below w.heap.size w w' := by
 rw [← h]
 exact szAccount_calls a0 a1 a2 left h0 h1 hs w

set_option maxRecDepth 100000 in
theorem szAccountS_calls (A : Option Addr) (c : Nat) (l : List S48) (left0 : Int) (h0 : 0 ≤ left0) (h1 : left0 ≤ 1048576) (hs : (l.length : Int) ≤ 140737488351232) (hss : ∀ a ∈ l, (a.f0.size : Int) ≤ 140737488351232) (w : World) (hr : Kd.C k48 w A l.length l) :
  Calls Tryz.prog 103 #[.slice A l.length c, .int .i64 left0] w fun e w' => e = .returned (.int .i64 (sub left0 ((l.length : Int) + sumC costA l))) ∧ Below w.heap.size w w' := by
 have HR := Aside0.mk hr
 have HS := Aside0.mk hss
 clear hr hss
 by_cases hc : left0 - l.length < 0
 ·have hr := Aside0.mk (sub_lt hc (sumC_nonneg costA_nn l))
  go_enter Tryz.func103, Tryz.ntmps103
  go_wp2
  go_ret
  exact ⟨ret_i hr.out, Below.refl _ _⟩
 ·have HT := Aside0.mk (show sub (left0 - l.length) (sumC costA (l.drop 0)) = sub left0 ((l.length : Int) + sumC costA l) by unfold sub; rw [List.drop_zero]; split <;> split <;> omega)
  go_enter Tryz.func103, Tryz.ntmps103
  go_wp2
  go_loopg [1, 5] (l.length) (fun kq v1 v5 w' => ∃ i left : Int, v1 = .int .i64 left ∧ v5 = .int .i64 i ∧ 0 ≤ i ∧ i ≤ l.length ∧ 0 ≤ left ∧ left ≤ 1048576 ∧ Aside0 (kq = l.length - i.toNat) ∧ Aside0 (sub left (sumC costA (l.drop i.toNat)) = sub left0 ((l.length : Int) + sumC costA l)) ∧ Aside0 (Below w.heap.size w w'))
  case atStart => exact ⟨0, left0 - l.length, rfl, rfl, by omega, by omega, by omega, by omega, ⟨rfl⟩, HT, ⟨Below.refl _ _⟩⟩
  case round =>
   clear h0 h1 hc
   obtain ⟨i, left, rfl, rfl, hi0, hi, hl0, hl1, HK, HE, HB⟩ := hrel
   by_cases hlt : i < l.length
   ·obtain ⟨ad, e0, x0⟩ := at48 (Kd.C_below HR.out HB.out) i hi0 hlt
    cases e0
    obtain ⟨x0, x1, x2⟩ := x0
    have hs1 := HS.out (rd_T48 l i) (mem_getD z48 hi0 hlt)
    have hd := drop_cons l z48 hi0 hlt
    have HD := Aside0.mk (show sumC costA (l.drop i.toNat) = costA (rd_T48 l i) + sumC costA (l.drop (i + 1).toNat) by rw [hd]; rfl)
    clear hd
    by_cases hc : left - costA (rd_T48 l i) < 0
    ·have HC := Aside0.mk (show sub left (costA (rd_T48 l i)) = -1 by unfold sub; rw [if_pos hc])
     have HF := Aside0.mk (show (-1 : Int) = sub left0 ((l.length : Int) + sumC costA l) by rw [← HE.out, HD.out]; exact sub_lt hc (sumC_nonneg costA_nn _))
     clear hc
     go_wp2_with (go_at_call 129; refine (szAccount_callsR (rd_T48 l i).f0 (rd_T48 l i).f1 (rd_T48 l i).f2 left (-1) HC.out hl0 hl1 hs1 _).mono ?_; rintro e w1 ⟨rfl, hb⟩)
     go_ret
     exact ⟨ret_i HF.out, below_step HB.out hb⟩
    ·have HC := Aside0.mk (show sub left (costA (rd_T48 l i)) = left - costA (rd_T48 l i) by unfold sub; rw [if_neg hc])
     have hn := costA_nn (rd_T48 l i)
     generalize hg : left - costA (rd_T48 l i) = left2 at *
     have HG := Aside0.mk hg
     clear hg
     have q0 : 0 ≤ left2 := by omega
     have q1 : left2 ≤ 1048576 := by have := HG.out; omega
     clear hc hn
     go_wp2_with (go_at_call 129; refine (szAccount_callsR (rd_T48 l i).f0 (rd_T48 l i).f1 (rd_T48 l i).f2 left left2 HC.out hl0 hl1 hs1 _).mono ?_; rintro e w1 ⟨rfl, hb⟩)
     go_roundg (l.length - (i + 1).toNat)
     case measure => have := HK.out; omega
     case rel => exact ⟨i + 1, left2, rfl, rfl, by omega, by omega, q0, q1, ⟨rfl⟩, ⟨by have e1 := HE.out; rw [HD.out] at e1; rw [← e1, ← HG.out]; unfold sub; split <;> split <;> omega⟩, ⟨below_step HB.out hb⟩⟩
   ·have HF := Aside0.mk (show left = sub left0 ((l.length : Int) + sumC costA l) by have e1 := HE.out; rw [List.drop_of_length_le (by omega)] at e1; rw [← e1]; unfold sub sumC; rw [if_neg (by omega)]; omega)
    go_wp2
    go_ret
    exact ⟨ret_i HF.out, HB.out⟩

theorem szAccountS_callsR (A : Option Addr) (c : Nat) (l : List S48) (left : Int) (r : Int) (h : sub left ((l.length : Int) + sumC costA l) = r) (h0 : 0 ≤ left) (h1 : left ≤ 1048576) (hs : (l.length : Int) ≤ 140737488351232) (hss : ∀ a ∈ l, (a.f0.size : Int) ≤ 140737488351232) (w : World) (hr : Kd.C k48 w A l.length l) :
  Calls Tryz.prog 103 #[.slice A l.length c, .int .i64 left] w fun e w' => e = .returned (.int .i64 r) ∧ Below w.heap.size w w' := by
 rw [← h]
 exact szAccountS_calls A c l left h0 h1 hs hss w hr

theorem szLineS_callsR (A : Option Addr) (c : Nat) (l : List S88) (left : Int) (r : Int) (h : sub left ((l.length : Int)) = r) (h0 : 0 ≤ left) (h1 : left ≤ 1048576) (hs : (l.length : Int) ≤ 140737488351232) (w : World) : Calls Tryz.prog 62 #[.slice A l.length c, .int .i64 left] w fun e w' => e = .returned (.int .i64 r) ∧ Below w.heap.size w w' := by
 rw [← h]
 exact szLineS_calls A c l left h0 h1 hs w

theorem szPeriodS_callsR (A : Option Addr) (c : Nat) (l : List S84) (left : Int) (r : Int) (h : sub left ((l.length : Int)) = r) (h0 : 0 ≤ left) (h1 : left ≤ 1048576) (hs : (l.length : Int) ≤ 140737488351232) (w : World) : Calls Tryz.prog 61 #[.slice A l.length c, .int .i64 left] w fun e w' => e = .returned (.int .i64 r) ∧ Below w.heap.size w w' := by
 rw [← h]
 exact szPeriodS_calls A c l left h0 h1 hs w
set_option maxRecDepth 100000 in
theorem szEntry_calls (a0 a1 : Int) (a2 : ByteArray) (A : Option Addr) (c : Nat) (l : List S88) (left : Int) (h0 : 0 ≤ left) (h1 : left ≤ 1048576) (hs1 : (a2.size : Int) ≤ 140737488351232) (hs2 : (l.length : Int) ≤ 140737488351232) (w : World) : Calls Tryz.prog 19 #[.agg #[.int .i64 a0, .int .i64 a1, .string a2, .slice A l.length c], .int .i64 left] w fun e w' => e = .returned (.int .i64 (sub left ((a2.size : Int) + l.length))) ∧ Below w.heap.size w w' := by
 have hu64 := Tryz.underlying64
 by_cases hc : left - a2.size < 0
 ·have HF := Aside0.mk (sub_lt hc (show (0 : Int) ≤ l.length by omega))
  go_enter Tryz.func19, Tryz.ntmps19
  go_wp2
  go_ret
  exact ⟨ret_i HF.out, (by repeat (first | (with_reducible assumption) | exact Below.refl _ _ | apply below_alloc | apply below_drew1 | refine below_step ?_ (by assumption)))⟩
 ·have q : 0 ≤ left - a2.size := by omega
  have q1 : left - (a2.size : Int) ≤ 1048576 := by omega
  have HX := Aside0.mk (show (if sub (left - a2.size) (l.length : Int) < 0 then -1 else sub (left - a2.size) (l.length : Int)) = sub left ((a2.size : Int) + l.length) by unfold sub; split <;> split <;> (try split) <;> omega)
  generalize hg : sub (left - a2.size) (l.length : Int) = r at *
  have HG := Aside0.mk hg
  clear hg
  go_enter Tryz.func19, Tryz.ntmps19
  go_wp2_with (go_at_call 62; refine (szLineS_callsR _ _ l (left - a2.size) r HG.out q q1 hs2 _).mono ?_; rintro e w1 ⟨rfl, hb⟩)
  all_goals go_ret
  all_goals refine ⟨ret_i (by first | (rw [← HX.out, if_pos (by assumption)]; done) | (rw [← HX.out, if_neg (by omega)]; done)), (by repeat (first | (with_reducible assumption) | exact Below.refl _ _ | apply below_alloc | apply below_drew1 | refine below_step ?_ (by assumption)))⟩

theorem szEntry_callsR (a0 a1 : Int) (a2 : ByteArray) (A : Option Addr) (c : Nat) (l : List S88) (left : Int) (r : Int) (h : sub left (costE ⟨a0, a1, a2, l⟩) = r) (h0 : 0 ≤ left) (h1 : left ≤ 1048576) (hs1 : (a2.size : Int) ≤ 140737488351232) (hs2 : (l.length : Int) ≤ 140737488351232) (w : World) : Calls Tryz.prog 19 #[.agg #[.int .i64 a0, .int .i64 a1, .string a2, .slice A l.length c], .int .i64 left] w fun e w' => e = .returned (.int .i64 r) ∧ Below w.heap.size w w' := by
 rw [← h]
 exact szEntry_calls a0 a1 a2 A c l left h0 h1 hs1 hs2 w

set_option maxRecDepth 100000 in
theorem szEntryS_calls (A : Option Addr) (c : Nat) (l : List S41) (left0 : Int) (h0 : 0 ≤ left0) (h1 : left0 ≤ 1048576) (hs : (l.length : Int) ≤ 140737488351232) (hss : ∀ a ∈ l, (a.f2.size : Int) ≤ 140737488351232 ∧ (a.f3.length : Int) ≤ 140737488351232) (w : World) (hr : Kd.C k41 w A l.length l) :
  Calls Tryz.prog 104 #[.slice A l.length c, .int .i64 left0] w fun e w' => e = .returned (.int .i64 (sub left0 ((l.length : Int) + sumC costE l))) ∧ Below w.heap.size w w' := by
 have HR := Aside0.mk hr
 have HS := Aside0.mk hss
 clear hr hss
 by_cases hc : left0 - l.length < 0
 ·have hr := Aside0.mk (sub_lt hc (sumC_nonneg costE_nn l))
  go_enter Tryz.func104, Tryz.ntmps104
  go_wp2
  go_ret
  exact ⟨ret_i hr.out, Below.refl _ _⟩
 ·have HT := Aside0.mk (show sub (left0 - l.length) (sumC costE (l.drop 0)) = sub left0 ((l.length : Int) + sumC costE l) by unfold sub; rw [List.drop_zero]; split <;> split <;> omega)
  go_enter Tryz.func104, Tryz.ntmps104
  go_wp2
  go_loopg [1, 5] (l.length) (fun kq v1 v5 w' => ∃ i left : Int, v1 = .int .i64 left ∧ v5 = .int .i64 i ∧ 0 ≤ i ∧ i ≤ l.length ∧ 0 ≤ left ∧ left ≤ 1048576 ∧ Aside0 (kq = l.length - i.toNat) ∧ Aside0 (sub left (sumC costE (l.drop i.toNat)) = sub left0 ((l.length : Int) + sumC costE l)) ∧ Aside0 (Below w.heap.size w w'))
  case atStart => exact ⟨0, left0 - l.length, rfl, rfl, by omega, by omega, by omega, by omega, ⟨rfl⟩, HT, ⟨Below.refl _ _⟩⟩
  case round =>
   clear h0 h1 hc
   obtain ⟨i, left, rfl, rfl, hi0, hi, hl0, hl1, HK, HE, HB⟩ := hrel
   by_cases hlt : i < l.length
   ·obtain ⟨ad, N, nc, e0, x0, _, y0⟩ := at41 (Kd.C_below HR.out HB.out) i hi0 hlt
    cases e0
    obtain ⟨x0, x1, x2, x3⟩ := x0
    have hs1 := (HS.out (rd_T41 l i) (mem_getD z41 hi0 hlt)).1
    have hs2 := (HS.out (rd_T41 l i) (mem_getD z41 hi0 hlt)).2
    have hd := drop_cons l z41 hi0 hlt
    have HD := Aside0.mk (show sumC costE (l.drop i.toNat) = costE (rd_T41 l i) + sumC costE (l.drop (i + 1).toNat) by rw [hd]; rfl)
    clear hd
    by_cases hc : left - costE (rd_T41 l i) < 0
    ·have HC := Aside0.mk (show sub left (costE (rd_T41 l i)) = -1 by unfold sub; rw [if_pos hc])
     have HF := Aside0.mk (show (-1 : Int) = sub left0 ((l.length : Int) + sumC costE l) by rw [← HE.out, HD.out]; exact sub_lt hc (sumC_nonneg costE_nn _))
     clear hc
     go_wp2_with (go_at_call 19; refine (szEntry_callsR (rd_T41 l i).f0 (rd_T41 l i).f1 (rd_T41 l i).f2 _ _ (rd_T41 l i).f3 left (-1) HC.out hl0 hl1 hs1 hs2 _).mono ?_; rintro e w1 ⟨rfl, hb⟩)
     go_ret
     exact ⟨ret_i HF.out, below_step HB.out hb⟩
    ·have HC := Aside0.mk (show sub left (costE (rd_T41 l i)) = left - costE (rd_T41 l i) by unfold sub; rw [if_neg hc])
     have hn := costE_nn (rd_T41 l i)
     generalize hg : left - costE (rd_T41 l i) = left2 at *
     have HG := Aside0.mk hg
     clear hg
     have q0 : 0 ≤ left2 := by omega
     have q1 : left2 ≤ 1048576 := by have := HG.out; omega
     clear hc hn
     go_wp2_with (go_at_call 19; refine (szEntry_callsR (rd_T41 l i).f0 (rd_T41 l i).f1 (rd_T41 l i).f2 _ _ (rd_T41 l i).f3 left left2 HC.out hl0 hl1 hs1 hs2 _).mono ?_; rintro e w1 ⟨rfl, hb⟩)
     go_roundg (l.length - (i + 1).toNat)
     case measure => have := HK.out; omega
     case rel => exact ⟨i + 1, left2, rfl, rfl, by omega, by omega, q0, q1, ⟨rfl⟩, ⟨by have e1 := HE.out; rw [HD.out] at e1; rw [← e1, ← HG.out]; unfold sub; split <;> split <;> omega⟩, ⟨below_step HB.out hb⟩⟩
   ·have HF := Aside0.mk (show left = sub left0 ((l.length : Int) + sumC costE l) by have e1 := HE.out; rw [List.drop_of_length_le (by omega)] at e1; rw [← e1]; unfold sub sumC; rw [if_neg (by omega)]; omega)
    go_wp2
    go_ret
    exact ⟨ret_i HF.out, HB.out⟩

theorem szEntryS_callsR (A : Option Addr) (c : Nat) (l : List S41) (left : Int) (r : Int) (h : sub left ((l.length : Int) + sumC costE l) = r) (h0 : 0 ≤ left) (h1 : left ≤ 1048576) (hs : (l.length : Int) ≤ 140737488351232) (hss : ∀ a ∈ l, (a.f2.size : Int) ≤ 140737488351232 ∧ (a.f3.length : Int) ≤ 140737488351232) (w : World) (hr : Kd.C k41 w A l.length l) :
  Calls Tryz.prog 104 #[.slice A l.length c, .int .i64 left] w fun e w' => e = .returned (.int .i64 r) ∧ Below w.heap.size w w' := by
 rw [← h]
 exact szEntryS_calls A c l left h0 h1 hs hss w hr
set_option maxRecDepth 100000 in
theorem szFrame_calls (f : FrameD) (A : Option Addr) (c : Nat) (left : Int) (r : Int) (h : sub left (costAs f.chart) = r) (h0 : 0 ≤ left) (h1 : left ≤ 1048576) (hs : (f.chart.length : Int) ≤ 140737488351232) (hss : ∀ a ∈ f.chart, (a.f0.size : Int) ≤ 140737488351232) (w : World) (hr : Kd.C k48 w A f.chart.length f.chart) :
  Calls Tryz.prog 59 #[.agg #[.slice A f.chart.length c, .int .i64 f.dims, .int .i64 f.curs], .int .i64 left] w fun e w' => e = .returned (.int .i64 r) ∧ Below w.heap.size w w' := by
 have hu := Tryz.underlying55
 have HR := Aside0.mk hr
 have HS := Aside0.mk hss
 have hq : r = -1 ∨ 0 ≤ r := by rw [← h]; unfold sub; split <;> omega
 have HH := Aside0.mk (show sub left ((f.chart.length : Int) + sumC costA f.chart) = r from h)
 clear hr hss h
 rcases hq with rfl | hq
 all_goals
  go_enter Tryz.func59, Tryz.ntmps59
  go_wp2_with (go_at_call 103; refine (szAccountS_callsR _ _ f.chart left _ HH.out h0 h1 hs HS.out _ (Kd.C_below HR.out (by repeat (first | (with_reducible assumption) | exact Below.refl _ _ | apply below_alloc | apply below_drew1 | refine below_step ?_ (by assumption))))).mono ?_; rintro e w1 ⟨rfl, hb⟩)
  go_ret
  exact ⟨rfl, (by repeat (first | (with_reducible assumption) | exact Below.refl _ _ | apply below_alloc | apply below_drew1 | refine below_step ?_ (by assumption)))⟩
set_option maxRecDepth 100000 in
theorem szLedger_calls (f : LedgD) (A : Option Addr) (c : Nat) (left : Int) (r : Int) (h : sub left (costEs f.entries) = r) (h0 : 0 ≤ left) (h1 : left ≤ 1048576) (hs : (f.entries.length : Int) ≤ 140737488351232) (hss : ∀ a ∈ f.entries, (a.f2.size : Int) ≤ 140737488351232 ∧ (a.f3.length : Int) ≤ 140737488351232) (w : World) (hr : Kd.C k41 w A f.entries.length f.entries) :
  Calls Tryz.prog 60 #[.agg #[.slice A f.entries.length c, .int .i64 f.head], .int .i64 left] w fun e w' => e = .returned (.int .i64 r) ∧ Below w.heap.size w w' := by
 have hu := Tryz.underlying58
 have HR := Aside0.mk hr
 have HS := Aside0.mk hss
 have hq : r = -1 ∨ 0 ≤ r := by rw [← h]; unfold sub; split <;> omega
 have HH := Aside0.mk (show sub left ((f.entries.length : Int) + sumC costE f.entries) = r from h)
 clear hr hss h
 rcases hq with rfl | hq
 all_goals
  go_enter Tryz.func60, Tryz.ntmps60
  go_wp2_with (go_at_call 104; refine (szEntryS_callsR _ _ f.entries left _ HH.out h0 h1 hs HS.out _ (Kd.C_below HR.out (by repeat (first | (with_reducible assumption) | exact Below.refl _ _ | apply below_alloc | apply below_drew1 | refine below_step ?_ (by assumption))))).mono ?_; rintro e w1 ⟨rfl, hb⟩)
  go_ret
  exact ⟨rfl, (by repeat (first | (with_reducible assumption) | exact Below.refl _ _ | apply below_alloc | apply below_drew1 | refine below_step ?_ (by assumption)))⟩
theorem costAs_nn (l : List S48) : 0 ≤ costAs l := by have := sumC_nonneg costA_nn l; unfold costAs; omega
theorem costEs_nn (l : List S41) : 0 ≤ costEs l := by have := sumC_nonneg costE_nn l; unfold costEs; omega
theorem sub_steps {l a b : Int} (hl : 0 ≤ l) (ha : 0 ≤ a) (hb : 0 ≤ b) : (sub l a = -1 ∧ sub l (a + b) = -1) ∨ (sub l a = l - a ∧ 0 ≤ l - a ∧ sub l (a + b) = sub (l - a) b) := by
 unfold sub
 by_cases h : l - a < 0
 ·exact .inl ⟨if_pos h, if_pos (by omega)⟩
 ·exact .inr ⟨if_neg h, by omega, by rw [show l - (a + b) = l - a - b by omega]⟩
structure ABooks where
 A0 : Option Addr
 c0 : Nat
 A3 : Option Addr
 c3 : Nat
 A5 : Option Addr
 c5 : Nat
/-- What a books' value reads as. -/
structure RdB (w : World) (a : ABooks) (b : BooksD) : Prop where
 r0 : Kd.C k48 w a.A0 b.frame.chart.length b.frame.chart
 r3 : Kd.C k41 w a.A3 b.ledg.entries.length b.ledg.entries
 r5 : Kd.C k84 w a.A5 b.periods.length b.periods
theorem RdB.below {w w1 : World} {a : ABooks} {b : BooksD} (h : RdB w a b) (hb : Below w.heap.size w w1) : RdB w1 a b := ⟨Kd.C_below h.r0 hb, Kd.C_below h.r3 hb, Kd.C_below h.r5 hb⟩
abbrev valB (a : ABooks) (b : BooksD) : Value := .agg #[.slice a.A0 b.frame.chart.length a.c0, .int .i64 b.frame.dims, .int .i64 b.frame.curs, .slice a.A3 b.ledg.entries.length a.c3, .int .i64 b.ledg.head, .slice a.A5 b.periods.length a.c5, .int .i64 b.closed, .int .i64 b.kept]
/-- No list and no text of it is too long for a machine. -/
structure SzB (b : BooksD) : Prop where
 s0 : (b.frame.chart.length : Int) ≤ 140737488351232
 s1 : ∀ a ∈ b.frame.chart, (a.f0.size : Int) ≤ 140737488351232
 s2 : (b.ledg.entries.length : Int) ≤ 140737488351232
 s3 : ∀ a ∈ b.ledg.entries, (a.f2.size : Int) ≤ 140737488351232 ∧ (a.f3.length : Int) ≤ 140737488351232
 s4 : (b.periods.length : Int) ≤ 140737488351232
set_option maxRecDepth 100000 in
theorem szBooks_calls (a : ABooks) (b : BooksD) (left : Int) (r : Int) (h : sub left (costB b) = r) (h0 : 0 ≤ left) (h1 : left ≤ 1048576) (hs : SzB b) (w : World) (hr : RdB w a b) :
  Calls Tryz.prog 18 #[valB a b, .int .i64 left] w fun e w' => e = .returned (.int .i64 r) ∧ Below w.heap.size w w' := by
 have hu := Tryz.underlying61
 have hu55 := Tryz.underlying55
 have hu58 := Tryz.underlying58
 subst h
 have HR := Aside0.mk hr
 have HS := Aside0.mk hs
 clear hr hs
 have t0 := costAs_nn b.frame.chart
 have t1 := costEs_nn b.ledg.entries
 rcases sub_steps (b := costEs b.ledg.entries + b.periods.length) h0 t0 (by omega) with ⟨e1, e2⟩ | ⟨e1, p1, e2⟩
 ·have HF := Aside0.mk (show (-1 : Int) = sub left (costB b) by unfold costB; rw [← e2]; congr 1; omega)
  have H1 := Aside0.mk e1
  clear e1 e2
  go_enter Tryz.func18, Tryz.ntmps18
  go_wp2_with (go_at_call 59; refine (szFrame_calls b.frame _ _ left (-1) H1.out h0 h1 HS.out.s0 HS.out.s1 _ (Kd.C_below HR.out.r0 (by repeat (first | (with_reducible assumption) | exact Below.refl _ _ | apply below_alloc | apply below_drew1 | refine below_step ?_ (by assumption))))).mono ?_; rintro e w1 ⟨rfl, hb⟩)
  go_ret
  exact ⟨ret_i HF.out, (by repeat (first | (with_reducible assumption) | exact Below.refl _ _ | apply below_alloc | apply below_drew1 | refine below_step ?_ (by assumption)))⟩
 ·have q1 : left - costAs b.frame.chart ≤ 1048576 := by omega
  have H1 := Aside0.mk e1
  clear e1
  rcases sub_steps (b := (b.periods.length : Int)) p1 t1 (by omega) with ⟨e3, e4⟩ | ⟨e3, p3, e4⟩
  ·have HF := Aside0.mk (show (-1 : Int) = sub left (costB b) by unfold costB; rw [← e4, ← e2]; congr 1; omega)
   have H3 := Aside0.mk e3
   generalize left - costAs b.frame.chart = l1 at *
   clear e3 e4 e2
   go_enter Tryz.func18, Tryz.ntmps18
   go_wp2_with (first | (go_at_call 59; refine (szFrame_calls b.frame _ _ left l1 H1.out h0 h1 HS.out.s0 HS.out.s1 _ (Kd.C_below HR.out.r0 (by repeat (first | (with_reducible assumption) | exact Below.refl _ _ | apply below_alloc | apply below_drew1 | refine below_step ?_ (by assumption))))).mono ?_; rintro e w1 ⟨rfl, hb⟩; obtain ⟨hc1, hf1⟩ := bcell hb; have hz1 : w.heap.size < w1.heap.size := (by have := hb.size; (try simp at this); omega)) | (go_at_call 60; refine (szLedger_calls b.ledg _ _ l1 (-1) H3.out p1 q1 HS.out.s2 HS.out.s3 _ (Kd.C_below HR.out.r3 (by repeat (first | (with_reducible assumption) | exact Below.refl _ _ | apply below_alloc | apply below_drew1 | refine below_step ?_ (by assumption))))).mono ?_; rintro e w2 ⟨rfl, hb2⟩))
   go_ret
   exact ⟨ret_i HF.out, (by repeat (first | (with_reducible assumption) | exact Below.refl _ _ | apply below_alloc | apply below_drew1 | refine below_step ?_ (by assumption)))⟩
  ·have HF := Aside0.mk (show sub (left - costAs b.frame.chart - costEs b.ledg.entries) (b.periods.length : Int) = sub left (costB b) by unfold costB; rw [← e4, ← e2]; congr 1; omega)
   have H3 := Aside0.mk e3
   have q3 : left - costAs b.frame.chart - costEs b.ledg.entries ≤ 1048576 := by omega
   generalize left - costAs b.frame.chart = l1 at *
   generalize l1 - costEs b.ledg.entries = l2 at *
   clear e3 e4 e2
   have hq : sub left (costB b) = -1 ∨ 0 ≤ sub left (costB b) := by unfold sub; split <;> omega
   generalize sub left (costB b) = r at *
   have hs4 := HS.out.s4
   rcases hq with rfl | hq
   all_goals
    go_enter Tryz.func18, Tryz.ntmps18
    go_wp2_with (first | (go_at_call 59; refine (szFrame_calls b.frame _ _ left l1 H1.out h0 h1 HS.out.s0 HS.out.s1 _ (Kd.C_below HR.out.r0 (by repeat (first | (with_reducible assumption) | exact Below.refl _ _ | apply below_alloc | apply below_drew1 | refine below_step ?_ (by assumption))))).mono ?_; rintro e w1 ⟨rfl, hb⟩; obtain ⟨hc1, hf1⟩ := bcell hb; have hz1 : w.heap.size < w1.heap.size := (by have := hb.size; (try simp at this); omega)) | (go_at_call 60; refine (szLedger_calls b.ledg _ _ l1 l2 H3.out p1 q1 HS.out.s2 HS.out.s3 _ (Kd.C_below HR.out.r3 (by repeat (first | (with_reducible assumption) | exact Below.refl _ _ | apply below_alloc | apply below_drew1 | refine below_step ?_ (by assumption))))).mono ?_; rintro e w2 ⟨rfl, hb2⟩; obtain ⟨hc2, hf2⟩ := bcell hb2; have hz2 : w.heap.size < w2.heap.size := (by have := hb2.size; (try simp at this); omega)) | (go_at_call 61; refine (szPeriodS_callsR _ _ b.periods l2 _ HF.out p3 q3 hs4 _).mono ?_; rintro e w3 ⟨rfl, hb3⟩))
    go_ret
    exact ⟨rfl, (by repeat (first | (with_reducible assumption) | exact Below.refl _ _ | apply below_alloc | apply below_drew1 | refine below_step ?_ (by assumption)))⟩
end Go.Proofs.YtheaeffhhbjpmaaGreatDoor

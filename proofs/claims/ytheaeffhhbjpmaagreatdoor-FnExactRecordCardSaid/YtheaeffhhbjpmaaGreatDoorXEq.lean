/- The eq.. functions of the exact laws return whether two values are equal, and turn nothing that was there. -/
import Derived.Test.YtheaeffhhbjpmaaGreatDoorXB0
namespace Go.Proofs.YtheaeffhhbjpmaaGreatDoor
open Go.RowKit Go.Proofs.YtheaeffhhbjpmaaGreatDoorW.PrintWords Go.Proofs.YtheaeffhhbjpmaaGreatDoorW.PrintLast
set_option linter.unusedVariables false
set_option linter.unusedSimpArgs false
theorem ba_iff {a b : ByteArray} : a.toList = b.toList ↔ a = b := ⟨fun h => by rw [ByteArray.toList_eq, ByteArray.toList_eq] at h; exact ByteArray.ext (Array.ext' h), fun h => h ▸ rfl⟩

theorem eqAccount_calls (a b : S48) (r : Bool) (h : bP (a = b) = r) (w : World) : Calls Tryz.prog 132 #[.agg #[.string a.f0, .int .i64 a.f1, .int .i64 a.f2], .agg #[.string b.f0, .int .i64 b.f1, .int .i64 b.f2]] w fun e w' => e = .returned (.bool r) ∧ Below w.heap.size w w' := by
 subst h
 obtain ⟨a0, a1, a2⟩ := a
 obtain ⟨b0, b1, b2⟩ := b
 go_enter Tryz.func132, Tryz.ntmps132
 go_wp2
 all_goals (go_ret; refine ⟨?_, by repeat (first | exact Below.refl _ _ | apply below_alloc)⟩; first | exact ret_b (bP_t (by simp_all [ba_iff])).symm | exact ret_b (bP_f (by simp_all [ba_iff])).symm)

theorem eqLine_calls (a b : S88) (r : Bool) (h : bP (a = b) = r) (w : World) : Calls Tryz.prog 114 #[.agg #[.int .i64 a.f0, .int .i64 a.f1, .int .i64 a.f2, .int .i64 a.f3, .int .i64 a.f4], .agg #[.int .i64 b.f0, .int .i64 b.f1, .int .i64 b.f2, .int .i64 b.f3, .int .i64 b.f4]] w fun e w' => e = .returned (.bool r) ∧ Below w.heap.size w w' := by
 subst h
 obtain ⟨a0, a1, a2, a3, a4⟩ := a
 obtain ⟨b0, b1, b2, b3, b4⟩ := b
 go_enter Tryz.func114, Tryz.ntmps114
 go_wp2
 all_goals (go_ret; refine ⟨?_, by repeat (first | exact Below.refl _ _ | apply below_alloc)⟩; first | exact ret_b (bP_t (by simp_all [ba_iff])).symm | exact ret_b (bP_f (by simp_all [ba_iff])).symm)

theorem eqPeriod_calls (a b : S84) (r : Bool) (h : bP (a = b) = r) (w : World) : Calls Tryz.prog 113 #[.agg #[.int .i64 a.f0, .int .i64 a.f1], .agg #[.int .i64 b.f0, .int .i64 b.f1]] w fun e w' => e = .returned (.bool r) ∧ Below w.heap.size w w' := by
 subst h
 obtain ⟨a0, a1⟩ := a
 obtain ⟨b0, b1⟩ := b
 go_enter Tryz.func113, Tryz.ntmps113
 go_wp2
 all_goals (go_ret; refine ⟨?_, by repeat (first | exact Below.refl _ _ | apply below_alloc)⟩; first | exact ret_b (bP_t (by simp_all [ba_iff])).symm | exact ret_b (bP_f (by simp_all [ba_iff])).symm)

set_option maxRecDepth 100000 in
theorem eqAccountS_calls (A0 : Option Addr) (c0 : Nat) (l0 : List S48) (A1 : Option Addr) (c1 : Nat) (l1 : List S48) (r : Bool) (h : bP (l0 = l1) = r) (w : World) (hr0 : Kd.C k48 w A0 l0.length l0) (hr1 : Kd.C k48 w A1 l1.length l1) :
  Calls Tryz.prog 111 #[.slice A0 l0.length c0, .slice A1 l1.length c1] w fun e w' => e = .returned (.bool r) ∧ Below w.heap.size w w' := by
 subst h
 have HR0 := Aside0.mk hr0
 have HR1 := Aside0.mk hr1
 have hm := C_len hr0
 clear hr0 hr1
 by_cases hl : l0.length = l1.length
 ·have hl1 : ((l0.length : Int) != (l1.length : Int)) = false := by simp [hl]
  have HL := Aside0.mk hl
  clear hl
  go_enter Tryz.func111, Tryz.ntmps111
  go_wp2
  go_loopg [5] (l0.length) (fun kq v5 w' => ∃ i : Int, v5 = .int .i64 i ∧ 0 ≤ i ∧ i ≤ l0.length ∧ Aside0 (kq = l0.length - i.toNat) ∧ Aside0 (∀ j : Int, 0 ≤ j → j < i → rd_T48 l0 j = rd_T48 l1 j) ∧ Aside0 (Below w.heap.size w w'))
  case atStart => exact ⟨0, rfl, by omega, by omega, ⟨rfl⟩, ⟨fun j hj => by omega⟩, ⟨Below.refl _ _⟩⟩
  case round =>
   obtain ⟨i, rfl, h0, hi, HK, HE, HB⟩ := hrel
   by_cases hlt : i < l0.length
   ·have hlt1 : i < (l1.length : Int) := by have := HL.out; omega
    obtain ⟨ad0, e0, x0⟩ := at48 (Kd.C_below HR0.out HB.out) i h0 hlt
    obtain ⟨ad1, e1, x1⟩ := at48 (Kd.C_below HR1.out HB.out) i h0 hlt1
    cases e0
    cases e1
    have MK := Aside0.mk (show ∀ W, Below wr.heap.size wr W → (Below wr.heap.size wr W ∧ At48 W (ad0.add (i.toNat * 3)) (rd_T48 l0 i) ∧ At48 W (ad1.add (i.toNat * 3)) (rd_T48 l1 i)) from fun W hb => ⟨hb, x0.below hb, x1.below hb⟩)
    clear x0 x1
    by_cases hx : rd_T48 l0 i = rd_T48 l1 i
    ·have HX := Aside0.mk (bP_t hx)
     replace hx := Aside0.mk hx
     go_wp2
     go_region_held3 (fun w' => Below wr.heap.size wr w' ∧ At48 w' (ad0.add (i.toNat * 3)) (rd_T48 l0 i) ∧ At48 w' (ad1.add (i.toNat * 3)) (rd_T48 l1 i)) ((refine MK.out _ ?_; repeat (first | (with_reducible assumption) | exact And.left (by assumption) | exact Below.refl _ _ | apply below_drew1 | apply below_alloc | refine below_step ?_ (by assumption)))) (first | (go_at_call 132; refine (eqAccount_calls (rd_T48 l0 i) (rd_T48 l1 i) _ HX.out _).mono ?_; rintro e w1 ⟨rfl, hb⟩))
     have HB2 := Aside0.mk (below_step HB.out (‹Below wr.heap.size wr _ ∧ _›.1))
     clear HB MK
     go_wp2
     go_roundg (l0.length - (i + 1).toNat)
     case measure => have := HK.out; omega
     case rel => exact ⟨i + 1, rfl, by omega, by omega, ⟨rfl⟩, ⟨fun j hj0 hj => by rcases Int.lt_or_eq_of_le (Int.lt_add_one_iff.1 hj) with h | rfl; exact HE.out j hj0 h; exact hx.out⟩, HB2⟩
    ·have HX := Aside0.mk (bP_f hx)
     have hn := Aside0.mk (bP_f (show ¬ l0 = l1 by rintro rfl; exact hx rfl))
     replace hx := Aside0.mk hx
     go_wp2
     go_region_held3 (fun w' => Below wr.heap.size wr w' ∧ At48 w' (ad0.add (i.toNat * 3)) (rd_T48 l0 i) ∧ At48 w' (ad1.add (i.toNat * 3)) (rd_T48 l1 i)) ((refine MK.out _ ?_; repeat (first | (with_reducible assumption) | exact And.left (by assumption) | exact Below.refl _ _ | apply below_drew1 | apply below_alloc | refine below_step ?_ (by assumption)))) (first | (go_at_call 132; refine (eqAccount_calls (rd_T48 l0 i) (rd_T48 l1 i) _ HX.out _).mono ?_; rintro e w1 ⟨rfl, hb⟩))
     have HB2 := Aside0.mk (below_step HB.out (‹Below wr.heap.size wr _ ∧ _›.1))
     clear HB MK
     go_wp2
     go_ret
     exact ⟨by simp [hn.out], HB2.out⟩
   ·have he := Aside0.mk (bP_t (getD_ext z48 HL.out (fun j h1 h2 => HE.out j h1 (by omega))))
    go_wp2
    go_ret
    exact ⟨by simp [he.out], HB.out⟩
 ·have hl1 : (l0.length == l1.length) = false := by simpa using hl
  have hl2 : ((l0.length : Int) != (l1.length : Int)) = true := by simp; omega
  have hd := bP_f (show ¬ l0 = l1 by rintro rfl; exact hl rfl)
  go_enter Tryz.func111, Tryz.ntmps111
  go_wp2
  go_ret
  exact ⟨by simp [hd], Below.refl _ _⟩

set_option maxRecDepth 100000 in
theorem eqLineS_calls (A0 : Option Addr) (c0 : Nat) (l0 : List S88) (A1 : Option Addr) (c1 : Nat) (l1 : List S88) (r : Bool) (h : bP (l0 = l1) = r) (w : World) (hr0 : Kd.C k88 w A0 l0.length l0) (hr1 : Kd.C k88 w A1 l1.length l1) :
  Calls Tryz.prog 73 #[.slice A0 l0.length c0, .slice A1 l1.length c1] w fun e w' => e = .returned (.bool r) ∧ Below w.heap.size w w' := by
 subst h
 have HR0 := Aside0.mk hr0
 have HR1 := Aside0.mk hr1
 have hm := C_len hr0
 clear hr0 hr1
 by_cases hl : l0.length = l1.length
 ·have hl1 : ((l0.length : Int) != (l1.length : Int)) = false := by simp [hl]
  have HL := Aside0.mk hl
  clear hl
  go_enter Tryz.func73, Tryz.ntmps73
  go_wp2
  go_loopg [5] (l0.length) (fun kq v5 w' => ∃ i : Int, v5 = .int .i64 i ∧ 0 ≤ i ∧ i ≤ l0.length ∧ Aside0 (kq = l0.length - i.toNat) ∧ Aside0 (∀ j : Int, 0 ≤ j → j < i → rd_T88 l0 j = rd_T88 l1 j) ∧ Aside0 (Below w.heap.size w w'))
  case atStart => exact ⟨0, rfl, by omega, by omega, ⟨rfl⟩, ⟨fun j hj => by omega⟩, ⟨Below.refl _ _⟩⟩
  case round =>
   obtain ⟨i, rfl, h0, hi, HK, HE, HB⟩ := hrel
   by_cases hlt : i < l0.length
   ·have hlt1 : i < (l1.length : Int) := by have := HL.out; omega
    obtain ⟨ad0, e0, x0⟩ := at88 (Kd.C_below HR0.out HB.out) i h0 hlt
    obtain ⟨ad1, e1, x1⟩ := at88 (Kd.C_below HR1.out HB.out) i h0 hlt1
    cases e0
    cases e1
    have MK := Aside0.mk (show ∀ W, Below wr.heap.size wr W → (Below wr.heap.size wr W ∧ At88 W (ad0.add (i.toNat * 5)) (rd_T88 l0 i) ∧ At88 W (ad1.add (i.toNat * 5)) (rd_T88 l1 i)) from fun W hb => ⟨hb, x0.below hb, x1.below hb⟩)
    clear x0 x1
    by_cases hx : rd_T88 l0 i = rd_T88 l1 i
    ·have HX := Aside0.mk (bP_t hx)
     replace hx := Aside0.mk hx
     go_wp2
     go_region_held3 (fun w' => Below wr.heap.size wr w' ∧ At88 w' (ad0.add (i.toNat * 5)) (rd_T88 l0 i) ∧ At88 w' (ad1.add (i.toNat * 5)) (rd_T88 l1 i)) ((refine MK.out _ ?_; repeat (first | (with_reducible assumption) | exact And.left (by assumption) | exact Below.refl _ _ | apply below_drew1 | apply below_alloc | refine below_step ?_ (by assumption)))) (first | (go_at_call 114; refine (eqLine_calls (rd_T88 l0 i) (rd_T88 l1 i) _ HX.out _).mono ?_; rintro e w1 ⟨rfl, hb⟩))
     have HB2 := Aside0.mk (below_step HB.out (‹Below wr.heap.size wr _ ∧ _›.1))
     clear HB MK
     go_wp2
     go_roundg (l0.length - (i + 1).toNat)
     case measure => have := HK.out; omega
     case rel => exact ⟨i + 1, rfl, by omega, by omega, ⟨rfl⟩, ⟨fun j hj0 hj => by rcases Int.lt_or_eq_of_le (Int.lt_add_one_iff.1 hj) with h | rfl; exact HE.out j hj0 h; exact hx.out⟩, HB2⟩
    ·have HX := Aside0.mk (bP_f hx)
     have hn := Aside0.mk (bP_f (show ¬ l0 = l1 by rintro rfl; exact hx rfl))
     replace hx := Aside0.mk hx
     go_wp2
     go_region_held3 (fun w' => Below wr.heap.size wr w' ∧ At88 w' (ad0.add (i.toNat * 5)) (rd_T88 l0 i) ∧ At88 w' (ad1.add (i.toNat * 5)) (rd_T88 l1 i)) ((refine MK.out _ ?_; repeat (first | (with_reducible assumption) | exact And.left (by assumption) | exact Below.refl _ _ | apply below_drew1 | apply below_alloc | refine below_step ?_ (by assumption)))) (first | (go_at_call 114; refine (eqLine_calls (rd_T88 l0 i) (rd_T88 l1 i) _ HX.out _).mono ?_; rintro e w1 ⟨rfl, hb⟩))
     have HB2 := Aside0.mk (below_step HB.out (‹Below wr.heap.size wr _ ∧ _›.1))
     clear HB MK
     go_wp2
     go_ret
     exact ⟨by simp [hn.out], HB2.out⟩
   ·have he := Aside0.mk (bP_t (getD_ext z88 HL.out (fun j h1 h2 => HE.out j h1 (by omega))))
    go_wp2
    go_ret
    exact ⟨by simp [he.out], HB.out⟩
 ·have hl1 : (l0.length == l1.length) = false := by simpa using hl
  have hl2 : ((l0.length : Int) != (l1.length : Int)) = true := by simp; omega
  have hd := bP_f (show ¬ l0 = l1 by rintro rfl; exact hl rfl)
  go_enter Tryz.func73, Tryz.ntmps73
  go_wp2
  go_ret
  exact ⟨by simp [hd], Below.refl _ _⟩

set_option maxRecDepth 100000 in
theorem eqPeriodS_calls (A0 : Option Addr) (c0 : Nat) (l0 : List S84) (A1 : Option Addr) (c1 : Nat) (l1 : List S84) (r : Bool) (h : bP (l0 = l1) = r) (w : World) (hr0 : Kd.C k84 w A0 l0.length l0) (hr1 : Kd.C k84 w A1 l1.length l1) :
  Calls Tryz.prog 72 #[.slice A0 l0.length c0, .slice A1 l1.length c1] w fun e w' => e = .returned (.bool r) ∧ Below w.heap.size w w' := by
 subst h
 have HR0 := Aside0.mk hr0
 have HR1 := Aside0.mk hr1
 have hm := C_len hr0
 clear hr0 hr1
 by_cases hl : l0.length = l1.length
 ·have hl1 : ((l0.length : Int) != (l1.length : Int)) = false := by simp [hl]
  have HL := Aside0.mk hl
  clear hl
  go_enter Tryz.func72, Tryz.ntmps72
  go_wp2
  go_loopg [5] (l0.length) (fun kq v5 w' => ∃ i : Int, v5 = .int .i64 i ∧ 0 ≤ i ∧ i ≤ l0.length ∧ Aside0 (kq = l0.length - i.toNat) ∧ Aside0 (∀ j : Int, 0 ≤ j → j < i → rd_T84 l0 j = rd_T84 l1 j) ∧ Aside0 (Below w.heap.size w w'))
  case atStart => exact ⟨0, rfl, by omega, by omega, ⟨rfl⟩, ⟨fun j hj => by omega⟩, ⟨Below.refl _ _⟩⟩
  case round =>
   obtain ⟨i, rfl, h0, hi, HK, HE, HB⟩ := hrel
   by_cases hlt : i < l0.length
   ·have hlt1 : i < (l1.length : Int) := by have := HL.out; omega
    obtain ⟨ad0, e0, x0⟩ := at84 (Kd.C_below HR0.out HB.out) i h0 hlt
    obtain ⟨ad1, e1, x1⟩ := at84 (Kd.C_below HR1.out HB.out) i h0 hlt1
    cases e0
    cases e1
    have MK := Aside0.mk (show ∀ W, Below wr.heap.size wr W → (Below wr.heap.size wr W ∧ At84 W (ad0.add (i.toNat * 2)) (rd_T84 l0 i) ∧ At84 W (ad1.add (i.toNat * 2)) (rd_T84 l1 i)) from fun W hb => ⟨hb, x0.below hb, x1.below hb⟩)
    clear x0 x1
    by_cases hx : rd_T84 l0 i = rd_T84 l1 i
    ·have HX := Aside0.mk (bP_t hx)
     replace hx := Aside0.mk hx
     go_wp2
     go_region_held3 (fun w' => Below wr.heap.size wr w' ∧ At84 w' (ad0.add (i.toNat * 2)) (rd_T84 l0 i) ∧ At84 w' (ad1.add (i.toNat * 2)) (rd_T84 l1 i)) ((refine MK.out _ ?_; repeat (first | (with_reducible assumption) | exact And.left (by assumption) | exact Below.refl _ _ | apply below_drew1 | apply below_alloc | refine below_step ?_ (by assumption)))) (first | (go_at_call 113; refine (eqPeriod_calls (rd_T84 l0 i) (rd_T84 l1 i) _ HX.out _).mono ?_; rintro e w1 ⟨rfl, hb⟩))
     have HB2 := Aside0.mk (below_step HB.out (‹Below wr.heap.size wr _ ∧ _›.1))
     clear HB MK
     go_wp2
     go_roundg (l0.length - (i + 1).toNat)
     case measure => have := HK.out; omega
     case rel => exact ⟨i + 1, rfl, by omega, by omega, ⟨rfl⟩, ⟨fun j hj0 hj => by rcases Int.lt_or_eq_of_le (Int.lt_add_one_iff.1 hj) with h | rfl; exact HE.out j hj0 h; exact hx.out⟩, HB2⟩
    ·have HX := Aside0.mk (bP_f hx)
     have hn := Aside0.mk (bP_f (show ¬ l0 = l1 by rintro rfl; exact hx rfl))
     replace hx := Aside0.mk hx
     go_wp2
     go_region_held3 (fun w' => Below wr.heap.size wr w' ∧ At84 w' (ad0.add (i.toNat * 2)) (rd_T84 l0 i) ∧ At84 w' (ad1.add (i.toNat * 2)) (rd_T84 l1 i)) ((refine MK.out _ ?_; repeat (first | (with_reducible assumption) | exact And.left (by assumption) | exact Below.refl _ _ | apply below_drew1 | apply below_alloc | refine below_step ?_ (by assumption)))) (first | (go_at_call 113; refine (eqPeriod_calls (rd_T84 l0 i) (rd_T84 l1 i) _ HX.out _).mono ?_; rintro e w1 ⟨rfl, hb⟩))
     have HB2 := Aside0.mk (below_step HB.out (‹Below wr.heap.size wr _ ∧ _›.1))
     clear HB MK
     go_wp2
     go_ret
     exact ⟨by simp [hn.out], HB2.out⟩
   ·have he := Aside0.mk (bP_t (getD_ext z84 HL.out (fun j h1 h2 => HE.out j h1 (by omega))))
    go_wp2
    go_ret
    exact ⟨by simp [he.out], HB.out⟩
 ·have hl1 : (l0.length == l1.length) = false := by simpa using hl
  have hl2 : ((l0.length : Int) != (l1.length : Int)) = true := by simp; omega
  have hd := bP_f (show ¬ l0 = l1 by rintro rfl; exact hl rfl)
  go_enter Tryz.func72, Tryz.ntmps72
  go_wp2
  go_ret
  exact ⟨by simp [hd], Below.refl _ _⟩

set_option maxRecDepth 100000 in
theorem eqEntry_calls (a b : S41) (A3 : Option Addr) (c3 : Nat) (B3 : Option Addr) (d3 : Nat) (r : Bool) (h : bP (a = b) = r) (w : World) (ha3 : Kd.C k88 w A3 a.f3.length a.f3) (hb3 : Kd.C k88 w B3 b.f3.length b.f3) :
  Calls Tryz.prog 24 #[.agg #[.int .i64 a.f0, .int .i64 a.f1, .string a.f2, .slice A3 a.f3.length c3], .agg #[.int .i64 b.f0, .int .i64 b.f1, .string b.f2, .slice B3 b.f3.length d3]] w fun e w' => e = .returned (.bool r) ∧ Below w.heap.size w w' := by
 subst h
 have hu41 := Tryz.underlying41
 have HA3 := Aside0.mk ha3
 have HB3 := Aside0.mk hb3
 clear ha3 hb3
 obtain ⟨a0, a1, a2, a3⟩ := a
 obtain ⟨b0, b1, b2, b3⟩ := b
 go_enter Tryz.func24, Tryz.ntmps24
 go_wp2_with (first | (go_at_call 73; refine (eqLineS_calls _ _ a3 _ _ b3 _ rfl _ (Kd.C_below HA3.out (by repeat (first | (with_reducible assumption) | exact Below.refl _ _ | apply below_alloc | apply below_drew1 | refine below_step ?_ (by assumption)))) (Kd.C_below HB3.out (by repeat (first | (with_reducible assumption) | exact Below.refl _ _ | apply below_alloc | apply below_drew1 | refine below_step ?_ (by assumption))))).mono ?_; rintro e w73 ⟨rfl, hb73⟩; obtain ⟨hc73, hf73⟩ := bcell hb73; have hz73 : w.heap.size + 1 < w73.heap.size := (by have := hb73.size; (try simp at this); omega); have hy73 : w.heap.size < w73.heap.size := (by omega)))
 all_goals go_ret
 all_goals refine ⟨?_, (by repeat (first | (with_reducible assumption) | exact Below.refl _ _ | apply below_alloc | apply below_drew1 | refine below_step ?_ (by assumption)))⟩
 all_goals first | exact ret_b (bP_t (by simp_all [ba_iff, bP_iff, bP_iff_f])).symm | exact ret_b (bP_f (by simp_all [ba_iff, bP_iff, bP_iff_f])).symm

set_option maxRecDepth 100000 in
theorem eqEntryS_calls (A0 : Option Addr) (c0 : Nat) (l0 : List S41) (A1 : Option Addr) (c1 : Nat) (l1 : List S41) (r : Bool) (h : bP (l0 = l1) = r) (w : World) (hr0 : Kd.C k41 w A0 l0.length l0) (hr1 : Kd.C k41 w A1 l1.length l1) :
  Calls Tryz.prog 112 #[.slice A0 l0.length c0, .slice A1 l1.length c1] w fun e w' => e = .returned (.bool r) ∧ Below w.heap.size w w' := by
 subst h
 have HR0 := Aside0.mk hr0
 have HR1 := Aside0.mk hr1
 have hm := C_len hr0
 clear hr0 hr1
 by_cases hl : l0.length = l1.length
 ·have hl1 : ((l0.length : Int) != (l1.length : Int)) = false := by simp [hl]
  have HL := Aside0.mk hl
  clear hl
  go_enter Tryz.func112, Tryz.ntmps112
  go_wp2
  go_loopg [5] (l0.length) (fun kq v5 w' => ∃ i : Int, v5 = .int .i64 i ∧ 0 ≤ i ∧ i ≤ l0.length ∧ Aside0 (kq = l0.length - i.toNat) ∧ Aside0 (∀ j : Int, 0 ≤ j → j < i → rd_T41 l0 j = rd_T41 l1 j) ∧ Aside0 (Below w.heap.size w w'))
  case atStart => exact ⟨0, rfl, by omega, by omega, ⟨rfl⟩, ⟨fun j hj => by omega⟩, ⟨Below.refl _ _⟩⟩
  case round =>
   obtain ⟨i, rfl, h0, hi, HK, HE, HB⟩ := hrel
   by_cases hlt : i < l0.length
   ·have hlt1 : i < (l1.length : Int) := by have := HL.out; omega
    obtain ⟨ad0, N0, n0, e0, x0, _, y0⟩ := at41 (Kd.C_below HR0.out HB.out) i h0 hlt
    obtain ⟨ad1, N1, n1, e1, x1, _, y1⟩ := at41 (Kd.C_below HR1.out HB.out) i h0 hlt1
    cases e0
    cases e1
    have MK := Aside0.mk (show ∀ W, Below wr.heap.size wr W → (Below wr.heap.size wr W ∧ At41 W (ad0.add (i.toNat * 4)) (rd_T41 l0 i) N0 n0 ∧ At41 W (ad1.add (i.toNat * 4)) (rd_T41 l1 i) N1 n1) from fun W hb => ⟨hb, x0.below hb, x1.below hb⟩)
    clear x0 x1
    have HY0 := Aside0.mk y0
    have HY1 := Aside0.mk y1
    clear y0 y1
    by_cases hx : rd_T41 l0 i = rd_T41 l1 i
    ·have HX := Aside0.mk (bP_t hx)
     replace hx := Aside0.mk hx
     go_wp2
     go_region_held3 (fun w' => Below wr.heap.size wr w' ∧ At41 w' (ad0.add (i.toNat * 4)) (rd_T41 l0 i) N0 n0 ∧ At41 w' (ad1.add (i.toNat * 4)) (rd_T41 l1 i) N1 n1) ((refine MK.out _ ?_; repeat (first | (with_reducible assumption) | exact And.left (by assumption) | exact Below.refl _ _ | apply below_drew1 | apply below_alloc | refine below_step ?_ (by assumption)))) (first | (go_at_call 24; refine (eqEntry_calls (rd_T41 l0 i) (rd_T41 l1 i) _ _ _ _ _ HX.out _ (Kd.C_below HY0.out (And.left (by assumption))) (Kd.C_below HY1.out (And.left (by assumption)))).mono ?_; rintro e w1 ⟨rfl, hb⟩))
     have HB2 := Aside0.mk (below_step HB.out (‹Below wr.heap.size wr _ ∧ _›.1))
     clear HB MK
     go_wp2
     go_roundg (l0.length - (i + 1).toNat)
     case measure => have := HK.out; omega
     case rel => exact ⟨i + 1, rfl, by omega, by omega, ⟨rfl⟩, ⟨fun j hj0 hj => by rcases Int.lt_or_eq_of_le (Int.lt_add_one_iff.1 hj) with h | rfl; exact HE.out j hj0 h; exact hx.out⟩, HB2⟩
    ·have HX := Aside0.mk (bP_f hx)
     have hn := Aside0.mk (bP_f (show ¬ l0 = l1 by rintro rfl; exact hx rfl))
     replace hx := Aside0.mk hx
     go_wp2
     go_region_held3 (fun w' => Below wr.heap.size wr w' ∧ At41 w' (ad0.add (i.toNat * 4)) (rd_T41 l0 i) N0 n0 ∧ At41 w' (ad1.add (i.toNat * 4)) (rd_T41 l1 i) N1 n1) ((refine MK.out _ ?_; repeat (first | (with_reducible assumption) | exact And.left (by assumption) | exact Below.refl _ _ | apply below_drew1 | apply below_alloc | refine below_step ?_ (by assumption)))) (first | (go_at_call 24; refine (eqEntry_calls (rd_T41 l0 i) (rd_T41 l1 i) _ _ _ _ _ HX.out _ (Kd.C_below HY0.out (And.left (by assumption))) (Kd.C_below HY1.out (And.left (by assumption)))).mono ?_; rintro e w1 ⟨rfl, hb⟩))
     have HB2 := Aside0.mk (below_step HB.out (‹Below wr.heap.size wr _ ∧ _›.1))
     clear HB MK
     go_wp2
     go_ret
     exact ⟨by simp [hn.out], HB2.out⟩
   ·have he := Aside0.mk (bP_t (getD_ext z41 HL.out (fun j h1 h2 => HE.out j h1 (by omega))))
    go_wp2
    go_ret
    exact ⟨by simp [he.out], HB.out⟩
 ·have hl1 : (l0.length == l1.length) = false := by simpa using hl
  have hl2 : ((l0.length : Int) != (l1.length : Int)) = true := by simp; omega
  have hd := bP_f (show ¬ l0 = l1 by rintro rfl; exact hl rfl)
  go_enter Tryz.func112, Tryz.ntmps112
  go_wp2
  go_ret
  exact ⟨by simp [hd], Below.refl _ _⟩

set_option maxRecDepth 100000 in
theorem eqFrame_calls (a b : FrameD) (A0 : Option Addr) (c0 : Nat) (B0 : Option Addr) (d0 : Nat) (r : Bool) (h : bP (a = b) = r) (w : World) (ha0 : Kd.C k48 w A0 a.chart.length a.chart) (hb0 : Kd.C k48 w B0 b.chart.length b.chart) :
  Calls Tryz.prog 70 #[.agg #[.slice A0 a.chart.length c0, .int .i64 a.dims, .int .i64 a.curs], .agg #[.slice B0 b.chart.length d0, .int .i64 b.dims, .int .i64 b.curs]] w fun e w' => e = .returned (.bool r) ∧ Below w.heap.size w w' := by
 subst h
 have hu26 := Tryz.underlying26
 have HA0 := Aside0.mk ha0
 have HB0 := Aside0.mk hb0
 clear ha0 hb0
 obtain ⟨a0, a1, a2⟩ := a
 obtain ⟨b0, b1, b2⟩ := b
 go_enter Tryz.func70, Tryz.ntmps70
 go_wp2_with (first | (go_at_call 111; refine (eqAccountS_calls _ _ a0 _ _ b0 _ rfl _ (Kd.C_below HA0.out (by repeat (first | (with_reducible assumption) | exact Below.refl _ _ | apply below_alloc | apply below_drew1 | refine below_step ?_ (by assumption)))) (Kd.C_below HB0.out (by repeat (first | (with_reducible assumption) | exact Below.refl _ _ | apply below_alloc | apply below_drew1 | refine below_step ?_ (by assumption))))).mono ?_; rintro e w111 ⟨rfl, hb111⟩; obtain ⟨hc111, hf111⟩ := bcell hb111; have hz111 : w.heap.size + 1 < w111.heap.size := (by have := hb111.size; (try simp at this); omega); have hy111 : w.heap.size < w111.heap.size := (by omega)))
 all_goals go_ret
 all_goals refine ⟨?_, (by repeat (first | (with_reducible assumption) | exact Below.refl _ _ | apply below_alloc | apply below_drew1 | refine below_step ?_ (by assumption)))⟩
 all_goals first | exact ret_b (bP_t (by simp_all [ba_iff, bP_iff, bP_iff_f])).symm | exact ret_b (bP_f (by simp_all [ba_iff, bP_iff, bP_iff_f])).symm

set_option maxRecDepth 100000 in
theorem eqLedger_calls (a b : LedgD) (A0 : Option Addr) (c0 : Nat) (B0 : Option Addr) (d0 : Nat) (r : Bool) (h : bP (a = b) = r) (w : World) (ha0 : Kd.C k41 w A0 a.entries.length a.entries) (hb0 : Kd.C k41 w B0 b.entries.length b.entries) :
  Calls Tryz.prog 71 #[.agg #[.slice A0 a.entries.length c0, .int .i64 a.head], .agg #[.slice B0 b.entries.length d0, .int .i64 b.head]] w fun e w' => e = .returned (.bool r) ∧ Below w.heap.size w w' := by
 subst h
 have hu29 := Tryz.underlying29
 have HA0 := Aside0.mk ha0
 have HB0 := Aside0.mk hb0
 clear ha0 hb0
 obtain ⟨a0, a1⟩ := a
 obtain ⟨b0, b1⟩ := b
 go_enter Tryz.func71, Tryz.ntmps71
 go_wp2_with (first | (go_at_call 112; refine (eqEntryS_calls _ _ a0 _ _ b0 _ rfl _ (Kd.C_below HA0.out (by repeat (first | (with_reducible assumption) | exact Below.refl _ _ | apply below_alloc | apply below_drew1 | refine below_step ?_ (by assumption)))) (Kd.C_below HB0.out (by repeat (first | (with_reducible assumption) | exact Below.refl _ _ | apply below_alloc | apply below_drew1 | refine below_step ?_ (by assumption))))).mono ?_; rintro e w112 ⟨rfl, hb112⟩; obtain ⟨hc112, hf112⟩ := bcell hb112; have hz112 : w.heap.size + 1 < w112.heap.size := (by have := hb112.size; (try simp at this); omega); have hy112 : w.heap.size < w112.heap.size := (by omega)))
 all_goals go_ret
 all_goals refine ⟨?_, (by repeat (first | (with_reducible assumption) | exact Below.refl _ _ | apply below_alloc | apply below_drew1 | refine below_step ?_ (by assumption)))⟩
 all_goals first | exact ret_b (bP_t (by simp_all [ba_iff, bP_iff, bP_iff_f])).symm | exact ret_b (bP_f (by simp_all [ba_iff, bP_iff, bP_iff_f])).symm

set_option maxRecDepth 100000 in
theorem eqBooks_calls (a b : BooksD) (A0 : Option Addr) (c0 : Nat) (B0 : Option Addr) (d0 : Nat) (A3 : Option Addr) (c3 : Nat) (B3 : Option Addr) (d3 : Nat) (A5 : Option Addr) (c5 : Nat) (B5 : Option Addr) (d5 : Nat) (r : Bool) (h : bP (a = b) = r) (w : World) (ha0 : Kd.C k48 w A0 a.frame.chart.length a.frame.chart) (hb0 : Kd.C k48 w B0 b.frame.chart.length b.frame.chart) (ha3 : Kd.C k41 w A3 a.ledg.entries.length a.ledg.entries) (hb3 : Kd.C k41 w B3 b.ledg.entries.length b.ledg.entries) (ha5 : Kd.C k84 w A5 a.periods.length a.periods) (hb5 : Kd.C k84 w B5 b.periods.length b.periods) :
  Calls Tryz.prog 23 #[.agg #[.slice A0 a.frame.chart.length c0, .int .i64 a.frame.dims, .int .i64 a.frame.curs, .slice A3 a.ledg.entries.length c3, .int .i64 a.ledg.head, .slice A5 a.periods.length c5, .int .i64 a.closed, .int .i64 a.kept], .agg #[.slice B0 b.frame.chart.length d0, .int .i64 b.frame.dims, .int .i64 b.frame.curs, .slice B3 b.ledg.entries.length d3, .int .i64 b.ledg.head, .slice B5 b.periods.length d5, .int .i64 b.closed, .int .i64 b.kept]] w fun e w' => e = .returned (.bool r) ∧ Below w.heap.size w w' := by
 subst h
 have hu32 := Tryz.underlying32
 have hu26 := Tryz.underlying26
 have hu29 := Tryz.underlying29
 have HA0 := Aside0.mk ha0
 have HB0 := Aside0.mk hb0
 clear ha0 hb0
 have HA3 := Aside0.mk ha3
 have HB3 := Aside0.mk hb3
 clear ha3 hb3
 have HA5 := Aside0.mk ha5
 have HB5 := Aside0.mk hb5
 clear ha5 hb5
 obtain ⟨⟨a0, a1, a2⟩, ⟨a3, a4⟩, a5, a6, a7⟩ := a
 obtain ⟨⟨b0, b1, b2⟩, ⟨b3, b4⟩, b5, b6, b7⟩ := b
 go_enter Tryz.func23, Tryz.ntmps23
 go_wp2_with (first | (go_at_call 70; refine (eqFrame_calls ⟨a0, a1, a2⟩ ⟨b0, b1, b2⟩ _ _ _ _ _ rfl _ (Kd.C_below HA0.out (by repeat (first | (with_reducible assumption) | exact Below.refl _ _ | apply below_alloc | apply below_drew1 | refine below_step ?_ (by assumption)))) (Kd.C_below HB0.out (by repeat (first | (with_reducible assumption) | exact Below.refl _ _ | apply below_alloc | apply below_drew1 | refine below_step ?_ (by assumption))))).mono ?_; rintro e w70 ⟨rfl, hb70⟩; obtain ⟨hc70, hf70⟩ := bcell hb70; have hz70 : w.heap.size + 1 < w70.heap.size := (by have := hb70.size; (try simp at this); omega); have hy70 : w.heap.size < w70.heap.size := (by omega)) | (go_at_call 71; refine (eqLedger_calls ⟨a3, a4⟩ ⟨b3, b4⟩ _ _ _ _ _ rfl _ (Kd.C_below HA3.out (by repeat (first | (with_reducible assumption) | exact Below.refl _ _ | apply below_alloc | apply below_drew1 | refine below_step ?_ (by assumption)))) (Kd.C_below HB3.out (by repeat (first | (with_reducible assumption) | exact Below.refl _ _ | apply below_alloc | apply below_drew1 | refine below_step ?_ (by assumption))))).mono ?_; rintro e w71 ⟨rfl, hb71⟩; obtain ⟨hc71, hf71⟩ := bcell hb71; have hz71 : w.heap.size + 1 < w71.heap.size := (by have := hb71.size; (try simp at this); omega); have hy71 : w.heap.size < w71.heap.size := (by omega)) | (go_at_call 72; refine (eqPeriodS_calls _ _ a5 _ _ b5 _ rfl _ (Kd.C_below HA5.out (by repeat (first | (with_reducible assumption) | exact Below.refl _ _ | apply below_alloc | apply below_drew1 | refine below_step ?_ (by assumption)))) (Kd.C_below HB5.out (by repeat (first | (with_reducible assumption) | exact Below.refl _ _ | apply below_alloc | apply below_drew1 | refine below_step ?_ (by assumption))))).mono ?_; rintro e w72 ⟨rfl, hb72⟩; obtain ⟨hc72, hf72⟩ := bcell hb72; have hz72 : w.heap.size + 1 < w72.heap.size := (by have := hb72.size; (try simp at this); omega); have hy72 : w.heap.size < w72.heap.size := (by omega)))
 all_goals go_ret
 all_goals refine ⟨?_, (by repeat (first | (with_reducible assumption) | exact Below.refl _ _ | apply below_alloc | apply below_drew1 | refine below_step ?_ (by assumption)))⟩
 all_goals first | exact ret_b (bP_t (by simp_all [ba_iff, bP_iff, bP_iff_f])).symm | exact ret_b (bP_f (by simp_all [ba_iff, bP_iff, bP_iff_f])).symm
end Go.Proofs.YtheaeffhhbjpmaaGreatDoor

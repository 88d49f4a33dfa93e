/- Of the program: whether a chart is right (how many each account is part of; the names met so far lie in a map). -/
import Derived.Test.YtheaeffhhbjpmaaGreatDoorXE
import Derived.Maps.OwnSet
import Derived.Maps.OwnOps
namespace Go.Proofs.YtheaeffhhbjpmaaGreatDoor
open Go.RowKit Go.Proofs.YtheaeffhhbjpmaaGreatDoorW.PrintWords Go.Proofs.YtheaeffhhbjpmaaGreatDoorW.PrintLast Go.WideMaps
set_option linter.unusedVariables false
set_option linter.unusedSimpArgs false
theorem mlaw : Go.Maps.Keyed Tryz.prog 9 := Go.Maps.string_keyed Tryz.underlying9
theorem mzero (w : World) : (zeroValue 3).run Tryz.prog w = .ok (.int .i64 0) w := by kernel_rfl
abbrev slit (s : ByteArray) : Lit := .string s.data.toList
theorem slit_ne {s t : ByteArray} (h : ¬ s = t) : slit s ≠ slit t := by
 intro e
 injection e with e
 exact h (ByteArray.ext (Array.ext' e))
theorem slit_key (s : ByteArray) : WideAt.IsKeyLit (slit s) := by trivial
/-- The map holds just the names of the first i accounts. -/
def SeenD (l : List S48) (D : DataW Unit) (i : Int) : Prop := Maps.IsMap D ∧ ∀ s : ByteArray, Maps.has D (slit s) = true ↔ ∃ k : Int, 0 ≤ k ∧ k < i ∧ (acc l k).f0 = s
theorem SeenD.zero (l : List S48) : SeenD l (.map []) 0 := ⟨⟨[], rfl⟩, fun s => ⟨fun h => by simp [Maps.has] at h, fun ⟨k, h0, h1, _⟩ => by omega⟩⟩
theorem SeenD.step {l : List S48} {D : DataW Unit} {i : Int} (h : SeenD l D i) (h0 : 0 ≤ i) (d : DataW Unit) : SeenD l (D.put (slit (acc l i).f0) d) (i + 1) := by
 refine ⟨h.1.put _ _, fun s => ?_⟩
 by_cases hs : (acc l i).f0 = s
 ·subst hs
  rw [Maps.has_put_same h.1 (slit_key _)]
  exact ⟨fun _ => ⟨i, h0, by omega, rfl⟩, fun _ => rfl⟩
 ·rw [Maps.has_put_other (slit_ne (fun e => hs e.symm)), h.2 s]
  constructor
  ·rintro ⟨k, k0, k1, e⟩; exact ⟨k, k0, by omega, e⟩
  ·rintro ⟨k, k0, k1, e⟩
   rcases Int.lt_or_eq_of_le (Int.lt_add_one_iff.1 k1) with q | q
   ·exact ⟨k, k0, q, e⟩
   ·subst q; exact absurd e hs
theorem slotI {W : World} {base g n cap : Nat} {ok : Nat → Prop} {xs : List Int} (h : Kd.R (Kd.int .i64) 3 W base ok (.slice (some ⟨g, 0, none⟩) n cap) xs) (i : Int) (h0 : 0 ≤ i) (h1 : i < n) :
  W.cell? ⟨g, i.toNat, none⟩ = some (.int .i64 (xs.getD i.toNat 0)) ∧ W.frozen? ⟨g, i.toNat, none⟩ = false := by
 obtain ⟨c, hcl, hM, hcc, hfr⟩ := Kd.R_elem h 0 i h0 h1
 obtain rfl : c = [.int .i64 (xs.getD i.toNat 0)] := hM
 have h2 := hcc 0 _ rfl
 have h3 := hfr 0
 exact ⟨by simpa [show (Kd.int .i64).sz = 1 from rfl] using h2, by simpa [show (Kd.int .i64).sz = 1 from rfl] using h3⟩
set_option maxRecDepth 100000 in
set_option maxHeartbeats 4000000 in
theorem depths_calls (A : Option Addr) (c : Nat) (l : List S48) (hs : SzC l) (r : Bool) (h : bP (ChartP l) = r) (w : World) (hr : Kd.C k48 w A l.length l) :
  Calls Tryz.prog 141 #[.slice A l.length c] w fun e w' => ∃ v, e = .returned (.tuple #[v, .bool r]) ∧ Below w.heap.size w w' := by
 subst h
 have hu48 := Tryz.underlying48
 have HR := Aside0.mk hr
 have HS := Aside0.mk hs
 have hm := C_len hr
 clear hr hs
 by_cases hl1 : l.length < 1
 ·have HF := Aside0.mk (bP_f (show ¬ ChartP l from fun h => by have := h.1; omega))
  go_enter Tryz.func141, Tryz.ntmps141
  go_wp2
  refine bodyPost_ret (v := .tuple #[.slice none 0 0, .bool false]) (by simp [results, Tryz.results141, go_sem]) rfl ⟨⟨_, by rw [HF.out]⟩, Below.refl _ _⟩
 by_cases hl2 : 120 < l.length
 ·have HF := Aside0.mk (bP_f (show ¬ ChartP l from fun h => by have := h.2.1; omega))
  go_enter Tryz.func141, Tryz.ntmps141
  go_wp2
  refine bodyPost_ret (v := .tuple #[.slice none 0 0, .bool false]) (by simp [results, Tryz.results141, go_sem]) rfl ⟨_, by rw [HF.out], Below.refl _ _⟩
 replace hl1 : 1 ≤ l.length := by omega
 replace hl2 : l.length ≤ 120 := by omega
 have hmm := @run_makeMap Tryz.prog
 go_enter Tryz.func141, Tryz.ntmps141
 go_wp2_with ((with_reducible refine gate_dst (N := 22) rfl ?_); refine Kd.R_make (Kd.int .i64) (w0 := w) w.heap.size 3 rfl (N := 22) rfl 42 _ _ rfl (l.length : Int) rfl rfl Tryz.underlying42 (.int .i64 0) 8 info3 rfl (by decide) (by omega) (0 : Int) (ok := fun k => k ≠ w.heap.size) (okp := fun k => k ≠ w.heap.size) rfl (fun _ hk => hk) (by simp) (by omega) (by simp; omega) (below_alloc (Below.refl _ _) _) (by simp) ?_; intro v1 w1 ho1 hb1 hg1 _; rw [show ((l.length : Int)).toNat = l.length by omega] at ho1; obtain ⟨gd, cap, hv, hgd, _⟩ := Kd.R_form ho1 (by simp; omega); rw [List.length_replicate] at hv; subst hv; have HO1 := Aside0.mk ho1; have HB1 := Aside0.mk hb1; have HM1 := Aside0.mk ((World.ownsMap_made (H := Unit) w Tryz.prog 9 (plainElem (H := Unit) Tryz.prog 3)).kept hg1 (by simp)); clear ho1 hb1 hg1)
 clear hmm
 go_loopg [25] l.length (fun kq v25 w' => ∃ (i : Int) (xs : List Int) (D : DataW Unit), v25 = .int .i64 i ∧ 0 ≤ i ∧ i ≤ l.length ∧ Aside0 (kq = l.length - i.toNat) ∧ Aside0 (xs.length = l.length) ∧ Aside0 (∀ j : Int, 0 ≤ j → j < i → xs.getD j.toNat 0 = dep l j) ∧ Aside0 (∀ j : Int, i ≤ j → j < l.length → xs.getD j.toNat 0 = 0) ∧ Aside0 (Kd.R (Kd.int .i64) 3 w' w.heap.size (fun k => k ≠ w.heap.size) (.slice (some ⟨gd, 0, none⟩) l.length cap) xs) ∧ Aside0 (w'.ownsMap Tryz.prog 9 (plainElem (H := Unit) Tryz.prog 3) w.heap.size i.toNat D) ∧ Aside0 (SeenD l D i) ∧ Aside0 (∀ j : Int, 0 ≤ j → j < i → AccOk l j) ∧ Aside0 (Below w.heap.size w w'))
 case atStart => exact ⟨0, _, _, rfl, by omega, by omega, ⟨rfl⟩, ⟨by simp⟩, ⟨fun j h0 h1 => by omega⟩, ⟨fun j h0 h1 => by rw [List.getD_eq_getElem?_getD, List.getElem?_replicate]; split <;> rfl⟩, HO1, HM1, ⟨SeenD.zero l⟩, ⟨fun j h0 h1 => by omega⟩, HB1⟩
 case round =>
  clear HO1 HB1 HM1
  obtain ⟨i, xs, D, rfl, h0, hi, HK, HX, HD, HZ, HO, HM, HN0, HE, HB⟩ := hrel
  by_cases hlt : i < l.length
  ·obtain ⟨ad, e0, x0, x1, x2⟩ := at48 (Kd.C_below HR.out HB.out) i h0 hlt
   cases e0
   have hsz : (rd_T48 l i).f0.size ≤ 9223372036854775807 := HS.out i h0 hlt
   have HW := Aside0.mk (show w.heap.size < wr.heap.size from HM.out.lt)
   have HN1 := Aside0.mk (HN0.out.2 (rd_T48 l i).f0)
   have HN2 := Aside0.mk (fun d => HN0.out.step h0 d)
   obtain ⟨y, hy⟩ : ∃ y, rd_T48 l i = y := ⟨_, rfl⟩
   have HN3 : Aside0 (∀ d, SeenD l (D.put (slit y.f0) d) (i + 1)) := ⟨fun d => by have := HN2.out d; unfold acc at this; rw [hy] at this; exact this⟩
   clear HN2
   rw [hy] at x0 x1 x2 hsz HN1
   replace hy := Aside0.mk (show acc l i = y from hy)
   by_cases tw : ∃ k : Int, 0 ≤ k ∧ k < i ∧ (acc l k).f0 = y.f0
   ·have hb : Maps.has D (slit y.f0) = true := HN1.out.2 tw
    have HF := Aside0.mk (bP_f (show ¬ ChartP l from fun h => by obtain ⟨k, k0, k1, e⟩ := tw; exact (h.2.2 i h0 hlt).new k k0 k1 (by rw [hy.out]; exact e)))
    clear tw
    go_wp2_with (at_lookup; refine wpList_lookup_own_ok_int _ rfl _ _ 206 rfl 9 3 .i64 mlaw Tryz.underlying206 Tryz.underlying3 (mzero _) w.heap.size i.toNat D rfl (HM.out.alloc _) _ _ rfl (keyOf_string_mk Tryz.underlying9 hsz) ?_; intro c_ hat_ hwc_; clear hat_ hwc_)
    refine bodyPost_ret (v := .tuple #[.slice none 0 0, .bool false]) (by simp [results, Tryz.results141, go_sem]) rfl ⟨_, by rw [HF.out], below_alloc HB.out _⟩
   have hb : Maps.has D (slit y.f0) = false := by rw [← Bool.not_eq_true]; exact fun h => tw (HN1.out.1 h)
   have HN := Aside0.mk (show ∀ k : Int, 0 ≤ k → k < i → ¬ (acc l k).f0 = (acc l i).f0 from fun k k0 k1 e => tw ⟨k, k0, k1, by rw [e, hy.out]⟩)
   clear tw
   by_cases c1 : NameP y.f0
   ·have C1 := Aside0.mk (bP_t c1)
    clear c1
    by_cases c2 : 1 ≤ y.f2 ∧ y.f2 ≤ 5
    ·have C2 := Aside0.mk (bP_t c2)
     clear c2
     by_cases hp : y.f1 = -1
     ·have HA := Aside0.mk (show AccOk l i from by
        refine ⟨?_, ?_, ?_, ?_, ?_, HN.out, fun q => ?_, fun q => ?_, fun q => ?_⟩ <;> (try rw [hy.out] at *)
        ·exact bP_iff.1 C1.out
        ·exact (bP_iff.1 C2.out).1
        ·exact (bP_iff.1 C2.out).2
        ·omega
        ·omega
        ·omega
        ·omega
        ·omega)
      have HDP := Aside0.mk (show dep l i = 0 from dep_root h0 (by rw [hy.out]; omega))
      have hp1 : (y.f1 == -1) = true := by simp [hp]
      clear hp
      go_wp2_with (first | (at_lookup; refine wpList_lookup_own_ok_int _ rfl _ _ 206 rfl 9 3 .i64 mlaw Tryz.underlying206 Tryz.underlying3 (mzero _) w.heap.size i.toNat D rfl (HM.out.alloc _) _ _ rfl (keyOf_string_mk Tryz.underlying9 hsz) ?_; intro c_ hat_ hwc_; clear hat_ hwc_) | (go_at_call 143; (with_reducible refine (iNameOk_calls y.f0 _ C1.out _).mono ?_); rintro e w' ⟨rfl, rfl⟩) | (go_at_call 144; (with_reducible refine (kindOk_calls y.f2 _ C2.out _).mono ?_); rintro e w' ⟨rfl, rfl⟩) | (at_mapUpdate; refine wpList_mapUpdate_own _ rfl _ _ _ 206 rfl 9 3 mlaw Tryz.underlying206 (plainElem (H := Unit) Tryz.prog 3) w.heap.size i.toNat D rfl (HM.out.alloc _) (by unfold maxLen; omega) _ _ _ rfl rfl (keyOf_string_mk Tryz.underlying9 hsz) _ [] (plainElem_int Tryz.underlying3 (WalkArith.wf_i64 (by omega))) ?_; intro w2 hown2 hg2; have HM2 := Aside0.mk hown2; have BX2 := Aside0.mk (blk_grown (blk_new wr (.cells #[.string y.f0, .int .i64 y.f1, .int .i64 y.f2] 48 (0, 0))) hg2 (by have := HW.out; simp; omega)); have HB2 := Aside0.mk ((below_alloc HB.out (.cells #[.string y.f0, .int .i64 y.f1, .int .i64 y.f2] 48 (0, 0))).grown hg2 (below_alloc HB.out (.cells #[.string y.f0, .int .i64 y.f1, .int .i64 y.f2] 48 (0, 0))).size (by intro k hk; cases hk; exact Nat.le_refl _)); have HO2 := Aside0.mk (Kd.R_grown (Kd.R_alloc HO.out (.cells #[.string y.f0, .int .i64 y.f1, .int .i64 y.f2] 48 (0, 0))) hg2 (by intro k hk e; injection e with e; exact hk e)); have q0 : w2.cell? ⟨wr.heap.size, 0, none⟩ = some (.string y.f0) := (blk_cell BX2.out 0).trans rfl; have q1 : w2.cell? ⟨wr.heap.size, 1, none⟩ = some (.int .i64 y.f1) := (blk_cell BX2.out 1).trans rfl; have q2 : w2.cell? ⟨wr.heap.size, 2, none⟩ = some (.int .i64 y.f2) := (blk_cell BX2.out 2).trans rfl; clear hown2 hg2))
      go_roundg (l.length - (i + 1).toNat)
      case measure => have := HK.out; omega
      case rel => exact ⟨i + 1, xs, _, by go_num, by omega, by omega, ⟨rfl⟩, HX, ⟨fun j j0 j1 => by rcases Int.lt_or_eq_of_le (Int.lt_add_one_iff.1 j1) with q | rfl; exact HD.out j j0 q; rw [HDP.out]; exact HZ.out j (by omega) hlt⟩, ⟨fun j j0 j1 => HZ.out j (by omega) j1⟩, HO2, ⟨by rw [show (i + 1).toNat = i.toNat + 1 by omega]; exact HM2.out⟩, ⟨HN3.out _⟩, ⟨fun j j0 j1 => by rcases Int.lt_or_eq_of_le (Int.lt_add_one_iff.1 j1) with q | rfl; exact HE.out j j0 q; exact HA.out⟩, HB2⟩
     ·have hp1 : (y.f1 == -1) = false := by simp [hp]
      go_wp2_with (first | (at_lookup; refine wpList_lookup_own_ok_int _ rfl _ _ 206 rfl 9 3 .i64 mlaw Tryz.underlying206 Tryz.underlying3 (mzero _) w.heap.size i.toNat D rfl (HM.out.alloc _) _ _ rfl (keyOf_string_mk Tryz.underlying9 hsz) ?_; intro c_ hat_ hwc_; clear hat_ hwc_) | (go_at_call 143; (with_reducible refine (iNameOk_calls y.f0 _ C1.out _).mono ?_); rintro e w' ⟨rfl, rfl⟩) | (go_at_call 144; (with_reducible refine (kindOk_calls y.f2 _ C2.out _).mono ?_); rintro e w' ⟨rfl, rfl⟩) | (at_mapUpdate; refine wpList_mapUpdate_own _ rfl _ _ _ 206 rfl 9 3 mlaw Tryz.underlying206 (plainElem (H := Unit) Tryz.prog 3) w.heap.size i.toNat D rfl (HM.out.alloc _) (by unfold maxLen; omega) _ _ _ rfl rfl (keyOf_string_mk Tryz.underlying9 hsz) _ [] (plainElem_int Tryz.underlying3 (WalkArith.wf_i64 (by omega))) ?_; intro w2 hown2 hg2; have HM2 := Aside0.mk hown2; have BX2 := Aside0.mk (blk_grown (blk_new wr (.cells #[.string y.f0, .int .i64 y.f1, .int .i64 y.f2] 48 (0, 0))) hg2 (by have := HW.out; simp; omega)); have HB2 := Aside0.mk ((below_alloc HB.out (.cells #[.string y.f0, .int .i64 y.f1, .int .i64 y.f2] 48 (0, 0))).grown hg2 (below_alloc HB.out (.cells #[.string y.f0, .int .i64 y.f1, .int .i64 y.f2] 48 (0, 0))).size (by intro k hk; cases hk; exact Nat.le_refl _)); have HO2 := Aside0.mk (Kd.R_grown (Kd.R_alloc HO.out (.cells #[.string y.f0, .int .i64 y.f1, .int .i64 y.f2] 48 (0, 0))) hg2 (by intro k hk e; injection e with e; exact hk e)); have q0 : w2.cell? ⟨wr.heap.size, 0, none⟩ = some (.string y.f0) := (blk_cell BX2.out 0).trans rfl; have q1 : w2.cell? ⟨wr.heap.size, 1, none⟩ = some (.int .i64 y.f1) := (blk_cell BX2.out 1).trans rfl; have q2 : w2.cell? ⟨wr.heap.size, 2, none⟩ = some (.int .i64 y.f2) := (blk_cell BX2.out 2).trans rfl; clear hown2 hg2))
      have HDc := Aside0.mk (dec_of HE.out)
      clear hb
      go_loopg [10] i.toNat (fun kq v10 w' => ∃ k : Int, v10 = .int .i64 k ∧ -1 ≤ k ∧ k < i ∧ Aside0 (k + 1 ≤ kq) ∧ Aside0 (up l k y.f1 = up l (i - 1) y.f1) ∧ Aside0 (w2 = w'))
      case atStart => exact ⟨i - 1, by go_num, by omega, by omega, ⟨by omega⟩, ⟨rfl⟩, ⟨rfl⟩⟩
      case round =>
       obtain ⟨k, rfl, g0, g1, HK3, HU, ⟨rfl⟩⟩ := hrel
       by_cases ho : 0 ≤ k
       ·have hkl : k < (l.length : Int) := by omega
        obtain ⟨ad3, e0, z0, z1, z2⟩ := at48 (Kd.C_below HR.out HB2.out) k ho hkl
        cases e0
        by_cases hop : k = y.f1
        ·have HKY := Aside0.mk hop
         have HUP := Aside0.mk (show up l (i - 1) y.f1 = y.f1 by rw [← HU.out, hop]; exact up_stop (by omega))
         have hne : (k != y.f1) = false := by simp [hop]
         have hlt0 : decide (k < 0) = false := by simp; omega
         clear hop
         have HDI := Aside0.mk (show dep l i = dep l k + 1 from by
          have hD1 : Dec l (i + 1) := fun j j0 j1 => by
           by_cases e : j = i
           ·subst e; rw [hy.out, ← HKY.out]; omega
           ·exact HDc.out j j0 (by omega)
          have q := dep_step hD1 h0 (by omega) (by rw [hy.out, ← HKY.out]; exact ho)
          rw [hy.out, ← HKY.out] at q
          exact q)
         obtain ⟨s0, t0⟩ := slotI HO2.out k ho hkl
         rw [HD.out k ho g1] at s0
         obtain ⟨s1, t1⟩ := slotI HO2.out i h0 hlt
         have hd0 := (depGo_range (l := l) (k + 1).toNat k).1
         obtain ⟨d, hd⟩ : ∃ d, dep l k = d := ⟨_, rfl⟩
         replace hd0 : 0 ≤ d := by rw [← hd]; exact hd0
         rw [hd] at s0 HDI
         clear hd
         by_cases hk2 : (rd_T48 l k).f2 = y.f2
         ·have hk3 : ((rd_T48 l k).f2 != y.f2) = false := by simp [hk2]
          by_cases h8 : 8 ≤ d
          ·have HF := Aside0.mk (bP_f (show ¬ ChartP l from fun h => by have q := (h.2.2 i h0 hlt).deep (by rw [hy.out, ← HKY.out]; exact ho); have := HDI.out; omega))
           clear hk2
           go_wp2
           go_quiet (fail)
           go_wp2
           refine bodyPost_ret (v := .tuple #[.slice none 0 0, .bool false]) (by simp [results, Tryz.results141, go_sem]) rfl ⟨_, by rw [HF.out], pw_below_drewN HB2.out _⟩
          ·have HA := Aside0.mk (show AccOk l i from by
             refine ⟨?_, ?_, ?_, ?_, ?_, HN.out, fun q => ?_, fun q => ?_, fun q => ?_⟩ <;> (try rw [hy.out] at *)
             ·exact bP_iff.1 C1.out
             ·exact (bP_iff.1 C2.out).1
             ·exact (bP_iff.1 C2.out).2
             ·have := HKY.out; omega
             ·have := HKY.out; omega
             ·exact HUP.out
             ·rw [← HKY.out]; exact hk2
             ·have := HDI.out; omega)
           clear hk2
           go_wp2
           go_quiet (fail)
           go_wp2
           go_roundg (l.length - (i + 1).toNat)
           case measure => have := HK.out; omega
           case rel =>
            have hgn : gd ≠ w.heap.size := HO2.out.1 gd (by simp [Value.ownBlock])
            refine ⟨i + 1, xs.set i.toNat (d + 1), _, by go_num, by omega, by omega, ⟨rfl⟩, ⟨by rw [List.length_set]; exact HX.out⟩, ⟨fun j j0 j1 => ?_⟩, ⟨fun j j0 j1 => ?_⟩, ⟨(Kd.R_putg (Kd.R_drewN HO2.out _) i (d + 1)).1⟩, ⟨by rw [show (i + 1).toNat = i.toNat + 1 by omega]; exact (show (World.drewN _ _).ownsMap Tryz.prog 9 (plainElem (H := Unit) Tryz.prog 3) w.heap.size (i.toNat + 1) _ from HM2.out).kept (Kd.R_putg (Kd.R_drewN HO2.out _) i (d + 1)).2 (by intro e; injection e with e; exact hgn e.symm)⟩, ⟨HN3.out _⟩, ⟨fun j j0 j1 => by rcases Int.lt_or_eq_of_le (Int.lt_add_one_iff.1 j1) with q | rfl; exact HE.out j j0 q; exact HA.out⟩, ⟨(pw_below_drewN HB2.out _).grown (Kd.R_putg (Kd.R_drewN HO2.out _) i (d + 1)).2 HB2.out.size (by rintro k h; cases h; omega)⟩⟩
            ·rw [getD_set 0 xs _ h0 (by rw [HX.out]; exact hlt) j0]
             split
             ·next e => rw [e, HDI.out]
             ·exact HD.out j j0 (by omega)
            ·rw [getD_set 0 xs _ h0 (by rw [HX.out]; exact hlt) (by omega), if_neg (by omega)]
             exact HZ.out j (by omega) j1
         ·have hk3 : ((rd_T48 l k).f2 != y.f2) = true := by simp [hk2]
          have HF := Aside0.mk (bP_f (show ¬ ChartP l from fun h => by have q := (h.2.2 i h0 hlt).kin (by rw [hy.out, ← HKY.out]; exact ho); rw [hy.out, ← HKY.out] at q; exact hk2 q))
          clear hk2
          go_wp2
          go_quiet (fail)
          go_wp2
          refine bodyPost_ret (v := .tuple #[.slice none 0 0, .bool false]) (by simp [results, Tryz.results141, go_sem]) rfl ⟨_, by rw [HF.out], pw_below_drewN HB2.out _⟩
        ·have hne : (k != y.f1) = true := by simp [hop]
         have HD1 := Aside0.mk (HDc.out k ho g1)
         have HU2 := Aside0.mk ((up_step HDc.out g1 ho hop).symm.trans HU.out)
         clear hop
         go_wp2
         go_roundg k.toNat
         case measure => have := HK3.out; omega
         case rel => exact ⟨(acc l k).f1, rfl, HD1.out.1, by have := HD1.out.2; omega, ⟨by have := HD1.out.2; have := HD1.out.1; omega⟩, HU2, ⟨rfl⟩⟩
       ·have hk1 : k = -1 := by omega
        have HF := Aside0.mk (bP_f (show ¬ ChartP l from fun h => by
         have q := h.2.2 i h0 hlt
         by_cases e : 0 ≤ y.f1
         ·have q1 := q.on (by rw [hy.out]; exact e)
          rw [hy.out, ← HU.out, up_stop (by omega)] at q1
          omega
         ·have q1 := q.p0
          rw [hy.out] at q1
          omega))
        clear hk1 hp
        have hlt0 : decide (k < 0) = true := by simp; omega
        go_wp2
        go_quiet (fail)
        go_wp2
        refine bodyPost_ret (v := .tuple #[.slice none 0 0, .bool false]) (by simp [results, Tryz.results141, go_sem]) rfl ⟨_, by rw [HF.out], pw_below_drewN HB2.out _⟩
    ·have C2 := Aside0.mk (bP_f c2)
     have HF := Aside0.mk (bP_f (show ¬ ChartP l from fun h => c2 (by have := h.2.2 i h0 hlt; rw [← hy.out]; exact ⟨this.k0, this.k1⟩)))
     clear c2
     go_wp2_with (first | (at_lookup; refine wpList_lookup_own_ok_int _ rfl _ _ 206 rfl 9 3 .i64 mlaw Tryz.underlying206 Tryz.underlying3 (mzero _) w.heap.size i.toNat D rfl (HM.out.alloc _) _ _ rfl (keyOf_string_mk Tryz.underlying9 hsz) ?_; intro c_ hat_ hwc_; clear hat_ hwc_) | (go_at_call 143; (with_reducible refine (iNameOk_calls y.f0 _ C1.out _).mono ?_); rintro e w' ⟨rfl, rfl⟩) | (go_at_call 144; (with_reducible refine (kindOk_calls y.f2 _ C2.out _).mono ?_); rintro e w' ⟨rfl, rfl⟩))
     refine bodyPost_ret (v := .tuple #[.slice none 0 0, .bool false]) (by simp [results, Tryz.results141, go_sem]) rfl ⟨_, by rw [HF.out], below_alloc HB.out _⟩
   ·have C1 := Aside0.mk (bP_f c1)
    have HF := Aside0.mk (bP_f (show ¬ ChartP l from fun h => c1 (by have := (h.2.2 i h0 hlt).name; rw [← hy.out]; exact this)))
    clear c1
    go_wp2_with (first | (at_lookup; refine wpList_lookup_own_ok_int _ rfl _ _ 206 rfl 9 3 .i64 mlaw Tryz.underlying206 Tryz.underlying3 (mzero _) w.heap.size i.toNat D rfl (HM.out.alloc _) _ _ rfl (keyOf_string_mk Tryz.underlying9 hsz) ?_; intro c_ hat_ hwc_; clear hat_ hwc_) | (go_at_call 143; (with_reducible refine (iNameOk_calls y.f0 _ C1.out _).mono ?_); rintro e w' ⟨rfl, rfl⟩))
    refine bodyPost_ret (v := .tuple #[.slice none 0 0, .bool false]) (by simp [results, Tryz.results141, go_sem]) rfl ⟨_, by rw [HF.out], below_alloc HB.out _⟩
  ·have HF := Aside0.mk (bP_t (show ChartP l from ⟨by omega, by omega, fun j j0 j1 => HE.out j j0 (by omega)⟩))
   go_wp2
   refine bodyPost_ret (v := .tuple #[.slice (some ⟨gd, 0, none⟩) l.length cap, .bool true]) (by simp [results, Tryz.results141, go_sem]) rfl ⟨⟨_, by rw [HF.out]⟩, HB.out⟩
end Go.Proofs.YtheaeffhhbjpmaaGreatDoor

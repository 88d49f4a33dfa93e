/- The to.. functions of the exact laws return copies in new memory, and turn nothing that was there. The to.. functions of the exact laws for entries, ledgers and books return copies in new memory, and turn nothing that was there. toBooks of the exact laws returns a copy in new memory, and turns nothing that was there. -/
import Derived.Test.YtheaeffhhbjpmaaGreatDoorXSz
namespace Go.Proofs.YtheaeffhhbjpmaaGreatDoor
open Go.RowKit Go.Proofs.YtheaeffhhbjpmaaGreatDoorW.PrintWords Go.Proofs.YtheaeffhhbjpmaaGreatDoorW.PrintLast
set_option linter.unusedVariables false
set_option linter.unusedSimpArgs false
theorem getD_set {α : Type} (d : α) (xs : List α) (x : α) {i j : Int} (h0 : 0 ≤ i) (h1 : i < xs.length) (h2 : 0 ≤ j) : (xs.set i.toNat x).getD j.toNat d = if j = i then x else xs.getD j.toNat d := by
 have hl : i.toNat < xs.length := by omega
 by_cases h : j = i
 ·subst h; rw [if_pos rfl]; simp [List.getD_eq_getElem?_getD, List.getElem?_set, hl]
 ·rw [if_neg h]; simp only [List.getD_eq_getElem?_getD, List.getElem?_set]; rw [if_neg (by omega)]
/-- The first i elements are l's. -/
def Upto {α : Type} (d : α) (l xs : List α) (i : Int) : Prop := xs.length = l.length ∧ ∀ j : Int, 0 ≤ j → j < i → xs.getD j.toNat d = l.getD j.toNat d
theorem Upto.zero {α : Type} {d : α} {l xs : List α} (h : xs.length = l.length) : Upto d l xs 0 := ⟨h, fun j h0 h1 => by omega⟩
theorem Upto.step {α : Type} {d : α} {l xs : List α} {i : Int} (h : Upto d l xs i) (h0 : 0 ≤ i) (h1 : i < l.length) : Upto d l (xs.set i.toNat (l.getD i.toNat d)) (i + 1) := by
 refine ⟨by rw [List.length_set]; exact h.1, fun j hj hi => ?_⟩
 rw [getD_set d xs _ h0 (by rw [h.1]; exact h1) hj]
 split
 ·next e => rw [e]
 ·exact h.2 j hj (by omega)
theorem Upto.done {α : Type} {d : α} {l xs : List α} {i : Int} (h : Upto d l xs i) (h1 : (l.length : Int) ≤ i) : xs = l := getD_ext d h.1 (fun j h0 h2 => h.2 j h0 (by have := h.1; omega))

theorem put48 {W : World} {base g n cap : Nat} {ok : Nat → Prop} {xs : List S48} (h : k48.R 48 W base ok (.slice (some ⟨g, 0, none⟩) n cap) xs) (i : Int) (h0 : 0 ≤ i) (h1 : i < n) (x : S48) :
  k48.R 48 (((W.setCell ⟨g, i.toNat * 3, none⟩ (.string x.f0)).setCell ⟨g, i.toNat * 3 + 1, none⟩ (.int .i64 x.f1)).setCell ⟨g, i.toNat * 3 + 2, none⟩ (.int .i64 x.f2)) base ok (.slice (some ⟨g, 0, none⟩) n cap) (xs.set i.toNat x) ∧ W.grownBy (((W.setCell ⟨g, i.toNat * 3, none⟩ (.string x.f0)).setCell ⟨g, i.toNat * 3 + 1, none⟩ (.int .i64 x.f1)).setCell ⟨g, i.toNat * 3 + 2, none⟩ (.int .i64 x.f2)) (some g) := by
 obtain ⟨c, hcl, hM, hcc, hfr⟩ := Kd.R_elem h z48 i h0 h1
 obtain rfl := k48_openM hM
 exact Kd.R_seg h i h0 h1 (seg := [.string x.f0, .int .i64 x.f1, .int .i64 x.f2]) (j := 0) hcl hcc (show 3 ≤ 3 by decide) (x' := x) (k48_mkM _ _ (fun k => ok k ∧ k ≠ g) x) (fun _ hk => hk)
theorem slot48 {W : World} {base g n cap : Nat} {ok : Nat → Prop} {xs : List S48} (h : k48.R 48 W base ok (.slice (some ⟨g, 0, none⟩) n cap) xs) (i : Int) (h0 : 0 ≤ i) (h1 : i < n) :
  W.cell? ⟨g, i.toNat * 3, none⟩ = some (.string (rd_T48 xs i).f0) ∧ W.cell? ⟨g, i.toNat * 3 + 1, none⟩ = some (.int .i64 (rd_T48 xs i).f1) ∧ W.cell? ⟨g, i.toNat * 3 + 2, none⟩ = some (.int .i64 (rd_T48 xs i).f2) ∧ W.frozen? ⟨g, i.toNat * 3, none⟩ = false ∧ W.frozen? ⟨g, i.toNat * 3 + 1, none⟩ = false ∧ W.frozen? ⟨g, i.toNat * 3 + 2, none⟩ = false := by
 obtain ⟨c, hcl, hM, hcc, hfr⟩ := Kd.R_elem h z48 i h0 h1
 obtain rfl := k48_openM hM
 exact ⟨hcc 0 _ rfl, hcc 1 _ rfl, hcc 2 _ rfl, hfr 0, hfr 1, hfr 2⟩

theorem put88 {W : World} {base g n cap : Nat} {ok : Nat → Prop} {xs : List S88} (h : k88.R 88 W base ok (.slice (some ⟨g, 0, none⟩) n cap) xs) (i : Int) (h0 : 0 ≤ i) (h1 : i < n) (x : S88) :
  k88.R 88 (((((W.setCell ⟨g, i.toNat * 5, none⟩ (.int .i64 x.f0)).setCell ⟨g, i.toNat * 5 + 1, none⟩ (.int .i64 x.f1)).setCell ⟨g, i.toNat * 5 + 2, none⟩ (.int .i64 x.f2)).setCell ⟨g, i.toNat * 5 + 3, none⟩ (.int .i64 x.f3)).setCell ⟨g, i.toNat * 5 + 4, none⟩ (.int .i64 x.f4)) base ok (.slice (some ⟨g, 0, none⟩) n cap) (xs.set i.toNat x) ∧ W.grownBy (((((W.setCell ⟨g, i.toNat * 5, none⟩ (.int .i64 x.f0)).setCell ⟨g, i.toNat * 5 + 1, none⟩ (.int .i64 x.f1)).setCell ⟨g, i.toNat * 5 + 2, none⟩ (.int .i64 x.f2)).setCell ⟨g, i.toNat * 5 + 3, none⟩ (.int .i64 x.f3)).setCell ⟨g, i.toNat * 5 + 4, none⟩ (.int .i64 x.f4)) (some g) := by
 obtain ⟨c, hcl, hM, hcc, hfr⟩ := Kd.R_elem h z88 i h0 h1
 obtain rfl := k88_openM hM
 exact Kd.R_seg h i h0 h1 (seg := [.int .i64 x.f0, .int .i64 x.f1, .int .i64 x.f2, .int .i64 x.f3, .int .i64 x.f4]) (j := 0) hcl hcc (show 5 ≤ 5 by decide) (x' := x) (k88_mkM _ _ (fun k => ok k ∧ k ≠ g) x) (fun _ hk => hk)
theorem slot88 {W : World} {base g n cap : Nat} {ok : Nat → Prop} {xs : List S88} (h : k88.R 88 W base ok (.slice (some ⟨g, 0, none⟩) n cap) xs) (i : Int) (h0 : 0 ≤ i) (h1 : i < n) :
  W.cell? ⟨g, i.toNat * 5, none⟩ = some (.int .i64 (rd_T88 xs i).f0) ∧ W.cell? ⟨g, i.toNat * 5 + 1, none⟩ = some (.int .i64 (rd_T88 xs i).f1) ∧ W.cell? ⟨g, i.toNat * 5 + 2, none⟩ = some (.int .i64 (rd_T88 xs i).f2) ∧ W.cell? ⟨g, i.toNat * 5 + 3, none⟩ = some (.int .i64 (rd_T88 xs i).f3) ∧ W.cell? ⟨g, i.toNat * 5 + 4, none⟩ = some (.int .i64 (rd_T88 xs i).f4) ∧ W.frozen? ⟨g, i.toNat * 5, none⟩ = false ∧ W.frozen? ⟨g, i.toNat * 5 + 1, none⟩ = false ∧ W.frozen? ⟨g, i.toNat * 5 + 2, none⟩ = false ∧ W.frozen? ⟨g, i.toNat * 5 + 3, none⟩ = false ∧ W.frozen? ⟨g, i.toNat * 5 + 4, none⟩ = false := by
 obtain ⟨c, hcl, hM, hcc, hfr⟩ := Kd.R_elem h z88 i h0 h1
 obtain rfl := k88_openM hM
 exact ⟨hcc 0 _ rfl, hcc 1 _ rfl, hcc 2 _ rfl, hcc 3 _ rfl, hcc 4 _ rfl, hfr 0, hfr 1, hfr 2, hfr 3, hfr 4⟩

theorem put84 {W : World} {base g n cap : Nat} {ok : Nat → Prop} {xs : List S84} (h : k84.R 84 W base ok (.slice (some ⟨g, 0, none⟩) n cap) xs) (i : Int) (h0 : 0 ≤ i) (h1 : i < n) (x : S84) :
  k84.R 84 ((W.setCell ⟨g, i.toNat * 2, none⟩ (.int .i64 x.f0)).setCell ⟨g, i.toNat * 2 + 1, none⟩ (.int .i64 x.f1)) base ok (.slice (some ⟨g, 0, none⟩) n cap) (xs.set i.toNat x) ∧ W.grownBy ((W.setCell ⟨g, i.toNat * 2, none⟩ (.int .i64 x.f0)).setCell ⟨g, i.toNat * 2 + 1, none⟩ (.int .i64 x.f1)) (some g) := by
 obtain ⟨c, hcl, hM, hcc, hfr⟩ := Kd.R_elem h z84 i h0 h1
 obtain rfl := k84_openM hM
 exact Kd.R_seg h i h0 h1 (seg := [.int .i64 x.f0, .int .i64 x.f1]) (j := 0) hcl hcc (show 2 ≤ 2 by decide) (x' := x) (k84_mkM _ _ (fun k => ok k ∧ k ≠ g) x) (fun _ hk => hk)
theorem slot84 {W : World} {base g n cap : Nat} {ok : Nat → Prop} {xs : List S84} (h : k84.R 84 W base ok (.slice (some ⟨g, 0, none⟩) n cap) xs) (i : Int) (h0 : 0 ≤ i) (h1 : i < n) :
  W.cell? ⟨g, i.toNat * 2, none⟩ = some (.int .i64 (rd_T84 xs i).f0) ∧ W.cell? ⟨g, i.toNat * 2 + 1, none⟩ = some (.int .i64 (rd_T84 xs i).f1) ∧ W.frozen? ⟨g, i.toNat * 2, none⟩ = false ∧ W.frozen? ⟨g, i.toNat * 2 + 1, none⟩ = false := by
 obtain ⟨c, hcl, hM, hcc, hfr⟩ := Kd.R_elem h z84 i h0 h1
 obtain rfl := k84_openM hM
 exact ⟨hcc 0 _ rfl, hcc 1 _ rfl, hfr 0, hfr 1⟩

theorem toAccount_calls (a : S48) (w : World) : Calls Tryz.prog 131 #[.agg #[.string a.f0, .int .i64 a.f1, .int .i64 a.f2]] w fun e w' => e = .returned (.agg #[.string a.f0, .int .i64 a.f1, .int .i64 a.f2]) ∧ Below w.heap.size w w' := by
 have hu1 := Tryz.underlying182
 have hu2 := Tryz.underlying48
 go_enter Tryz.func131, Tryz.ntmps131
 go_wp2
 exact bodyPost_ret (v := .agg #[.string a.f0, .int .i64 a.f1, .int .i64 a.f2]) (by simp [results, Tryz.results131, go_sem]) rfl ⟨rfl, (by repeat (first | (with_reducible assumption) | exact Below.refl _ _ | apply below_alloc | apply below_drew1 | refine below_step ?_ (by assumption)))⟩

theorem toLine_calls (a : S88) (w : World) : Calls Tryz.prog 110 #[.agg #[.int .i64 a.f0, .int .i64 a.f1, .int .i64 a.f2, .int .i64 a.f3, .int .i64 a.f4]] w fun e w' => e = .returned (.agg #[.int .i64 a.f0, .int .i64 a.f1, .int .i64 a.f2, .int .i64 a.f3, .int .i64 a.f4]) ∧ Below w.heap.size w w' := by
 have hu1 := Tryz.underlying162
 have hu2 := Tryz.underlying88
 go_enter Tryz.func110, Tryz.ntmps110
 go_wp2
 exact bodyPost_ret (v := .agg #[.int .i64 a.f0, .int .i64 a.f1, .int .i64 a.f2, .int .i64 a.f3, .int .i64 a.f4]) (by simp [results, Tryz.results110, go_sem]) rfl ⟨rfl, (by repeat (first | (with_reducible assumption) | exact Below.refl _ _ | apply below_alloc | apply below_drew1 | refine below_step ?_ (by assumption)))⟩

theorem toPeriod_calls (a : S84) (w : World) : Calls Tryz.prog 109 #[.agg #[.int .i64 a.f0, .int .i64 a.f1]] w fun e w' => e = .returned (.agg #[.int .i64 a.f0, .int .i64 a.f1]) ∧ Below w.heap.size w w' := by
 have hu1 := Tryz.underlying160
 have hu2 := Tryz.underlying84
 go_enter Tryz.func109, Tryz.ntmps109
 go_wp2
 exact bodyPost_ret (v := .agg #[.int .i64 a.f0, .int .i64 a.f1]) (by simp [results, Tryz.results109, go_sem]) rfl ⟨rfl, (by repeat (first | (with_reducible assumption) | exact Below.refl _ _ | apply below_alloc | apply below_drew1 | refine below_step ?_ (by assumption)))⟩

set_option maxRecDepth 100000 in
theorem toAccountS_calls (A : Option Addr) (c : Nat) (l : List S48) (hs : l.length ≤ 1048576) (w : World) (hr : Kd.C k48 w A l.length l) :
  Calls Tryz.prog 107 #[.slice A l.length c] w fun e w' => ∃ v : Value, e = .returned v ∧ k48.R 48 w' w.heap.size (fun _ => True) v l ∧ Below w.heap.size w w' := by
 have HR := Aside0.mk hr
 clear hr
 go_enter Tryz.func107, Tryz.ntmps107
 go_wp2_with ((with_reducible refine gate_dst (N := 7) rfl ?_); refine Kd.R_make k48 _ 48 rfl (N := 7) rfl 24 _ _ rfl (l.length : Int) rfl rfl Tryz.underlying24 (.agg #[(.string ⟨#[]⟩), (.int .i64 0), (.int .i64 0)]) 32 info48 rfl (by decide) (by omega) z48 (ok := fun _ => True) (okp := fun _ => True) (k48_mkM _ _ _ z48) (fun _ hk => hk) trivial (by omega) (by simp; omega) (Below.refl _ _) (Nat.le_refl _) ?_; intro v w4 ho hb _ _; replace ho := Aside0.mk ho; replace hb := Aside0.mk hb)
 go_loopg [4] (l.length) (fun kq v4 w' => ∃ (i : Int) (xs : List S48), v4 = .int .i64 i ∧ 0 ≤ i ∧ i ≤ l.length ∧ Aside0 (kq = l.length - i.toNat) ∧ Aside0 (Upto z48 l xs i) ∧ Aside0 (k48.R 48 w' w.heap.size (fun _ => True) v xs) ∧ Aside0 (Below w.heap.size w w'))
 case atStart => exact ⟨0, _, rfl, by omega, by omega, ⟨rfl⟩, ⟨Upto.zero (by simp)⟩, ho, hb⟩
 case round =>
  clear ho hb
  obtain ⟨i, xs, rfl, h0, hi, HK, HU, HO, HB⟩ := hrel
  by_cases hlt : i < l.length
  ·obtain ⟨ad, e0, x⟩ := at48 (Kd.C_below HR.out HB.out) i h0 hlt
   cases e0
   obtain ⟨x0, x1, x2⟩ := x
   obtain ⟨g, cap, hv, hg, _⟩ := Kd.R_form HO.out (by have := HU.out.1; omega)
   rw [HU.out.1] at hv
   subst hv
   replace hg := Aside0.mk hg
   go_wp2_with (go_at_call 131; refine (toAccount_calls (rd_T48 l i) _).mono ?_; rintro e w1 ⟨rfl, hb⟩; have HO1 := Aside0.mk (Kd.R_below HO.out hb); obtain ⟨s0, s1, s2, t0, t1, t2⟩ := slot48 HO1.out i h0 hlt)
   go_roundg (l.length - (i + 1).toNat)
   case measure => have := HK.out; omega
   case rel => exact ⟨i + 1, xs.set i.toNat (rd_T48 l i), rfl, by omega, by omega, ⟨rfl⟩, ⟨HU.out.step h0 hlt⟩, ⟨(put48 HO1.out i h0 hlt (rd_T48 l i)).1⟩, ⟨(below_step HB.out hb).grown (put48 HO1.out i h0 hlt (rd_T48 l i)).2 (by have := HB.out.size; have := hb.size; omega) (by rintro k h; cases h; exact hg.out)⟩⟩
  ·have he := HU.out.done (by omega)
   subst he
   go_wp2
   go_ret
   exact ⟨_, rfl, HO.out, HB.out⟩

set_option maxRecDepth 100000 in
theorem toLineS_calls (A : Option Addr) (c : Nat) (l : List S88) (hs : l.length ≤ 1048576) (w : World) (hr : Kd.C k88 w A l.length l) :
  Calls Tryz.prog 69 #[.slice A l.length c] w fun e w' => ∃ v : Value, e = .returned v ∧ k88.R 88 w' w.heap.size (fun _ => True) v l ∧ Below w.heap.size w w' := by
 have HR := Aside0.mk hr
 clear hr
 go_enter Tryz.func69, Tryz.ntmps69
 go_wp2_with ((with_reducible refine gate_dst (N := 7) rfl ?_); refine Kd.R_make k88 _ 88 rfl (N := 7) rfl 39 _ _ rfl (l.length : Int) rfl rfl Tryz.underlying39 (.agg #[(.int .i64 0), (.int .i64 0), (.int .i64 0), (.int .i64 0), (.int .i64 0)]) 40 info88 rfl (by decide) (by omega) z88 (ok := fun _ => True) (okp := fun _ => True) (k88_mkM _ _ _ z88) (fun _ hk => hk) trivial (by omega) (by simp; omega) (Below.refl _ _) (Nat.le_refl _) ?_; intro v w4 ho hb _ _; replace ho := Aside0.mk ho; replace hb := Aside0.mk hb)
 go_loopg [4] (l.length) (fun kq v4 w' => ∃ (i : Int) (xs : List S88), v4 = .int .i64 i ∧ 0 ≤ i ∧ i ≤ l.length ∧ Aside0 (kq = l.length - i.toNat) ∧ Aside0 (Upto z88 l xs i) ∧ Aside0 (k88.R 88 w' w.heap.size (fun _ => True) v xs) ∧ Aside0 (Below w.heap.size w w'))
 case atStart => exact ⟨0, _, rfl, by omega, by omega, ⟨rfl⟩, ⟨Upto.zero (by simp)⟩, ho, hb⟩
 case round =>
  clear ho hb
  obtain ⟨i, xs, rfl, h0, hi, HK, HU, HO, HB⟩ := hrel
  by_cases hlt : i < l.length
  ·obtain ⟨ad, e0, x⟩ := at88 (Kd.C_below HR.out HB.out) i h0 hlt
   cases e0
   obtain ⟨x0, x1, x2, x3, x4⟩ := x
   obtain ⟨g, cap, hv, hg, _⟩ := Kd.R_form HO.out (by have := HU.out.1; omega)
   rw [HU.out.1] at hv
   subst hv
   replace hg := Aside0.mk hg
   go_wp2_with (go_at_call 110; refine (toLine_calls (rd_T88 l i) _).mono ?_; rintro e w1 ⟨rfl, hb⟩; have HO1 := Aside0.mk (Kd.R_below HO.out hb); obtain ⟨s0, s1, s2, s3, s4, t0, t1, t2, t3, t4⟩ := slot88 HO1.out i h0 hlt)
   go_roundg (l.length - (i + 1).toNat)
   case measure => have := HK.out; omega
   case rel => exact ⟨i + 1, xs.set i.toNat (rd_T88 l i), rfl, by omega, by omega, ⟨rfl⟩, ⟨HU.out.step h0 hlt⟩, ⟨(put88 HO1.out i h0 hlt (rd_T88 l i)).1⟩, ⟨(below_step HB.out hb).grown (put88 HO1.out i h0 hlt (rd_T88 l i)).2 (by have := HB.out.size; have := hb.size; omega) (by rintro k h; cases h; exact hg.out)⟩⟩
  ·have he := HU.out.done (by omega)
   subst he
   go_wp2
   go_ret
   exact ⟨_, rfl, HO.out, HB.out⟩

set_option maxRecDepth 100000 in
theorem toPeriodS_calls (A : Option Addr) (c : Nat) (l : List S84) (hs : l.length ≤ 1048576) (w : World) (hr : Kd.C k84 w A l.length l) :
  Calls Tryz.prog 68 #[.slice A l.length c] w fun e w' => ∃ v : Value, e = .returned v ∧ k84.R 84 w' w.heap.size (fun _ => True) v l ∧ Below w.heap.size w w' := by
 have HR := Aside0.mk hr
 clear hr
 go_enter Tryz.func68, Tryz.ntmps68
 go_wp2_with ((with_reducible refine gate_dst (N := 7) rfl ?_); refine Kd.R_make k84 _ 84 rfl (N := 7) rfl 30 _ _ rfl (l.length : Int) rfl rfl Tryz.underlying30 (.agg #[(.int .i64 0), (.int .i64 0)]) 16 info84 rfl (by decide) (by omega) z84 (ok := fun _ => True) (okp := fun _ => True) (k84_mkM _ _ _ z84) (fun _ hk => hk) trivial (by omega) (by simp; omega) (Below.refl _ _) (Nat.le_refl _) ?_; intro v w4 ho hb _ _; replace ho := Aside0.mk ho; replace hb := Aside0.mk hb)
 go_loopg [4] (l.length) (fun kq v4 w' => ∃ (i : Int) (xs : List S84), v4 = .int .i64 i ∧ 0 ≤ i ∧ i ≤ l.length ∧ Aside0 (kq = l.length - i.toNat) ∧ Aside0 (Upto z84 l xs i) ∧ Aside0 (k84.R 84 w' w.heap.size (fun _ => True) v xs) ∧ Aside0 (Below w.heap.size w w'))
 case atStart => exact ⟨0, _, rfl, by omega, by omega, ⟨rfl⟩, ⟨Upto.zero (by simp)⟩, ho, hb⟩
 case round =>
  clear ho hb
  obtain ⟨i, xs, rfl, h0, hi, HK, HU, HO, HB⟩ := hrel
  by_cases hlt : i < l.length
  ·obtain ⟨ad, e0, x⟩ := at84 (Kd.C_below HR.out HB.out) i h0 hlt
   cases e0
   obtain ⟨x0, x1⟩ := x
   obtain ⟨g, cap, hv, hg, _⟩ := Kd.R_form HO.out (by have := HU.out.1; omega)
   rw [HU.out.1] at hv
   subst hv
   replace hg := Aside0.mk hg
   go_wp2_with (go_at_call 109; refine (toPeriod_calls (rd_T84 l i) _).mono ?_; rintro e w1 ⟨rfl, hb⟩; have HO1 := Aside0.mk (Kd.R_below HO.out hb); obtain ⟨s0, s1, t0, t1⟩ := slot84 HO1.out i h0 hlt)
   go_roundg (l.length - (i + 1).toNat)
   case measure => have := HK.out; omega
   case rel => exact ⟨i + 1, xs.set i.toNat (rd_T84 l i), rfl, by omega, by omega, ⟨rfl⟩, ⟨HU.out.step h0 hlt⟩, ⟨(put84 HO1.out i h0 hlt (rd_T84 l i)).1⟩, ⟨(below_step HB.out hb).grown (put84 HO1.out i h0 hlt (rd_T84 l i)).2 (by have := HB.out.size; have := hb.size; omega) (by rintro k h; cases h; exact hg.out)⟩⟩
  ·have he := HU.out.done (by omega)
   subst he
   go_wp2
   go_ret
   exact ⟨_, rfl, HO.out, HB.out⟩
end Go.Proofs.YtheaeffhhbjpmaaGreatDoor
namespace Go.Proofs.YtheaeffhhbjpmaaGreatDoor
open Go.RowKit Go.Proofs.YtheaeffhhbjpmaaGreatDoorW.PrintWords Go.Proofs.YtheaeffhhbjpmaaGreatDoorW.PrintLast
set_option linter.unusedVariables false
set_option linter.unusedSimpArgs false
theorem R_after {α : Type} {d : Kd α} {e B : Nat} {w1 w2 : World} {ok : Nat → Prop} {v : Value} {xs : List α} (h : d.R e w1 B ok v xs) (hm : ∀ k, B ≤ k → w2.heap[k]? = w1.heap[k]?) : d.R e w2 B ok v xs :=
 Kd.R_mono (Kd.R_move (Kd.R_bound h) (fun k hk => hm k hk.2.1)) (fun _ hk => hk.1)
theorem S_after {α : Type} {d : Kd α} {e B : Nat} {w1 w2 : World} {ok : Nat → Prop} {v : Value} {xs : List α} (h : Kd.S d e w1 B ok v xs) (hm : ∀ k, B ≤ k → w2.heap[k]? = w1.heap[k]?) : Kd.S d e w2 B ok v xs :=
 Kd.S_mono (Kd.S_move (Kd.S_bound h) (fun k hk => hm k hk.2.1)) (fun _ hk => hk.1)
theorem heap_set1 (w : World) (b o : Nat) (v : Value) {k B : Nat} (h : B ≤ k) (hb : b < B) : (w.setCell ⟨b, o, none⟩ v).heap[k]? = w.heap[k]? := Below.heap_setCell w ⟨b, o, none⟩ v k (by show k ≠ b; omega)
set_option maxRecDepth 100000 in
theorem toEntry_calls (a : S41) (A : Option Addr) (c : Nat) (hs : a.f3.length ≤ 1048576) (w : World) (hr : Kd.C k88 w A a.f3.length a.f3) :
  Calls Tryz.prog 22 #[.agg #[.int .i64 a.f0, .int .i64 a.f1, .string a.f2, .slice A a.f3.length c]] w fun e w' => ∃ v : Value, e = .returned (.agg #[.int .i64 a.f0, .int .i64 a.f1, .string a.f2, v]) ∧ k88.R 88 w' w.heap.size (fun _ => True) v a.f3 ∧ Below w.heap.size w w' := by
 have hu1 := Tryz.underlying64
 have hu2 := Tryz.underlying41
 have HR := Aside0.mk hr
 clear hr
 go_enter Tryz.func22, Tryz.ntmps22
 go_wp2_with (go_at_call 69; refine (toLineS_calls _ _ a.f3 hs _ (Kd.C_below HR.out (by repeat (first | (with_reducible assumption) | exact Below.refl _ _ | apply below_alloc | apply below_drew1 | refine below_step ?_ (by assumption))))).mono ?_; rintro e w1 ⟨v, rfl, ho, hb⟩; obtain ⟨V, cv, rfl⟩ := Kd.R_slice ho; replace ho := Aside0.mk ho; obtain ⟨hc1, hf1⟩ := bcell hb; have hz1 : w.heap.size < w1.heap.size := (by have := hb.size; (try simp at this); omega); have hy1 : w.heap.size + 1 < w1.heap.size := (by have := hb.size; (try simp at this); omega); have hx1 : w.heap.size + 2 < w1.heap.size := (by have := hb.size; (try simp at this); omega))
 refine bodyPost_ret (v := .agg #[.int .i64 a.f0, .int .i64 a.f1, .string a.f2, .slice V a.f3.length cv]) (by simp [results, Tryz.results22, go_sem, hc1, hz1, hy1, hx1]) rfl ⟨_, rfl, ?_, ?_⟩
 ·refine Kd.R_lower (R_after ho.out ?_) (by simp; omega)
  intro k hk
  simp at hk
  repeat (with_reducible refine (heap_set1 _ _ _ _ hk (by omega)).trans ?_)
  with_reducible rfl
 ·exact (by repeat (with_reducible first | assumption | exact Below.refl _ _ | apply below_alloc | apply below_drew1 | refine below_set ?_ (by omega) | refine below_step ?_ (by assumption)))
/-- An entry with its own new row of lines is stored into element i. -/
theorem put41 {W : World} {base g n cap : Nat} {ok : Nat → Prop} {xs : List S41} {v : Value} {B : Nat} (h : Kd.S k41 41 W base (fun k => ok k ∧ k < B) (.slice (some ⟨g, 0, none⟩) n cap) xs) (hB : base ≤ B) (i : Int) (h0 : 0 ≤ i) (h1 : i < n) (x : S41) (hv : k88.R 88 W B (fun _ => True) v x.f3) (hok : ∀ k, B ≤ k → k < W.heap.size → ok k) :
  Kd.S k41 41 ((((W.setCell ⟨g, i.toNat * 4, none⟩ (.int .i64 x.f0)).setCell ⟨g, i.toNat * 4 + 1, none⟩ (.int .i64 x.f1)).setCell ⟨g, i.toNat * 4 + 2, none⟩ (.string x.f2)).setCell ⟨g, i.toNat * 4 + 3, none⟩ v) base ok (.slice (some ⟨g, 0, none⟩) n cap) (xs.set i.toNat x) ∧
  W.grownBy ((((W.setCell ⟨g, i.toNat * 4, none⟩ (.int .i64 x.f0)).setCell ⟨g, i.toNat * 4 + 1, none⟩ (.int .i64 x.f1)).setCell ⟨g, i.toNat * 4 + 2, none⟩ (.string x.f2)).setCell ⟨g, i.toNat * 4 + 3, none⟩ v) (some g) := by
 have hg : g < B := ((Kd.S_R h).1 g (by simp [Value.ownBlock])).2
 obtain ⟨oki, c, hcl, hM, hcc, hoki, hH⟩ := Kd.S_lend (Kd.S_mono (ok' := fun k => (ok k) ∧ ¬ (some k = v.ownBlock)) h (fun k hk => ⟨hk.1, fun e => by have := Kd.R_base hv k e.symm; omega⟩)) z41 i h0 h1
 obtain ⟨ve, rfl, ge⟩ := k41_openM hM
 have hR : k88.R 88 W base (fun k => oki k ∨ some k = v.ownBlock) v x.f3 := Kd.R_mono (Kd.R_tight rfl (Kd.R_lower hv hB)) (fun k hk => .inr hk)
 exact Kd.S_seg (okg := fun k => some k = v.ownBlock) hH h0 h1 (seg := [.int .i64 x.f0, .int .i64 x.f1, .string x.f2, v]) (j := 0) (show 4 ≤ 4 by decide) (x' := x) (k41_mkM _ _ _ x hR) (fun _ hk => hk) (fun k hk => ⟨hok k (Kd.R_base hv k hk.symm) (Kd.R_lt hv k hk.symm), fun e => by have := Kd.R_base hv k hk.symm; omega⟩)
theorem slot41 {W : World} {base g n cap : Nat} {ok : Nat → Prop} {xs : List S41} (h : k41.R 41 W base ok (.slice (some ⟨g, 0, none⟩) n cap) xs) (i : Int) (h0 : 0 ≤ i) (h1 : i < n) :
  ∃ ve, W.cell? ⟨g, i.toNat * 4, none⟩ = some (.int .i64 (rd_T41 xs i).f0) ∧ W.cell? ⟨g, i.toNat * 4 + 1, none⟩ = some (.int .i64 (rd_T41 xs i).f1) ∧ W.cell? ⟨g, i.toNat * 4 + 2, none⟩ = some (.string (rd_T41 xs i).f2) ∧ W.cell? ⟨g, i.toNat * 4 + 3, none⟩ = some ve ∧ W.frozen? ⟨g, i.toNat * 4, none⟩ = false ∧ W.frozen? ⟨g, i.toNat * 4 + 1, none⟩ = false ∧ W.frozen? ⟨g, i.toNat * 4 + 2, none⟩ = false ∧ W.frozen? ⟨g, i.toNat * 4 + 3, none⟩ = false := by
 obtain ⟨c, hcl, hM, hcc, hfr⟩ := Kd.R_elem h z41 i h0 h1
 obtain ⟨ve, rfl, ge⟩ := k41_openM hM
 exact ⟨ve, hcc 0 _ rfl, hcc 1 _ rfl, hcc 2 _ rfl, hcc 3 _ rfl, hfr 0, hfr 1, hfr 2, hfr 3⟩
theorem S_elder2 {wr w1 : World} {base : Nat} {v : Value} {xs : List S41} (h : Kd.S k41 41 wr base (fun _ => True) v xs) (hb : Below wr.heap.size wr w1) : Kd.S k41 41 w1 base (fun k => True ∧ k < wr.heap.size) v xs :=
 Kd.S_mono (Kd.S_move (Kd.S_bound h) (fun k hk => hb.block k hk.2.2.1)) (fun k hk => ⟨trivial, hk.2.2.1⟩)
set_option maxRecDepth 100000 in
theorem toEntryS_calls (A : Option Addr) (c : Nat) (l : List S41) (hs : l.length ≤ 1048576) (hss : ∀ a ∈ l, a.f3.length ≤ 1048576) (w : World) (hr : Kd.C k41 w A l.length l) :
  Calls Tryz.prog 108 #[.slice A l.length c] w fun e w' => ∃ v : Value, e = .returned v ∧ Kd.S k41 41 w' w.heap.size (fun _ => True) v l ∧ Below w.heap.size w w' := by
 have HR := Aside0.mk hr
 have HS := Aside0.mk hss
 clear hr hss
 go_enter Tryz.func108, Tryz.ntmps108
 go_wp2_with ((with_reducible refine gate_dst (N := 7) rfl ?_); refine Kd.S_make k41 _ 41 rfl (N := 7) rfl 27 _ _ rfl (l.length : Int) rfl rfl Tryz.underlying27 (.agg #[(.int .i64 0), (.int .i64 0), (.string ⟨#[]⟩), (.slice none 0 0)]) 56 info41 rfl (by decide) (by omega) z41 (ok := fun _ => True) (okp := fun _ => True) (k41_mkM _ _ _ z41 (Kd.R_nil _ _ _ _ _)) (fun _ hk => trivial) trivial (by omega) (by simp; omega) (Below.refl _ _) (Nat.le_refl _) ?_; intro v w4 ho hb _ _; replace ho := Aside0.mk ho; replace hb := Aside0.mk hb)
 go_loopg [4] (l.length) (fun kq v4 w' => ∃ (i : Int) (xs : List S41), v4 = .int .i64 i ∧ 0 ≤ i ∧ i ≤ l.length ∧ Aside0 (kq = l.length - i.toNat) ∧ Aside0 (Upto z41 l xs i) ∧ Aside0 (Kd.S k41 41 w' w.heap.size (fun _ => True) v xs) ∧ Aside0 (Below w.heap.size w w'))
 case atStart => exact ⟨0, _, rfl, by omega, by omega, ⟨rfl⟩, ⟨Upto.zero (by simp)⟩, ho, hb⟩
 case round =>
  clear ho hb
  obtain ⟨i, xs, rfl, h0, hi, HK, HU, HO, HB⟩ := hrel
  by_cases hlt : i < l.length
  ·obtain ⟨ad, N, nc, e0, x, _, y⟩ := at41 (Kd.C_below HR.out HB.out) i h0 hlt
   cases e0
   obtain ⟨x0, x1, x2, x3⟩ := x
   obtain ⟨g, cap, hv, hg, _⟩ := Kd.S_form HO.out (by have := HU.out.1; omega)
   rw [HU.out.1] at hv
   subst hv
   replace hg := Aside0.mk hg
   have HY := Aside0.mk y
   have hsl := HS.out _ (mem_getD z41 h0 hlt)
   clear y
   go_wp2_with (go_at_call 22; refine (toEntry_calls (rd_T41 l i) _ _ hsl _ HY.out).mono ?_; rintro e w1 ⟨v1, rfl, ho1, hb⟩; obtain ⟨V, cv, rfl⟩ := Kd.R_slice ho1; replace ho1 := Aside0.mk ho1; have HO1 := Aside0.mk (S_elder2 HO.out hb); obtain ⟨ve, s0, s1, s2, s3, t0, t1, t2, t3⟩ := slot41 (Kd.S_R HO1.out) i h0 hlt)
   have HP := Aside0.mk (put41 HO1.out (by have := HB.out.size; omega) i h0 hlt (rd_T41 l i) ho1.out (fun _ _ _ => trivial))
   go_roundg (l.length - (i + 1).toNat)
   case measure => have := HK.out; omega
   case rel => exact ⟨i + 1, xs.set i.toNat (rd_T41 l i), rfl, by omega, by omega, ⟨rfl⟩, ⟨HU.out.step h0 hlt⟩, ⟨HP.out.1⟩, ⟨(below_step HB.out hb).grown HP.out.2 (by have := HB.out.size; have := hb.size; omega) (by rintro k h; cases h; exact hg.out)⟩⟩
  ·have he := HU.out.done (by omega)
   subst he
   go_wp2
   go_ret
   exact ⟨_, rfl, HO.out, HB.out⟩
theorem R_after2 {α : Type} {d : Kd α} {e B : Nat} {w1 w2 : World} {ok : Nat → Prop} {v : Value} {xs : List α} (h : d.R e w1 B ok v xs) (hm : ∀ k, B ≤ k → k < w1.heap.size → w2.heap[k]? = w1.heap[k]?) : d.R e w2 B ok v xs :=
 Kd.R_mono (Kd.R_move (Kd.R_bound h) (fun k hk => hm k hk.2.1 hk.2.2.1)) (fun _ hk => hk.1)
theorem S_after2 {α : Type} {d : Kd α} {e B : Nat} {w1 w2 : World} {ok : Nat → Prop} {v : Value} {xs : List α} (h : Kd.S d e w1 B ok v xs) (hm : ∀ k, B ≤ k → k < w1.heap.size → w2.heap[k]? = w1.heap[k]?) : Kd.S d e w2 B ok v xs :=
 Kd.S_mono (Kd.S_move (Kd.S_bound h) (fun k hk => hm k hk.2.1 hk.2.2.1)) (fun _ hk => hk.1)
theorem S_lower {α : Type} {d : Kd α} {e B B' : Nat} {w1 : World} {ok : Nat → Prop} {v : Value} {xs : List α} (h : Kd.S d e w1 B ok v xs) (hB : B' ≤ B) : Kd.S d e w1 B' ok v xs := by
 obtain ⟨f, h⟩ := h
 exact ⟨f, Kd.R_lower h hB⟩
set_option maxRecDepth 100000 in
theorem toLedger_calls (a : LedgD) (A : Option Addr) (c : Nat) (hs : a.entries.length ≤ 1048576) (hss : ∀ x ∈ a.entries, x.f3.length ≤ 1048576) (w : World) (hr : Kd.C k41 w A a.entries.length a.entries) :
  Calls Tryz.prog 67 #[.agg #[.slice A a.entries.length c, .int .i64 a.head]] w fun e w' => ∃ v : Value, e = .returned (.agg #[v, .int .i64 a.head]) ∧ Kd.S k41 41 w' w.heap.size (fun _ => True) v a.entries ∧ Below w.heap.size w w' := by
 have hu1 := Tryz.underlying58
 have hu2 := Tryz.underlying29
 have HR := Aside0.mk hr
 have HS := Aside0.mk hss
 clear hr hss
 go_enter Tryz.func67, Tryz.ntmps67
 go_wp2_with (go_at_call 108; refine (toEntryS_calls _ _ a.entries hs HS.out _ (Kd.C_below HR.out (by repeat (first | (with_reducible assumption) | exact Below.refl _ _ | apply below_alloc | apply below_drew1 | refine below_step ?_ (by assumption))))).mono ?_; rintro e w1 ⟨v, rfl, ho, hb⟩; obtain ⟨V, cv, rfl⟩ := Kd.S_slice ho; replace ho := Aside0.mk ho; obtain ⟨hc1, hf1⟩ := bcell hb; have hz1 : w.heap.size < w1.heap.size := (by have := hb.size; (try simp at this); omega); have hy1 : w.heap.size + 1 < w1.heap.size := (by have := hb.size; (try simp at this); omega); have hx1 : w.heap.size + 2 < w1.heap.size := (by have := hb.size; (try simp at this); omega))
 refine bodyPost_ret (v := .agg #[.slice V a.entries.length cv, .int .i64 a.head]) (by simp [results, Tryz.results67, go_sem, hc1, hz1, hy1, hx1]) rfl ⟨_, rfl, ?_, ?_⟩
 ·refine S_lower (S_after ho.out ?_) (by simp; omega)
  intro k hk
  simp at hk
  repeat (with_reducible refine (heap_set1 _ _ _ _ hk (by omega)).trans ?_)
  with_reducible rfl
 ·exact (by repeat (with_reducible first | assumption | exact Below.refl _ _ | apply below_alloc | apply below_drew1 | refine below_set ?_ (by omega) | refine below_step ?_ (by assumption)))
set_option maxRecDepth 100000 in
theorem toFrame_calls (a : FrameD) (A : Option Addr) (c : Nat) (hs : a.chart.length ≤ 1048576) (w : World) (hr : Kd.C k48 w A a.chart.length a.chart) :
  Calls Tryz.prog 66 #[.agg #[.slice A a.chart.length c, .int .i64 a.dims, .int .i64 a.curs]] w fun e w' => ∃ v : Value, e = .returned (.agg #[v, .int .i64 a.dims, .int .i64 a.curs]) ∧ k48.R 48 w' w.heap.size (fun _ => True) v a.chart ∧ Below w.heap.size w w' := by
 have hu1 := Tryz.underlying55
 have hu2 := Tryz.underlying26
 have HR := Aside0.mk hr
 clear hr
 go_enter Tryz.func66, Tryz.ntmps66
 go_wp2_with (go_at_call 107; refine (toAccountS_calls _ _ a.chart hs _ (Kd.C_below HR.out (by repeat (first | (with_reducible assumption) | exact Below.refl _ _ | apply below_alloc | apply below_drew1 | refine below_step ?_ (by assumption))))).mono ?_; rintro e w1 ⟨v, rfl, ho, hb⟩; obtain ⟨V, cv, rfl⟩ := Kd.R_slice ho; replace ho := Aside0.mk ho; obtain ⟨hc1, hf1⟩ := bcell hb; have hz1 : w.heap.size < w1.heap.size := (by have := hb.size; (try simp at this); omega); have hy1 : w.heap.size + 1 < w1.heap.size := (by have := hb.size; (try simp at this); omega); have hx1 : w.heap.size + 2 < w1.heap.size := (by have := hb.size; (try simp at this); omega))
 refine bodyPost_ret (v := .agg #[.slice V a.chart.length cv, .int .i64 a.dims, .int .i64 a.curs]) (by simp [results, Tryz.results66, go_sem, hc1, hz1, hy1, hx1]) rfl ⟨_, rfl, ?_, ?_⟩
 ·refine Kd.R_lower (R_after ho.out ?_) (by simp; omega)
  intro k hk
  simp at hk
  repeat (with_reducible refine (heap_set1 _ _ _ _ hk (by omega)).trans ?_)
  with_reducible rfl
 ·exact (by repeat (with_reducible first | assumption | exact Below.refl _ _ | apply below_alloc | apply below_drew1 | refine below_set ?_ (by omega) | refine below_step ?_ (by assumption)))
end Go.Proofs.YtheaeffhhbjpmaaGreatDoor
namespace Go.Proofs.YtheaeffhhbjpmaaGreatDoor
open Go.RowKit Go.Proofs.YtheaeffhhbjpmaaGreatDoorW.PrintWords Go.Proofs.YtheaeffhhbjpmaaGreatDoorW.PrintLast
set_option linter.unusedVariables false
set_option linter.unusedSimpArgs false
/-- A books' value in memory that is the call's own, from base on. -/
structure OwnB (w : World) (base : Nat) (a : ABooks) (b : BooksD) : Prop where
 o0 : k48.R 48 w base (fun _ => True) (.slice a.A0 b.frame.chart.length a.c0) b.frame.chart
 o3 : Kd.S k41 41 w base (fun _ => True) (.slice a.A3 b.ledg.entries.length a.c3) b.ledg.entries
 o5 : k84.R 84 w base (fun _ => True) (.slice a.A5 b.periods.length a.c5) b.periods
theorem OwnB.rd {w : World} {base : Nat} {a : ABooks} {b : BooksD} (h : OwnB w base a b) : RdB w a b :=
 ⟨(Kd.R_reads' h.o0).2.2, (Kd.S_reads' h.o3).2.2, (Kd.R_reads' h.o5).2.2⟩
/-- No list is longer than a bound that all machines take. -/
structure SmB (b : BooksD) : Prop where
 s0 : b.frame.chart.length ≤ 1048576
 s2 : b.ledg.entries.length ≤ 1048576
 s3 : ∀ x ∈ b.ledg.entries, x.f3.length ≤ 1048576
 s4 : b.periods.length ≤ 1048576
set_option maxRecDepth 100000 in
set_option maxHeartbeats 1000000 in
theorem toBooks_calls (a : ABooks) (b : BooksD) (hs : SmB b) (w : World) (hr : RdB w a b) :
  Calls Tryz.prog 21 #[valB a b] w fun e w' => ∃ a' : ABooks, e = .returned (valB a' b) ∧ OwnB w' w.heap.size a' b ∧ Below w.heap.size w w' := by
 have hu1 := Tryz.underlying61
 have hu2 := Tryz.underlying32
 have hu3 := Tryz.underlying26
 have hu4 := Tryz.underlying29
 have HR := Aside0.mk hr
 have HS := Aside0.mk hs
 clear hr hs
 go_enter Tryz.func21, Tryz.ntmps21
 go_wp2_with (first
  | (go_at_call 66; refine (toFrame_calls b.frame _ _ HS.out.s0 _ (Kd.C_below HR.out.r0 (by repeat (with_reducible first | assumption | exact Below.refl _ _ | apply below_alloc | apply below_drew1 | refine below_set ?_ (by omega) | refine below_step ?_ (by assumption))))).mono ?_; rintro e w1 ⟨v1, rfl, ho1, hb1⟩; obtain ⟨V1, c1, rfl⟩ := Kd.R_slice ho1; replace ho1 := Aside0.mk ho1; obtain ⟨hc1, hf1⟩ := bcell hb1; have hz1 := hb1.size; (try simp at hz1); have hy1 : w.heap.size < w1.heap.size := (by omega); have hx1 : w.heap.size + 1 < w1.heap.size := (by omega); have hv1 : w.heap.size + 2 < w1.heap.size := (by omega))
  | (go_at_call 67; refine (toLedger_calls b.ledg _ _ HS.out.s2 HS.out.s3 _ (Kd.C_below HR.out.r3 (by repeat (with_reducible first | assumption | exact Below.refl _ _ | apply below_alloc | apply below_drew1 | refine below_set ?_ (by omega) | refine below_step ?_ (by assumption))))).mono ?_; rintro e w2 ⟨v2, rfl, ho2, hb2⟩; obtain ⟨V2, c2, rfl⟩ := Kd.S_slice ho2; replace ho2 := Aside0.mk ho2; obtain ⟨hc2, hf2⟩ := bcell hb2; have hz2 := hb2.size; (try simp at hz2); have hy2 : w.heap.size < w2.heap.size := (by omega); have hx2 : w.heap.size + 1 < w2.heap.size := (by omega); have hv2 : w.heap.size + 2 < w2.heap.size := (by omega))
  | (go_at_call 68; refine (toPeriodS_calls _ _ b.periods HS.out.s4 _ (Kd.C_below HR.out.r5 (by repeat (with_reducible first | assumption | exact Below.refl _ _ | apply below_alloc | apply below_drew1 | refine below_set ?_ (by omega) | refine below_step ?_ (by assumption))))).mono ?_; rintro e w3 ⟨v3, rfl, ho3, hb3⟩; obtain ⟨V3, c3, rfl⟩ := Kd.R_slice ho3; replace ho3 := Aside0.mk ho3; obtain ⟨hc3, hf3⟩ := bcell hb3; have hz3 := hb3.size; (try simp at hz3); have hy3 : w.heap.size < w3.heap.size := (by omega); have hx3 : w.heap.size + 1 < w3.heap.size := (by omega); have hv3 : w.heap.size + 2 < w3.heap.size := (by omega)))
 refine bodyPost_ret (v := valB ⟨V1, c1, V2, c2, V3, c3⟩ b) (by simp [results, Tryz.results21, go_sem, hc1, hc2, hc3, hy1, hx1, hv1, hy2, hx2, hv2, hy3, hx3, hv3]) rfl ⟨⟨V1, c1, V2, c2, V3, c3⟩, rfl, ⟨?_, ?_, ?_⟩, ?_⟩
 ·refine Kd.R_lower (R_after2 ho1.out ?_) (by simp; omega)
  intro k hk hk2
  simp at hk
  repeat (with_reducible first | refine (heap_set1 _ _ _ _ hk (by omega)).trans ?_ | refine (hb3.block k (by simp; omega)).trans ?_ | refine (hb2.block k (by simp; omega)).trans ?_)
  with_reducible rfl
 ·refine S_lower (S_after2 ho2.out ?_) (by simp; omega)
  intro k hk hk2
  simp at hk
  repeat (with_reducible first | refine (heap_set1 _ _ _ _ hk (by omega)).trans ?_ | refine (hb3.block k (by simp; omega)).trans ?_)
  with_reducible rfl
 ·refine Kd.R_lower (R_after2 ho3.out ?_) (by simp; omega)
  intro k hk hk2
  simp at hk
  repeat (with_reducible first | refine (heap_set1 _ _ _ _ hk (by omega)).trans ?_)
  with_reducible rfl
 ·exact (by repeat (with_reducible first | assumption | exact Below.refl _ _ | apply below_alloc | apply below_drew1 | refine below_set ?_ (by omega) | refine below_step ?_ (by assumption)))
end Go.Proofs.YtheaeffhhbjpmaaGreatDoor

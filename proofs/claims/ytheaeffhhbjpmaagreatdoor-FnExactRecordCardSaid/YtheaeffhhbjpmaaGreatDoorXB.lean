/- Of the reference: an entry's numbers, one after the other. Of the reference: the head of a ledger, whether a ledger is right. -/
import Derived.Test.YtheaeffhhbjpmaaGreatDoorXSp4
import Derived.Test.YtheaeffhhbjpmaaGreatDoorWRepsOne
namespace Go.Proofs.YtheaeffhhbjpmaaGreatDoor
open Go.RowKit Go.Proofs.YtheaeffhhbjpmaaGreatDoorW.PrintWords Go.Proofs.YtheaeffhhbjpmaaGreatDoorW.PrintLast
set_option linter.unusedVariables false
set_option linter.unusedSimpArgs false
def numsT (s : ByteArray) (n : Nat) : List Int := (List.range n).map fun (j : Nat) => bt s j
def numsL (x : S88) : List Int := [x.f0, x.f1, x.f2, x.f3, x.f4]
def numsLs (l : List S88) : List Int := l.flatMap numsL
def numsE (e : S41) : List Int := [e.f0, e.f1, (e.f2.size : Int)] ++ numsT e.f2 e.f2.size ++ [(e.f3.length : Int)] ++ numsLs e.f3
theorem numsT_step (s : ByteArray) (n : Nat) : numsT s (n + 1) = numsT s n ++ [bt s n] := by simp [numsT, List.range_succ]
theorem numsT_length (s : ByteArray) (n : Nat) : (numsT s n).length = n := by simp [numsT]
theorem numsLs_step (l : List S88) {i : Int} (h0 : 0 ≤ i) (h1 : i < l.length) : numsLs (l.take (i + 1).toNat) = numsLs (l.take i.toNat) ++ numsL (ln l i) := by
 have h : i.toNat < l.length := by omega
 unfold numsLs ln rd_T88
 rw [show (i + 1).toNat = i.toNat + 1 by omega, List.take_add_one, List.flatMap_append]
 simp [h]
theorem int_lit (W : World) (xs : List Int) (hm : xs.length ≤ 9223372036854775807) : Kd.R (Kd.int .i64) 3 (W.alloc (.cells (xs.map (Value.int .i64)).toArray 3 (0, 0))) W.heap.size (fun _ => True) (.slice (some ⟨W.heap.size, 0, none⟩) xs.length xs.length) xs := by
 refine Kd.R_of_own ?_ (fun _ _ => trivial)
 have h := World.ownsRow_lit (base := W.heap.size) (e := 3) (size := 1) W (xs.map (Value.int .i64)).toArray xs.length (Nat.le_refl _) hm (by simp)
 simpa [encs] using h
theorem int_lit_reads (W : World) (xs : List Int) (n m : Nat) (hn : n = W.heap.size) (hm : m = xs.length) (hl : xs.length ≤ 9223372036854775807) : ReadsRow (fun (x : Int) cs => cs = [.int .i64 x]) 1 (W.alloc (.cells (xs.map (Value.int .i64)).toArray 3 (0, 0))) (some ⟨n, 0, none⟩) m xs := by
 subst hn hm
 exact (Kd.R_reads' (int_lit W xs hl)).2.2
theorem numsLs_length (l : List S88) : (numsLs l).length = 5 * l.length := by
 induction l with
 | nil => rfl
 | cons a t ih => simp only [numsLs, List.flatMap_cons, List.length_append] at *; rw [ih]; simp [numsL]; omega
set_option maxRecDepth 100000 in
set_option maxHeartbeats 2000000 in
theorem sNumbers_calls (e : S41) (AL : Option Addr) (cL : Nat) (ht : e.f2.size ≤ 40) (hn : e.f3.length ≤ 60) (w : World) (hl : Kd.C k88 w AL e.f3.length e.f3) :
  Calls Tryz.prog 123 #[.agg #[.int .i64 e.f0, .int .i64 e.f1, .string e.f2, .slice AL e.f3.length cL]] w fun e1 w' => ∃ v : Value, e1 = .returned v ∧ Kd.R (Kd.int .i64) 3 w' w.heap.size (fun _ => True) v (numsE e) ∧ Below w.heap.size w w' := by
 have hu2 := Tryz.underlying41
 have hu3 := Tryz.underlying88
 have HLn := Aside0.mk hl
 have hm := C_len hl
 clear hl
 obtain ⟨P0, hP0⟩ : ∃ P0, P0 = [e.f0, e.f1, (e.f2.size : Int)] := ⟨_, rfl⟩
 have hP0l : P0.length = 3 := by subst hP0; rfl
 replace hP0 := Aside0.mk hP0
 go_enter Tryz.func123, Tryz.ntmps123
 go_wp2_with (first | ((with_reducible refine gate_dst (N := 14) rfl ?_); refine Kd.R_lit (Kd.int .i64) _ 3 ?hg (N := 14) ?hd (xs := ([e.f0, e.f1, (e.f2.size : Int)] : List Int)) (inner := [.int .i64 e.f0, .int .i64 e.f1, .int .i64 (e.f2.size : Int)]) (ok := fun _ => True) (okp := fun _ => True) ?hr ?hp (fun _ hk => hk) trivial (Below.refl _ _) (Nat.le_refl _) (by simp) ?_; (case hd => rfl); (case hg => rfl); (case hr => first | (go_simp; done) | (go_simp; rfl)); (case hp => exact (Reps.one (show Kd.M (Kd.int .i64) _ _ _ e.f0 [.int .i64 e.f0] from rfl) (Reps.one (show Kd.M (Kd.int .i64) _ _ _ e.f1 [.int .i64 e.f1] from rfl) (Reps.one (show Kd.M (Kd.int .i64) _ _ _ (e.f2.size : Int) [.int .i64 (e.f2.size : Int)] from rfl) (Reps.none _ _))))); intro v1 w1 ho hb1 hg_ hnew_; clear hg_ hnew_; rw [← hP0.out] at ho))
 have hz1 := hb1.size
 simp at hz1
 have HB1 := Aside0.mk (show Below w.heap.size w w1 from (by repeat (with_reducible first | assumption | exact Below.refl _ _ | apply below_alloc | apply below_drew1 | apply pw_below_drewN | refine below_set ?_ (by omega) | refine below_step ?_ (by assumption))))
 have HO1 := Aside0.mk (Kd.R_lower ho (below_size (show Below w.heap.size w (w.alloc (.cells #[.int .i64 e.f0, .int .i64 e.f1, .string e.f2, .slice AL e.f3.length cL] 41 (0, 0))) from below_alloc (Below.refl _ _) _)))
 have BK1 := Aside0.mk (show w1.heap[w.heap.size]? = some (.cells #[.int .i64 e.f0, .int .i64 e.f1, .string e.f2, .slice AL e.f3.length cL] 41 (0, 0)) from blk_below (blk_new w _) hb1)
 clear ho hb1 hz1
 go_loopg [3, 4] e.f2.size (fun kq v3 v4 w' => ∃ i : Nat, v4 = .int .i64 i ∧ i ≤ e.f2.size ∧ Aside0 (kq = e.f2.size - i) ∧ Aside0 (Kd.R (Kd.int .i64) 3 w' w.heap.size (fun _ => True) v3 (P0 ++ numsT e.f2 i)) ∧ Aside0 (w'.heap[w.heap.size]? = some (.cells #[.int .i64 e.f0, .int .i64 e.f1, .string e.f2, .slice AL e.f3.length cL] 41 (0, 0))) ∧ Aside0 (Below w.heap.size w w'))
 case atStart => exact ⟨0, rfl, by omega, ⟨rfl⟩, ⟨by simpa [numsT] using HO1.out⟩, BK1, HB1⟩
 case round =>
  clear HO1 BK1 HB1
  obtain ⟨i, rfl, hi, HK, HO, BK, HB⟩ := hrel
  have hb0 : wr.cell? ⟨w.heap.size, 2, none⟩ = some (.string e.f2) := (blk_cell BK.out 2).trans rfl
  have hb3 : wr.cell? ⟨w.heap.size, 3, none⟩ = some (.slice AL e.f3.length cL) := (blk_cell BK.out 3).trans rfl
  have hq0 := blk_frozen BK.out 2
  have hq3 := blk_frozen BK.out 3
  by_cases hlt : i < e.f2.size
  ·have hx := bt_at e.f2 i hlt
   have hlen := (show (P0 ++ numsT e.f2 i).length = 3 + i by rw [List.length_append, hP0l, numsT_length])
   have HX := Aside0.mk (show wrap64 ((e.f2[i].toNat : Nat) : Int) = bt e.f2 i by have := UInt8.toNat_lt (e.f2[i]); rw [bt_at _ _ hlt]; unfold wrap64; omega)
   clear hx
   go_wp2_with ((with_reducible refine gate_dst (N := 29) rfl ?_); at_builtin; refine Kd.R_append (Kd.int .i64) (w0 := w) w.heap.size rfl (.tmp 22) (.tmp 28) 42 3 (.int .i64 0) 8 rfl Tryz.underlying42 info3 rfl (by decide) (by omega) u3 (P0 ++ numsT e.f2 i) (wrap64 ((e.f2[i].toNat : Nat) : Int)) [.int .i64 (wrap64 ((e.f2[i].toNat : Nat) : Int))] (fun _ => True) (fun _ => False) rfl rfl ?aP (fun _ hk => hk.elim) ?aF ?aO ?aB ?aS ?aL ?_; (case aP => exact rfl); (case aB => exact (by repeat (with_reducible first | exact HB.out | apply below_alloc | apply below_drew1 | apply pw_below_drewN))); (case aF => exact (fun _ _ => trivial)); (case aO => exact (by (with_reducible repeat (first | apply Kd.R_alloc | apply Kd.R_drewN | apply Kd.R_drew)); exact HO.out)); (case aS => exact below_size (by repeat (with_reducible first | exact HB.out | apply below_alloc | apply below_drew1 | apply pw_below_drewN))); (case aL => first | (simp; omega) | omega); intro v1 w2 ho hb2 hg hat; have HO2 := Aside0.mk ho; have BK2 := Aside0.mk (blk_grown (g := w.heap.size) (o := .cells #[.int .i64 e.f0, .int .i64 e.f1, .string e.f2, .slice AL e.f3.length cL] 41 (0, 0)) (by (with_reducible repeat (first | refine blk_drewN ?_ _ | refine blk_drew ?_ | refine blk_alloc ?_ _)); exact BK.out) hg (Kd.R_ne HO.out BK.out (by decide))); have HB2 := Aside0.mk hb2; clear ho hg hat hb2)
   go_roundg (e.f2.size - (i + 1))
   case measure => have := HK.out; omega
   case rel => exact ⟨i + 1, by go_num, by omega, ⟨rfl⟩, ⟨by rw [numsT_step, ← HX.out, ← List.append_assoc]; exact HO2.out⟩, BK2, HB2⟩
  ·have hie : i = e.f2.size := by omega
   subst hie
   have hlen := (show (P0 ++ numsT e.f2 e.f2.size).length = 3 + e.f2.size by rw [List.length_append, hP0l, numsT_length])
   clear hi hlt
   obtain ⟨Q0, hQ0⟩ : ∃ Q0, Q0 = P0 ++ numsT e.f2 e.f2.size ++ [(e.f3.length : Int)] := ⟨_, rfl⟩
   have hQl : Q0.length ≤ 44 := by rw [hQ0, List.length_append, hlen]; simp; omega
   go_wp2_with ((with_reducible refine gate_dst (N := 35) rfl ?_); at_builtin; refine Kd.R_append (Kd.int .i64) (w0 := w) w.heap.size rfl (.tmp 30) (.tmp 34) 42 3 (.int .i64 0) 8 rfl Tryz.underlying42 info3 rfl (by decide) (by omega) u3 (P0 ++ numsT e.f2 e.f2.size) ((e.f3.length : Int)) [.int .i64 (e.f3.length : Int)] (fun _ => True) (fun _ => False) rfl rfl ?aP (fun _ hk => hk.elim) ?aF ?aO ?aB ?aS ?aL ?_; (case aP => exact rfl); (case aB => exact (by repeat (with_reducible first | exact HB.out | apply below_alloc | apply below_drew1 | apply pw_below_drewN))); (case aF => exact (fun _ _ => trivial)); (case aO => exact (by (with_reducible repeat (first | apply Kd.R_alloc | apply Kd.R_drewN | apply Kd.R_drew)); exact HO.out)); (case aS => exact below_size (by repeat (with_reducible first | exact HB.out | apply below_alloc | apply below_drew1 | apply pw_below_drewN))); (case aL => first | (simp; omega) | omega); intro v1 w2 ho hb2 hg hat; rw [← hQ0] at ho; have HO2 := Aside0.mk ho; have BK2 := Aside0.mk (blk_grown (g := w.heap.size) (o := .cells #[.int .i64 e.f0, .int .i64 e.f1, .string e.f2, .slice AL e.f3.length cL] 41 (0, 0)) (by (with_reducible repeat (first | refine blk_drewN ?_ _ | refine blk_drew ?_ | refine blk_alloc ?_ _)); exact BK.out) hg (Kd.R_ne HO.out BK.out (by decide))); have HB2 := Aside0.mk hb2; clear ho hg hat hb2)
   have hfin := Aside0.mk (show Q0 ++ numsLs e.f3 = numsE e by rw [hQ0, hP0.out]; rfl)
   clear HO BK HB hb0 hb3 hq0 hq3 hlen hQ0
   go_loopg [3, 5, 6] e.f3.length (fun kq v3 v5 v6 w' => ∃ i : Int, v5 = .int .i64 i ∧ 0 ≤ i ∧ i ≤ e.f3.length ∧ Aside0 (kq = e.f3.length - i.toNat) ∧ Aside0 (Kd.R (Kd.int .i64) 3 w' w.heap.size (fun _ => True) v3 (Q0 ++ numsLs (e.f3.take i.toNat))) ∧ Aside0 (w'.heap[w.heap.size]? = some (.cells #[.int .i64 e.f0, .int .i64 e.f1, .string e.f2, .slice AL e.f3.length cL] 41 (0, 0))) ∧ Aside0 (Below w.heap.size w w'))
   case atStart => exact ⟨0, rfl, by omega, by omega, ⟨rfl⟩, ⟨by simpa [numsLs] using HO2.out⟩, BK2, HB2⟩
   case round =>
    clear HO2 BK2 HB2 HK
    obtain ⟨i, rfl, h0, hi, HK, HO, BK, HB⟩ := hrel
    have hb0 : wr.cell? ⟨w.heap.size, 2, none⟩ = some (.string e.f2) := (blk_cell BK.out 2).trans rfl
    have hb3 : wr.cell? ⟨w.heap.size, 3, none⟩ = some (.slice AL e.f3.length cL) := (blk_cell BK.out 3).trans rfl
    have hq0 := blk_frozen BK.out 2
    have hq3 := blk_frozen BK.out 3
    by_cases hlt : i < e.f3.length
    ·obtain ⟨ad, e0, x0, x1, x2, x3, x4⟩ := at88 (Kd.C_below HLn.out HB.out) i h0 hlt
     cases e0
     obtain ⟨x, hx⟩ : ∃ x, rd_T88 e.f3 i = x := ⟨_, rfl⟩
     rw [hx] at x0 x1 x2 x3 x4
     replace hx := Aside0.mk hx
     have hlen : (Q0 ++ numsLs (e.f3.take i.toNat)).length ≤ 400 := by rw [List.length_append, numsLs_length, List.length_take]; omega
     go_wp2_with ((with_reducible refine gate_dst (N := 60) rfl ?_); at_builtin; refine Kd.R_append_rows (Kd.int .i64) (Rr := fun x cs => cs = [.int .i64 x]) (w0 := w) w.heap.size rfl (.tmp 48) (.tmp 59) 42 3 (.int .i64 0) 8 rfl Tryz.underlying42 info3 rfl (by decide) (by omega) u3 (Q0 ++ numsLs (e.f3.take i.toNat)) (numsL x) _ 5 5 (fun _ => True) (fun _ => False) rfl rfl ?aO ?aR (fun _ _ h => h) (fun _ hk => hk.elim) (fun _ _ => trivial) ?aB ?aS ?aL ?_; (case aO => exact (by (with_reducible repeat (first | apply Kd.R_alloc | apply Kd.R_drewN | apply Kd.R_drew)); exact HO.out)); (case aR => refine int_lit_reads _ (numsL x) _ _ ?_ ?_ ?_; simp; rfl; simp [numsL]); (case aB => exact (by repeat (with_reducible first | exact HB.out | apply below_alloc | apply below_drew1 | apply pw_below_drewN))); (case aS => exact below_size (by repeat (with_reducible first | exact HB.out | apply below_alloc | apply below_drew1 | apply pw_below_drewN))); (case aL => omega); intro v1 w2 ho hb2 hg hat; have HO2 := Aside0.mk ho; have BK2 := Aside0.mk (blk_grown (g := w.heap.size) (o := .cells #[.int .i64 e.f0, .int .i64 e.f1, .string e.f2, .slice (some ad) e.f3.length cL] 41 (0, 0)) (by (with_reducible repeat (first | refine blk_drewN ?_ _ | refine blk_drew ?_ | refine blk_alloc ?_ _)); exact BK.out) hg (Kd.R_ne HO.out BK.out (by decide))); have HB2 := Aside0.mk hb2; clear ho hg hat hb2)
     go_roundg (e.f3.length - (i + 1).toNat)
     case measure => have := HK.out; omega
     case rel => exact ⟨i + 1, by go_num, by omega, by omega, ⟨rfl⟩, ⟨by rw [numsLs_step _ h0 hlt, show ln e.f3 i = x from hx.out, ← List.append_assoc]; exact HO2.out⟩, BK2, HB2⟩
    ·have hie : i.toNat = e.f3.length := by omega
     have HO2 := HO.out
     rw [hie, List.take_length, hfin.out] at HO2
     replace HO2 := Aside0.mk HO2
     clear HO
     go_wp2
     go_ret
     exact ⟨_, rfl, HO2.out, HB.out⟩
end Go.Proofs.YtheaeffhhbjpmaaGreatDoor
namespace Go.Proofs.YtheaeffhhbjpmaaGreatDoor
open Go.RowKit Go.Proofs.YtheaeffhhbjpmaaGreatDoorW.PrintWords Go.Proofs.YtheaeffhhbjpmaaGreatDoorW.PrintLast
set_option linter.unusedVariables false
set_option linter.unusedSimpArgs false
theorem atI {w : World} {A : Option Addr} {n : Nat} {xs : List Int} (h : Kd.C (Kd.int .i64) w A n xs) (i : Int) (h0 : 0 ≤ i) (h1 : i < n) : ∃ ad, A = some ad ∧ w.cell? (ad.add i.toNat) = some (.int .i64 (xs.getD i.toNat 0)) := by
 obtain ⟨ad, c, e, _, hK, hc0⟩ := Kd.C_get h 0 i h0 h1
 have hc : ∀ j u, c[j]? = some u → w.cell? (ad.add (i.toNat * 1 + j)) = some u := hc0
 have hq := hc 0 _ (by rw [show c = [.int .i64 (xs.getD i.toNat 0)] from hK]; rfl)
 exact ⟨ad, e, by rwa [Nat.mul_one, Nat.add_zero] at hq⟩
theorem foldl_step {α β : Type} (f : β → α → β) (b : β) (l : List α) (d : α) {i : Int} (h0 : 0 ≤ i) (h1 : i < l.length) : (l.take (i + 1).toNat).foldl f b = f ((l.take i.toNat).foldl f b) (l.getD i.toNat d) := by
 have h : i.toNat < l.length := by omega
 rw [show (i + 1).toNat = i.toNat + 1 by omega, List.take_add_one, List.foldl_append]
 simp [h]
abbrev en (es : List S41) (i : Int) : S41 := rd_T41 es i
def linkF (h x : Int) : Int := (h * 1000003 + x + 549755813888) % 1099511627791
def inR (x : Int) : Prop := -549755813888 ≤ x ∧ x ≤ 549755813887
theorem linkF_range {h x : Int} (h0 : 0 ≤ h) (hx : inR x) : 0 ≤ linkF h x ∧ linkF h x < 1099511627791 :=
 by unfold linkF; omega
def NumsOk (e : S41) : Prop := e.f3.length ≤ 60 ∧ e.f2.size ≤ 40 ∧ ∀ k : Int, 0 ≤ k → k < (numsE e).length → inR ((numsE e).getD k.toNat 0)
def linkE (h : Int) (e : S41) : Int := (numsE e).foldl linkF h
def headGo (h : Int) (es : List S41) : Int := es.foldl linkE h
def HeadP (es : List S41) : Prop := es.length ≤ 1000 ∧ ∀ i : Int, 0 ≤ i → i < es.length → NumsOk (en es i)
noncomputable def headF (es : List S41) : Int := if bP (HeadP es) then headGo 1 es else 0
theorem headF_t {es : List S41} (h : HeadP es) : headF es = headGo 1 es := by unfold headF; rw [bP_t h]; rfl
theorem headF_f {es : List S41} (h : ¬ HeadP es) : headF es = 0 := by unfold headF; rw [bP_f h]; rfl
theorem foldl_linkF_range {l : List Int} {h : Int} (h0 : 0 ≤ h ∧ h < 1099511627791) (hl : ∀ x ∈ l, inR x) : 0 ≤ l.foldl linkF h ∧ l.foldl linkF h < 1099511627791 := by
 induction l generalizing h with
 | nil => exact h0
 | cons a t ih => exact ih (linkF_range h0.1 (hl a (List.mem_cons_self ..))) (fun x hx => hl x (List.mem_cons_of_mem _ hx))
theorem linkE_range {e : S41} {h : Int} (h0 : 0 ≤ h ∧ h < 1099511627791) (hn : NumsOk e) : 0 ≤ linkE h e ∧ linkE h e < 1099511627791 :=
 foldl_linkF_range h0 fun x hx => by
  obtain ⟨i, i0, i1, rfl⟩ := of_getD 0 hx
  exact hn.2.2 i i0 i1
set_option maxRecDepth 100000 in
set_option maxHeartbeats 2000000 in
theorem sHeadOf_calls (A : Option Addr) (c : Nat) (es : List S41) (hs : ∀ i : Int, 0 ≤ i → i < es.length → (en es i).f2.size ≤ 9223372036854775807) (r : Int) (h : headF es = r) (w : World) (hr : Kd.C k41 w A es.length es) :
  Calls Tryz.prog 88 #[.slice A es.length c] w fun e1 w' => e1 = .returned (.int .i64 r) ∧ Below w.heap.size w w' := by
 subst h
 have hu2 := Tryz.underlying41
 have HR := Aside0.mk hr
 have HS := Aside0.mk hs
 have hm := C_len hr
 clear hr hs
 by_cases hl : 1000 < es.length
 ·have HF := Aside0.mk (headF_f (show ¬ HeadP es from fun h => by have := h.1; omega))
  go_enter Tryz.func88, Tryz.ntmps88
  go_wp2
  go_ret
  exact ⟨ret_i HF.out.symm, Below.refl _ _⟩
 ·replace hl : es.length ≤ 1000 := by omega
  go_enter Tryz.func88, Tryz.ntmps88
  go_wp2
  go_loopg [3, 4] es.length (fun kq v3 v4 w' => ∃ h i : Int, v3 = .int .i64 h ∧ v4 = .int .i64 i ∧ 0 ≤ i ∧ i ≤ es.length ∧ 0 ≤ h ∧ h < 1099511627791 ∧ Aside0 (kq = es.length - i.toNat) ∧ Aside0 (h = headGo 1 (es.take i.toNat)) ∧ Aside0 (∀ j : Int, 0 ≤ j → j < i → NumsOk (en es j)) ∧ Aside0 (Below w.heap.size w w'))
  case atStart => exact ⟨1, 0, rfl, rfl, by omega, by omega, by omega, by omega, ⟨rfl⟩, ⟨by simp [headGo]⟩, ⟨fun j h0 h1 => by omega⟩, ⟨Below.refl _ _⟩⟩
  case round =>
   obtain ⟨h, i, rfl, rfl, h0, hi, g0, g1, HK, HH, HE, HB⟩ := hrel
   by_cases hlt : i < es.length
   ·obtain ⟨ad, A3, c3, e0, ⟨x0, x1, x2, x3⟩, hc3, hC3⟩ := at41 (Kd.C_below HR.out HB.out) i h0 hlt
    cases e0
    have hse : (rd_T41 es i).f2.size ≤ 9223372036854775807 := HS.out i h0 hlt
    have HNo := Aside0.mk (fun (hn : ¬ NumsOk (rd_T41 es i)) => headF_f (show ¬ HeadP es from fun h => hn (h.2 i h0 hlt)))
    obtain ⟨y, hy⟩ : ∃ y, en es i = y := ⟨_, rfl⟩
    unfold en at hy
    rw [hy] at x0 x1 x2 x3 hc3 hC3 HNo hse
    replace hy := Aside0.mk hy
    have HC3 := Aside0.mk hC3
    clear hC3
    by_cases c1 : 60 < y.f3.length
    ·have HF := Aside0.mk (HNo.out fun h => by have := h.1; omega)
     go_wp2
     go_ret
     exact ⟨ret_i HF.out.symm, HB.out⟩
    by_cases c2 : 40 < y.f2.size
    ·have HF := Aside0.mk (HNo.out fun h => by have := h.2.1; omega)
     go_wp2
     go_ret
     exact ⟨ret_i HF.out.symm, HB.out⟩
    replace c1 : y.f3.length ≤ 60 := by omega
    replace c2 : y.f2.size ≤ 40 := by omega
    go_wp2_with (go_at_call 123; (with_reducible refine (sNumbers_calls y _ _ c2 c1 _ HC3.out).mono ?_); rintro e w1 ⟨v, rfl, ho, hb1⟩; obtain ⟨A5, c5, rfl, hc5, hC5⟩ := Kd.R_reads ho)
    have HC5 := Aside0.mk hC5
    have hml := C_len hC5
    have HB1 := Aside0.mk (below_step HB.out hb1)
    clear hC5 ho hc5 x0 x1 x2 x3 hb1 HB
    obtain ⟨N, hN⟩ : ∃ N, numsE y = N := ⟨_, rfl⟩
    rw [hN] at HC5 hml
    rw [hN]
    replace hN := Aside0.mk hN
    go_loopg [3, 6] N.length (fun kq v3 v6 w' => ∃ g k : Int, v3 = .int .i64 g ∧ v6 = .int .i64 k ∧ 0 ≤ k ∧ k ≤ N.length ∧ 0 ≤ g ∧ g < 1099511627791 ∧ Aside0 (kq = N.length - k.toNat) ∧ Aside0 (g = (N.take k.toNat).foldl linkF h) ∧ Aside0 (∀ j : Int, 0 ≤ j → j < k → inR (N.getD j.toNat 0)) ∧ Aside0 (w1 = w'))
    case atStart => exact ⟨h, 0, rfl, rfl, by omega, by omega, by omega, by omega, ⟨rfl⟩, ⟨by simp⟩, ⟨fun j h0 h1 => by omega⟩, ⟨rfl⟩⟩
    case round =>
     obtain ⟨g, k, rfl, rfl, k0, k1, f0, f1, HK2, HG, HE2, ⟨rfl⟩⟩ := hrel
     by_cases hk : k < N.length
     ·obtain ⟨ad5, e5, y0⟩ := atI HC5.out k k0 hk
      cases e5
      have hst := foldl_step linkF h N 0 k0 hk
      rw [← HG.out] at hst
      obtain ⟨x, hx⟩ : ∃ x, N.getD k.toNat 0 = x := ⟨_, rfl⟩
      rw [hx] at y0 hst
      replace hst := Aside0.mk hst
      by_cases hxr : -549755813888 ≤ x ∧ x ≤ 549755813887
      ·have CX := Aside0.mk (bP_t hxr)
       have hrg := linkF_range (x := x) f0 hxr
       have HRg := Aside0.mk hrg
       have HX := Aside0.mk (show inR (N.getD k.toNat 0) by rw [hx]; exact hxr)
       replace hx := Aside0.mk hx
       obtain ⟨q0, q1⟩ := hxr
       clear hrg
       go_wp2_with (go_at_call 34; (with_reducible refine (l1In_calls x (-549755813888) 549755813887 _ CX.out _).mono ?_); rintro e w' ⟨rfl, rfl⟩)
       go_roundg (N.length - (k + 1).toNat)
       case measure => have := HK2.out; omega
       case rel => exact ⟨linkF g x, k + 1, rfl, rfl, by omega, by omega, HRg.out.1, HRg.out.2, ⟨rfl⟩, ⟨hst.out.symm⟩, ⟨fun j h0 h1 => by rcases Int.lt_or_eq_of_le (Int.lt_add_one_iff.1 h1) with h | rfl; exact HE2.out j h0 h; exact HX.out⟩, ⟨rfl⟩⟩
      ·have CX := Aside0.mk (bP_f hxr)
       have HF := Aside0.mk (HNo.out fun h => hxr (by have := h.2.2 k k0 (by rw [hN.out]; exact hk); rw [hN.out, hx] at this; exact this))
       clear hxr hst hx
       go_wp2_with (go_at_call 34; (with_reducible refine (l1In_calls x (-549755813888) 549755813887 _ CX.out _).mono ?_); rintro e w' ⟨rfl, rfl⟩)
       go_ret
       exact ⟨ret_i HF.out.symm, HB1.out⟩
     ·have hke : k.toNat = N.length := by omega
      have HG2 := Aside0.mk (show g = headGo 1 (es.take (i + 1).toNat) by
       have := foldl_step linkE 1 es z41 h0 hlt
       unfold headGo
       rw [this, show es.getD i.toNat z41 = y from hy.out, HG.out, hke, List.take_length, HH.out]
       show N.foldl linkF _ = (numsE y).foldl linkF _
       rw [hN.out]; rfl)
      have HY := Aside0.mk (show NumsOk (en es i) by
       rw [show en es i = y from hy.out]
       exact ⟨c1, c2, fun j j0 j1 => by rw [hN.out] at j1 ⊢; exact HE2.out j j0 (by omega)⟩)
      clear hke
      go_wp2
      go_roundg (es.length - (i + 1).toNat)
      case measure => have := HK.out; omega
      case rel => exact ⟨g, i + 1, rfl, rfl, by omega, by omega, f0, f1, ⟨rfl⟩, HG2, ⟨fun j h0 h1 => by rcases Int.lt_or_eq_of_le (Int.lt_add_one_iff.1 h1) with h | rfl; exact HE.out j h0 h; exact HY.out⟩, HB1⟩
   ·have hie : i.toNat = es.length := by omega
    have HF := Aside0.mk (show h = headF es by
     rw [headF_t ⟨hl, fun j h0 h1 => HE.out j h0 (by omega)⟩, HH.out, hie, List.take_length])
    clear hie
    go_wp2
    go_ret
    exact ⟨ret_i HF.out, HB.out⟩
end Go.Proofs.YtheaeffhhbjpmaaGreatDoor

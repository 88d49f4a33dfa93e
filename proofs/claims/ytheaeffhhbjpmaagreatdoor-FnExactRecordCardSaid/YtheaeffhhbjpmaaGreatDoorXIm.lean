/- Of the program: whether nothing is part of an account of a right chart; the period of a day. copy over a row of elements of several cells. Of the program: a copy of an entry. Of the program: a head that is being reckoned takes one number more. Plain laws of heads: a right entry's numbers are in range; a head of one entry more. -/
import Derived.Test.YtheaeffhhbjpmaaGreatDoorXSp14
import Derived.Laws.CopyRow
import Derived.Laws.CopyOwn
namespace Go.Proofs.YtheaeffhhbjpmaaGreatDoor
open Go.RowKit Go.Proofs.YtheaeffhhbjpmaaGreatDoorW.PrintWords Go.Proofs.YtheaeffhhbjpmaaGreatDoorW.PrintLast
set_option linter.unusedVariables false
set_option linter.unusedSimpArgs false
set_option maxRecDepth 100000 in
theorem leafAt_calls (A : Option Addr) (c : Nat) (l : List S48) (a : Int) (hc : ChartP l) (r : Bool) (h : bP (LeafP l a) = r) (w : World) (hr : Kd.C k48 w A l.length l) : Calls Tryz.prog 39 #[.slice A l.length c, .int .i64 a] w fun e w' => e = .returned (.bool r) ∧ w = w' := by
 subst h
 have hu := Tryz.underlying48
 have HR := Aside0.mk hr
 have hm := C_len hr
 have hl := hc.2.1
 have HN := Aside0.mk (fun (h0 : 0 ≤ a) (h1 : a < l.length) => leaf_next hc.2.2 h0 h1)
 clear hr hc
 by_cases h0 : 0 ≤ a
 ·by_cases h1 : a < l.length
  ·by_cases h2 : a + 1 = l.length
   ·have HF := Aside0.mk (bP_t ((HN.out h0 h1).2 (.inl h2)))
    have e1 : (a + 1 == (l.length : Int)) = true := by simp [h2]
    replace h2 := Aside0.mk h2
    go_enter Tryz.func39, Tryz.ntmps39
    go_wp2
    go_ret
    exact ⟨ret_b HF.out.symm, rfl⟩
   ·have e1 : (a + 1 == (l.length : Int)) = false := by simp [h2]
    have g0 : 0 ≤ a + 1 := by omega
    have g1 : a + 1 < l.length := by omega
    obtain ⟨ad, e0, x0, x1, x2⟩ := at48 HR.out (a + 1) g0 g1
    cases e0
    obtain ⟨z, hz⟩ : ∃ z, (rd_T48 l (a + 1)).f1 = z := ⟨_, rfl⟩
    rw [hz] at x1
    have HF := Aside0.mk (show (z != a) = bP (LeafP l a) from by
     by_cases hk : z = a
     ·rw [bP_f (fun h => ((HN.out h0 h1).1 h).elim h2 (fun q => q (by unfold acc; rw [hz]; exact hk)))]; simp [hk]
     ·rw [bP_t ((HN.out h0 h1).2 (.inr (by unfold acc; rw [hz]; exact hk)))]; simp [hk])
    clear hz x0 x2
    go_enter Tryz.func39, Tryz.ntmps39
    go_wp2
    go_ret
    exact ⟨ret_b HF.out, rfl⟩
  ·have HF := Aside0.mk (bP_f (show ¬ LeafP l a from fun h => by have := h.2.1; omega))
   go_enter Tryz.func39, Tryz.ntmps39
   go_wp2
   go_ret
   exact ⟨ret_b HF.out.symm, rfl⟩
 ·have HF := Aside0.mk (bP_f (show ¬ LeafP l a from fun h => by have := h.1; omega))
  go_enter Tryz.func39, Tryz.ntmps39
  go_wp2
  go_ret
  exact ⟨ret_b HF.out.symm, rfl⟩
set_option maxRecDepth 100000 in
theorem iPeriodAt_calls (A : Option Addr) (c : Nat) (l : List S84) (d r : Int) (h : periodAt l d = r) (w : World) (hr : Kd.C k84 w A l.length l) :
  Calls Tryz.prog 101 #[.slice A l.length c, .int .i64 d] w fun e w' => e = .returned (.int .i64 r) ∧ Below w.heap.size w w' := by
 subst h
 have hu := Tryz.underlying84
 have HR := Aside0.mk hr
 have hm := C_len hr
 clear hr
 by_cases hl : (60 : Int) < l.length
 ·have HF := Aside0.mk (periodAt_eq (d := d) (.inl ⟨hl, rfl⟩))
  go_enter Tryz.func101, Tryz.ntmps101
  go_wp2
  go_ret
  exact ⟨ret_i HF.out.symm, Below.refl _ _⟩
 replace hl : (l.length : Int) ≤ 60 := by omega
 go_enter Tryz.func101, Tryz.ntmps101
 go_wp2
 go_loopg [12] l.length (fun kq v12 w' => ∃ i : Int, v12 = .int .i64 i ∧ 0 ≤ i ∧ i ≤ l.length ∧ Aside0 (kq = l.length - i.toNat) ∧ Aside0 (∀ j : Int, 0 ≤ j → j < i → ¬ inPer (pd l j) d) ∧ Aside0 (Below w.heap.size w w'))
 case atStart => exact ⟨0, rfl, by omega, by omega, ⟨rfl⟩, ⟨fun j h0 h1 => by omega⟩, ⟨Below.refl _ _⟩⟩
 case round =>
  obtain ⟨i, rfl, h0, hi, HK, HE, HB⟩ := hrel
  by_cases hlt : i < l.length
  ·obtain ⟨ad, e0, x0, x1⟩ := at84 (Kd.C_below HR.out HB.out) i h0 hlt
   cases e0
   have HIn := Aside0.mk (fun (hq : inPer (rd_T84 l i) d) => periodAt_eq (d := d) (r := i) (.inr ⟨hl, .inl ⟨h0, hlt, hq, HE.out⟩⟩))
   have HNx := Aside0.mk (fun (hq : ¬ inPer (rd_T84 l i) d) => show ∀ j : Int, 0 ≤ j → j < i + 1 → ¬ inPer (pd l j) d from fun j j0 j1 => by rcases Int.lt_or_eq_of_le (Int.lt_add_one_iff.1 j1) with h | rfl; exact HE.out j j0 h; exact hq)
   obtain ⟨y, hy⟩ : ∃ y, rd_T84 l i = y := ⟨_, rfl⟩
   rw [hy] at x0 x1 HIn HNx
   clear hy
   by_cases c1 : y.f0 ≤ d
   ·by_cases c2 : d ≤ y.f1
    ·have HF := Aside0.mk (HIn.out ⟨c1, c2⟩)
     go_wp2
     go_ret
     exact ⟨ret_i HF.out.symm, below_alloc HB.out _⟩
    ·have HN := Aside0.mk (HNx.out (fun h => c2 h.2))
     go_wp2
     go_roundg (l.length - (i + 1).toNat)
     case measure => have := HK.out; omega
     case rel => exact ⟨i + 1, rfl, by omega, by omega, ⟨rfl⟩, HN, ⟨below_alloc HB.out _⟩⟩
   ·have HN := Aside0.mk (HNx.out (fun h => c1 h.1))
    go_wp2
    go_roundg (l.length - (i + 1).toNat)
    case measure => have := HK.out; omega
    case rel => exact ⟨i + 1, rfl, by omega, by omega, ⟨rfl⟩, HN, ⟨below_alloc HB.out _⟩⟩
  ·have HF := Aside0.mk (periodAt_eq (d := d) (r := -1) (.inr ⟨hl, .inr ⟨rfl, fun j j0 j1 => HE.out j j0 (by omega)⟩⟩))
   go_wp2
   go_ret
   exact ⟨ret_i HF.out.symm, HB.out⟩
end Go.Proofs.YtheaeffhhbjpmaaGreatDoor
namespace Go.Proofs.YtheaeffhhbjpmaaGreatDoor
open Go.RowKit Go.Proofs.YtheaeffhhbjpmaaGreatDoorW.PrintWords Go.Proofs.YtheaeffhhbjpmaaGreatDoorW.PrintLast
set_option linter.unusedVariables false
set_option linter.unusedSimpArgs false
theorem run_copy_cells {P : Program} (w : World) (dT sT ty elem : TypeId) (g o dLen dCap : Nat) (a : Addr) (sLen sCap : Nat) (cur : Array Value) (t : TypeId) (cs : List Value) (sz n : Nat)
  (hu : P.underlying dT = some (.slice elem)) (hs : (P.info? elem).map (·.size) = some sz)
  (hg : w.heap[g]? = some (.cells cur t (0, 0))) (hnm : Nat.min sLen dLen = n) (hn : cs.length = n * sz)
  (hsrc : ∀ j v, cs[j]? = some v → w.cell? (a.add j) = some v) (hfit : o + cs.length ≤ cur.size) (h1 : ∀ v ∈ cs, v.oneCell' = true) :
  (Builtin.copy_ #[dT, sT] ty #[.slice (some ⟨g, o, none⟩) dLen dCap, .slice (some a) sLen sCap]).run P w =
   .ok (goInt n) (w.setRow g (cur.toList.take o ++ cs ++ cur.toList.drop (o + cs.length)).toArray) := by
 have hl := run_loadCells_list (P := P) w a cs hsrc
 have hst := run_storeCells_at P g o t cs 0 cur w hg (by simpa using hfit) h1
 cases hq : P.info? elem with
 | none => simp [hq] at hs
 | some i =>
  have hi : i.size = sz := by simpa [hq] using hs
  rw [hn] at hl
  simp [Builtin.copy_, run_underlying hu, Builtin.lenOf, Builtin.firstCells, sizeOf, typeInfo, hq, hi, hnm, hl, hst]
theorem run_copy_zero {P : Program} (w : World) (dT sT ty elem : TypeId) (dp sp : Option Addr) (dLen dCap sLen sCap sz : Nat)
  (hu : P.underlying dT = some (.slice elem)) (hs : (P.info? elem).map (·.size) = some sz) (hn : Nat.min sLen dLen = 0) :
  (Builtin.copy_ #[dT, sT] ty #[.slice dp dLen dCap, .slice sp sLen sCap]).run P w = .ok (goInt 0) w := by
 cases hq : P.info? elem with
 | none => simp [hq] at hs
 | some i =>
  have hl : ∀ a, (loadCells a 0).run P w = .ok #[] w := fun a => run_loadCells_list (P := P) w a [] (fun j v h => by simp at h)
  cases dp <;> cases sp <;> simp [Builtin.copy_, run_underlying hu, Builtin.lenOf, Builtin.firstCells, sizeOf, typeInfo, hq, hn, storeCells, hl]
theorem reps_oneCell {α : Type} {R : α → List Value → Prop} {sz : Nat} {ps : List α} {cs : List Value} (h : Reps R sz ps cs) (hone : ∀ p c, R p c → ∀ u ∈ c, u.oneCell' = true) : ∀ u ∈ cs, u.oneCell' = true := by
 intro u hu
 obtain ⟨k, hk, rfl⟩ := List.getElem_of_mem hu
 have hl := h.1
 have hsz : 0 < sz := by
  rcases Nat.eq_zero_or_pos sz with h0 | h0
  ·subst h0; rw [Nat.mul_zero] at hl; omega
  ·exact h0
 have hj : k / sz < ps.length := Nat.div_lt_of_lt_mul (by rw [Nat.mul_comm, ← hl]; exact hk)
 refine hone _ _ (h.2 (k / sz) _ (List.getElem?_eq_getElem hj)) _ ?_
 have hq : ((cs.drop (k / sz * sz)).take sz)[k % sz]? = some cs[k] := by
  rw [List.getElem?_take, if_pos (Nat.mod_lt _ hsz), List.getElem?_drop, Nat.div_add_mod' k sz]
  exact List.getElem?_eq_getElem hk
 exact List.mem_of_getElem? hq
theorem R_copy_flat {P : Program} {ops : Array Oper} {rest : List Oper} {o : Oper} {a : Act} {Q : Exit → Act → World → Prop} {α : Type} (d : Kd α) {w0 W : World} (base : Nat) (hgd : o.guard = none) (s x : Operand) (t t' e : TypeId)
  (ho : o.op = .call { callee := .builtin .copy, args := #[s, x], argTypes := #[t, t'] }) (ht : P.underlying t = some (.slice e)) (hinfo : (P.info? e).map (·.size) = some d.sz)
  (v : Value) (zs ys : List α) (A : Option Addr) (m c : Nat) (hs : a.eval s = v) (hx : a.eval x = .slice A m c)
  (HO : d.R e W base (fun _ => True) v zs) (hlen : zs.length = ys.length) (HR : d.C W A m ys) (hKM : ∀ (w : World) (ok : Nat → Prop) y cs, d.K W y cs → d.M w base ok y cs) (HB : Below base w0 W) (hbase : base ≤ W.heap.size)
  (h : ∀ w1, d.R e w1 base (fun _ => True) v ys → Below base w0 w1 → wpList P ops Q rest (a.put o.dst (.int .i64 (m : Int))) w1) :
  wpList P ops Q (o :: rest) a W := by
 have hm : ys.length = m := HR.1
 obtain ⟨V, cv, rfl⟩ := Kd.R_slice HO
 have hrun : ∃ w1, (Builtin.copy_ #[t, t'] o.type #[.slice V zs.length cv, .slice A m c]).run P W = .ok (goInt (m : Int)) w1 ∧ d.R e w1 base (fun _ => True) (.slice V zs.length cv) ys ∧ Below base w0 w1 := by
  rcases Nat.eq_zero_or_pos m with h0 | h0
  ·subst h0
   have hy : ys = [] := List.eq_nil_of_length_eq_zero hm
   subst hy
   have hz : zs = [] := List.eq_nil_of_length_eq_zero hlen
   subst hz
   exact ⟨W, run_copy_zero W t t' o.type e V A _ cv 0 c d.sz ht hinfo (by simp), HO, HB⟩
  ·obtain ⟨ad, rfl, _⟩ := HR.2.2 h0
   obtain ⟨inner, hr, hc⟩ := ReadsRow.inner_ HR
   obtain ⟨_, zi, ⟨hzl, hrow⟩, hzr⟩ := HO
   rcases hrow with ⟨_, hq⟩ | ⟨g, cap, cur, hv, hbg, hg, hcap, hmax, hcur, htk⟩
   ·omega
   ·injection hv with hv1 hv2 hv3
    subst hv1 hv3
    have hil : inner.length = m * d.sz := by rw [hr.1, hm]
    have hle : inner.length ≤ cur.size := by rw [hil, hcur]; exact Nat.mul_le_mul_right _ (by omega)
    have hone : ∀ u ∈ inner, u.oneCell' = true := reps_oneCell hr (fun p c hp => d.K_one hp)
    refine ⟨_, run_copy_cells W t t' o.type e g 0 zs.length cv ad m c cur e inner d.sz m ht hinfo hg (by rw [hlen, hm]; exact Nat.min_self _) hil hc (by simpa using hle) hone, ?_, below_setRow HB hbg _⟩
    refine ⟨fun _ _ => trivial, inner, ⟨hr.1, .inr ⟨g, cv, _, by rw [hlen], hbg, setRow_heap W g cur _ e _ hg, by omega, hmax, ?_, ?_⟩⟩, hr.imp_ (fun p q hp => hKM _ _ _ _ hp)⟩
    ·simp; omega
    ·rw [hm, ← hil]; simp
 obtain ⟨w1, hrun, hR, hB⟩ := hrun
 refine wpList_plain hgd fun K hK => ?_
 unfold Oper.wp execOp
 simp only [ho, resolve, invoke, builtin, Sem.run_bind, Sem.run_pure, Result.andThen_ok, List.map_toArray, List.map_cons, List.map_nil, hs, hx, hrun]
 exact hK _ _ (h w1 hR hB)
end Go.Proofs.YtheaeffhhbjpmaaGreatDoor
namespace Go.Proofs.YtheaeffhhbjpmaaGreatDoor
open Go.RowKit Go.Proofs.YtheaeffhhbjpmaaGreatDoorW.PrintWords Go.Proofs.YtheaeffhhbjpmaaGreatDoorW.PrintLast
set_option linter.unusedVariables false
set_option linter.unusedSimpArgs false
set_option maxRecDepth 100000 in
set_option maxHeartbeats 1000000 in
theorem copyEntry_calls (y : S41) (A : Option Addr) (c : Nat) (hs : y.f3.length ≤ 1048576) (w : World) (hr : Kd.C k88 w A y.f3.length y.f3) :
  Calls Tryz.prog 55 #[.agg #[.int .i64 y.f0, .int .i64 y.f1, .string y.f2, .slice A y.f3.length c]] w fun e w' => ∃ v : Value, e = .returned (.agg #[.int .i64 y.f0, .int .i64 y.f1, .string y.f2, v]) ∧ k88.R 88 w' w.heap.size (fun _ => True) v y.f3 ∧ Below w.heap.size w w' := by
 have hu2 := Tryz.underlying41
 have HR := Aside0.mk hr
 have hm := C_len hr
 clear hr
 go_enter Tryz.func55, Tryz.ntmps55
 go_wp2_with (first | ((with_reducible refine gate_dst (N := 7) rfl ?_); refine Kd.R_make k88 _ 88 rfl (N := 7) rfl 39 _ _ rfl (y.f3.length : Int) rfl rfl Tryz.underlying39 (.agg #[(.int .i64 0), (.int .i64 0), (.int .i64 0), (.int .i64 0), (.int .i64 0)]) 40 info88 rfl (by decide) (by omega) z88 (ok := fun _ => True) (okp := fun _ => True) (k88_mkM _ _ _ z88) (fun _ hk => hk) trivial (by omega) (by simp; omega) (Below.refl _ _) (Nat.le_refl _) ?_; intro v1 w1 ho1 hb1 _ _; have Ba1 := Aside0.mk (show w1.heap[w.heap.size]? = some (.cells #[.int .i64 y.f0, .int .i64 y.f1, .string y.f2, .slice A y.f3.length c] 41 (0, 0)) from blk_below (blk_alloc (blk_new w _) _) hb1); have qa10 : w1.cell? ⟨w.heap.size, 0, none⟩ = some (.int .i64 y.f0) := (blk_cell Ba1.out 0).trans rfl; have fa10 := blk_frozen Ba1.out 0; have qa11 : w1.cell? ⟨w.heap.size, 1, none⟩ = some (.int .i64 y.f1) := (blk_cell Ba1.out 1).trans rfl; have fa11 := blk_frozen Ba1.out 1; have qa12 : w1.cell? ⟨w.heap.size, 2, none⟩ = some (.string y.f2) := (blk_cell Ba1.out 2).trans rfl; have fa12 := blk_frozen Ba1.out 2; have qa13 : w1.cell? ⟨w.heap.size, 3, none⟩ = some (.slice A y.f3.length c) := (blk_cell Ba1.out 3).trans rfl; have fa13 := blk_frozen Ba1.out 3; have Bb1 := Aside0.mk (show w1.heap[w.heap.size + 1]? = some (.cells #[.int .i64 0, .int .i64 0, .string ⟨#[]⟩, .slice none 0 0] 41 (0, 0)) from blk_below (blk_new1 w _ _) hb1); have qb10 : w1.cell? ⟨w.heap.size + 1, 0, none⟩ = some (.int .i64 0) := (blk_cell Bb1.out 0).trans rfl; have fb10 := blk_frozen Bb1.out 0; have qb11 : w1.cell? ⟨w.heap.size + 1, 1, none⟩ = some (.int .i64 0) := (blk_cell Bb1.out 1).trans rfl; have fb11 := blk_frozen Bb1.out 1; have qb12 : w1.cell? ⟨w.heap.size + 1, 2, none⟩ = some (.string ⟨#[]⟩) := (blk_cell Bb1.out 2).trans rfl; have fb12 := blk_frozen Bb1.out 2; have qb13 : w1.cell? ⟨w.heap.size + 1, 3, none⟩ = some (.slice none 0 0) := (blk_cell Bb1.out 3).trans rfl; have fb13 := blk_frozen Bb1.out 3) | ((with_reducible refine gate_dst (N := 11) rfl ?_); refine R_copy_flat k88 _ rfl (.tmp 8) (.tmp 10) 39 39 88 rfl Tryz.underlying39 (by kernel_rfl) v1 _ y.f3 A y.f3.length c rfl rfl ho1 (by simp) ?aR (fun _ _ _ _ h => flat88 h) hb1 hb1.size ?_; (case aR => exact Kd.C_below HR.out (by repeat (with_reducible first | assumption | exact Below.refl _ _ | apply below_alloc | apply below_drew1 | apply pw_below_drewN | refine below_set ?_ (by omega) | refine below_step ?_ (by assumption)))); intro w2 ho2 hb2; obtain ⟨V2, cv2, rfl⟩ := Kd.R_slice ho2; have Ba2 := Aside0.mk (show w2.heap[w.heap.size]? = some (.cells #[.int .i64 y.f0, .int .i64 y.f1, .string y.f2, .slice A y.f3.length c] 41 (0, 0)) from blk_below (blk_alloc (blk_new w _) _) hb2); have qa20 : w2.cell? ⟨w.heap.size, 0, none⟩ = some (.int .i64 y.f0) := (blk_cell Ba2.out 0).trans rfl; have fa20 := blk_frozen Ba2.out 0; have qa21 : w2.cell? ⟨w.heap.size, 1, none⟩ = some (.int .i64 y.f1) := (blk_cell Ba2.out 1).trans rfl; have fa21 := blk_frozen Ba2.out 1; have qa22 : w2.cell? ⟨w.heap.size, 2, none⟩ = some (.string y.f2) := (blk_cell Ba2.out 2).trans rfl; have fa22 := blk_frozen Ba2.out 2; have qa23 : w2.cell? ⟨w.heap.size, 3, none⟩ = some (.slice A y.f3.length c) := (blk_cell Ba2.out 3).trans rfl; have fa23 := blk_frozen Ba2.out 3; have Bb2 := Aside0.mk (show w2.heap[w.heap.size + 1]? = some (.cells #[.int .i64 0, .int .i64 0, .string ⟨#[]⟩, .slice none 0 0] 41 (0, 0)) from blk_below (blk_new1 w _ _) hb2); have qb20 : w2.cell? ⟨w.heap.size + 1, 0, none⟩ = some (.int .i64 0) := (blk_cell Bb2.out 0).trans rfl; have fb20 := blk_frozen Bb2.out 0; have qb21 : w2.cell? ⟨w.heap.size + 1, 1, none⟩ = some (.int .i64 0) := (blk_cell Bb2.out 1).trans rfl; have fb21 := blk_frozen Bb2.out 1; have qb22 : w2.cell? ⟨w.heap.size + 1, 2, none⟩ = some (.string ⟨#[]⟩) := (blk_cell Bb2.out 2).trans rfl; have fb22 := blk_frozen Bb2.out 2; have qb23 : w2.cell? ⟨w.heap.size + 1, 3, none⟩ = some (.slice none 0 0) := (blk_cell Bb2.out 3).trans rfl; have fb23 := blk_frozen Bb2.out 3))
 refine bodyPost_ret (v := .agg #[.int .i64 y.f0, .int .i64 y.f1, .string y.f2, .slice V2 y.f3.length cv2]) (by simp [results, Tryz.results55, go_sem, qb20, qb21, qb22, qb23, fb20, fb21, fb22, fb23]) rfl ⟨_, rfl, ?_, ?_⟩
 ·refine Kd.R_lower (R_after ho2 ?_) (by simp; omega)
  intro k hk
  simp at hk
  repeat (with_reducible refine (heap_set1 _ _ _ _ hk (by omega)).trans ?_)
  with_reducible rfl
 ·exact (by repeat (with_reducible first | assumption | exact Below.refl _ _ | apply below_alloc | apply below_drew1 | apply pw_below_drewN | refine below_set ?_ (by omega) | refine below_step ?_ (by assumption)))
end Go.Proofs.YtheaeffhhbjpmaaGreatDoor
namespace Go.Proofs.YtheaeffhhbjpmaaGreatDoor
open Go.RowKit Go.Proofs.YtheaeffhhbjpmaaGreatDoorW.PrintWords Go.Proofs.YtheaeffhhbjpmaaGreatDoorW.PrintLast
set_option linter.unusedVariables false
set_option linter.unusedSimpArgs false
theorem linkIn_calls (g : Nat) (h x : Int) (b : Bool) (h0 : 0 ≤ h) (h1 : h < 1099511627791) (hx : inR x) (w : World) (hb : w.heap[g]? = some (.cells #[.int .i64 h, .bool b] 110 (0, 0))) :
  Calls Tryz.prog 57 #[.pointer (some ⟨g, 0, none⟩), .int .i64 x] w fun e w' => e = .returned (.tuple #[]) ∧ w' = w.setCell ⟨g, 0, none⟩ (.int .i64 (linkF h x)) := by
 have hu := Tryz.underlying110
 have q0 : w.cell? ⟨g, 0, none⟩ = some (.int .i64 h) := (blk_cell hb 0).trans rfl
 have f0 := blk_frozen hb 0
 have CX := Aside0.mk (bP_t (show -549755813888 ≤ x ∧ x ≤ 549755813887 from hx))
 obtain ⟨x0, x1⟩ := hx
 unfold linkF
 go_enter Tryz.func57, Tryz.ntmps57
 go_wp2_with (go_at_call 37; (with_reducible refine (between_calls x (-549755813888) 549755813887 _ CX.out _).mono ?_); rintro e w' ⟨rfl, rfl⟩)
 refine bodyPost_end (v := .tuple #[]) (by simp [results, Tryz.f57, Tryz.results57, go_sem]) rfl ⟨rfl, rfl⟩
theorem linkOut_calls (g : Nat) (h x : Int) (b : Bool) (hx : ¬ inR x) (w : World) (hb : w.heap[g]? = some (.cells #[.int .i64 h, .bool b] 110 (0, 0))) :
  Calls Tryz.prog 57 #[.pointer (some ⟨g, 0, none⟩), .int .i64 x] w fun e w' => e = .returned (.tuple #[]) ∧ w' = w.setCell ⟨g, 1, none⟩ (.bool true) := by
 have hu := Tryz.underlying110
 have q0 : w.cell? ⟨g, 1, none⟩ = some (.bool b) := (blk_cell hb 1).trans rfl
 have f0 := blk_frozen hb 1
 have CX := Aside0.mk (bP_f (show ¬ (-549755813888 ≤ x ∧ x ≤ 549755813887) from hx))
 go_enter Tryz.func57, Tryz.ntmps57
 go_wp2_with (go_at_call 37; (with_reducible refine (between_calls x (-549755813888) 549755813887 _ CX.out _).mono ?_); rintro e w' ⟨rfl, rfl⟩)
 refine bodyPost_ret (v := .tuple #[]) (by simp [results, Tryz.f57, Tryz.results57, go_sem]) rfl ⟨rfl, rfl⟩
end Go.Proofs.YtheaeffhhbjpmaaGreatDoor
namespace Go.Proofs.YtheaeffhhbjpmaaGreatDoor
set_option linter.unusedVariables false
theorem numsOk_of {f : FrameD} {e : S41} (hf : FrameP f) (h : EntryP f e) : NumsOk e := by
 have hmem : ∀ x ∈ numsE e, inR x := by
  intro x hx
  have hc := hf.1.2.1
  unfold numsE at hx
  rcases List.mem_append.1 hx with hx | hx
  ·rcases List.mem_append.1 hx with hx | hx
   ·rcases List.mem_append.1 hx with hx | hx
    ·have h1 := h.1; have h2 := h.2.1; have h3 := h.2.2.1.1
     simp at hx
     rcases hx with rfl | rfl | rfl <;> unfold inR <;> omega
    ·unfold numsT at hx
     obtain ⟨j, _, rfl⟩ := List.mem_map.1 hx
     have := bt_range e.f2 j
     unfold inR; omega
   ·have h4 := h.2.2.2.1
    simp at hx
    subst hx
    unfold inR; omega
  ·unfold numsLs at hx
   obtain ⟨y, hy, hx⟩ := List.mem_flatMap.1 hx
   obtain ⟨i, i0, i1, hi⟩ := of_getD z88 hy
   have hl := h.2.2.2.2.1 i i0 i1
   have he : ln e.f3 i = y := hi
   rw [he] at hl
   obtain ⟨⟨a0, a1, _⟩, ⟨b0, b1⟩, ⟨c0, c1⟩, ⟨d0, d1⟩, ⟨e0, e1⟩, _⟩ := hl
   have h20 := hf.2.1.2
   have h21 := hf.2.2.2
   simp [numsL] at hx
   rcases hx with rfl | rfl | rfl | rfl | rfl <;> unfold inR <;> omega
 refine ⟨by have := h.2.2.2.1; omega, h.2.2.1.1, fun k k0 k1 => hmem _ (mem_getD 0 k0 k1)⟩
theorem headP_snoc {l : List S41} {e : S41} (hl : HeadP l) (he : NumsOk e) (hn : l.length < 1000) : HeadP (l ++ [e]) := by
 refine ⟨by simp; omega, fun i h0 h1 => ?_⟩
 have hq : en (l ++ [e]) i = if i < l.length then en l i else e := by
  unfold en rd_T41
  rw [List.getD_eq_getElem?_getD, List.getD_eq_getElem?_getD]
  split
  ·rw [List.getElem?_append_left (by omega)]
  ·have : i.toNat = l.length := by simp at h1; omega
   rw [this]; simp
 rw [hq]
 split
 ·exact hl.2 i h0 (by assumption)
 ·exact he
theorem headF_snoc {l : List S41} {e : S41} (hl : HeadP l) (he : NumsOk e) (hn : l.length < 1000) : headF (l ++ [e]) = linkE (headF l) e := by
 rw [headF_t (headP_snoc hl he hn), headF_t hl]
 unfold headGo
 rw [List.foldl_append]
 rfl
theorem headP_of {f : FrameD} {g : LedgD} (h : LedgerP f g) : HeadP g.entries := ⟨h.1, fun i h0 h1 => numsOk_of h.2.1 (h.2.2.2 i h0 h1)⟩
end Go.Proofs.YtheaeffhhbjpmaaGreatDoor

/- Of the program: a copy of a ledger. -/
import Derived.Test.YtheaeffhhbjpmaaGreatDoorXIm6
namespace Go.Proofs.YtheaeffhhbjpmaaGreatDoor
open Go.RowKit Go.Proofs.YtheaeffhhbjpmaaGreatDoorW.PrintWords Go.Proofs.YtheaeffhhbjpmaaGreatDoorW.PrintLast
set_option linter.unusedVariables false
set_option linter.unusedSimpArgs false
theorem S_elder3 {wr w1 : World} {base B : Nat} {ok : Nat → Prop} {v : Value} {xs : List S41} (h : Kd.S k41 41 wr base ok v xs) (hb : Below wr.heap.size wr w1) (hB : wr.heap.size ≤ B) : Kd.S k41 41 w1 base (fun k => ok k ∧ k < B) v xs :=
 Kd.S_mono (Kd.S_move (Kd.S_bound h) (fun k hk => hb.block k hk.2.2.1)) (fun k hk => ⟨hk.1, Nat.lt_of_lt_of_le hk.2.2.1 hB⟩)
theorem S_below2 {α : Type} {d : Kd α} {e base : Nat} {w w1 : World} {ok : Nat → Prop} {v : Value} {xs : List α} (h : Kd.S d e w base ok v xs) (hb : Below w.heap.size w w1) : Kd.S d e w1 base ok v xs := Kd.S_below h hb
set_option maxRecDepth 100000 in
set_option maxHeartbeats 2000000 in
theorem iLedgerCopy_calls (g : LedgD) (A : Option Addr) (c : Nat) (hs : g.entries.length ≤ 1048576) (hss : ∀ x ∈ g.entries, x.f3.length ≤ 1048576) (w : World) (hr : Kd.C k41 w A g.entries.length g.entries) :
  Calls Tryz.prog 54 #[.agg #[.slice A g.entries.length c, .int .i64 g.head]] w fun e w' => ∃ V cv, e = .returned (.agg #[.slice V g.entries.length cv, .int .i64 g.head]) ∧ Kd.S k41 41 w' w.heap.size (fun _ => True) (.slice V g.entries.length cv) g.entries ∧ Below w.heap.size w w' := by
 have hu2 := Tryz.underlying29
 have HR := Aside0.mk hr
 have HS := Aside0.mk hss
 clear hr hss
 go_enter Tryz.func54, Tryz.ntmps54
 go_wp2
 have HB0 := Aside0.mk (show Below w.heap.size w ((w.alloc (.cells #[.slice A g.entries.length c, .int .i64 g.head] 29 (0, 0))).alloc (.cells #[.slice none 0 0, .int .i64 0] 29 (0, 0))) from below_alloc (below_alloc (Below.refl _ _) _) _)
 have HA0 := Aside0.mk (show ((w.alloc (.cells #[.slice A g.entries.length c, .int .i64 g.head] 29 (0, 0))).alloc (.cells #[.slice none 0 0, .int .i64 0] 29 (0, 0))).heap[w.heap.size]? = some (.cells #[.slice A g.entries.length c, .int .i64 g.head] 29 (0, 0)) from blk_alloc (blk_new w _) _)
 have HZ0 := Aside0.mk (show ((w.alloc (.cells #[.slice A g.entries.length c, .int .i64 g.head] 29 (0, 0))).alloc (.cells #[.slice none 0 0, .int .i64 0] 29 (0, 0))).heap[w.heap.size + 1]? = some (.cells #[.slice none 0 0, .int .i64 0] 29 (0, 0)) from blk_new1 w _ _)
 generalize ((w.alloc (.cells #[.slice A g.entries.length c, .int .i64 g.head] 29 (0, 0))).alloc (.cells #[.slice none 0 0, .int .i64 0] 29 (0, 0))) = W0 at *
 refine start_ (n := 9) (S := fun w' => Below w.heap.size w w' ∧ w'.heap[w.heap.size]? = some (.cells #[.slice A g.entries.length c, .int .i64 g.head] 29 (0, 0)) ∧ w'.heap[w.heap.size + 1]? = some (.cells #[.slice none 0 0, .int .i64 0] 29 (0, 0))) (ds := [8]) #[false, false, false, false, false, false, false, false, false] (by kernel_rfl) rfl rfl (by exact ⟨below_drew HB0.out, HA0.out, HZ0.out⟩) (fun hHeld => ?_)
 generalize W0.drew = wd at hHeld ⊢
 refine pure_ (i := 0) (N := (some 6)) (v := ?_) (a' := ?_) #[true, false, false, false, false, false, false, false, false] rfl rfl (by kernel_rfl) (fun _ _ _ h => h) (Or.inl ⟨by rfl, ?_⟩) ?_ ?_
 rotate_left
 ·intro w'
  go_simp
  try with_reducible rfl
 rotate_left
 ·simp only [Act.put, List.setIfInBounds_toArray, List.set_cons_zero, List.set_cons_succ]
  rfl
 refine take_ (i := 1) (N := (some 7)) (v := ?_) (a' := ?_) #[true, true, false, false, false, false, false, false, false] rfl rfl (by kernel_rfl) (fun _ _ _ h => h) (Or.inl ⟨by rfl, ?_⟩) hHeld ?_ ?_
 rotate_left
 ·rintro w' ⟨s_, sa, sb⟩
  have q0 : w'.cell? ⟨w.heap.size, 0, none⟩ = some (.slice A g.entries.length c) := (blk_cell sa 0).trans rfl
  have q1 : w'.cell? ⟨w.heap.size, 1, none⟩ = some (.int .i64 g.head) := (blk_cell sa 1).trans rfl
  go_simp
  try with_reducible rfl
 rotate_left
 ·simp only [Act.put, List.setIfInBounds_toArray, List.set_cons_zero, List.set_cons_succ]
  rfl
 refine pure_ (i := 2) (N := (some 8)) (v := ?_) (a' := ?_) #[true, true, true, false, false, false, false, false, false] rfl rfl (by kernel_rfl) (fun _ _ _ h => h) (Or.inl ⟨by rfl, ?_⟩) ?_ ?_
 rotate_left
 ·intro w'
  go_simp
  try with_reducible rfl
 rotate_left
 ·simp only [Act.put, List.setIfInBounds_toArray, List.set_cons_zero, List.set_cons_succ]
  rfl
 refine take_ (i := 3) (N := (some 9)) (v := ?_) (a' := ?_) #[true, true, true, true, false, false, false, false, false] rfl rfl (by kernel_rfl) (fun _ _ _ h => h) (Or.inl ⟨by rfl, ?_⟩) hHeld ?_ ?_
 rotate_left
 ·rintro w' ⟨s_, sa, sb⟩
  have q0 : w'.cell? ⟨w.heap.size, 0, none⟩ = some (.slice A g.entries.length c) := (blk_cell sa 0).trans rfl
  have q1 : w'.cell? ⟨w.heap.size, 1, none⟩ = some (.int .i64 g.head) := (blk_cell sa 1).trans rfl
  go_simp
  try with_reducible rfl
 rotate_left
 ·simp only [Act.put, List.setIfInBounds_toArray, List.set_cons_zero, List.set_cons_succ]
  rfl
 refine pure_ (i := 4) (N := (some 10)) (v := ?_) (a' := ?_) #[true, true, true, true, true, false, false, false, false] rfl rfl (by kernel_rfl) (fun _ _ _ h => h) (Or.inl ⟨by rfl, ?_⟩) ?_ ?_
 rotate_left
 ·intro w'
  go_simp
  try with_reducible rfl
 rotate_left
 ·simp only [Act.put, List.setIfInBounds_toArray, List.set_cons_zero, List.set_cons_succ]
  rfl
 have hnn : ((g.entries.length : Int)).toNat = g.entries.length := by omega
 have hz0 : w.heap.size + 1 < wd.heap.size := blk_lt hHeld.2.2
 refine join_ (σ := Option Addr × Nat × Nat) 1 #[true, true, true, true, true, true, true, true, false] (fun s => [(11, .slice s.1 g.entries.length s.2.1), (12, .agg #[.slice s.1 g.entries.length s.2.1, .int .i64 g.head]), (3, .pointer (some ⟨s.2.2, 0, none⟩))]) (fun s w' => Kd.S k41 41 w' w.heap.size (fun k => k ≠ s.2.2 ∧ w.heap.size + 2 ≤ k) (.slice s.1 g.entries.length s.2.1) (List.replicate g.entries.length z41) ∧ w'.heap[s.2.2]? = some (.cells #[.slice none 0 0, .int .i64 0] 29 (0, 0)) ∧ (Below w.heap.size w w' ∧ w'.heap[w.heap.size]? = some (.cells #[.slice A g.entries.length c, .int .i64 g.head] 29 (0, 0)) ∧ w'.heap[w.heap.size + 1]? = some (.cells #[.slice none 0 0, .int .i64 0] 29 (0, 0))) ∧ w.heap.size + 2 ≤ s.2.2) ?_ ?_
 rotate_left
 ·intro hcont
  refine two_ (i := 5) (j := 7) (Ni := (some 11)) (Nj := (some 3)) #[true, true, true, true, true, true, false, false, false] #[true, true, true, true, true, false, false, true, false] rfl rfl rfl rfl (by kernel_rfl) (by decide) (by decide) (fun K hK => ?_) (fun K hK => ?_)
  ·refine Kd.S_make_step k41 (w0 := w) w.heap.size 41 (by rfl) (N := 11) rfl 27 _ _ rfl (g.entries.length : Int) rfl rfl Tryz.underlying27 (.agg #[(.int .i64 0), (.int .i64 0), (.string ⟨#[]⟩), (.slice none 0 0)]) 56 info41 rfl (by decide) (by omega) z41 (ok := (fun k => k < wd.heap.size + 1 ∧ w.heap.size + 2 ≤ k)) (okp := (fun k => k < wd.heap.size + 1 ∧ w.heap.size + 2 ≤ k)) (k41_mkM _ _ _ z41 (Kd.R_nil _ _ _ _ _)) (fun _ h => h) (by show wd.heap.size < wd.heap.size + 1 ∧ w.heap.size + 2 ≤ wd.heap.size; omega) (by omega) (by simp; omega) hHeld.1 (by first | omega | (simp; omega)) ?_
   intro v w1 ho hb hg hbk
   rw [hnn] at ho
   obtain ⟨V, cv, hv⟩ := Kd.S_slice ho
   rw [List.length_replicate] at hv
   subst hv
   refine hK.out _ _ (by exact ⟨hb, blk_grown hHeld.2.1 hg (by simp), blk_grown hHeld.2.2 hg (by simp)⟩) (fun hHeld => ?_)
   clear hK K
   refine norm_ (a' := ?_) ?_ ?_
   rotate_left
   ·show Act.put _ (some 11) _ = _
    simp only [Act.put, List.setIfInBounds_toArray, List.set_cons_zero, List.set_cons_succ]
    rfl
   refine pure_ (i := 6) (N := (some 12)) (v := ?_) (a' := ?_) #[true, true, true, true, true, true, true, false, false] rfl rfl (by kernel_rfl) (fun _ _ _ h => h) (Or.inl ⟨by rfl, ?_⟩) ?_ ?_
   rotate_left
   ·intro w'
    go_simp
    try with_reducible rfl
   rotate_left
   ·simp only [Act.put, List.setIfInBounds_toArray, List.set_cons_zero, List.set_cons_succ]
    rfl
   have hlt1 : ∀ k, k < wd.heap.size + 1 → k < w1.heap.size := by obtain ⟨b_, hb1_, hb2_⟩ := hbk; have h3_ := Kd.R_lt (Kd.S_R ho) b_ hb1_; intro k hk; omega
   refine one_ (i := 7) (N := (some 3)) #[true, true, true, true, true, true, true, true, false] rfl rfl (by kernel_rfl) (by decide) (fun K hK => ?_)
   refine value_ (w1 := ?_) (v := ?_) (by rfl) rfl ?_ ?_
   rotate_left 2
   ·go_simp
    constructor
    ·rfl
    ·rfl
   refine hK.out _ _ (by exact ⟨hHeld.1.alloc hHeld.1.size _, blk_alloc hHeld.2.1 _, blk_alloc hHeld.2.2 _⟩) (fun hHeld => ?_)
   clear hK K
   refine norm_ (a' := ?_) ?_ ?_
   rotate_left
   ·show Act.put _ (some 3) _ = _
    simp only [Act.put, List.setIfInBounds_toArray, List.set_cons_zero, List.set_cons_succ]
    rfl
   refine norm_ (a' := putAll _ [(11, _), (12, _), (3, _)]) ?_ (hcont (V, cv, w1.heap.size) _ ⟨Kd.S_mono (Kd.S_alloc ho _) (fun k hk => by have := hlt1 k hk.1; have := hk.2; show k ≠ w1.heap.size ∧ w.heap.size + 2 ≤ k; omega), blk_new w1 _, hHeld, by have := hHeld.1.size; have := hlt1 wd.heap.size (by omega); show w.heap.size + 2 ≤ w1.heap.size; omega⟩)
   simp only [putAll, Act.put, List.setIfInBounds_toArray, List.set_cons_zero, List.set_cons_succ]
  ·refine value_ (w1 := ?_) (v := ?_) (by rfl) rfl ?_ ?_
   rotate_left 2
   ·go_simp
    constructor
    ·rfl
    ·rfl
   refine hK.out _ _ (by exact ⟨hHeld.1.alloc hHeld.1.size _, blk_alloc hHeld.2.1 _, blk_alloc hHeld.2.2 _⟩) (fun hHeld => ?_)
   clear hK K
   refine norm_ (a' := ?_) ?_ ?_
   rotate_left
   ·show Act.put _ (some 3) _ = _
    simp only [Act.put, List.setIfInBounds_toArray, List.set_cons_zero, List.set_cons_succ]
    rfl
   refine one_ (i := 5) (N := (some 11)) #[true, true, true, true, true, true, false, true, false] rfl rfl (by kernel_rfl) (by decide) (fun K hK => ?_)
   refine Kd.S_make_step k41 (w0 := w) w.heap.size 41 (by rfl) (N := 11) rfl 27 _ _ rfl (g.entries.length : Int) rfl rfl Tryz.underlying27 (.agg #[(.int .i64 0), (.int .i64 0), (.string ⟨#[]⟩), (.slice none 0 0)]) 56 info41 rfl (by decide) (by omega) z41 (ok := (fun k => k ≠ wd.heap.size ∧ w.heap.size + 2 ≤ k)) (okp := (fun k => k ≠ wd.heap.size ∧ w.heap.size + 2 ≤ k)) (k41_mkM _ _ _ z41 (Kd.R_nil _ _ _ _ _)) (fun _ h => h) (by simp; omega) (by omega) (by simp; omega) hHeld.1 (by first | omega | (simp; omega)) ?_
   intro v w1 ho hb hg hbk
   rw [hnn] at ho
   obtain ⟨V, cv, hv⟩ := Kd.S_slice ho
   rw [List.length_replicate] at hv
   subst hv
   have hgb := blk_grown (blk_new wd (.cells #[.slice none 0 0, .int .i64 0] 29 (0, 0))) hg (by simp)
   refine hK.out _ _ (by exact ⟨hb, blk_grown hHeld.2.1 hg (by simp), blk_grown hHeld.2.2 hg (by simp)⟩) (fun hHeld => ?_)
   clear hK K
   refine norm_ (a' := ?_) ?_ ?_
   rotate_left
   ·show Act.put _ (some 11) _ = _
    simp only [Act.put, List.setIfInBounds_toArray, List.set_cons_zero, List.set_cons_succ]
    rfl
   refine pure_ (i := 6) (N := (some 12)) (v := ?_) (a' := ?_) #[true, true, true, true, true, true, true, true, false] rfl rfl (by kernel_rfl) (fun _ _ _ h => h) (Or.inl ⟨by rfl, ?_⟩) ?_ ?_
   rotate_left
   ·intro w'
    go_simp
    try with_reducible rfl
   rotate_left
   ·simp only [Act.put, List.setIfInBounds_toArray, List.set_cons_zero, List.set_cons_succ]
    rfl
   refine norm_ (a' := putAll _ [(11, _), (12, _), (3, _)]) ?_ (hcont (V, cv, wd.heap.size) _ ⟨ho, hgb, hHeld, by show w.heap.size + 2 ≤ wd.heap.size; omega⟩)
   simp only [putAll, Act.put, List.setIfInBounds_toArray, List.set_cons_zero, List.set_cons_succ]
 rintro ⟨V, cv, gb⟩ w1 ⟨ho, hgb, hHeld, hge⟩
 dsimp only at ho hgb hge
 clear hnn hz0
 refine norm_ (a' := ?_) ?_ ?_
 rotate_left
 ·simp only [putAll, Act.put, List.setIfInBounds_toArray, List.set_cons_zero, List.set_cons_succ]
  rfl
 refine last_ (i := 8) (N := none) #[true, true, true, true, true, true, true, true, true] rfl rfl (by kernel_rfl) (by decide) (fun K hK => ?_)
 obtain ⟨s_, sa, sb⟩ := hHeld
 have t0 := blk_frozen hgb 0
 have t1 := blk_frozen hgb 1
 have u0 : w1.cell? ⟨gb, 0, none⟩ = some (.slice none 0 0) := (blk_cell hgb 0).trans rfl
 have u1 : w1.cell? ⟨gb, 1, none⟩ = some (.int .i64 0) := (blk_cell hgb 1).trans rfl
 refine skip_ (w1 := ?_) (by rfl) rfl ?_ ?_
 rotate_left
 ·go_simp
  rfl
 refine hK.out _ _ ?_
 clear hK K
 refine done_ (by kernel_rfl) ?_
 have HG := Aside0.mk (blk_put (cs' := #[.slice V g.entries.length cv, .int .i64 g.head]) (blk_put (cs' := #[.slice V g.entries.length cv, .int .i64 0]) hgb 0 (.slice V g.entries.length cv) rfl) 1 (.int .i64 g.head) rfl)
 have HO := Aside0.mk (Kd.S_far (Kd.S_far ho (p := ⟨gb, 0, none⟩) (fun k hk => hk.1) (.slice V g.entries.length cv)) (p := ⟨gb, 1, none⟩) (fun k hk => hk.1) (.int .i64 g.head))
 have HB := Aside0.mk (below_set (below_set s_ (g := gb) (j := 0) (v := .slice V g.entries.length cv) (by omega)) (g := gb) (j := 1) (v := .int .i64 g.head) (by omega))
 have HZ := Aside0.mk (blk_far (blk_far sb (p := ⟨gb, 0, none⟩) (by show w.heap.size + 1 ≠ gb; omega) (.slice V g.entries.length cv)) (p := ⟨gb, 1, none⟩) (by show w.heap.size + 1 ≠ gb; omega) (.int .i64 g.head))
 have HA := blk_far (blk_far sa (p := ⟨gb, 0, none⟩) (by show w.heap.size ≠ gb; omega) (.slice V g.entries.length cv)) (p := ⟨gb, 1, none⟩) (by show w.heap.size ≠ gb; omega) (.int .i64 g.head)
 clear ho hgb s_ sa sb t0 t1 u0 u1 hHeld HB0 HA0 HZ0
 generalize ((w1.setCell ⟨gb, 0, none⟩ (.slice V g.entries.length cv)).setCell ⟨gb, 1, none⟩ (.int .i64 g.head)) = w2 at *
 have q0 : w2.cell? ⟨w.heap.size, 0, none⟩ = some (.slice A g.entries.length c) := (blk_cell HA 0).trans rfl
 clear HA
 go_wp2
 go_loopg [16] (g.entries.length) (fun kq v16 w' => ∃ (i : Int) (xs : List S41), v16 = .int .i64 i ∧ 0 ≤ i ∧ i ≤ g.entries.length ∧ Aside0 (kq = g.entries.length - i.toNat) ∧ Aside0 (Upto z41 g.entries xs i) ∧ Aside0 (Kd.S k41 41 w' w.heap.size (fun k => k ≠ gb ∧ w.heap.size + 2 ≤ k) (.slice V g.entries.length cv) xs) ∧ Aside0 (w'.heap[gb]? = some (.cells #[.slice V g.entries.length cv, .int .i64 g.head] 29 (0, 0))) ∧ Aside0 (w'.heap[w.heap.size + 1]? = some (.cells #[.slice none 0 0, .int .i64 0] 29 (0, 0))) ∧ Aside0 (Below w.heap.size w w'))
 case atStart => exact ⟨0, _, rfl, by omega, by omega, ⟨rfl⟩, ⟨Upto.zero (by simp)⟩, HO, HG, HZ, HB⟩
 case round =>
  clear HO HB HG HZ q0
  obtain ⟨i, xs, rfl, h0, hi, HK, HU, HO, HG, HZ, HB⟩ := hrel
  by_cases hlt : i < g.entries.length
  ·obtain ⟨ad, A4, c4, e0, x, _, y4⟩ := at41 (Kd.C_below HR.out HB.out) i h0 hlt
   cases e0
   obtain ⟨x0, x1, x2, x3⟩ := x
   obtain ⟨gs, cap, hv, hgs, _⟩ := Kd.S_form HO.out (by have := HU.out.1; omega)
   rw [HU.out.1] at hv
   cases hv
   have hok := (Kd.S_R HO.out).1 gs (by simp [Value.ownBlock])
   have hsl := HS.out _ (mem_getD z41 h0 hlt)
   have HY0 := y4
   have HT := Aside0.mk (HU.out.step h0 hlt)
   replace HT : Aside0 (Upto z41 g.entries (xs.set i.toNat (rd_T41 g.entries i)) (i + 1)) := HT
   replace hsl : (rd_T41 g.entries i).f3.length ≤ 1048576 := hsl
   clear y4
   obtain ⟨y, hy⟩ : ∃ y, rd_T41 g.entries i = y := ⟨_, rfl⟩
   rw [hy] at x0 x1 x2 x3 hsl HY0 HT
   clear hy
   have HY1 := Kd.C_below HY0 (below_alloc (Below.refl _ _) (.cells #[.int .i64 y.f0, .int .i64 y.f1, .string y.f2, .slice A4 y.f3.length c4] 41 (0, 0)))
   clear HY0
   have HG1 := Aside0.mk (blk_alloc HG.out (.cells #[.int .i64 y.f0, .int .i64 y.f1, .string y.f2, .slice A4 y.f3.length c4] 41 (0, 0)))
   have HE1 := Aside0.mk (blk_new wr (.cells #[.int .i64 y.f0, .int .i64 y.f1, .string y.f2, .slice A4 y.f3.length c4] 41 (0, 0)))
   have HZ1 := Aside0.mk (blk_alloc HZ.out (.cells #[.int .i64 y.f0, .int .i64 y.f1, .string y.f2, .slice A4 y.f3.length c4] 41 (0, 0)))
   have HO1 := Aside0.mk (Kd.S_alloc HO.out (.cells #[.int .i64 y.f0, .int .i64 y.f1, .string y.f2, .slice A4 y.f3.length c4] 41 (0, 0)))
   have HB1 := Aside0.mk (below_alloc HB.out (.cells #[.int .i64 y.f0, .int .i64 y.f1, .string y.f2, .slice A4 y.f3.length c4] 41 (0, 0)))
   have HY := Aside0.mk HY1
   clear HY1 HG HZ HO HB
   have hgbw : gb < (wr.alloc (.cells #[.int .i64 y.f0, .int .i64 y.f1, .string y.f2, .slice A4 y.f3.length c4] 41 (0, 0))).heap.size := blk_lt HG1.out
   replace hgbw := Aside0.mk hgbw
   replace hok := Aside0.mk hok
   replace hgs := Aside0.mk hgs
   go_wp2
   generalize (wr.alloc (.cells #[.int .i64 y.f0, .int .i64 y.f1, .string y.f2, .slice A4 y.f3.length c4] 41 (0, 0))) = W1 at *
   refine start_ (n := 7) (S := fun w' => Below W1.heap.size W1 w' ∧ w'.heap[gb]? = some (.cells #[.slice (some ⟨gs, 0, none⟩) g.entries.length cv, .int .i64 g.head] 29 (0, 0)) ∧ w'.heap[wr.heap.size]? = some (.cells #[.int .i64 y.f0, .int .i64 y.f1, .string y.f2, .slice A4 y.f3.length c4] 41 (0, 0))) (ds := [6]) #[false, false, false, false, false, false, false] (by kernel_rfl) rfl rfl (by exact ⟨below_drew (Below.refl _ _), HG1.out, HE1.out⟩) (fun hHeld => ?_)
   generalize W1.drew = wd at hHeld ⊢
   refine pure_ (i := 0) (N := (some 21)) (v := ?_) (a' := ?_) #[true, false, false, false, false, false, false] rfl rfl (by kernel_rfl) (fun _ _ _ h => h) (Or.inl ⟨by rfl, ?_⟩) ?_ ?_
   rotate_left
   ·intro w'
    go_simp
    try with_reducible rfl
   rotate_left
   ·simp only [Act.put, List.setIfInBounds_toArray, List.set_cons_zero, List.set_cons_succ]
    rfl
   refine take_ (i := 1) (N := (some 22)) (v := ?_) (a' := ?_) #[true, true, false, false, false, false, false] rfl rfl (by kernel_rfl) (fun _ _ _ h => h) (Or.inl ⟨by rfl, ?_⟩) hHeld ?_ ?_
   rotate_left
   ·rintro w' ⟨s_, sa, sb⟩
    have q0 : w'.cell? ⟨gb, 0, none⟩ = some (.slice (some ⟨gs, 0, none⟩) g.entries.length cv) := (blk_cell sa 0).trans rfl
    have p0 : w'.cell? ⟨wr.heap.size, 0, none⟩ = some (.int .i64 y.f0) := (blk_cell sb 0).trans rfl
    have p1 : w'.cell? ⟨wr.heap.size, 1, none⟩ = some (.int .i64 y.f1) := (blk_cell sb 1).trans rfl
    have p2 : w'.cell? ⟨wr.heap.size, 2, none⟩ = some (.string y.f2) := (blk_cell sb 2).trans rfl
    have p3 : w'.cell? ⟨wr.heap.size, 3, none⟩ = some (.slice A4 y.f3.length c4) := (blk_cell sb 3).trans rfl
    go_simp
    try with_reducible rfl
   rotate_left
   ·simp only [Act.put, List.setIfInBounds_toArray, List.set_cons_zero, List.set_cons_succ]
    rfl
   refine pure_ (i := 2) (N := (some 23)) (v := ?_) (a' := ?_) #[true, true, true, false, false, false, false] rfl rfl (by kernel_rfl) (fun _ _ _ h => h) (Or.inl ⟨by rfl, ?_⟩) ?_ ?_
   rotate_left
   ·intro w'
    go_simp
    try with_reducible rfl
   rotate_left
   ·simp only [Act.put, List.setIfInBounds_toArray, List.set_cons_zero, List.set_cons_succ]
    rfl
   refine take_ (i := 3) (N := (some 24)) (v := ?_) (a' := ?_) #[true, true, true, true, false, false, false] rfl rfl (by kernel_rfl) (fun _ _ _ h => h) (Or.inl ⟨by rfl, ?_⟩) hHeld ?_ ?_
   rotate_left
   ·rintro w' ⟨s_, sa, sb⟩
    have q0 : w'.cell? ⟨gb, 0, none⟩ = some (.slice (some ⟨gs, 0, none⟩) g.entries.length cv) := (blk_cell sa 0).trans rfl
    have p0 : w'.cell? ⟨wr.heap.size, 0, none⟩ = some (.int .i64 y.f0) := (blk_cell sb 0).trans rfl
    have p1 : w'.cell? ⟨wr.heap.size, 1, none⟩ = some (.int .i64 y.f1) := (blk_cell sb 1).trans rfl
    have p2 : w'.cell? ⟨wr.heap.size, 2, none⟩ = some (.string y.f2) := (blk_cell sb 2).trans rfl
    have p3 : w'.cell? ⟨wr.heap.size, 3, none⟩ = some (.slice A4 y.f3.length c4) := (blk_cell sb 3).trans rfl
    go_simp
    try with_reducible rfl
   rotate_left
   ·simp only [Act.put, List.setIfInBounds_toArray, List.set_cons_zero, List.set_cons_succ]
    rfl
   refine one_ (i := 4) (N := (some 25)) #[true, true, true, true, true, false, false] rfl rfl (by kernel_rfl) (by decide) (fun K hK => ?_)
   refine goes_ Tryz.func55 (by kernel_rfl) rfl #[.agg #[.int .i64 y.f0, .int .i64 y.f1, .string y.f2, .slice A4 y.f3.length c4]] (by rfl) rfl rfl (by (try simp only [List.map_toArray, List.map_cons, List.map_nil]); first | done | rfl) ?_
   with_reducible refine (copyEntry_calls y _ _ hsl _ (Kd.C_below HY.out hHeld.1)).mono ?_
   rintro e w2 ⟨v2, rfl, ho2, hb2⟩
   obtain ⟨V, cv, rfl⟩ := Kd.R_slice ho2
   replace ho2 := Aside0.mk ho2
   have hzd := hHeld.1.size
   refine ⟨_, rfl, ?_⟩
   refine hK.out _ _ (by exact ⟨below_step hHeld.1 hb2, blk_below hHeld.2.1 hb2, blk_below hHeld.2.2 hb2⟩) (fun hHeld => ?_)
   clear hK K
   refine norm_ (a' := ?_) ?_ ?_
   rotate_left
   ·show Act.put _ (some 25) _ = _
    simp only [Act.put, List.setIfInBounds_toArray, List.set_cons_zero, List.set_cons_succ]
    rfl
   refine pure_ (i := 5) (N := (some 26)) (v := ?_) (a' := ?_) #[true, true, true, true, true, true, false] rfl rfl (by kernel_rfl) (fun _ _ _ h => h) (Or.inl ⟨by rfl, ?_⟩) ?_ ?_
   rotate_left
   ·intro w'
    go_simp
    try with_reducible rfl
   rotate_left
   ·simp only [Act.put, List.setIfInBounds_toArray, List.set_cons_zero, List.set_cons_succ]
    rfl
   refine last_ (i := 6) (N := none) #[true, true, true, true, true, true, true] rfl rfl (by kernel_rfl) (by decide) (fun K hK => ?_)
   obtain ⟨s_, sa, sb⟩ := hHeld
   obtain ⟨ve, t0, t1, t2, t3, u0, u1, u2, u3⟩ := slot41 (Kd.S_R (S_below2 HO1.out s_)) i h0 hlt
   refine skip_ (w1 := ?_) (by rfl) rfl ?_ ?_
   rotate_left
   ·go_simp
    rfl
   refine hK.out _ _ ?_
   clear hK K
   refine done_ (by kernel_rfl) ?_
   have HO2 := Aside0.mk (S_elder3 HO1.out s_ hzd)
   have HP := Aside0.mk (put41 (ok := fun k => k ≠ gb ∧ w.heap.size + 2 ≤ k) HO2.out (by have := HB1.out.size; omega) i h0 hlt y ho2.out (fun k hk1 hk2 => by have := hgbw.out; have := HB1.out.size; have := blk_lt HZ1.out; show k ≠ gb ∧ w.heap.size + 2 ≤ k; omega))
   go_wp2
   go_roundg (g.entries.length - (i + 1).toNat)
   case measure => have := HK.out; omega
   case rel => exact ⟨i + 1, xs.set i.toNat y, by go_num, by omega, by omega, ⟨rfl⟩, HT, ⟨HP.out.1⟩, ⟨blk_grown sa HP.out.2 (by have := hok.out.1; intro e; cases e; exact this rfl)⟩, ⟨blk_grown (blk_below HZ1.out s_) HP.out.2 (by have := hok.out.2; intro e; cases e; omega)⟩, ⟨(below_step HB1.out s_).grown HP.out.2 (by have := HB1.out.size; have := s_.size; omega) (by rintro k h; cases h; exact hgs.out)⟩⟩
  ·have he := HU.out.done (by omega)
   subst he
   have k0 : wr.cell? ⟨gb, 0, none⟩ = some (.slice V g.entries.length cv) := (blk_cell HG.out 0).trans rfl
   have k1 : wr.cell? ⟨gb, 1, none⟩ = some (.int .i64 g.head) := (blk_cell HG.out 1).trans rfl
   have z0 : wr.cell? ⟨w.heap.size + 1, 0, none⟩ = some (.slice none 0 0) := (blk_cell HZ.out 0).trans rfl
   have z1 : wr.cell? ⟨w.heap.size + 1, 1, none⟩ = some (.int .i64 0) := (blk_cell HZ.out 1).trans rfl
   have fz0 := blk_frozen HZ.out 0
   have fz1 := blk_frozen HZ.out 1
   go_wp2
   refine bodyPost_ret (results_cell_row rfl _ _ (w.heap.size + 1) 29 #[.slice V g.entries.length cv, .int .i64 g.head] (0, 0) _ rfl (blk_put (cs' := #[.slice V g.entries.length cv, .int .i64 g.head]) (blk_put (cs' := #[.slice V g.entries.length cv, .int .i64 0]) HZ.out 0 _ rfl) 1 _ rfl) Tryz.underlying29 rfl (by kernel_rfl)) rfl ⟨V, cv, rfl, ?_, ?_⟩
   ·exact Kd.S_mono (Kd.S_far (Kd.S_far HO.out (p := ⟨w.heap.size + 1, 0, none⟩) (fun k hk => by have := hk.2; show k ≠ w.heap.size + 1; omega) _) (p := ⟨w.heap.size + 1, 1, none⟩) (fun k hk => by have := hk.2; show k ≠ w.heap.size + 1; omega) _) (fun _ _ => trivial)
   ·exact below_set (below_set HB.out (by omega)) (by omega)
end Go.Proofs.YtheaeffhhbjpmaaGreatDoor

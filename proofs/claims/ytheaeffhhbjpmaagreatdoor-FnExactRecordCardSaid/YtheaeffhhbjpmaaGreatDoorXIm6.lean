/- Of the program: the head of a list of entries. -/
import Derived.Test.YtheaeffhhbjpmaaGreatDoorXIm5
namespace Go.Proofs.YtheaeffhhbjpmaaGreatDoor
open Go.RowKit Go.Proofs.YtheaeffhhbjpmaaGreatDoorW.PrintWords Go.Proofs.YtheaeffhhbjpmaaGreatDoorW.PrintLast
set_option linter.unusedVariables false
set_option linter.unusedSimpArgs false
noncomputable def stE (p : Int × Bool) (e : S41) : Int × Bool := (numsE e).foldl stS p
noncomputable def headS (es : List S41) : Int × Bool := es.foldl stE (1, false)
theorem stS_true (l : List Int) : ∀ p : Int × Bool, p.2 = true → (l.foldl stS p).2 = true := by
 induction l with
 | nil => intro p h; exact h
 | cons a t ih =>
  intro p h
  refine ih _ ?_
  by_cases ha : inR a
  ·rw [stS_in ha]; exact h
  ·rw [stS_out ha]
theorem stS_fold_ok {l : List Int} (h : ∀ x ∈ l, inR x) : ∀ p : Int × Bool, l.foldl stS p = (l.foldl linkF p.1, p.2) := by
 induction l with
 | nil => intro p; rfl
 | cons a t ih =>
  intro p
  rw [List.foldl_cons, List.foldl_cons, stS_in (h a (List.mem_cons_self ..)), ih (fun x hx => h x (List.mem_cons_of_mem _ hx))]
theorem stS_fold_bad {l : List Int} {x : Int} (hx : x ∈ l) (hn : ¬ inR x) : ∀ p : Int × Bool, (l.foldl stS p).2 = true := by
 induction l with
 | nil => cases hx
 | cons a t ih =>
  intro p
  rcases List.mem_cons.1 hx with rfl | hx
  ·rw [List.foldl_cons, stS_out hn]; exact stS_true t _ rfl
  ·exact ih hx _
theorem stE_true {l : List S41} : ∀ p : Int × Bool, p.2 = true → (l.foldl stE p).2 = true := by
 induction l with
 | nil => intro p h; exact h
 | cons a t ih => intro p h; exact ih _ (stS_true _ _ h)
theorem stE_fold_ok {l : List S41} (h : ∀ e ∈ l, ∀ x ∈ numsE e, inR x) : ∀ p : Int × Bool, l.foldl stE p = (l.foldl linkE p.1, p.2) := by
 induction l with
 | nil => intro p; rfl
 | cons a t ih =>
  intro p
  rw [List.foldl_cons, List.foldl_cons, show stE p a = (linkE p.1 a, p.2) from stS_fold_ok (h a (List.mem_cons_self ..)) p, ih (fun e he => h e (List.mem_cons_of_mem _ he))]
theorem stE_fold_bad {l : List S41} {e : S41} {x : Int} (he : e ∈ l) (hx : x ∈ numsE e) (hn : ¬ inR x) : ∀ p : Int × Bool, (l.foldl stE p).2 = true := by
 induction l with
 | nil => cases he
 | cons a t ih =>
  intro p
  rcases List.mem_cons.1 he with rfl | he
  ·exact stE_true (l := t) (stE p e) (stS_fold_bad hx hn p)
  ·exact ih he _
theorem headF_S {es : List S41} (hl : es.length ≤ 1000) (hb : ∀ j : Int, 0 ≤ j → j < es.length → (en es j).f3.length ≤ 60 ∧ (en es j).f2.size ≤ 40) : headF es = if (headS es).2 = true then 0 else (headS es).1 := by
 by_cases hA : ∀ e ∈ es, ∀ x ∈ numsE e, inR x
 ·have hH : HeadP es := ⟨hl, fun i i0 i1 => ⟨(hb i i0 i1).1, (hb i i0 i1).2, fun k k0 k1 => hA (en es i) (mem_getD z41 i0 i1) _ (mem_getD 0 k0 k1)⟩⟩
  rw [headF_t hH]
  unfold headS
  rw [stE_fold_ok hA]
  rfl
 ·have hx : ∃ e, e ∈ es ∧ ∃ x, x ∈ numsE e ∧ ¬ inR x := by
   apply Classical.byContradiction
   intro hc
   exact hA fun e he x hx => Classical.byContradiction fun hn => hc ⟨e, he, x, hx, hn⟩
  obtain ⟨e, he, x, hx, hn⟩ := hx
  have hT : (headS es).2 = true := stE_fold_bad he hx hn (1, false)
  have hH : ¬ HeadP es := by
   intro hH
   obtain ⟨i, i0, i1, rfl⟩ := of_getD z41 he
   obtain ⟨k, k0, k1, rfl⟩ := of_getD 0 hx
   exact hn ((hH.2 i i0 i1).2.2 k k0 k1)
  rw [headF_f hH, if_pos hT]
theorem InH.headS (es : List S41) : InH (headS es) := by
 have h : ∀ (l : List S41) (p : Int × Bool), InH p → InH (l.foldl stE p) := by
  intro l
  induction l with
  | nil => intro p h; exact h
  | cons a t ih => intro p h; exact ih _ (h.steps _)
 exact h es _ ⟨by decide, by decide⟩
set_option maxRecDepth 100000 in
set_option maxHeartbeats 2000000 in
theorem iHeadOf_calls (A : Option Addr) (c : Nat) (es : List S41) (hs : ∀ i : Int, 0 ≤ i → i < es.length → (en es i).f2.size ≤ 9223372036854775807) (r : Int) (h : headF es = r) (w : World) (hr : Kd.C k41 w A es.length es) :
  Calls Tryz.prog 91 #[.slice A es.length c] w fun e1 w' => e1 = .returned (.int .i64 r) ∧ Below w.heap.size w w' := by
 subst h
 have hu2 := Tryz.underlying41
 have hu3 := Tryz.underlying110
 have HR := Aside0.mk hr
 have HS := Aside0.mk hs
 have hm := C_len hr
 clear hr hs
 by_cases hl : 1000 < es.length
 ·have HF := Aside0.mk (headF_f (show ¬ HeadP es from fun h => by have := h.1; omega))
  go_enter Tryz.func91, Tryz.ntmps91
  go_wp2
  go_ret
  exact ⟨ret_i HF.out.symm, Below.refl _ _⟩
 ·replace hl : es.length ≤ 1000 := by omega
  go_enter Tryz.func91, Tryz.ntmps91
  go_wp2
  go_loopg [16] es.length (fun kq v16 w' => ∃ i : Int, v16 = .int .i64 i ∧ 0 ≤ i ∧ i ≤ es.length ∧ Aside0 (kq = es.length - i.toNat) ∧ Aside0 (w'.heap[w.heap.size]? = some (.cells #[.int .i64 (headS (es.take i.toNat)).1, .bool (headS (es.take i.toNat)).2] 110 (0, 0))) ∧ Aside0 (∀ j : Int, 0 ≤ j → j < i → (en es j).f3.length ≤ 60 ∧ (en es j).f2.size ≤ 40) ∧ Aside0 (Below w.heap.size w w'))
  case atStart => exact ⟨0, rfl, by omega, by omega, ⟨rfl⟩, ⟨by simpa [headS] using blk_new w _⟩, ⟨fun j h0 h1 => by omega⟩, ⟨below_alloc (Below.refl _ _) _⟩⟩
  case round =>
   obtain ⟨i, rfl, h0, hi, HK, BG, HE, HB⟩ := hrel
   by_cases hlt : i < es.length
   ·obtain ⟨ad, A3, c3, e0, hAt, hc3, hC3⟩ := at41 HR.out i h0 hlt
    obtain ⟨x0, x1, x2, x3⟩ := hAt.below HB.out
    cases e0
    clear hAt
    have hy2 : (rd_T41 es i).f2.size ≤ 9223372036854775807 := HS.out i h0 hlt
    have hym := C_len hC3
    have HT := Aside0.mk (show stE (headS (es.take i.toNat)) (en es i) = headS (es.take (i + 1).toNat) from (foldl_step stE (1, false) es z41 h0 hlt).symm)
    have HI := Aside0.mk (InH.headS (es.take i.toNat))
    obtain ⟨p, hp⟩ : ∃ p, headS (es.take i.toNat) = p := ⟨_, rfl⟩
    rw [hp] at HT HI
    have BG' := BG.out
    rw [hp] at BG'
    clear hp BG
    have HL : ∀ q : ¬ ((rd_T41 es i).f3.length ≤ 60 ∧ (rd_T41 es i).f2.size ≤ 40), headF es = 0 := fun q => headF_f (fun hH => q ⟨(hH.2 i h0 hlt).1, (hH.2 i h0 hlt).2.1⟩)
    have HN : Aside0 (((rd_T41 es i).f3.length ≤ 60 ∧ (rd_T41 es i).f2.size ≤ 40) → ∀ j : Int, 0 ≤ j → j < i + 1 → (en es j).f3.length ≤ 60 ∧ (en es j).f2.size ≤ 40) := ⟨fun q j j0 j1 => by
     by_cases hj : j = i
     ·subst hj; exact q
     ·exact HE.out j j0 (by omega)⟩
    replace HL := Aside0.mk HL
    have HC3 := Aside0.mk hC3
    clear hC3
    replace HT : Aside0 (stE p (rd_T41 es i) = headS (es.take (i + 1).toNat)) := HT
    obtain ⟨y, hy⟩ : ∃ y, rd_T41 es i = y := ⟨_, rfl⟩
    rw [hy] at x0 x1 x2 x3 hc3 hy2 hym HL HN HC3 HT
    clear hy
    have HNE := Aside0.mk (show w.heap.size < wr.heap.size from blk_lt BG')
    replace BG := Aside0.mk (blk_alloc BG' (.cells #[.int .i64 y.f0, .int .i64 y.f1, .string y.f2, .slice A3 y.f3.length c3] 41 (0, 0)))
    clear BG'
    by_cases g1 : 60 < y.f3.length
    ·have HF := Aside0.mk (HL.out (fun q => by omega))
     go_wp2
     go_ret
     exact ⟨ret_i HF.out.symm, below_alloc HB.out _⟩
    ·by_cases g2 : 40 < y.f2.size
     ·have HF := Aside0.mk (HL.out (fun q => by omega))
      go_wp2
      go_ret
      exact ⟨ret_i HF.out.symm, below_alloc HB.out _⟩
     ·replace g1 : y.f3.length ≤ 60 := by omega
      replace g2 : y.f2.size ≤ 40 := by omega
      have HN2 := Aside0.mk (HN.out ⟨g1, g2⟩)
      go_wp2_with (go_at_call 56; (with_reducible refine (numbersOf_calls y A3 c3 g2 g1 w.heap.size p HI.out w _ HC3.out (below_alloc HB.out _) (Nat.le_refl _) BG.out).mono ?_); rintro e_ w5 ⟨rfl, hg5, hG5⟩; have BG5 := Aside0.mk hg5; have HB5 := Aside0.mk (grown_below (below_alloc HB.out _) hG5 (Nat.le_refl _)); clear hg5 hG5)
      go_roundg (es.length - (i + 1).toNat)
      case measure => have := HK.out; omega
      case rel => exact ⟨i + 1, by go_num, by omega, by omega, ⟨rfl⟩, ⟨by rw [← HT.out]; exact BG5.out⟩, HN2, HB5⟩
   ·have hie : i.toNat = es.length := by omega
    have BG' := BG.out
    rw [hie, List.take_length] at BG'
    have HF := Aside0.mk (headF_S hl (fun j j0 j1 => HE.out j j0 (by omega)))
    obtain ⟨h, b, hhb⟩ : ∃ h b, headS es = (h, b) := ⟨_, _, rfl⟩
    rw [hhb] at BG'
    have HF' := HF.out
    rw [hhb] at HF'
    clear hhb HF BG HE
    have q0 : wr.cell? ⟨w.heap.size, 0, none⟩ = some (.int .i64 h) := (blk_cell BG' 0).trans rfl
    have q1 : wr.cell? ⟨w.heap.size, 1, none⟩ = some (.bool b) := (blk_cell BG' 1).trans rfl
    have f0 := blk_frozen BG' 0
    have f1 := blk_frozen BG' 1
    clear BG'
    cases b with
    | true =>
     have HF := Aside0.mk (show headF es = 0 from HF'.trans (if_pos rfl))
     clear HF'
     go_wp2
     go_ret
     exact ⟨ret_i HF.out.symm, HB.out⟩
    | false =>
     have HF := Aside0.mk (show headF es = h from HF'.trans (if_neg (by simp)))
     clear HF'
     go_wp2
     go_ret
     exact ⟨ret_i HF.out.symm, HB.out⟩
end Go.Proofs.YtheaeffhhbjpmaaGreatDoor

/- Of the program: whether a chart, a frame is right. Sums in a map by a pair of numbers: what one 'm[k] += x' leaves. The sums that an entry's check keeps in a map. -/
import Derived.Test.YtheaeffhhbjpmaaGreatDoorXDp1
import Derived.Maps.RangeWalk
import Derived.DeepKeys4
import Derived.WideKeyEntry
namespace Go.Proofs.YtheaeffhhbjpmaaGreatDoor
open Go.RowKit Go.Proofs.YtheaeffhhbjpmaaGreatDoorW.PrintWords Go.Proofs.YtheaeffhhbjpmaaGreatDoorW.PrintLast
set_option linter.unusedVariables false
set_option linter.unusedSimpArgs false
set_option maxRecDepth 100000 in
theorem iChartOk_calls (A : Option Addr) (c : Nat) (l : List S48) (hs : SzC l) (r : Bool) (h : bP (ChartP l) = r) (w : World) (hr : Kd.C k48 w A l.length l) :
  Calls Tryz.prog 126 #[.slice A l.length c] w fun e w' => e = .returned (.bool r) ∧ Below w.heap.size w w' := by
 have HR := Aside0.mk hr
 have HS := Aside0.mk hs
 have H := Aside0.mk h
 clear hr hs h
 go_enter Tryz.func126, Tryz.ntmps126
 go_wp2_with (go_at_call 141; (with_reducible refine (depths_calls A c l HS.out r H.out _ HR.out).mono ?_); rintro e w1 ⟨v, rfl, hb1⟩)
 go_ret
 exact ⟨rfl, hb1⟩
set_option maxRecDepth 100000 in
theorem iFrameOk_calls (f : FrameD) (A : Option Addr) (c : Nat) (hs : SzC f.chart) (r : Bool) (h : bP (FrameP f) = r) (w : World) (hr : Kd.C k48 w A f.chart.length f.chart) : Calls Tryz.prog 90 #[.agg #[.slice A f.chart.length c, .int .i64 f.dims, .int .i64 f.curs]] w fun e w' => e = .returned (.bool r) ∧ Below w.heap.size w w' := by
 subst h
 have hu := Tryz.underlying26
 have HR := Aside0.mk hr
 have HS := Aside0.mk hs
 clear hr hs
 by_cases c1 : 1 ≤ f.dims ∧ f.dims ≤ 20
 rotate_left
 ·have C1 := Aside0.mk (bP_f c1); have HF := Aside0.mk (bP_f (show ¬ (FrameP f) from fun h => c1 h.2.1)); clear c1
  go_enter Tryz.func90, Tryz.ntmps90
  go_wp2_with (first | (go_at_call 37; (with_reducible refine (between_calls f.dims 1 20 _ C1.out _).mono ?_); rintro e w' ⟨rfl, rfl⟩) | (go_at_call 37; (with_reducible refine (between_calls f.curs 1 20 _ C2.out _).mono ?_); rintro e w' ⟨rfl, rfl⟩) | (go_at_call 126; (with_reducible refine (iChartOk_calls _ _ f.chart HS.out _ C3.out _ (Kd.C_below HR.out (by repeat (with_reducible first | assumption | exact Below.refl _ _ | apply below_alloc | apply below_drew1 | apply pw_below_drewN | refine below_set ?_ (by omega) | refine below_step ?_ (by assumption))))).mono ?_); rintro e w1 ⟨rfl, hb1⟩))
  go_ret
  exact ⟨ret_b HF.out.symm, (by repeat (with_reducible first | assumption | exact Below.refl _ _ | apply below_alloc | apply below_drew1 | apply pw_below_drewN | refine below_set ?_ (by omega) | refine below_step ?_ (by assumption)))⟩
 by_cases c2 : 1 ≤ f.curs ∧ f.curs ≤ 20
 rotate_left
 ·have C1 := Aside0.mk (bP_t c1); have C2 := Aside0.mk (bP_f c2); have HF := Aside0.mk (bP_f (show ¬ (FrameP f) from fun h => c2 h.2.2)); clear c1 c2
  go_enter Tryz.func90, Tryz.ntmps90
  go_wp2_with (first | (go_at_call 37; (with_reducible refine (between_calls f.dims 1 20 _ C1.out _).mono ?_); rintro e w' ⟨rfl, rfl⟩) | (go_at_call 37; (with_reducible refine (between_calls f.curs 1 20 _ C2.out _).mono ?_); rintro e w' ⟨rfl, rfl⟩) | (go_at_call 126; (with_reducible refine (iChartOk_calls _ _ f.chart HS.out _ C3.out _ (Kd.C_below HR.out (by repeat (with_reducible first | assumption | exact Below.refl _ _ | apply below_alloc | apply below_drew1 | apply pw_below_drewN | refine below_set ?_ (by omega) | refine below_step ?_ (by assumption))))).mono ?_); rintro e w1 ⟨rfl, hb1⟩))
  go_ret
  exact ⟨ret_b HF.out.symm, (by repeat (with_reducible first | assumption | exact Below.refl _ _ | apply below_alloc | apply below_drew1 | apply pw_below_drewN | refine below_set ?_ (by omega) | refine below_step ?_ (by assumption)))⟩
 by_cases c3 : ChartP f.chart
 rotate_left
 ·have C1 := Aside0.mk (bP_t c1); have C2 := Aside0.mk (bP_t c2); have C3 := Aside0.mk (bP_f c3); have HF := Aside0.mk (bP_f (show ¬ (FrameP f) from fun h => c3 h.1)); clear c1 c2 c3
  go_enter Tryz.func90, Tryz.ntmps90
  go_wp2_with (first | (go_at_call 37; (with_reducible refine (between_calls f.dims 1 20 _ C1.out _).mono ?_); rintro e w' ⟨rfl, rfl⟩) | (go_at_call 37; (with_reducible refine (between_calls f.curs 1 20 _ C2.out _).mono ?_); rintro e w' ⟨rfl, rfl⟩) | (go_at_call 126; (with_reducible refine (iChartOk_calls _ _ f.chart HS.out _ C3.out _ (Kd.C_below HR.out (by repeat (with_reducible first | assumption | exact Below.refl _ _ | apply below_alloc | apply below_drew1 | apply pw_below_drewN | refine below_set ?_ (by omega) | refine below_step ?_ (by assumption))))).mono ?_); rintro e w1 ⟨rfl, hb1⟩))
  go_ret
  exact ⟨ret_b HF.out.symm, (by repeat (with_reducible first | assumption | exact Below.refl _ _ | apply below_alloc | apply below_drew1 | apply pw_below_drewN | refine below_set ?_ (by omega) | refine below_step ?_ (by assumption)))⟩
 have C1 := Aside0.mk (bP_t c1); have C2 := Aside0.mk (bP_t c2); have C3 := Aside0.mk (bP_t c3); have HF := Aside0.mk (bP_t (show FrameP f from ⟨c3, c1, c2⟩)); clear c1 c2 c3
 go_enter Tryz.func90, Tryz.ntmps90
 go_wp2_with (first | (go_at_call 37; (with_reducible refine (between_calls f.dims 1 20 _ C1.out _).mono ?_); rintro e w' ⟨rfl, rfl⟩) | (go_at_call 37; (with_reducible refine (between_calls f.curs 1 20 _ C2.out _).mono ?_); rintro e w' ⟨rfl, rfl⟩) | (go_at_call 126; (with_reducible refine (iChartOk_calls _ _ f.chart HS.out _ C3.out _ (Kd.C_below HR.out (by repeat (with_reducible first | assumption | exact Below.refl _ _ | apply below_alloc | apply below_drew1 | apply pw_below_drewN | refine below_set ?_ (by omega) | refine below_step ?_ (by assumption))))).mono ?_); rintro e w1 ⟨rfl, hb1⟩))
 go_ret
 exact ⟨ret_b HF.out.symm, (by repeat (with_reducible first | assumption | exact Below.refl _ _ | apply below_alloc | apply below_drew1 | apply pw_below_drewN | refine below_set ?_ (by omega) | refine below_step ?_ (by assumption)))⟩
end Go.Proofs.YtheaeffhhbjpmaaGreatDoor
namespace Go.Proofs.YtheaeffhhbjpmaaGreatDoor
open Go.RowKit Go.Proofs.YtheaeffhhbjpmaaGreatDoorW.PrintWords Go.Proofs.YtheaeffhhbjpmaaGreatDoorW.PrintLast
open Go.ChangeMaps Go.MapKept Go.ChangeShapes Go.WideShapes
open Go.WideElems (Fit rd rg pl rd_val)
open Go.WideMaps (KeyLaw)
set_option linter.unusedVariables false
set_option linter.unusedSimpArgs false
theorem laidOutP : laidOutB Tryz.prog = true := by kernel_rfl
theorem row154 : (154 : TypeId) < Tryz.prog.types.size := of_decide_eq_true (by kernel_rfl)
theorem wide154 : (match Tryz.prog.underlying 154 with | some (.array _ _) | some (.struct _) => true | _ => false) = true := by rw [Tryz.underlying154]
set_option maxRecDepth 100000 in
theorem klaw : KeyLaw Tryz.prog 154 := deep_law_laid laidOutP (m := 2) (by omega) row154 (by kernel_rfl) wide154
theorem kkeyed : Go.Maps.Keyed Tryz.prog 154 := Go.Maps.Keyed.of_law klaw
def kk (a b : Int) : Lit := .string (keyBytes [.int .i64 a, .int .i64 b])
theorem types247 : Tryz.prog.types.size = 247 := by kernel_rfl
theorem keyType154 : Tryz.prog.keyType 154 = true := by kernel_rfl
theorem cells154 : Tryz.prog.cellsOf 154 = 2 := by kernel_rfl
theorem cells3 : Tryz.prog.cellsOf 3 = 1 := by kernel_rfl
theorem kk_key (a b : Int) (ha : (Lit.int .i64 a).wf = true) (hb : (Lit.int .i64 b).wf = true) : keyOf Tryz.prog 154 (.agg #[.int .i64 a, .int .i64 b]) = some (kk a b) := by
 have hf : (Value.agg #[.int .i64 a, .int .i64 b]).formed Tryz.prog 154 = true := by simp [Value.formed, Tryz.underlying154, cells154]
 have hl : Tryz.prog.keyLits (Tryz.prog.types.size + 1) 154 (Value.agg #[.int .i64 a, .int .i64 b]).cells.toList = some [.int .i64 a, .int .i64 b] := by
  rw [types247]
  have e : ∀ x : Int, (Lit.int .i64 x).wf = true → Tryz.prog.keyLits 247 3 [.int .i64 x] = some [.int .i64 x] := fun x hx => by
   unfold Program.keyLits
   rw [Tryz.underlying3]
   simp [hx]
  unfold Program.keyLits
  rw [Tryz.underlying154]
  simp only [Value.cells, cells154, cells3]
  simp [List.range_succ, e a ha, e b hb]
 unfold keyOf
 rw [Tryz.underlying154]
 simp only [keyType154, hf, Bool.and_true, if_pos, hl]
 rfl
theorem kk_inj {a b a' b' : Int} (ha : (Lit.int .i64 a).wf = true) (hb : (Lit.int .i64 b).wf = true) (ha' : (Lit.int .i64 a').wf = true) (hb' : (Lit.int .i64 b').wf = true) (h : kk a b = kk a' b') : a = a' ∧ b = b' := by
 have h1 := kk_key a b ha hb
 rw [h] at h1
 have h2 := kkeyed.inj h1 (kk_key a' b' ha' hb')
 simp at h2
 exact h2
theorem kk_isKey (a b : Int) : WideAt.IsKeyLit (kk a b) := by trivial
section
variable {H : Type} {P : Program} {w : World} {t k e : TypeId} {R : Value → Option (DataW H × List MemPlace)} {b : Nat} {es : Array MapEntry} {clock : Nat}
/-- An entry is found or laid, and stored into: as one store; and in between the map is as behind a store of what was there. -/
theorem entry_store2 (K : KeyLaw P k) (ht : P.underlying t = some (.map k e)) {z : Value} (hz : ∀ u : World, (zeroValue e).run P u = .ok z u) (hb : w.heap[b]? = some (.map es clock)) (F : Fit P k R es clock)
  {key : Value} {kl : Lit} (hkey : keyOf P k key = some kl) :
  ∃ (v0 : Value) (st : Nat) (es1 : Array MapEntry) (clock1 : Nat), (Instr.mapEntry t (.map (some b)) key).run P w = .ok (.tuple #[v0, goInt st]) (setBlock w b (.map es1 clock1)) ∧
   (Instr.lookup t (.map (some b)) key false).run P w = .ok v0 w ∧
   (Instr.mapUpdate t (.map (some b)) key v0).run P w = .ok () (setBlock w b (.map es1 clock1)) ∧
   ∀ (w2 : World) (val : Value), w2.heap[b]? = some (.map es1 clock1) → ∃ es' clock', (Instr.entryStore t (.map (some b)) (goInt st) val).run P w2 = .ok () (setBlock w2 b (.map es' clock')) ∧
    (Instr.mapUpdate t (.map (some b)) key val).run P w = .ok () (setBlock w b (.map es' clock')) := by
 obtain ⟨s1, s2, _⟩ := F.stamped
 rcases K.find w hkey es.toList F.keys with ⟨h1, h2⟩ | ⟨j, e0, h1, h2, h3⟩
 ·refine ⟨z, clock, es.push ⟨key, z, clock⟩, clock + 1, ?_, ?_, ?_, fun w2 val hw2 => ⟨es.push ⟨key, val, clock⟩, clock + 1, ?_, ?_⟩⟩
  ·simp [Instr.mapEntry, run_underlying ht, MapKept.run_getObj_map hb, K.check w false hkey, h1, hz, MapKept.run_setObj_map _ hb, Result.andThen, setBlock]
  ·simp [Instr.lookup, run_underlying ht, MapKept.run_getObj_map hb, K.check w _ hkey, h1, hz, Result.andThen]
  ·simp [Instr.mapUpdate, run_underlying ht, MapKept.run_getObj_map hb, K.check w false hkey, h1, MapKept.run_setObj_map _ hb, Result.andThen, setBlock]
  ·have hidx : (es.push ⟨key, z, clock⟩).findIdx? (fun e => ((e.born : Nat) : Int) == ((clock : Nat) : Int)) = some es.size := by
    rw [WideElems.findIdx_arr]
    have := WideElems.findIdx_born (l := (es.push ⟨key, z, clock⟩).toList) (j := es.size) (e0 := ⟨key, z, clock⟩) (by
     simp only [Array.toList_push, List.map_append, List.map_cons, List.map_nil]
     refine List.nodup_append.2 ⟨s2, by simp, fun a ha c hc e1 => ?_⟩
     simp only [List.mem_singleton] at hc
     obtain ⟨x, hx, rfl⟩ := List.mem_map.1 ha
     have := s1 x hx
     omega) (by simp)
    exact this
   have hmod : (es.push ⟨key, z, clock⟩).modify es.size (fun e => { e with val := val }) = es.push ⟨key, val, clock⟩ := by
    apply Array.ext'
    rw [Array.toList_modify, Array.toList_push, Array.toList_push, ← Array.length_toList, WideElems.modify_last]
   simp [Instr.entryStore, MapKept.run_getObj_map hw2, asInt, asIntOf, goInt, hidx, hmod, MapKept.run_setObj_map _ hw2, Result.andThen, setBlock]
  ·simp [Instr.mapUpdate, run_underlying ht, MapKept.run_getObj_map hb, K.check w false hkey, h1, MapKept.run_setObj_map _ hb, Result.andThen, setBlock]
 ·have hj : es[j]? = some e0 := by simpa using h2
  have hsame : es.modify j (fun e => { e with key := key }) = es := by
   apply Array.ext'
   rw [Array.toList_modify, modify_eq_set _ _ _ _ h2]
   have : ({ e0 with key := key } : MapEntry) = e0 := by rw [← h3]
   rw [this]
   exact WideElems.set_self _ _ _ h2
  have hsame2 : es.modify j (fun e => { e with key := key, val := e0.val }) = es := by
   apply Array.ext'
   rw [Array.toList_modify, modify_eq_set _ _ _ _ h2]
   have : ({ e0 with key := key, val := e0.val } : MapEntry) = e0 := by rw [← h3]
   rw [this]
   exact WideElems.set_self _ _ _ h2
  refine ⟨e0.val, e0.born, es, clock, ?_, ?_, ?_, fun w2 val hw2 => ⟨es.modify j (fun e' => { e' with key := key, val := val }), clock, ?_, ?_⟩⟩
  ·simp [Instr.mapEntry, run_underlying ht, MapKept.run_getObj_map hb, K.check w false hkey, h1, hj, h3, K.stays w hkey, hsame, MapKept.run_setObj_map _ hb, Result.andThen, setBlock]
  ·simp [Instr.lookup, run_underlying ht, MapKept.run_getObj_map hb, K.check w _ hkey, h1, Result.andThen]
  ·simp [Instr.mapUpdate, run_underlying ht, MapKept.run_getObj_map hb, K.check w false hkey, h1, hj, h3, K.stays w hkey, hsame2, MapKept.run_setObj_map _ hb, Result.andThen, setBlock]
  ·have hidx : es.findIdx? (fun e => ((e.born : Nat) : Int) == ((e0.born : Nat) : Int)) = some j := by
    rw [WideElems.findIdx_arr]
    exact WideElems.findIdx_born s2 h2
   have hmod : es.modify j (fun e => { e with val := val }) = es.modify j (fun e' => { e' with key := key, val := val }) := by
    apply Array.ext'
    rw [Array.toList_modify, Array.toList_modify, modify_eq_set _ _ _ _ h2, modify_eq_set _ _ _ _ h2, ← h3]
   simp [Instr.entryStore, MapKept.run_getObj_map hw2, asInt, asIntOf, goInt, hidx, hmod, MapKept.run_setObj_map _ hw2, Result.andThen, setBlock]
  ·simp [Instr.mapUpdate, run_underlying ht, MapKept.run_getObj_map hb, K.check w false hkey, h1, hj, h3, K.stays w hkey, MapKept.run_setObj_map _ hb, Result.andThen, setBlock]
end
end Go.Proofs.YtheaeffhhbjpmaaGreatDoor
namespace Go.Proofs.YtheaeffhhbjpmaaGreatDoor
open Go.RowKit Go.Proofs.YtheaeffhhbjpmaaGreatDoorW.PrintWords Go.Proofs.YtheaeffhhbjpmaaGreatDoorW.PrintLast
open Go.ChangeMaps Go.MapKept Go.ChangeShapes Go.WideShapes
set_option linter.unusedVariables false
set_option linter.unusedSimpArgs false
theorem setBlock_twice (w : World) (b : Nat) (o o' : Obj) : setBlock (setBlock w b o) b o' = setBlock w b o' := by simp [setBlock]
abbrev z0 : DataW Unit := .lit (.int .i64 0)
set_option maxRecDepth 100000 in
theorem map_add {w : World} {b n : Nat} {D : DataW Unit} (hown : w.ownsMap Tryz.prog 154 (plainElem (H := Unit) Tryz.prog 3) b n D) (hn : n < maxLen) (a c : Int) (ha : (Lit.int .i64 a).wf = true) (hc : (Lit.int .i64 c).wf = true) :
  ∃ (q : Int) (v0 : Value) (st : Nat) (w1 : World), D.atKey (kk a c) z0 = .lit (.int .i64 q) ∧ (Instr.lookup 153 (.map (some b)) (.agg #[.int .i64 a, .int .i64 c]) false).run Tryz.prog w = .ok (.int .i64 q) w ∧
   (Instr.mapEntry 153 (.map (some b)) (.agg #[.int .i64 a, .int .i64 c])).run Tryz.prog w = .ok (.tuple #[v0, .int .i64 st]) w1 ∧
   (Instr.lookup 153 (.map (some b)) (.agg #[.int .i64 a, .int .i64 c]) false).run Tryz.prog w1 = .ok (.int .i64 q) w1 ∧ w.grownBy w1 (some b) ∧
   ∀ x : Int, (Lit.int .i64 x).wf = true → ∃ w2, (Instr.entryStore 153 (.map (some b)) (.int .i64 st) (.int .i64 x)).run Tryz.prog w1 = .ok () w2 ∧
    w2.ownsMap Tryz.prog 154 (plainElem (H := Unit) Tryz.prog 3) b (n + 1) (D.put (kk a c) (.lit (.int .i64 x))) ∧ w.grownBy w2 (some b) := by
 have hkey := kk_key a c ha hc
 obtain ⟨q, hl, hat, hwq⟩ := hown.lookup_int kkeyed Tryz.underlying153 Tryz.underlying3 (mzero _) hkey
 obtain ⟨w', hu, ho', hg'⟩ := hown.update kkeyed Tryz.underlying153 hn hkey (plainElem_int Tryz.underlying3 hwq)
 have hown0 := hown
 obtain ⟨es, clock, hb, F, hs, hD⟩ := hown
 obtain ⟨v0, st, es1, clock1, h1, h2, h3, h4⟩ := entry_store2 klaw Tryz.underlying153 mzero hb F hkey
 have hv : v0 = .int .i64 q := by
  rw [h2] at hl
  injection hl
 subst hv
 have hw : w' = setBlock w b (.map es1 clock1) := by
  rw [h3] at hu
  injection hu with _ e
  exact e.symm
 subst hw
 obtain ⟨q', hl', hat', _⟩ := ho'.lookup_int kkeyed Tryz.underlying153 Tryz.underlying3 (mzero _) hkey
 have hq : q' = q := by
  rw [Maps.atKey_put_same hown0.isMap (kk_isKey a c)] at hat'
  injection hat' with e
  injection e with _ e
  exact e.symm
 subst hq
 refine ⟨q', _, st, _, hat, hl, h1, hl', hg', fun x hx => ?_⟩
 obtain ⟨es', clock', h5, h6⟩ := h4 (setBlock w b (.map es1 clock1)) (.int .i64 x) (heap_setBlock_same hb _)
 obtain ⟨w2, hu2, ho2, hg2⟩ := hown0.update kkeyed Tryz.underlying153 hn hkey (plainElem_int Tryz.underlying3 hx)
 have hw : w2 = setBlock w b (.map es' clock') := by
  rw [h6] at hu2
  injection hu2 with _ e
  exact e.symm
 subst hw
 rw [setBlock_twice] at h5
 exact ⟨_, h5, ho2, hg2⟩
/-- The map holds, by currency and by part, the sums of the first i lines. -/
structure SumD (ls : List S88) (D : DataW Unit) (i : Int) : Prop where
 m : Maps.IsMap D
 c : ∀ q : Int, (Lit.int .i64 q).wf = true → D.atKey (kk 0 q) z0 = .lit (.int .i64 (pre (gC q) ls i))
 d : ∀ q : Int, (Lit.int .i64 q).wf = true → D.atKey (kk 1 q) z0 = .lit (.int .i64 (pre (gD q) ls i))
 h : ∀ kl, Maps.has D kl = true → ∃ j : Int, 0 ≤ j ∧ j < i ∧ (kl = kk 0 (ln ls j).f2 ∨ kl = kk 1 (ln ls j).f1)
 h2 : ∀ j : Int, 0 ≤ j → j < i → Maps.has D (kk 0 (ln ls j).f2) = true ∧ Maps.has D (kk 1 (ln ls j).f1) = true
theorem SumD.zero (ls : List S88) : SumD ls (.map []) 0 where
 m := ⟨[], rfl⟩
 c q _ := by rw [pre_zero]; rfl
 d q _ := by rw [pre_zero]; rfl
 h kl h := by simp [Maps.has] at h
 h2 j h0 h1 := by omega
theorem wf_small {x : Int} (h0 : -9223372036854775808 ≤ x) (h1 : x ≤ 9223372036854775807) : (Lit.int .i64 x).wf = true := WalkArith.wf_i64 (by omega)
theorem SumD.step {ls : List S88} {D : DataW Unit} {i : Int} (h : SumD ls D i) (h0 : 0 ≤ i) (h1 : i < ls.length) (w1 : (Lit.int .i64 (ln ls i).f1).wf = true) (w2 : (Lit.int .i64 (ln ls i).f2).wf = true) :
  SumD ls ((D.put (kk 0 (ln ls i).f2) (.lit (.int .i64 (pre (gC (ln ls i).f2) ls i + (ln ls i).f3)))).put (kk 1 (ln ls i).f1) (.lit (.int .i64 (pre (gD (ln ls i).f1) ls i + (ln ls i).f4)))) (i + 1) := by
 have n01 : ∀ p q : Int, (Lit.int .i64 p).wf = true → (Lit.int .i64 q).wf = true → kk 0 p ≠ kk 1 q := fun p q hp hq e => by
  have := (kk_inj (by decide) hp (by decide) hq e).1
  omega
 have hm1 := h.m.put (kk 0 (ln ls i).f2) (.lit (.int .i64 (pre (gC (ln ls i).f2) ls i + (ln ls i).f3)))
 refine ⟨hm1.put _ _, fun q hq => ?_, fun q hq => ?_, fun kl hk => ?_, fun j j0 j1 => ?_⟩
 ·rw [Maps.atKey_put_other (n01 q _ hq w1), pre_step _ _ h0 h1]
  by_cases e : q = (ln ls i).f2
  ·subst e
   rw [Maps.atKey_put_same h.m (kk_isKey _ _)]
   simp [gC]
  ·rw [Maps.atKey_put_other (fun e2 => e (kk_inj (by decide) hq (by decide) w2 e2).2), h.c q hq]
   simp [gC, Ne.symm e]
 ·rw [pre_step _ _ h0 h1]
  by_cases e : q = (ln ls i).f1
  ·subst e
   rw [Maps.atKey_put_same hm1 (kk_isKey _ _)]
   simp [gD]
  ·rw [Maps.atKey_put_other (fun e2 => e (kk_inj (by decide) hq (by decide) w1 e2).2), Maps.atKey_put_other (fun e2 => n01 _ _ w2 hq e2.symm), h.d q hq]
   simp [gD, Ne.symm e]
 ·by_cases e1 : kl = kk 1 (ln ls i).f1
  ·exact ⟨i, h0, by omega, .inr e1⟩
  ·by_cases e2 : kl = kk 0 (ln ls i).f2
   ·exact ⟨i, h0, by omega, .inl e2⟩
   ·rw [Maps.has_put_other e1, Maps.has_put_other e2] at hk
    obtain ⟨j, j0, j1, hj⟩ := h.h kl hk
    exact ⟨j, j0, by omega, hj⟩
 ·have put1 : ∀ (D : DataW Unit) (k k' : Lit) (d : DataW Unit), Maps.IsMap D → WideAt.IsKeyLit k → Maps.has D k' = true → Maps.has (D.put k d) k' = true := fun D k k' d hD hk hh => by
   by_cases e : k' = k
   ·subst e; exact Maps.has_put_same hD hk d
   ·rw [Maps.has_put_other e]; exact hh
  rcases Int.lt_or_eq_of_le (Int.lt_add_one_iff.1 j1) with q | q
  ·have := h.h2 j j0 q
   exact ⟨put1 _ _ _ _ hm1 (kk_isKey _ _) (put1 _ _ _ _ h.m (kk_isKey _ _) this.1), put1 _ _ _ _ hm1 (kk_isKey _ _) (put1 _ _ _ _ h.m (kk_isKey _ _) this.2)⟩
  ·subst q
   exact ⟨put1 _ _ _ _ hm1 (kk_isKey _ _) (Maps.has_put_same h.m (kk_isKey _ _) _), Maps.has_put_same hm1 (kk_isKey _ _) _⟩
end Go.Proofs.YtheaeffhhbjpmaaGreatDoor

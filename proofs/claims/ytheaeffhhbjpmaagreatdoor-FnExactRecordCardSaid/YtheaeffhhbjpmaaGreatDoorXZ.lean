/- The row of the law FnExactRecord: for every books and every entry the law answers true, and both read as they did. The card of the law FnExactRecord: for every books and every entry the law answers true and both read as they did, where the five listed errors read as the program's text lays them. -/
import Derived.Test.YtheaeffhhbjpmaaGreatDoorXLw
import Derived.Test.YtheaeffhhbjpmaaGreatDoorXAo
import Derived.Test.YtheaeffhhbjpmaaGreatDoorRows
import Derived.ChangeSame
import Derived.ChangeVars
import Derived.JoinedOf
import Derived.RowKit
import Derived.RowKitTokens
import Derived.LaidLaws
import Derived.LaidHandle
import Derived.Stop.LaidErr
import Derived.Stop.ErrReads
import Derived.OpenVars
import Derived.SizedLaws
import Derived.Test.YtheaeffhhbjpmaaGreatDoorTie
import Derived.Test.YtheaeffhhbjpmaaGreatDoorCards
import Derived.SevenTiedAt
namespace Go.Proofs.YtheaeffhhbjpmaaGreatDoor
open Go.ChangeShapes Go.WideShapes Go.RowKit Go.Proofs.YtheaeffhhbjpmaaGreatDoorW.PrintWords Go.Proofs.YtheaeffhhbjpmaaGreatDoorW.PrintLast
set_option linter.unusedVariables false
set_option linter.unusedSimpArgs false
theorem ownK : ownKnob Tryz.prog.godebug = none := by kernel_rfl
theorem gBad : Tryz.prog.globalNamed "loop.example/g00040/impl.errBad" = some 0 := by kernel_rfl
theorem gEntry : Tryz.prog.globalNamed "loop.example/g00040/impl.errEntry" = some 1 := by kernel_rfl
theorem gNone : Tryz.prog.globalNamed "loop.example/g00040/impl.errNone" = some 2 := by kernel_rfl
theorem gShut : Tryz.prog.globalNamed "loop.example/g00040/impl.errShut" = some 3 := by kernel_rfl
theorem gFull : Tryz.prog.globalNamed "loop.example/g00040/impl.errFull" = some 4 := by kernel_rfl
theorem gt0 : (Tryz.prog.globals[0]?).map (·.type) = some 91 := by kernel_rfl
theorem gt1 : (Tryz.prog.globals[1]?).map (·.type) = some 91 := by kernel_rfl
theorem gt2 : (Tryz.prog.globals[2]?).map (·.type) = some 91 := by kernel_rfl
theorem gt3 : (Tryz.prog.globals[3]?).map (·.type) = some 91 := by kernel_rfl
theorem gt4 : (Tryz.prog.globals[4]?).map (·.type) = some 91 := by kernel_rfl
theorem cells235 : Tryz.prog.cellsOf 235 = 1 := by kernel_rfl
theorem starE : "*" ++ "errors.errorString" = "*errors.errorString" := by decide
theorem row209 (u : TypeId) (h : Tryz.prog.typeName? 3 u = some "*errors.errorString") : u = 209 :=
 typeName_ptr_named (nm := "errors.errorString") (by rw [starE]; kernel_rfl) (by kernel_rfl) (by decide) u (by rw [starE]; exact h)
abbrev laidL : List (String × DataW Unit) := [("loop.example/g00040/impl.errBad", Rows.laid_loop_example_g00040_impl_errBad), ("loop.example/g00040/impl.errEntry", Rows.laid_loop_example_g00040_impl_errEntry), ("loop.example/g00040/impl.errNone", Rows.laid_loop_example_g00040_impl_errNone), ("loop.example/g00040/impl.errShut", Rows.laid_loop_example_g00040_impl_errShut), ("loop.example/g00040/impl.errFull", Rows.laid_loop_example_g00040_impl_errFull)]
set_option maxRecDepth 100000 in
/-- What the listed variables give the walk. -/
theorem errs_of_laid {W : World} (h : laidMet Tryz.prog laidL W) : ∃ er : Nat → Addr, Errs W er := by
 obtain ⟨ps, ⟨g0, t0, cs0, f0, p0, q0, hg0, ht0, hv0, hd0, ⟨g1, t1, cs1, f1, p1, q1, hg1, ht1, hv1, hd1, ⟨g2, t2, cs2, f2, p2, q2, hg2, ht2, hv2, hd2, ⟨g3, t3, cs3, f3, p3, q3, hg3, ht3, hv3, hd3, ⟨g4, t4, cs4, f4, p4, q4, hg4, ht4, hv4, hd4, hq4, e4⟩, e3⟩, e2⟩, e1⟩, e0⟩, hnd, hrows⟩ := h
 obtain rfl := Option.some.inj (gBad.symm.trans hg0)
 obtain rfl := Option.some.inj (gEntry.symm.trans hg1)
 obtain rfl := Option.some.inj (gNone.symm.trans hg2)
 obtain rfl := Option.some.inj (gShut.symm.trans hg3)
 obtain rfl := Option.some.inj (gFull.symm.trans hg4)
 obtain rfl := Option.some.inj (gt0.symm.trans ht0)
 obtain rfl := Option.some.inj (gt1.symm.trans ht1)
 obtain rfl := Option.some.inj (gt2.symm.trans ht2)
 obtain rfl := Option.some.inj (gt3.symm.trans ht3)
 obtain rfl := Option.some.inj (gt4.symm.trans ht4)
 have hq4' : q4 = [] := hq4
 subst hq4' e4 e3 e2 e1 e0
 obtain ⟨l0⟩ := cs0
 obtain ⟨l1⟩ := cs1
 obtain ⟨l2⟩ := cs2
 obtain ⟨l3⟩ := cs3
 obtain ⟨l4⟩ := cs4
 have ok0 : ∀ u v, l0 = [.iface u v] → Value.okWide Tryz.prog W .any 0 u v := fun u v e => by
  subst e
  exact (hrows 0 0 (by simp [MemPlace.row])).2 u v (by simpa using World.var?_cell hg0 hv0 0)
 have ok1 : ∀ u v, l1 = [.iface u v] → Value.okWide Tryz.prog W .any 0 u v := fun u v e => by
  subst e
  exact (hrows 1 0 (by simp [MemPlace.row])).2 u v (by simpa using World.var?_cell hg1 hv1 0)
 have ok2 : ∀ u v, l2 = [.iface u v] → Value.okWide Tryz.prog W .any 0 u v := fun u v e => by
  subst e
  exact (hrows 2 0 (by simp [MemPlace.row])).2 u v (by simpa using World.var?_cell hg2 hv2 0)
 have ok3 : ∀ u v, l3 = [.iface u v] → Value.okWide Tryz.prog W .any 0 u v := fun u v e => by
  subst e
  exact (hrows 3 0 (by simp [MemPlace.row])).2 u v (by simpa using World.var?_cell hg3 hv3 0)
 have ok4 : ∀ u v, l4 = [.iface u v] → Value.okWide Tryz.prog W .any 0 u v := fun u v e => by
  subst e
  exact (hrows 4 0 (by simp [MemPlace.row])).2 u v (by simpa using World.var?_cell hg4 hv4 0)
 obtain ⟨a0, s0, rfl, hc0, hs0, hz0, rfl⟩ := errorString_of_trod Tryz.underlying91 row209 Tryz.underlying209 Tryz.underlying235 rfl rfl Tryz.underlying9 cells235 cl9 hd0 ok0
 obtain ⟨a1, s1, rfl, hc1, hs1, hz1, rfl⟩ := errorString_of_trod Tryz.underlying91 row209 Tryz.underlying209 Tryz.underlying235 rfl rfl Tryz.underlying9 cells235 cl9 hd1 ok1
 obtain ⟨a2, s2, rfl, hc2, hs2, hz2, rfl⟩ := errorString_of_trod Tryz.underlying91 row209 Tryz.underlying209 Tryz.underlying235 rfl rfl Tryz.underlying9 cells235 cl9 hd2 ok2
 obtain ⟨a3, s3, rfl, hc3, hs3, hz3, rfl⟩ := errorString_of_trod Tryz.underlying91 row209 Tryz.underlying209 Tryz.underlying235 rfl rfl Tryz.underlying9 cells235 cl9 hd3 ok3
 obtain ⟨a4, s4, rfl, hc4, hs4, hz4, rfl⟩ := errorString_of_trod Tryz.underlying91 row209 Tryz.underlying209 Tryz.underlying235 rfl rfl Tryz.underlying9 cells235 cl9 hd4 ok4
 have b0 := (hrows a0.block a0.off (by simp [MemPlace.row])).1
 have b1 := (hrows a1.block a1.off (by simp [MemPlace.row])).1
 have b2 := (hrows a2.block a2.off (by simp [MemPlace.row])).1
 have b3 := (hrows a3.block a3.off (by simp [MemPlace.row])).1
 have b4 := (hrows a4.block a4.off (by simp [MemPlace.row])).1
 have v0 : W.cell? ⟨0, 0, none⟩ = some (.iface 209 (.pointer (some a0))) := by simpa using World.var?_cell hg0 hv0 0
 have v1 : W.cell? ⟨1, 0, none⟩ = some (.iface 209 (.pointer (some a1))) := by simpa using World.var?_cell hg1 hv1 0
 have v2 : W.cell? ⟨2, 0, none⟩ = some (.iface 209 (.pointer (some a2))) := by simpa using World.var?_cell hg2 hv2 0
 have v3 : W.cell? ⟨3, 0, none⟩ = some (.iface 209 (.pointer (some a3))) := by simpa using World.var?_cell hg3 hv3 0
 have v4 : W.cell? ⟨4, 0, none⟩ = some (.iface 209 (.pointer (some a4))) := by simpa using World.var?_cell hg4 hv4 0
 have n01 : a0 ≠ a1 := by rintro rfl; simp [MemPlace.row] at hnd
 have n02 : a0 ≠ a2 := by rintro rfl; simp [MemPlace.row] at hnd
 have n03 : a0 ≠ a3 := by rintro rfl; simp [MemPlace.row] at hnd
 have n04 : a0 ≠ a4 := by rintro rfl; simp [MemPlace.row] at hnd
 have n12 : a1 ≠ a2 := by rintro rfl; simp [MemPlace.row] at hnd
 have n13 : a1 ≠ a3 := by rintro rfl; simp [MemPlace.row] at hnd
 have n14 : a1 ≠ a4 := by rintro rfl; simp [MemPlace.row] at hnd
 have n23 : a2 ≠ a3 := by rintro rfl; simp [MemPlace.row] at hnd
 have n24 : a2 ≠ a4 := by rintro rfl; simp [MemPlace.row] at hnd
 have n34 : a3 ≠ a4 := by rintro rfl; simp [MemPlace.row] at hnd
 refine ⟨fun i => match i with | 0 => a0 | 1 => a1 | 2 => a2 | 3 => a3 | _ => a4, ⟨fun i hi => ?_, fun i hi => ?_, fun i j hi hj hne => ?_⟩⟩
 ·match i, hi with
  | 0, _ => exact v0
  | 1, _ => exact v1
  | 2, _ => exact v2
  | 3, _ => exact v3
  | 4, _ => exact v4
 ·match i, hi with
  | 0, _ => exact b0
  | 1, _ => exact b1
  | 2, _ => exact b2
  | 3, _ => exact b3
  | 4, _ => exact b4
 ·match i, hi, j, hj, hne with
  | 0, _, 1, _, _ => exact n01
  | 0, _, 2, _, _ => exact n02
  | 0, _, 3, _, _ => exact n03
  | 0, _, 4, _, _ => exact n04
  | 1, _, 2, _, _ => exact n12
  | 1, _, 3, _, _ => exact n13
  | 1, _, 4, _, _ => exact n14
  | 2, _, 3, _, _ => exact n23
  | 2, _, 4, _, _ => exact n24
  | 3, _, 4, _, _ => exact n34
  | 1, _, 0, _, _ => exact n01.symm
  | 2, _, 0, _, _ => exact n02.symm
  | 3, _, 0, _, _ => exact n03.symm
  | 4, _, 0, _, _ => exact n04.symm
  | 2, _, 1, _, _ => exact n12.symm
  | 3, _, 1, _, _ => exact n13.symm
  | 4, _, 1, _, _ => exact n14.symm
  | 3, _, 2, _, _ => exact n23.symm
  | 4, _, 2, _, _ => exact n24.symm
  | 4, _, 3, _, _ => exact n34.symm
  | 0, _, 0, _, h => exact absurd rfl h
  | 1, _, 1, _, h => exact absurd rfl h
  | 2, _, 2, _, h => exact absurd rfl h
  | 3, _, 3, _, h => exact absurd rfl h
  | 4, _, 4, _, h => exact absurd rfl h
/-- THE ROW: a world that meets the condition. -/
abbrev txt0 : ByteArray := { data := #[98, 111, 111, 107, 115, 32, 116, 104, 97, 116, 32, 97, 114, 101, 32, 110, 111, 110, 101] }
abbrev txt1 : ByteArray := { data := #[97, 110, 32, 101, 110, 116, 114, 121, 32, 116, 104, 97, 116, 32, 105, 115, 32, 110, 111, 110, 101] }
abbrev txt2 : ByteArray := { data := #[110, 111, 32, 115, 117, 99, 104, 32, 112, 101, 114, 105, 111, 100] }
abbrev txt3 : ByteArray := { data := #[97, 32, 112, 101, 114, 105, 111, 100, 32, 116, 104, 97, 116, 32, 105, 115, 32, 99, 108, 111, 115, 101, 100] }
abbrev txt4 : ByteArray := { data := #[98, 111, 111, 107, 115, 32, 116, 104, 97, 116, 32, 97, 114, 101, 32, 102, 117, 108, 108] }
noncomputable def low : Nat := (World.holding Tryz.prog default ⟨#[], #[], []⟩).heap.size
noncomputable def laidWorld (os : Os) : World :=
 let w0 := World.holding Tryz.prog os ⟨#[.cells #[.string txt0] 235, .cells #[.string txt1] 235, .cells #[.string txt2] 235, .cells #[.string txt3] 235, .cells #[.string txt4] 235], #[], []⟩
 { w0 with heap := (((((w0.heap.modify 0 fun
   | .cells _ t frozen => .cells #[.iface 209 (.pointer (some ⟨low, 0, none⟩))] t frozen
   | o => o).modify 1 fun
   | .cells _ t frozen => .cells #[.iface 209 (.pointer (some ⟨low + 1, 0, none⟩))] t frozen
   | o => o).modify 2 fun
   | .cells _ t frozen => .cells #[.iface 209 (.pointer (some ⟨low + 2, 0, none⟩))] t frozen
   | o => o).modify 3 fun
   | .cells _ t frozen => .cells #[.iface 209 (.pointer (some ⟨low + 3, 0, none⟩))] t frozen
   | o => o).modify 4 fun
   | .cells _ t frozen => .cells #[.iface 209 (.pointer (some ⟨low + 4, 0, none⟩))] t frozen
   | o => o) }
theorem laidWorld_met (os : Os) (args : Array Value) : laidMet Tryz.prog laidL ((laidWorld os).forCall (fun _ _ => 0) ⟨#[], args, []⟩).memory :=
 laidMet_of_run (ps := [.cell 0 0, .cell low 0, .cell 1 0, .cell (low + 1) 0, .cell 2 0, .cell (low + 2) 0, .cell 3 0, .cell (low + 3) 0, .cell 4 0, .cell (low + 4) 0]) 8 (by kernel_rfl) (by kernel_rfl) (by kernel_rfl)
theorem trodVars_len {H : Type} {enc : TypeId × Value → H} {W : World} {sp : Nat → Bool} : ∀ {ns : List String} {gs : List (DataW H)} {ps : List MemPlace}, DataW.TrodVars enc Tryz.prog W sp ns gs ps → gs.length = ns.length
 | [], [], _, _ => rfl
 | [], _ :: _, _, h => h.elim
 | _ :: _, [], _, h => h.elim
 | _ :: _, _ :: _, _, h => by
  obtain ⟨_, _, _, _, _, _, _, _, _, _, hs, _⟩ := h
  simp [trodVars_len hs]
abbrev zB : Value := .agg #[.slice none 0 0, .int .i64 0, .int .i64 0, .slice none 0 0, .int .i64 0, .slice none 0 0, .int .i64 0, .int .i64 0]
abbrev zE : Value := .agg #[.int .i64 0, .int .i64 0, .string ByteArray.empty, .slice none 0 0]
set_option maxRecDepth 100000 in
theorem lifted (os : Os) (started : os.Started) (H : Type) (enc : TypeId × Value → H) :
  ReturnsInHanded {} Tryz.checked os 4 .any (fun w args => (Rows.fnExactRecordSpec.pre enc Tryz.prog Tryz.f4 [] false w args ∧ laidMetH Tryz.prog laidL w) ∧ sizedMet enc Tryz.prog Tryz.f4 (OpenSpec.ofChange Rows.fnExactRecordSpec) false w args)
   (Rows.fnExactRecordSpec.post enc Tryz.prog Tryz.f4 false true false false) := by
 refine returnsInHanded_of_change_and (C := Tryz.checked) (X := fun w _ => laidMetH Tryz.prog laidL w) (fun _ _ _ hh h => h.of_heap hh) ownK started (by kernel_rfl) Tryz.func4
  (ChangeSpec.witness_at (enc := enc) (C := Tryz.checked) (os := os) (X := fun w _ => laidMetH Tryz.prog laidL w) false (laidWorld os) #[zB, zE] 8 rfl (by kernel_rfl) (by kernel_rfl) (by kernel_rfl) (by kernel_rfl) (by kernel_rfl) (laidWorld_met os _)) ?_
 intro W base args ds gs before hval0 hW _ hsz hL _
 clear hval0
 have hW' := hW
 obtain ⟨p, q, hA0, hV0, rfl, hfz, hnd⟩ := hW
 have hA : DataW.TrodAll enc Tryz.prog W 0 (fun _ => true) true Tryz.f4.params.toList args.toList ds p := hA0
 have hV : DataW.TrodVars enc Tryz.prog W (fun _ => true) Rows.fnExactRecordSpec.vars gs q := hV0
 clear hA0 hV0
 rw [Tryz.params4] at hA hsz
 obtain ⟨v0, v1, d0, d1, p0, p1, rfl, rfl, rfl, h0, h1⟩ := trodAll_two hA
 have k0 := h0
 have k1 := h1
 have lt0 : ∀ x ∈ p0, x.block < W.heap.size := by obtain ⟨m, hm⟩ := k0; exact DataW.trod_lt m _ _ _ hm
 have lt1 : ∀ x ∈ p1, x.block < W.heap.size := by obtain ⟨m, hm⟩ := k1; exact DataW.trod_lt m _ _ _ hm
 have w0 : Small d0 61 := fun n hn => of_decide_eq_true (List.all_eq_true.1 hsz n (DataW.weights_mem_each (j := 0) (t := 61) rfl rfl n hn))
 have w1 : Small d1 64 := fun n hn => of_decide_eq_true (List.all_eq_true.1 hsz n (DataW.weights_mem_each (j := 1) (t := 64) rfl rfl n hn))
 obtain ⟨m0, h0⟩ := h0
 obtain ⟨m1, h1⟩ := h1
 obtain ⟨a, b, ea, hr, hs⟩ := opnB h0 w0
 obtain ⟨y, hk, hy1, hy2⟩ := opn41 m1 _ _ _ h1 w1
 obtain ⟨AL, cL, el, _, hl⟩ := k41_open hk
 have e1 : v1 = .agg #[.int .i64 y.f0, .int .i64 y.f1, .string y.f2, .slice AL y.f3.length cL] := agg_of_cells el (by simp)
 have e0 : v0 = valB a b := by
  cases v0 <;> first | (simp [Value.cells] at ea; done) | (simpa [Value.cells] using ea)
 obtain ⟨er, hE⟩ := errs_of_laid hL
 have hgl := trodVars_len hV
 obtain ⟨g1, g2, g3, g4, g5, rfl⟩ := list_len5 hgl
 subst e0 e1
 refine (law4_calls er a b y AL cL hs hy1 hy2 W hE hr hl).mono fun e W' ⟨he, bel⟩ => ?_
 subst he
 exact ⟨_, rfl, _, _, _, [], _, _, hW', trodAll_mk1 (shut_bool Tryz.underlying4 true), trodAll_mk2 (Below.trod laidOutP (by kernel_rfl) (of_decide_eq_true (by kernel_rfl)) k0 bel lt0) (Below.trod laidOutP (by kernel_rfl) (of_decide_eq_true (by kernel_rfl)) k1 bel lt1),
  Below.trodVars laidOutP bel (by kernel_rfl) hV, bel.frame _, fun h => by cases h⟩
theorem f_holds : Rows.FnExactRecordSaid :=
 OpenClaim.holds_of_wide 4 Tryz.f4 rfl rfl rfl rfl rfl rfl rfl ⟨rfl, rfl, rfl, rfl, rfl⟩ rfl rfl rfl rfl rfl (by kernel_rfl) Tryz.func4 (by kernel_rfl)
  (of_decide_eq_true (by kernel_rfl)) (by unfold Func.isWrapper; first | (rw [if_pos (by decide +kernel)]; kernel_rfl) | (rw [if_neg (by decide +kernel)]; exact ⟨rfl, rfl⟩))
  (fun os started H enc _ => lifted os started H enc)
#print axioms f_holds
end Go.Proofs.YtheaeffhhbjpmaaGreatDoor
namespace Go.Proofs.YtheaeffhhbjpmaaGreatDoor
theorem fnExactRecord_card_holds : Rows.FnExactRecordCardSaid :=
 Claim7.holds_tied_plain_at .later [] [.sentinel, .sentinel, .sentinel, .sentinel, .sentinel] true (true, "c722cbda02e403f4850410b9aa54fed5e771a3f54d0af8f059b219e727dcc9e8") true
  f_holds (fun _ h => by cases h) (by kernel_rfl) (fun _ h => by cases h) fnExactRecord_row_tie rfl ⟨rfl, rfl⟩ (by kernel_rfl) rfl
  (fun f fn hf hfn => by
   obtain rfl : f = 4 := Option.some.inj ((show Tryz.prog.funcNamed "loop.example/g00040/laws.FnExactRecord" = some 4 by kernel_rfl).symm.trans hf) |>.symm
   obtain rfl : fn = Tryz.f4 := (Option.some.inj (Tryz.func4.symm.trans hfn)).symm
   exact ⟨by kernel_rfl, fun j t ht => by
    rw [Tryz.params4] at ht
    rcases j with _ | _ | j
    ·obtain rfl : 61 = t := by simpa using ht
     exact (show Tryz.prog.wantsStandIn 61 = false by kernel_rfl)
    ·obtain rfl : 64 = t := by simpa using ht
     exact (show Tryz.prog.wantsStandIn 64 = false by kernel_rfl)
    ·simp at ht⟩)
  (by kernel_rfl)
#print axioms fnExactRecord_card_holds
end Go.Proofs.YtheaeffhhbjpmaaGreatDoor

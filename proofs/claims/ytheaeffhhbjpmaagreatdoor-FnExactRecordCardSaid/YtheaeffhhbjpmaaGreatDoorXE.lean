/- errors.Is, for an error of the program that wraps a sentinel, and the code that the program makes of it. The text of errors.Is is walked as the kit's own command lays it. Of the program: the code of an error. -/
import Derived.Test.YtheaeffhhbjpmaaGreatDoorXIm8
import Derived.LaidEql
import Derived.Stop.Asserts
import Derived.RowKitTokens
namespace Go.Proofs.YtheaeffhhbjpmaaGreatDoor
open Go.RowKit Go.Proofs.YtheaeffhhbjpmaaGreatDoorW.PrintWords Go.Proofs.YtheaeffhhbjpmaaGreatDoorW.PrintLast Go.Extern.Stop Go.Stop Go.Extern
set_option linter.unusedVariables false
set_option linter.unusedSimpArgs false
theorem erTypeOf (v : Value) (w : World) : (Extern.ReflectliteType.typeOf #[.iface 209 v]).run Tryz.prog w = .ok (.iface 196 (.agg #[.pointer (some ⟨5, 209, none⟩)])) w := by kernel_rfl
theorem erComparable (w : World) : (callFunc 166 #[.agg #[.pointer (some ⟨5, 209, none⟩)]]).run Tryz.prog w = .ok (.value (.bool true)) w := by
 rw [@run_callFunc_extern Tryz.prog 166 _ (Extern.ReflectliteType.method fun t => do Extern.Rtype.noPackHeld "Comparable" t; pure (.bool (← typeInfo t).comparable)) Tryz.func166 (by kernel_rfl) (by kernel_rfl) (by kernel_rfl) (by kernel_rfl)]
 kernel_rfl
theorem erMethodComparable (v : Value) (w : World) : (Go.method 347 196 v "Comparable").run Tryz.prog w = .ok (166, v) w := by kernel_rfl
theorem erComp : (Tryz.prog.info? 209).map (·.comparable) = some true := by kernel_rfl
theorem erSize : (Tryz.prog.info? 235).map (·.size) = some 1 := by kernel_rfl
theorem noIsE (v : Value) (xT : TypeId) (w : World) : (Instr.typeAssert (.iface 209 v) xT 198 true).run Tryz.prog w = .ok (.tuple #[.nilIface, .bool false]) w := run_typeAssert_lacksB Tryz.underlying198 (by kernel_rfl) (by kernel_rfl) v xT w
theorem noUnwrapE (v : Value) (xT : TypeId) (w : World) : (Instr.typeAssert (.iface 209 v) xT 201 true).run Tryz.prog w = .ok (.tuple #[.nilIface, .bool false]) w := run_typeAssert_lacksB Tryz.underlying201 (by kernel_rfl) (by kernel_rfl) v xT w
theorem noUnwrapsE (v : Value) (xT : TypeId) (w : World) : (Instr.typeAssert (.iface 209 v) xT 203 true).run Tryz.prog w = .ok (.tuple #[.nilIface, .bool false]) w := run_typeAssert_lacksB Tryz.underlying203 (by kernel_rfl) (by kernel_rfl) v xT w
theorem noIsW (v : Value) (xT : TypeId) (w : World) : (Instr.typeAssert (.iface 149 v) xT 198 true).run Tryz.prog w = .ok (.tuple #[.nilIface, .bool false]) w := run_typeAssert_lacksB Tryz.underlying198 (by kernel_rfl) (by kernel_rfl) v xT w
theorem hasUnwrapW (v : Value) (xT : TypeId) (w : World) : (Instr.typeAssert (.iface 149 v) xT 201 true).run Tryz.prog w = .ok (.tuple #[.iface 149 v, .bool true]) w := run_typeAssert_hasB Tryz.underlying201 (by kernel_rfl) v xT w
theorem erMethodUnwrap (v : Value) (w : World) : (Go.method 347 149 v "Unwrap").run Tryz.prog w = .ok (162, v) w := by kernel_rfl
theorem is_nil (b : Addr) (w : World) :
  Calls Tryz.prog 102 #[.nilIface, .iface 209 (.pointer (some b))] w fun e w' => e = .returned (.bool false) ∧ w' = w := by
 have hn := run_eql_iface_nil_left (P := Tryz.prog) w 209 (.pointer (some b)) Tryz.underlying91
 go_enter Tryz.func102, Tryz.ntmps102
 go_wp2
 go_ret
 exact ⟨rfl, rfl⟩
set_option maxRecDepth 100000 in
theorem is_wrap_same (pb po : Nat) (b : Addr) (w : World) (h1 : w.cell? ⟨pb, po + 1, none⟩ = some (.iface 209 (.pointer (some b)))) :
  Calls Tryz.prog 102 #[.iface 149 (.pointer (some ⟨pb, po, none⟩)), .iface 209 (.pointer (some b))] w fun e w' => e = .returned (.bool true) ∧ w' = w := by
 obtain ⟨i, hi, hcmp⟩ := Option.map_eq_some_iff.1 erComp
 obtain ⟨j, hj, hjs⟩ := Option.map_eq_some_iff.1 erSize
 have h8 := @run_callFunc_extern Tryz.prog 127 _ Extern.ReflectliteType.typeOf Tryz.func127 (by kernel_rfl) (by kernel_rfl) (by kernel_rfl) (by kernel_rfl)
 have tT := erTypeOf
 have cT := erComparable
 have mR := erMethodComparable
 have nE := noIsE
 have uE := noUnwrapE
 have vE := noUnwrapsE
 have nW := noIsW
 have uW := hasUnwrapW
 have mU := erMethodUnwrap
 have heq := run_eql_iface_ptr_same (P := Tryz.prog) w b Tryz.underlying91 Tryz.underlying209 hi hcmp hj
 have hty := run_eql_iface_types (P := Tryz.prog) 149 209 (.pointer (some ⟨pb, po, none⟩)) (.pointer (some b)) Tryz.underlying91 (by decide) w
 go_enter Tryz.func102, Tryz.ntmps102
 go_wp2
 refine wp_loop_rounds 2 ?_
 rw [rounds_succ]
 go_wp2
 rw [rounds_succ]
 go_wp2
 go_ret
 exact ⟨rfl, rfl⟩
set_option maxRecDepth 100000 in
theorem is_wrap_other (pb po : Nat) (b a : Addr) (ca cb : Array Value) (ta tb : TypeId) (w : World) (h1 : w.cell? ⟨pb, po + 1, none⟩ = some (.iface 209 (.pointer (some a)))) (hne : a ≠ b) (ha : w.heap[a.block]? = some (.cells ca ta (0, 0))) (hb : w.heap[b.block]? = some (.cells cb tb (0, 0))) :
  Calls Tryz.prog 102 #[.iface 149 (.pointer (some ⟨pb, po, none⟩)), .iface 209 (.pointer (some b))] w fun e w' => e = .returned (.bool false) ∧ w' = w := by
 obtain ⟨i, hi, hcmp⟩ := Option.map_eq_some_iff.1 erComp
 obtain ⟨j, hj, hjs⟩ := Option.map_eq_some_iff.1 erSize
 have h8 := @run_callFunc_extern Tryz.prog 127 _ Extern.ReflectliteType.typeOf Tryz.func127 (by kernel_rfl) (by kernel_rfl) (by kernel_rfl) (by kernel_rfl)
 have tT := erTypeOf
 have cT := erComparable
 have mR := erMethodComparable
 have nE := noIsE
 have uE := noUnwrapE
 have vE := noUnwrapsE
 have nW := noIsW
 have uW := hasUnwrapW
 have mU := erMethodUnwrap
 have heq := run_eql_iface_ptr_other (P := Tryz.prog) w Tryz.underlying91 Tryz.underlying209 hi hcmp hj (by rw [hjs]; decide) hne ha hb
 have hty := run_eql_iface_types (P := Tryz.prog) 149 209 (.pointer (some ⟨pb, po, none⟩)) (.pointer (some b)) Tryz.underlying91 (by decide) w
 go_enter Tryz.func102, Tryz.ntmps102
 go_wp2
 refine wp_loop_rounds 2 ?_
 rw [rounds_succ]
 go_wp2
 rw [rounds_succ]
 go_wp2
 go_ret
 exact ⟨rfl, rfl⟩
end Go.Proofs.YtheaeffhhbjpmaaGreatDoor
namespace Go.Proofs.YtheaeffhhbjpmaaGreatDoor
open Go.RowKit Go.Proofs.YtheaeffhhbjpmaaGreatDoorW.PrintWords Go.Proofs.YtheaeffhhbjpmaaGreatDoorW.PrintLast
set_option linter.unusedVariables false
set_option linter.unusedSimpArgs false
/-- The five sentinels of the program's books, where the package's variables hold them. -/
structure Errs (w : World) (a : Nat → Addr) : Prop where
 g : ∀ i, i < 5 → w.cell? ⟨i, 0, none⟩ = some (.iface 209 (.pointer (some (a i))))
 b : ∀ i, i < 5 → ∃ c t, w.heap[(a i).block]? = some (.cells c t (0, 0))
 ne : ∀ i j, i < 5 → j < 5 → i ≠ j → a i ≠ a j
theorem Errs.below {w w1 : World} {a : Nat → Addr} (h : Errs w a) (hb : Below w.heap.size w w1) : Errs w1 a :=
 ⟨fun i hi => pw_cell_below hb (h.g i hi), fun i hi => by obtain ⟨c, t, k⟩ := h.b i hi; exact ⟨c, t, blk_below k hb⟩, h.ne⟩
set_option maxRecDepth 100000 in
theorem codeOf_nil (a : Nat → Addr) (w : World) (E : Errs w a) : Calls Tryz.prog 46 #[.nilIface] w fun e w' => e = .returned (.int .i64 0) ∧ w' = w := by
 have g0 := E.g 0 (by decide)
 have g1 := E.g 1 (by decide)
 have g2 := E.g 2 (by decide)
 have g3 := E.g 3 (by decide)
 have g4 := E.g 4 (by decide)
 replace E := Aside0.mk E
 go_enter Tryz.func46, Tryz.ntmps46
 go_wp2_with (first | (go_at_call 102; (with_reducible refine (is_nil (a 0) _).mono ?_); rintro e w' ⟨rfl, rfl⟩) | (go_at_call 102; (with_reducible refine (is_nil (a 1) _).mono ?_); rintro e w' ⟨rfl, rfl⟩) | (go_at_call 102; (with_reducible refine (is_nil (a 2) _).mono ?_); rintro e w' ⟨rfl, rfl⟩) | (go_at_call 102; (with_reducible refine (is_nil (a 3) _).mono ?_); rintro e w' ⟨rfl, rfl⟩) | (go_at_call 102; (with_reducible refine (is_nil (a 4) _).mono ?_); rintro e w' ⟨rfl, rfl⟩))
 go_ret
 exact ⟨rfl, rfl⟩
set_option maxRecDepth 100000 in
theorem codeOf_0 (a : Nat → Addr) (pb : Nat) (w : World) (E : Errs w a) (h1 : w.cell? ⟨pb, 1, none⟩ = some (.iface 209 (.pointer (some (a 0))))) : Calls Tryz.prog 46 #[.iface 149 (.pointer (some ⟨pb, 0, none⟩))] w fun e w' => e = .returned (.int .i64 1) ∧ w' = w := by
 have g0 := E.g 0 (by decide)
 obtain ⟨c0, t0, b0⟩ := E.b 0 (by decide)
 replace b0 := Aside0.mk b0
 replace E := Aside0.mk E
 replace h1 := Aside0.mk h1
 go_enter Tryz.func46, Tryz.ntmps46
 go_wp2_with (first | (go_at_call 102; (with_reducible refine (is_wrap_same pb 0 (a 0) _ h1.out).mono ?_); rintro e w' ⟨rfl, rfl⟩))
 go_ret
 exact ⟨rfl, rfl⟩
set_option maxRecDepth 100000 in
theorem codeOf_1 (a : Nat → Addr) (pb : Nat) (w : World) (E : Errs w a) (h1 : w.cell? ⟨pb, 1, none⟩ = some (.iface 209 (.pointer (some (a 1))))) : Calls Tryz.prog 46 #[.iface 149 (.pointer (some ⟨pb, 0, none⟩))] w fun e w' => e = .returned (.int .i64 2) ∧ w' = w := by
 have g0 := E.g 0 (by decide)
 obtain ⟨c0, t0, b0⟩ := E.b 0 (by decide)
 replace b0 := Aside0.mk b0
 have g1 := E.g 1 (by decide)
 obtain ⟨c1, t1, b1⟩ := E.b 1 (by decide)
 replace b1 := Aside0.mk b1
 replace E := Aside0.mk E
 replace h1 := Aside0.mk h1
 go_enter Tryz.func46, Tryz.ntmps46
 go_wp2_with (first | (go_at_call 102; (with_reducible refine (is_wrap_same pb 0 (a 1) _ h1.out).mono ?_); rintro e w' ⟨rfl, rfl⟩) | (go_at_call 102; (with_reducible refine (is_wrap_other pb 0 (a 0) (a 1) c1 c0 t1 t0 _ h1.out (E.out.ne 1 0 (by decide) (by decide) (by decide)) b1.out b0.out).mono ?_); rintro e w' ⟨rfl, rfl⟩))
 go_ret
 exact ⟨rfl, rfl⟩
set_option maxRecDepth 100000 in
theorem codeOf_2 (a : Nat → Addr) (pb : Nat) (w : World) (E : Errs w a) (h1 : w.cell? ⟨pb, 1, none⟩ = some (.iface 209 (.pointer (some (a 2))))) : Calls Tryz.prog 46 #[.iface 149 (.pointer (some ⟨pb, 0, none⟩))] w fun e w' => e = .returned (.int .i64 3) ∧ w' = w := by
 have g0 := E.g 0 (by decide)
 obtain ⟨c0, t0, b0⟩ := E.b 0 (by decide)
 replace b0 := Aside0.mk b0
 have g1 := E.g 1 (by decide)
 obtain ⟨c1, t1, b1⟩ := E.b 1 (by decide)
 replace b1 := Aside0.mk b1
 have g2 := E.g 2 (by decide)
 obtain ⟨c2, t2, b2⟩ := E.b 2 (by decide)
 replace b2 := Aside0.mk b2
 replace E := Aside0.mk E
 replace h1 := Aside0.mk h1
 go_enter Tryz.func46, Tryz.ntmps46
 go_wp2_with (first | (go_at_call 102; (with_reducible refine (is_wrap_same pb 0 (a 2) _ h1.out).mono ?_); rintro e w' ⟨rfl, rfl⟩) | (go_at_call 102; (with_reducible refine (is_wrap_other pb 0 (a 0) (a 2) c2 c0 t2 t0 _ h1.out (E.out.ne 2 0 (by decide) (by decide) (by decide)) b2.out b0.out).mono ?_); rintro e w' ⟨rfl, rfl⟩) | (go_at_call 102; (with_reducible refine (is_wrap_other pb 0 (a 1) (a 2) c2 c1 t2 t1 _ h1.out (E.out.ne 2 1 (by decide) (by decide) (by decide)) b2.out b1.out).mono ?_); rintro e w' ⟨rfl, rfl⟩))
 go_ret
 exact ⟨rfl, rfl⟩
set_option maxRecDepth 100000 in
theorem codeOf_3 (a : Nat → Addr) (pb : Nat) (w : World) (E : Errs w a) (h1 : w.cell? ⟨pb, 1, none⟩ = some (.iface 209 (.pointer (some (a 3))))) : Calls Tryz.prog 46 #[.iface 149 (.pointer (some ⟨pb, 0, none⟩))] w fun e w' => e = .returned (.int .i64 4) ∧ w' = w := by
 have g0 := E.g 0 (by decide)
 obtain ⟨c0, t0, b0⟩ := E.b 0 (by decide)
 replace b0 := Aside0.mk b0
 have g1 := E.g 1 (by decide)
 obtain ⟨c1, t1, b1⟩ := E.b 1 (by decide)
 replace b1 := Aside0.mk b1
 have g2 := E.g 2 (by decide)
 obtain ⟨c2, t2, b2⟩ := E.b 2 (by decide)
 replace b2 := Aside0.mk b2
 have g3 := E.g 3 (by decide)
 obtain ⟨c3, t3, b3⟩ := E.b 3 (by decide)
 replace b3 := Aside0.mk b3
 replace E := Aside0.mk E
 replace h1 := Aside0.mk h1
 go_enter Tryz.func46, Tryz.ntmps46
 go_wp2_with (first | (go_at_call 102; (with_reducible refine (is_wrap_same pb 0 (a 3) _ h1.out).mono ?_); rintro e w' ⟨rfl, rfl⟩) | (go_at_call 102; (with_reducible refine (is_wrap_other pb 0 (a 0) (a 3) c3 c0 t3 t0 _ h1.out (E.out.ne 3 0 (by decide) (by decide) (by decide)) b3.out b0.out).mono ?_); rintro e w' ⟨rfl, rfl⟩) | (go_at_call 102; (with_reducible refine (is_wrap_other pb 0 (a 1) (a 3) c3 c1 t3 t1 _ h1.out (E.out.ne 3 1 (by decide) (by decide) (by decide)) b3.out b1.out).mono ?_); rintro e w' ⟨rfl, rfl⟩) | (go_at_call 102; (with_reducible refine (is_wrap_other pb 0 (a 2) (a 3) c3 c2 t3 t2 _ h1.out (E.out.ne 3 2 (by decide) (by decide) (by decide)) b3.out b2.out).mono ?_); rintro e w' ⟨rfl, rfl⟩))
 go_ret
 exact ⟨rfl, rfl⟩
set_option maxRecDepth 100000 in
theorem codeOf_4 (a : Nat → Addr) (pb : Nat) (w : World) (E : Errs w a) (h1 : w.cell? ⟨pb, 1, none⟩ = some (.iface 209 (.pointer (some (a 4))))) : Calls Tryz.prog 46 #[.iface 149 (.pointer (some ⟨pb, 0, none⟩))] w fun e w' => e = .returned (.int .i64 5) ∧ w' = w := by
 have g0 := E.g 0 (by decide)
 obtain ⟨c0, t0, b0⟩ := E.b 0 (by decide)
 replace b0 := Aside0.mk b0
 have g1 := E.g 1 (by decide)
 obtain ⟨c1, t1, b1⟩ := E.b 1 (by decide)
 replace b1 := Aside0.mk b1
 have g2 := E.g 2 (by decide)
 obtain ⟨c2, t2, b2⟩ := E.b 2 (by decide)
 replace b2 := Aside0.mk b2
 have g3 := E.g 3 (by decide)
 obtain ⟨c3, t3, b3⟩ := E.b 3 (by decide)
 replace b3 := Aside0.mk b3
 have g4 := E.g 4 (by decide)
 obtain ⟨c4, t4, b4⟩ := E.b 4 (by decide)
 replace b4 := Aside0.mk b4
 replace E := Aside0.mk E
 replace h1 := Aside0.mk h1
 go_enter Tryz.func46, Tryz.ntmps46
 go_wp2_with (first | (go_at_call 102; (with_reducible refine (is_wrap_same pb 0 (a 4) _ h1.out).mono ?_); rintro e w' ⟨rfl, rfl⟩) | (go_at_call 102; (with_reducible refine (is_wrap_other pb 0 (a 0) (a 4) c4 c0 t4 t0 _ h1.out (E.out.ne 4 0 (by decide) (by decide) (by decide)) b4.out b0.out).mono ?_); rintro e w' ⟨rfl, rfl⟩) | (go_at_call 102; (with_reducible refine (is_wrap_other pb 0 (a 1) (a 4) c4 c1 t4 t1 _ h1.out (E.out.ne 4 1 (by decide) (by decide) (by decide)) b4.out b1.out).mono ?_); rintro e w' ⟨rfl, rfl⟩) | (go_at_call 102; (with_reducible refine (is_wrap_other pb 0 (a 2) (a 4) c4 c2 t4 t2 _ h1.out (E.out.ne 4 2 (by decide) (by decide) (by decide)) b4.out b2.out).mono ?_); rintro e w' ⟨rfl, rfl⟩) | (go_at_call 102; (with_reducible refine (is_wrap_other pb 0 (a 3) (a 4) c4 c3 t4 t3 _ h1.out (E.out.ne 4 3 (by decide) (by decide) (by decide)) b4.out b3.out).mono ?_); rintro e w' ⟨rfl, rfl⟩))
 go_ret
 exact ⟨rfl, rfl⟩
theorem codeOf_calls (a : Nat → Addr) (pb : Nat) (w : World) (E : Errs w a) (k : Nat) (hk : k < 5) (h1 : w.cell? ⟨pb, 1, none⟩ = some (.iface 209 (.pointer (some (a k))))) : Calls Tryz.prog 46 #[.iface 149 (.pointer (some ⟨pb, 0, none⟩))] w fun e w' => e = .returned (.int .i64 ((k : Int) + 1)) ∧ w' = w := by
 match k, hk with
 | 0, _ => exact codeOf_0 a pb w E h1
 | 1, _ => exact codeOf_1 a pb w E h1
 | 2, _ => exact codeOf_2 a pb w E h1
 | 3, _ => exact codeOf_3 a pb w E h1
 | 4, _ => exact codeOf_4 a pb w E h1
end Go.Proofs.YtheaeffhhbjpmaaGreatDoor

/- The exact laws' markText returns a text that follows from its number, and turns nothing that was there. The exact laws' mark.. functions write numbers into a list's elements in place, and leave all else; held.. finds just these. The exact laws' held.. functions find in a marked list what was marked, and turn nothing that was there. The exact laws' mark.. functions for entries, ledgers, frames and books write numbers in place and leave all else; held.. finds just these. The exact laws' held.. functions for entries, ledgers, frames and books find what was marked; mark.. for frames, ledgers, books and one entry. The exact laws' mark.. functions for frames, ledgers, books and one entry write numbers in place and leave all else. -/
import Derived.Test.YtheaeffhhbjpmaaGreatDoorXTo
namespace Go.Proofs.YtheaeffhhbjpmaaGreatDoor
open Go.RowKit Go.Proofs.YtheaeffhhbjpmaaGreatDoorW.PrintWords Go.Proofs.YtheaeffhhbjpmaaGreatDoorW.PrintLast
set_option linter.unusedVariables false
set_option linter.unusedSimpArgs false
def mtGo : Nat → Int → ByteArray → ByteArray
 | 0, _, out => out
 | n + 1, k, out => if 0 < k then mtGo n (k / 10) (strOfNums [48 + k % 10] ++ out) else out
def mt (k : Int) : ByteArray := if k ≤ 0 then ⟨#[109, 48]⟩ else (⟨#[109]⟩ : ByteArray) ++ mtGo k.toNat k ⟨#[]⟩
set_option maxRecDepth 100000 in
theorem markText_calls (k : Int) (hk : k ≤ 1000000000) (w : World) : Calls Tryz.prog 133 #[.int .i64 k] w fun e w' => e = .returned (.string (mt k)) ∧ Below w.heap.size w w' := by
 by_cases h0 : k ≤ 0
 ·have HF := Aside0.mk (show mt k = ⟨#[109, 48]⟩ by unfold mt; rw [if_pos h0])
  go_enter Tryz.func133, Tryz.ntmps133
  go_wp2
  go_ret
  exact ⟨by rw [HF.out]; rfl, Below.refl _ _⟩
 ·have HF := Aside0.mk (show mt k = (⟨#[109]⟩ : ByteArray) ++ mtGo k.toNat k ⟨#[]⟩ by unfold mt; rw [if_neg h0])
  go_enter Tryz.func133, Tryz.ntmps133
  go_wp2
  go_loopg [0, 3] (k.toNat) (fun kq v0 v3 w' => ∃ (x : Int) (s : ByteArray), v0 = .int .i64 x ∧ v3 = .string s ∧ 0 ≤ x ∧ x ≤ 1000000000 ∧ Aside0 (x ≤ kq) ∧ Aside0 (s.size + kq = k.toNat) ∧ Aside0 (mtGo kq x s = mtGo k.toNat k ⟨#[]⟩) ∧ Aside0 (Below w.heap.size w w'))
  case atStart => exact ⟨k, _, rfl, rfl, by omega, by omega, ⟨by omega⟩, ⟨by show 0 + _ = _; omega⟩, ⟨rfl⟩, ⟨Below.refl _ _⟩⟩
  case round =>
   clear h0
   obtain ⟨x, s, rfl, rfl, hx0, hx1, HK, HZ, HE, HB⟩ := hrel
   by_cases hlt : 0 < x
   ·have hd0 := Int.emod_nonneg x (show (10 : Int) ≠ 0 by decide)
    have hd1 := Int.emod_lt_of_pos x (show (0 : Int) < 10 by decide)
    have hS := strOfNums_size [48 + x % 10]
    have HS := Aside0.mk hS
    clear hS
    have hz : ((strOfNums [48 + x % 10]).size : Int) + s.size ≤ 2000000000 := by have h1 := HZ.out; have h2 := HK.out; rw [HS.out]; simp; omega
    cases gk with
    | zero => have := HK.out; omega
    | succ gk =>
    go_wp2_with ((with_reducible refine gate_dst (N := 12) rfl ?_); (refine Kd.R_lit (Kd.int .u8) _ 5 ?hg (N := 12) ?hd (xs := [48 + x % 10]) (inner := [.int .u8 (48 + x % 10)]) (ok := fun _ => True) (okp := fun _ => True) ?hr ?hp (fun _ hk => hk) trivial (Below.refl _ _) (Nat.le_refl _) (by simp) ?_); (case hd => rfl); (case hg => rfl); (case hr => first | (go_simp; done) | (go_simp; rfl)); (case hp => exact Reps.snoc (Reps.none _ _) (show Kd.M (Kd.int .u8) _ _ _ (48 + x % 10) [.int .u8 (48 + x % 10)] from rfl) rfl); intro v w5 ho hb _ _; have hcv := own_string (P := Tryz.prog) Tryz.underlying22 Tryz.underlying5 Tryz.underlying9 (Kd.own_of_R ho); replace ho := Aside0.mk ho)
    go_roundg gk
    case measure => omega
    case rel => exact ⟨x / 10, strOfNums [48 + x % 10] ++ s, rfl, rfl, by omega, by omega, ⟨by have := HK.out; omega⟩, ⟨by rw [ByteArray.size_append, HS.out]; have := HZ.out; simp; omega⟩, ⟨by rw [← HE.out]; simp only [mtGo]; rw [if_pos hlt]⟩, ⟨below_step HB.out (by assumption)⟩⟩
   ·have hz : (1 : Int) + s.size ≤ 2000000000 := by have h1 := HZ.out; omega
    have HG := Aside0.mk (show mtGo gk x s = s by cases gk with | zero => rfl | succ n => simp only [mtGo]; rw [if_neg hlt])
    go_wp2
    go_ret
    exact ⟨by rw [HF.out, ← HE.out, HG.out]; rfl, HB.out⟩
end Go.Proofs.YtheaeffhhbjpmaaGreatDoor
namespace Go.Proofs.YtheaeffhhbjpmaaGreatDoor
open Go.RowKit Go.Proofs.YtheaeffhhbjpmaaGreatDoorW.PrintWords Go.Proofs.YtheaeffhhbjpmaaGreatDoorW.PrintLast
set_option linter.unusedVariables false
set_option linter.unusedSimpArgs false
/-- Whatever block isn't P's is as it was. -/
def Left (P : Nat → Prop) (w W : World) : Prop := w.heap.size ≤ W.heap.size ∧ ∀ i, i < w.heap.size → ¬ P i → W.heap[i]? = w.heap[i]?
theorem Left.refl (P : Nat → Prop) (w : World) : Left P w w := ⟨Nat.le_refl _, fun _ _ _ => rfl⟩
theorem Left.below {P : Nat → Prop} {w W W2 : World} (h : Left P w W) (hb : Below W.heap.size W W2) : Left P w W2 := ⟨Nat.le_trans h.1 hb.size, fun i hi hn => (hb.block i (Nat.lt_of_lt_of_le hi h.1)).trans (h.2 i hi hn)⟩
theorem Left.grown {P : Nat → Prop} {w W W2 : World} {g : Nat} (h : Left P w W) (hg : W.grownBy W2 (some g)) (hP : P g) : Left P w W2 := ⟨Nat.le_trans h.1 hg.size, fun i hi hn => (hg.block i (Nat.lt_of_lt_of_le hi h.1) (by rintro e; cases e; exact hn hP)).trans (h.2 i hi hn)⟩
theorem Left.trans {P : Nat → Prop} {w W W2 : World} (h : Left P w W) (h2 : Left P W W2) : Left P w W2 := ⟨Nat.le_trans h.1 h2.1, fun i hi hn => (h2.2 i (Nat.lt_of_lt_of_le hi h.1) hn).trans (h.2 i hi hn)⟩
theorem Left.mono {P P' : Nat → Prop} {w W : World} (h : Left P w W) (hP : ∀ k, P k → P' k) : Left P' w W := ⟨h.1, fun i hi hn => h.2 i hi (fun hp => hn (hP i hp))⟩
/-- The first i elements are T's, the others l's. -/
def Half {α : Type} (d : α) (T l xs : List α) (i : Int) : Prop := Upto d T xs i ∧ ∀ j : Int, i ≤ j → j < T.length → xs.getD j.toNat d = l.getD j.toNat d
theorem Half.zero {α : Type} {d : α} {T l : List α} (h : l.length = T.length) : Half d T l l 0 := ⟨Upto.zero h, fun j _ _ => rfl⟩
theorem Half.step {α : Type} {d : α} {T l xs : List α} {i : Int} {x : α} (h : Half d T l xs i) (h0 : 0 ≤ i) (h1 : i < T.length) (hx : x = T.getD i.toNat d) : Half d T l (xs.set i.toNat x) (i + 1) := by
 subst hx
 refine ⟨h.1.step h0 h1, fun j hj hl => ?_⟩
 rw [getD_set d xs _ h0 (by rw [h.1.1]; exact h1) (by omega), if_neg (by omega)]
 exact h.2 j (by omega) hl
theorem getD_map_range {α : Type} (d : α) (f : Nat → α) (n : Nat) {i : Int} (h0 : 0 ≤ i) (h1 : i < n) : ((List.range n).map f).getD i.toNat d = f i.toNat := by
 have h : i.toNat < n := by omega
 simp [List.getD_eq_getElem?_getD, h]

/-- Element of such a list. -/
def mkA1 (b : Int) : S48 := ⟨mt (b + 0), b + 1, b + 2⟩
def mkA (k : Int) (n : Nat) : List S48 := (List.range n).map fun (j : Nat) => mkA1 (k + 3 * (j : Int))
theorem mkA_length (k : Int) (n : Nat) : (mkA k n).length = n := by simp [mkA]
theorem mkA_get (k : Int) (n : Nat) {i : Int} (h0 : 0 ≤ i) (h1 : i < n) : (mkA k n).getD i.toNat z48 = mkA1 (k + 3 * i) := by
 unfold mkA; rw [getD_map_range z48 _ n h0 h1]; congr 2; omega
theorem mkA1_eq (kk : Int) : (⟨mt kk, kk + 1, kk + 1 + 1⟩ : S48) = mkA1 kk := by unfold mkA1; simp [Int.add_assoc]
set_option maxRecDepth 100000 in
theorem markAccountS_calls (P : Nat → Prop) (v : Value) (l : List S48) (k : Int) (hk0 : 0 ≤ k) (hk1 : k + 3 * l.length ≤ 1000000000) (base : Nat) (w : World) (hbase : base ≤ w.heap.size) (hr : k48.R 48 w base P v l) :
  Calls Tryz.prog 115 #[v, .int .i64 k] w fun e w' => e = .returned (.int .i64 (k + 3 * l.length)) ∧ k48.R 48 w' base P v (mkA k l.length) ∧ Below base w w' ∧ Left P w w' := by
 obtain ⟨A, c, hv, hc, hC⟩ := Kd.R_reads hr
 have hm := C_len hC
 clear hC hc
 subst hv
 have HO := Aside0.mk hr
 clear hr
 replace hbase := Aside0.mk hbase
 go_enter Tryz.func115, Tryz.ntmps115
 go_wp2
 go_loopg [1, 5] (l.length) (fun kq v1 v5 w' => ∃ (i kk : Int) (xs : List S48), v1 = .int .i64 kk ∧ v5 = .int .i64 i ∧ 0 ≤ i ∧ i ≤ l.length ∧ 0 ≤ kk ∧ kk ≤ 1000000000 ∧ Aside0 (kk = k + 3 * i) ∧ Aside0 (kq = l.length - i.toNat) ∧ Aside0 (Half z48 (mkA k l.length) l xs i) ∧ Aside0 (k48.R 48 w' base P (.slice A l.length c) xs) ∧ Aside0 (Below base w w') ∧ Aside0 (Left P w w'))
 case atStart => exact ⟨0, k, l, rfl, rfl, by omega, by omega, hk0, by omega, ⟨by omega⟩, ⟨rfl⟩, ⟨Half.zero (mkA_length k _).symm⟩, HO, ⟨Below.refl _ _⟩, ⟨Left.refl _ _⟩⟩
 case round =>
  clear HO
  obtain ⟨i, kk, xs, rfl, rfl, h0, hi, q0, q1, HQ, HK, HU, HO, HB, HL⟩ := hrel
  have hxl : xs.length = l.length := by rw [HU.out.1.1, mkA_length]
  by_cases hlt : i < l.length
  ·have q2 : kk + 3 ≤ 1000000000 := by have := HQ.out; omega
   obtain ⟨g, cap, hv, hg, _⟩ := Kd.R_form HO.out (by omega)
   have hA : A = some ⟨g, 0, none⟩ := by injection hv
   subst hA
   have HP := Aside0.mk (HO.out.1 g (by simp [Value.ownBlock]))
   replace hg := Aside0.mk hg
   clear hv hxl

   go_wp2_with (go_at_call 133; refine (markText_calls kk (by omega) _).mono ?_; rintro e w1 ⟨rfl, hb⟩; have HO1 := Aside0.mk (Kd.R_below HO.out hb); obtain ⟨s0, s1, s2, t0, t1, t2⟩ := slot48 HO1.out i h0 hlt)
   have HT := Aside0.mk (put48 HO1.out i h0 hlt ⟨mt kk, kk + 1, kk + 1 + 1⟩)
   go_roundg (l.length - (i + 1).toNat)
   case measure => have := HK.out; omega
   case rel => exact ⟨i + 1, _, _, rfl, rfl, by omega, by omega, by omega, by omega, ⟨by have := HQ.out; omega⟩, ⟨rfl⟩, ⟨HU.out.step h0 (by rw [mkA_length]; exact hlt) (by rw [mkA1_eq, mkA_get k _ h0 hlt, HQ.out])⟩, ⟨HT.out.1⟩, ⟨(HB.out.trans (hb.mono (Nat.le_trans hbase.out HL.out.1))).grown HT.out.2 (by have := HL.out.1; have := hbase.out; have := hb.size; omega) (by rintro k h; cases h; exact hg.out)⟩, ⟨(HL.out.below hb).grown HT.out.2 HP.out⟩⟩
  ·have he := HU.out.1.done (by rw [mkA_length]; omega)
   subst he
   have hkk : kk = k + 3 * l.length := by have := HQ.out; omega
   replace hkk := Aside0.mk hkk
   clear hxl
   go_wp2
   go_ret
   exact ⟨ret_i hkk.out, HO.out, HB.out, HL.out⟩


/-- Element of such a list. -/
def mkL1 (b : Int) : S88 := ⟨b + 0, b + 1, b + 2, b + 3, b + 4⟩
def mkL (k : Int) (n : Nat) : List S88 := (List.range n).map fun (j : Nat) => mkL1 (k + 5 * (j : Int))
theorem mkL_length (k : Int) (n : Nat) : (mkL k n).length = n := by simp [mkL]
theorem mkL_get (k : Int) (n : Nat) {i : Int} (h0 : 0 ≤ i) (h1 : i < n) : (mkL k n).getD i.toNat z88 = mkL1 (k + 5 * i) := by
 unfold mkL; rw [getD_map_range z88 _ n h0 h1]; congr 2; omega
theorem mkL1_eq (kk : Int) : (⟨kk, kk + 1, kk + 1 + 1, kk + 1 + 1 + 1, kk + 1 + 1 + 1 + 1⟩ : S88) = mkL1 kk := by unfold mkL1; simp [Int.add_assoc]
set_option maxRecDepth 100000 in
theorem markLineS_calls (P : Nat → Prop) (v : Value) (l : List S88) (k : Int) (hk0 : 0 ≤ k) (hk1 : k + 5 * l.length ≤ 1000000000) (base : Nat) (w : World) (hbase : base ≤ w.heap.size) (hr : k88.R 88 w base P v l) :
  Calls Tryz.prog 77 #[v, .int .i64 k] w fun e w' => e = .returned (.int .i64 (k + 5 * l.length)) ∧ k88.R 88 w' base P v (mkL k l.length) ∧ Below base w w' ∧ Left P w w' := by
 obtain ⟨A, c, hv, hc, hC⟩ := Kd.R_reads hr
 have hm := C_len hC
 clear hC hc
 subst hv
 have HO := Aside0.mk hr
 clear hr
 replace hbase := Aside0.mk hbase
 go_enter Tryz.func77, Tryz.ntmps77
 go_wp2
 go_loopg [1, 5] (l.length) (fun kq v1 v5 w' => ∃ (i kk : Int) (xs : List S88), v1 = .int .i64 kk ∧ v5 = .int .i64 i ∧ 0 ≤ i ∧ i ≤ l.length ∧ 0 ≤ kk ∧ kk ≤ 1000000000 ∧ Aside0 (kk = k + 5 * i) ∧ Aside0 (kq = l.length - i.toNat) ∧ Aside0 (Half z88 (mkL k l.length) l xs i) ∧ Aside0 (k88.R 88 w' base P (.slice A l.length c) xs) ∧ Aside0 (Below base w w') ∧ Aside0 (Left P w w'))
 case atStart => exact ⟨0, k, l, rfl, rfl, by omega, by omega, hk0, by omega, ⟨by omega⟩, ⟨rfl⟩, ⟨Half.zero (mkL_length k _).symm⟩, HO, ⟨Below.refl _ _⟩, ⟨Left.refl _ _⟩⟩
 case round =>
  clear HO
  obtain ⟨i, kk, xs, rfl, rfl, h0, hi, q0, q1, HQ, HK, HU, HO, HB, HL⟩ := hrel
  have hxl : xs.length = l.length := by rw [HU.out.1.1, mkL_length]
  by_cases hlt : i < l.length
  ·have q2 : kk + 5 ≤ 1000000000 := by have := HQ.out; omega
   obtain ⟨g, cap, hv, hg, _⟩ := Kd.R_form HO.out (by omega)
   have hA : A = some ⟨g, 0, none⟩ := by injection hv
   subst hA
   have HP := Aside0.mk (HO.out.1 g (by simp [Value.ownBlock]))
   replace hg := Aside0.mk hg
   clear hv hxl
   obtain ⟨s0, s1, s2, s3, s4, t0, t1, t2, t3, t4⟩ := slot88 HO.out i h0 hlt
   go_wp2
   have HT := Aside0.mk (put88 HO.out i h0 hlt ⟨kk, kk + 1, kk + 1 + 1, kk + 1 + 1 + 1, kk + 1 + 1 + 1 + 1⟩)
   go_roundg (l.length - (i + 1).toNat)
   case measure => have := HK.out; omega
   case rel => exact ⟨i + 1, _, _, rfl, rfl, by omega, by omega, by omega, by omega, ⟨by have := HQ.out; omega⟩, ⟨rfl⟩, ⟨HU.out.step h0 (by rw [mkL_length]; exact hlt) (by rw [mkL1_eq, mkL_get k _ h0 hlt, HQ.out])⟩, ⟨HT.out.1⟩, ⟨HB.out.grown HT.out.2 (by have := HL.out.1; have := hbase.out; omega) (by rintro k h; cases h; exact hg.out)⟩, ⟨HL.out.grown HT.out.2 HP.out⟩⟩
  ·have he := HU.out.1.done (by rw [mkL_length]; omega)
   subst he
   have hkk : kk = k + 5 * l.length := by have := HQ.out; omega
   replace hkk := Aside0.mk hkk
   clear hxl
   go_wp2
   go_ret
   exact ⟨ret_i hkk.out, HO.out, HB.out, HL.out⟩


/-- Element of such a list. -/
def mkP1 (b : Int) : S84 := ⟨b + 0, b + 1⟩
def mkP (k : Int) (n : Nat) : List S84 := (List.range n).map fun (j : Nat) => mkP1 (k + 2 * (j : Int))
theorem mkP_length (k : Int) (n : Nat) : (mkP k n).length = n := by simp [mkP]
theorem mkP_get (k : Int) (n : Nat) {i : Int} (h0 : 0 ≤ i) (h1 : i < n) : (mkP k n).getD i.toNat z84 = mkP1 (k + 2 * i) := by
 unfold mkP; rw [getD_map_range z84 _ n h0 h1]; congr 2; omega
theorem mkP1_eq (kk : Int) : (⟨kk, kk + 1⟩ : S84) = mkP1 kk := by unfold mkP1; simp [Int.add_assoc]
set_option maxRecDepth 100000 in
theorem markPeriodS_calls (P : Nat → Prop) (v : Value) (l : List S84) (k : Int) (hk0 : 0 ≤ k) (hk1 : k + 2 * l.length ≤ 1000000000) (base : Nat) (w : World) (hbase : base ≤ w.heap.size) (hr : k84.R 84 w base P v l) :
  Calls Tryz.prog 76 #[v, .int .i64 k] w fun e w' => e = .returned (.int .i64 (k + 2 * l.length)) ∧ k84.R 84 w' base P v (mkP k l.length) ∧ Below base w w' ∧ Left P w w' := by
 obtain ⟨A, c, hv, hc, hC⟩ := Kd.R_reads hr
 have hm := C_len hC
 clear hC hc
 subst hv
 have HO := Aside0.mk hr
 clear hr
 replace hbase := Aside0.mk hbase
 go_enter Tryz.func76, Tryz.ntmps76
 go_wp2
 go_loopg [1, 5] (l.length) (fun kq v1 v5 w' => ∃ (i kk : Int) (xs : List S84), v1 = .int .i64 kk ∧ v5 = .int .i64 i ∧ 0 ≤ i ∧ i ≤ l.length ∧ 0 ≤ kk ∧ kk ≤ 1000000000 ∧ Aside0 (kk = k + 2 * i) ∧ Aside0 (kq = l.length - i.toNat) ∧ Aside0 (Half z84 (mkP k l.length) l xs i) ∧ Aside0 (k84.R 84 w' base P (.slice A l.length c) xs) ∧ Aside0 (Below base w w') ∧ Aside0 (Left P w w'))
 case atStart => exact ⟨0, k, l, rfl, rfl, by omega, by omega, hk0, by omega, ⟨by omega⟩, ⟨rfl⟩, ⟨Half.zero (mkP_length k _).symm⟩, HO, ⟨Below.refl _ _⟩, ⟨Left.refl _ _⟩⟩
 case round =>
  clear HO
  obtain ⟨i, kk, xs, rfl, rfl, h0, hi, q0, q1, HQ, HK, HU, HO, HB, HL⟩ := hrel
  have hxl : xs.length = l.length := by rw [HU.out.1.1, mkP_length]
  by_cases hlt : i < l.length
  ·have q2 : kk + 2 ≤ 1000000000 := by have := HQ.out; omega
   obtain ⟨g, cap, hv, hg, _⟩ := Kd.R_form HO.out (by omega)
   have hA : A = some ⟨g, 0, none⟩ := by injection hv
   subst hA
   have HP := Aside0.mk (HO.out.1 g (by simp [Value.ownBlock]))
   replace hg := Aside0.mk hg
   clear hv hxl
   obtain ⟨s0, s1, t0, t1⟩ := slot84 HO.out i h0 hlt
   go_wp2
   have HT := Aside0.mk (put84 HO.out i h0 hlt ⟨kk, kk + 1⟩)
   go_roundg (l.length - (i + 1).toNat)
   case measure => have := HK.out; omega
   case rel => exact ⟨i + 1, _, _, rfl, rfl, by omega, by omega, by omega, by omega, ⟨by have := HQ.out; omega⟩, ⟨rfl⟩, ⟨HU.out.step h0 (by rw [mkP_length]; exact hlt) (by rw [mkP1_eq, mkP_get k _ h0 hlt, HQ.out])⟩, ⟨HT.out.1⟩, ⟨HB.out.grown HT.out.2 (by have := HL.out.1; have := hbase.out; omega) (by rintro k h; cases h; exact hg.out)⟩, ⟨HL.out.grown HT.out.2 HP.out⟩⟩
  ·have he := HU.out.1.done (by rw [mkP_length]; omega)
   subst he
   have hkk : kk = k + 2 * l.length := by have := HQ.out; omega
   replace hkk := Aside0.mk hkk
   clear hxl
   go_wp2
   go_ret
   exact ⟨ret_i hkk.out, HO.out, HB.out, HL.out⟩

end Go.Proofs.YtheaeffhhbjpmaaGreatDoor
namespace Go.Proofs.YtheaeffhhbjpmaaGreatDoor
open Go.RowKit Go.Proofs.YtheaeffhhbjpmaaGreatDoorW.PrintWords Go.Proofs.YtheaeffhhbjpmaaGreatDoorW.PrintLast
set_option linter.unusedVariables false
set_option linter.unusedSimpArgs false

set_option maxRecDepth 100000 in
theorem heldAccountS_calls (A : Option Addr) (c : Nat) (k : Int) (n : Nat) (hk0 : 0 ≤ k) (hk1 : k + 3 * n ≤ 1000000000) (w : World) (hr : Kd.C k48 w A n (mkA k n)) :
  Calls Tryz.prog 117 #[.slice A n c, .int .i64 k] w fun e w' => e = .returned (.int .i64 (k + 3 * n)) ∧ Below w.heap.size w w' := by
 have HR := Aside0.mk hr
 have hm := C_len hr
 clear hr
 go_enter Tryz.func117, Tryz.ntmps117
 go_wp2
 go_loopg [1, 5] n (fun kq v1 v5 w' => ∃ (i kk : Int), v1 = .int .i64 kk ∧ v5 = .int .i64 i ∧ 0 ≤ i ∧ i ≤ n ∧ 0 ≤ kk ∧ kk ≤ 1000000000 ∧ Aside0 (kk = k + 3 * i) ∧ Aside0 (kq = n - i.toNat) ∧ Aside0 (Below w.heap.size w w'))
 case atStart => exact ⟨0, k, rfl, rfl, by omega, by omega, hk0, by omega, ⟨by omega⟩, ⟨rfl⟩, ⟨Below.refl _ _⟩⟩
 case round =>
  obtain ⟨i, kk, rfl, rfl, h0, hi, q0, q1, HQ, HK, HB⟩ := hrel
  by_cases hlt : i < n
  ·have q2 : kk + 3 ≤ 1000000000 := by have := HQ.out; omega
   obtain ⟨ad, e0, x⟩ := at48 (Kd.C_below HR.out HB.out) i h0 hlt
   cases e0
   have he : rd_T48 (mkA k n) i = ⟨mt kk, kk + 1, kk + 1 + 1⟩ := by rw [mkA1_eq, HQ.out]; exact mkA_get k n h0 hlt
   rw [he] at x
   have MK := Aside0.mk (show ∀ W, Below wr.heap.size wr W → (Below wr.heap.size wr W ∧ W.cell? (ad.add (i.toNat * 3)) = some (.string (mt kk)) ∧ W.cell? ⟨(ad.add (i.toNat * 3)).block, (ad.add (i.toNat * 3)).off + 1, none⟩ = some (.int .i64 (kk + 1)) ∧ W.cell? ⟨(ad.add (i.toNat * 3)).block, (ad.add (i.toNat * 3)).off + 2, none⟩ = some (.int .i64 (kk + 1 + 1))) from fun W hb => ⟨hb, x.below hb⟩)
   clear he
   obtain ⟨x0, x1, x2⟩ := x
   go_wp2

   go_region_held3 (fun w' => Below wr.heap.size wr w' ∧ w'.cell? (ad.add (i.toNat * 3)) = some (.string (mt kk)) ∧ w'.cell? ⟨(ad.add (i.toNat * 3)).block, (ad.add (i.toNat * 3)).off + 1, none⟩ = some (.int .i64 (kk + 1)) ∧ w'.cell? ⟨(ad.add (i.toNat * 3)).block, (ad.add (i.toNat * 3)).off + 2, none⟩ = some (.int .i64 (kk + 1 + 1))) ((refine MK.out _ ?_; repeat (with_reducible first | assumption | exact And.left (by assumption) | exact Below.refl _ _ | apply below_drew1 | apply below_alloc | refine below_step ?_ (by assumption)))) (first | (go_at_call 133; refine (markText_calls kk (by omega) _).mono ?_; rintro e w1 ⟨rfl, hb⟩))
   have hw := ‹Below wr.heap.size wr _ ∧ _›
   obtain ⟨hbw, y0, y1, y2⟩ := hw
   have HB2 := Aside0.mk (below_step HB.out hbw)
   clear HB MK hbw
   go_wp2

   go_roundg (n - (i + 1).toNat)
   case measure => have := HK.out; omega
   case rel => exact ⟨i + 1, _, rfl, rfl, by omega, by omega, by omega, by omega, ⟨by have := HQ.out; omega⟩, ⟨rfl⟩, HB2⟩
  ·have hkk : kk = k + 3 * n := by have := HQ.out; omega
   replace hkk := Aside0.mk hkk
   go_wp2
   go_ret
   exact ⟨ret_i hkk.out, HB.out⟩

set_option maxRecDepth 100000 in
theorem heldLineS_calls (A : Option Addr) (c : Nat) (k : Int) (n : Nat) (hk0 : 0 ≤ k) (hk1 : k + 5 * n ≤ 1000000000) (w : World) (hr : Kd.C k88 w A n (mkL k n)) :
  Calls Tryz.prog 134 #[.slice A n c, .int .i64 k] w fun e w' => e = .returned (.int .i64 (k + 5 * n)) ∧ Below w.heap.size w w' := by
 have HR := Aside0.mk hr
 have hm := C_len hr
 clear hr
 go_enter Tryz.func134, Tryz.ntmps134
 go_wp2
 go_loopg [1, 5] n (fun kq v1 v5 w' => ∃ (i kk : Int), v1 = .int .i64 kk ∧ v5 = .int .i64 i ∧ 0 ≤ i ∧ i ≤ n ∧ 0 ≤ kk ∧ kk ≤ 1000000000 ∧ Aside0 (kk = k + 5 * i) ∧ Aside0 (kq = n - i.toNat) ∧ Aside0 (Below w.heap.size w w'))
 case atStart => exact ⟨0, k, rfl, rfl, by omega, by omega, hk0, by omega, ⟨by omega⟩, ⟨rfl⟩, ⟨Below.refl _ _⟩⟩
 case round =>
  obtain ⟨i, kk, rfl, rfl, h0, hi, q0, q1, HQ, HK, HB⟩ := hrel
  by_cases hlt : i < n
  ·have q2 : kk + 5 ≤ 1000000000 := by have := HQ.out; omega
   obtain ⟨ad, e0, x⟩ := at88 (Kd.C_below HR.out HB.out) i h0 hlt
   cases e0
   have he : rd_T88 (mkL k n) i = ⟨kk, kk + 1, kk + 1 + 1, kk + 1 + 1 + 1, kk + 1 + 1 + 1 + 1⟩ := by rw [mkL1_eq, HQ.out]; exact mkL_get k n h0 hlt
   rw [he] at x
   have MK := Aside0.mk (show ∀ W, Below wr.heap.size wr W → (Below wr.heap.size wr W ∧ W.cell? (ad.add (i.toNat * 5)) = some (.int .i64 (kk)) ∧ W.cell? ⟨(ad.add (i.toNat * 5)).block, (ad.add (i.toNat * 5)).off + 1, none⟩ = some (.int .i64 (kk + 1)) ∧ W.cell? ⟨(ad.add (i.toNat * 5)).block, (ad.add (i.toNat * 5)).off + 2, none⟩ = some (.int .i64 (kk + 1 + 1)) ∧ W.cell? ⟨(ad.add (i.toNat * 5)).block, (ad.add (i.toNat * 5)).off + 3, none⟩ = some (.int .i64 (kk + 1 + 1 + 1)) ∧ W.cell? ⟨(ad.add (i.toNat * 5)).block, (ad.add (i.toNat * 5)).off + 4, none⟩ = some (.int .i64 (kk + 1 + 1 + 1 + 1))) from fun W hb => ⟨hb, x.below hb⟩)
   clear he
   obtain ⟨x0, x1, x2, x3, x4⟩ := x
   go_wp2

   go_roundg (n - (i + 1).toNat)
   case measure => have := HK.out; omega
   case rel => exact ⟨i + 1, _, rfl, rfl, by omega, by omega, by omega, by omega, ⟨by have := HQ.out; omega⟩, ⟨rfl⟩, HB⟩
  ·have hkk : kk = k + 5 * n := by have := HQ.out; omega
   replace hkk := Aside0.mk hkk
   go_wp2
   go_ret
   exact ⟨ret_i hkk.out, HB.out⟩

set_option maxRecDepth 100000 in
theorem heldPeriodS_calls (A : Option Addr) (c : Nat) (k : Int) (n : Nat) (hk0 : 0 ≤ k) (hk1 : k + 2 * n ≤ 1000000000) (w : World) (hr : Kd.C k84 w A n (mkP k n)) :
  Calls Tryz.prog 80 #[.slice A n c, .int .i64 k] w fun e w' => e = .returned (.int .i64 (k + 2 * n)) ∧ Below w.heap.size w w' := by
 have HR := Aside0.mk hr
 have hm := C_len hr
 clear hr
 go_enter Tryz.func80, Tryz.ntmps80
 go_wp2
 go_loopg [1, 5] n (fun kq v1 v5 w' => ∃ (i kk : Int), v1 = .int .i64 kk ∧ v5 = .int .i64 i ∧ 0 ≤ i ∧ i ≤ n ∧ 0 ≤ kk ∧ kk ≤ 1000000000 ∧ Aside0 (kk = k + 2 * i) ∧ Aside0 (kq = n - i.toNat) ∧ Aside0 (Below w.heap.size w w'))
 case atStart => exact ⟨0, k, rfl, rfl, by omega, by omega, hk0, by omega, ⟨by omega⟩, ⟨rfl⟩, ⟨Below.refl _ _⟩⟩
 case round =>
  obtain ⟨i, kk, rfl, rfl, h0, hi, q0, q1, HQ, HK, HB⟩ := hrel
  by_cases hlt : i < n
  ·have q2 : kk + 2 ≤ 1000000000 := by have := HQ.out; omega
   obtain ⟨ad, e0, x⟩ := at84 (Kd.C_below HR.out HB.out) i h0 hlt
   cases e0
   have he : rd_T84 (mkP k n) i = ⟨kk, kk + 1⟩ := by rw [mkP1_eq, HQ.out]; exact mkP_get k n h0 hlt
   rw [he] at x
   have MK := Aside0.mk (show ∀ W, Below wr.heap.size wr W → (Below wr.heap.size wr W ∧ W.cell? (ad.add (i.toNat * 2)) = some (.int .i64 (kk)) ∧ W.cell? ⟨(ad.add (i.toNat * 2)).block, (ad.add (i.toNat * 2)).off + 1, none⟩ = some (.int .i64 (kk + 1))) from fun W hb => ⟨hb, x.below hb⟩)
   clear he
   obtain ⟨x0, x1⟩ := x
   go_wp2

   go_roundg (n - (i + 1).toNat)
   case measure => have := HK.out; omega
   case rel => exact ⟨i + 1, _, rfl, rfl, by omega, by omega, by omega, by omega, ⟨by have := HQ.out; omega⟩, ⟨rfl⟩, HB⟩
  ·have hkk : kk = k + 2 * n := by have := HQ.out; omega
   replace hkk := Aside0.mk hkk
   go_wp2
   go_ret
   exact ⟨ret_i hkk.out, HB.out⟩
end Go.Proofs.YtheaeffhhbjpmaaGreatDoor
namespace Go.Proofs.YtheaeffhhbjpmaaGreatDoor
open Go.RowKit Go.Proofs.YtheaeffhhbjpmaaGreatDoorW.PrintWords Go.Proofs.YtheaeffhhbjpmaaGreatDoorW.PrintLast
set_option linter.unusedVariables false
set_option linter.unusedSimpArgs false
theorem sumC_append {α : Type} (f : α → Int) : ∀ a b : List α, sumC f (a ++ b) = sumC f a + sumC f b
 | [], b => by simp [sumC]
 | x :: a, b => by simp only [List.cons_append, sumC]; rw [sumC_append f a b]; omega
def eLen (e : S41) : Int := 3 + 5 * (e.f3.length : Int)
theorem eLen_nn (e : S41) : 0 ≤ eLen e := by unfold eLen; omega
/-- The number that stands ahead of entry i. -/
def kOf (k : Int) (l : List S41) (i : Int) : Int := k + sumC eLen (l.take i.toNat)
theorem kOf_zero (k : Int) (l : List S41) : kOf k l 0 = k := by simp [kOf, sumC]
theorem kOf_succ (k : Int) (l : List S41) {i : Int} (h0 : 0 ≤ i) (h1 : i < l.length) : kOf k l (i + 1) = kOf k l i + eLen (l.getD i.toNat z41) := by
 have h : i.toNat < l.length := by omega
 unfold kOf
 rw [show (i + 1).toNat = i.toNat + 1 by omega, List.take_succ_eq_append_getElem h, sumC_append]
 simp [sumC, h]; omega
theorem kOf_le (k : Int) (l : List S41) (i : Int) : k ≤ kOf k l i ∧ kOf k l i ≤ k + sumC eLen l := by
 unfold kOf
 have e : sumC eLen l = sumC eLen (l.take i.toNat) + sumC eLen (l.drop i.toNat) := by rw [← sumC_append, List.take_append_drop]
 have h1 := sumC_nonneg eLen_nn (l.take i.toNat)
 have h2 := sumC_nonneg eLen_nn (l.drop i.toNat)
 omega
theorem kOf_all (k : Int) (l : List S41) {i : Int} (h : (l.length : Int) ≤ i) : kOf k l i = k + sumC eLen l := by unfold kOf; rw [List.take_of_length_le (by omega)]
def mkE1 (b : Int) (n : Nat) : S41 := ⟨b, b + 1, mt (b + 2), mkL (b + 3) n⟩
def mkE (k : Int) (l : List S41) : List S41 := (List.range l.length).map fun (j : Nat) => mkE1 (kOf k l j) (l.getD j z41).f3.length
theorem mkE_length (k : Int) (l : List S41) : (mkE k l).length = l.length := by simp [mkE]
theorem mkE_get (k : Int) (l : List S41) {i : Int} (h0 : 0 ≤ i) (h1 : i < l.length) : (mkE k l).getD i.toNat z41 = mkE1 (kOf k l i) (l.getD i.toNat z41).f3.length := by
 unfold mkE; rw [getD_map_range z41 _ _ h0 h1]; rw [show ((i.toNat : Nat) : Int) = i by omega]
theorem mkE1_eq (b : Int) (n : Nat) : (⟨b, b + 1, mt (b + 1 + 1), mkL (b + 1 + 1 + 1) n⟩ : S41) = mkE1 b n := by unfold mkE1; simp [Int.add_assoc]
section
variable {W : World} {base g n cap : Nat} {P : Nat → Prop} {xs : List S41}
theorem fldAB (h : Kd.S k41 41 W base P (.slice (some ⟨g, 0, none⟩) n cap) xs) (i : Int) (h0 : 0 ≤ i) (h1 : i < n) (a b : Int) :
  Kd.S k41 41 ((W.setCell ⟨g, i.toNat * 4, none⟩ (.int .i64 a)).setCell ⟨g, i.toNat * 4 + 1, none⟩ (.int .i64 b)) base P (.slice (some ⟨g, 0, none⟩) n cap) (xs.set i.toNat ⟨a, b, (xs.getD i.toNat z41).f2, (xs.getD i.toNat z41).f3⟩) ∧
  W.grownBy ((W.setCell ⟨g, i.toNat * 4, none⟩ (.int .i64 a)).setCell ⟨g, i.toNat * 4 + 1, none⟩ (.int .i64 b)) (some g) := by
 obtain ⟨oki, c, hcl, hM, hcc, hoki, hH⟩ := Kd.S_lend h z41 i h0 h1
 obtain ⟨ve, rfl, ge⟩ := k41_openM hM
 exact Kd.S_seg (okg := fun _ => False) (Kd.H_mono hH (fun _ hk => ⟨hk, fun h => h⟩)) h0 h1 (seg := [.int .i64 a, .int .i64 b]) (j := 0) (show 2 ≤ 4 by decide) (x' := ⟨a, b, _, _⟩) (k41_mkM _ _ _ ⟨a, b, _, _⟩ ge) (fun k hk => .inl hk) (fun _ hk => hk.elim)
theorem fldT (h : Kd.S k41 41 W base P (.slice (some ⟨g, 0, none⟩) n cap) xs) (i : Int) (h0 : 0 ≤ i) (h1 : i < n) (t : ByteArray) :
  Kd.S k41 41 (W.setCell ⟨g, i.toNat * 4 + 2, none⟩ (.string t)) base P (.slice (some ⟨g, 0, none⟩) n cap) (xs.set i.toNat ⟨(xs.getD i.toNat z41).f0, (xs.getD i.toNat z41).f1, t, (xs.getD i.toNat z41).f3⟩) ∧
  W.grownBy (W.setCell ⟨g, i.toNat * 4 + 2, none⟩ (.string t)) (some g) := by
 obtain ⟨oki, c, hcl, hM, hcc, hoki, hH⟩ := Kd.S_lend h z41 i h0 h1
 obtain ⟨ve, rfl, ge⟩ := k41_openM hM
 exact Kd.S_seg (okg := fun _ => False) (Kd.H_mono hH (fun _ hk => ⟨hk, fun h => h⟩)) h0 h1 (seg := [.string t]) (j := 2) (show 2 + 1 ≤ 4 by decide) (x' := ⟨_, _, t, _⟩) (k41_mkM _ _ _ ⟨(xs.getD i.toNat z41).f0, (xs.getD i.toNat z41).f1, t, (xs.getD i.toNat z41).f3⟩ ge) (fun k hk => .inl hk) (fun _ hk => hk.elim)
theorem lendL (h : Kd.S k41 41 W base P (.slice (some ⟨g, 0, none⟩) n cap) xs) (i : Int) (h0 : 0 ≤ i) (h1 : i < n) :
  ∃ (oki : Nat → Prop) (A : Option Addr) (c : Nat), W.cell? ⟨g, i.toNat * 4 + 3, none⟩ = some (.slice A (xs.getD i.toNat z41).f3.length c) ∧ k88.R 88 W base oki (.slice A (xs.getD i.toNat z41).f3.length c) (xs.getD i.toNat z41).f3 ∧ (∀ k, oki k → P k ∧ k ≠ g) ∧
   ∀ (W2 : World) (l2 : List S88), k88.R 88 W2 base oki (.slice A (xs.getD i.toNat z41).f3.length c) l2 → Left oki W W2 → Kd.S k41 41 W2 base P (.slice (some ⟨g, 0, none⟩) n cap) (xs.set i.toNat ⟨(xs.getD i.toNat z41).f0, (xs.getD i.toNat z41).f1, (xs.getD i.toNat z41).f2, l2⟩) := by
 obtain ⟨oki, c, hcl, hM, hcc, hoki, hH⟩ := Kd.S_lend h z41 i h0 h1
 obtain ⟨ve, rfl, ge⟩ := k41_openM hM
 obtain ⟨A, cc, rfl⟩ := Kd.R_slice ge
 exact ⟨oki, A, cc, hcc 3 _ rfl, ge, hoki, fun W2 l2 hR hL => Kd.H_back (Kd.H_step hH (fun k hk hn hlt => hL.2 k hlt hn)) (k41_mkM _ _ _ ⟨_, _, _, l2⟩ hR) (fun _ hk => hk)⟩
end
theorem fldAB' {W : World} {base g n cap : Nat} {P : Nat → Prop} {xs : List S41} (h : Kd.S k41 41 W base P (.slice (some ⟨g, 0, none⟩) n cap) xs) (i : Int) (h0 : 0 ≤ i) (h1 : i < n) (x : S41) (hx : xs.getD i.toNat z41 = x) (a b : Int) :
  Kd.S k41 41 ((W.setCell ⟨g, i.toNat * 4, none⟩ (.int .i64 a)).setCell ⟨g, i.toNat * 4 + 1, none⟩ (.int .i64 b)) base P (.slice (some ⟨g, 0, none⟩) n cap) (xs.set i.toNat ⟨a, b, x.f2, x.f3⟩) ∧
  W.grownBy ((W.setCell ⟨g, i.toNat * 4, none⟩ (.int .i64 a)).setCell ⟨g, i.toNat * 4 + 1, none⟩ (.int .i64 b)) (some g) := by subst hx; exact fldAB h i h0 h1 a b
theorem fldT' {W : World} {base g n cap : Nat} {P : Nat → Prop} {xs : List S41} (h : Kd.S k41 41 W base P (.slice (some ⟨g, 0, none⟩) n cap) xs) (i : Int) (h0 : 0 ≤ i) (h1 : i < n) (x : S41) (hx : xs.getD i.toNat z41 = x) (t : ByteArray) :
  Kd.S k41 41 (W.setCell ⟨g, i.toNat * 4 + 2, none⟩ (.string t)) base P (.slice (some ⟨g, 0, none⟩) n cap) (xs.set i.toNat ⟨x.f0, x.f1, t, x.f3⟩) ∧ W.grownBy (W.setCell ⟨g, i.toNat * 4 + 2, none⟩ (.string t)) (some g) := by subst hx; exact fldT h i h0 h1 t
theorem lendL' {W : World} {base g n cap : Nat} {P : Nat → Prop} {xs : List S41} (h : Kd.S k41 41 W base P (.slice (some ⟨g, 0, none⟩) n cap) xs) (i : Int) (h0 : 0 ≤ i) (h1 : i < n) (x : S41) (hx : xs.getD i.toNat z41 = x) :
  ∃ (oki : Nat → Prop) (A : Option Addr) (c : Nat), W.cell? ⟨g, i.toNat * 4 + 3, none⟩ = some (.slice A x.f3.length c) ∧ k88.R 88 W base oki (.slice A x.f3.length c) x.f3 ∧ (∀ k, oki k → P k ∧ k ≠ g) ∧
   ∀ (W2 : World) (l2 : List S88), k88.R 88 W2 base oki (.slice A x.f3.length c) l2 → Left oki W W2 → Kd.S k41 41 W2 base P (.slice (some ⟨g, 0, none⟩) n cap) (xs.set i.toNat ⟨x.f0, x.f1, x.f2, l2⟩) := by subst hx; exact lendL h i h0 h1
theorem set_set_get (xs : List S41) (x : S41) {i : Int} (h0 : 0 ≤ i) (h1 : i < xs.length) : (xs.set i.toNat x).getD i.toNat z41 = x := by rw [getD_set z41 xs x h0 h1 h0, if_pos rfl]
set_option maxRecDepth 100000 in
set_option maxHeartbeats 1000000 in
theorem markEntryS_calls (P : Nat → Prop) (v : Value) (l : List S41) (k : Int) (hk0 : 0 ≤ k) (hk1 : k + sumC eLen l ≤ 1000000000) (base : Nat) (w : World) (hbase : base ≤ w.heap.size) (hr : Kd.S k41 41 w base P v l) :
  Calls Tryz.prog 116 #[v, .int .i64 k] w fun e w' => e = .returned (.int .i64 (k + sumC eLen l)) ∧ Kd.S k41 41 w' base P v (mkE k l) ∧ Below base w w' ∧ Left P w w' := by
 obtain ⟨A, c, hv, hc, hC⟩ := Kd.S_reads hr
 have hm := C_len hC
 clear hC hc
 subst hv
 have HO := Aside0.mk hr
 clear hr
 replace hbase := Aside0.mk hbase
 replace hk1 := Aside0.mk hk1
 go_enter Tryz.func116, Tryz.ntmps116
 go_wp2
 go_loopg [1, 5] (l.length) (fun kq v1 v5 w' => ∃ (i kk : Int) (xs : List S41), v1 = .int .i64 kk ∧ v5 = .int .i64 i ∧ 0 ≤ i ∧ i ≤ l.length ∧ 0 ≤ kk ∧ kk ≤ 1000000000 ∧ Aside0 (kk = kOf k l i) ∧ Aside0 (kq = l.length - i.toNat) ∧ Aside0 (Half z41 (mkE k l) l xs i) ∧ Aside0 (Kd.S k41 41 w' base P (.slice A l.length c) xs) ∧ Aside0 (Below base w w') ∧ Aside0 (Left P w w'))
 case atStart => exact ⟨0, k, l, rfl, rfl, by omega, by omega, hk0, by have := (kOf_le k l 0); rw [kOf_zero] at this; have := hk1.out; omega, ⟨(kOf_zero k l).symm⟩, ⟨rfl⟩, ⟨Half.zero (mkE_length k _).symm⟩, HO, ⟨Below.refl _ _⟩, ⟨Left.refl _ _⟩⟩
 case round =>
  clear HO
  obtain ⟨i, kk, xs, rfl, rfl, h0, hi, q0, q1, HQ, HK, HU, HO, HB, HL⟩ := hrel
  have hxl : xs.length = l.length := by rw [HU.out.1.1, mkE_length]
  by_cases hlt : i < l.length
  ·have hxi : xs.getD i.toNat z41 = l.getD i.toNat z41 := HU.out.2 i (Int.le_refl _) (by rw [mkE_length]; exact hlt)
   have hks := kOf_succ k l h0 hlt
   have hke := (kOf_le k l (i + 1)).2
   have q2 : kk + 3 + 5 * ((l.getD i.toNat z41).f3.length : Int) ≤ 1000000000 := by have := HQ.out; have := hk1.out; unfold eLen at hks; omega
   obtain ⟨y, hy⟩ : ∃ y, l.getD i.toNat z41 = y := ⟨_, rfl⟩
   rw [hy] at hxi hks q2
   replace hy := Aside0.mk hy
   obtain ⟨g, cap, hv, hg, _⟩ := Kd.S_form HO.out (by omega)
   have hA : A = some ⟨g, 0, none⟩ := by injection hv
   subst hA
   have HP := Aside0.mk ((Kd.S_R HO.out).1 g (by simp [Value.ownBlock]))
   replace hg := Aside0.mk hg
   replace hxi := Aside0.mk hxi
   replace hks := Aside0.mk hks
   replace hxl := Aside0.mk hxl
   clear hv hke
   obtain ⟨ve, s0, s1, s2, s3, t0, t1, t2, t3⟩ := slot41 (Kd.S_R HO.out) i h0 hlt
   have HA := Aside0.mk (fldAB' HO.out i h0 hlt y hxi.out kk (kk + 1))
   go_wp2_with fail
   refine (markText_calls (kk + 1 + 1) (by omega) _).mono ?_
   rintro e w1 ⟨rfl, hb⟩
   clear s0 s1 s2 s3 t0 t1 t2 t3
   have HS1 := Aside0.mk (Kd.S_below HA.out.1 hb)
   obtain ⟨ve, s0, s1, s2, s3, t0, t1, t2, t3⟩ := slot41 (Kd.S_R HS1.out) i h0 hlt
   have HT := Aside0.mk (fldT' HS1.out i h0 hlt _ (set_set_get _ _ h0 (by rw [hxl.out]; exact hlt)) (mt (kk + 1 + 1)))
   clear s3
   obtain ⟨oki, A3, c3, s3, hR3, hoki, hback⟩ := lendL' HT.out.1 i h0 hlt _ (set_set_get _ _ h0 (by rw [List.length_set, hxl.out]; exact hlt))
   have hne : (⟨g, i.toNat * 4 + 2, none⟩ : Addr) ≠ ⟨g, i.toNat * 4 + 3, none⟩ := by simp
   rw [World.cell?_setCell_other _ _ _ _ hne] at s3
   clear hne
   dsimp only at s3 hR3 hback
   have HR3 := Aside0.mk hR3
   have HOK := Aside0.mk hoki
   have HBK := Aside0.mk hback
   clear hR3 hoki hback
   go_wp2_with fail
   refine (markLineS_calls oki _ _ (kk + 1 + 1 + 1) (by omega) (by omega) base _ (by have := hb.size; have := HL.out.1; have := hbase.out; simp at *; omega) HR3.out).mono ?_
   rintro e w2 ⟨rfl, hr2, hb2, hl2⟩
   replace hr2 := Aside0.mk hr2
   replace hb2 := Aside0.mk hb2
   replace hl2 := Aside0.mk hl2
   go_wp2
   have hsz : base ≤ wr.heap.size := Nat.le_trans hbase.out HL.out.1
   go_roundg (l.length - (i + 1).toNat)
   case measure => have := HK.out; omega
   case rel => exact ⟨i + 1, _, _, rfl, rfl, by omega, by omega, by omega, by omega, ⟨by rw [hks.out, ← HQ.out]; unfold eLen; omega⟩, ⟨rfl⟩, ⟨by rw [List.set_set, List.set_set]; exact HU.out.step h0 (by rw [mkE_length]; exact hlt) (by rw [mkE1_eq, mkE_get k l h0 hlt, hy.out, HQ.out])⟩, ⟨HBK.out _ _ hr2.out hl2.out⟩, ⟨(((HB.out.grown HA.out.2 hsz (by rintro k h; cases h; exact hg.out)).trans (hb.mono (Nat.le_trans hsz HA.out.2.size))).grown HT.out.2 (Nat.le_trans (Nat.le_trans hsz HA.out.2.size) hb.size) (by rintro k h; cases h; exact hg.out)).trans hb2.out⟩, ⟨(((HL.out.grown HA.out.2 HP.out).below hb).grown HT.out.2 HP.out).trans (hl2.out.mono (fun k hk => (HOK.out k hk).1))⟩⟩
  ·have he := HU.out.1.done (by rw [mkE_length]; omega)
   subst he
   have hkk : kk = k + sumC eLen l := by rw [← kOf_all k l (i := i) (by omega)]; exact HQ.out
   replace hkk := Aside0.mk hkk
   clear hxl
   go_wp2
   go_ret
   exact ⟨ret_i hkk.out, HO.out, HB.out, HL.out⟩
end Go.Proofs.YtheaeffhhbjpmaaGreatDoor
namespace Go.Proofs.YtheaeffhhbjpmaaGreatDoor
open Go.RowKit Go.Proofs.YtheaeffhhbjpmaaGreatDoorW.PrintWords Go.Proofs.YtheaeffhhbjpmaaGreatDoorW.PrintLast
set_option linter.unusedVariables false
set_option linter.unusedSimpArgs false
set_option maxRecDepth 100000 in
set_option maxHeartbeats 1000000 in
theorem heldEntryS_calls (A : Option Addr) (c : Nat) (k : Int) (l : List S41) (hk0 : 0 ≤ k) (hk1 : k + sumC eLen l ≤ 1000000000) (w : World) (hr : Kd.C k41 w A l.length (mkE k l)) :
  Calls Tryz.prog 118 #[.slice A l.length c, .int .i64 k] w fun e w' => e = .returned (.int .i64 (k + sumC eLen l)) ∧ Below w.heap.size w w' := by
 have HR := Aside0.mk hr
 have hm := C_len hr
 clear hr
 replace hk1 := Aside0.mk hk1
 go_enter Tryz.func118, Tryz.ntmps118
 go_wp2
 go_loopg [1, 5] (l.length) (fun kq v1 v5 w' => ∃ (i kk : Int), v1 = .int .i64 kk ∧ v5 = .int .i64 i ∧ 0 ≤ i ∧ i ≤ l.length ∧ 0 ≤ kk ∧ kk ≤ 1000000000 ∧ Aside0 (kk = kOf k l i) ∧ Aside0 (kq = l.length - i.toNat) ∧ Aside0 (Below w.heap.size w w'))
 case atStart => exact ⟨0, k, rfl, rfl, by omega, by omega, hk0, by have := (kOf_le k l 0); rw [kOf_zero] at this; have := hk1.out; omega, ⟨(kOf_zero k l).symm⟩, ⟨rfl⟩, ⟨Below.refl _ _⟩⟩
 case round =>
  obtain ⟨i, kk, rfl, rfl, h0, hi, q0, q1, HQ, HK, HB⟩ := hrel
  by_cases hlt : i < l.length
  ·have hks := kOf_succ k l h0 hlt
   have hke := (kOf_le k l (i + 1)).2
   obtain ⟨nl, hy⟩ : ∃ nl, (l.getD i.toNat z41).f3.length = nl := ⟨_, rfl⟩
   unfold eLen at hks
   rw [hy] at hks
   have q2 : kk + 3 + 5 * (nl : Int) ≤ 1000000000 := by have := HQ.out; have := hk1.out; omega
   obtain ⟨ad, A3, c3, e0, x, _, y⟩ := at41 (Kd.C_below HR.out HB.out) i h0 (by omega)
   have he : rd_T41 (mkE k l) i = ⟨kk, kk + 1, mt (kk + 1 + 1), mkL (kk + 1 + 1 + 1) nl⟩ := by rw [mkE1_eq, ← hy, HQ.out]; exact mkE_get k l h0 hlt
   rw [he] at x y
   simp only [At41, mkL_length] at x y
   cases e0
   replace hks := Aside0.mk hks
   clear hke hy he
   have HY := Aside0.mk y
   have MK := Aside0.mk (show ∀ W, Below wr.heap.size wr W → (Below wr.heap.size wr W ∧ W.cell? (ad.add (i.toNat * 4)) = some (.int .i64 kk) ∧ W.cell? ⟨(ad.add (i.toNat * 4)).block, (ad.add (i.toNat * 4)).off + 1, none⟩ = some (.int .i64 (kk + 1)) ∧ W.cell? ⟨(ad.add (i.toNat * 4)).block, (ad.add (i.toNat * 4)).off + 2, none⟩ = some (.string (mt (kk + 1 + 1))) ∧ W.cell? ⟨(ad.add (i.toNat * 4)).block, (ad.add (i.toNat * 4)).off + 3, none⟩ = some (.slice A3 nl c3)) from fun W hb => ⟨hb, pw_cell_below hb x.1, pw_cell_below hb x.2.1, pw_cell_below hb x.2.2.1, pw_cell_below hb x.2.2.2⟩)
   obtain ⟨x0, x1, x2, x3⟩ := x
   clear y
   go_wp2
   go_region_held3 (fun w' => Below wr.heap.size wr w' ∧ w'.cell? (ad.add (i.toNat * 4)) = some (.int .i64 kk) ∧ w'.cell? ⟨(ad.add (i.toNat * 4)).block, (ad.add (i.toNat * 4)).off + 1, none⟩ = some (.int .i64 (kk + 1)) ∧ w'.cell? ⟨(ad.add (i.toNat * 4)).block, (ad.add (i.toNat * 4)).off + 2, none⟩ = some (.string (mt (kk + 1 + 1))) ∧ w'.cell? ⟨(ad.add (i.toNat * 4)).block, (ad.add (i.toNat * 4)).off + 3, none⟩ = some (.slice A3 nl c3)) ((refine MK.out _ ?_; repeat (with_reducible first | assumption | exact And.left (by assumption) | exact Below.refl _ _ | apply below_drew1 | apply below_alloc | refine below_step ?_ (by assumption)))) (first | (go_at_call 133; refine (markText_calls (kk + 1 + 1) (by omega) _).mono ?_; rintro e w1 ⟨rfl, hb⟩))
   have hw := ‹Below wr.heap.size wr _ ∧ _›
   obtain ⟨hbw, y0, y1, y2, y3⟩ := hw
   have HB2 := Aside0.mk (below_step HB.out hbw)
   have HY2 := Aside0.mk (Kd.C_below HY.out hbw)
   clear HB MK hbw
   go_wp2_with (go_at_call 134; refine (heldLineS_calls _ _ (kk + 1 + 1 + 1) nl (by omega) (by omega) _ HY2.out).mono ?_; rintro e w2 ⟨rfl, hb2⟩)
   go_roundg (l.length - (i + 1).toNat)
   case measure => have := HK.out; omega
   case rel => exact ⟨i + 1, _, rfl, rfl, by omega, by omega, by omega, by omega, ⟨by rw [hks.out, ← HQ.out]; omega⟩, ⟨rfl⟩, ⟨below_step HB2.out hb2⟩⟩
  ·have hkk : kk = k + sumC eLen l := by rw [← kOf_all k l (i := i) (by omega)]; exact HQ.out
   replace hkk := Aside0.mk hkk
   go_wp2
   go_ret
   exact ⟨ret_i hkk.out, HB.out⟩
def bLen (b : BooksD) : Int := 3 * (b.frame.chart.length : Int) + sumC eLen b.ledg.entries + 2 * (b.periods.length : Int)
/-- What marking makes of books. -/
def mkB (k : Int) (b : BooksD) : BooksD := ⟨⟨mkA k b.frame.chart.length, b.frame.dims, b.frame.curs⟩, ⟨mkE (k + 3 * b.frame.chart.length) b.ledg.entries, b.ledg.head⟩, mkP (k + 3 * b.frame.chart.length + sumC eLen b.ledg.entries) b.periods.length, b.closed, b.kept⟩
set_option maxRecDepth 100000 in
theorem heldFrame_calls (A : Option Addr) (c : Nat) (k : Int) (n : Nat) (d1 d2 : Int) (hk0 : 0 ≤ k) (hk1 : k + 3 * n ≤ 1000000000) (w : World) (hr : Kd.C k48 w A n (mkA k n)) :
  Calls Tryz.prog 78 #[.agg #[.slice A n c, .int .i64 d1, .int .i64 d2], .int .i64 k] w fun e w' => e = .returned (.int .i64 (k + 3 * n)) ∧ Below w.heap.size w w' := by
 have hu := Tryz.underlying26
 have HR := Aside0.mk hr
 clear hr
 go_enter Tryz.func78, Tryz.ntmps78
 go_wp2_with (go_at_call 117; refine (heldAccountS_calls _ _ k n hk0 hk1 _ (Kd.C_below HR.out (by repeat (with_reducible first | assumption | exact Below.refl _ _ | apply below_alloc | apply below_drew1 | refine below_set ?_ (by omega) | refine below_step ?_ (by assumption))))).mono ?_; rintro e w1 ⟨rfl, hb⟩)
 go_ret
 exact ⟨rfl, (by repeat (with_reducible first | assumption | exact Below.refl _ _ | apply below_alloc | apply below_drew1 | refine below_set ?_ (by omega) | refine below_step ?_ (by assumption)))⟩
set_option maxRecDepth 100000 in
theorem heldLedger_calls (A : Option Addr) (c : Nat) (k : Int) (l : List S41) (d1 : Int) (hk0 : 0 ≤ k) (hk1 : k + sumC eLen l ≤ 1000000000) (w : World) (hr : Kd.C k41 w A l.length (mkE k l)) :
  Calls Tryz.prog 79 #[.agg #[.slice A l.length c, .int .i64 d1], .int .i64 k] w fun e w' => e = .returned (.int .i64 (k + sumC eLen l)) ∧ Below w.heap.size w w' := by
 have hu := Tryz.underlying29
 have HR := Aside0.mk hr
 have hn : 0 ≤ k + sumC eLen l := by have := sumC_nonneg eLen_nn l; omega
 clear hr
 go_enter Tryz.func79, Tryz.ntmps79
 go_wp2_with (go_at_call 118; refine (heldEntryS_calls _ _ k l hk0 hk1 _ (Kd.C_below HR.out (by repeat (with_reducible first | assumption | exact Below.refl _ _ | apply below_alloc | apply below_drew1 | refine below_set ?_ (by omega) | refine below_step ?_ (by assumption))))).mono ?_; rintro e w1 ⟨rfl, hb⟩)
 go_ret
 exact ⟨rfl, (by repeat (with_reducible first | assumption | exact Below.refl _ _ | apply below_alloc | apply below_drew1 | refine below_set ?_ (by omega) | refine below_step ?_ (by assumption)))⟩
set_option maxRecDepth 100000 in
theorem heldBooks_calls (a : ABooks) (b : BooksD) (k : Int) (hk0 : 0 ≤ k) (hk1 : k + bLen b ≤ 1000000000) (w : World) (hr : RdB w a (mkB k b)) :
  Calls Tryz.prog 27 #[valB a (mkB k b), .int .i64 k] w fun e w' => e = .returned (.int .i64 (k + bLen b)) ∧ Below w.heap.size w w' := by
 have hu := Tryz.underlying32
 have hu2 := Tryz.underlying26
 have hu3 := Tryz.underlying29
 obtain ⟨r0, r3, r5⟩ := hr
 simp only [mkB, mkA_length, mkE_length, mkP_length] at r0 r3 r5
 simp only [valB, mkB, mkA_length, mkE_length, mkP_length]
 have HR0 := Aside0.mk r0
 have HR3 := Aside0.mk r3
 have HR5 := Aside0.mk r5
 clear r0 r3 r5
 have hn := sumC_nonneg eLen_nn b.ledg.entries
 have HX := Aside0.mk (show k + 3 * (b.frame.chart.length : Int) + sumC eLen b.ledg.entries + 2 * (b.periods.length : Int) = k + bLen b by unfold bLen; omega)
 unfold bLen at hk1
 have HS := Aside0.mk (show k + 3 * (b.frame.chart.length : Int) + sumC eLen b.ledg.entries ≤ 1000000000 by omega)
 have p1 : k + 3 * (b.frame.chart.length : Int) + sumC eLen b.ledg.entries ≥ 0 := by omega
 have p2 : k + 3 * (b.frame.chart.length : Int) + sumC eLen b.ledg.entries + 2 * (b.periods.length : Int) ≤ 1000000000 := by omega
 have p3 : k + 3 * (b.frame.chart.length : Int) ≤ 1000000000 := by omega
 have p4 : k + 3 * (b.frame.chart.length : Int) ≥ 0 := by omega
 go_enter Tryz.func27, Tryz.ntmps27
 go_wp2_with (first
  | (go_at_call 78; refine (heldFrame_calls _ _ k b.frame.chart.length _ _ hk0 p3 _ (Kd.C_below HR0.out (by repeat (with_reducible first | assumption | exact Below.refl _ _ | apply below_alloc | apply below_drew1 | refine below_set ?_ (by omega) | refine below_step ?_ (by assumption))))).mono ?_; rintro e w1 ⟨rfl, hb1⟩; obtain ⟨hc1, hf1⟩ := bcell hb1; have hz1 := hb1.size; (try simp at hz1); have hy1 : w.heap.size < w1.heap.size := (by omega); have hx1 : w.heap.size + 1 < w1.heap.size + 1 := (by omega))
  | (go_at_call 79; refine (heldLedger_calls _ _ (k + 3 * (b.frame.chart.length : Int)) b.ledg.entries _ p4 HS.out _ (Kd.C_below HR3.out (by repeat (with_reducible first | assumption | exact Below.refl _ _ | apply below_alloc | apply below_drew1 | refine below_set ?_ (by omega) | refine below_step ?_ (by assumption))))).mono ?_; rintro e w2 ⟨rfl, hb2⟩; obtain ⟨hc2, hf2⟩ := bcell hb2; have hz2 := hb2.size; (try simp at hz2); have hy2 : w.heap.size < w2.heap.size := (by omega); have hx2 : w.heap.size + 1 < w2.heap.size + 1 := (by omega))
  | (go_at_call 80; refine (heldPeriodS_calls _ _ (k + 3 * (b.frame.chart.length : Int) + sumC eLen b.ledg.entries) b.periods.length p1 p2 _ (Kd.C_below HR5.out (by repeat (with_reducible first | assumption | exact Below.refl _ _ | apply below_alloc | apply below_drew1 | refine below_set ?_ (by omega) | refine below_step ?_ (by assumption))))).mono ?_; rintro e w3 ⟨rfl, hb3⟩))
 go_ret
 exact ⟨ret_i HX.out, (by repeat (with_reducible first | assumption | exact Below.refl _ _ | apply below_alloc | apply below_drew1 | refine below_set ?_ (by omega) | refine below_step ?_ (by assumption)))⟩
end Go.Proofs.YtheaeffhhbjpmaaGreatDoor
namespace Go.Proofs.YtheaeffhhbjpmaaGreatDoor
open Go.RowKit Go.Proofs.YtheaeffhhbjpmaaGreatDoorW.PrintWords Go.Proofs.YtheaeffhhbjpmaaGreatDoorW.PrintLast
set_option linter.unusedVariables false
set_option linter.unusedSimpArgs false
theorem Left.cell {P : Nat → Prop} {W w1 : World} (h : Left P W w1) {b : Nat} (hb : b < W.heap.size) (hn : ¬ P b) (o : Nat) : w1.cell? ⟨b, o, none⟩ = W.cell? ⟨b, o, none⟩ := World.cell?_of_block (w := W) (a := ⟨b, o, none⟩) (h.2 b hb hn)
theorem Left.ofAlloc {P : Nat → Prop} {w W : World} (o : Obj) (h : Left P (w.alloc o) W) : Left P w W := ⟨by have := h.1; simp at this; omega, fun i hi hn => (h.2 i (by simp; omega) hn).trans (Below.heap_alloc w o i hi)⟩
theorem S_apartB {W : World} {base e' : Nat} {ok : Nat → Prop} {u v : Value} {xs : List S41} (h : Kd.S k41 41 W base ok u xs) (hty : ∀ k, v.ownBlock = some k → ∃ cells, W.heap[k]? = some (.cells cells e' (0, 0))) (ht : ∀ q, q ∈ [41, 88] → q ≠ e') : Kd.S k41 41 W base (fun k => ok k ∧ some k ≠ v.ownBlock) u xs := by
 obtain ⟨f, h⟩ := h
 exact ⟨f, Kd.R_apart' h hty ht⟩
theorem R_left {α : Type} {d : Kd α} {e base : Nat} {w w1 : World} {ok P : Nat → Prop} {v : Value} {xs : List α} (h : d.R e w base ok v xs) (hL : Left P w w1) (hn : ∀ k, ok k → ¬ P k) : d.R e w1 base ok v xs := Kd.R_step h (fun k hk hlt => hL.2 k hlt (hn k hk))
theorem S_left {α : Type} {d : Kd α} {e base : Nat} {w w1 : World} {ok P : Nat → Prop} {v : Value} {xs : List α} (h : Kd.S d e w base ok v xs) (hL : Left P w w1) (hn : ∀ k, ok k → ¬ P k) : Kd.S d e w1 base ok v xs := Kd.S_step h (fun k hk hlt => hL.2 k hlt (hn k hk))
/-- A books' value in memory of the call's own: its blocks are P's. -/
structure OwnP (w : World) (base : Nat) (P : Nat → Prop) (a : ABooks) (b : BooksD) : Prop where
 o0 : k48.R 48 w base P (.slice a.A0 b.frame.chart.length a.c0) b.frame.chart
 o3 : Kd.S k41 41 w base P (.slice a.A3 b.ledg.entries.length a.c3) b.ledg.entries
 o5 : k84.R 84 w base P (.slice a.A5 b.periods.length a.c5) b.periods
theorem OwnP.below {w w1 : World} {base : Nat} {P : Nat → Prop} {a : ABooks} {b : BooksD} (h : OwnP w base P a b) (hb : Below w.heap.size w w1) : OwnP w1 base P a b := ⟨Kd.R_below h.o0 hb, Kd.S_below h.o3 hb, Kd.R_below h.o5 hb⟩
theorem OwnP.left {w w1 : World} {base : Nat} {P Q : Nat → Prop} {a : ABooks} {b : BooksD} (h : OwnP w base P a b) (hL : Left Q w w1) (hn : ∀ k, P k → ¬ Q k) : OwnP w1 base P a b := ⟨R_left h.o0 hL hn, S_left h.o3 hL hn, R_left h.o5 hL hn⟩
theorem OwnP.rd {w : World} {base : Nat} {P : Nat → Prop} {a : ABooks} {b : BooksD} (h : OwnP w base P a b) : RdB w a b := ⟨(Kd.R_reads' h.o0).2.2, (Kd.S_reads' h.o3).2.2, (Kd.R_reads' h.o5).2.2⟩
theorem OwnB.range {w : World} {base : Nat} {a : ABooks} {b : BooksD} (h : OwnB w base a b) : OwnP w base (fun k => base ≤ k ∧ k < w.heap.size) a b :=
 ⟨Kd.R_mono (Kd.R_bound h.o0) (fun k hk => ⟨hk.2.1, hk.2.2.1⟩), Kd.S_mono (Kd.S_bound h.o3) (fun k hk => ⟨hk.2.1, hk.2.2.1⟩), Kd.R_mono (Kd.R_bound h.o5) (fun k hk => ⟨hk.2.1, hk.2.2.1⟩)⟩
set_option maxRecDepth 100000 in
theorem markFrame_calls (P : Nat → Prop) (v : Value) (l : List S48) (d1 d2 k : Int) (hk0 : 0 ≤ k) (hk1 : k + 3 * l.length ≤ 1000000000) (base : Nat) (w : World) (hbase : base ≤ w.heap.size) (hP : ∀ k, P k → k < w.heap.size) (hr : k48.R 48 w base P v l) :
  Calls Tryz.prog 74 #[.agg #[v, .int .i64 d1, .int .i64 d2], .int .i64 k] w fun e w' => e = .returned (.int .i64 (k + 3 * l.length)) ∧ k48.R 48 w' base P v (mkA k l.length) ∧ Below base w w' ∧ Left P w w' := by
 have hu := Tryz.underlying26
 obtain ⟨A, c, rfl⟩ := Kd.R_slice hr
 have HR := Aside0.mk hr
 have HP := Aside0.mk hP
 clear hr hP
 go_enter Tryz.func74, Tryz.ntmps74
 go_wp2_with (go_at_call 115; refine (markAccountS_calls P _ l k hk0 hk1 base _ (by simp; omega) (Kd.R_alloc HR.out _)).mono ?_; rintro e w1 ⟨rfl, hr1, hb1, hl1⟩; replace hr1 := Aside0.mk hr1; replace hb1 := Aside0.mk hb1; replace hl1 := Aside0.mk hl1)
 go_ret
 exact ⟨rfl, hr1.out, ((Below.refl _ _).alloc hbase _).trans hb1.out, hl1.out.ofAlloc⟩
set_option maxRecDepth 100000 in
theorem markEntry_calls (P : Nat → Prop) (v : Value) (l : List S88) (d1 d2 : Int) (t : ByteArray) (k : Int) (hk0 : 0 ≤ k) (hk1 : k + 5 * l.length ≤ 1000000000) (base : Nat) (w : World) (hbase : base ≤ w.heap.size) (hr : k88.R 88 w base P v l) :
  Calls Tryz.prog 26 #[.agg #[.int .i64 d1, .int .i64 d2, .string t, v], .int .i64 k] w fun e w' => e = .returned (.int .i64 (k + 5 * l.length)) ∧ k88.R 88 w' base P v (mkL k l.length) ∧ Below base w w' ∧ Left P w w' := by
 have hu := Tryz.underlying41
 obtain ⟨A, c, rfl⟩ := Kd.R_slice hr
 have HR := Aside0.mk hr
 clear hr
 go_enter Tryz.func26, Tryz.ntmps26
 go_wp2_with (go_at_call 77; refine (markLineS_calls P _ l k hk0 hk1 base _ (by simp; omega) (Kd.R_alloc HR.out _)).mono ?_; rintro e w1 ⟨rfl, hr1, hb1, hl1⟩; replace hr1 := Aside0.mk hr1; replace hb1 := Aside0.mk hb1; replace hl1 := Aside0.mk hl1)
 go_ret
 exact ⟨rfl, hr1.out, ((Below.refl _ _).alloc hbase _).trans hb1.out, hl1.out.ofAlloc⟩
set_option maxRecDepth 100000 in
theorem markLedger_calls (P : Nat → Prop) (v : Value) (l : List S41) (d1 k : Int) (hk0 : 0 ≤ k) (hk1 : k + sumC eLen l ≤ 1000000000) (base : Nat) (w : World) (hbase : base ≤ w.heap.size) (hr : Kd.S k41 41 w base P v l) :
  Calls Tryz.prog 75 #[.agg #[v, .int .i64 d1], .int .i64 k] w fun e w' => e = .returned (.int .i64 (k + sumC eLen l)) ∧ Kd.S k41 41 w' base P v (mkE k l) ∧ Below base w w' ∧ Left P w w' := by
 have hu := Tryz.underlying29
 obtain ⟨A, c, rfl⟩ := Kd.S_slice hr
 have HR := Aside0.mk hr
 clear hr
 go_enter Tryz.func75, Tryz.ntmps75
 go_wp2_with (go_at_call 116; refine (markEntryS_calls P _ l k hk0 hk1 base _ (by simp; omega) (Kd.S_alloc HR.out _)).mono ?_; rintro e w1 ⟨rfl, hr1, hb1, hl1⟩; replace hr1 := Aside0.mk hr1; replace hb1 := Aside0.mk hb1; replace hl1 := Aside0.mk hl1)
 go_ret
 exact ⟨rfl, hr1.out, ((Below.refl _ _).alloc hbase _).trans hb1.out, hl1.out.ofAlloc⟩
/-- Its three rows lie apart, by their elements' types. -/
theorem OwnP.split {w : World} {base : Nat} {P : Nat → Prop} {a : ABooks} {b : BooksD} (h : OwnP w base P a b) : ∃ P0 PE PD : Nat → Prop,
  k48.R 48 w base P0 (.slice a.A0 b.frame.chart.length a.c0) b.frame.chart ∧ Kd.S k41 41 w base PE (.slice a.A3 b.ledg.entries.length a.c3) b.ledg.entries ∧ k84.R 84 w base PD (.slice a.A5 b.periods.length a.c5) b.periods ∧
  (∀ k, P0 k → P k) ∧ (∀ k, PE k → P k) ∧ (∀ k, PD k → P k) ∧ (∀ k, PE k → ¬ P0 k) ∧ (∀ k, PD k → ¬ P0 k) ∧ (∀ k, PE k → ¬ PD k) := by
 obtain ⟨r0, r3, r5⟩ := h
 refine ⟨_, _, _, Kd.R_tight rfl r0, S_apartB (S_apartB r3 (e' := 48) (Kd.R_typed r0) (by decide)) (e' := 84) (Kd.R_typed r5) (by decide), Kd.R_apart' (Kd.R_tight rfl r5) (e' := 48) (Kd.R_typed r0) (by decide), fun k hk => r0.1 k hk.symm, fun k hk => hk.1.1, fun k hk => r5.1 k hk.1.symm, fun k hk => hk.1.2, fun k hk => hk.2, fun k hk h => hk.2 h.1⟩
set_option maxRecDepth 100000 in
set_option maxHeartbeats 1000000 in
theorem markBooks_calls (P : Nat → Prop) (a : ABooks) (b : BooksD) (k : Int) (hk0 : 0 ≤ k) (hk1 : k + bLen b ≤ 1000000000) (base : Nat) (w : World) (hbase : base ≤ w.heap.size) (hP : ∀ k, P k → k < w.heap.size) (hr : OwnP w base P a b) :
  Calls Tryz.prog 25 #[valB a b, .int .i64 k] w fun e w' => e = .returned (.int .i64 (k + bLen b)) ∧ OwnP w' base P a (mkB k b) ∧ Below base w w' ∧ Left P w w' := by
 have hu := Tryz.underlying32
 have hu2 := Tryz.underlying26
 have hu3 := Tryz.underlying29
 obtain ⟨P0, PE, PD, q0, q3, q5, i0, iE, iD, n0, n1, n2⟩ := hr.split
 clear hr
 have hn := sumC_nonneg eLen_nn b.ledg.entries
 have HX := Aside0.mk (show k + 3 * (b.frame.chart.length : Int) + sumC eLen b.ledg.entries + 2 * (b.periods.length : Int) = k + bLen b by unfold bLen; omega)
 unfold bLen at hk1
 have HS := Aside0.mk (show k + 3 * (b.frame.chart.length : Int) + sumC eLen b.ledg.entries ≤ 1000000000 by omega)
 have p1 : 0 ≤ k + 3 * (b.frame.chart.length : Int) + sumC eLen b.ledg.entries := by omega
 have p2 : k + 3 * (b.frame.chart.length : Int) + sumC eLen b.ledg.entries + 2 * (b.periods.length : Int) ≤ 1000000000 := by omega
 have p3 : k + 3 * (b.frame.chart.length : Int) ≤ 1000000000 := by omega
 have p4 : 0 ≤ k + 3 * (b.frame.chart.length : Int) := by omega
 have HA := Aside0.mk q0
 have HE := Aside0.mk q3
 have HD := Aside0.mk q5
 have HP := Aside0.mk hP
 have I0 := Aside0.mk i0
 have IE := Aside0.mk iE
 have ID := Aside0.mk iD
 have N0 := Aside0.mk n0
 have N1 := Aside0.mk n1
 have N2 := Aside0.mk n2
 clear q0 q3 q5 hP hk1 hn i0 iE iD n0 n1 n2
 have bx : ∀ k, P k → k ≠ w.heap.size := fun k hk e => by have := HP.out k hk; omega
 replace bx := Aside0.mk bx
 go_enter Tryz.func25, Tryz.ntmps25
 go_wp2_with fail
 refine (markFrame_calls P0 _ b.frame.chart _ _ k hk0 p3 base _ (by simp; omega) (fun k hk => by simp; have := HP.out k (I0.out k hk); omega) (Kd.R_alloc HA.out _)).mono ?_
 rintro e w1 ⟨rfl, hr1, hb1, hl1⟩
 have hc1 : ∀ o, w1.cell? ⟨w.heap.size, o, none⟩ = _ := fun o => hl1.cell (b := w.heap.size) (by simp) (fun h => bx.out _ (I0.out _ h) rfl) o
 have hs1 := hl1.1
 simp at hs1
 have HE1 := Aside0.mk (S_left (Kd.S_alloc HE.out _) hl1 N0.out)
 have HD1 := Aside0.mk (R_left (Kd.R_alloc HD.out _) hl1 N1.out)
 replace hr1 := Aside0.mk hr1
 replace hb1 := Aside0.mk hb1
 replace hl1 := Aside0.mk hl1
 go_wp2_with fail
 refine (markLedger_calls PE _ b.ledg.entries _ _ p4 HS.out base _ (by omega) HE1.out).mono ?_
 rintro e w2 ⟨rfl, hr2, hb2, hl2⟩
 have hc2 : ∀ o, w2.cell? ⟨w.heap.size, o, none⟩ = _ := fun o => hl2.cell (b := w.heap.size) (by omega) (fun h => bx.out _ (IE.out _ h) rfl) o
 have hs2 := hl2.1
 have HA2 := Aside0.mk (R_left hr1.out hl2 (fun k hk h => N0.out k h hk))
 have HD2 := Aside0.mk (R_left HD1.out hl2 (fun k hk h => N2.out k h hk))
 replace hr2 := Aside0.mk hr2
 replace hb2 := Aside0.mk hb2
 replace hl2 := Aside0.mk hl2
 go_wp2_with fail
 refine (markPeriodS_calls PD _ b.periods _ p1 p2 base _ (by omega) HD2.out).mono ?_
 rintro e w3 ⟨rfl, hr3, hb3, hl3⟩
 have HA3 := Aside0.mk (R_left HA2.out hl3 (fun k hk h => N1.out k h hk))
 have HE3 := Aside0.mk (S_left hr2.out hl3 (fun k hk h => N2.out k hk h))
 replace hr3 := Aside0.mk hr3
 replace hb3 := Aside0.mk hb3
 replace hl3 := Aside0.mk hl3
 go_wp2_with fail
 go_ret
 refine ⟨ret_i HX.out, ⟨?_, ?_, ?_⟩, (((Below.refl _ _).alloc hbase _).trans hb1.out).trans (hb2.out.trans hb3.out), ?_⟩
 ·simp only [mkB, mkA_length]; exact Kd.R_mono HA3.out I0.out
 ·simp only [mkB, mkE_length]; exact Kd.S_mono HE3.out IE.out
 ·simp only [mkB, mkP_length]; exact Kd.R_mono hr3.out ID.out
 ·exact ((hl1.out.mono I0.out).ofAlloc.trans (hl2.out.mono IE.out)).trans (hl3.out.mono ID.out)
end Go.Proofs.YtheaeffhhbjpmaaGreatDoor

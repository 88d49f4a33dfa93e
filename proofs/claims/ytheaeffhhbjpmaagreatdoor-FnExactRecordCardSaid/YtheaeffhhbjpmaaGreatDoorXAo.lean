/- What a law's books and entry are, read as data: lists of structs in memory, with their bounds. -/
import Derived.Test.YtheaeffhhbjpmaaGreatDoorXSz
import Derived.ChangeArms
import Derived.ChangeSame
import Derived.DataReads
namespace Go.Proofs.YtheaeffhhbjpmaaGreatDoor
open Go.RowKit Go.Proofs.YtheaeffhhbjpmaaGreatDoorW.PrintWords Go.Proofs.YtheaeffhhbjpmaaGreatDoorW.PrintLast
set_option linter.unusedVariables false
set_option linter.unusedSimpArgs false
section
variable {H : Type} {enc : TypeId × Value → H} {W : World}
abbrev Small (D : DataW H) (t : TypeId) : Prop := ∀ n ∈ D.weights Tryz.prog t, n ≤ 140737488351232
/-- What reads as data of type t is an x of which K and Q hold. -/
def Opn {α : Type} (enc : TypeId × Value → H) (W : World) (t : TypeId) (K : α → List Value → Prop) (Q : α → Prop) : Prop :=
 ∀ fuel cs D ps, DataW.trod enc Tryz.prog W 0 (fun _ => true) true fuel t cs = some (D, ps) → Small D t → ∃ x, K x cs ∧ Q x
theorem list_of {α : Type} {P : Nat → α → Prop} : ∀ n : Nat, (∀ i, i < n → ∃ x, P i x) → ∃ xs : List α, xs.length = n ∧ ∀ i x, xs[i]? = some x → P i x
 | 0, _ => ⟨[], rfl, fun i x h => by simp at h⟩
 | n + 1, h => by
  obtain ⟨xs, hl, hx⟩ := list_of n (fun i hi => h i (by omega))
  obtain ⟨x, hxn⟩ := h n (by omega)
  refine ⟨xs ++ [x], by simp [hl], fun i y hy => ?_⟩
  by_cases hi : i < n
  ·rw [List.getElem?_append_left (by omega)] at hy
   exact hx i y hy
  ·have hlt : i < (xs ++ [x]).length := (List.getElem?_eq_some_iff.1 hy).1
   have : i = n := by simp [hl] at hlt; omega
   subst this
   rw [List.getElem?_append_right (by omega), hl] at hy
   simp at hy
   subst hy
   exact hxn
theorem weights_all_mem {P : Program} {e : TypeId} {n : Nat} : ∀ {l : List (DataW H)} {d : DataW H}, d ∈ l → n ∈ d.weights P e → n ∈ DataW.weightsAll P e l
 | a :: t, d, hd, hn => by
  simp only [DataW.weightsAll, List.mem_append]
  rcases List.mem_cons.1 hd with rfl | hd
  ·exact .inl hn
  ·exact .inr (weights_all_mem hd hn)
theorem opn_slice {α : Type} {t e : TypeId} {d : Kd α} {Q : α → Prop} (ht : Tryz.prog.underlying t = some (.slice e)) (hsz : Tryz.prog.cellsOf e = d.sz) (hby : 1 ≤ Tryz.prog.bytesOf e) (ho : Opn enc W e (d.K W) Q)
  {fuel : Nat} {cs : List Value} {D : DataW H} {ps : List MemPlace} (h : DataW.trod enc Tryz.prog W 0 (fun _ => true) true fuel t cs = some (D, ps)) (hw : Small D t) :
  ∃ (A : Option Addr) (c : Nat) (xs : List α), cs = [.slice A xs.length c] ∧ xs.length ≤ c ∧ Kd.C d W A xs.length xs ∧ (∀ x ∈ xs, Q x) ∧ xs.length ≤ 140737488351232 := by
 rcases DataW.trod_slice ht h with ⟨rfl, hx⟩ | ⟨a, len, cap, elems, rest, n, rfl, rfl, hx, _, hlc, hcm, hel, he, _, _⟩
 ·exact ⟨none, 0, [], rfl, Nat.le_refl _, Kd.C_nil d W, by simp, by simp⟩
 ·injection hx with hD hp
  subst hD
  have hlen : len ≤ 140737488351232 := by
   have h1 := hw ((elems.map (·.1)).length * 1 + ((elems.map (·.1)).length + (rest.map (·.1)).length) * Tryz.prog.bytesOf e - (elems.map (·.1)).length * 1) (by
    simp only [DataW.weights, ht]
    have : (elems.map (·.1)).length * 1 + ((elems.map (·.1)).length + (rest.map (·.1)).length) * Tryz.prog.bytesOf e - (elems.map (·.1)).length * 1 = ((elems.map (·.1)).length + (rest.map (·.1)).length) * Tryz.prog.bytesOf e := by omega
    rw [this]
    exact List.mem_cons_self ..)
   have h2 : (elems.map (·.1)).length * 1 ≤ ((elems.map (·.1)).length + (rest.map (·.1)).length) * Tryz.prog.bytesOf e := Nat.mul_le_mul (Nat.le_add_right _ _) hby
   simp only [List.length_map, hel] at h1 h2
   omega
  have key : ∀ i, i < len → ∃ x : α, ∃ c, c.length = d.sz ∧ d.K W x c ∧ (∀ j u, c[j]? = some u → W.cell? (a.add (i * d.sz + j)) = some u) ∧ Q x := by
   intro i hi
   have h1 := he i hi
   have hi' : i < elems.length := by omega
   rw [List.getElem?_eq_getElem hi'] at h1
   obtain ⟨c, hc, hd⟩ := Option.bind_eq_some_iff.1 h1
   obtain ⟨_, hcl, hcc⟩ := World.cells?_some hc
   obtain ⟨x, hK, hQ⟩ := ho n c (elems[i]).1 (elems[i]).2 hd (fun m hm => hw m (by
    simp only [DataW.weights, ht]
    exact List.mem_cons_of_mem _ (List.mem_append_left _ (weights_all_mem (List.mem_map.2 ⟨elems[i], List.getElem_mem hi', rfl⟩) hm))))
   refine ⟨x, c, by rw [hcl, hsz], hK, fun j u hj => ?_, hQ⟩
   have hj' : j < Tryz.prog.cellsOf e := by rw [← hcl]; exact (List.getElem?_eq_some_iff.1 hj).1
   have h2 := hcc j hj'
   rw [hj, hsz] at h2
   rw [← Go.Proofs.YtheaeffhhbjpmaaGreatDoorW.PrintWords.add_add]
   exact h2
  obtain ⟨xs, hl, hx⟩ := list_of len key
  subst hl
  refine ⟨some a, cap, xs, rfl, hlc, ⟨rfl, by unfold maxLen at hcm; omega, fun _ => ⟨a, rfl, fun j p hj => ?_⟩⟩, fun x hxm => ?_, hlen⟩
  ·obtain ⟨c, h1, h2, h3, _⟩ := hx j p hj
   exact ⟨c, h1, h2, h3⟩
  ·obtain ⟨i, hi⟩ := List.mem_iff_getElem?.1 hxm
   obtain ⟨_, _, _, _, h4⟩ := hx i x hi
   exact h4
/-! elements -/
theorem cl3 : Tryz.prog.cellsOf 3 = 1 := by kernel_rfl
theorem cl9 : Tryz.prog.cellsOf 9 = 1 := by kernel_rfl
theorem cl182 : Tryz.prog.cellsOf 182 = 3 := by kernel_rfl
theorem cl160 : Tryz.prog.cellsOf 160 = 2 := by kernel_rfl
theorem cl162 : Tryz.prog.cellsOf 162 = 5 := by kernel_rfl
theorem cl64 : Tryz.prog.cellsOf 64 = 4 := by kernel_rfl
theorem cl62 : Tryz.prog.cellsOf 62 = 1 := by kernel_rfl
theorem cl53 : Tryz.prog.cellsOf 53 = 1 := by kernel_rfl
theorem cl56 : Tryz.prog.cellsOf 56 = 1 := by kernel_rfl
theorem cl59 : Tryz.prog.cellsOf 59 = 1 := by kernel_rfl
theorem cl55 : Tryz.prog.cellsOf 55 = 3 := by kernel_rfl
theorem cl58 : Tryz.prog.cellsOf 58 = 2 := by kernel_rfl
theorem cl61 : Tryz.prog.cellsOf 61 = 8 := by kernel_rfl
theorem by182 : 1 ≤ Tryz.prog.bytesOf 182 := of_decide_eq_true (by kernel_rfl)
theorem by160 : 1 ≤ Tryz.prog.bytesOf 160 := of_decide_eq_true (by kernel_rfl)
theorem by162 : 1 ≤ Tryz.prog.bytesOf 162 := of_decide_eq_true (by kernel_rfl)
theorem by64 : 1 ≤ Tryz.prog.bytesOf 64 := of_decide_eq_true (by kernel_rfl)
theorem list_len2 {α : Type} {l : List α} (h : l.length = 2) : ∃ a b, l = [a, b] := by match l, h with | [a, b], _ => exact ⟨a, b, rfl⟩
theorem list_len3 {α : Type} {l : List α} (h : l.length = 3) : ∃ a b c, l = [a, b, c] := by match l, h with | [a, b, c], _ => exact ⟨a, b, c, rfl⟩
theorem list_len4 {α : Type} {l : List α} (h : l.length = 4) : ∃ a b c d, l = [a, b, c, d] := by match l, h with | [a, b, c, d], _ => exact ⟨a, b, c, d, rfl⟩
theorem list_len5 {α : Type} {l : List α} (h : l.length = 5) : ∃ a b c d e, l = [a, b, c, d, e] := by match l, h with | [a, b, c, d, e], _ => exact ⟨a, b, c, d, e, rfl⟩
theorem list_len8 {α : Type} {l : List α} (h : l.length = 8) : ∃ a b c d e f g i, l = [a, b, c, d, e, f, g, i] := by match l, h with | [a, b, c, d, e, f, g, i], _ => exact ⟨a, b, c, d, e, f, g, i, rfl⟩
theorem opn48 : Opn enc W 182 (k48.K W) (fun x => (x.f0.size : Int) ≤ 140737488351232) := by
 intro fuel cs D ps h hw
 obtain ⟨xs, n, rfl, hx, hl, hlen, hf⟩ := DataW.trod_struct Tryz.underlying182 h
 injection hx with hD hp
 have f0 := hf 0 _ rfl
 have f1 := hf 1 _ rfl
 have f2 := hf 2 _ rfl
 clear hf hp h
 obtain ⟨y0, y1, y2, rfl⟩ := list_len3 hlen
 rw [cl182] at hl
 obtain ⟨c0, c1, c2, rfl⟩ := list_len3 hl
 subst hD
 simp [cl3, cl9, cl53, cl56, cl59, cl62, cl55, cl58] at f0 f1 f2
 obtain ⟨n0, e0, g0, _⟩ := DataW.trod_string Tryz.underlying9 f0
 simp at e0
 subst e0
 have w0 : n0.size ≤ 140737488351232 := by
  have := hw n0.data.toList.length (by simp [DataW.weights, DataW.weightsEach, Tryz.underlying182, g0])
  rw [Array.length_toList] at this
  exact this
 obtain ⟨n1, e1, g1, _⟩ := DataW.trod_int Tryz.underlying3 f1
 simp at e1
 subst e1
 obtain ⟨n2, e2, g2, _⟩ := DataW.trod_int Tryz.underlying3 f2
 simp at e2
 subst e2
 exact ⟨⟨n0, n1, n2⟩, k48_mk W ⟨n0, n1, n2⟩, by show (n0.size : Int) ≤ _; omega⟩
theorem opn84 : Opn enc W 160 (k84.K W) (fun _ => True) := by
 intro fuel cs D ps h hw
 obtain ⟨xs, n, rfl, hx, hl, hlen, hf⟩ := DataW.trod_struct Tryz.underlying160 h
 injection hx with hD hp
 have f0 := hf 0 _ rfl
 have f1 := hf 1 _ rfl
 clear hf hp h
 obtain ⟨y0, y1, rfl⟩ := list_len2 hlen
 rw [cl160] at hl
 obtain ⟨c0, c1, rfl⟩ := list_len2 hl
 subst hD
 simp [cl3, cl9, cl53, cl56, cl59, cl62, cl55, cl58] at f0 f1
 obtain ⟨n0, e0, g0, _⟩ := DataW.trod_int Tryz.underlying3 f0
 simp at e0
 subst e0
 obtain ⟨n1, e1, g1, _⟩ := DataW.trod_int Tryz.underlying3 f1
 simp at e1
 subst e1
 exact ⟨⟨n0, n1⟩, k84_mk W ⟨n0, n1⟩, trivial⟩
theorem opn88 : Opn enc W 162 (k88.K W) (fun _ => True) := by
 intro fuel cs D ps h hw
 obtain ⟨xs, n, rfl, hx, hl, hlen, hf⟩ := DataW.trod_struct Tryz.underlying162 h
 injection hx with hD hp
 have f0 := hf 0 _ rfl
 have f1 := hf 1 _ rfl
 have f2 := hf 2 _ rfl
 have f3 := hf 3 _ rfl
 have f4 := hf 4 _ rfl
 clear hf hp h
 obtain ⟨y0, y1, y2, y3, y4, rfl⟩ := list_len5 hlen
 rw [cl162] at hl
 obtain ⟨c0, c1, c2, c3, c4, rfl⟩ := list_len5 hl
 subst hD
 simp [cl3, cl9, cl53, cl56, cl59, cl62, cl55, cl58] at f0 f1 f2 f3 f4
 obtain ⟨n0, e0, g0, _⟩ := DataW.trod_int Tryz.underlying3 f0
 simp at e0
 subst e0
 obtain ⟨n1, e1, g1, _⟩ := DataW.trod_int Tryz.underlying3 f1
 simp at e1
 subst e1
 obtain ⟨n2, e2, g2, _⟩ := DataW.trod_int Tryz.underlying3 f2
 simp at e2
 subst e2
 obtain ⟨n3, e3, g3, _⟩ := DataW.trod_int Tryz.underlying3 f3
 simp at e3
 subst e3
 obtain ⟨n4, e4, g4, _⟩ := DataW.trod_int Tryz.underlying3 f4
 simp at e4
 subst e4
 exact ⟨⟨n0, n1, n2, n3, n4⟩, k88_mk W ⟨n0, n1, n2, n3, n4⟩, trivial⟩
theorem opn41 : Opn enc W 64 (k41.K W) (fun x => (x.f2.size : Int) ≤ 140737488351232 ∧ (x.f3.length : Int) ≤ 140737488351232) := by
 intro fuel cs D ps h hw
 obtain ⟨xs, n, rfl, hx, hl, hlen, hf⟩ := DataW.trod_struct Tryz.underlying64 h
 injection hx with hD hp
 have f0 := hf 0 _ rfl
 have f1 := hf 1 _ rfl
 have f2 := hf 2 _ rfl
 have f3 := hf 3 _ rfl
 clear hf hp h
 obtain ⟨y0, y1, y2, y3, rfl⟩ := list_len4 hlen
 rw [cl64] at hl
 obtain ⟨c0, c1, c2, c3, rfl⟩ := list_len4 hl
 subst hD
 simp [cl3, cl9, cl53, cl56, cl59, cl62, cl55, cl58] at f0 f1 f2 f3
 obtain ⟨n0, e0, g0, _⟩ := DataW.trod_int Tryz.underlying3 f0
 simp at e0
 subst e0
 obtain ⟨n1, e1, g1, _⟩ := DataW.trod_int Tryz.underlying3 f1
 simp at e1
 subst e1
 obtain ⟨n2, e2, g2, _⟩ := DataW.trod_string Tryz.underlying9 f2
 simp at e2
 subst e2
 have w2 : n2.size ≤ 140737488351232 := by
  have := hw n2.data.toList.length (by simp [DataW.weights, DataW.weightsEach, Tryz.underlying64, g2])
  rw [Array.length_toList] at this
  exact this
 obtain ⟨A, c, ls, hc, hlc, hC, _, hb⟩ := opn_slice Tryz.underlying62 cl162 by162 (d := k88) (opn88 (enc := enc) (W := W)) (D := y3.1) (ps := y3.2) f3 (fun m hm => hw m (by simp [DataW.weights, DataW.weightsEach, Tryz.underlying64, hm]))
 simp at hc
 subst hc
 exact ⟨⟨n0, n1, n2, ls⟩, k41_mk W ⟨n0, n1, n2, ls⟩ hlc hC, by show (n2.size : Int) ≤ _; omega, by show (ls.length : Int) ≤ _; omega⟩
theorem opnF {fuel : Nat} {cs : List Value} {D : DataW H} {ps : List MemPlace} (h : DataW.trod enc Tryz.prog W 0 (fun _ => true) true fuel 55 cs = some (D, ps)) (hw : Small D 55) :
  ∃ (A : Option Addr) (c : Nat) (f : FrameD), cs = [.slice A f.chart.length c, .int .i64 f.dims, .int .i64 f.curs] ∧ Kd.C k48 W A f.chart.length f.chart ∧ (∀ x ∈ f.chart, (x.f0.size : Int) ≤ 140737488351232) ∧ f.chart.length ≤ 140737488351232 := by
 obtain ⟨xs, n, rfl, hx, hl, hlen, hf⟩ := DataW.trod_struct Tryz.underlying55 h
 injection hx with hD hp
 have f0 := hf 0 _ rfl
 have f1 := hf 1 _ rfl
 have f2 := hf 2 _ rfl
 clear hf hp h
 obtain ⟨y0, y1, y2, rfl⟩ := list_len3 hlen
 rw [cl55] at hl
 obtain ⟨c0, c1, c2, rfl⟩ := list_len3 hl
 subst hD
 simp [cl3, cl9, cl53, cl56, cl59, cl62, cl55, cl58] at f0 f1 f2
 obtain ⟨n1, e1, g1, _⟩ := DataW.trod_int Tryz.underlying3 f1
 simp at e1
 subst e1
 obtain ⟨n2, e2, g2, _⟩ := DataW.trod_int Tryz.underlying3 f2
 simp at e2
 subst e2
 obtain ⟨A, c, ls, hc, hlc, hC, hq, hb⟩ := opn_slice Tryz.underlying53 cl182 by182 (d := k48) (opn48 (enc := enc) (W := W)) (D := y0.1) (ps := y0.2) f0 (fun m hm => hw m (by simp [DataW.weights, DataW.weightsEach, Tryz.underlying55, hm]))
 simp at hc
 subst hc
 exact ⟨A, c, ⟨ls, n1, n2⟩, rfl, hC, hq, hb⟩
theorem opnG {fuel : Nat} {cs : List Value} {D : DataW H} {ps : List MemPlace} (h : DataW.trod enc Tryz.prog W 0 (fun _ => true) true fuel 58 cs = some (D, ps)) (hw : Small D 58) :
  ∃ (A : Option Addr) (c : Nat) (f : LedgD), cs = [.slice A f.entries.length c, .int .i64 f.head] ∧ Kd.C k41 W A f.entries.length f.entries ∧ (∀ x ∈ f.entries, (x.f2.size : Int) ≤ 140737488351232 ∧ (x.f3.length : Int) ≤ 140737488351232) ∧ f.entries.length ≤ 140737488351232 := by
 obtain ⟨xs, n, rfl, hx, hl, hlen, hf⟩ := DataW.trod_struct Tryz.underlying58 h
 injection hx with hD hp
 have f0 := hf 0 _ rfl
 have f1 := hf 1 _ rfl
 clear hf hp h
 obtain ⟨y0, y1, rfl⟩ := list_len2 hlen
 rw [cl58] at hl
 obtain ⟨c0, c1, rfl⟩ := list_len2 hl
 subst hD
 simp [cl3, cl9, cl53, cl56, cl59, cl62, cl55, cl58] at f0 f1
 obtain ⟨n1, e1, g1, _⟩ := DataW.trod_int Tryz.underlying3 f1
 simp at e1
 subst e1
 obtain ⟨A, c, ls, hc, hlc, hC, hq, hb⟩ := opn_slice Tryz.underlying56 cl64 by64 (d := k41) (opn41 (enc := enc) (W := W)) (D := y0.1) (ps := y0.2) f0 (fun m hm => hw m (by simp [DataW.weights, DataW.weightsEach, Tryz.underlying58, hm]))
 simp at hc
 subst hc
 exact ⟨A, c, ⟨ls, n1⟩, rfl, hC, hq, hb⟩
theorem opnB {fuel : Nat} {cs : List Value} {D : DataW H} {ps : List MemPlace} (h : DataW.trod enc Tryz.prog W 0 (fun _ => true) true fuel 61 cs = some (D, ps)) (hw : Small D 61) :
  ∃ (a : ABooks) (b : BooksD), Value.agg cs.toArray = valB a b ∧ RdB W a b ∧ SzB b := by
 obtain ⟨xs, n, rfl, hx, hl, hlen, hf⟩ := DataW.trod_struct Tryz.underlying61 h
 injection hx with hD hp
 have f0 := hf 0 _ rfl
 have f1 := hf 1 _ rfl
 have f2 := hf 2 _ rfl
 have f3 := hf 3 _ rfl
 have f4 := hf 4 _ rfl
 clear hf hp h
 obtain ⟨y0, y1, y2, y3, y4, rfl⟩ := list_len5 hlen
 rw [cl61] at hl
 obtain ⟨c0, c1, c2, c3, c4, c5, c6, c7, rfl⟩ := list_len8 hl
 subst hD
 simp [cl3, cl9, cl53, cl56, cl59, cl62, cl55, cl58] at f0 f1 f2 f3 f4
 obtain ⟨n3, e3, g3, _⟩ := DataW.trod_int Tryz.underlying3 f3
 simp at e3
 subst e3
 obtain ⟨n4, e4, g4, _⟩ := DataW.trod_int Tryz.underlying3 f4
 simp at e4
 subst e4
 obtain ⟨A0, k0, f, hc0, hC0, hq0, hb0⟩ := opnF (D := y0.1) (ps := y0.2) f0 (fun m hm => hw m (by simp [DataW.weights, DataW.weightsEach, Tryz.underlying61, hm]))
 obtain ⟨A3, k3, g, hc3, hC3, hq3, hb3⟩ := opnG (D := y1.1) (ps := y1.2) f1 (fun m hm => hw m (by simp [DataW.weights, DataW.weightsEach, Tryz.underlying61, hm]))
 obtain ⟨A5, k5, ls, hc5, hlc5, hC5, _, hb5⟩ := opn_slice Tryz.underlying59 cl160 by160 (d := k84) (opn84 (enc := enc) (W := W)) (D := y2.1) (ps := y2.2) f2 (fun m hm => hw m (by simp [DataW.weights, DataW.weightsEach, Tryz.underlying61, hm]))
 simp at hc0 hc3 hc5
 obtain ⟨rfl, rfl, rfl⟩ := hc0
 obtain ⟨rfl, rfl⟩ := hc3
 subst hc5
 exact ⟨⟨A0, k0, A3, k3, A5, k5⟩, ⟨f, g, ls, n3, n4⟩, rfl, ⟨hC0, hC3, hC5⟩, ⟨by show (f.chart.length : Int) ≤ _; omega, hq0, by show (g.entries.length : Int) ≤ _; omega, hq3, by show (ls.length : Int) ≤ _; omega⟩⟩
theorem agg_of_cells {v : Value} {l : List Value} (h : v.cells.toList = l) (hl : 2 ≤ l.length) : v = .agg l.toArray := by
 cases v <;> simp [Value.cells] at h <;> subst h <;> first | (simp at hl; done) | simp
end
end Go.Proofs.YtheaeffhhbjpmaaGreatDoor

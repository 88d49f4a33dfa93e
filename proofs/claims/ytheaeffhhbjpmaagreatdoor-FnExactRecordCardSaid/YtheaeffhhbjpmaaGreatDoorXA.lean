/- Small functions of the reference and of the program: whether a number lies between two, is a day, an amount. Plain definitions and laws, without the program: right charts, up-ways, depths, leaves. Of the reference: how many an account is part of; whether a chart is right; whether nothing is part of an account. Of the reference: whether a frame is right, a text, an account that nothing is part of, a line. -/
import Derived.Test.YtheaeffhhbjpmaaGreatDoorXB0
namespace Go.Proofs.YtheaeffhhbjpmaaGreatDoor
open Go.RowKit Go.Proofs.YtheaeffhhbjpmaaGreatDoorW.PrintWords Go.Proofs.YtheaeffhhbjpmaaGreatDoorW.PrintLast
set_option linter.unusedVariables false
set_option linter.unusedSimpArgs false
theorem l1In_calls (x lo hi : Int) (r : Bool) (h : bP (lo ≤ x ∧ x ≤ hi) = r) (w : World) : Calls Tryz.prog 34 #[.int .i64 x, .int .i64 lo, .int .i64 hi] w fun e w' => e = .returned (.bool r) ∧ w = w' := by
 subst h
 by_cases h1 : lo ≤ x
 all_goals
  go_enter Tryz.func34, Tryz.ntmps34
  go_wp2
  go_ret
  exact ⟨ret_b (by by_cases h2 : x ≤ hi <;> simp [bP, h1, h2]), rfl⟩
theorem between_calls (x lo hi : Int) (r : Bool) (h : bP (lo ≤ x ∧ x ≤ hi) = r) (w : World) : Calls Tryz.prog 37 #[.int .i64 x, .int .i64 lo, .int .i64 hi] w fun e w' => e = .returned (.bool r) ∧ w = w' := by
 subst h
 by_cases h1 : lo ≤ x
 all_goals
  go_enter Tryz.func37, Tryz.ntmps37
  go_wp2
  go_ret
  exact ⟨ret_b (by by_cases h2 : x ≤ hi <;> simp [bP, h1, h2]), rfl⟩
theorem isDay_calls (x : Int) (r : Bool) (h : bP (0 ≤ x ∧ x ≤ 40000) = r) (w : World) : Calls Tryz.prog 38 #[.int .i64 x] w fun e w' => e = .returned (.bool r) ∧ w = w' := by
 replace h := Aside0.mk h
 go_enter Tryz.func38, Tryz.ntmps38
 go_wp2_with (go_at_call 37; refine (between_calls x (0) 40000 r h.out _).mono ?_; rintro e w' ⟨rfl, rfl⟩)
 go_ret
 exact ⟨rfl, rfl⟩
theorem amount_calls (x : Int) (r : Bool) (h : bP (-100000000000 ≤ x ∧ x ≤ 100000000000) = r) (w : World) : Calls Tryz.prog 58 #[.int .i64 x] w fun e w' => e = .returned (.bool r) ∧ w = w' := by
 replace h := Aside0.mk h
 go_enter Tryz.func58, Tryz.ntmps58
 go_wp2_with (go_at_call 37; refine (between_calls x (-100000000000) 100000000000 r h.out _).mono ?_; rintro e w' ⟨rfl, rfl⟩)
 go_ret
 exact ⟨rfl, rfl⟩
theorem kindOk_calls (x : Int) (r : Bool) (h : bP (1 ≤ x ∧ x ≤ 5) = r) (w : World) : Calls Tryz.prog 144 #[.int .i64 x] w fun e w' => e = .returned (.bool r) ∧ w = w' := by
 replace h := Aside0.mk h
 go_enter Tryz.func144, Tryz.ntmps144
 go_wp2_with (go_at_call 37; refine (between_calls x (1) 5 r h.out _).mono ?_; rintro e w' ⟨rfl, rfl⟩)
 go_ret
 exact ⟨rfl, rfl⟩
theorem l2Day_calls (x : Int) (r : Bool) (h : bP (0 ≤ x ∧ x ≤ 40000) = r) (w : World) : Calls Tryz.prog 42 #[.int .i64 x] w fun e w' => e = .returned (.bool r) ∧ w = w' := by
 replace h := Aside0.mk h
 go_enter Tryz.func42, Tryz.ntmps42
 go_wp2_with (go_at_call 34; refine (l1In_calls x (0) 40000 r h.out _).mono ?_; rintro e w' ⟨rfl, rfl⟩)
 go_ret
 exact ⟨rfl, rfl⟩
theorem l1Amount_calls (x : Int) (r : Bool) (h : bP (-100000000000 ≤ x ∧ x ≤ 100000000000) = r) (w : World) : Calls Tryz.prog 96 #[.int .i64 x] w fun e w' => e = .returned (.bool r) ∧ w = w' := by
 replace h := Aside0.mk h
 go_enter Tryz.func96, Tryz.ntmps96
 go_wp2_with (go_at_call 34; refine (l1In_calls x (-100000000000) 100000000000 r h.out _).mono ?_; rintro e w' ⟨rfl, rfl⟩)
 go_ret
 exact ⟨rfl, rfl⟩
/-- A byte that a name may hold. -/
def NB (b : Int) : Prop := (97 ≤ b ∧ b ≤ 122) ∨ (65 ≤ b ∧ b ≤ 90) ∨ (48 ≤ b ∧ b ≤ 57) ∨ b = 45 ∨ b = 95 ∨ b = 46
theorem bt_range (s : ByteArray) (i : Int) : 0 ≤ bt s i ∧ bt s i < 256 := by
 unfold bt; split
 ·have := UInt8.toNat_lt (s[i.toNat]); omega
 ·omega
set_option maxRecDepth 100000 in
theorem nameByte_calls (b : Int) (r : Bool) (h : bP (NB b) = r) (w : World) : Calls Tryz.prog 145 #[.int .u8 b] w fun e w' => e = .returned (.bool r) ∧ w = w' := by
 subst h
 rcases (show b < 45 ∨ b = 45 ∨ b = 46 ∨ b = 47 ∨ (48 ≤ b ∧ b ≤ 57) ∨ (58 ≤ b ∧ b ≤ 64) ∨ (65 ≤ b ∧ b ≤ 90) ∨ (91 ≤ b ∧ b ≤ 94) ∨ b = 95 ∨ b = 96 ∨ (97 ≤ b ∧ b ≤ 122) ∨ 123 ≤ b by omega) with h | rfl | rfl | rfl | ⟨h, h'⟩ | ⟨h, h'⟩ | ⟨h, h'⟩ | ⟨h, h'⟩ | rfl | rfl | ⟨h, h'⟩ | h
 all_goals
  go_enter Tryz.func145, Tryz.ntmps145
  go_wp2
  go_ret
  first | exact ⟨ret_b (bP_t (by unfold NB; omega)).symm, rfl⟩ | exact ⟨ret_b (bP_f (by unfold NB; omega)).symm, rfl⟩ | exact ⟨ret_b (Eq.trans (b := false) (by simp; omega) (bP_f (show ¬ NB b by unfold NB; omega)).symm), rfl⟩ | exact ⟨ret_b (Eq.trans (b := true) (by simp; omega) (bP_t (show NB b by unfold NB; omega)).symm), rfl⟩
/-- A name. -/
def NameP (s : ByteArray) : Prop := 1 ≤ s.size ∧ s.size ≤ 20 ∧ ∀ i : Int, 0 ≤ i → i < s.size → NB (bt s i)
theorem bt_at (s : ByteArray) (k : Nat) (h : k < s.size) : bt s k = (s[k].toNat : Int) := by unfold bt; simp [h]
set_option maxRecDepth 100000 in
theorem iNameOk_calls (s : ByteArray) (r : Bool) (h : bP (NameP s) = r) (w : World) : Calls Tryz.prog 143 #[.string s] w fun e w' => e = .returned (.bool r) ∧ w = w' := by
 subst h
 by_cases h1 : s.size < 1
 ·have HF := Aside0.mk (bP_f (show ¬ NameP s from fun h => by have := h.1; omega))
  go_enter Tryz.func143, Tryz.ntmps143
  go_wp2
  go_ret
  exact ⟨ret_b HF.out.symm, rfl⟩
 by_cases h2 : 20 < s.size
 ·have HF := Aside0.mk (bP_f (show ¬ NameP s from fun h => by have := h.2.1; omega))
  go_enter Tryz.func143, Tryz.ntmps143
  go_wp2
  go_ret
  exact ⟨ret_b HF.out.symm, rfl⟩
 have h3 : 1 ≤ s.size := by omega
 have h4 : s.size ≤ 20 := by omega
 clear h1 h2
 go_enter Tryz.func143, Tryz.ntmps143
 go_wp2
 go_loopg [3] s.size (fun kq v3 w' => ∃ i : Nat, v3 = .int .i64 i ∧ i ≤ s.size ∧ Aside0 (kq = s.size - i) ∧ Aside0 (∀ j : Int, 0 ≤ j → j < i → NB (bt s j)) ∧ Aside0 (w = w'))
 case atStart => exact ⟨0, rfl, by omega, ⟨rfl⟩, ⟨fun j h0 h1 => by omega⟩, ⟨rfl⟩⟩
 case round =>
  obtain ⟨i, rfl, hi, HK, HE, ⟨rfl⟩⟩ := hrel
  by_cases hlt : i < s.size
  ·have HB := Aside0.mk (bt_at s i hlt)
   by_cases hx : NB (bt s i)
   ·have HX := Aside0.mk (show bP (NB (s[i].toNat : Int)) = true by rw [← HB.out]; exact bP_t hx)
    replace hx := Aside0.mk hx
    go_wp2_with (go_at_call 145; refine (nameByte_calls _ true HX.out _).mono ?_; rintro e w' ⟨rfl, rfl⟩)
    go_roundg (s.size - (i + 1))
    case measure => have := HK.out; omega
    case rel => exact ⟨i + 1, by go_num, by omega, ⟨rfl⟩, ⟨fun j h0 h1 => by rcases Int.lt_or_eq_of_le (Int.lt_add_one_iff.1 (show j < (i : Int) + 1 by omega)) with h | rfl; exact HE.out j h0 h; exact hx.out⟩, ⟨rfl⟩⟩
   ·have HX := Aside0.mk (show bP (NB (s[i].toNat : Int)) = false by rw [← HB.out]; exact bP_f hx)
    have HF := Aside0.mk (bP_f (show ¬ NameP s from fun h => hx (h.2.2 i (by omega) (by omega))))
    replace hx := Aside0.mk hx
    go_wp2_with (go_at_call 145; refine (nameByte_calls _ false HX.out _).mono ?_; rintro e w' ⟨rfl, rfl⟩)
    go_ret
    exact ⟨ret_b HF.out.symm, rfl⟩
  ·have HF := Aside0.mk (bP_t (show NameP s from ⟨h3, h4, fun j h0 h1 => HE.out j h0 (by omega)⟩))
   go_wp2
   go_ret
   exact ⟨ret_b HF.out.symm, rfl⟩
set_option maxRecDepth 100000 in
set_option maxHeartbeats 1000000 in
theorem sNameOk_calls (s : ByteArray) (hs : s.size ≤ 9223372036854775807) (r : Bool) (h : bP (NameP s) = r) (w : World) : Calls Tryz.prog 124 #[.string s] w fun e w' => e = .returned (.bool r) ∧ w = w' := by
 subst h
 go_enter Tryz.func124, Tryz.ntmps124
 go_wp2
 go_loopg [3] s.size (fun kq v3 w' => ∃ i : Nat, v3 = .int .i64 i ∧ i ≤ s.size ∧ Aside0 (kq = s.size - i) ∧ Aside0 (∀ j : Int, 0 ≤ j → j < i → NB (bt s j)) ∧ Aside0 (w = w'))
 case atStart => exact ⟨0, rfl, by omega, ⟨rfl⟩, ⟨fun j h0 h1 => by omega⟩, ⟨rfl⟩⟩
 case round =>
  obtain ⟨i, rfl, hi, HK, HE, ⟨rfl⟩⟩ := hrel
  by_cases hlt : i < s.size
  ·have HB := Aside0.mk (bt_at s i hlt)
   obtain ⟨b, hb⟩ : ∃ b : Int, (s[i].toNat : Int) = b := ⟨_, rfl⟩
   have hbb : bt s i = b := HB.out.trans hb
   by_cases hx : NB b
   ·have hx' : NB (bt s i) := by rw [hbb]; exact hx
    replace hx' := Aside0.mk hx'
    unfold NB at hx
    rcases hx with ⟨q, q'⟩ | ⟨q, q'⟩ | ⟨q, q'⟩ | q | q | q
    all_goals
     subst hb
     clear hbb
     go_wp2
     go_roundg (s.size - (i + 1))
     case measure => have := HK.out; omega
     case rel => exact ⟨i + 1, by go_num, by omega, ⟨rfl⟩, ⟨fun j h0 h1 => by rcases Int.lt_or_eq_of_le (Int.lt_add_one_iff.1 (show j < (i : Int) + 1 by omega)) with h | rfl; exact HE.out j h0 h; exact hx'.out⟩, ⟨rfl⟩⟩
   ·have HF := Aside0.mk (bP_f (show ¬ NameP s from fun h => hx (by rw [← hbb]; exact h.2.2 i (by omega) (by omega))))
    unfold NB at hx
    rcases (show b < 45 ∨ b = 47 ∨ (58 ≤ b ∧ b ≤ 64) ∨ (91 ≤ b ∧ b ≤ 94) ∨ b = 96 ∨ 123 ≤ b by omega) with q | q | ⟨q, q'⟩ | ⟨q, q'⟩ | q | q
    all_goals
     subst hb
     clear hbb hx
     have e1 : ((s[i].toNat : Int) == 45) = false := by simp; omega
     have e2 : ((s[i].toNat : Int) == 95) = false := by simp; omega
     have e3 : ((s[i].toNat : Int) == 46) = false := by simp; omega
     try have f1 : decide ((s[i].toNat : Int) ≤ 57) = false := by simp; omega
     try have f2 : decide ((s[i].toNat : Int) ≤ 90) = false := by simp; omega
     try have f3 : decide ((s[i].toNat : Int) ≤ 122) = false := by simp; omega
     go_wp2
     go_ret
     exact ⟨ret_b HF.out.symm, rfl⟩
  ·have HF := Aside0.mk (show bP (1 ≤ (s.size : Int) ∧ (s.size : Int) ≤ 20) = bP (NameP s) from bP_congr ⟨fun h => ⟨by omega, by omega, fun j h0 h1 => HE.out j h0 (by omega)⟩, fun h => ⟨by have := h.1; omega, by have := h.2.1; omega⟩⟩)
   go_wp2_with (go_at_call 34; refine (l1In_calls _ _ _ _ HF.out _).mono ?_; rintro e w' ⟨rfl, rfl⟩)
   go_ret
   exact ⟨rfl, rfl⟩
end Go.Proofs.YtheaeffhhbjpmaaGreatDoor
namespace Go.Proofs.YtheaeffhhbjpmaaGreatDoor
set_option linter.unusedVariables false
set_option linter.unusedSimpArgs false
abbrev acc (l : List S48) (i : Int) : S48 := rd_T48 l i
/-- Up to n each account's parent stands ahead of it, or it has none. -/
def Dec (l : List S48) (n : Int) : Prop := ∀ j : Int, 0 ≤ j → j < n → -1 ≤ (acc l j).f1 ∧ (acc l j).f1 < j
/-- From k upwards, till p or the root is passed. -/
def upGo (l : List S48) : Nat → Int → Int → Int
 | 0, k, _ => k
 | n + 1, k, p => if 0 ≤ k ∧ k ≠ p then upGo l n (acc l k).f1 p else k
def up (l : List S48) (k p : Int) : Int := upGo l (k + 1).toNat k p
theorem upGo_stop {l : List S48} {n : Nat} {k p : Int} (h : ¬ (0 ≤ k ∧ k ≠ p)) : upGo l n k p = k := by
 cases n with
 | zero => rfl
 | succ n => simp only [upGo]; rw [if_neg h]
theorem upGo_more {l : List S48} {N : Int} (hd : Dec l N) (p : Int) : ∀ (n m : Nat) (k : Int), k < N → k + 1 ≤ n → n ≤ m → upGo l n k p = upGo l m k p
 | 0, m, k, _, h, _ => by rw [upGo_stop (by omega), upGo_stop (by omega)]
 | n + 1, m, k, hk, h, hm => by
  obtain ⟨m, rfl⟩ : ∃ q, m = q + 1 := ⟨m - 1, by omega⟩
  by_cases hs : 0 ≤ k ∧ k ≠ p
  ·simp only [upGo]
   rw [if_pos hs, if_pos hs]
   have := hd k hs.1 hk
   exact upGo_more hd p n m _ (by omega) (by omega) (by omega)
  ·rw [upGo_stop hs, upGo_stop hs]
theorem up_step {l : List S48} {N : Int} (hd : Dec l N) {k p : Int} (hk : k < N) (h0 : 0 ≤ k) (h1 : k ≠ p) : up l k p = up l (acc l k).f1 p := by
 have := hd k h0 hk
 unfold up
 rw [show (k + 1).toNat = k.toNat + 1 by omega]
 simp only [upGo]
 rw [if_pos ⟨h0, h1⟩]
 exact (upGo_more hd p _ _ _ (by omega) (by omega) (by omega)).symm
theorem up_stop {l : List S48} {k p : Int} (h : ¬ (0 ≤ k ∧ k ≠ p)) : up l k p = k := upGo_stop h
theorem up_le {l : List S48} {N : Int} (hd : Dec l N) (p : Int) : ∀ (n : Nat) (k : Int), k < N → upGo l n k p ≤ k
 | 0, k, _ => Int.le_refl _
 | n + 1, k, hk => by
  simp only [upGo]
  split
  ·next h => have := hd k h.1 hk; have := up_le hd p n (acc l k).f1 (by omega); omega
  ·exact Int.le_refl _
/-- How many it is part of. -/
def depGo (l : List S48) : Nat → Int → Int
 | 0, _ => 0
 | n + 1, i => if 0 ≤ (acc l i).f1 then depGo l n (acc l i).f1 + 1 else 0
def dep (l : List S48) (i : Int) : Int := depGo l (i + 1).toNat i
theorem depGo_more {l : List S48} {N : Int} (hd : Dec l N) : ∀ (n m : Nat) (k : Int), 0 ≤ k → k < N → k + 1 ≤ n → n ≤ m → depGo l n k = depGo l m k
 | 0, m, k, _, _, h, _ => by omega
 | n + 1, m, k, h0, hk, h, hm => by
  obtain ⟨m, rfl⟩ : ∃ q, m = q + 1 := ⟨m - 1, by omega⟩
  simp only [depGo]
  split
  ·next hp => have := hd k h0 hk; rw [depGo_more hd n m _ hp (by omega) (by omega) (by omega)]
  ·rfl
theorem dep_step {l : List S48} {N : Int} (hd : Dec l N) {k : Int} (h0 : 0 ≤ k) (hk : k < N) (h1 : 0 ≤ (acc l k).f1) : dep l k = dep l (acc l k).f1 + 1 := by
 have := hd k h0 hk
 unfold dep
 rw [show (k + 1).toNat = k.toNat + 1 by omega]
 simp only [depGo]
 rw [if_pos h1, depGo_more hd ((acc l k).f1 + 1).toNat k.toNat _ h1 (by omega) (by omega) (by omega)]
theorem dep_root {l : List S48} {k : Int} (h0 : 0 ≤ k) (h1 : ¬ 0 ≤ (acc l k).f1) : dep l k = 0 := by
 unfold dep
 rw [show (k + 1).toNat = k.toNat + 1 by omega]
 simp only [depGo]
 rw [if_neg h1]
theorem depGo_range {l : List S48} : ∀ (n : Nat) (k : Int), 0 ≤ depGo l n k ∧ depGo l n k ≤ n
 | 0, k => by simp [depGo]
 | n + 1, k => by
  simp only [depGo]
  split
  ·have := depGo_range (l := l) n (acc l k).f1; omega
  ·omega
/-- Account i may stand where it stands. -/
structure AccOk (l : List S48) (i : Int) : Prop where
 name : NameP (acc l i).f0
 k0 : 1 ≤ (acc l i).f2
 k1 : (acc l i).f2 ≤ 5
 p0 : -1 ≤ (acc l i).f1
 p1 : (acc l i).f1 ≤ i - 1
 new : ∀ k : Int, 0 ≤ k → k < i → ¬ (acc l k).f0 = (acc l i).f0
 on : 0 ≤ (acc l i).f1 → up l (i - 1) (acc l i).f1 = (acc l i).f1
 kin : 0 ≤ (acc l i).f1 → (acc l (acc l i).f1).f2 = (acc l i).f2
 deep : 0 ≤ (acc l i).f1 → dep l i ≤ 8
def ChartP (l : List S48) : Prop := 1 ≤ l.length ∧ l.length ≤ 120 ∧ ∀ i : Int, 0 ≤ i → i < l.length → AccOk l i
theorem dec_of {l : List S48} {n : Int} (h : ∀ i : Int, 0 ≤ i → i < n → AccOk l i) : Dec l n := fun j h0 h1 => ⟨(h j h0 h1).p0, by have := (h j h0 h1).p1; omega⟩
/-- Nothing is part of account i. -/
def LeafP (l : List S48) (at_ : Int) : Prop := 0 ≤ at_ ∧ at_ < l.length ∧ ∀ i : Int, 0 ≤ i → i < l.length → ¬ (acc l i).f1 = at_
/-- On the way up from k stands p. -/
def OnUp (l : List S48) (k p : Int) : Prop := 0 ≤ p ∧ up l k p = p
theorem onUp_le {l : List S48} {N : Int} (hd : Dec l N) {k p : Int} (hk : k < N) (h : OnUp l k p) : p ≤ k := by
 have := up_le hd p (k + 1).toNat k hk
 unfold OnUp up at h; omega
theorem onUp_step {l : List S48} {N : Int} (hd : Dec l N) {k p : Int} (hk : k < N) (h0 : 0 ≤ k) (h1 : k ≠ p) : OnUp l k p ↔ OnUp l (acc l k).f1 p := by
 unfold OnUp; rw [up_step hd hk h0 h1]
/-- What stands on the way up from something on the way up stands on it. -/
theorem onUp_trans {l : List S48} {N : Int} (hd : Dec l N) (p q : Int) : ∀ (n : Nat) (k : Int), k < N → k + 1 ≤ n → OnUp l k q → OnUp l q p → OnUp l k p
 | 0, k, _, h, hq, _ => by have := hq.1; have := onUp_le hd (by omega) hq; omega
 | n + 1, k, hk, h, hq, hp => by
  by_cases hkq : k = q
  ·rw [hkq]; exact hp
  ·have h0 : 0 ≤ k := by have := onUp_le hd hk hq; have := hq.1; omega
   have hkp : k ≠ p := by have := onUp_le hd hk hq; have := onUp_le hd (by omega) hp; omega
   rw [onUp_step hd hk h0 hkp]
   have := hd k h0 hk
   exact onUp_trans hd p q n _ (by omega) (by omega) ((onUp_step hd hk h0 hkq).1 hq) hp
/-- Of a right chart: nothing is part of an account where what stands behind it isn't. -/
theorem leaf_next {l : List S48} (hc : ∀ i : Int, 0 ≤ i → i < l.length → AccOk l i) {a : Int} (h0 : 0 ≤ a) (h1 : a < l.length) : LeafP l a ↔ (a + 1 = l.length ∨ ¬ (acc l (a + 1)).f1 = a) := by
 have hd := dec_of hc
 constructor
 ·intro h
  by_cases e : a + 1 = l.length
  ·exact .inl e
  ·exact .inr (h.2.2 (a + 1) (by omega) (by omega))
 ·intro h
  refine ⟨h0, h1, ?_⟩
  -- a stands on no way up from behind it
  have key : ∀ n : Nat, ∀ j : Int, j = a + 1 + n → j < l.length → ¬ OnUp l j a := by
   intro n
   induction n with
   | zero =>
    intro j hj hl ho
    rcases h with h | h
    ·omega
    rw [show j = a + 1 by omega] at ho
    have hA := hc (a + 1) (by omega) (by omega)
    rw [onUp_step hd (by omega) (by omega) (by omega)] at ho
    have h3 := hd (a + 1) (by omega) (by omega)
    have hle := onUp_le hd (by omega) ho
    have h2 := ho.1
    omega
   | succ n ih =>
    intro j hj hl ho
    have hA := hc j (by omega) hl
    rw [onUp_step hd hl (by omega) (by omega)] at ho
    have hp : 0 ≤ (acc l j).f1 := by have := onUp_le hd (by have := hA.p1; omega) ho; have := ho.1; omega
    exact ih (j - 1) (by omega) (by omega) (onUp_trans hd a (acc l j).f1 j.toNat (j - 1) (by omega) (by omega) ⟨hp, hA.on hp⟩ ho)
  intro i hi0 hi1 he
  have hA := hc i hi0 hi1
  have hp : 0 ≤ (acc l i).f1 := by omega
  have hia : a ≤ i - 1 := by have := hA.p1; omega
  by_cases e : i = a + 1
  ·rcases h with h | h
   ·omega
   ·exact h (by rw [← e]; exact he)
  ·have ho : OnUp l (i - 1) a := by rw [← he]; exact ⟨hp, hA.on hp⟩
   exact key (i - 1 - (a + 1)).toNat (i - 1) (by omega) (by omega) ho
end Go.Proofs.YtheaeffhhbjpmaaGreatDoor
namespace Go.Proofs.YtheaeffhhbjpmaaGreatDoor
open Go.RowKit Go.Proofs.YtheaeffhhbjpmaaGreatDoorW.PrintWords Go.Proofs.YtheaeffhhbjpmaaGreatDoorW.PrintLast
set_option linter.unusedVariables false
set_option linter.unusedSimpArgs false
set_option maxRecDepth 100000 in
theorem l4Deep_calls (A : Option Addr) (c : Nat) (l : List S48) (a N : Int) (hd : Dec l N) (hN : N ≤ l.length) (h0 : 0 ≤ a) (h1 : a < N) (r : Int) (h : dep l a = r) (w : World) (hr : Kd.C k48 w A l.length l) :
  Calls Tryz.prog 125 #[.slice A l.length c, .int .i64 a] w fun e w' => e = .returned (.int .i64 r) ∧ w = w' := by
 have HR := Aside0.mk hr
 have hm := C_len hr
 have HD := Aside0.mk hd
 have hb := (depGo_range (l := l) (a + 1).toNat a).2
 have hb : dep l a ≤ a + 1 := by unfold dep; omega
 rw [h] at hb
 have HX := Aside0.mk h
 clear hr hd h
 go_enter Tryz.func125, Tryz.ntmps125
 go_wp2
 go_loopg [1, 5] (a + 1).toNat (fun kq v1 v5 w' => ∃ k n : Int, v1 = .int .i64 k ∧ v5 = .int .i64 n ∧ 0 ≤ k ∧ k < N ∧ 0 ≤ n ∧ n ≤ r ∧ Aside0 (k + 1 ≤ kq) ∧ Aside0 (n + dep l k = r) ∧ Aside0 (w = w'))
 case atStart => exact ⟨a, 0, rfl, rfl, h0, h1, by omega, by have := (depGo_range (l := l) (a + 1).toNat a).1; have := HX.out; unfold dep at this; omega, ⟨by omega⟩, ⟨by have := HX.out; omega⟩, ⟨rfl⟩⟩
 case round =>
  obtain ⟨k, n, rfl, rfl, q0, q1, q2, q3, HK, HE, ⟨rfl⟩⟩ := hrel
  have hkl : k < (l.length : Int) := by omega
  obtain ⟨ad, e0, x0, x1, x2⟩ := at48 HR.out k q0 hkl
  cases e0
  have hj := HD.out k q0 q1
  obtain ⟨p, hp⟩ : ∃ p, (rd_T48 l k).f1 = p := ⟨_, rfl⟩
  have hs := fun h => dep_step HD.out q0 q1 (show 0 ≤ (acc l k).f1 from h)
  have hz := fun h => dep_root (l := l) q0 (show ¬ 0 ≤ (acc l k).f1 from h)
  unfold acc at hj hs hz
  rw [hp] at x1 hj hs hz
  replace hp := Aside0.mk hp
  by_cases hc : 0 ≤ p
  ·have he := hs hc
   have hdr := (depGo_range (l := l) (p + 1).toNat p).1
   have q4 : n + 1 ≤ r := by have := HE.out; unfold dep at *; omega
   have HN := Aside0.mk (show n + 1 + dep l p = r by have := HE.out; omega)
   clear hs hz he hdr
   go_wp2
   go_roundg (p + 1).toNat
   case measure => have := HK.out; omega
   case rel => exact ⟨p, n + 1, rfl, rfl, hc, by omega, by omega, q4, ⟨by omega⟩, HN, ⟨rfl⟩⟩
  ·have he := hz hc
   have HF := Aside0.mk (show n = r by have := HE.out; omega)
   clear hs hz he
   go_wp2
   go_ret
   exact ⟨ret_i HF.out, rfl⟩
/-- No code is too long for a machine. -/
def SzC (l : List S48) : Prop := ∀ i : Int, 0 ≤ i → i < l.length → (acc l i).f0.size ≤ 9223372036854775807
set_option maxRecDepth 100000 in
set_option maxHeartbeats 2000000 in
theorem sChartOk_calls (A : Option Addr) (c : Nat) (l : List S48) (hs : SzC l) (r : Bool) (h : bP (ChartP l) = r) (w : World) (hr : Kd.C k48 w A l.length l) :
  Calls Tryz.prog 89 #[.slice A l.length c] w fun e w' => e = .returned (.bool r) ∧ Below w.heap.size w w' := by
 subst h
 have HR := Aside0.mk hr
 have HS := Aside0.mk hs
 have hu48 := Tryz.underlying48
 clear hr hs
 by_cases hl : 1 ≤ l.length ∧ l.length ≤ 120
 ·have HL := Aside0.mk (show bP (1 ≤ (l.length : Int) ∧ (l.length : Int) ≤ 120) = true from bP_t (by omega))
  obtain ⟨hl1, hl2⟩ := hl
  go_enter Tryz.func89, Tryz.ntmps89
  go_wp2_with (go_at_call 34; (with_reducible refine (l1In_calls _ _ _ _ HL.out _).mono ?_); rintro e w' ⟨rfl, rfl⟩)
  go_loopg [3] l.length (fun kq v3 w' => ∃ i : Int, v3 = .int .i64 i ∧ 0 ≤ i ∧ i ≤ l.length ∧ Aside0 (kq = l.length - i.toNat) ∧ Aside0 (∀ j : Int, 0 ≤ j → j < i → AccOk l j) ∧ Aside0 (Below w.heap.size w w'))
  case atStart => exact ⟨0, rfl, by omega, by omega, ⟨rfl⟩, ⟨fun j h0 h1 => by omega⟩, ⟨Below.refl _ _⟩⟩
  case round =>
   obtain ⟨i, rfl, h0, hi, HK, HE, HB⟩ := hrel
   by_cases hlt : i < l.length
   ·obtain ⟨ad, e0, x0, x1, x2⟩ := at48 (Kd.C_below HR.out HB.out) i h0 hlt
    cases e0
    obtain ⟨y, hy⟩ : ∃ y, rd_T48 l i = y := ⟨_, rfl⟩
    rw [hy] at x0 x1 x2
    have hsz := HS.out i h0 hlt
    unfold acc at hsz
    rw [hy] at hsz
    replace hy := Aside0.mk hy
    by_cases c1 : NameP y.f0
    ·by_cases c2 : 1 ≤ y.f2 ∧ y.f2 ≤ 5
     ·by_cases c3 : -1 ≤ y.f1 ∧ y.f1 ≤ i - 1
      ·have C1 := Aside0.mk (bP_t c1)
       have C2 := Aside0.mk (bP_t c2)
       have C3 := Aside0.mk (bP_t c3)
       clear c1 c2
       obtain ⟨c4, c5⟩ := c3
       go_wp2_with (first | (go_at_call 124; (with_reducible refine (sNameOk_calls y.f0 hsz _ C1.out _).mono ?_); rintro e w' ⟨rfl, rfl⟩) | (go_at_call 34; (with_reducible refine (l1In_calls y.f2 1 5 _ C2.out _).mono ?_); rintro e w' ⟨rfl, rfl⟩) | (go_at_call 34; (with_reducible refine (l1In_calls y.f1 (-1) (i - 1) _ C3.out _).mono ?_); rintro e w' ⟨rfl, rfl⟩))
       have b0 : (wr.alloc (.cells #[.string y.f0, .int .i64 y.f1, .int .i64 y.f2] 48 (0, 0))).cell? ⟨wr.heap.size, 0, none⟩ = some (.string y.f0) := by simp
       have b1 : (wr.alloc (.cells #[.string y.f0, .int .i64 y.f1, .int .i64 y.f2] 48 (0, 0))).cell? ⟨wr.heap.size, 1, none⟩ = some (.int .i64 y.f1) := by simp
       have b2 : (wr.alloc (.cells #[.string y.f0, .int .i64 y.f1, .int .i64 y.f2] 48 (0, 0))).cell? ⟨wr.heap.size, 2, none⟩ = some (.int .i64 y.f2) := by simp
       have HB0 := Aside0.mk (below_step HB.out (below_alloc (Below.refl wr.heap.size wr) (.cells #[.string y.f0, .int .i64 y.f1, .int .i64 y.f2] 48 (0, 0))))
       generalize wr.alloc (.cells #[.string y.f0, .int .i64 y.f1, .int .i64 y.f2] 48 (0, 0)) = W0 at *
       clear x0 x1 x2 HB
       have B0 := Aside0.mk b0
       have B1 := Aside0.mk b1
       have B2 := Aside0.mk b2
       clear b0 b1 b2
       go_loopg [5] i.toNat (fun kq v5 w' => ∃ k : Int, v5 = .int .i64 k ∧ 0 ≤ k ∧ k ≤ i ∧ Aside0 (kq = i.toNat - k.toNat) ∧ Aside0 (∀ j : Int, 0 ≤ j → j < k → ¬ (acc l j).f0 = y.f0) ∧ Aside0 (Below W0.heap.size W0 w'))
       case atStart => exact ⟨0, rfl, by omega, by omega, ⟨rfl⟩, ⟨fun j h0 h1 => by omega⟩, ⟨Below.refl _ _⟩⟩
       case round =>
        obtain ⟨k, rfl, q0, q1, HK2, HN, HB2⟩ := hrel
        by_cases hki : k < i
        ·have hkl : k < (l.length : Int) := by omega
         obtain ⟨ad2, e0, x0, x1, x2⟩ := at48 (Kd.C_below HR.out (below_step HB0.out HB2.out)) k q0 hkl
         cases e0
         have b0 := pw_cell_below HB2.out B0.out
         by_cases hx : (rd_T48 l k).f0 = y.f0
         ·have HF := Aside0.mk (bP_f (show ¬ ChartP l from fun h => by have q := (h.2.2 i h0 hlt).new k q0 hki; have := hy.out; subst this; exact q hx))
          have hx1 : ((rd_T48 l k).f0.toList == y.f0.toList) = true := by rw [hx]; simp
          clear hx
          go_wp2
          go_quiet (fail)
          go_wp2
          go_ret
          exact ⟨ret_b HF.out.symm, below_step HB0.out (pw_below_drewN HB2.out _)⟩
         ·have hx1 : ((rd_T48 l k).f0.toList == y.f0.toList) = false := by
           rw [beq_eq_false_iff_ne]; intro h; rw [ByteArray.toList_eq, ByteArray.toList_eq] at h; exact hx (ByteArray.ext (Array.ext' h))
          have HX := Aside0.mk hx
          clear hx
          go_wp2
          go_quiet (fail)
          go_wp2
          go_roundg (i.toNat - (k + 1).toNat)
          case measure => have := HK2.out; omega
          case rel => exact ⟨k + 1, rfl, by omega, by omega, ⟨rfl⟩, ⟨fun j h0 h1 => by rcases Int.lt_or_eq_of_le (Int.lt_add_one_iff.1 h1) with h | rfl; exact HN.out j h0 h; exact HX.out⟩, ⟨pw_below_drewN HB2.out _⟩⟩
        ·have hke : k = i := by omega
         subst hke
         have b1 := pw_cell_below HB2.out B1.out
         by_cases hp : y.f1 < 0
         ·have HA := Aside0.mk (show AccOk l k from by
           have e := hy.out
           have hz : (acc l k).f1 < 0 := by show (rd_T48 l k).f1 < 0; rw [e]; exact hp
           refine ⟨?_, ?_, ?_, ?_, ?_, ?_, fun h => by omega, fun h => by omega, fun h => by omega⟩ <;> (try unfold acc) <;> (try rw [e])
           ·exact bP_iff.1 C1.out
           ·exact (bP_iff.1 C2.out).1
           ·exact (bP_iff.1 C2.out).2
           ·exact c4
           ·exact c5
           ·exact HN.out)
          go_wp2
          go_roundg (l.length - (k + 1).toNat)
          case measure => have := HK.out; omega
          case rel => exact ⟨k + 1, rfl, by omega, by omega, ⟨rfl⟩, ⟨fun j h0 h1 => by rcases Int.lt_or_eq_of_le (Int.lt_add_one_iff.1 h1) with h | rfl; exact HE.out j h0 h; exact HA.out⟩, ⟨below_step HB0.out HB2.out⟩⟩
         ·have hp0 : 0 ≤ y.f1 := by omega
          have hD := dec_of HE.out
          have hD1 : Dec l (k + 1) := fun j g0 g1 => by
           by_cases e : j = k
           ·subst e; unfold acc; rw [hy.out]; omega
           ·exact hD j g0 (by omega)
          have HD := Aside0.mk hD
          have HD1 := Aside0.mk hD1
          clear hD hD1 hp
          have b2 := pw_cell_below HB2.out B2.out
          go_wp2
          go_loopg [6] k.toNat (fun kq v6 w' => ∃ o : Int, v6 = .int .i64 o ∧ -1 ≤ o ∧ o < k ∧ Aside0 (o + 1 ≤ kq) ∧ Aside0 (up l o y.f1 = up l (k - 1) y.f1) ∧ Aside0 (wr = w'))
          case atStart => exact ⟨k - 1, rfl, by omega, by omega, ⟨by omega⟩, ⟨rfl⟩, ⟨rfl⟩⟩
          case round =>
           obtain ⟨o, rfl, g0, g1, HK3, HU, ⟨rfl⟩⟩ := hrel
           by_cases ho : 0 ≤ o
           ·have hol : o < (l.length : Int) := by omega
            obtain ⟨ad3, e0, x0, x1, x2⟩ := at48 (Kd.C_below HR.out (below_step HB0.out HB2.out)) o ho hol
            cases e0
            by_cases hop : o = y.f1
            ·have HUP := Aside0.mk (show up l (k - 1) y.f1 = y.f1 by rw [← HU.out, hop]; exact up_stop (by omega))
             have hne : (o != y.f1) = false := by simp [hop]
             have hlt0 : decide (o < 0) = false := by simp; omega
             by_cases hk2 : (rd_T48 l o).f2 = y.f2
             ·have hk3 : ((rd_T48 l o).f2 != y.f2) = false := by simp [hk2]
              have HK2 := Aside0.mk (show (acc l y.f1).f2 = y.f2 by rw [← hop]; exact hk2)
              clear hk2 hop
              obtain ⟨d, hdd⟩ : ∃ d, dep l k = d := ⟨_, rfl⟩
              replace hdd := Aside0.mk hdd
              by_cases h8 : 8 < d
              ·have HF := Aside0.mk (bP_f (show ¬ ChartP l from fun h => by have q := (h.2.2 k h0 hlt).deep (by have := hy.out; subst this; exact hp0); have := hdd.out; omega))
               go_wp2
               go_quiet ((go_at_call 125; refine Calls.quiet_of_same ((l4Deep_calls _ c l k (k + 1) HD1.out (by omega) h0 (by omega) d hdd.out _ (Kd.C_drewN (Kd.C_below HR.out (below_step HB0.out HB2.out)) _)).mono (fun _ _ h => ⟨h.1, h.2.symm⟩))))
               go_wp2
               go_ret
               exact ⟨ret_b HF.out.symm, below_step HB0.out (pw_below_drewN HB2.out _)⟩
              ·have HA := Aside0.mk (show AccOk l k from by
                have e := hy.out
                refine ⟨?_, ?_, ?_, ?_, ?_, ?_, fun h => ?_, fun h => ?_, fun h => ?_⟩
                ·unfold acc; rw [e]; exact bP_iff.1 C1.out
                ·unfold acc; rw [e]; exact (bP_iff.1 C2.out).1
                ·unfold acc; rw [e]; exact (bP_iff.1 C2.out).2
                ·unfold acc; rw [e]; exact c4
                ·unfold acc; rw [e]; exact c5
                ·intro j g0 g1; have := HN.out j g0 g1; unfold acc at *; rw [e]; exact this
                ·unfold acc; rw [e]; exact HUP.out
                ·have := HK2.out; unfold acc at *; rw [e]; exact this
                ·rw [hdd.out]; omega)
               go_wp2
               go_quiet ((go_at_call 125; refine Calls.quiet_of_same ((l4Deep_calls _ c l k (k + 1) HD1.out (by omega) h0 (by omega) d hdd.out _ (Kd.C_drewN (Kd.C_below HR.out (below_step HB0.out HB2.out)) _)).mono (fun _ _ h => ⟨h.1, h.2.symm⟩))))
               go_wp2
               go_roundg (l.length - (k + 1).toNat)
               case measure => have := HK.out; omega
               case rel => exact ⟨k + 1, rfl, by omega, by omega, ⟨rfl⟩, ⟨fun j h0 h1 => by rcases Int.lt_or_eq_of_le (Int.lt_add_one_iff.1 h1) with h | rfl; exact HE.out j h0 h; exact HA.out⟩, ⟨below_step HB0.out (pw_below_drewN HB2.out _)⟩⟩
             ·have hk3 : ((rd_T48 l o).f2 != y.f2) = true := by simp [hk2]
              have HF := Aside0.mk (bP_f (show ¬ ChartP l from fun h => by have q := (h.2.2 k h0 hlt).kin (by have := hy.out; subst this; exact hp0); have := hy.out; unfold acc at q; rw [this, ← hop] at q; exact hk2 q))
              clear hk2 hop
              go_wp2
              go_quiet (fail)
              go_wp2
              go_ret
              exact ⟨ret_b HF.out.symm, below_step HB0.out (pw_below_drewN HB2.out _)⟩
            ·have hne : (o != y.f1) = true := by simp [hop]
             have hs := up_step HD.out g1 ho hop
             have hq := HD.out o ho g1
             obtain ⟨p2, hp2⟩ : ∃ p2, (rd_T48 l o).f1 = p2 := ⟨_, rfl⟩
             unfold acc at hs hq
             rw [hp2] at hs hq x1
             have HUP := Aside0.mk (show up l p2 y.f1 = up l (k - 1) y.f1 by rw [← hs]; exact HU.out)
             clear hs hp2
             go_wp2
             go_roundg (p2 + 1).toNat
             case measure => have := HK3.out; omega
             case rel => exact ⟨p2, rfl, by omega, by omega, ⟨by omega⟩, HUP, ⟨rfl⟩⟩
           ·have HF := Aside0.mk (bP_f (show ¬ ChartP l from fun h => by have q := (h.2.2 k h0 hlt).on (by have := hy.out; subst this; exact hp0); have e := hy.out; unfold acc at q; rw [e, ← HU.out, up_stop (by omega)] at q; omega))
            have hlt0 : decide (o < 0) = true := by simp; omega
            go_wp2
            go_quiet (fail)
            go_wp2
            go_ret
            exact ⟨ret_b HF.out.symm, below_step HB0.out (pw_below_drewN HB2.out _)⟩
      ·have C1 := Aside0.mk (bP_t c1)
       have C2 := Aside0.mk (bP_t c2)
       have C3 := Aside0.mk (bP_f c3)
       have HF := Aside0.mk (bP_f (show ¬ ChartP l from fun h => by have q := h.2.2 i h0 hlt; apply c3; have := hy.out; subst this; exact ⟨q.p0, q.p1⟩))
       clear c1 c2 c3
       go_wp2_with (first | (go_at_call 124; (with_reducible refine (sNameOk_calls y.f0 hsz _ C1.out _).mono ?_); rintro e w' ⟨rfl, rfl⟩) | (go_at_call 34; (with_reducible refine (l1In_calls y.f2 1 5 _ C2.out _).mono ?_); rintro e w' ⟨rfl, rfl⟩) | (go_at_call 34; (with_reducible refine (l1In_calls y.f1 (-1) (i - 1) _ C3.out _).mono ?_); rintro e w' ⟨rfl, rfl⟩))
       go_ret
       exact ⟨ret_b HF.out.symm, below_step HB.out (below_alloc (Below.refl _ _) _)⟩
     ·have C1 := Aside0.mk (bP_t c1)
      have C2 := Aside0.mk (bP_f c2)
      have HF := Aside0.mk (bP_f (show ¬ ChartP l from fun h => by have q := h.2.2 i h0 hlt; apply c2; have := hy.out; subst this; exact ⟨q.k0, q.k1⟩))
      clear c1 c2
      go_wp2_with (first | (go_at_call 124; (with_reducible refine (sNameOk_calls y.f0 hsz _ C1.out _).mono ?_); rintro e w' ⟨rfl, rfl⟩) | (go_at_call 34; (with_reducible refine (l1In_calls y.f2 1 5 _ C2.out _).mono ?_); rintro e w' ⟨rfl, rfl⟩))
      go_ret
      exact ⟨ret_b HF.out.symm, below_step HB.out (below_alloc (Below.refl _ _) _)⟩
    ·have C1 := Aside0.mk (bP_f c1)
     have HF := Aside0.mk (bP_f (show ¬ ChartP l from fun h => by have q := h.2.2 i h0 hlt; apply c1; have := hy.out; subst this; exact q.name))
     clear c1
     go_wp2_with (go_at_call 124; (with_reducible refine (sNameOk_calls y.f0 hsz _ C1.out _).mono ?_); rintro e w' ⟨rfl, rfl⟩)
     go_ret
     exact ⟨ret_b HF.out.symm, below_step HB.out (below_alloc (Below.refl _ _) _)⟩
   ·have HF := Aside0.mk (bP_t (show ChartP l from ⟨hl1, hl2, fun j h0 h1 => HE.out j h0 (by omega)⟩))
    go_wp2
    go_ret
    exact ⟨ret_b HF.out.symm, HB.out⟩
 ·have HL := Aside0.mk (show bP (1 ≤ (l.length : Int) ∧ (l.length : Int) ≤ 120) = false from bP_f (by omega))
  have HF := Aside0.mk (bP_f (show ¬ ChartP l from fun h => hl ⟨h.1, h.2.1⟩))
  clear hl
  go_enter Tryz.func89, Tryz.ntmps89
  go_wp2_with (go_at_call 34; (with_reducible refine (l1In_calls _ _ _ _ HL.out _).mono ?_); rintro e w' ⟨rfl, rfl⟩)
  go_ret
  exact ⟨ret_b HF.out.symm, Below.refl _ _⟩
end Go.Proofs.YtheaeffhhbjpmaaGreatDoor
namespace Go.Proofs.YtheaeffhhbjpmaaGreatDoor
open Go.RowKit Go.Proofs.YtheaeffhhbjpmaaGreatDoorW.PrintWords Go.Proofs.YtheaeffhhbjpmaaGreatDoorW.PrintLast
set_option linter.unusedVariables false
set_option linter.unusedSimpArgs false
def FrameP (f : FrameD) : Prop := ChartP f.chart ∧ (1 ≤ f.dims ∧ f.dims ≤ 20) ∧ (1 ≤ f.curs ∧ f.curs ≤ 20)
def TextP (s : ByteArray) : Prop := s.size ≤ 40 ∧ ∀ i : Int, 0 ≤ i → i < s.size → 32 ≤ bt s i
def LineP (f : FrameD) (x : S88) : Prop := LeafP f.chart x.f0 ∧ (0 ≤ x.f1 ∧ x.f1 ≤ f.dims - 1) ∧ (0 ≤ x.f2 ∧ x.f2 ≤ f.curs - 1) ∧ (-100000000000 ≤ x.f3 ∧ x.f3 ≤ 100000000000) ∧ (-100000000000 ≤ x.f4 ∧ x.f4 ≤ 100000000000) ∧ (¬ x.f2 = 0 ∨ x.f3 = x.f4)

set_option maxRecDepth 100000 in
theorem sFrameOk_calls (f : FrameD) (A : Option Addr) (c : Nat) (hs : SzC f.chart) (r : Bool) (h : bP (FrameP f) = r) (w : World) (hr : Kd.C k48 w A f.chart.length f.chart) : Calls Tryz.prog 87 #[.agg #[.slice A f.chart.length c, .int .i64 f.dims, .int .i64 f.curs]] w fun e w' => e = .returned (.bool r) ∧ Below w.heap.size w w' := by
 subst h
 have hu := Tryz.underlying26
 have HR := Aside0.mk hr
 have HS := Aside0.mk hs
 clear hr hs
 unfold FrameP
 by_cases c1 : ChartP f.chart
 rotate_left
 ·have C1 := Aside0.mk (bP_f c1); have HF := Aside0.mk (bP_f (show ¬ (ChartP f.chart ∧ (1 ≤ f.dims ∧ f.dims ≤ 20) ∧ (1 ≤ f.curs ∧ f.curs ≤ 20)) from fun h => c1 h.1)); clear c1
  go_enter Tryz.func87, Tryz.ntmps87
  go_wp2_with (first | (go_at_call 89; (with_reducible refine (sChartOk_calls _ _ f.chart HS.out _ C1.out _ (Kd.C_below HR.out (by repeat (with_reducible first | assumption | exact Below.refl _ _ | apply below_alloc | apply below_drew1 | apply pw_below_drewN | refine below_set ?_ (by omega) | refine below_step ?_ (by assumption))))).mono ?_); rintro e w1 ⟨rfl, hb1⟩; obtain ⟨hc1, hf1⟩ := bcell hb1; have hz1 := hb1.size; (try simp at hz1); have hy1 : w.heap.size < w1.heap.size := (by omega)) | (go_at_call 34; (with_reducible refine (l1In_calls f.dims 1 20 _ C2.out _).mono ?_); rintro e w' ⟨rfl, rfl⟩) | (go_at_call 34; (with_reducible refine (l1In_calls f.curs 1 20 _ C3.out _).mono ?_); rintro e w' ⟨rfl, rfl⟩))
  go_ret
  exact ⟨ret_b HF.out.symm, (by repeat (with_reducible first | assumption | exact Below.refl _ _ | apply below_alloc | apply below_drew1 | apply pw_below_drewN | refine below_set ?_ (by omega) | refine below_step ?_ (by assumption)))⟩
 by_cases c2 : (1 ≤ f.dims ∧ f.dims ≤ 20)
 rotate_left
 ·have C1 := Aside0.mk (bP_t c1); have C2 := Aside0.mk (bP_f c2); have HF := Aside0.mk (bP_f (show ¬ (ChartP f.chart ∧ (1 ≤ f.dims ∧ f.dims ≤ 20) ∧ (1 ≤ f.curs ∧ f.curs ≤ 20)) from fun h => c2 h.2.1)); clear c1 c2
  go_enter Tryz.func87, Tryz.ntmps87
  go_wp2_with (first | (go_at_call 89; (with_reducible refine (sChartOk_calls _ _ f.chart HS.out _ C1.out _ (Kd.C_below HR.out (by repeat (with_reducible first | assumption | exact Below.refl _ _ | apply below_alloc | apply below_drew1 | apply pw_below_drewN | refine below_set ?_ (by omega) | refine below_step ?_ (by assumption))))).mono ?_); rintro e w1 ⟨rfl, hb1⟩; obtain ⟨hc1, hf1⟩ := bcell hb1; have hz1 := hb1.size; (try simp at hz1); have hy1 : w.heap.size < w1.heap.size := (by omega)) | (go_at_call 34; (with_reducible refine (l1In_calls f.dims 1 20 _ C2.out _).mono ?_); rintro e w' ⟨rfl, rfl⟩) | (go_at_call 34; (with_reducible refine (l1In_calls f.curs 1 20 _ C3.out _).mono ?_); rintro e w' ⟨rfl, rfl⟩))
  go_ret
  exact ⟨ret_b HF.out.symm, (by repeat (with_reducible first | assumption | exact Below.refl _ _ | apply below_alloc | apply below_drew1 | apply pw_below_drewN | refine below_set ?_ (by omega) | refine below_step ?_ (by assumption)))⟩
 by_cases c3 : (1 ≤ f.curs ∧ f.curs ≤ 20)
 rotate_left
 ·have C1 := Aside0.mk (bP_t c1); have C2 := Aside0.mk (bP_t c2); have C3 := Aside0.mk (bP_f c3); have HF := Aside0.mk (bP_f (show ¬ (ChartP f.chart ∧ (1 ≤ f.dims ∧ f.dims ≤ 20) ∧ (1 ≤ f.curs ∧ f.curs ≤ 20)) from fun h => c3 h.2.2)); clear c1 c2 c3
  go_enter Tryz.func87, Tryz.ntmps87
  go_wp2_with (first | (go_at_call 89; (with_reducible refine (sChartOk_calls _ _ f.chart HS.out _ C1.out _ (Kd.C_below HR.out (by repeat (with_reducible first | assumption | exact Below.refl _ _ | apply below_alloc | apply below_drew1 | apply pw_below_drewN | refine below_set ?_ (by omega) | refine below_step ?_ (by assumption))))).mono ?_); rintro e w1 ⟨rfl, hb1⟩; obtain ⟨hc1, hf1⟩ := bcell hb1; have hz1 := hb1.size; (try simp at hz1); have hy1 : w.heap.size < w1.heap.size := (by omega)) | (go_at_call 34; (with_reducible refine (l1In_calls f.dims 1 20 _ C2.out _).mono ?_); rintro e w' ⟨rfl, rfl⟩) | (go_at_call 34; (with_reducible refine (l1In_calls f.curs 1 20 _ C3.out _).mono ?_); rintro e w' ⟨rfl, rfl⟩))
  go_ret
  exact ⟨ret_b HF.out.symm, (by repeat (with_reducible first | assumption | exact Below.refl _ _ | apply below_alloc | apply below_drew1 | apply pw_below_drewN | refine below_set ?_ (by omega) | refine below_step ?_ (by assumption)))⟩
 ·have C1 := Aside0.mk (bP_t c1); have C2 := Aside0.mk (bP_t c2); have C3 := Aside0.mk (bP_t c3); have HF := Aside0.mk (bP_t (show ChartP f.chart ∧ (1 ≤ f.dims ∧ f.dims ≤ 20) ∧ (1 ≤ f.curs ∧ f.curs ≤ 20) from ⟨c1, c2, c3⟩)); clear c1 c2 c3
  go_enter Tryz.func87, Tryz.ntmps87
  go_wp2_with (first | (go_at_call 89; (with_reducible refine (sChartOk_calls _ _ f.chart HS.out _ C1.out _ (Kd.C_below HR.out (by repeat (with_reducible first | assumption | exact Below.refl _ _ | apply below_alloc | apply below_drew1 | apply pw_below_drewN | refine below_set ?_ (by omega) | refine below_step ?_ (by assumption))))).mono ?_); rintro e w1 ⟨rfl, hb1⟩; obtain ⟨hc1, hf1⟩ := bcell hb1; have hz1 := hb1.size; (try simp at hz1); have hy1 : w.heap.size < w1.heap.size := (by omega)) | (go_at_call 34; (with_reducible refine (l1In_calls f.dims 1 20 _ C2.out _).mono ?_); rintro e w' ⟨rfl, rfl⟩) | (go_at_call 34; (with_reducible refine (l1In_calls f.curs 1 20 _ C3.out _).mono ?_); rintro e w' ⟨rfl, rfl⟩))
  go_ret
  exact ⟨ret_b HF.out.symm, (by repeat (with_reducible first | assumption | exact Below.refl _ _ | apply below_alloc | apply below_drew1 | apply pw_below_drewN | refine below_set ?_ (by omega) | refine below_step ?_ (by assumption)))⟩

set_option maxRecDepth 100000 in
theorem l5TextOk_calls (s : ByteArray) (hs : s.size ≤ 9223372036854775807) (r : Bool) (h : bP (TextP s) = r) (w : World) : Calls Tryz.prog 99 #[.string s] w fun e w' => e = .returned (.bool r) ∧ w = w' := by
 subst h
 go_enter Tryz.func99, Tryz.ntmps99
 go_wp2
 go_loopg [3] s.size (fun kq v3 w' => ∃ i : Nat, v3 = .int .i64 i ∧ i ≤ s.size ∧ Aside0 (kq = s.size - i) ∧ Aside0 (∀ j : Int, 0 ≤ j → j < i → 32 ≤ bt s j) ∧ Aside0 (w = w'))
 case atStart => exact ⟨0, rfl, by omega, ⟨rfl⟩, ⟨fun j h0 h1 => by omega⟩, ⟨rfl⟩⟩
 case round =>
  obtain ⟨i, rfl, hi, HK, HE, ⟨rfl⟩⟩ := hrel
  by_cases hlt : i < s.size
  ·have hB := bt_at s i hlt
   by_cases hx : 32 ≤ bt s i
   ·have hx' := Aside0.mk hx
    rw [hB] at hx
    clear hB
    go_wp2
    go_roundg (s.size - (i + 1))
    case measure => have := HK.out; omega
    case rel => exact ⟨i + 1, by go_num, by omega, ⟨rfl⟩, ⟨fun j h0 h1 => by rcases Int.lt_or_eq_of_le (Int.lt_add_one_iff.1 (show j < (i : Int) + 1 by omega)) with h | rfl; exact HE.out j h0 h; exact hx'.out⟩, ⟨rfl⟩⟩
   ·have HF := Aside0.mk (bP_f (show ¬ TextP s from fun h => hx (h.2 i (by omega) (by omega))))
    rw [hB] at hx
    clear hB
    go_wp2
    go_ret
    exact ⟨ret_b HF.out.symm, rfl⟩
  ·have HF := Aside0.mk (show bP (s.size ≤ 40) = bP (TextP s) from bP_congr ⟨fun h => ⟨h, fun j h0 h1 => HE.out j h0 (by omega)⟩, fun h => h.1⟩)
   by_cases h40 : s.size ≤ 40
   ·have HG := Aside0.mk (HF.out.symm.trans (bP_t h40))
    go_wp2
    go_ret
    exact ⟨ret_b (by rw [HG.out]; simp; omega), rfl⟩
   ·have HG := Aside0.mk (HF.out.symm.trans (bP_f h40))
    go_wp2
    go_ret
    exact ⟨ret_b (by rw [HG.out]; simp; omega), rfl⟩

set_option maxRecDepth 100000 in
theorem sLeaf_calls (A : Option Addr) (c : Nat) (l : List S48) (a : Int) (hs : SzC l) (r : Bool) (h : bP (ChartP l ∧ LeafP l a) = r) (w : World) (hr : Kd.C k48 w A l.length l) : Calls Tryz.prog 35 #[.slice A l.length c, .int .i64 a] w fun e w' => e = .returned (.bool r) ∧ Below w.heap.size w w' := by
 subst h
 have HR := Aside0.mk hr
 have HS := Aside0.mk hs
 have hm := C_len hr
 clear hr hs
 by_cases c1 : ChartP l
 ·by_cases c2 : 0 ≤ a ∧ a ≤ (l.length : Int) - 1
  ·have C1 := Aside0.mk (bP_t c1)
   have C2 := Aside0.mk (bP_t c2)
   have CC := Aside0.mk c1
   obtain ⟨a0, a1⟩ := c2
   clear c1
   go_enter Tryz.func35, Tryz.ntmps35
   go_wp2_with (first | (go_at_call 89; (with_reducible refine (sChartOk_calls _ _ l HS.out _ C1.out _ HR.out).mono ?_); rintro e w1 ⟨rfl, hb1⟩) | (go_at_call 34; (with_reducible refine (l1In_calls a 0 ((l.length : Int) - 1) _ C2.out _).mono ?_); rintro e w' ⟨rfl, rfl⟩))
   replace hb1 := Aside0.mk hb1
   go_loopg [5] l.length (fun kq v5 w' => ∃ i : Int, v5 = .int .i64 i ∧ 0 ≤ i ∧ i ≤ l.length ∧ Aside0 (kq = l.length - i.toNat) ∧ Aside0 (∀ j : Int, 0 ≤ j → j < i → ¬ (acc l j).f1 = a) ∧ Aside0 (w1 = w'))
   case atStart => exact ⟨0, rfl, by omega, by omega, ⟨rfl⟩, ⟨fun j h0 h1 => by omega⟩, ⟨rfl⟩⟩
   case round =>
    obtain ⟨i, rfl, h0, hi, HK, HE, ⟨rfl⟩⟩ := hrel
    by_cases hlt : i < l.length
    ·obtain ⟨ad, e0, x0, x1, x2⟩ := at48 (Kd.C_below HR.out hb1.out) i h0 hlt
     cases e0
     by_cases hx : (rd_T48 l i).f1 = a
     ·have hx1 : ((rd_T48 l i).f1 == a) = true := by simp [hx]
      have HF := Aside0.mk (bP_f (show ¬ (ChartP l ∧ LeafP l a) from fun h => h.2.2.2 i h0 hlt hx))
      clear hx
      go_wp2
      go_ret
      exact ⟨ret_b HF.out.symm, hb1.out⟩
     ·have hx1 : ((rd_T48 l i).f1 == a) = false := by simp [hx]
      have HX := Aside0.mk hx
      clear hx
      go_wp2
      go_roundg (l.length - (i + 1).toNat)
      case measure => have := HK.out; omega
      case rel => exact ⟨i + 1, rfl, by omega, by omega, ⟨rfl⟩, ⟨fun j h0 h1 => by rcases Int.lt_or_eq_of_le (Int.lt_add_one_iff.1 h1) with h | rfl; exact HE.out j h0 h; exact HX.out⟩, ⟨rfl⟩⟩
    ·have HF := Aside0.mk (bP_t (show ChartP l ∧ LeafP l a from ⟨CC.out, a0, by omega, fun j h0 h1 => HE.out j h0 (by omega)⟩))
     go_wp2
     go_ret
     exact ⟨ret_b HF.out.symm, hb1.out⟩
  ·have C1 := Aside0.mk (bP_t c1)
   have C2 := Aside0.mk (bP_f c2)
   have HF := Aside0.mk (bP_f (show ¬ (ChartP l ∧ LeafP l a) from fun h => c2 ⟨h.2.1, by have := h.2.2.1; omega⟩))
   clear c1 c2
   go_enter Tryz.func35, Tryz.ntmps35
   go_wp2_with (first | (go_at_call 89; (with_reducible refine (sChartOk_calls _ _ l HS.out _ C1.out _ HR.out).mono ?_); rintro e w1 ⟨rfl, hb1⟩) | (go_at_call 34; (with_reducible refine (l1In_calls a 0 ((l.length : Int) - 1) _ C2.out _).mono ?_); rintro e w' ⟨rfl, rfl⟩))
   go_ret
   exact ⟨ret_b HF.out.symm, hb1⟩
 ·have C1 := Aside0.mk (bP_f c1)
  have HF := Aside0.mk (bP_f (show ¬ (ChartP l ∧ LeafP l a) from fun h => c1 h.1))
  clear c1
  go_enter Tryz.func35, Tryz.ntmps35
  go_wp2_with (first | (go_at_call 89; (with_reducible refine (sChartOk_calls _ _ l HS.out _ C1.out _ HR.out).mono ?_); rintro e w1 ⟨rfl, hb1⟩))
  go_ret
  exact ⟨ret_b HF.out.symm, hb1⟩

set_option maxRecDepth 100000 in
set_option maxHeartbeats 1000000 in
theorem l5LineOk_calls (f : FrameD) (A : Option Addr) (c : Nat) (x : S88) (hs : SzC f.chart) (hd : 1 ≤ f.dims ∧ f.dims ≤ 20) (hcu : 1 ≤ f.curs ∧ f.curs ≤ 20) (r : Bool) (h : bP (ChartP f.chart ∧ LineP f x) = r) (w : World) (hr : Kd.C k48 w A f.chart.length f.chart) :
  Calls Tryz.prog 100 #[.agg #[.slice A f.chart.length c, .int .i64 f.dims, .int .i64 f.curs], .agg #[.int .i64 x.f0, .int .i64 x.f1, .int .i64 x.f2, .int .i64 x.f3, .int .i64 x.f4]] w fun e w' => e = .returned (.bool r) ∧ Below w.heap.size w w' := by
 have hu := Tryz.underlying26
 have hu2 := Tryz.underlying88
 have HR := Aside0.mk hr
 have HS := Aside0.mk hs
 have hm := C_len hr
 obtain ⟨d0, d1⟩ := hd
 obtain ⟨k0, k1⟩ := hcu
 clear hr hs
 have HG := Aside0.mk (show bP ((0 ≤ x.f0 ∧ x.f0 ≤ (f.chart.length : Int) - 1) ∧ (ChartP f.chart ∧ LeafP f.chart x.f0) ∧ (0 ≤ x.f1 ∧ x.f1 ≤ f.dims - 1) ∧ (0 ≤ x.f2 ∧ x.f2 ≤ f.curs - 1) ∧ (-100000000000 ≤ x.f3 ∧ x.f3 ≤ 100000000000) ∧ (-100000000000 ≤ x.f4 ∧ x.f4 ≤ 100000000000) ∧ (¬ x.f2 = 0 ∨ x.f3 = x.f4)) = r by rw [← h]; exact bP_congr ⟨fun q => ⟨q.2.1.1, q.2.1.2, q.2.2⟩, fun q => ⟨⟨q.2.1.1, by have := q.2.1.2.1; omega⟩, ⟨q.1, q.2.1⟩, q.2.2⟩⟩)
 clear h
 by_cases c1 : (0 ≤ x.f0 ∧ x.f0 ≤ (f.chart.length : Int) - 1)
 rotate_left
 ·have C1 := Aside0.mk (bP_f c1); have HF := Aside0.mk (HG.out.symm.trans (bP_f (fun h => c1 h.1))); clear c1
  go_enter Tryz.func100, Tryz.ntmps100
  go_wp2_with (first | (go_at_call 34; (with_reducible refine (l1In_calls x.f0 0 ((f.chart.length : Int) - 1) _ C1.out _).mono ?_); rintro e w' ⟨rfl, rfl⟩) | (go_at_call 35; (with_reducible refine (sLeaf_calls _ _ f.chart x.f0 HS.out _ C2.out _ (Kd.C_below HR.out (by repeat (with_reducible first | assumption | exact Below.refl _ _ | apply below_alloc | apply below_drew1 | apply pw_below_drewN | refine below_set ?_ (by omega) | refine below_step ?_ (by assumption))))).mono ?_); rintro e w1 ⟨rfl, hb1⟩; obtain ⟨hc1, hf1⟩ := bcell hb1; have hz1 := hb1.size; (try simp at hz1); have hy1 : w.heap.size < w1.heap.size := (by omega); have hx1 : w.heap.size + 1 < w1.heap.size := (by omega)) | (go_at_call 34; (with_reducible refine (l1In_calls x.f1 0 (f.dims - 1) _ C3.out _).mono ?_); rintro e w' ⟨rfl, rfl⟩) | (go_at_call 34; (with_reducible refine (l1In_calls x.f2 0 (f.curs - 1) _ C4.out _).mono ?_); rintro e w' ⟨rfl, rfl⟩) | (go_at_call 96; (with_reducible refine (l1Amount_calls x.f3 _ C5.out _).mono ?_); rintro e w' ⟨rfl, rfl⟩) | (go_at_call 96; (with_reducible refine (l1Amount_calls x.f4 _ C6.out _).mono ?_); rintro e w' ⟨rfl, rfl⟩))
  go_ret
  exact ⟨ret_b HF.out.symm, (by repeat (with_reducible first | assumption | exact Below.refl _ _ | apply below_alloc | apply below_drew1 | apply pw_below_drewN | refine below_set ?_ (by omega) | refine below_step ?_ (by assumption)))⟩
 by_cases c2 : (ChartP f.chart ∧ LeafP f.chart x.f0)
 rotate_left
 ·have C1 := Aside0.mk (bP_t c1); have C2 := Aside0.mk (bP_f c2); have HF := Aside0.mk (HG.out.symm.trans (bP_f (fun h => c2 h.2.1))); clear c1 c2
  go_enter Tryz.func100, Tryz.ntmps100
  go_wp2_with (first | (go_at_call 34; (with_reducible refine (l1In_calls x.f0 0 ((f.chart.length : Int) - 1) _ C1.out _).mono ?_); rintro e w' ⟨rfl, rfl⟩) | (go_at_call 35; (with_reducible refine (sLeaf_calls _ _ f.chart x.f0 HS.out _ C2.out _ (Kd.C_below HR.out (by repeat (with_reducible first | assumption | exact Below.refl _ _ | apply below_alloc | apply below_drew1 | apply pw_below_drewN | refine below_set ?_ (by omega) | refine below_step ?_ (by assumption))))).mono ?_); rintro e w1 ⟨rfl, hb1⟩; obtain ⟨hc1, hf1⟩ := bcell hb1; have hz1 := hb1.size; (try simp at hz1); have hy1 : w.heap.size < w1.heap.size := (by omega); have hx1 : w.heap.size + 1 < w1.heap.size := (by omega)) | (go_at_call 34; (with_reducible refine (l1In_calls x.f1 0 (f.dims - 1) _ C3.out _).mono ?_); rintro e w' ⟨rfl, rfl⟩) | (go_at_call 34; (with_reducible refine (l1In_calls x.f2 0 (f.curs - 1) _ C4.out _).mono ?_); rintro e w' ⟨rfl, rfl⟩) | (go_at_call 96; (with_reducible refine (l1Amount_calls x.f3 _ C5.out _).mono ?_); rintro e w' ⟨rfl, rfl⟩) | (go_at_call 96; (with_reducible refine (l1Amount_calls x.f4 _ C6.out _).mono ?_); rintro e w' ⟨rfl, rfl⟩))
  go_ret
  exact ⟨ret_b HF.out.symm, (by repeat (with_reducible first | assumption | exact Below.refl _ _ | apply below_alloc | apply below_drew1 | apply pw_below_drewN | refine below_set ?_ (by omega) | refine below_step ?_ (by assumption)))⟩
 by_cases c3 : (0 ≤ x.f1 ∧ x.f1 ≤ f.dims - 1)
 rotate_left
 ·have C1 := Aside0.mk (bP_t c1); have C2 := Aside0.mk (bP_t c2); have C3 := Aside0.mk (bP_f c3); have HF := Aside0.mk (HG.out.symm.trans (bP_f (fun h => c3 h.2.2.1))); clear c1 c2 c3
  go_enter Tryz.func100, Tryz.ntmps100
  go_wp2_with (first | (go_at_call 34; (with_reducible refine (l1In_calls x.f0 0 ((f.chart.length : Int) - 1) _ C1.out _).mono ?_); rintro e w' ⟨rfl, rfl⟩) | (go_at_call 35; (with_reducible refine (sLeaf_calls _ _ f.chart x.f0 HS.out _ C2.out _ (Kd.C_below HR.out (by repeat (with_reducible first | assumption | exact Below.refl _ _ | apply below_alloc | apply below_drew1 | apply pw_below_drewN | refine below_set ?_ (by omega) | refine below_step ?_ (by assumption))))).mono ?_); rintro e w1 ⟨rfl, hb1⟩; obtain ⟨hc1, hf1⟩ := bcell hb1; have hz1 := hb1.size; (try simp at hz1); have hy1 : w.heap.size < w1.heap.size := (by omega); have hx1 : w.heap.size + 1 < w1.heap.size := (by omega)) | (go_at_call 34; (with_reducible refine (l1In_calls x.f1 0 (f.dims - 1) _ C3.out _).mono ?_); rintro e w' ⟨rfl, rfl⟩) | (go_at_call 34; (with_reducible refine (l1In_calls x.f2 0 (f.curs - 1) _ C4.out _).mono ?_); rintro e w' ⟨rfl, rfl⟩) | (go_at_call 96; (with_reducible refine (l1Amount_calls x.f3 _ C5.out _).mono ?_); rintro e w' ⟨rfl, rfl⟩) | (go_at_call 96; (with_reducible refine (l1Amount_calls x.f4 _ C6.out _).mono ?_); rintro e w' ⟨rfl, rfl⟩))
  go_ret
  exact ⟨ret_b HF.out.symm, (by repeat (with_reducible first | assumption | exact Below.refl _ _ | apply below_alloc | apply below_drew1 | apply pw_below_drewN | refine below_set ?_ (by omega) | refine below_step ?_ (by assumption)))⟩
 by_cases c4 : (0 ≤ x.f2 ∧ x.f2 ≤ f.curs - 1)
 rotate_left
 ·have C1 := Aside0.mk (bP_t c1); have C2 := Aside0.mk (bP_t c2); have C3 := Aside0.mk (bP_t c3); have C4 := Aside0.mk (bP_f c4); have HF := Aside0.mk (HG.out.symm.trans (bP_f (fun h => c4 h.2.2.2.1))); clear c1 c2 c3 c4
  go_enter Tryz.func100, Tryz.ntmps100
  go_wp2_with (first | (go_at_call 34; (with_reducible refine (l1In_calls x.f0 0 ((f.chart.length : Int) - 1) _ C1.out _).mono ?_); rintro e w' ⟨rfl, rfl⟩) | (go_at_call 35; (with_reducible refine (sLeaf_calls _ _ f.chart x.f0 HS.out _ C2.out _ (Kd.C_below HR.out (by repeat (with_reducible first | assumption | exact Below.refl _ _ | apply below_alloc | apply below_drew1 | apply pw_below_drewN | refine below_set ?_ (by omega) | refine below_step ?_ (by assumption))))).mono ?_); rintro e w1 ⟨rfl, hb1⟩; obtain ⟨hc1, hf1⟩ := bcell hb1; have hz1 := hb1.size; (try simp at hz1); have hy1 : w.heap.size < w1.heap.size := (by omega); have hx1 : w.heap.size + 1 < w1.heap.size := (by omega)) | (go_at_call 34; (with_reducible refine (l1In_calls x.f1 0 (f.dims - 1) _ C3.out _).mono ?_); rintro e w' ⟨rfl, rfl⟩) | (go_at_call 34; (with_reducible refine (l1In_calls x.f2 0 (f.curs - 1) _ C4.out _).mono ?_); rintro e w' ⟨rfl, rfl⟩) | (go_at_call 96; (with_reducible refine (l1Amount_calls x.f3 _ C5.out _).mono ?_); rintro e w' ⟨rfl, rfl⟩) | (go_at_call 96; (with_reducible refine (l1Amount_calls x.f4 _ C6.out _).mono ?_); rintro e w' ⟨rfl, rfl⟩))
  go_ret
  exact ⟨ret_b HF.out.symm, (by repeat (with_reducible first | assumption | exact Below.refl _ _ | apply below_alloc | apply below_drew1 | apply pw_below_drewN | refine below_set ?_ (by omega) | refine below_step ?_ (by assumption)))⟩
 by_cases c5 : (-100000000000 ≤ x.f3 ∧ x.f3 ≤ 100000000000)
 rotate_left
 ·have C1 := Aside0.mk (bP_t c1); have C2 := Aside0.mk (bP_t c2); have C3 := Aside0.mk (bP_t c3); have C4 := Aside0.mk (bP_t c4); have C5 := Aside0.mk (bP_f c5); have HF := Aside0.mk (HG.out.symm.trans (bP_f (fun h => c5 h.2.2.2.2.1))); clear c1 c2 c3 c4 c5
  go_enter Tryz.func100, Tryz.ntmps100
  go_wp2_with (first | (go_at_call 34; (with_reducible refine (l1In_calls x.f0 0 ((f.chart.length : Int) - 1) _ C1.out _).mono ?_); rintro e w' ⟨rfl, rfl⟩) | (go_at_call 35; (with_reducible refine (sLeaf_calls _ _ f.chart x.f0 HS.out _ C2.out _ (Kd.C_below HR.out (by repeat (with_reducible first | assumption | exact Below.refl _ _ | apply below_alloc | apply below_drew1 | apply pw_below_drewN | refine below_set ?_ (by omega) | refine below_step ?_ (by assumption))))).mono ?_); rintro e w1 ⟨rfl, hb1⟩; obtain ⟨hc1, hf1⟩ := bcell hb1; have hz1 := hb1.size; (try simp at hz1); have hy1 : w.heap.size < w1.heap.size := (by omega); have hx1 : w.heap.size + 1 < w1.heap.size := (by omega)) | (go_at_call 34; (with_reducible refine (l1In_calls x.f1 0 (f.dims - 1) _ C3.out _).mono ?_); rintro e w' ⟨rfl, rfl⟩) | (go_at_call 34; (with_reducible refine (l1In_calls x.f2 0 (f.curs - 1) _ C4.out _).mono ?_); rintro e w' ⟨rfl, rfl⟩) | (go_at_call 96; (with_reducible refine (l1Amount_calls x.f3 _ C5.out _).mono ?_); rintro e w' ⟨rfl, rfl⟩) | (go_at_call 96; (with_reducible refine (l1Amount_calls x.f4 _ C6.out _).mono ?_); rintro e w' ⟨rfl, rfl⟩))
  go_ret
  exact ⟨ret_b HF.out.symm, (by repeat (with_reducible first | assumption | exact Below.refl _ _ | apply below_alloc | apply below_drew1 | apply pw_below_drewN | refine below_set ?_ (by omega) | refine below_step ?_ (by assumption)))⟩
 by_cases c6 : (-100000000000 ≤ x.f4 ∧ x.f4 ≤ 100000000000)
 rotate_left
 ·have C1 := Aside0.mk (bP_t c1); have C2 := Aside0.mk (bP_t c2); have C3 := Aside0.mk (bP_t c3); have C4 := Aside0.mk (bP_t c4); have C5 := Aside0.mk (bP_t c5); have C6 := Aside0.mk (bP_f c6); have HF := Aside0.mk (HG.out.symm.trans (bP_f (fun h => c6 h.2.2.2.2.2.1))); clear c1 c2 c3 c4 c5 c6
  go_enter Tryz.func100, Tryz.ntmps100
  go_wp2_with (first | (go_at_call 34; (with_reducible refine (l1In_calls x.f0 0 ((f.chart.length : Int) - 1) _ C1.out _).mono ?_); rintro e w' ⟨rfl, rfl⟩) | (go_at_call 35; (with_reducible refine (sLeaf_calls _ _ f.chart x.f0 HS.out _ C2.out _ (Kd.C_below HR.out (by repeat (with_reducible first | assumption | exact Below.refl _ _ | apply below_alloc | apply below_drew1 | apply pw_below_drewN | refine below_set ?_ (by omega) | refine below_step ?_ (by assumption))))).mono ?_); rintro e w1 ⟨rfl, hb1⟩; obtain ⟨hc1, hf1⟩ := bcell hb1; have hz1 := hb1.size; (try simp at hz1); have hy1 : w.heap.size < w1.heap.size := (by omega); have hx1 : w.heap.size + 1 < w1.heap.size := (by omega)) | (go_at_call 34; (with_reducible refine (l1In_calls x.f1 0 (f.dims - 1) _ C3.out _).mono ?_); rintro e w' ⟨rfl, rfl⟩) | (go_at_call 34; (with_reducible refine (l1In_calls x.f2 0 (f.curs - 1) _ C4.out _).mono ?_); rintro e w' ⟨rfl, rfl⟩) | (go_at_call 96; (with_reducible refine (l1Amount_calls x.f3 _ C5.out _).mono ?_); rintro e w' ⟨rfl, rfl⟩) | (go_at_call 96; (with_reducible refine (l1Amount_calls x.f4 _ C6.out _).mono ?_); rintro e w' ⟨rfl, rfl⟩))
  go_ret
  exact ⟨ret_b HF.out.symm, (by repeat (with_reducible first | assumption | exact Below.refl _ _ | apply below_alloc | apply below_drew1 | apply pw_below_drewN | refine below_set ?_ (by omega) | refine below_step ?_ (by assumption)))⟩
 have C1 := Aside0.mk (bP_t c1)
 have C2 := Aside0.mk (bP_t c2)
 have C3 := Aside0.mk (bP_t c3)
 have C4 := Aside0.mk (bP_t c4)
 have C5 := Aside0.mk (bP_t c5)
 have C6 := Aside0.mk (bP_t c6)
 by_cases hq : x.f2 = 0
 ·by_cases hq2 : x.f3 = x.f4
  ·have HF := Aside0.mk (HG.out.symm.trans (bP_t ⟨c1, c2, c3, c4, c5, c6, .inr hq2⟩))
   have e1 : (x.f2 != 0) = false := by simp [hq]
   have e2 : (x.f3 == x.f4) = true := by simp [hq2]
   clear c1 c2 c3 c4 c5 c6 hq hq2
   go_enter Tryz.func100, Tryz.ntmps100
   go_wp2_with (first | (go_at_call 34; (with_reducible refine (l1In_calls x.f0 0 ((f.chart.length : Int) - 1) _ C1.out _).mono ?_); rintro e w' ⟨rfl, rfl⟩) | (go_at_call 35; (with_reducible refine (sLeaf_calls _ _ f.chart x.f0 HS.out _ C2.out _ (Kd.C_below HR.out (by repeat (with_reducible first | assumption | exact Below.refl _ _ | apply below_alloc | apply below_drew1 | apply pw_below_drewN | refine below_set ?_ (by omega) | refine below_step ?_ (by assumption))))).mono ?_); rintro e w1 ⟨rfl, hb1⟩; obtain ⟨hc1, hf1⟩ := bcell hb1; have hz1 := hb1.size; (try simp at hz1); have hy1 : w.heap.size < w1.heap.size := (by omega); have hx1 : w.heap.size + 1 < w1.heap.size := (by omega)) | (go_at_call 34; (with_reducible refine (l1In_calls x.f1 0 (f.dims - 1) _ C3.out _).mono ?_); rintro e w' ⟨rfl, rfl⟩) | (go_at_call 34; (with_reducible refine (l1In_calls x.f2 0 (f.curs - 1) _ C4.out _).mono ?_); rintro e w' ⟨rfl, rfl⟩) | (go_at_call 96; (with_reducible refine (l1Amount_calls x.f3 _ C5.out _).mono ?_); rintro e w' ⟨rfl, rfl⟩) | (go_at_call 96; (with_reducible refine (l1Amount_calls x.f4 _ C6.out _).mono ?_); rintro e w' ⟨rfl, rfl⟩))
   go_ret
   exact ⟨ret_b HF.out.symm, (by repeat (with_reducible first | assumption | exact Below.refl _ _ | apply below_alloc | apply below_drew1 | apply pw_below_drewN | refine below_set ?_ (by omega) | refine below_step ?_ (by assumption)))⟩
  ·have HF := Aside0.mk (HG.out.symm.trans (bP_f fun h => h.2.2.2.2.2.2.elim (fun g => g hq) hq2))
   have e1 : (x.f2 != 0) = false := by simp [hq]
   have e2 : (x.f3 == x.f4) = false := by simp [hq2]
   clear c1 c2 c3 c4 c5 c6 hq hq2
   go_enter Tryz.func100, Tryz.ntmps100
   go_wp2_with (first | (go_at_call 34; (with_reducible refine (l1In_calls x.f0 0 ((f.chart.length : Int) - 1) _ C1.out _).mono ?_); rintro e w' ⟨rfl, rfl⟩) | (go_at_call 35; (with_reducible refine (sLeaf_calls _ _ f.chart x.f0 HS.out _ C2.out _ (Kd.C_below HR.out (by repeat (with_reducible first | assumption | exact Below.refl _ _ | apply below_alloc | apply below_drew1 | apply pw_below_drewN | refine below_set ?_ (by omega) | refine below_step ?_ (by assumption))))).mono ?_); rintro e w1 ⟨rfl, hb1⟩; obtain ⟨hc1, hf1⟩ := bcell hb1; have hz1 := hb1.size; (try simp at hz1); have hy1 : w.heap.size < w1.heap.size := (by omega); have hx1 : w.heap.size + 1 < w1.heap.size := (by omega)) | (go_at_call 34; (with_reducible refine (l1In_calls x.f1 0 (f.dims - 1) _ C3.out _).mono ?_); rintro e w' ⟨rfl, rfl⟩) | (go_at_call 34; (with_reducible refine (l1In_calls x.f2 0 (f.curs - 1) _ C4.out _).mono ?_); rintro e w' ⟨rfl, rfl⟩) | (go_at_call 96; (with_reducible refine (l1Amount_calls x.f3 _ C5.out _).mono ?_); rintro e w' ⟨rfl, rfl⟩) | (go_at_call 96; (with_reducible refine (l1Amount_calls x.f4 _ C6.out _).mono ?_); rintro e w' ⟨rfl, rfl⟩))
   go_ret
   exact ⟨ret_b HF.out.symm, (by repeat (with_reducible first | assumption | exact Below.refl _ _ | apply below_alloc | apply below_drew1 | apply pw_below_drewN | refine below_set ?_ (by omega) | refine below_step ?_ (by assumption)))⟩
 ·have HF := Aside0.mk (HG.out.symm.trans (bP_t ⟨c1, c2, c3, c4, c5, c6, .inl hq⟩))
  have e1 : (x.f2 != 0) = true := by simp [hq]
  clear c1 c2 c3 c4 c5 c6 hq
  go_enter Tryz.func100, Tryz.ntmps100
  go_wp2_with (first | (go_at_call 34; (with_reducible refine (l1In_calls x.f0 0 ((f.chart.length : Int) - 1) _ C1.out _).mono ?_); rintro e w' ⟨rfl, rfl⟩) | (go_at_call 35; (with_reducible refine (sLeaf_calls _ _ f.chart x.f0 HS.out _ C2.out _ (Kd.C_below HR.out (by repeat (with_reducible first | assumption | exact Below.refl _ _ | apply below_alloc | apply below_drew1 | apply pw_below_drewN | refine below_set ?_ (by omega) | refine below_step ?_ (by assumption))))).mono ?_); rintro e w1 ⟨rfl, hb1⟩; obtain ⟨hc1, hf1⟩ := bcell hb1; have hz1 := hb1.size; (try simp at hz1); have hy1 : w.heap.size < w1.heap.size := (by omega); have hx1 : w.heap.size + 1 < w1.heap.size := (by omega)) | (go_at_call 34; (with_reducible refine (l1In_calls x.f1 0 (f.dims - 1) _ C3.out _).mono ?_); rintro e w' ⟨rfl, rfl⟩) | (go_at_call 34; (with_reducible refine (l1In_calls x.f2 0 (f.curs - 1) _ C4.out _).mono ?_); rintro e w' ⟨rfl, rfl⟩) | (go_at_call 96; (with_reducible refine (l1Amount_calls x.f3 _ C5.out _).mono ?_); rintro e w' ⟨rfl, rfl⟩) | (go_at_call 96; (with_reducible refine (l1Amount_calls x.f4 _ C6.out _).mono ?_); rintro e w' ⟨rfl, rfl⟩))
  go_ret
  exact ⟨ret_b HF.out.symm, (by repeat (with_reducible first | assumption | exact Below.refl _ _ | apply below_alloc | apply below_drew1 | apply pw_below_drewN | refine below_set ?_ (by omega) | refine below_step ?_ (by assumption)))⟩
end Go.Proofs.YtheaeffhhbjpmaaGreatDoor

/- Of the reference: an entry is recorded. -/
import Derived.Test.YtheaeffhhbjpmaaGreatDoorXSp13
namespace Go.Proofs.YtheaeffhhbjpmaaGreatDoor
open Go.RowKit Go.Proofs.YtheaeffhhbjpmaaGreatDoorW.PrintWords Go.Proofs.YtheaeffhhbjpmaaGreatDoorW.PrintLast
set_option linter.unusedVariables false
set_option linter.unusedSimpArgs false
def emptyB : BooksD := ⟨⟨[], 0, 0⟩, ⟨[], 0⟩, [], 0, 0⟩
noncomputable def newB (b : BooksD) (y : S41) : BooksD := ⟨b.frame, ⟨b.ledg.entries ++ [y], headF (b.ledg.entries ++ [y])⟩, b.periods, b.closed, b.kept⟩
inductive RecP (b : BooksD) (y : S41) : BooksD → Int → Prop
 | bad (h : ¬ BooksP b) : RecP b y emptyB 1
 | entry (h : BooksP b) (h2 : ¬ EntryP b.frame y) : RecP b y b 2
 | none (h : BooksP b) (h2 : EntryP b.frame y) (h3 : periodAt b.periods y.f0 < 0) : RecP b y b 3
 | shut (h : BooksP b) (h2 : EntryP b.frame y) (h3 : 0 ≤ periodAt b.periods y.f0) (h4 : periodAt b.periods y.f0 < b.closed) : RecP b y b 4
 | full (h : BooksP b) (h2 : EntryP b.frame y) (h3 : 0 ≤ periodAt b.periods y.f0) (h4 : b.closed ≤ periodAt b.periods y.f0) (h5 : b.ledg.entries.length = 1000) : RecP b y b 5
 | ok (h : BooksP b) (h2 : EntryP b.frame y) (h3 : 0 ≤ periodAt b.periods y.f0) (h4 : b.closed ≤ periodAt b.periods y.f0) (h5 : b.ledg.entries.length < 1000) : RecP b y (newB b y) 0
theorem recP_total (b : BooksD) (y : S41) : ∃ b' k, RecP b y b' k := by
 by_cases h : BooksP b
 ·by_cases h2 : EntryP b.frame y
  ·by_cases h3 : periodAt b.periods y.f0 < 0
   ·exact ⟨_, _, .none h h2 h3⟩
   ·by_cases h4 : periodAt b.periods y.f0 < b.closed
    ·exact ⟨_, _, .shut h h2 (by omega) h4⟩
    ·by_cases h5 : b.ledg.entries.length = 1000
     ·exact ⟨_, _, .full h h2 (by omega) (by omega) h5⟩
     ·exact ⟨_, _, .ok h h2 (by omega) (by omega) (by have := h.1.1; omega)⟩
  ·exact ⟨_, _, .entry h h2⟩
 ·exact ⟨_, _, .bad h⟩
theorem BooksP.sm {b : BooksD} (h : BooksP b) : SmB b :=
 ⟨by have := h.1.2.1.1.2.1; omega, by have := h.1.1; omega, fun x hx => by
  obtain ⟨i, h0, h1, e⟩ := of_getD z41 hx
  have := (h.1.2.2.2 i h0 h1).2.2.2.1.2
  unfold en rd_T41 at this; rw [e] at this; omega, by have := h.2.1.1.2; omega⟩
end Go.Proofs.YtheaeffhhbjpmaaGreatDoor

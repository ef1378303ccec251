/- Plain laws of the common model: schedules as texts, drawn programs. Own work of this claim; no program in sight. -/
import Derived.Test.YthldlaiplfennaaDoorPk
import Derived.Test.YthldlaiplfennaaDoorPl
namespace Go.Proofs.YthldlaiplfennaaDoor.S
set_option linter.all false

/-- A schedule's text: 'o' an operation, 'g' a step of the collector. -/
def sch (l : List Bool) : ByteArray := bs (l.map fun c => if c then 111 else 103)
theorem sch_size (l : List Bool) : (sch l).size = l.length := by rw [sch, bs_size, List.length_map]
theorem sch_at (l : List Bool) (i : Nat) (h : i < l.length) : (((sch l).data.getD i 0).toNat : Int) = if l.getD i false then 111 else 103 := by
  unfold sch bs
  rw [Array.getD_eq_getD_getElem?]
  simp only [List.getElem?_toArray, List.getElem?_map, List.getD_eq_getElem?_getD]
  rw [List.getElem?_eq_getElem h]
  cases l[i] <;> simp
theorem sch_snoc (l : List Bool) (c : Bool) : sch l ++ bs [if c then 111 else 103] = sch (l ++ [c]) := by
  rw [sch, bs_app, sch, List.map_append]; rfl
theorem opsV_mem {l : List (Int × Int × Int)} {n : Nat} (hl : l.length ≤ 12) (h : ∀ o ∈ l, opOk o.1 o.2.1 o.2.2 n) : opsV l n := by
  refine ⟨hl, fun j hj => ?_⟩
  have : opAt l j ∈ l := by
    unfold opAt
    rw [List.getD_eq_getElem?_getD, List.getElem?_eq_getElem hj]
    exact List.getElem_mem hj
  exact h _ this
theorem opsV_all {l : List (Int × Int × Int)} {n : Nat} (h : opsV l n) : ∀ o ∈ l, opOk o.1 o.2.1 o.2.2 n := by
  intro o ho
  obtain ⟨i, hi, e⟩ := List.getElem_of_mem ho
  have := h.2 i hi
  unfold opAt at this
  rw [List.getD_eq_getElem?_getD, List.getElem?_eq_getElem hi] at this
  rw [← e]
  exact this
theorem opsS_again {s : Sto} {l : List (Int × Int × Int)} (h : s.opsOk l) : (s.opsS l).opsOk l := by
  have e : s.opsS l = s.goS l := by rw [Sto.opsS, if_pos h]
  have g := goS_ok h.1 s.h.T.length rfl (opsV_all h.2)
  rw [e]
  exact ⟨g.1, by rw [g.2.2]; exact h.2⟩
theorem Bth.run_take {bar : Bool} {l : List Bool} {i : Nat} {b : Bth} (h : i < l.length) : Bth.run bar (l.take (i + 1)) b = (Bth.run bar (l.take i) b).one bar (l.getD i false) := by
  rw [List.take_add_one, Bth.run_app]
  rw [List.getElem?_eq_getElem h, List.getD_eq_getElem?_getD, List.getElem?_eq_getElem h]
  rfl
theorem Bth.ok.c1 {b : Bth} (h : b.ok) : 1 ≤ b.g.C.length := by
  have h1 := h.1.2.1.1
  have h2 := h.1.1.1.1
  omega
end Go.Proofs.YthldlaiplfennaaDoor.S

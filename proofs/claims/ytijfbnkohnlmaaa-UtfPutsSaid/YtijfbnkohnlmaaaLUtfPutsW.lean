/- UtfPuts answers true at every list of numbers: the walk joined with what is computed. -/
import Derived.Test.YtijfbnkohnlmaaaLUtfPuts
import Derived.Test.YtijfbnkohnlmaaaLUtfReadsW
namespace Go.Proofs.Ytijfbnkohnlmaaa.X
open Go.RowKit Go.Proofs.YtijfbnkohnlmaaaW.PrintWords Go.Proofs.YtijfbnkohnlmaaaW.PrintLast
set_option linter.unusedVariables false
def IsRow (k : IntKind) (w : World) (a : Option Addr) (len cap : Nat) (zs : List Int) : Prop :=
  (a = none ∧ len = 0 ∧ cap = 0 ∧ zs = []) ∨
  ∃ x, a = some x ∧ len ≤ cap ∧ cap ≤ maxLen ∧ zs.length = cap ∧ (∀ i, i < zs.length → w.cell? (x.add i) = some (.int k (zs.getD i 0))) ∧ ∀ n ∈ zs, (Lit.int k n).wf = true
theorem decs_put0 (l : List Int) (hl : l.all isv = true) : (decs (strOfNums (putL l)) ((strOfNums (putL l)).size + 1) 0).1.map (·.2) = l ∧ (decs (strOfNums (putL l)) ((strOfNums (putL l)).size + 1) 0).2 = (strOfNums (putL l)).size := by
  have h := decs_put ((strOfNums (putL l)).size + 1) l [] hl (fun x h => by simp at h) (by rw [son_size]; omega)
  rw [List.nil_append] at h
  refine ⟨h.1, ?_⟩
  rw [son_size]
  rw [son_size] at h
  exact h.2
theorem UtfPuts_walk (A0 : Option Addr) (len c0 : Nat) (z : List Int) (w : World) (h : IsRow .i32 w A0 len c0 z) (hy : len * 4 ≤ 140737488351232) :
    Calls Try.prog 3 #[.slice A0 len c0] w fun e w' => e = .returned (.bool true) ∧ Below w.heap.size w w' := by
  obtain ⟨l, rfl, hr, hm, hw, hc⟩ := ReadsInt.ofRowC h
  have hr := Kd.C_of_reads (d := (0 : Int)) (h1 := fun _ => rfl) hr
  have hww : ∀ x ∈ l, wrap64 x = x := fun x hx => by have := i32_bounds (hw x hx); exact w64 (by omega) (by omega)
  by_cases c1 : (l.length : Int) > 100
  · exact UtfPuts_long A0 c0 l w hy c1
  obtain ⟨kP, hP⟩ := (Put_ev l hy).rounds
  by_cases hb : l.all isv = true
  · rw [if_pos hb] at hP
    have hlen := putL_len l
    have hs : (strOfNums (putL l)).size ≤ 140737488351232 := by rw [son_size]; omega
    obtain ⟨hd1, hd2⟩ := decs_put0 l hb
    obtain ⟨kV, hV⟩ := (Valid_ev (strOfNums (putL l)) hs).rounds
    obtain ⟨kB, hB⟩ := (uAll_go (strOfNums (putL l)) hs ((strOfNums (putL l)).size + 1) 0 (by omega)).rounds
    rw [decide_eq_true (show endOf (strOfNums (putL l)) = (strOfNums (putL l)).size from hd2)] at hV
    refine UtfPuts_good A0 c0 l w hr hc hy hww c1 kP kV kB (strOfNums (putL l)) ⟨rfl⟩ _ _ ⟨hP⟩ ⟨hb⟩ ⟨hB⟩ ⟨?_⟩ ⟨hV⟩
    rw [List.map_map]
    exact hd1
  · rw [if_neg hb] at hP
    exact UtfPuts_bad A0 c0 l w hr hc hy hww c1 kP ⟨hP⟩ ⟨hb⟩
end Go.Proofs.Ytijfbnkohnlmaaa.X

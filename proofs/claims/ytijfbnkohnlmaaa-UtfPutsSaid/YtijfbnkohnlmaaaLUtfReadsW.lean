/- UtfReads answers true at every text, place and bound: the walk joined with what is computed. -/
import Derived.Test.YtijfbnkohnlmaaaLUtfReads
namespace Go.Proofs.Ytijfbnkohnlmaaa.X
open Go.RowKit Go.Proofs.YtijfbnkohnlmaaaW.PrintWords Go.Proofs.YtijfbnkohnlmaaaW.PrintLast
set_option linter.unusedVariables false
theorem decs_mem (s : ByteArray) : ∀ (f a : Nat) (x : Nat × Int), x ∈ (decs s f a).1 → 0 ≤ x.2 ∧ x.2 ≤ 1114111
  | 0, a, x, h => by simp [decs] at h
  | f + 1, a, x, h => by
    cases hd : dec s a with
    | none => simp [decs, hd] at h
    | some vn =>
      obtain ⟨v, n⟩ := vn
      simp only [decs, hd, List.mem_cons] at h
      rcases h with rfl | h
      · have := dec_range hd; exact ⟨this.2.2.1, this.2.2.2⟩
      · exact decs_mem s f (a + n) x h
theorem decs_len (s : ByteArray) : ∀ (f a : Nat), a ≤ s.size → (decs s f a).1.length + a ≤ s.size
  | 0, a, h => by simp [decs]; exact h
  | f + 1, a, h => by
    cases hd : dec s a with
    | none => simp [decs, hd]; exact h
    | some vn =>
      obtain ⟨v, n⟩ := vn
      have h1 := dec_range hd
      have h2 := dec_form hd
      have h3 := decs_len s f (a + n) h2.2.1
      simp only [decs, hd, List.length_cons]
      omega
theorem Next_neg (s : ByteArray) (hs : s.size ≤ 140737488351232) (a : Int) (ha : a < 0) : Ev (fun k => utf_Next.f k s a) (0, 0, false) := by
  unfold utf_Next.f
  exact evPos hs (evPos ha (Ev.now _))
theorem UtfReads_walk (s : ByteArray) (at_ most : Int) (w : World) (hs : s.size ≤ 140737488351232) :
    Calls Try.prog 4 #[.string s, .int .i64 at_, .int .i64 most] w fun e w' => e = .returned (.bool true) ∧ Below w.heap.size w w' := by
  by_cases c1 : (s.size : Int) > 300
  · exact UtfReads_long s at_ most w hs c1
  obtain ⟨kV, hV⟩ := (Valid_ev s hs).rounds
  obtain ⟨kW, hW⟩ := (rValid_ev s (by omega)).rounds
  obtain ⟨kB, hB⟩ := (uAll_go s hs (s.size + 1) 0 (by omega)).rounds
  obtain ⟨kA, hA⟩ := (rAll_go s hs (s.size + 1) 0 [] [] (by omega) (by simp; omega) (by simp; omega) (by omega) (by omega) (by simp) (by simp)).rounds
  have hlen := decs_len s (s.size + 1) 0 (by omega)
  have hmem := decs_mem s (s.size + 1) 0
  obtain ⟨v, n, kN, kR, hN, hR, hv⟩ : ∃ v n kN kR, utf_Next.f kN s at_ = some (v, n, decide (0 < n)) ∧ sealringref03_Next.f kR s at_ = some (v, n) ∧ wrap64 v = v := by
    by_cases ha : at_ < 0
    · obtain ⟨kN, hN⟩ := (Next_neg s hs at_ ha).rounds
      obtain ⟨kR, hR⟩ := (rNext_neg s at_ ha).rounds
      exact ⟨0, 0, kN, kR, hN, hR, w64 (by omega) (by omega)⟩
    · obtain ⟨a, rfl⟩ : ∃ a : Nat, at_ = (a : Int) := ⟨at_.toNat, by omega⟩
      obtain ⟨kN, hN⟩ := (Next_ev s hs a).rounds
      obtain ⟨kR, hR⟩ := (rNext_ev s hs a).rounds
      cases hd : dec s a with
      | none =>
        rw [hd] at hN hR
        exact ⟨0, 0, kN, kR, hN, hR, w64 (by omega) (by omega)⟩
      | some vn =>
        obtain ⟨v, n⟩ := vn
        have hr := dec_range hd
        rw [hd] at hN hR
        refine ⟨v, n, kN, kR, ?_, hR, w64 (by omega) (by omega)⟩
        rw [hN, decide_eq_true (show (0 : Int) < (n : Int) by omega)]
        rfl
  refine UtfReads_main s at_ most w hs c1 v n kN kR kV kW kA kB (decide (endOf s = s.size)) ((decs s (s.size + 1) 0).1.map (fun x => ((x.1 : Int), x.2))) ((decs s (s.size + 1) 0).2 : Int) ⟨hN⟩ ⟨hR⟩ hv ⟨by simp; omega⟩ ⟨?_⟩ ⟨hV⟩ ⟨hW⟩ ⟨?_⟩ ⟨hB⟩
  · intro z hz
    obtain ⟨x, hx, rfl⟩ := List.mem_map.1 hz
    have := hmem x hx
    exact w64 (by simp; omega) (by simp; omega)
  · rw [List.map_map, List.map_map]
    exact hA
end Go.Proofs.Ytijfbnkohnlmaaa.X

import Derived.Test.YtijfbnkohnlmaaaSUtfRef
import Derived.Test.YtijfbnkohnlmaaaHCompare
import Derived.Test.YtijfbnkohnlmaaaX11
import Derived.Test.YtijfbnkohnlmaaaX12
import Derived.Test.YtijfbnkohnlmaaaX14
import Derived.Test.YtijfbnkohnlmaaaX15
import Derived.Test.YtijfbnkohnlmaaaX5
namespace Go.Proofs.Ytijfbnkohnlmaaa.X
open Go.RowKit Go.Proofs.YtijfbnkohnlmaaaW.PrintWords Go.Proofs.YtijfbnkohnlmaaaW.PrintLast
set_option linter.unusedVariables false
set_option linter.unusedSimpArgs false
theorem utf_sz_of {v : Int} : (0 ≤ v ∧ v < 128 → utf_sz v = 1) ∧ (128 ≤ v ∧ v < 2048 → utf_sz v = 2) := by
  refine ⟨fun h => ?_, fun h => ?_⟩
  · unfold utf_sz; rw [if_neg (by omega), if_pos h.2]
  · unfold utf_sz; rw [if_neg (by omega), if_neg (by omega), if_pos h.2]
theorem utf_sz_3 {v : Int} (h : utf_sz v = 3) : 2048 ≤ v ∧ v < 65536 ∧ (v < 55296 ∨ v > 57343) := by
  unfold utf_sz at h
  have c0 : ¬ (v < 0 ∨ v > 1114111 ∨ v ≥ 55296 ∧ v ≤ 57343) := fun c => by rw [if_pos c] at h; omega
  rw [if_neg c0] at h
  have c1 : ¬ v < 128 := fun c => by rw [if_pos c] at h; omega
  rw [if_neg c1] at h
  have c2 : ¬ v < 2048 := fun c => by rw [if_pos c] at h; omega
  rw [if_neg c2] at h
  have c3 : v < 65536 := by
    by_cases c : v < 65536
    · exact c
    · rw [if_neg c] at h; omega
  omega
theorem utf_sz_4 {v : Int} (h : utf_sz v = 4) : 65536 ≤ v ∧ v ≤ 1114111 := by
  unfold utf_sz at h
  have c0 : ¬ (v < 0 ∨ v > 1114111 ∨ v ≥ 55296 ∧ v ≤ 57343) := fun c => by rw [if_pos c] at h; omega
  rw [if_neg c0] at h
  have c1 : ¬ v < 128 := fun c => by rw [if_pos c] at h; omega
  rw [if_neg c1] at h
  have c2 : ¬ v < 2048 := fun c => by rw [if_pos c] at h; omega
  rw [if_neg c2] at h
  have c3 : ¬ v < 65536 := fun c => by rw [if_pos c] at h; omega
  omega
/-- What a code point's bytes are, from what is read. -/
theorem dec_form {s : ByteArray} {a : Nat} {v : Int} {n : Nat} (h : dec s a = some (v, n)) : a < s.size ∧ a + n ≤ s.size ∧ utf_sz v = (n : Int) ∧
    ((n = 1 ∧ 0 ≤ v ∧ v < 128 ∧ bt s a = v) ∨ (n = 2 ∧ 128 ≤ v ∧ v < 2048 ∧ bt s a = 192 + v / 64 ∧ bt s (a + 1 : Nat) = 128 + v % 64) ∨
     (n = 3 ∧ 2048 ≤ v ∧ v < 65536 ∧ bt s a = 224 + v / 4096 ∧ bt s (a + 1 : Nat) = 128 + v / 64 % 64 ∧ bt s (a + 2 : Nat) = 128 + v % 64) ∨
     (n = 4 ∧ 65536 ≤ v ∧ v ≤ 1114111 ∧ bt s a = 240 + v / 262144 ∧ bt s (a + 1 : Nat) = 128 + v / 4096 % 64 ∧ bt s (a + 2 : Nat) = 128 + v / 64 % 64 ∧ bt s (a + 3 : Nat) = 128 + v % 64)) := by
  have b0 := bt_range s (a : Int)
  unfold dec at h
  by_cases c0 : a < s.size
  · rw [if_neg (show ¬ ¬ a < s.size by omega)] at h
    by_cases c1 : bt s a < 128
    · rw [if_pos c1] at h
      obtain ⟨rfl, rfl⟩ := Prod.mk.inj (Option.some.inj h)
      exact ⟨c0, by omega, utf_sz_of.1 ⟨b0.1, c1⟩, .inl ⟨rfl, b0.1, c1, rfl⟩⟩
    · rw [if_neg c1] at h
      by_cases c2 : 194 ≤ bt s a ∧ bt s a < 224
      · rw [if_pos c2] at h
        by_cases d : a + 2 ≤ s.size ∧ vC (bt s (a + 1 : Nat)) = true
        · rw [if_pos d] at h
          obtain ⟨rfl, rfl⟩ := Prod.mk.inj (Option.some.inj h)
          have d1 := vC_iff.1 d.2
          exact ⟨c0, d.1, utf_sz_of.2 (by omega), .inr (.inl ⟨rfl, by omega, by omega, by omega, by omega⟩)⟩
        · rw [if_neg d] at h; cases h
      · rw [if_neg c2] at h
        by_cases c3 : 224 ≤ bt s a ∧ bt s a < 240
        · rw [if_pos c3] at h
          split at h
          · rename_i d
            obtain ⟨rfl, rfl⟩ := Prod.mk.inj (Option.some.inj h)
            have d1 := vC_iff.1 d.2.1
            have d2 := vC_iff.1 d.2.2.1
            have d3 := utf_sz_3 d.2.2.2
            exact ⟨c0, d.1, d.2.2.2, .inr (.inr (.inl ⟨rfl, by omega, by omega, by omega, by omega, by omega⟩))⟩
          · cases h
        · rw [if_neg c3] at h
          by_cases c4 : 240 ≤ bt s a ∧ bt s a < 245
          · rw [if_pos c4] at h
            split at h
            · rename_i d
              obtain ⟨rfl, rfl⟩ := Prod.mk.inj (Option.some.inj h)
              have d1 := vC_iff.1 d.2.1
              have d2 := vC_iff.1 d.2.2.1
              have d3 := vC_iff.1 d.2.2.2.1
              have d4 := utf_sz_4 d.2.2.2.2
              exact ⟨c0, d.1, d.2.2.2.2, .inr (.inr (.inr ⟨rfl, by omega, by omega, by omega, by omega, by omega, by omega⟩))⟩
            · cases h
          · rw [if_neg c4] at h; cases h
  · rw [if_pos c0] at h; cases h
theorem dec_range {s : ByteArray} {a : Nat} {v : Int} {n : Nat} (h : dec s a = some (v, n)) : 1 ≤ n ∧ n ≤ 4 ∧ 0 ≤ v ∧ v ≤ 1114111 := by
  have := (dec_form h).2.2.2
  omega
/-! ### All -/
def decs (s : ByteArray) : Nat → Nat → List (Nat × Int) × Nat
  | 0, a => ([], a)
  | f + 1, a => match dec s a with | none => ([], a) | some (v, n) => ((a, v) :: (decs s f (a + n)).1, (decs s f (a + n)).2)
section
variable (s : ByteArray) (hs : s.size ≤ 140737488351232)
include hs
theorem uAll_go : ∀ (f a : Nat), s.size < f + a → Ev (fun k => utf_All.l0 k s (a : Int)) ((decs s f a).1.map (fun x => ((x.1 : Int), x.2)), ((decs s f a).2 : Int)) := by
  intro f
  induction f with
  | zero =>
    intro a ha
    refine Ev.step (f := fun _ => some ([], (a : Int))) (fun k => ?_) (Ev.now _)
    rw [utf_All.l0, if_neg (by omega)]
  | succ f ih =>
    intro a ha
    by_cases c : a < s.size
    · refine Ev.step (f := fun k => (utf_Next.f k s (a : Int)).bind fun x => if x.2.2 = true then (utf_All.l0 k s (wrap64 ((a : Int) + x.2.1))).map fun y => (((a : Int), x.1) :: y.1, y.2) else some ([], (a : Int))) (fun k => ?_) ?_
      · rw [utf_All.l0, if_pos (by omega)]
      · refine Ev.bind (f := fun k x => if x.2.2 = true then (utf_All.l0 k s (wrap64 ((a : Int) + x.2.1))).map fun y => (((a : Int), x.1) :: y.1, y.2) else some ([], (a : Int))) (Next_ev s hs a) ?_
        cases hd : dec s a with
        | none =>
          simp only [decs, hd, decT]
          exact evNeg (by simp) (Ev.now _)
        | some vn =>
          obtain ⟨v, n⟩ := vn
          have hr := dec_range hd
          have hf := dec_form hd
          simp only [decs, hd, decT]
          refine evPos (by trivial) ?_
          have h2 := ih (a + n) (by omega)
          rw [w64 (by omega) (by omega), show (a : Int) + (n : Int) = ((a + n : Nat) : Int) by omega]
          obtain ⟨K, hK⟩ := h2
          refine ⟨K, fun k hk => ?_⟩
          have h3 : utf_All.l0 k s ((a + n : Nat) : Int) = some ((decs s f (a + n)).1.map (fun x => ((x.1 : Int), x.2)), ((decs s f (a + n)).2 : Int)) := hK k hk
          show Option.map _ (utf_All.l0 k s ((a + n : Nat) : Int)) = _
          rw [h3]
          rfl
    · have hd : dec s a = none := by unfold dec; rw [if_pos c]
      simp only [decs, hd]
      refine Ev.step (f := fun _ => some ([], (a : Int))) (fun k => ?_) (Ev.now _)
      rw [utf_All.l0, if_neg (by omega)]
theorem rAll_go : ∀ (f a : Nat) (l p : List Int), s.size < f + a → l.length + s.size ≤ a + 140737488351232 → p.length + s.size ≤ a + 140737488351232 → a ≤ s.size → s.size ≤ 17592186000000 → l.length ≤ a → p.length ≤ a →
    Ev (fun k => sealringref03_All.l0 k s l p (a : Int)) (l ++ (decs s f a).1.map (·.2), p ++ (decs s f a).1.map (fun x => (x.1 : Int)), ((decs s f a).2 : Int)) := by
  intro f
  induction f with
  | zero => intro a l p ha; omega
  | succ f ih =>
    intro a l p ha hl hp hal hsm hl2 hp2
    by_cases c : a < s.size
    · refine Ev.step (f := fun k => (sealringref03_Next.f k s (a : Int)).bind fun bt121 => (if bt121.2 = 0 then (some (l, p, (a : Int))) else (if l.length < 17592186044416 then (if p.length < 17592186044416 then (sealringref03_All.l0 k s (l ++ [bt121.1]) (p ++ [(a : Int)]) (wrap64 ((a : Int) + bt121.2))) else (none)) else (none)))) (fun k => ?_) ?_
      · rw [sealringref03_All.l0, if_pos (by omega)]
      · refine Ev.bind (f := fun k (bt121 : Int × Int) => (if bt121.2 = 0 then (some (l, p, (a : Int))) else (if l.length < 17592186044416 then (if p.length < 17592186044416 then (sealringref03_All.l0 k s (l ++ [bt121.1]) (p ++ [(a : Int)]) (wrap64 ((a : Int) + bt121.2))) else (none)) else (none)))) (rNext_ev s hs a) ?_
        cases hd : dec s a with
        | none =>
          simp only [decs, hd, decR, List.map_nil, List.append_nil]
          exact evPos (by trivial) (Ev.now _)
        | some vn =>
          obtain ⟨v, n⟩ := vn
          have hr := dec_range hd
          have hf := dec_form hd
          simp only [decs, hd, decR]
          refine evNeg (by omega) (evPos (by omega) (evPos (by omega) ?_))
          have h2 := ih (a + n) (l ++ [v]) (p ++ [(a : Int)]) (by omega) (by simp; omega) (by simp; omega) (by omega) hsm (by simp; omega) (by simp; omega)
          rw [w64 (by omega) (by omega), show (a : Int) + (n : Int) = ((a + n : Nat) : Int) by omega]
          simpa [List.append_assoc] using h2
    · have hd : dec s a = none := by unfold dec; rw [if_pos c]
      simp only [decs, hd, List.map_nil, List.append_nil]
      refine Ev.step (f := fun _ => some (l, p, (a : Int))) (fun k => ?_) (Ev.now _)
      rw [sealringref03_All.l0, if_neg (by omega)]
end
def allOf (s : ByteArray) : List (Nat × Int) := (decs s (s.size + 1) 0).1
def endOf (s : ByteArray) : Nat := (decs s (s.size + 1) 0).2
theorem decs_end (s : ByteArray) : ∀ (f a : Nat), ((decs s f a).1 = [] ∧ (decs s f a).2 = a) ∨ ∃ p v n, (decs s f a).1.getLast? = some (p, v) ∧ utf_sz v = ((n : Nat) : Int) ∧ (decs s f a).2 = p + n ∧ p + n ≤ s.size
  | 0, a => .inl ⟨rfl, rfl⟩
  | f + 1, a => by
    cases hd : dec s a with
    | none => exact .inl ⟨by simp only [decs, hd], by simp only [decs, hd]⟩
    | some vn =>
      obtain ⟨v, n⟩ := vn
      have hf := dec_form hd
      right
      simp only [decs, hd]
      rcases decs_end s f (a + n) with ⟨h1, h2⟩ | ⟨p, v', n', h1, h2, h3, h4⟩
      · exact ⟨a, v, n, by rw [h1]; rfl, hf.2.2.1, h2, hf.2.1⟩
      · refine ⟨p, v', n', ?_, h2, h3, h4⟩
        rw [List.getLast?_cons, h1]
        rfl
theorem beq_dec (x y : Nat) : (((x : Int)) == ((y : Int))) = decide (x = y) := by
  by_cases h : x = y
  · subst h; simp
  · rw [decide_eq_false h]
    exact beq_eq_false_iff_ne.2 (fun e => h (by omega))
theorem Valid_ev (s : ByteArray) (hs : s.size ≤ 140737488351232) : Ev (fun k => utf_Valid.f k s) (decide (endOf s = s.size)) := by
  unfold utf_Valid.f
  refine Ev.bind (f := fun k y => some (utf_end y.1 == (s.size : Int))) (uAll_go s hs (s.size + 1) 0 (by omega)) ?_
  have : (utf_end ((decs s (s.size + 1) 0).1.map (fun x => ((x.1 : Int), x.2))) == (s.size : Int)) = decide (endOf s = s.size) := by
    unfold endOf
    rcases decs_end s (s.size + 1) 0 with ⟨h1, h2⟩ | ⟨p, v, n, h1, h2, h3, h4⟩
    · rw [h1, h2]
      exact beq_dec 0 s.size
    · unfold utf_end
      rw [List.getLast?_map, h1]
      simp only [Option.map_some]
      rw [h2, w64 (by omega) (by omega), h3, show (p : Int) + (n : Int) = ((p + n : Nat) : Int) by omega]
      exact beq_dec _ _
  rw [this]
  exact Ev.now _
theorem rValid_ev (s : ByteArray) (hs : s.size ≤ 17592186000000) : Ev (fun k => sealringref03_Valid.f k s) (decide (endOf s = s.size)) := by
  unfold sealringref03_Valid.f sealringref03_All.f
  have h := rAll_go s (by omega) (s.size + 1) 0 [] [] (by omega) (by simp; omega) (by simp; omega) (by omega) hs (by simp) (by simp)
  refine Ev.bind (f := fun k (y : List Int × List Int × Int) => some (y.2.2 == (s.size : Int))) h ?_
  have : (((decs s (s.size + 1) 0).2 : Int) == (s.size : Int)) = decide (endOf s = s.size) := by
    unfold endOf
    exact beq_dec _ _
  simp only [this]
  exact Ev.now _
theorem lives03 : Ev (fun k => sealringlaw03_lives.f k) true := Ev.of sealringlaw03_lives.mono (k := 40) (by kernel_rfl)
end Go.Proofs.Ytijfbnkohnlmaaa.X

import Derived.Test.YtijfbnkohnlmaaaSUtfAll
namespace Go.Proofs.Ytijfbnkohnlmaaa.X
open Go.RowKit Go.Proofs.YtijfbnkohnlmaaaW.PrintWords Go.Proofs.YtijfbnkohnlmaaaW.PrintLast
set_option linter.unusedVariables false
set_option linter.unusedSimpArgs false
/-- How two texts stand to each other from place p on. -/
def cmpF (a b : ByteArray) (p : Nat) : Int := Lib.compareBytes (a.data.toList.drop p) (b.data.toList.drop p)
theorem len_data (a : ByteArray) : a.data.toList.length = a.size := by rw [Array.length_toList]; rfl
theorem byte_bt (a : ByteArray) (p : Nat) (h : p < a.size) : ((a.data.toList[p]'(by rw [len_data]; exact h)).toNat : Int) = bt a (p : Int) := by
  rw [bt_nat a p h, Array.getElem_toList]
  rfl
theorem cmp_step (a b : ByteArray) (p : Nat) (ha : p < a.size) (hb : p < b.size) : cmpF a b p = if bt a p < bt b p then -1 else if bt b p < bt a p then 1 else cmpF a b (p + 1) := by
  unfold cmpF
  have d1 : a.data.toList.drop p = (a.data.toList[p]'(by rw [len_data]; exact ha)) :: a.data.toList.drop (p + 1) := List.drop_eq_getElem_cons _
  have d2 : b.data.toList.drop p = (b.data.toList[p]'(by rw [len_data]; exact hb)) :: b.data.toList.drop (p + 1) := List.drop_eq_getElem_cons _
  rw [d1, d2, Lib.compareBytes]
  have e1 := byte_bt a p ha
  have e2 := byte_bt b p hb
  by_cases c1 : bt a p < bt b p
  · rw [if_pos c1, if_pos (UInt8.lt_iff_toNat_lt.2 (by omega))]
  · rw [if_neg c1, if_neg (fun h => c1 (by have := UInt8.lt_iff_toNat_lt.1 h; omega))]
    by_cases c2 : bt b p < bt a p
    · rw [if_pos c2, if_pos (UInt8.lt_iff_toNat_lt.2 (by omega))]
    · rw [if_neg c2, if_neg (fun h => c2 (by have := UInt8.lt_iff_toNat_lt.1 h; omega))]
theorem cmp_end (a b : ByteArray) (p : Nat) (h : a.size ≤ p ∨ b.size ≤ p) (hp : p ≤ a.size ∧ p ≤ b.size) : cmpF a b p = if a.size < b.size then -1 else if b.size < a.size then 1 else 0 := by
  unfold cmpF
  rcases Nat.lt_trichotomy a.size b.size with c | c | c
  · have hpa : p = a.size := by omega
    subst hpa
    have d1 : a.data.toList.drop a.size = [] := List.drop_eq_nil_of_le (Nat.le_of_eq (len_data a))
    have d2 : b.data.toList.drop a.size = (b.data.toList[a.size]'(by rw [len_data]; exact c)) :: b.data.toList.drop (a.size + 1) := List.drop_eq_getElem_cons _
    rw [if_pos c, d1, d2, Lib.compareBytes]
  · have hpa : p = a.size := by omega
    rw [if_neg (by omega), if_neg (by omega), List.drop_eq_nil_of_le (by rw [len_data]; omega), List.drop_eq_nil_of_le (by rw [len_data]; omega), Lib.compareBytes]
  · have hpa : p = b.size := by omega
    subst hpa
    have d1 : b.data.toList.drop b.size = [] := List.drop_eq_nil_of_le (Nat.le_of_eq (len_data b))
    have d2 : a.data.toList.drop b.size = (a.data.toList[b.size]'(by rw [len_data]; exact c)) :: a.data.toList.drop (b.size + 1) := List.drop_eq_getElem_cons _
    rw [if_neg (by omega), if_pos c, d1, d2, Lib.compareBytes]
theorem cmp_neg (x y : List UInt8) : Lib.compareBytes y x = - Lib.compareBytes x y := by
  induction x generalizing y with
  | nil => cases y <;> simp [Lib.compareBytes]
  | cons a x ih =>
    cases y with
    | nil => simp [Lib.compareBytes]
    | cons b y =>
      simp only [Lib.compareBytes]
      by_cases c1 : a < b
      · have : ¬ b < a := fun h => by have := UInt8.lt_iff_toNat_lt.1 h; have := UInt8.lt_iff_toNat_lt.1 c1; omega
        rw [if_pos c1, if_neg this, if_pos c1]
        rfl
      · by_cases c2 : b < a
        · rw [if_pos c2, if_neg c1, if_pos c2]
        · rw [if_neg c1, if_neg c1, if_neg c2, if_neg c2]
          exact ih y
theorem cmp_val (x y : List UInt8) : Lib.compareBytes x y = -1 ∨ Lib.compareBytes x y = 0 ∨ Lib.compareBytes x y = 1 := by
  induction x generalizing y with
  | nil => cases y <;> simp [Lib.compareBytes]
  | cons a x ih =>
    cases y with
    | nil => simp [Lib.compareBytes]
    | cons b y =>
      simp only [Lib.compareBytes]
      by_cases c1 : a < b
      · rw [if_pos c1]; exact .inl rfl
      · rw [if_neg c1]
        by_cases c2 : b < a
        · rw [if_pos c2]; exact .inr (.inr rfl)
        · rw [if_neg c2]; exact ih y
def cmpW (a b : ByteArray) : Int := Lib.compareBytes a.data.toList b.data.toList
theorem cmpW_F (a b : ByteArray) : cmpW a b = cmpF a b 0 := by unfold cmpW cmpF; rw [List.drop_zero, List.drop_zero]
theorem Less_go (a b : ByteArray) (ha : a.size ≤ 140737488351232) : ∀ (n p : Nat), p + n = min a.size b.size → Ev (fun k => sealringref03_Less.l0 k a b (p : Int)) (decide (cmpF a b p = -1)) := by
  intro n
  induction n with
  | zero =>
    intro p hp
    have h1 := cmp_end a b p (by omega) (by omega)
    have : decide (cmpF a b p = -1) = decide ((a.size : Int) < (b.size : Int)) := by
      rw [h1]
      apply decide_eq_decide.2
      by_cases c : a.size < b.size
      · rw [if_pos c]
        exact ⟨fun _ => by omega, fun _ => rfl⟩
      · rw [if_neg c]
        constructor
        · intro h
          split at h <;> omega
        · intro h; omega
    rw [this]
    refine Ev.step (f := fun k => sealringref03_Less.j1 k a b (p : Int) false) (fun k => ?_) (Ev.step (f := fun _ => some _) (fun k => ?_) (Ev.now _))
    · rw [sealringref03_Less.l0]
      by_cases c : (p : Int) < (a.size : Int)
      · rw [if_pos c, decide_eq_false (by omega)]
      · rw [if_neg c]
    · rw [sealringref03_Less.j1, if_neg (by simp)]
  | succ n ih =>
    intro p hp
    have h1 := cmp_step a b p (by omega) (by omega)
    refine Ev.step (f := fun k => sealringref03_Less.j1 k a b (p : Int) true) (fun k => ?_) ?_
    · rw [sealringref03_Less.l0, if_pos (by omega), decide_eq_true (by omega)]
    · by_cases c : bt a p = bt b p
      · rw [h1, if_neg (by omega), if_neg (by omega)]
        refine Ev.step (fun k => ?_) (ih (p + 1) (by omega))
        rw [sealringref03_Less.j1, if_pos rfl, if_pos (by omega), if_pos (by omega), if_pos (by omega), if_pos c, w64s p (by omega)]
      · have : decide (cmpF a b p = -1) = decide (bt a p < bt b p) := by
          rw [h1]
          apply decide_eq_decide.2
          by_cases c2 : bt a p < bt b p
          · rw [if_pos c2]; exact ⟨fun _ => c2, fun _ => rfl⟩
          · rw [if_neg c2, if_pos (by omega)]
            exact ⟨fun h => by omega, fun h => absurd h c2⟩
        rw [this]
        refine Ev.step (f := fun _ => some _) (fun k => ?_) (Ev.now _)
        rw [sealringref03_Less.j1, if_pos rfl, if_pos (by omega), if_pos (by omega), if_pos (by omega), if_neg c]
theorem Less_ev (a b : ByteArray) (ha : a.size ≤ 140737488351232) : Ev (fun k => sealringref03_Less.f k a b) (decide (cmpW a b = -1)) := by
  rw [cmpW_F]
  exact Less_go a b ha _ 0 (Nat.zero_add _)
theorem rCompare_ev (a b : ByteArray) (ha : a.size ≤ 140737488351232) (hb : b.size ≤ 140737488351232) : Ev (fun k => sealringref03_Compare.f k a b) (cmpW a b) := by
  unfold sealringref03_Compare.f
  refine Ev.bind (f := fun k t136 => if t136 = true then (some (-1)) else ((sealringref03_Less.f k b a).bind fun t137 => (if t137 = true then (some 1) else (some 0)))) (Less_ev a b ha) ?_
  have hv := cmp_val a.data.toList b.data.toList
  have hn : cmpW b a = - cmpW a b := cmp_neg _ _
  have hv' : cmpW a b = -1 ∨ cmpW a b = 0 ∨ cmpW a b = 1 := hv
  by_cases c : cmpW a b = -1
  · rw [decide_eq_true c, c]
    exact evPos rfl (Ev.now _)
  · rw [decide_eq_false c]
    refine evNeg (by simp) (Ev.bind (f := fun k t137 => if t137 = true then (some 1) else (some 0)) (Less_ev b a hb) ?_)
    by_cases c2 : cmpW b a = -1
    · rw [decide_eq_true c2, show cmpW a b = 1 by omega]
      exact evPos rfl (Ev.now _)
    · rw [decide_eq_false c2, show cmpW a b = 0 by omega]
      exact evNeg (by simp) (Ev.now _)
/-! ### Code points stand as their bytes do -/
theorem cmp_same (a b : ByteArray) (p : Nat) (ha : p < a.size) (hb : p < b.size) (h : bt a p = bt b p) : cmpF a b p = cmpF a b (p + 1) := by
  rw [cmp_step a b p ha hb, if_neg (by omega), if_neg (by omega)]
theorem cmp_lt (a b : ByteArray) (p : Nat) (ha : p < a.size) (hb : p < b.size) (h : bt a p < bt b p) : cmpF a b p = -1 := by
  rw [cmp_step a b p ha hb, if_pos h]
theorem dec_lt {a b : ByteArray} {p : Nat} {v u : Int} {n m : Nat} (ha : dec a p = some (v, n)) (hb : dec b p = some (u, m)) (h : v < u) : cmpF a b p = -1 := by
  obtain ⟨a1, a2, _, ha3⟩ := dec_form ha
  obtain ⟨b1, b2, _, hb3⟩ := dec_form hb
  by_cases e0 : bt a p < bt b p
  · exact cmp_lt a b p a1 b1 e0
  · have e0' : bt a p = bt b p := by omega
    rw [cmp_same a b p a1 b1 e0']
    have hn : n = m := by omega
    have hn2 : 2 ≤ n := by omega
    by_cases e1 : bt a (p + 1 : Nat) < bt b (p + 1 : Nat)
    · exact cmp_lt a b (p + 1) (by omega) (by omega) e1
    · have e1' : bt a (p + 1 : Nat) = bt b (p + 1 : Nat) := by omega
      rw [cmp_same a b (p + 1) (by omega) (by omega) e1']
      have hn3 : 3 ≤ n := by omega
      by_cases e2 : bt a (p + 2 : Nat) < bt b (p + 2 : Nat)
      · exact cmp_lt a b (p + 2) (by omega) (by omega) e2
      · have e2' : bt a (p + 2 : Nat) = bt b (p + 2 : Nat) := by omega
        rw [show p + 1 + 1 = p + 2 from rfl, cmp_same a b (p + 2) (by omega) (by omega) e2']
        exact cmp_lt a b (p + 3) (by omega) (by omega) (by omega)
theorem dec_eq {a b : ByteArray} {p : Nat} {v : Int} {n m : Nat} (ha : dec a p = some (v, n)) (hb : dec b p = some (v, m)) : n = m ∧ cmpF a b p = cmpF a b (p + n) := by
  obtain ⟨a1, a2, _, ha3⟩ := dec_form ha
  obtain ⟨b1, b2, _, hb3⟩ := dec_form hb
  have hn : n = m := by omega
  refine ⟨hn, ?_⟩
  rw [cmp_same a b p a1 b1 (by omega)]
  by_cases h1 : n = 1
  · rw [h1]
  · rw [cmp_same a b (p + 1) (by omega) (by omega) (by omega)]
    by_cases h2 : n = 2
    · rw [h2]
    · rw [show p + 1 + 1 = p + 2 from rfl, cmp_same a b (p + 2) (by omega) (by omega) (by omega)]
      by_cases h3 : n = 3
      · rw [h3]
      · rw [show p + 2 + 1 = p + 3 from rfl, cmp_same a b (p + 3) (by omega) (by omega) (by omega)]
        rw [show n = 4 by omega]
end Go.Proofs.Ytijfbnkohnlmaaa.X

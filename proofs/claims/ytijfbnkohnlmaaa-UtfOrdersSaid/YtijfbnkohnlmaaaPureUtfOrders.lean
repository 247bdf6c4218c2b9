import Derived.Test.YtijfbnkohnlmaaaX16
import Derived.Test.YtijfbnkohnlmaaaSUtfCmp
namespace Go.Proofs.Ytijfbnkohnlmaaa.Pure
open Go.RowKit Go.Proofs.Ytijfbnkohnlmaaa.X Go.Proofs.YtijfbnkohnlmaaaW.PrintWords Go.Proofs.YtijfbnkohnlmaaaW.PrintLast
set_option linter.unusedVariables false
set_option linter.unusedSimpArgs false

theorem drop_cons {X : List Int} {i : Nat} {v : Int} {r : List Int} (h : X.drop i = v :: r) : i < X.length ∧ rd X (i : Int) = v ∧ X.drop (i + 1) = r := by
  have hi : i < X.length := by
    by_cases c : i < X.length
    · exact c
    · rw [List.drop_eq_nil_of_le (by omega)] at h; cases h
  have h2 := List.drop_eq_getElem_cons hi
  rw [h] at h2
  obtain ⟨e1, e2⟩ := List.cons.inj h2
  refine ⟨hi, ?_, e2.symm⟩
  unfold rd
  rw [show ((i : Int)).toNat = i from rfl, List.getD_eq_getElem?_getD, List.getElem?_eq_getElem hi]
  exact e1.symm
theorem drop_nil {X : List Int} {i : Nat} (h : X.drop i = []) (hi : i ≤ X.length) : X.length = i := by
  have := congrArg List.length h
  rw [List.length_drop] at this
  simp at this
  omega
theorem order_go (a b : ByteArray) (X Y : List Int) (hX : X.length ≤ 140737488351232) : ∀ (f g p i : Nat), a.size < f + p → b.size < g + p → p ≤ a.size → p ≤ b.size → i ≤ X.length → i ≤ Y.length →
    (decs a f p).1.map (·.2) = X.drop i → (decs b g p).1.map (·.2) = Y.drop i → (decs a f p).2 = a.size → (decs b g p).2 = b.size → cmpW a b = cmpF a b p → Ev (fun k => sealringlaw03_UtfOrders.l0 k (cmpW a b) X Y (i : Int)) true := by
  intro f
  induction f with
  | zero => intro g p i h1 _ h3; omega
  | succ f ih =>
    intro g p i hf hg hpa hpb hiX hiY hxa hyb hea heb hc
    cases g with
    | zero => omega
    | succ g =>
      have jf : ∀ (hno : ¬ ((i : Int) < (X.length : Int) ∧ (i : Int) < (Y.length : Int))), ((decide ((X.length : Int) < (Y.length : Int))) == (decide (cmpW a b < 0))) = true → (((X.length : Int) == (Y.length : Int)) == (cmpW a b == 0)) = true → Ev (fun k => sealringlaw03_UtfOrders.l0 k (cmpW a b) X Y (i : Int)) true := fun hno g1 g2 => by
        refine Ev.step (f := fun k => sealringlaw03_UtfOrders.j4 k (cmpW a b) X Y (i : Int) false) (fun k => ?_) (Ev.step (f := fun k => (sealringlaw03_lives.f k).bind fun t189 => (some t189)) (fun k => ?_) (Ev.bind (f := fun _ t => some t) lives03 (Ev.now _)))
        · rw [sealringlaw03_UtfOrders.l0]
          by_cases c1 : (i : Int) < (X.length : Int)
          · rw [if_pos c1, decide_eq_false (by omega)]
          · rw [if_neg c1]
        · rw [sealringlaw03_UtfOrders.j4, if_neg (by simp), if_pos g1, if_pos g2]
      cases hda : dec a p with
      | none =>
        simp only [decs, hda] at hxa hea
        have hlX := drop_nil hxa.symm hiX
        cases hdb : dec b p with
        | none =>
          simp only [decs, hdb] at hyb heb
          have hlY := drop_nil hyb.symm hiY
          have hc0 : cmpW a b = 0 := by rw [hc, cmp_end a b p (by omega) ⟨hpa, hpb⟩, if_neg (by omega), if_neg (by omega)]
          exact jf (by omega) (by rw [hc0, decide_eq_false (by omega)]; rfl) (by rw [hc0, hlX, hlY]; simp)
        | some um =>
          obtain ⟨u, m⟩ := um
          have hfb := dec_form hdb
          simp only [decs, hdb, List.map_cons] at hyb heb
          obtain ⟨l1, _, _⟩ := drop_cons hyb.symm
          have hc0 : cmpW a b = -1 := by rw [hc, cmp_end a b p (by omega) ⟨hpa, hpb⟩, if_pos (by omega)]
          exact jf (by omega) (by rw [hc0, decide_eq_true (by omega)]; rfl) (by rw [hc0, show ((X.length : Int) == (Y.length : Int)) = false from beq_eq_false_iff_ne.2 (by omega)]; rfl)
      | some vn =>
        obtain ⟨v, n⟩ := vn
        have hfa := dec_form hda
        have hra := dec_range hda
        simp only [decs, hda, List.map_cons] at hxa hea
        obtain ⟨l1, x1, x2⟩ := drop_cons hxa.symm
        cases hdb : dec b p with
        | none =>
          simp only [decs, hdb] at hyb heb
          have hlY := drop_nil hyb.symm hiY
          have hc0 : cmpW a b = 1 := by rw [hc, cmp_end a b p (by omega) ⟨hpa, hpb⟩, if_neg (by omega), if_pos (by omega)]
          exact jf (by omega) (by rw [hc0, decide_eq_false (by omega)]; rfl) (by rw [hc0, show ((X.length : Int) == (Y.length : Int)) = false from beq_eq_false_iff_ne.2 (by omega)]; rfl)
        | some um =>
          obtain ⟨u, m⟩ := um
          have hfb := dec_form hdb
          simp only [decs, hdb, List.map_cons] at hyb heb
          obtain ⟨l2, y1, y2⟩ := drop_cons hyb.symm
          by_cases e : v = u
          · subst e
            obtain ⟨e1, e2⟩ := dec_eq hda hdb
            subst e1
            have h2 := ih g (p + n) (i + 1) (by omega) (by omega) (by omega) (by omega) (by omega) (by omega) x2.symm y2.symm hea heb (by rw [hc, e2])
            refine Ev.step (f := fun k => sealringlaw03_UtfOrders.j4 k (cmpW a b) X Y (i : Int) true) (fun k => ?_) (Ev.step (fun k => ?_) h2)
            · rw [sealringlaw03_UtfOrders.l0, if_pos (by omega), decide_eq_true (by omega)]
            · rw [sealringlaw03_UtfOrders.j4, if_pos rfl, if_pos (by omega), if_pos (by omega), if_pos (by omega), if_pos (by rw [x1, y1]), w64s i (by omega)]
          · have hd : (decide (v < u) == decide (cmpW a b < 0)) = true := by
              by_cases c : v < u
              · rw [decide_eq_true c, hc, dec_lt hda hdb c]
                rfl
              · have h3 := dec_lt hdb hda (by omega)
                have h4 : cmpF b a p = - cmpF a b p := cmp_neg _ _
                rw [decide_eq_false c, hc, show cmpF a b p = 1 by omega]
                rfl
            refine Ev.step (f := fun k => sealringlaw03_UtfOrders.j4 k (cmpW a b) X Y (i : Int) true) (fun k => ?_) (Ev.step (f := fun k => (sealringlaw03_lives.f k).bind fun t188 => (some t188)) (fun k => ?_) (Ev.bind (f := fun _ t => some t) lives03 (Ev.now _)))
            · rw [sealringlaw03_UtfOrders.l0, if_pos (by omega), decide_eq_true (by omega)]
            · rw [sealringlaw03_UtfOrders.j4, if_pos rfl, if_pos (by omega), if_pos (by omega), if_pos (by omega), x1, y1, if_neg e, if_pos hd]
theorem decs_len (s : ByteArray) : ∀ (f p : Nat), (decs s f p).1.length ≤ f
  | 0, p => Nat.le_refl _
  | f + 1, p => by
    cases hd : dec s p with
    | none => simp [decs, hd]
    | some vn =>
      obtain ⟨v, n⟩ := vn
      simp only [decs, hd, List.length_cons]
      have := decs_len s f (p + n)
      omega
theorem UtfOrders : sealringlaw03_UtfOrders.Pure := by
  intro a b ha hb
  refine Ev.rounds (?_ : Ev (fun k => sealringlaw03_UtfOrders.f k a b) true)
  have lv : ∀ (g : Nat → Option Bool), (∀ k, g (k + 1) = (sealringlaw03_lives.f k).bind fun t => some t) → Ev g true := fun g hg => Ev.step hg (Ev.bind (f := fun _ t => some t) lives03 (Ev.now _))
  unfold sealringlaw03_UtfOrders.f
  by_cases c1 : (a.size : Int) > 200
  · refine evPos c1 (lv _ (fun k => ?_))
    rw [sealringlaw03_UtfOrders.j0, if_pos rfl]
  · refine evNeg c1 ?_
    by_cases c2 : (b.size : Int) > 200
    · refine lv _ (fun k => ?_)
      rw [decide_eq_true c2, sealringlaw03_UtfOrders.j0, if_pos rfl]
    · rw [decide_eq_false c2]
      refine Ev.step (f := fun k => (utf_Compare.f a b).bind fun t164 => ((sealringref03_Compare.f k a b).bind fun t165 => (if t164 = t165 then ((utf_Compare.f b a).bind fun t166 => (sealringlaw03_UtfOrders.j1 k a b t164 (t166 != (wrap64 (-t164))))) else (sealringlaw03_UtfOrders.j1 k a b t164 true)))) (fun k => ?_) ?_
      · rw [sealringlaw03_UtfOrders.j0, if_neg (by simp)]
      · have hn : cmpW b a = - cmpW a b := cmp_neg _ _
        have hv : cmpW a b = -1 ∨ cmpW a b = 0 ∨ cmpW a b = 1 := cmp_val _ _
        refine Ev.bind (g := fun _ => utf_Compare.f a b) (f := fun k t164 => _) (a := cmpW a b) (Ev.now _) ?_
        refine Ev.bind (f := fun k t165 => _) (rCompare_ev a b ha hb) (evPos rfl ?_)
        refine Ev.bind (g := fun _ => utf_Compare.f b a) (f := fun k t166 => _) (a := cmpW b a) (Ev.now _) ?_
        rw [hn, w64 (by omega) (by omega), bne_self_eq_false]
        have j2t : Ev (fun k => sealringlaw03_UtfOrders.j2 k a b (cmpW a b) true) true := lv _ (fun k => by rw [sealringlaw03_UtfOrders.j2, if_pos rfl])
        refine Ev.step (f := fun k => (utf_Valid.f k a).bind fun t167 => (if t167 = true then ((utf_Valid.f k b).bind fun t168 => (sealringlaw03_UtfOrders.j2 k a b (cmpW a b) (!t168))) else (sealringlaw03_UtfOrders.j2 k a b (cmpW a b) true))) (fun k => ?_) ?_
        · rw [sealringlaw03_UtfOrders.j1, if_neg (by simp)]
        · refine Ev.bind (f := fun k t167 => _) (Valid_ev a ha) ?_
          by_cases v1 : endOf a = a.size
          · rw [decide_eq_true v1]
            refine evPos rfl (Ev.bind (f := fun k t168 => _) (Valid_ev b hb) ?_)
            by_cases v2 : endOf b = b.size
            · rw [decide_eq_true v2]
              refine Ev.step (f := fun k => (sealringref03_All.f k a).bind fun bt170 => ((sealringref03_All.f k b).bind fun bt177 => (sealringlaw03_UtfOrders.l0 k (cmpW a b) bt170.1 bt177.1 0))) (fun k => ?_) ?_
              · rw [show (!true) = false from rfl, sealringlaw03_UtfOrders.j2, if_neg (by simp)]
              · have hA := rAll_go a ha (a.size + 1) 0 [] [] (by omega) (by simp; omega) (by simp; omega) (by omega) (by omega) (by simp) (by simp)
                have hB := rAll_go b hb (b.size + 1) 0 [] [] (by omega) (by simp; omega) (by simp; omega) (by omega) (by omega) (by simp) (by simp)
                refine Ev.bind (g := fun k => sealringref03_All.f k a) (f := fun k bt170 => _) hA (Ev.bind (g := fun k => sealringref03_All.f k b) (f := fun k bt177 => _) hB ?_)
                have hl := decs_len a (a.size + 1) 0
                exact order_go a b _ _ (by rw [List.nil_append, List.length_map]; omega) (a.size + 1) (b.size + 1) 0 0 (by omega) (by omega) (by omega) (by omega) (Nat.zero_le _) (Nat.zero_le _) (by rw [List.nil_append, List.drop_zero]) (by rw [List.nil_append, List.drop_zero]) v1 v2 (cmpW_F a b)
            · rw [decide_eq_false v2]
              exact j2t
          · rw [decide_eq_false v1]
            exact evNeg (by simp) j2t

end Go.Proofs.Ytijfbnkohnlmaaa.Pure

import Derived.Test.YthaipgbjnigkhaaRw
namespace Go.Proofs.Ythaipgbjnigkhaa
open Go.RowKit
set_option linter.unusedVariables false
/-! ### The state: things in memory, each in blocks of its own -/
structure Th where
  foot : Nat → Prop
  fact : World → Prop
  keep : ∀ {X : Nat → Prop} {w w' : World}, fact w → Kept X w w' → (∀ k, foot k → ¬ X k) → fact w'
  lt : ∀ {w : World}, fact w → ∀ k, foot k → k < w.heap.size
structure St (w cur : World) (l : List Th) : Prop where
  below : Below w.heap.size w cur
  fact : ∀ (i : Nat) (t : Th), l[i]? = some t → t.fact cur
  ge : ∀ (i : Nat) (t : Th), l[i]? = some t → ∀ k, t.foot k → w.heap.size ≤ k
  apart : ∀ (i j : Nat) (a b : Th), i ≠ j → l[i]? = some a → l[j]? = some b → ∀ k, a.foot k → ¬ b.foot k
section
variable {w cur w' : World} {l : List Th}
theorem St.start (hB : Below w.heap.size w cur) : St w cur [] := ⟨hB, by rintro i t ⟨⟩, by rintro i t ⟨⟩, by rintro i j a b _ ⟨⟩⟩
theorem St.get (S : St w cur l) (i : Nat) {t : Th} (h : l[i]? = some t) : t.fact cur := S.fact i t h
theorem St.read (S : St w cur l) (hb : Below cur.heap.size cur w') : St w w' l :=
  ⟨bl_next S.below hb, fun i t h => t.keep (S.fact i t h) (kept_of_below (X := fun _ => False) hb) (fun _ _ q => q), S.ge, S.apart⟩
theorem St.write (S : St w cur l) (i : Nat) {t : Th} (h : l[i]? = some t) (t' : Th) {X : Nat → Prop} (hk : Kept X cur w') (hX : ∀ k, X k → t.foot k ∨ cur.heap.size ≤ k) (ht : t'.fact w') (hf : ∀ k, t'.foot k → t.foot k ∨ cur.heap.size ≤ k) : St w w' (l.set i t') := by
  have hge : ∀ k, X k → w.heap.size ≤ k := fun k q => (hX k q).elim (S.ge i t h k) (fun q => Nat.le_trans S.below.size q)
  have hi : i < l.length := (List.getElem?_eq_some_iff.1 h).1
  have hcase : ∀ j a, (l.set i t')[j]? = some a → (j = i ∧ a = t') ∨ (j ≠ i ∧ l[j]? = some a) := fun j a ha => by
    by_cases e : i = j
    · subst e; rw [List.getElem?_set_self hi] at ha; exact .inl ⟨rfl, (Option.some.inj ha).symm⟩
    · rw [List.getElem?_set_ne e] at ha; exact .inr ⟨fun q => e q.symm, ha⟩
  refine ⟨S.below.trans (hk.below S.below.size hge), fun j a ha => ?_, fun j a ha k hka => ?_, fun j m a b hjm ha hb k hka hkb => ?_⟩
  · rcases hcase j a ha with ⟨rfl, rfl⟩ | ⟨hj, ha2⟩
    · exact ht
    · refine a.keep (S.fact j a ha2) hk (fun k hka hx => ?_)
      rcases hX k hx with q | q
      · exact S.apart j i a t hj ha2 h k hka q
      · have := a.lt (S.fact j a ha2) k hka; omega
  · rcases hcase j a ha with ⟨rfl, rfl⟩ | ⟨hj, ha2⟩
    · exact (hf k hka).elim (S.ge _ t h k) (fun q => Nat.le_trans S.below.size q)
    · exact S.ge j a ha2 k hka
  · rcases hcase j a ha with ⟨rfl, rfl⟩ | ⟨hj, ha2⟩
    · rcases hcase m b hb with ⟨rfl, rfl⟩ | ⟨hm, hb2⟩
      · exact hjm rfl
      · rcases hf k hka with q | q
        · exact S.apart j m t b hjm h hb2 k q hkb
        · have := b.lt (S.fact m b hb2) k hkb; omega
    · rcases hcase m b hb with ⟨rfl, rfl⟩ | ⟨hm, hb2⟩
      · rcases hf k hkb with q | q
        · exact S.apart j m a t hjm ha2 h k hka q
        · have := a.lt (S.fact j a ha2) k hka; omega
      · exact S.apart j m a b hjm ha2 hb2 k hka hkb
theorem St.add (S : St w cur l) (t : Th) (hb : Below cur.heap.size cur w') (ht : t.fact w') (hn : ∀ k, t.foot k → cur.heap.size ≤ k) : St w w' (l ++ [t]) := by
  have R := S.read hb
  have hcase : ∀ j a, (l ++ [t])[j]? = some a → (j = l.length ∧ a = t) ∨ (j < l.length ∧ l[j]? = some a) := fun j a ha => by
    rcases Nat.lt_or_ge j l.length with q | q
    · rw [List.getElem?_append_left q] at ha; exact .inr ⟨q, ha⟩
    · rw [List.getElem?_append_right q] at ha
      have h0 : j - l.length < 1 := by have := (List.getElem?_eq_some_iff.1 ha).1; simpa using this
      rw [show j - l.length = 0 by omega] at ha
      exact .inl ⟨by omega, (Option.some.inj ha).symm⟩
  refine ⟨R.below, fun j a ha => ?_, fun j a ha k hka => ?_, fun j m a b hjm ha hb' k hka hkb => ?_⟩
  · rcases hcase j a ha with ⟨rfl, rfl⟩ | ⟨hj, ha2⟩
    · exact ht
    · exact R.fact j a ha2
  · rcases hcase j a ha with ⟨rfl, rfl⟩ | ⟨hj, ha2⟩
    · exact Nat.le_trans S.below.size (hn k hka)
    · exact S.ge j a ha2 k hka
  · rcases hcase j a ha with ⟨rfl, rfl⟩ | ⟨hj, ha2⟩
    · rcases hcase m b hb' with ⟨rfl, rfl⟩ | ⟨hm, hb2⟩
      · exact hjm rfl
      · have := b.lt (S.fact m b hb2) k hkb; have := hn k hka; omega
    · rcases hcase m b hb' with ⟨rfl, rfl⟩ | ⟨hm, hb2⟩
      · have := a.lt (S.fact j a ha2) k hka; have := hn k hkb; omega
      · exact S.apart j m a b hjm ha2 hb2 k hka hkb
theorem St.rm (S : St w cur l) (i : Nat) : St w cur (l.eraseIdx i) := by
  have hcase : ∀ j a, (l.eraseIdx i)[j]? = some a → l[if j < i then j else j + 1]? = some a := fun j a ha => by
    rw [List.getElem?_eraseIdx] at ha; split at ha <;> rename_i q <;> simp only [q, if_true, if_false] <;> exact ha
  refine ⟨S.below, fun j a ha => S.fact _ a (hcase j a ha), fun j a ha => S.ge _ a (hcase j a ha), fun j m a b hjm ha hb => S.apart _ _ a b (fun e => hjm ?_) (hcase j a ha) (hcase m b hb)⟩
  split at e <;> split at e <;> omega
theorem St.cut (S : St w cur l) (n : Nat) : St w cur (l.take n) := by
  have hcase : ∀ j a, (l.take n)[j]? = some a → l[j]? = some a := fun j a ha => by
    rw [List.getElem?_take] at ha; split at ha
    · exact ha
    · cases ha
  exact ⟨S.below, fun j a ha => S.fact _ a (hcase j a ha), fun j a ha => S.ge _ a (hcase j a ha), fun j m a b hjm ha hb => S.apart _ _ a b hjm (hcase j a ha) (hcase m b hb)⟩
/-- A thing is seen otherwise. -/
theorem St.as (S : St w cur l) (i : Nat) {t : Th} (h : l[i]? = some t) (t' : Th) (ht : t.fact cur → t'.fact cur) (hf : ∀ k, t'.foot k → t.foot k) : St w cur (l.set i t') :=
  S.write i h t' (X := fun _ => False) (Kept.refl _ _) (fun _ q => q.elim) (ht (S.get i h)) (fun k q => .inl (hf k q))
/-- Nothing is left but some of them. -/
theorem St.nil (S : St w cur l) : St w cur [] := St.start S.below
end
end Go.Proofs.Ythaipgbjnigkhaa

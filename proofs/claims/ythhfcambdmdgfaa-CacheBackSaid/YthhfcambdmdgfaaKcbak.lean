import Derived.Test.YthhfcambdmdgfaaKcbaj
import Derived.Test.YthhfcambdmdgfaaKcbae
import Derived.Test.YthhfcambdmdgfaaKcbac
import Derived.Test.YthhfcambdmdgfaaKcbad
namespace Go.Proofs.Ythhfcambdmdgfaa
open Go.RowKit Go.Maps
set_option linter.unusedVariables false
set_option linter.unusedSimpArgs false
def dOfP (a b : AO) (k : KS) : DD := ⟨k.1, hasA a k, hasA b k, obA a k, obA b k⟩
def difP (a b : AO) (k : KS) : Bool := (hasA a k != hasA b k) || !sameO (obA a k) (obA b k)
def dsQ (ks : List KS) (a b : AO) : List DD := (ks.filter (difP a b)).map (dOfP a b)
theorem dsP_mo (ks : List KS) (A B : AM KS OX) : dsP ks A B = dsQ ks (mo A) (mo B) := by
  have e1 : dOfK A B = dOfP (mo A) (mo B) := by funext k; unfold dOfK dOfP; rw [hasA_mo, hasA_mo, obA_mo, obA_mo]
  have e2 : difK A B = difP (mo A) (mo B) := by funext k; unfold difK difP; rw [hasA_mo, hasA_mo, obA_mo, obA_mo]
  unfold dsP dsQ
  rw [e1, e2]
theorem filter_one {α : Type} {p : α → Bool} {a : α} : ∀ {l : List α}, l.Nodup → a ∈ l → p a = true → (∀ x, x ≠ a → p x = false) → l.filter p = [a]
  | [], _, h, _, _ => by cases h
  | x :: r, hn, h, ha, ho => by
    have hx : x ∉ r ∧ r.Nodup := by simpa using hn
    by_cases e : x = a
    · subst e
      rw [List.filter_cons, if_pos ha]
      have : r.filter p = [] := by
        rw [List.filter_eq_nil_iff]
        intro y hy
        rw [ho y (fun q => hx.1 (q ▸ hy))]; decide
      rw [this]
    · rw [List.filter_cons, if_neg (by rw [ho x e]; decide)]
      exact filter_one hx.2 ((List.mem_cons.1 h).resolve_left (fun q => e q.symm)) ha ho
theorem one_delta {ks : List KS} {a b : AO} {k0 : KS} (hn : ks.Nodup) (hm : ∀ k, k ∈ ks ↔ (hasA a k || hasA b k) = true) (hi : (hasA a k0 || hasA b k0) = true) (hd : difP a b k0 = true) (ho : ∀ k, k ≠ k0 → difP a b k = false) : dsQ ks a b = [dOfP a b k0] := by
  unfold dsQ
  rw [filter_one hn ((hm k0).2 hi) hd ho]; rfl
def DeltaAt (w : World) (g : Nat) (d : DD) (x y : Value) : Prop := ∀ j u, (dltX (d, x, y))[j]? = some u → w.cell? ⟨g, j, none⟩ = some u
theorem one_at {w : World} {b : Nat} {C : Option Addr} {c : Nat} {zs : List DX} {d : DD} (h : DsF w b (.slice C zs.length c) zs) (he : zs.map (·.1) = [d]) : ∃ g c' x y, Value.slice C zs.length c = .slice (some ⟨g, 0, none⟩) 1 c' ∧ b ≤ g ∧ DeltaAt w g d x y := by
  obtain ⟨z, rfl⟩ : ∃ z, zs = [z] := by
    match zs, he with
    | [z], _ => exact ⟨z, rfl⟩
  obtain ⟨d', x, y⟩ := z
  simp only [List.map_cons, List.map_nil, List.cons.injEq, and_true] at he
  subst he
  have hr := h.row
  obtain ⟨g, c', e⟩ := rw_pos hr (by simp)
  rw [e] at hr
  obtain ⟨h1, _, h3, _⟩ := rw_cells hr
  refine ⟨g, c', x, y, e, h1, fun j u hu => ?_⟩
  have hj : j < 21 := by
    have := (List.getElem?_eq_some_iff.1 hu).1
    simpa [dltX, objX] using this
  rw [h3 j (by simpa using hj)]
  have : dltC [(d', x, y)] = dltX (d', x, y) := by simp [dltC]
  rw [this, List.getD_eq_getElem?_getD, hu]; rfl
def OneO (w : World) (base cp : Nat) (fl : Int) (m : AO) (G : AM KS Int) (d : DD) (e : Ending) (w' : World) : Prop :=
  ∃ ob gb M' g c x y, e = .returned (.tuple #[.slice (some ⟨g, 0, none⟩) 1 c, .int .i64 0]) ∧ CacheAt w' base cp ob gb fl M' G ∧ mo M' = m ∧ w.heap.size ≤ g ∧ DeltaAt w' g d x y ∧ Kept (fun k => k = cp) w w'
theorem app_right {e : EvD} {fl : Int} {m : AO} {G : AM KS Int} (h : appErr e fl m G = 0) : rightE e = true ∧ staleP e fl m G = false ∧ (nextM e fl m G).length ≤ 1000 := by
  unfold appErr at h
  cases hr : rightE e with
  | false => rw [if_pos hr] at h; cases h
  | true =>
    rw [if_neg (by rw [hr]; decide)] at h
    cases hs : staleP e fl m G with
    | true => rw [if_pos hs] at h; cases h
    | false =>
      rw [if_neg (by rw [hs]; decide)] at h
      by_cases hl : 1000 < (nextM e fl m G).length
      · rw [if_pos hl] at h; cases h
      · exact ⟨rfl, rfl, by omega⟩
theorem one_of {w : World} {base cp : Nat} {fl : Int} {M : AM KS OX} {G : AM KS Int} {E : EvD} {e : Ending} {w' : World} (h : ApplyO w base cp fl M G E e w') {f1 : Int} {m m1 : AO} {G1 : AM KS Int} (hm : mo M = m) (he : appErr E fl m G = 0) (h1 : nextF E fl = f1) (h2 : nextM E fl m G = m1) (h3 : nextG E fl G = G1)
    {k0 : KS} (hi : (hasA m k0 || hasA m1 k0) = true) (hd : difP m m1 k0 = true) (ho : ∀ k, k ≠ k0 → difP m m1 k = false) : OneO w base cp f1 m1 G1 (dOfP m m1 k0) e w' := by
  subst hm; subst h1; subst h2; subst h3
  rcases h with ⟨hn, _⟩ | ⟨_, ob, gb, M', G', C, c, zs, ks, rfl, hc, hmo, hg, hl1, hl2, hds, hz, hkn, hkm, hks, hk⟩
  · exact absurd he hn
  · rw [dsP_mo, hmo] at hz
    have hkm' : ∀ k, k ∈ ks ↔ (hasA (mo M) k || hasA (nextM E fl (mo M) G) k) = true := fun k => by rw [hkm k, hasA_mo, ← hmo, hasA_mo]
    rw [one_delta hkn hkm' hi hd ho] at hz
    obtain ⟨g, c', x, y, e1, hg1, hda⟩ := one_at hds hz
    rw [e1]
    exact ⟨ob, gb, M', g, c', x, y, rfl, hg ▸ hc, hmo, hg1, hda, hk⟩
theorem any_of {w : World} {base cp : Nat} {fl : Int} {M : AM KS OX} {G : AM KS Int} {E : EvD} {e : Ending} {w' : World} (h : ApplyO w base cp fl M G E e w') {f1 : Int} {m m1 : AO} {G1 : AM KS Int} (hm : mo M = m) (he : appErr E fl m G = 0) (h1 : nextF E fl = f1) (h2 : nextM E fl m G = m1) (h3 : nextG E fl G = G1) :
    ∃ ob gb M' C n c, e = .returned (.tuple #[.slice C n c, .int .i64 0]) ∧ CacheAt w' base cp ob gb f1 M' G1 ∧ mo M' = m1 ∧ Kept (fun k => k = cp) w w' := by
  subst hm; subst h1; subst h2; subst h3
  rcases h with ⟨hn, _⟩ | ⟨_, ob, gb, M', G', C, c, zs, ks, rfl, hc, hmo, hg, hl1, hl2, hds, hz, hkn, hkm, hks, hk⟩
  · exact absurd he hn
  · exact ⟨ob, gb, M', C, _, c, rfl, hg ▸ hc, hmo, hk⟩
theorem no_of {w : World} {base cp : Nat} {fl : Int} {M : AM KS OX} {G : AM KS Int} {E : EvD} {e : Ending} {w' : World} (h : ApplyO w base cp fl M G E e w') {m : AO} {er : Int} (hm : mo M = m) (he : appErr E fl m G = er) (hn : er ≠ 0) : e = .returned (.tuple #[.slice none 0 0, .int .i64 er]) ∧ Below w.heap.size w w' := by
  subst hm; subst he
  rcases h with ⟨_, h1, h2⟩ | ⟨h0, _⟩
  · exact ⟨h1, h2⟩
  · exact absurd h0 hn
def kx8 : KS := ⟨⟨⟨#[112, 111, 100]⟩, ⟨#[97]⟩, ⟨#[120]⟩⟩, by decide, by decide, by decide⟩
def ky8 : KS := ⟨⟨⟨#[112, 111, 100]⟩, ⟨#[97]⟩, ⟨#[121]⟩⟩, by decide, by decide, by decide⟩
def o8 : ObjD := ⟨kx8.1, 3, ⟨#[]⟩, false, false, []⟩
def p8 : ObjD := ⟨kx8.1, 5, ⟨#[]⟩, false, false, []⟩
def q8 : ObjD := ⟨ky8.1, 4, ⟨#[]⟩, false, false, []⟩
def d8 : ObjD := ⟨kx8.1, 6, ⟨#[]⟩, false, false, []⟩
theorem sm8 (k : KS) (v : Int) : objSmall ⟨k.1, v, ⟨#[]⟩, false, false, []⟩ := ⟨k.2, (show (ByteArray.mk #[]).size ≤ 1000 by decide), (show (0 : Nat) ≤ 300 by omega), by rintro p ⟨⟩⟩
theorem ob8_S (w : World) (k : KS) (v : Int) (hv : in64 v) : ObjS w (.slice none 0 0) ⟨k.1, v, ⟨#[]⟩, false, false, []⟩ := ⟨⟨sliS_nil w 2, by rintro p ⟨⟩⟩, hv⟩
theorem kO8 (k : KS) (v : Int) : kOf ⟨k.1, v, ⟨#[]⟩, false, false, []⟩ = k := Subtype.ext (kOf_key (sm8 k v))
theorem xy8 : kx8 ≠ ky8 := fun h => by
  have := congrArg (fun k : KS => k.1.name.data.toList) h
  revert this; decide
noncomputable def m8a : AO := [(kx8, p8)]
noncomputable def m8b : AO := putA ltKS m8a ky8 q8
noncomputable def m8c : AO := delA m8b kx8
noncomputable def G8 : AM KS Int := [(kx8, 6)]
theorem obA_8a (k : KS) : obA m8a k = if k = kx8 then p8 else zeroO := by
  unfold obA m8a; rw [getA_cons]; by_cases h : kx8 = k
  · rw [if_pos h, if_pos h.symm]; rfl
  · rw [if_neg h, if_neg (fun e => h e.symm)]; rfl
theorem has_8a (k : KS) : hasA m8a k = decide (k = kx8) := by
  rw [hasA_get]; unfold m8a; rw [getA_cons]; by_cases h : kx8 = k
  · rw [if_pos h, decide_eq_true h.symm]; rfl
  · rw [if_neg h, decide_eq_false (fun e => h e.symm)]; rfl
theorem has_put2O {β : Type} (M : AM KS β) (k : KS) (v : β) (x : KS) : hasA (putA ltKS M k v) x = (hasA M x || decide (x = k)) := by
  rw [hasA_get, hasA_get, getA_put]
  by_cases h : x = k <;> simp [h]
theorem obA_8b (k : KS) : obA m8b k = if k = ky8 then q8 else if k = kx8 then p8 else zeroO := by unfold m8b; rw [obA_put, obA_8a]
theorem has_8b (k : KS) : hasA m8b k = (decide (k = kx8) || decide (k = ky8)) := by
  unfold m8b
  rw [has_put2O, has_8a]
theorem obA_8c (k : KS) : obA m8c k = if k = ky8 then q8 else zeroO := by
  unfold m8c; rw [obA_del, obA_8b]
  by_cases h : k = kx8
  · rw [if_pos h, if_neg (by rw [h]; exact xy8)]
  · rw [if_neg h, if_neg h]
theorem has_8c (k : KS) : hasA m8c k = decide (k = ky8) := by
  unfold m8c; rw [hasA_get, getA_del]
  by_cases h : k = kx8
  · rw [if_pos h, h, decide_eq_false xy8]; rfl
  · rw [if_neg h, ← hasA_get, has_8b, decide_eq_false h]; rfl
theorem rise_8a : RiseA ltKS m8a := List.pairwise_singleton _ _
theorem in8a : CIn m8a [] 0 := ⟨rise_8a, List.Pairwise.nil, fun q hq => by
  obtain rfl := List.mem_singleton.1 hq
  exact ⟨by kernel_rfl, rfl, by kernel_rfl, sm8 kx8 5⟩, by rintro q ⟨⟩⟩
theorem len_8b : m8b.length ≤ 2 := put_le _ _ _ _
theorem stA : appErr ⟨0, p8, 0, []⟩ 0 [] [] = 0 ∧ nextF ⟨0, p8, 0, []⟩ 0 = 0 ∧ nextM ⟨0, p8, 0, []⟩ 0 [] [] = m8a ∧ nextG ⟨0, p8, 0, []⟩ 0 [] = [] := by
  have hk : kOf p8 = kx8 := kO8 kx8 5
  have hM : nextM ⟨0, p8, 0, []⟩ 0 [] [] = m8a := by unfold nextM; rw [if_pos rfl, hk]; rfl
  have hr : rightE ⟨0, p8, 0, []⟩ = true := by kernel_rfl
  have hs : staleP ⟨0, p8, 0, []⟩ 0 [] [] = false := by
    unfold staleP; rw [verE_ok hr, if_pos (.inl rfl), if_pos (.inl rfl)]
    refine decide_eq_false ?_
    show ¬ ((5 : Int) ≤ max (max 0 0) 0)
    omega
  refine ⟨?_, ?_, hM, ?_⟩
  · unfold appErr; rw [if_neg (by rw [hr]; decide), if_neg (by rw [hs]; decide), hM, if_neg (by unfold m8a; simp)]
  · unfold nextF; rw [if_pos (.inl rfl)]
  · unfold nextG; rw [if_pos rfl]; rfl
theorem stB : appErr ⟨0, o8, 0, []⟩ 0 m8a [] = 6 := by
  have hk : kOf o8 = kx8 := kO8 kx8 3
  have hr : rightE ⟨0, o8, 0, []⟩ = true := by kernel_rfl
  have hs : staleP ⟨0, o8, 0, []⟩ 0 m8a [] = true := by
    unfold staleP; rw [verE_ok hr, if_pos (.inl rfl), if_pos (.inl rfl), hk]
    refine decide_eq_true ?_
    unfold knownP
    rw [obA_8a, if_pos rfl]
    show (3 : Int) ≤ max (max 0 5) 0
    omega
  unfold appErr; rw [if_neg (by rw [hr]; decide), if_pos hs]
theorem stC : appErr ⟨2, zeroO, 4, [q8]⟩ 0 m8a [] = 0 ∧ nextF ⟨2, zeroO, 4, [q8]⟩ 0 = 4 ∧ nextM ⟨2, zeroO, 4, [q8]⟩ 0 m8a [] = m8b ∧ nextG ⟨2, zeroO, 4, [q8]⟩ 0 [] = [] := by
  have hk : kOf q8 = ky8 := kO8 ky8 4
  have hM : nextM ⟨2, zeroO, 4, [q8]⟩ 0 m8a [] = m8b := by
    unfold nextM; rw [if_neg (show ¬ ((2 : Int) = 0) by decide), if_neg (show ¬ ((2 : Int) = 1) by decide), if_pos rfl]
    unfold relistP
    have e : [q8].foldl (stepR 0 m8a []) m8a = m8b := by
      show stepR 0 m8a [] m8a q8 = m8b
      unfold stepR
      rw [hk, if_pos]
      · rfl
      · left
        unfold knownP
        rw [obA_8a, if_neg xy8.symm]
        show max (max (0 : Int) 0) 0 < 4
        omega
    rw [show (⟨2, zeroO, 4, [q8]⟩ : EvD).objs = [q8] from rfl, e]
    unfold dropG
    rw [List.filter_eq_self]
    intro q hq
    rcases mem_put.1 hq with rfl | ⟨h1, _⟩
    · have : inXs [q8] ky8 = true := by unfold inXs; simp [q8]
      simp [this]
    · obtain rfl := List.mem_singleton.1 h1
      simp [p8]
  have hr : rightE ⟨2, zeroO, 4, [q8]⟩ = true := by kernel_rfl
  have hs : staleP ⟨2, zeroO, 4, [q8]⟩ 0 m8a [] = false := by
    unfold staleP; rw [verE_ok hr, if_neg (by decide), if_neg (by decide)]
    exact decide_eq_false (show ¬ ((4 : Int) ≤ 0) by omega)
  refine ⟨?_, ?_, hM, ?_⟩
  · unfold appErr; rw [if_neg (by rw [hr]; decide), if_neg (by rw [hs]; decide), hM, if_neg (by have := len_8b; omega)]
  · unfold nextF; rw [if_neg (by decide)]
  · unfold nextG; rw [if_neg (show ¬ ((2 : Int) = 0) by decide), if_neg (show ¬ ((2 : Int) = 1) by decide)]; rfl
theorem in8b : CIn m8b [] 4 := by
  have h := in8a.next (e := ⟨2, zeroO, 4, [q8]⟩) (app_right stC.1).1 (app_right stC.1).2.1 zeroO_small (fun o ho => by obtain rfl := List.mem_singleton.1 ho; exact sm8 ky8 4)
  rw [stC.2.1, stC.2.2.1, stC.2.2.2] at h
  exact h
theorem stD : appErr ⟨1, d8, 0, []⟩ 4 m8b [] = 0 ∧ nextF ⟨1, d8, 0, []⟩ 4 = 4 ∧ nextM ⟨1, d8, 0, []⟩ 4 m8b [] = m8c ∧ nextG ⟨1, d8, 0, []⟩ 4 [] = G8 := by
  have hk : kOf d8 = kx8 := kO8 kx8 6
  have hM : nextM ⟨1, d8, 0, []⟩ 4 m8b [] = m8c := by
    unfold nextM; rw [if_neg (show ¬ ((1 : Int) = 0) by decide), if_pos rfl, hk]; rfl
  have hr : rightE ⟨1, d8, 0, []⟩ = true := by kernel_rfl
  have hs : staleP ⟨1, d8, 0, []⟩ 4 m8b [] = false := by
    unfold staleP; rw [verE_ok hr, if_pos (.inr rfl), if_pos (.inr rfl), hk]
    refine decide_eq_false ?_
    unfold knownP
    rw [obA_8b, if_neg xy8, if_pos rfl]
    show ¬ ((6 : Int) ≤ max (max 4 5) 0)
    omega
  refine ⟨?_, ?_, hM, ?_⟩
  · unfold appErr; rw [if_neg (by rw [hr]; decide), if_neg (by rw [hs]; decide), hM, if_neg (by have := len_8b; have := del_le m8b kx8; unfold m8c; omega)]
  · unfold nextF; rw [if_pos (.inr rfl)]
  · unfold nextG nextF; rw [if_neg (show ¬ ((1 : Int) = 0) by decide), if_pos rfl, if_pos (.inr rfl), hk]; rfl
theorem in8c : CIn m8c G8 4 := by
  have h := in8b.next (e := ⟨1, d8, 0, []⟩) (app_right stD.1).1 (app_right stD.1).2.1 (sm8 kx8 6) (fun o ho => by cases ho)
  rw [stD.2.1, stD.2.2.1, stD.2.2.2] at h
  exact h
theorem len_8c : m8c.length ≤ 2 := Nat.le_trans (del_le _ _) len_8b
theorem stE : appErr ⟨3, zeroO, 6, []⟩ 4 m8c G8 = 0 ∧ nextF ⟨3, zeroO, 6, []⟩ 4 = 6 ∧ nextM ⟨3, zeroO, 6, []⟩ 4 m8c G8 = m8c ∧ nextG ⟨3, zeroO, 6, []⟩ 4 G8 = [] := by
  have hM : nextM ⟨3, zeroO, 6, []⟩ 4 m8c G8 = m8c := by
    unfold nextM; rw [if_neg (show ¬ ((3 : Int) = 0) by decide), if_neg (show ¬ ((3 : Int) = 1) by decide), if_neg (show ¬ ((3 : Int) = 2) by decide)]
  have hr : rightE ⟨3, zeroO, 6, []⟩ = true := by kernel_rfl
  have hs : staleP ⟨3, zeroO, 6, []⟩ 4 m8c G8 = false := by
    unfold staleP; rw [verE_ok hr, if_neg (by decide), if_neg (by decide)]
    exact decide_eq_false (show ¬ ((6 : Int) ≤ 4) by omega)
  refine ⟨?_, ?_, hM, ?_⟩
  · unfold appErr; rw [if_neg (by rw [hr]; decide), if_neg (by rw [hs]; decide), hM, if_neg (by have := len_8c; omega)]
  · unfold nextF; rw [if_neg (by decide)]
  · unfold nextG nextF; rw [if_neg (show ¬ ((3 : Int) = 0) by decide), if_neg (show ¬ ((3 : Int) = 1) by decide), if_neg (show ¬ ((3 : Int) = 0 ∨ (3 : Int) = 1) by decide)]; rfl
theorem in8e : CIn m8c [] 6 := by
  have h := in8c.next (e := ⟨3, zeroO, 6, []⟩) (app_right stE.1).1 (app_right stE.1).2.1 zeroO_small (fun o ho => by cases ho)
  rw [stE.2.1, stE.2.2.1, stE.2.2.2] at h
  exact h
theorem stF : appErr ⟨0, q8, 0, []⟩ 6 m8c [] = 6 := by
  have hk : kOf q8 = ky8 := kO8 ky8 4
  have hr : rightE ⟨0, q8, 0, []⟩ = true := by kernel_rfl
  have hs : staleP ⟨0, q8, 0, []⟩ 6 m8c [] = true := by
    unfold staleP; rw [verE_ok hr, if_pos (.inl rfl), if_pos (.inl rfl), hk]
    refine decide_eq_true ?_
    unfold knownP
    rw [obA_8c, if_pos rfl]
    show (4 : Int) ≤ max (max 6 4) 0
    omega
  unfold appErr; rw [if_neg (by rw [hr]; decide), if_pos hs]
theorem sameO_self (a : ObjD) : sameO a a = true := by rw [sameO_eq]; simp
theorem dA : (hasA ([] : AO) kx8 || hasA m8a kx8) = true ∧ difP [] m8a kx8 = true ∧ (∀ k, k ≠ kx8 → difP [] m8a k = false) ∧ dOfP [] m8a kx8 = ⟨kx8.1, false, true, zeroO, p8⟩ := by
  refine ⟨by rw [has_8a]; simp, ?_, fun k hk => ?_, ?_⟩
  · unfold difP; rw [has_8a, decide_eq_true rfl]; rfl
  · unfold difP; rw [has_8a, decide_eq_false hk, obA_8a, if_neg hk]
    show ((false != false) || !sameO zeroO zeroO) = false
    rw [sameO_self]; rfl
  · unfold dOfP; rw [has_8a, decide_eq_true rfl, obA_8a, if_pos rfl]; rfl
theorem dC : (hasA m8a ky8 || hasA m8b ky8) = true ∧ difP m8a m8b ky8 = true ∧ (∀ k, k ≠ ky8 → difP m8a m8b k = false) ∧ dOfP m8a m8b ky8 = ⟨ky8.1, false, true, zeroO, q8⟩ := by
  refine ⟨by rw [has_8b]; simp, ?_, fun k hk => ?_, ?_⟩
  · unfold difP; rw [has_8a, has_8b, decide_eq_false xy8.symm, decide_eq_true rfl]; rfl
  · unfold difP; rw [has_8a, has_8b, decide_eq_false hk, obA_8a, obA_8b, if_neg hk, sameO_self]; simp
  · unfold dOfP; rw [has_8a, has_8b, decide_eq_false xy8.symm, decide_eq_true rfl, obA_8a, obA_8b, if_neg xy8.symm, if_pos rfl]; rfl
theorem dD : (hasA m8b kx8 || hasA m8c kx8) = true ∧ difP m8b m8c kx8 = true ∧ (∀ k, k ≠ kx8 → difP m8b m8c k = false) ∧ dOfP m8b m8c kx8 = ⟨kx8.1, true, false, p8, zeroO⟩ := by
  refine ⟨by rw [has_8b]; simp, ?_, fun k hk => ?_, ?_⟩
  · unfold difP; rw [has_8b, has_8c, decide_eq_false xy8, decide_eq_true rfl]; rfl
  · unfold difP; rw [has_8b, has_8c, decide_eq_false hk, obA_8b, obA_8c, if_neg hk, sameO_self]; simp
  · unfold dOfP; rw [has_8b, has_8c, decide_eq_false xy8, decide_eq_true rfl, obA_8b, obA_8c, if_neg xy8, if_neg xy8, if_pos rfl]; rfl
end Go.Proofs.Ythhfcambdmdgfaa
namespace Go.Proofs.Ythhfcambdmdgfaa
open Go.RowKit Go.Maps
set_option linter.unusedVariables false
set_option linter.unusedSimpArgs false
theorem one_objs {w : World} {g : Nat} (hg : w.heap[g]? = some (.cells #[.string ⟨#[112, 111, 100]⟩, .string ⟨#[97]⟩, .string ⟨#[121]⟩, .int .i64 4, .string ⟨#[]⟩, .bool false, .bool false, .slice none 0 0] 27)) : ObjsS w (.slice (some ⟨g, 0, none⟩) 1 1) [(q8, .slice none 0 0)] := by
  refine ⟨⟨rfl, _, _, rfl, Nat.le_refl _, .inr ⟨g, 0, rfl, fun j u hu => ?_⟩⟩, fun p hp => ?_⟩
  · have hj := (List.getElem?_eq_some_iff.1 hu).1
    have hj : j < 8 := hj
    have e := blk_cell hg j
    rw [Nat.zero_add]
    rw [e]
    exact List.getElem?_toArray.trans hu
  · obtain rfl := List.mem_singleton.1 hp; exact ob8_S w ky8 4 (by unfold in64; omega)
theorem CacheAt.boxK {w w' : World} {base cp ob gb : Nat} {fl : Int} {M : AM KS OX} {G : AM KS Int} {b : Nat} {cs : Array Value} (h : CacheAt w base cp ob gb fl M G) (hb : w.heap[b]? = some (.cells cs 27)) (hk : Kept (fun k => k = cp) w w') : w'.heap[b]? = some (.cells cs 27) :=
  hk.heap hb (fun e => by
    have e' : b = cp := e
    subst e'
    have hc := h.cell
    rw [hb] at hc
    injection hc with hc
    injection hc with _ ht
    exact absurd ht (by decide))
theorem CacheAt.toB {w w' : World} {base cp ob gb : Nat} {fl : Int} {M : AM KS OX} {G : AM KS Int} {B : Nat} (h : CacheAt w base cp ob gb fl M G) (hk : Kept (fun k => k = cp) w w') (hb : B ≤ w.heap.size) (hB : B ≤ base) : Below B w w' := hk.below hb (fun k e => by subst e; exact Nat.le_trans hB h.ge.1)
theorem delta_kept {w w' : World} {g cp : Nat} {d : DD} {x y : Value} (h : DeltaAt w g d x y) (hk : Kept (fun k => k = cp) w w') (hne : g ≠ cp) : DeltaAt w' g d x y := fun j u hu => hk.cell (h j u hu) hne
theorem delta_below {w w' : World} {g : Nat} {d : DD} {x y : Value} (h : DeltaAt w g d x y) (hb : Below w.heap.size w w') : DeltaAt w' g d x y := fun j u hu => cb hb (h j u hu)
theorem srt_one {w w' : World} {β : Type} {M : AM KS β} {k0 : KS} {ks : List KS} (hn : AllK M ks) (h : ∀ k, hasA M k = decide (k = k0)) : ks.length = 1 := by
  have h1 : k0 ∈ ks := (hn.2 k0).2 (by rw [h]; simp)
  have h2 : ∀ x ∈ ks, x = k0 := fun x hx => by
    have := (hn.2 x).1 hx
    rw [h] at this; exact of_decide_eq_true this
  match ks, hn.1, h1, h2 with
  | [a], _, _, _ => rfl
  | a :: b :: r, hnd, _, h2 =>
    have ea := h2 a List.mem_cons_self
    have eb := h2 b (List.mem_cons_of_mem _ List.mem_cons_self)
    rw [ea, eb] at hnd
    simp at hnd
theorem has_mo {M : AM KS OX} {m : AO} (h : mo M = m) (k : KS) : hasA M k = hasA m k := by rw [← h, hasA_mo]
theorem ob_mo {M : AM KS OX} {m : AO} (h : mo M = m) (k : KS) : objOf M k = obA m k := by rw [← h, obA_mo]
theorem sm_mo {M : AM KS OX} {m : AO} {G : AM KS Int} {fl : Int} (h : mo M = m) (hI : CIn m G fl) : ∀ q ∈ M, objSmall q.2.1 := small_mo (G := G) (fl := fl) (h ▸ hI)
theorem graves8 {w : World} {base cp ob gb : Nat} {fl : Int} {M : AM KS OX} (h : CacheAt w base cp ob gb fl M G8) : Calls Try.prog 49 #[.pointer (some ⟨cp, 0, none⟩)] w fun e w' => ∃ A c, e = .returned (.slice A 1 c) ∧ Below w.heap.size w w' :=
  (cgraves_calls w h (by unfold G8; simp)).mono fun e w' ⟨A, c, ks, h1, h2, h3, h4, h5⟩ => by
    have e1 : ks.length = 1 := srt_one (w := w) (w' := w) (k0 := kx8) h3 (fun k => by
      rw [hasA_get]; unfold G8; rw [getA_cons]; by_cases h : kx8 = k
      · rw [if_pos h, decide_eq_true h.symm]; rfl
      · rw [if_neg h, decide_eq_false (fun e => h e.symm)]; rfl)
    rw [e1] at h1
    exact ⟨A, c, h1, h5⟩
theorem graves8n {w : World} {base cp ob gb : Nat} {fl : Int} {M : AM KS OX} (h : CacheAt w base cp ob gb fl M []) : Calls Try.prog 49 #[.pointer (some ⟨cp, 0, none⟩)] w fun e w' => ∃ A c, e = .returned (.slice A 0 c) ∧ Below w.heap.size w w' :=
  (cgraves_calls w h (by simp)).mono fun e w' ⟨A, c, ks, h1, h2, h3, h4, h5⟩ => by
    have e1 : ks = [] := List.eq_nil_iff_forall_not_mem.2 fun k hk => by have := (h3.2 k).1 hk; cases this
    rw [e1] at h1
    exact ⟨A, c, h1, h5⟩
theorem objects8 {w : World} {base cp ob gb : Nat} {M : AM KS OX} (h : CacheAt w base cp ob gb 6 M []) (hm : mo M = m8c) : Calls Try.prog 47 #[.pointer (some ⟨cp, 0, none⟩)] w fun e w' => ∃ A c, e = .returned (.slice A 1 c) ∧ Below w.heap.size w w' :=
  (cobjects_calls w h (sm_mo hm in8e) (by rw [← mo_len, hm]; exact Nat.le_trans len_8c (by omega))).mono fun e w' ⟨A, c, zs, ks, h1, h2, h3, h4, h5, h6⟩ => by
    have e1 : ks.length = 1 := srt_one (w := w) (w' := w) (k0 := ky8) h4 (fun k => by rw [has_mo hm, has_8c])
    have e2 : zs.length = 1 := by rw [← oxs_len, h3, List.length_map, e1]
    rw [e2] at h1
    exact ⟨A, c, h1, h6⟩
theorem get8 {w : World} {base cp ob gb : Nat} {M : AM KS OX} (h : CacheAt w base cp ob gb 6 M []) (hm : mo M = m8c) : Calls Try.prog 50 #[.pointer (some ⟨cp, 0, none⟩), .agg #[.string ⟨#[112, 111, 100]⟩, .string ⟨#[97]⟩, .string ⟨#[121]⟩]] w fun e w' => ∃ g, e = .returned (.tuple #[.agg #[.string ⟨#[112, 111, 100]⟩, .string ⟨#[97]⟩, .string ⟨#[121]⟩, .int .i64 4, .string ⟨#[]⟩, .bool false, .bool false, .slice (some ⟨g, 0, none⟩) 0 0], .bool true]) ∧ Below w.heap.size w w' :=
  (cget_calls w h (sm_mo hm in8e) ky8).mono fun e w' ⟨x, h1, h2, h3⟩ => by
    obtain ⟨g, rfl⟩ := h2.form
    rw [ob_mo hm, has_mo hm, obA_8c, if_pos rfl, has_8c, decide_eq_true rfl] at h1
    exact ⟨_, h1, h3⟩
theorem known8 {w : World} {base cp ob gb : Nat} {M : AM KS OX} (h : CacheAt w base cp ob gb 6 M []) (hm : mo M = m8c) : Calls Try.prog 53 #[.pointer (some ⟨cp, 0, none⟩), .agg #[.string ⟨#[112, 111, 100]⟩, .string ⟨#[97]⟩, .string ⟨#[120]⟩]] w fun e w' => e = .returned (.int .i64 6) ∧ Below w.heap.size w w' :=
  (cknown_calls w h kx8 rfl).mono fun e w' ⟨h1, h2⟩ => by
    have e1 : knownC 6 M [] kx8 = 6 := by
      unfold knownC
      rw [ob_mo hm, obA_8c, if_neg xy8]
      show max (max (6 : Int) 0) 0 = 6
      omega
    rw [e1] at h1
    exact ⟨h1, h2⟩
theorem actA8 {w : World} {base cp ob gb : Nat} {M : AM KS OX} (h : CacheAt w base cp ob gb 0 M []) (hm : mo M = []) (hb : base ≤ w.heap.size) :
    Calls Try.prog 44 #[.pointer (some ⟨cp, 0, none⟩), .agg #[.int .i64 0, .string ⟨#[112, 111, 100]⟩, .string ⟨#[97]⟩, .string ⟨#[120]⟩, .int .i64 5, .string ⟨#[]⟩, .bool false, .bool false, .slice none 0 0, .int .i64 0, .slice none 0 0]] w (OneO w base cp 0 m8a [] ⟨kx8.1, false, true, zeroO, p8⟩) := by
  have hl : M.length ≤ 1000 := by rw [← mo_len, hm]; first | exact Nat.le_trans len_8b (by omega) | exact Nat.le_trans len_8c (by omega) | (unfold m8a; simp) | simp
  refine (capply_calls w h (hm ▸ CIn.nil) hb 0 (o := p8) (sl := .slice none 0 0) 0 (ol := .slice none 0 0) (xs := []) (ob8_S w kx8 5 (by unfold in64; omega)) (sm8 kx8 5) (objsS_nil w) (fun o ho => by cases ho) (by unfold in64; omega) (by unfold in64; omega) (by simp) hl (by first | simp | (unfold G8; simp))).mono ?_
  intro e w' H
  exact dA.2.2.2 ▸ one_of H hm stA.1 stA.2.1 stA.2.2.1 stA.2.2.2 dA.1 dA.2.1 dA.2.2.1
theorem actB8 {w : World} {base cp ob gb : Nat} {M : AM KS OX} (h : CacheAt w base cp ob gb 0 M []) (hm : mo M = m8a) (hb : base ≤ w.heap.size) :
    Calls Try.prog 44 #[.pointer (some ⟨cp, 0, none⟩), .agg #[.int .i64 0, .string ⟨#[112, 111, 100]⟩, .string ⟨#[97]⟩, .string ⟨#[120]⟩, .int .i64 3, .string ⟨#[]⟩, .bool false, .bool false, .slice none 0 0, .int .i64 0, .slice none 0 0]] w (fun e w' => e = .returned (.tuple #[.slice none 0 0, .int .i64 6]) ∧ Below w.heap.size w w') := by
  have hl : M.length ≤ 1000 := by rw [← mo_len, hm]; first | exact Nat.le_trans len_8b (by omega) | exact Nat.le_trans len_8c (by omega) | (unfold m8a; simp) | simp
  refine (capply_calls w h (hm ▸ in8a) hb 0 (o := o8) (sl := .slice none 0 0) 0 (ol := .slice none 0 0) (xs := []) (ob8_S w kx8 3 (by unfold in64; omega)) (sm8 kx8 3) (objsS_nil w) (fun o ho => by cases ho) (by unfold in64; omega) (by unfold in64; omega) (by simp) hl (by first | simp | (unfold G8; simp))).mono ?_
  intro e w' H
  exact no_of H hm stB (by decide)
theorem actC8 {w : World} {base cp ob gb : Nat} {M : AM KS OX} (h : CacheAt w base cp ob gb 0 M []) (hm : mo M = m8a) (hb : base ≤ w.heap.size) {g : Nat} (hg : w.heap[g]? = some (.cells #[.string ⟨#[112, 111, 100]⟩, .string ⟨#[97]⟩, .string ⟨#[121]⟩, .int .i64 4, .string ⟨#[]⟩, .bool false, .bool false, .slice none 0 0] 27)) :
    Calls Try.prog 44 #[.pointer (some ⟨cp, 0, none⟩), .agg #[.int .i64 2, .string ⟨#[]⟩, .string ⟨#[]⟩, .string ⟨#[]⟩, .int .i64 0, .string ⟨#[]⟩, .bool false, .bool false, .slice none 0 0, .int .i64 4, .slice (some ⟨g, 0, none⟩) 1 1]] w (OneO w base cp 4 m8b [] ⟨ky8.1, false, true, zeroO, q8⟩) := by
  have hl : M.length ≤ 1000 := by rw [← mo_len, hm]; first | exact Nat.le_trans len_8b (by omega) | exact Nat.le_trans len_8c (by omega) | (unfold m8a; simp) | simp
  refine (capply_calls w h (hm ▸ in8a) hb 2 (o := zeroO) (sl := .slice none 0 0) 4 (ol := .slice (some ⟨g, 0, none⟩) 1 1) (xs := [(q8, .slice none 0 0)]) (zeroO_S w) zeroO_small (one_objs hg) (fun o ho => by obtain rfl := List.mem_singleton.1 ho; exact sm8 ky8 4) (by unfold in64; omega) (by unfold in64; omega) (by simp) hl (by first | simp | (unfold G8; simp))).mono ?_
  intro e w' H
  exact dC.2.2.2 ▸ one_of H hm stC.1 stC.2.1 stC.2.2.1 stC.2.2.2 dC.1 dC.2.1 dC.2.2.1
theorem actD8 {w : World} {base cp ob gb : Nat} {M : AM KS OX} (h : CacheAt w base cp ob gb 4 M []) (hm : mo M = m8b) (hb : base ≤ w.heap.size) :
    Calls Try.prog 44 #[.pointer (some ⟨cp, 0, none⟩), .agg #[.int .i64 1, .string ⟨#[112, 111, 100]⟩, .string ⟨#[97]⟩, .string ⟨#[120]⟩, .int .i64 6, .string ⟨#[]⟩, .bool false, .bool false, .slice none 0 0, .int .i64 0, .slice none 0 0]] w (OneO w base cp 4 m8c G8 ⟨kx8.1, true, false, p8, zeroO⟩) := by
  have hl : M.length ≤ 1000 := by rw [← mo_len, hm]; first | exact Nat.le_trans len_8b (by omega) | exact Nat.le_trans len_8c (by omega) | (unfold m8a; simp) | simp
  refine (capply_calls w h (hm ▸ in8b) hb 1 (o := d8) (sl := .slice none 0 0) 0 (ol := .slice none 0 0) (xs := []) (ob8_S w kx8 6 (by unfold in64; omega)) (sm8 kx8 6) (objsS_nil w) (fun o ho => by cases ho) (by unfold in64; omega) (by unfold in64; omega) (by simp) hl (by first | simp | (unfold G8; simp))).mono ?_
  intro e w' H
  exact dD.2.2.2 ▸ one_of H hm stD.1 stD.2.1 stD.2.2.1 stD.2.2.2 dD.1 dD.2.1 dD.2.2.1
theorem actE8 {w : World} {base cp ob gb : Nat} {M : AM KS OX} (h : CacheAt w base cp ob gb 4 M G8) (hm : mo M = m8c) (hb : base ≤ w.heap.size) :
    Calls Try.prog 44 #[.pointer (some ⟨cp, 0, none⟩), .agg #[.int .i64 3, .string ⟨#[]⟩, .string ⟨#[]⟩, .string ⟨#[]⟩, .int .i64 0, .string ⟨#[]⟩, .bool false, .bool false, .slice none 0 0, .int .i64 6, .slice none 0 0]] w (fun e w' => ∃ ob gb M' C n c, e = .returned (.tuple #[.slice C n c, .int .i64 0]) ∧ CacheAt w' base cp ob gb 6 M' [] ∧ mo M' = m8c ∧ Kept (fun k => k = cp) w w') := by
  have hl : M.length ≤ 1000 := by rw [← mo_len, hm]; first | exact Nat.le_trans len_8b (by omega) | exact Nat.le_trans len_8c (by omega) | (unfold m8a; simp) | simp
  refine (capply_calls w h (hm ▸ in8c) hb 3 (o := zeroO) (sl := .slice none 0 0) 6 (ol := .slice none 0 0) (xs := []) (zeroO_S w) zeroO_small (objsS_nil w) (fun o ho => by cases ho) (by unfold in64; omega) (by unfold in64; omega) (by simp) hl (by first | simp | (unfold G8; simp))).mono ?_
  intro e w' H
  exact any_of H hm stE.1 stE.2.1 stE.2.2.1 stE.2.2.2
theorem actF8 {w : World} {base cp ob gb : Nat} {M : AM KS OX} (h : CacheAt w base cp ob gb 6 M []) (hm : mo M = m8c) (hb : base ≤ w.heap.size) :
    Calls Try.prog 44 #[.pointer (some ⟨cp, 0, none⟩), .agg #[.int .i64 0, .string ⟨#[112, 111, 100]⟩, .string ⟨#[97]⟩, .string ⟨#[121]⟩, .int .i64 4, .string ⟨#[]⟩, .bool false, .bool false, .slice none 0 0, .int .i64 0, .slice none 0 0]] w (fun e w' => e = .returned (.tuple #[.slice none 0 0, .int .i64 6]) ∧ Below w.heap.size w w') := by
  have hl : M.length ≤ 1000 := by rw [← mo_len, hm]; first | exact Nat.le_trans len_8b (by omega) | exact Nat.le_trans len_8c (by omega) | (unfold m8a; simp) | simp
  refine (capply_calls w h (hm ▸ in8e) hb 0 (o := q8) (sl := .slice none 0 0) 0 (ol := .slice none 0 0) (xs := []) (ob8_S w ky8 4 (by unfold in64; omega)) (sm8 ky8 4) (objsS_nil w) (fun o ho => by cases ho) (by unfold in64; omega) (by unfold in64; omega) (by simp) hl (by first | simp | (unfold G8; simp))).mono ?_
  intro e w' H
  exact no_of H hm stF (by decide)
set_option maxRecDepth 100000 in
set_option maxHeartbeats 8000000 in
theorem alive8_calls (w : World) : Calls Try.prog 42 #[] w fun e w' => e = .returned (.bool true) ∧ Below w.heap.size w w' := by
  go_enter Try.func42, Try.ntmps42
  go_upto_region 2 with (go_at_call 43; refine (cnew_calls _).mono ?_; rintro e w1 ⟨cp, ob1, gb1, rfl, hc, hb⟩; have H1 := Lib.hid hc; have HB1 := Lib.hid hb; clear hc hb)
  go_upto_region 4 with fail
  first | with_reducible refine name_wp ?_ | with_reducible refine name_calls ?_
  intro V1 hV
  have gO : V1.heap[w1.heap.size]? = some (.cells #[.string ⟨#[112, 111, 100]⟩, .string ⟨#[97]⟩, .string ⟨#[120]⟩, .int .i64 3, .string ⟨#[]⟩, .bool false, .bool false, .slice none 0 0] 27) := by rw [hV]; exact blk_old (blk_new w1 _) _
  have gP : V1.heap[w1.heap.size + 1]? = some (.cells #[.string ⟨#[112, 111, 100]⟩, .string ⟨#[97]⟩, .string ⟨#[120]⟩, .int .i64 3, .string ⟨#[]⟩, .bool false, .bool false, .slice none 0 0] 27) := by rw [hV]; exact blk_new1 w1 _ _
  have hbV : Below w1.heap.size w1 V1 := by rw [hV]; exact ((Below.refl _ _).alloc (Nat.le_refl _) _).alloc (by simp) _
  have hzV : V1.heap.size = w1.heap.size + 2 := by rw [hV]; simp
  clear hV
  have HO1 := Lib.hid gO; have HP1 := Lib.hid gP; have HZ1 := Lib.hid hzV; have HBV1 := Lib.hid hbV
  have p3 := blk_cell gP 3
  have fp := blk_free gP 3
  clear gO gP hzV hbV
  go_upto_region 6 with fail
  first | with_reducible refine name_wp ?_ | with_reducible refine name_calls ?_
  intro V hV
  have HXo2 := Lib.hid (show V.heap[w1.heap.size]? = some (.cells #[.string ⟨#[112, 111, 100]⟩, .string ⟨#[97]⟩, .string ⟨#[120]⟩, .int .i64 3, .string ⟨#[]⟩, .bool false, .bool false, .slice none 0 0] 27) by rw [hV]; exact blk_old ((kept_cell V1 (w1.heap.size + 1) 3 _).heap HO1.out (by omega)) _)
  have HXp2 := Lib.hid (show V.heap[w1.heap.size + 1]? = some (.cells #[.string ⟨#[112, 111, 100]⟩, .string ⟨#[97]⟩, .string ⟨#[120]⟩, .int .i64 5, .string ⟨#[]⟩, .bool false, .bool false, .slice none 0 0] 27) by rw [hV]; exact blk_old (heap_setCell_same _ (w1.heap.size + 1) 3 _ _ _ HP1.out) _)
  have HXq2 := Lib.hid (show V.heap[V1.heap.size]? = some (.cells #[.string ⟨#[112, 111, 100]⟩, .string ⟨#[97]⟩, .string ⟨#[121]⟩, .int .i64 4, .string ⟨#[]⟩, .bool false, .bool false, .slice none 0 0] 27) by rw [hV]; exact blk_newAt _ _ (by simp))
  have hbV : Below w1.heap.size w1 V := by rw [hV]; exact (HBV1.out.trans ((kept_cell V1 (w1.heap.size + 1) 3 _).below HBV1.out.size (fun k e => by subst e; omega))).alloc (by simp; exact HBV1.out.size) _
  clear hV p3 fp
  have H2 := Lib.hid (H1.out.below hbV)
  have HB2 := Lib.hid (bl_next HB1.out hbV)
  clear hbV
  have a0 := blk_cell HXp2.out 0
  have a1 := blk_cell HXp2.out 1
  have a2 := blk_cell HXp2.out 2
  have a3 := blk_cell HXp2.out 3
  have a4 := blk_cell HXp2.out 4
  have a5 := blk_cell HXp2.out 5
  have a6 := blk_cell HXp2.out 6
  have a7 := blk_cell HXp2.out 7
  go_upto_region 7 with (go_at_call 44; refine (actA8 H2.out rfl (HB2.out.size)).mono ?_; rintro e w3 ⟨ob3, gb3, M3, g3, c3, x3, y3, rfl, hc, hmo, hge, hda, hk⟩; have H3 := Lib.hid hc; have HM3 := Lib.hid hmo; have HK3 := Lib.hid hk; have HG3 := Lib.hid hge; have HD3 := Lib.hid hda; clear hc hmo hge hda hk)
  clear a0 a1 a2 a3 a4 a5 a6 a7
  have HXo3 := Lib.hid (CacheAt.boxK H2.out HXo2.out HK3.out)
  have HXp3 := Lib.hid (CacheAt.boxK H2.out HXp2.out HK3.out)
  have HXq3 := Lib.hid (CacheAt.boxK H2.out HXq2.out HK3.out)
  have HB3 := Lib.hid (HB2.out.trans (H2.out.toB HK3.out HB2.out.size (Nat.le_refl _)))
  have HN3 := Lib.hid (show g3 ≠ cp by have := H2.out.ptr; have := HG3.out; omega)
  have a0 := blk_cell HXo3.out 0
  have a1 := blk_cell HXo3.out 1
  have a2 := blk_cell HXo3.out 2
  have a3 := blk_cell HXo3.out 3
  have a4 := blk_cell HXo3.out 4
  have a5 := blk_cell HXo3.out 5
  have a6 := blk_cell HXo3.out 6
  have a7 := blk_cell HXo3.out 7
  go_upto_region 8 with (go_at_call 44; refine (actB8 H3.out HM3.out (HB3.out.size)).mono ?_; rintro e w4 ⟨rfl, hb⟩; have HBS4 := Lib.hid hb; clear hb)
  clear a0 a1 a2 a3 a4 a5 a6 a7
  have HXo4 := Lib.hid (blk_below HXo3.out HBS4.out)
  have HXp4 := Lib.hid (blk_below HXp3.out HBS4.out)
  have HXq4 := Lib.hid (blk_below HXq3.out HBS4.out)
  have H4 := Lib.hid (H3.out.below HBS4.out); have HB4 := Lib.hid (bl_next HB3.out HBS4.out); have HD4 := Lib.hid (delta_below HD3.out HBS4.out)
  have a0 := blk_cell HXq4.out 0
  have a1 := blk_cell HXq4.out 1
  have a2 := blk_cell HXq4.out 2
  have a3 := blk_cell HXq4.out 3
  have a4 := blk_cell HXq4.out 4
  have a5 := blk_cell HXq4.out 5
  have a6 := blk_cell HXq4.out 6
  have a7 := blk_cell HXq4.out 7
  go_upto_region 9 with (go_at_call 44; (first | with_reducible refine name_wp ?_ | with_reducible refine name_calls ?_); intro U hU; have gU := (show U.heap[w4.heap.size]? = some (.cells #[.string ⟨#[112, 111, 100]⟩, .string ⟨#[97]⟩, .string ⟨#[121]⟩, .int .i64 4, .string ⟨#[]⟩, .bool false, .bool false, .slice none 0 0] 27) by rw [hU]; exact blk_new w4 _); have hbU := (show Below w4.heap.size w4 U by rw [hU]; exact (Below.refl _ _).alloc (Nat.le_refl _) _); clear hU; have HBS5 := Lib.hid hbU; have H5 := Lib.hid (H4.out.below hbU); have HB5 := Lib.hid (bl_next HB4.out hbU); refine (actC8 H5.out HM3.out (HB5.out.size) gU).mono ?_; clear gU hbU; rintro e w6 ⟨ob6, gb6, M6, g6, c6, x6, y6, rfl, hc, hmo, hge, hda, hk⟩; have H6 := Lib.hid hc; have HM6 := Lib.hid hmo; have HK6 := Lib.hid hk; have HG6 := Lib.hid hge; have HD6 := Lib.hid hda; clear hc hmo hge hda hk)
  clear a0 a1 a2 a3 a4 a5 a6 a7
  have HXo5 := Lib.hid (blk_below HXo4.out HBS5.out)
  have HXp5 := Lib.hid (blk_below HXp4.out HBS5.out)
  have HXq5 := Lib.hid (blk_below HXq4.out HBS5.out)
  have HXo6 := Lib.hid (CacheAt.boxK H5.out HXo5.out HK6.out)
  have HXp6 := Lib.hid (CacheAt.boxK H5.out HXp5.out HK6.out)
  have HXq6 := Lib.hid (CacheAt.boxK H5.out HXq5.out HK6.out)
  have HB6 := Lib.hid (HB5.out.trans (H5.out.toB HK6.out HB5.out.size (Nat.le_refl _)))
  have HN6 := Lib.hid (show g6 ≠ cp by have := H5.out.ptr; have := HG6.out; omega)
  have HD6a := Lib.hid (delta_kept (delta_below HD4.out HBS5.out) HK6.out HN3.out)
  have a0 := blk_cell HXo6.out 0
  have a1 := blk_cell HXo6.out 1
  have a2 := blk_cell HXo6.out 2
  go_upto_region 10 with (go_at_call 44; refine (actD8 H6.out HM6.out (HB6.out.size)).mono ?_; rintro e w7 ⟨ob7, gb7, M7, g7, c7, x7, y7, rfl, hc, hmo, hge, hda, hk⟩; have H7 := Lib.hid hc; have HM7 := Lib.hid hmo; have HK7 := Lib.hid hk; have HG7 := Lib.hid hge; have HD7 := Lib.hid hda; clear hc hmo hge hda hk)
  clear a0 a1 a2
  have HXo7 := Lib.hid (CacheAt.boxK H6.out HXo6.out HK7.out)
  have HXp7 := Lib.hid (CacheAt.boxK H6.out HXp6.out HK7.out)
  have HXq7 := Lib.hid (CacheAt.boxK H6.out HXq6.out HK7.out)
  have HB7 := Lib.hid (HB6.out.trans (H6.out.toB HK7.out HB6.out.size (Nat.le_refl _)))
  have HN7 := Lib.hid (show g7 ≠ cp by have := H6.out.ptr; have := HG7.out; omega)
  have HD7a := Lib.hid (delta_kept HD6a.out HK7.out HN3.out); have HD7c := Lib.hid (delta_kept HD6.out HK7.out HN6.out)
  go_upto_region 11 with (go_at_call 49; refine (graves8 H7.out).mono ?_; rintro e w8 ⟨A8, c8, rfl, hb⟩; have HBS8 := Lib.hid hb; clear hb)
  have HXo8 := Lib.hid (blk_below HXo7.out HBS8.out)
  have HXp8 := Lib.hid (blk_below HXp7.out HBS8.out)
  have HXq8 := Lib.hid (blk_below HXq7.out HBS8.out)
  have H8 := Lib.hid (H7.out.below HBS8.out); have HB8 := Lib.hid (bl_next HB7.out HBS8.out); have HD8a := Lib.hid (delta_below HD7a.out HBS8.out); have HD8c := Lib.hid (delta_below HD7c.out HBS8.out); have HD8d := Lib.hid (delta_below HD7.out HBS8.out)
  go_upto_region 12 with (go_at_call 44; refine (actE8 H8.out HM7.out (HB8.out.size)).mono ?_; rintro e w9 ⟨ob9, gb9, M9, C9, n9, c9, rfl, hc, hmo, hk⟩; have H9 := Lib.hid hc; have HM9 := Lib.hid hmo; have HK9 := Lib.hid hk; clear hc hmo hk)
  have HXo9 := Lib.hid (CacheAt.boxK H8.out HXo8.out HK9.out)
  have HXp9 := Lib.hid (CacheAt.boxK H8.out HXp8.out HK9.out)
  have HXq9 := Lib.hid (CacheAt.boxK H8.out HXq8.out HK9.out)
  have HB9 := Lib.hid (HB8.out.trans (H8.out.toB HK9.out HB8.out.size (Nat.le_refl _)))
  have HD9a := Lib.hid (delta_kept HD8a.out HK9.out HN3.out); have HD9c := Lib.hid (delta_kept HD8c.out HK9.out HN6.out); have HD9d := Lib.hid (delta_kept HD8d.out HK9.out HN7.out)
  have a0 := blk_cell HXq9.out 0
  have a1 := blk_cell HXq9.out 1
  have a2 := blk_cell HXq9.out 2
  have a3 := blk_cell HXq9.out 3
  have a4 := blk_cell HXq9.out 4
  have a5 := blk_cell HXq9.out 5
  have a6 := blk_cell HXq9.out 6
  have a7 := blk_cell HXq9.out 7
  go_upto_region 13 with (go_at_call 44; refine (actF8 H9.out HM9.out (HB9.out.size)).mono ?_; rintro e w10 ⟨rfl, hb⟩; have HBS10 := Lib.hid hb; clear hb)
  clear a0 a1 a2 a3 a4 a5 a6 a7
  have HXo10 := Lib.hid (blk_below HXo9.out HBS10.out)
  have HXp10 := Lib.hid (blk_below HXp9.out HBS10.out)
  have HXq10 := Lib.hid (blk_below HXq9.out HBS10.out)
  have H10 := Lib.hid (H9.out.below HBS10.out); have HB10 := Lib.hid (bl_next HB9.out HBS10.out)
  have HD10a := Lib.hid (delta_below HD9a.out HBS10.out); have HD10c := Lib.hid (delta_below HD9c.out HBS10.out); have HD10d := Lib.hid (delta_below HD9d.out HBS10.out)
  have q0 := blk_cell HXq10.out 0; have q1 := blk_cell HXq10.out 1; have q2 := blk_cell HXq10.out 2
  have o0 := blk_cell HXo10.out 0; have o1 := blk_cell HXo10.out 1; have o2 := blk_cell HXo10.out 2
  have a3 : w10.cell? ⟨g3, 3, none⟩ = some (.bool false) := HD10a.out 3 _ rfl
  have a4 : w10.cell? ⟨g3, 4, none⟩ = some (.bool true) := HD10a.out 4 _ rfl
  have b16 : w10.cell? ⟨g6, 16, none⟩ = some (.int .i64 4) := HD10c.out 16 _ rfl
  have d8 : w10.cell? ⟨g7, 8, none⟩ = some (.int .i64 5) := HD10d.out 8 _ rfl
  go_wp2_with (first
    | (go_at_call 50; refine (get8 H10.out HM9.out).mono ?_; rintro e w11 ⟨g11, rfl, hb⟩; have H11 := Lib.hid (H10.out.below hb); have HB11 := Lib.hid (bl_next HB10.out hb); have o0 := cb hb o0; have o1 := cb hb o1; have o2 := cb hb o2; have a3 := (fun (oo : Obj) => cb ((Below.refl w11.heap.size w11).alloc (Nat.le_refl _) oo) (cb hb a3)); have a4 := (fun (oo : Obj) => cb ((Below.refl w11.heap.size w11).alloc (Nat.le_refl _) oo) (cb hb a4)); have b16 := (fun (oo : Obj) => cb ((Below.refl w11.heap.size w11).alloc (Nat.le_refl _) oo) (cb hb b16)); have d8 := (fun (oo : Obj) => cb ((Below.refl w11.heap.size w11).alloc (Nat.le_refl _) oo) (cb hb d8)); clear hb)
    | (go_at_call 49; (first | with_reducible refine name_wp ?_ | with_reducible refine name_calls ?_); intro X hX; have H12 := Lib.hid (show CacheAt X w.heap.size cp ob9 gb9 6 M9 [] by rw [hX]; exact H11.out.below ((Below.refl _ _).alloc (Nat.le_refl _) _)); have HBX := Lib.hid (show Below w.heap.size w X by rw [hX]; exact HB11.out.alloc HB11.out.size _); have x3 := (show X.cell? ⟨w11.heap.size, 3, none⟩ = some (.int .i64 4) by rw [hX]; exact blk_cell (blk_new w11 _) 3); have o0 := (show X.cell? ⟨w1.heap.size, 0, none⟩ = some (.string ⟨#[112, 111, 100]⟩) by rw [hX]; exact cb ((Below.refl _ _).alloc (Nat.le_refl _) _) o0); have o1 := (show X.cell? ⟨w1.heap.size, 1, none⟩ = some (.string ⟨#[97]⟩) by rw [hX]; exact cb ((Below.refl _ _).alloc (Nat.le_refl _) _) o1); have o2 := (show X.cell? ⟨w1.heap.size, 2, none⟩ = some (.string ⟨#[120]⟩) by rw [hX]; exact cb ((Below.refl _ _).alloc (Nat.le_refl _) _) o2); clear hX; refine (graves8n H12.out).mono ?_; rintro e w12 ⟨A12, c12, rfl, hb⟩; have H13 := Lib.hid (H12.out.below hb); have HB13 := Lib.hid (bl_next HBX.out hb); have o0 := cb hb o0; have o1 := cb hb o1; have o2 := cb hb o2; have x3 := cb hb x3; clear hb)
    | (go_at_call 52; refine (cfloor_calls _ H13.out).mono ?_; rintro e w13 ⟨rfl, hb⟩; have H14 := Lib.hid (H13.out.below hb); have HB14 := Lib.hid (bl_next HB13.out hb); have o0 := cb hb o0; have o1 := cb hb o1; have o2 := cb hb o2; clear hb)
    | (go_at_call 53; refine (known8 H14.out HM9.out).mono ?_; rintro e w14 ⟨rfl, hb⟩; have H15 := Lib.hid (H14.out.below hb); have HB15 := Lib.hid (bl_next HB14.out hb); clear hb)
    | (go_at_call 47; refine (objects8 H15.out HM9.out).mono ?_; rintro e w15 ⟨A15, c15, rfl, hb⟩; have HB16 := Lib.hid (bl_next HB15.out hb); clear hb))
  go_ret
  exact ⟨rfl, HB16.out⟩
end Go.Proofs.Ythhfcambdmdgfaa
namespace Go.Proofs.Ythhfcambdmdgfaa
open Go.RowKit Go.Maps Srt
set_option linter.unusedVariables false
set_option linter.unusedSimpArgs false
theorem exC_app (l : List EX) (p : EX) : exC (l ++ [p]) = exC l ++ exX p := by simp [exC]
theorem app_exl {ops : Array Oper} {rest : List Oper} {o : Oper} {a : Act} {Q : Exit → Act → World → Prop} {w : World} (hgd : o.guard = none) (s x : Operand)
    (ho : o.op = .call { callee := .builtin .append, args := #[s, x], argTypes := #[48, 48] })
    (base : Nat) (tb : TypeId) (v : Value) (n : Nat) (l : List EX) (kd : Int) (ob : ObjD) (vr : Int) (zs : List OX) (ao az : Option Addr) (n1 c1 n2 c2 : Nat) (hs : a.eval s = v) (hown : w.ownsRow base 30 11 v n (exC l)) (c : Nat) (hx : a.eval x = .slice (some ⟨w.heap.size, 0, none⟩) 1 c)
    (hbase : base ≤ w.heap.size) (hlen : n + 1 ≤ 100000000)
    (h : ∀ g cap w1, w1.ownsRow base 30 11 (.slice (some ⟨g, 0, none⟩) (n + 1) cap) (n + 1) (exC (l ++ [⟨kd, ob, .slice ao n1 c1, vr, .slice az n2 c2, zs⟩])) → Kept (fun k => v.ownBlock = some k) w w1 → (v.ownBlock = some g ∨ w.heap.size < g) → wpList Try.prog ops Q rest (a.put o.dst (.slice (some ⟨g, 0, none⟩) (n + 1) cap)) w1) :
    wpList Try.prog ops Q (o :: rest) a (w.alloc (.cells #[.int .i64 kd, .string ob.key.kind, .string ob.key.space, .string ob.key.name, .int .i64 ob.ver, .string ob.cls, .bool ob.term, .bool ob.best, .slice ao n1 c1, .int .i64 vr, .slice az n2 c2] tb)) := by
  obtain ⟨i0, hi, hz0, hz1, hz2⟩ := info_parts info_ev
  refine app_rw hgd s x _ ho base _ i0 _ 11 144 Try.underlying48 hi hz0 hz1 hz2 rfl (by decide) tb v n (exC l) [.int .i64 kd, .string ob.key.kind, .string ob.key.space, .string ob.key.name, .int .i64 ob.ver, .string ob.cls, .bool ob.term, .bool ob.best, .slice ao n1 c1, .int .i64 vr, .slice az n2 c2] hs hown c hx rfl (by simp [Value.oneCell']) hbase hlen (by decide) ?_
  intro g cap w1 h1 h2 h3
  refine h g cap w1 ?_ h2 h3
  rw [exC_app]
  exact h1
/-- A cache whose maps are as they must be. -/
structure CacheI (w : World) (base cp : Nat) (k : Nat) (ob gb : Nat) (fl : Int) (M : AM KS OX) (G : AM KS Int) : Prop where
  at_ : CacheAt w base cp ob gb fl M G
  inv : CIn (mo M) G fl
  len : M.length ≤ 1000
  lenG : G.length ≤ k
theorem CacheI.below {w w' : World} {base cp k ob gb : Nat} {fl : Int} {M : AM KS OX} {G : AM KS Int} (h : CacheI w base cp k ob gb fl M G) (hb : Below w.heap.size w w') : CacheI w' base cp k ob gb fl M G := ⟨h.at_.below hb, h.inv, h.len, h.lenG⟩
theorem CacheI.up {w : World} {base cp k k' ob gb : Nat} {fl : Int} {M : AM KS OX} {G : AM KS Int} (h : CacheI w base cp k ob gb fl M G) (hk : k ≤ k') : CacheI w base cp k' ob gb fl M G := ⟨h.at_, h.inv, h.len, Nat.le_trans h.lenG hk⟩
theorem CacheI.sm {w : World} {base cp k ob gb : Nat} {fl : Int} {M : AM KS OX} {G : AM KS Int} (h : CacheI w base cp k ob gb fl M G) : ∀ q ∈ M, objSmall q.2.1 := small_mo h.inv
/-- The objects of a cache, in their order. -/
noncomputable def sortM (m : AO) : List ObjD := srtX kTO (m.map (·.2))
theorem sortM_small {m : AO} {G : AM KS Int} {fl : Int} (h : CIn m G fl) : OSmall (sortM m) := fun o ho => by
  obtain ⟨q, hq, rfl⟩ := List.mem_map.1 (srtX_mem.1 ho)
  exact (h.objs q hq).2.2.2
theorem sortM_len (m : AO) : (sortM m).length = m.length := by unfold sortM; rw [srtX_len, List.length_map]
theorem cobjI_calls (w : World) {base cp k ob gb : Nat} {fl : Int} {M : AM KS OX} {G : AM KS Int} (h : CacheI w base cp k ob gb fl M G) {n : Nat} (hn : M.length = n) :
    Calls Try.prog 47 #[.pointer (some ⟨cp, 0, none⟩)] w fun e w' => ∃ A c, e = .returned (.slice A n c) ∧ Hid (∃ zs, ObjsS w' (.slice A n c) zs ∧ ObjsF w' w.heap.size (.slice A n c) zs ∧ oxs zs = sortM (mo M) ∧ zs.length = n) ∧ Below w.heap.size w w' :=
  (cobjects_calls w h.at_ h.sm (by have := h.len; omega)).mono fun e w' ⟨A, c, zs, ks, h1, h2, h3, h4, h5, h6⟩ => by
    have e1 : oxs zs = sortM (mo M) := by
      rw [h3]
      have e : objOf M = obA (mo M) := by funext x; rw [obA_mo]
      rw [e]
      exact objs_srt h.inv.rise (fun q hq => ⟨(h.inv.objs q hq).1, (h.inv.objs q hq).2.1⟩) ⟨h4.1, fun x => by rw [h4.2 x, hasA_mo]⟩ h5
    have e2 : zs.length = n := by rw [← oxs_len, e1, sortM_len, mo_len, hn]
    subst e2
    refine ⟨A, c, h1, Lib.hid ⟨zs, ?_, h2, e1, rfl⟩, h6⟩
    refine h2.objsS (fun p hp => ?_)
    have hm : p.1 ∈ oxs zs := List.mem_map.2 ⟨p, hp, rfl⟩
    rw [e1] at hm
    obtain ⟨q, hq, hqe⟩ := List.mem_map.1 (srtX_mem.1 hm)
    obtain ⟨r, hr, rfl⟩ := List.mem_map.1 hq
    rw [← hqe]
    exact (h.at_.resM r hr).2.1
/-- What an event leaves, in one form. -/
def AppI (w : World) (base cp k : Nat) (fl : Int) (m : AO) (G : AM KS Int) (E : EvD) (er : Int) (w' : World) : Prop :=
  (er ≠ 0 ∧ Below w.heap.size w w') ∨ (er = 0 ∧ ∃ ob gb M' G', CacheI w' base cp (k + 1) ob gb (nextF E fl) M' G' ∧ mo M' = nextM E fl m G ∧ G' = nextG E fl G ∧ Kept (fun k => k = cp) w w')
theorem cappI_calls (w : World) {base cp k ob gb : Nat} {fl : Int} {M : AM KS OX} {G : AM KS Int} (h : CacheI w base cp k ob gb fl M G) (hbase : base ≤ w.heap.size) (hk : k ≤ 1000) {p : EX} (hp : EvS w p) (hs : objSmall p.ob ∧ OSmall (oxs p.xs) ∧ p.xs.length ≤ 60) {er : Int} (he : appErr p.ev fl (mo M) G = er) :
    Calls Try.prog 44 #[.pointer (some ⟨cp, 0, none⟩), evV p.kd p.ob p.sl p.vr p.ol] w fun e w' => ∃ A n c, e = .returned (.tuple #[.slice A n c, .int .i64 er]) ∧ AppI w base cp k fl (mo M) G p.ev er w' := by
  subst he
  refine (capply_calls w h.at_ h.inv hbase p.kd p.vr hp.obj hs.1 hp.objs hs.2.1 hp.kin hp.vin (by have := hs.2.2; omega) h.len (by have := h.lenG; omega)).mono ?_
  rintro e w' (⟨h1, h2, h3⟩ | ⟨h1, ob', gb', M', G', C, c, zs, ks, h2, h3, h4, h5, h6, h7, h8, h9, h10, h11, h12, h13⟩)
  · exact ⟨_, _, _, h2, .inl ⟨h1, h3⟩⟩
  · refine ⟨C, zs.length, c, ?_, .inr ⟨h1, ob', gb', M', G', ⟨h3, ?_, h6, by have := h.lenG; omega⟩, h4, h5, h13⟩⟩
    · rw [h2, show appErr p.ev fl (mo M) G = 0 from h1]
    · rw [h4, h5]
      exact h.inv.next (app_right h1).1 (app_right h1).2.1 hs.1 hs.2.1
theorem ex_at {w : World} {v : Value} {xs : List EX} (h : SliS w v 11 xs.length (exC xs)) {k : Nat} (hk : k < xs.length) : ∃ b off c, v = .slice (some ⟨b, off, none⟩) xs.length c ∧ EvAt w b (off + k * 11) (xs[k]'hk).kd (xs[k]'hk).ob (xs[k]'hk).sl (xs[k]'hk).vr (xs[k]'hk).ol := by
  obtain ⟨b, off, c, hv, _, hx⟩ := h.at' hk
  refine ⟨b, off, c, hv, ?_⟩
  have z : ∀ j, j < 11 → ∀ u, (exX (xs[k]'hk))[j]? = some u → w.cell? ⟨b, off + k * 11 + j, none⟩ = some u := fun j hj u e => hx j hj u (by rw [show exC xs = xs.flatMap exX from rfl, flat_at exX 11 (fun _ => rfl) xs k hk j hj]; exact e)
  exact ⟨z 0 (by omega) _ rfl, z 1 (by omega) _ rfl, z 2 (by omega) _ rfl, z 3 (by omega) _ rfl, z 4 (by omega) _ rfl, z 5 (by omega) _ rfl, z 6 (by omega) _ rfl, z 7 (by omega) _ rfl, z 8 (by omega) _ rfl, z 9 (by omega) _ rfl, z 10 (by omega) _ rfl⟩
theorem objsE_below {w w' : World} {v : Value} {l : List ObjD} {n : Nat} (h : ∃ zs, ObjsS w v zs ∧ oxs zs = l ∧ zs.length = n) (hb : Below w.heap.size w w') : ∃ zs, ObjsS w' v zs ∧ oxs zs = l ∧ zs.length = n := by
  obtain ⟨zs, h1, h2⟩ := h
  exact ⟨zs, h1.below hb, h2⟩
theorem robjI_calls (w : World) {A B : Option Addr} {n c m d : Nat} {l l' : List ObjD} (h1 : ∃ zs, ObjsS w (.slice A n c) zs ∧ oxs zs = l ∧ zs.length = n) (h2 : ∃ zs, ObjsS w (.slice B m d) zs ∧ oxs zs = l' ∧ zs.length = m) (hl : OSmall l ∧ OSmall l' ∧ n ≤ 1000 ∧ m ≤ 1000) :
    Calls Try.prog 18 #[.slice A n c, .slice B m d] w fun e w' => e = .returned (.bool (decide (l = l'))) ∧ Below w.heap.size w w' := by
  obtain ⟨xs, a1, rfl, a3⟩ := h1
  obtain ⟨ys, b1, rfl, b3⟩ := h2
  exact robjs_calls w a1 b1 (by have := hl.2.2.1; omega) (by have := hl.2.2.2; omega) hl.1 hl.2.1
theorem CacheAt.keptX {X : Nat → Prop} {w w' : World} {base cp ob gb : Nat} {fl : Int} {M : AM KS OX} {G : AM KS Int} (h : CacheAt w base cp ob gb fl M G) (hk : Kept X w w') (h1 : ¬ X cp) (h2 : ¬ X ob) (h3 : ¬ X gb) (h4 : ∀ k, X k → ∀ c, w.heap[k]? = some (.cells c 112) → False) : CacheAt w' base cp ob gb fl M G :=
  ⟨hk.heap h.cell h1, h.objs.kept hk h2, mv_kept h.graves hk h3, ResM.kept h.resM hk h4, h.ints, h.ge, h.ne⟩
theorem CacheI.row {w w' : World} {base cp k ob gb : Nat} {fl : Int} {M : AM KS OX} {G : AM KS Int} {b n : Nat} {v : Value} {cs : List Value} (h : CacheI w base cp k ob gb fl M G) (hr : w.ownsRow b 30 11 v n cs) (hk : Kept (fun k => v.ownBlock = some k) w w') : CacheI w' base cp k ob gb fl M G :=
  ⟨h.at_.keptX hk (rw_other hr h.at_.cell (by decide)) (fun e => by
    obtain ⟨_, cs, hc⟩ := rw_type hr e
    exact mv_other h.at_.objs hc rfl) (fun e => by
    obtain ⟨_, cs, hc⟩ := rw_type hr e
    exact mv_other h.at_.graves hc rfl) (fun k e c hc => rw_other hr hc (by decide) e), h.inv, h.len, h.lenG⟩
theorem app_one {e : EvD} {fl : Int} {m : AO} {G : AM KS Int} : appErr e fl m G = 1 ↔ rightE e = false := by
  unfold appErr
  cases hr : rightE e with
  | false => simp
  | true =>
    rw [if_neg (by decide)]
    constructor
    · intro h
      exfalso
      by_cases hs : staleP e fl m G = true
      · rw [if_pos hs] at h; cases h
      · rw [if_neg hs] at h
        by_cases hl : 1000 < (nextM e fl m G).length
        · rw [if_pos hl] at h; cases h
        · rw [if_neg hl] at h; cases h
    · intro h; cases h
end Go.Proofs.Ythhfcambdmdgfaa

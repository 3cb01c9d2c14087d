import Derived.Test.YthhfcambdmdgfaaKstak
import Derived.Test.YthhfcambdmdgfaaKstan
namespace Go.Proofs.Ythhfcambdmdgfaa
open Go.RowKit Go.Maps Srt
set_option linter.unusedVariables false
set_option linter.unusedSimpArgs false
theorem objOf_put (M : AM KS OX) (k : KS) (v : OX) : objOf (putA ltKS M k v) k = v.1 := by unfold objOf; rw [getA_put, if_pos rfl]; rfl
structure ActIs (M : AM KS OX) (n : Int) (k : KS) (gone : Bool) (o : ObjD) (M1 : AM KS OX) : Prop where
  inv : PInv M1 (n + 1)
  has : hasA M1 k = !gone
  obj : gone = false → objOf M1 k = { o with ver := n + 1 }
  right : rightE ⟨wKind gone, { wObj gone o with ver := n + 1 }, 0, []⟩ = true
  small : objSmall (wObj gone o)
  len : M1.length ≤ M.length + 1
  key : (wObj gone o).key = o.key
theorem act_is {M : AM KS OX} {n : Int} {k : KS} {gone : Bool} {o : ObjD} (y : Value) (h : PInv M n) (hk : k.1 = o.key) (hs : objSmall o) (hn : 0 ≤ n) (he : wErr M k gone o = 0) : ActIs M n k gone o (wMap M k gone o n y) := by
  cases gone with
  | true =>
    have e1 : keyOk k.1 = true := by
      cases q : keyOk k.1 with
      | true => rfl
      | false => unfold wErr delErr at he; rw [if_pos rfl, q] at he; cases he
    refine ⟨h.del, has_del _ _, (fun q => by cases q), ?_, ⟨hs.1, (show (ByteArray.mk #[]).size ≤ 1000 by decide), (show (0:Nat) ≤ 300 by omega), by rintro p ⟨⟩⟩, Nat.le_trans (del_le _ _) (Nat.le_succ _), rfl⟩
    unfold rightE wKind wObj
    rw [if_pos rfl]
    rw [if_neg (show ¬ ((1 : Int) = 0) by decide), if_pos rfl]
    rw [if_pos rfl]
    rw [hk] at e1
    rw [Bool.and_eq_true]
    exact ⟨e1, decide_eq_true (show (1 : Int) ≤ n + 1 by omega)⟩
  | false =>
    have e1 : rightO { o with ver := 1 } = true := by
      cases q : rightO { o with ver := 1 } with
      | true => rfl
      | false => unfold wErr putErr at he; rw [if_neg (by decide), q] at he; cases he
    refine ⟨h.put e1 hk hs hn, has_put _ _ _, (fun _ => objOf_put _ _ _), rightO_ver e1 (by omega), hs, put_le _ _ _ _, rfl⟩
theorem y_at {w : World} {v : Value} {ys : List LY} (h : SliS w v 11 ys.length (yC ys)) {k : Nat} (hk : k < ys.length) : ∃ b off c, v = .slice (some ⟨b, off, none⟩) ys.length c ∧ EvAt w b (off + k * 11) (ys[k]'hk).1.1 (ys[k]'hk).1.2.1 (ys[k]'hk).1.2.2 0 (ys[k]'hk).2 := by
  obtain ⟨b, off, c, he, _, hx⟩ := h.at' hk
  have z : ∀ j u, j < 11 → (yX (ys[k]'hk))[j]? = some u → w.cell? ⟨b, off + k * 11 + j, none⟩ = some u := fun j u hj e => hx j hj u (by rw [show yC ys = ys.flatMap yX from rfl, flat_at yX 11 (fun _ => rfl) ys k hk j hj]; exact e)
  exact ⟨b, off, c, he, ⟨z 0 _ (by omega) rfl, z 1 _ (by omega) rfl, z 2 _ (by omega) rfl, z 3 _ (by omega) rfl, z 4 _ (by omega) rfl, z 5 _ (by omega) rfl, z 6 _ (by omega) rfl, z 7 _ (by omega) rfl, z 8 _ (by omega) rfl, z 9 _ (by omega) rfl, z 10 _ (by omega) rfl⟩⟩
theorem ly_len {ys : List LY} {L : List LX} (h : lyOf ys = lxOf L) : ys.length = L.length := by
  have := congrArg List.length h
  simpa [lyOf, lxOf] using this
theorem slogN_calls (w : World) {base sp mb : Nat} {ver : Int} {M : AM KS OX} {lv : Value} {L : List LX} {m : Nat} (h : StoreAt w base sp mb ver M lv L) (hS : ∀ e ∈ L, objSmall e.2.1) (hL : L.length ≤ 1000000) (hm : L.length = m) :
    Calls Try.prog 38 #[.pointer (some ⟨sp, 0, none⟩)] w fun e w' => ∃ A c, e = .returned (.slice A m c) ∧ Hid (∃ ys, LogF w' w.heap.size (.slice A m c) ys ∧ lyOf ys = lxOf L) ∧ Below w.heap.size w w' :=
  (slog_calls w h hS hL).mono fun e w' ⟨v, ys, h1, h2, h3, h4⟩ => by
    have hl := ly_len h3
    obtain ⟨A, c, rfl⟩ := rw_form h2.row
    rw [hl, hm] at h1 h2
    exact ⟨A, c, h1, Lib.hid ⟨ys, h2, h3⟩, h4⟩
/-- The snapshot may be. -/
theorem PInv.snap {M : AM KS OX} {n : Int} (h : PInv M n) (hn : 0 ≤ n) (hM : M.length ≤ 1000) : rightE ⟨2, zeroO, n, srtX kTO (M.map (·.2.1))⟩ = true := by
  unfold rightE
  rw [if_neg (show ¬ ((2 : Int) = 0) by decide), if_neg (show ¬ ((2 : Int) = 1) by decide), if_pos rfl]
  unfold relB
  rw [Bool.and_eq_true, Bool.and_eq_true, okL_iff]
  refine ⟨⟨⟨fun o ho => ?_, ?_⟩, decide_eq_true hn⟩, decide_eq_true (by rw [srtX_len, List.length_map]; exact hM)⟩
  · obtain ⟨q, hq, rfl⟩ := List.mem_map.1 (srtX_mem.1 ho)
    obtain ⟨_, _, h3, h4, _⟩ := h.2 q hq
    unfold relP
    rw [h3, decide_eq_true h4]; rfl
  · have hp : (M.map (·.2.1)).Perm (srtX kTO (M.map (·.2.1))) := stab_perm (Stab_symm (srtX_stab _))
    have n1 := (hp.map kTO).nodup_iff.1 h.texts
    rw [List.Nodup, List.pairwise_map] at n1
    exact ((srtX_srt (t := kTO) (M.map (·.2.1))).and n1).imp (fun {a b} q => by
      rcases ltB_total q.2 with r | r
      · exact r
      · rw [q.1] at r; cases r)
end Go.Proofs.Ythhfcambdmdgfaa
namespace Go.Proofs.Ythhfcambdmdgfaa
open Go.RowKit Go.Maps Srt
set_option linter.unusedVariables false
set_option linter.unusedSimpArgs false
theorem act9_err {w : World} {base sp mb : Nat} {ver : Int} {M1 : Value → AM KS OX} {lv : Value} {L : List LX} {kd : Int} {o : ObjD} {er : Int} {vv er' : Int} {w' : World} (h : Act9 w base sp mb ver M1 lv L kd o er (.returned (.tuple #[.int .i64 vv, .int .i64 er'])) w') (he : er ≠ 0) : vv = 0 ∧ Below w.heap.size w w' := by
  obtain ⟨h1, h2⟩ := act9_no h he
  simp only [Ending.returned.injEq, Value.tuple.injEq, Array.mk.injEq, List.cons.injEq, Value.int.injEq, true_and, and_true] at h1
  exact ⟨h1.1, h2⟩
theorem act9_did {w : World} {base sp mb : Nat} {ver : Int} {M1 : Value → AM KS OX} {lv : Value} {L : List LX} {kd : Int} {o : ObjD} {er : Int} {vv er' : Int} {w' : World} (h : Act9 w base sp mb ver M1 lv L kd o er (.returned (.tuple #[.int .i64 vv, .int .i64 er'])) w') (he : er = 0) :
    vv = ver + 1 ∧ ∃ lv' x y, StoreAt w' base sp mb (ver + 1) (M1 y) lv' (L ++ [(kd, ({ o with ver := ver + 1 }, x))]) ∧ Kept (fun b => b = sp ∨ b = mb ∨ lv.ownBlock = some b) w w' := by
  rcases h with ⟨h1, _⟩ | ⟨_, lv', x, y, h2, h3, h4⟩
  · exact absurd he h1
  · simp only [Ending.returned.injEq, Value.tuple.injEq, Array.mk.injEq, List.cons.injEq, Value.int.injEq, true_and, and_true] at h2
    exact ⟨h2.1, lv', x, y, h3, h4⟩
def HoldsS (w : World) (base sp mb : Nat) (n k : Nat) (M : AM KS OX) (lv : Value) (L : List LX) : Prop := StoreAt w base sp mb n M lv L ∧ PInv M n ∧ L.length = n ∧ n ≤ k ∧ M.length ≤ n ∧ ∀ e ∈ L, objSmall e.2.1
end Go.Proofs.Ythhfcambdmdgfaa
namespace Go.Proofs.Ythhfcambdmdgfaa
open Go.RowKit Go.Maps Srt
set_option linter.unusedVariables false
set_option linter.unusedSimpArgs false
def evL (e : Int × ObjD) : EvD := ⟨e.1, e.2, 0, []⟩
noncomputable def stepLog (s : AO × AM KS Int) (e : Int × ObjD) : AO × AM KS Int := (nextM (evL e) 0 s.1 s.2, nextG (evL e) 0 s.2)
noncomputable def runL (l : List (Int × ObjD)) : AO × AM KS Int := l.foldl stepLog ([], [])
theorem runL_snoc (l : List (Int × ObjD)) (e : Int × ObjD) : runL (l ++ [e]) = stepLog (runL l) e := by unfold runL; rw [List.foldl_append]; rfl
/-- A log: Puts and Deletes that may be, with the versions 1, 2, .. -/
def ToldL (l : List (Int × ObjD)) : Prop := ∀ i (h : i < l.length), ((l[i]'h).1 = 0 ∨ (l[i]'h).1 = 1) ∧ rightE (evL (l[i]'h)) = true ∧ (l[i]'h).2.ver = (i : Int) + 1 ∧ objSmall (l[i]'h).2
theorem told_nil : ToldL [] := fun i h => absurd h (Nat.not_lt_zero _)
theorem told_snoc {l : List (Int × ObjD)} (h : ToldL l) {e : Int × ObjD} (hk : e.1 = 0 ∨ e.1 = 1) (hr : rightE (evL e) = true) (hv : e.2.ver = (l.length : Int) + 1) (hs : objSmall e.2) : ToldL (l ++ [e]) := by
  intro i hi
  by_cases hl : i < l.length
  · rw [List.getElem_append_left hl]; exact h i hl
  · rw [List.length_append, List.length_singleton] at hi
    obtain rfl : i = l.length := by omega
    rw [List.getElem_append_right (Nat.le_refl _)]
    simp only [Nat.sub_self, List.getElem_cons_zero]
    exact ⟨hk, hr, hv, hs⟩
theorem verG_drop2 {G : AM KS Int} (h : RiseA ltKS G) (f : Int) (k : KS) : verG (dropG G fun _ v => decide (v ≤ f)) k = verG G k ∨ verG (dropG G fun _ v => decide (v ≤ f)) k = 0 := by
  unfold verG
  rw [getA_drop (keys_nodup strictKS h) k]
  cases getA G k with
  | none => exact .inl rfl
  | some v =>
    by_cases hv : v ≤ f
    · right; simp [hv]
    · left; simp [hv]
/-- What holds of the state behind i events. -/
structure RunI (s : AO × AM KS Int) (i : Nat) : Prop where
  inv : CIn s.1 s.2 0
  kn : ∀ k, knownP 0 s.1 s.2 k ≤ i
  len : s.1.length ≤ i
  lenG : s.2.length ≤ i
theorem run_step {s : AO × AM KS Int} {i : Nat} (h : RunI s i) {e : Int × ObjD} (hk : e.1 = 0 ∨ e.1 = 1) (hr : rightE (evL e) = true) (hv : e.2.ver = (i : Int) + 1) (hs : objSmall e.2) :
    RunI (stepLog s e) (i + 1) ∧ staleP (evL e) 0 s.1 s.2 = false ∧ nextF (evL e) 0 = 0 := by
  have hk' : (evL e).kind = 0 ∨ (evL e).kind = 1 := hk
  have hst : staleP (evL e) 0 s.1 s.2 = false := by
    unfold staleP
    rw [verE_ok hr, if_pos hk', if_pos hk']
    refine decide_eq_false ?_
    have := h.kn (kOf (evL e).obj)
    have e1 : (evL e).obj.ver = (i : Int) + 1 := hv
    omega
  have hf : nextF (evL e) 0 = 0 := by unfold nextF; rw [if_pos hk']
  have hI := h.inv.next hr hst hs (fun o ho => by cases ho)
  rw [hf] at hI
  refine ⟨⟨hI, fun k => ?_, ?_, ?_⟩, hst, hf⟩
  · have hkn := h.kn k
    rcases hk' with h0 | h1
    · have hM : nextM (evL e) 0 s.1 s.2 = putA ltKS s.1 (kOf e.2) e.2 := by unfold nextM; rw [if_pos h0]; rfl
      have hG : nextG (evL e) 0 s.2 = dropG (delA s.2 (kOf e.2)) fun _ v => decide (v ≤ nextF (evL e) 0) := by unfold nextG; rw [if_pos h0]; rfl
      show knownP 0 (nextM (evL e) 0 s.1 s.2) (nextG (evL e) 0 s.2) k ≤ _
      rw [hM, hG]
      have hd := verG_drop2 (rise_del strictKS h.inv.riseG (kOf e.2)) (nextF (evL e) 0) k
      rw [verG_del] at hd
      unfold knownP at hkn ⊢
      rw [obA_put]
      by_cases hx : k = kOf e.2
      · rw [if_pos hx] at hd ⊢; omega
      · rw [if_neg hx] at hd ⊢; omega
    · have h0 : ¬ (evL e).kind = 0 := by omega
      have hM : nextM (evL e) 0 s.1 s.2 = delA s.1 (kOf e.2) := by unfold nextM; rw [if_neg h0, if_pos h1]; rfl
      have hG : nextG (evL e) 0 s.2 = dropG (putA ltKS s.2 (kOf e.2) e.2.ver) fun _ v => decide (v ≤ nextF (evL e) 0) := by unfold nextG; rw [if_neg h0, if_pos h1]; rfl
      show knownP 0 (nextM (evL e) 0 s.1 s.2) (nextG (evL e) 0 s.2) k ≤ _
      rw [hM, hG]
      have hd := verG_drop2 (rise_put strictKS h.inv.riseG (kOf e.2) e.2.ver) (nextF (evL e) 0) k
      rw [verG_put] at hd
      unfold knownP at hkn ⊢
      rw [obA_del]
      by_cases hx : k = kOf e.2
      · rw [if_pos hx] at hd ⊢; rw [zeroO_ver]; omega
      · rw [if_neg hx] at hd ⊢; omega
  · have := h.len
    show (nextM (evL e) 0 s.1 s.2).length ≤ _
    unfold nextM
    rcases hk' with h0 | h1
    · rw [if_pos h0]; exact Nat.le_trans (put_le _ _ _ _) (by omega)
    · rw [if_neg (by omega), if_pos h1]; exact Nat.le_trans (del_le _ _) (by omega)
  · have := h.lenG
    show (nextG (evL e) 0 s.2).length ≤ _
    unfold nextG
    refine Nat.le_trans (drop_le _ _) ?_
    rcases hk' with h0 | h1
    · rw [if_pos h0]; exact Nat.le_trans (del_le _ _) (by omega)
    · rw [if_neg (by omega), if_pos h1]; exact Nat.le_trans (put_le _ _ _ _) (by omega)
theorem runI {l : List (Int × ObjD)} (h : ToldL l) : ∀ i, i ≤ l.length → RunI (runL (l.take i)) i
  | 0, _ => ⟨by simpa [runL] using CIn.nil, fun k => by simp [runL]; show max (max (0:Int) 0) 0 ≤ 0; omega, by simp [runL], by simp [runL]⟩
  | i + 1, hi => by
    have ih := runI h i (by omega)
    have hl : i < l.length := by omega
    rw [List.take_succ_eq_append_getElem hl, runL_snoc]
    obtain ⟨h1, h2, h3, h4⟩ := h i hl
    exact (run_step ih h1 h2 h3 h4).1
theorem run_next {l : List (Int × ObjD)} (h : ToldL l) {i : Nat} (hi : i < l.length) (hl : l.length ≤ 60) : appErr (evL (l[i]'hi)) 0 (runL (l.take i)).1 (runL (l.take i)).2 = 0 ∧ nextF (evL (l[i]'hi)) 0 = 0 ∧ nextM (evL (l[i]'hi)) 0 (runL (l.take i)).1 (runL (l.take i)).2 = (runL (l.take (i + 1))).1 ∧ nextG (evL (l[i]'hi)) 0 (runL (l.take i)).2 = (runL (l.take (i + 1))).2 := by
  obtain ⟨h1, h2, h3, h4⟩ := h i hi
  obtain ⟨r1, r2, r3⟩ := run_step (runI h i (by omega)) h1 h2 h3 h4
  have e : runL (l.take (i + 1)) = stepLog (runL (l.take i)) (l[i]'hi) := by rw [List.take_succ_eq_append_getElem hi, runL_snoc]
  refine ⟨?_, r3, by rw [e]; rfl, by rw [e]; rfl⟩
  unfold appErr
  rw [if_neg (by rw [h2]; decide), if_neg (by rw [r2]; decide), if_neg]
  have := r1.len
  have e2 : (nextM (evL (l[i]'hi)) 0 (runL (l.take i)).1 (runL (l.take i)).2).length ≤ i + 1 := r1.len
  omega
/-- An object that there is, and was put by then, was there then. -/
theorem run_back {l : List (Int × ObjD)} (h : ToldL l) (j : Nat) : ∀ i, j ≤ i → i ≤ l.length → ∀ k o, getA (runL (l.take i)).1 k = some o → o.ver ≤ j → getA (runL (l.take j)).1 k = some o
  | 0, hj, _, k, o, e, _ => by
    obtain rfl : j = 0 := by omega
    exact e
  | i + 1, hj, hi, k, o, e, hv => by
    by_cases hji : j = i + 1
    · subst hji; exact e
    · have hl : i < l.length := by omega
      refine run_back h j i (by omega) (by omega) k o ?_ hv
      rw [List.take_succ_eq_append_getElem hl, runL_snoc] at e
      obtain ⟨h1, h2, h3, h4⟩ := h i hl
      generalize runL (l.take i) = s at e
      generalize l[i]'hl = x at e h1 h2 h3 h4
      unfold stepLog nextM at e
      simp only at e
      rcases h1 with h0 | h1
      · rw [if_pos (show (evL x).kind = 0 from h0), getA_put] at e
        by_cases hx : k = kOf (evL x).obj
        · rw [if_pos hx] at e
          exfalso
          have e2 : (evL x).obj = o := by injection e
          have e3 : o.ver = (i : Int) + 1 := by rw [← e2]; exact h3
          omega
        · rw [if_neg hx] at e; exact e
      · rw [if_neg (show ¬ (evL x).kind = 0 by show ¬ x.1 = 0; omega), if_pos (show (evL x).kind = 1 from h1), getA_del] at e
        by_cases hx : k = kOf (evL x).obj
        · rw [if_pos hx] at e; cases e
        · rw [if_neg hx] at e; exact e
theorem known_ob {s : AO × AM KS Int} {i : Nat} (h : RunI s i) {k : KS} {o : ObjD} (e : getA s.1 k = some o) : o.ver ≤ i := by
  have := h.kn k
  unfold knownP obA at this
  rw [e] at this
  have e2 : ((some o).getD zeroO).ver = o.ver := rfl
  omega
theorem fold_put {fl : Int} {m : AO} {G : AM KS Int} : ∀ (l : List ObjD) (out : AO), (∀ o ∈ l, knownP fl m G (kOf o) < o.ver ∨ o.ver = (obA m (kOf o)).ver) → (l.map kOf).Nodup → (∀ o ∈ l, getA (l.foldl (stepR fl m G) out) (kOf o) = some o) ∧ ∀ k, k ∉ l.map kOf → getA (l.foldl (stepR fl m G) out) k = getA out k
  | [], out, _, _ => ⟨(fun o h => by cases h), fun k _ => rfl⟩
  | x :: r, out, hc, hn => by
    have hn' : kOf x ∉ r.map kOf ∧ (r.map kOf).Nodup := by simpa using hn
    obtain ⟨i1, i2⟩ := fold_put r (stepR fl m G out x) (fun o ho => hc o (List.mem_cons_of_mem _ ho)) hn'.2
    have hs : stepR fl m G out x = putA ltKS out (kOf x) x := by unfold stepR; rw [if_pos (hc x List.mem_cons_self)]
    refine ⟨fun o ho => ?_, fun k hk => ?_⟩
    · rcases List.mem_cons.1 ho with rfl | r1
      · show getA (r.foldl (stepR fl m G) (stepR fl m G out o)) (kOf o) = _
        rw [i2 _ hn'.1, hs, getA_put, if_pos rfl]
      · exact i1 o r1
    · show getA (r.foldl (stepR fl m G) (stepR fl m G out x)) k = _
      have hk' : k ≠ kOf x ∧ k ∉ r.map kOf := by simpa using hk
      rw [i2 _ hk'.2, hs, getA_put, if_neg hk'.1]
theorem inXs_iff {l : List ObjD} (hs : OSmall l) (k : KS) : inXs l k = true ↔ k ∈ l.map kOf := by
  unfold inXs
  rw [List.any_eq_true, List.mem_map]
  constructor
  · rintro ⟨o, ho, e⟩
    exact ⟨o, ho, Subtype.ext (by rw [kOf_key (hs o ho)]; exact of_decide_eq_true e)⟩
  · rintro ⟨o, ho, rfl⟩
    exact ⟨o, ho, decide_eq_true (by rw [kOf_key (hs o ho)])⟩
theorem kOf_of {m : AO} {G : AM KS Int} {fl : Int} (h : CIn m G fl) {q : KS × ObjD} (hq : q ∈ m) : kOf q.2 = q.1 := Subtype.ext (by rw [kOf_key (h.objs q hq).2.2.2]; exact (h.objs q hq).2.1.symm)
theorem sortM_keys {m : AO} {G : AM KS Int} {fl : Int} (h : CIn m G fl) : ((sortM m).map kOf).Nodup ∧ ∀ o, o ∈ sortM m ↔ getA m (kOf o) = some o := by
  have hp : (m.map (·.2)).Perm (sortM m) := stab_perm (Stab_symm (srtX_stab _))
  have e : (m.map (·.2)).map kOf = m.map (·.1) := by rw [List.map_map]; exact List.map_congr_left fun q hq => kOf_of h hq
  refine ⟨?_, fun o => ?_⟩
  · rw [← (hp.map kOf).nodup_iff, e]; exact keys_nodup strictKS h.rise
  · rw [← hp.mem_iff, List.mem_map, get_mem strictKS h.rise]
    constructor
    · rintro ⟨q, hq, rfl⟩; rw [kOf_of h hq]; exact hq
    · intro hq; exact ⟨_, hq, rfl⟩
/-- A snapshot makes of any state ahead of it what it lists. -/
theorem run_snap {l : List (Int × ObjD)} (h : ToldL l) {j : Nat} (hj : j ≤ l.length) : nextM ⟨2, zeroO, l.length, sortM (runL l).1⟩ 0 (runL (l.take j)).1 (runL (l.take j)).2 = (runL l).1 := by
  have hn : RunI (runL l) l.length := by have := runI h l.length (Nat.le_refl _); rwa [List.take_length] at this
  have hJ := runI h j hj
  obtain ⟨hk1, hk2⟩ := sortM_keys hn.inv
  have hsm := sortM_small hn.inv
  have hc : ∀ o ∈ sortM (runL l).1, knownP 0 (runL (l.take j)).1 (runL (l.take j)).2 (kOf o) < o.ver ∨ o.ver = (obA (runL (l.take j)).1 (kOf o)).ver := by
    intro o ho
    have e := (hk2 o).1 ho
    by_cases hv : o.ver ≤ j
    · right
      have e2 := run_back h j l.length hj (Nat.le_refl _) (kOf o) o (by rw [List.take_length]; exact e) hv
      unfold obA; rw [e2]; rfl
    · left
      have := hJ.kn (kOf o)
      omega
  obtain ⟨f1, f2⟩ := fold_put (sortM (runL l).1) (runL (l.take j)).1 hc hk1
  unfold nextM
  rw [if_neg (show ¬ ((2 : Int) = 0) by decide), if_neg (show ¬ ((2 : Int) = 1) by decide), if_pos rfl]
  unfold relistP
  have hrise := fold_rise 0 (runL (l.take j)).1 (runL (l.take j)).2 (sortM (runL l).1) _ hJ.inv.rise
  refine am_ext strictKS (rise_drop hrise _) hn.inv.rise fun k => ?_
  rw [getA_drop (keys_nodup strictKS hrise) k]
  by_cases hk : k ∈ (sortM (runL l).1).map kOf
  · obtain ⟨o, ho, rfl⟩ := List.mem_map.1 hk
    rw [show (⟨2, zeroO, (l.length : Int), sortM (runL l).1⟩ : EvD).objs = sortM (runL l).1 from rfl, f1 o ho, (hk2 o).1 ho]
    simp only
    rw [(inXs_iff hsm (kOf o)).2 hk]
    simp
  · have e0 : getA (runL l).1 k = none := by
      cases q : getA (runL l).1 k with
      | none => rfl
      | some o =>
        have hm := (get_mem strictKS hn.inv.rise).1 q
        have e := kOf_of hn.inv hm
        simp only at e
        exact absurd (List.mem_map.2 ⟨o, (hk2 o).2 (by rw [e]; exact q), e⟩) hk
    rw [show (⟨2, zeroO, (l.length : Int), sortM (runL l).1⟩ : EvD).objs = sortM (runL l).1 from rfl, f2 k hk, e0]
    cases q : getA (runL (l.take j)).1 k with
    | none => rfl
    | some o =>
      simp only
      have hv := known_ob hJ q
      have hx : inXs (sortM (runL l).1) k = false := by
        cases z : inXs (sortM (runL l).1) k with
        | false => rfl
        | true => exact absurd ((inXs_iff hsm k).1 z) hk
      rw [hx, decide_eq_true (show o.ver ≤ (⟨2, zeroO, (l.length : Int), sortM (runL l).1⟩ : EvD).ver from by show o.ver ≤ (l.length : Int); omega)]
      rfl
theorem snap_err {l : List (Int × ObjD)} (h : ToldL l) (hl : l.length ≤ 60) (hr : rightE ⟨2, zeroO, l.length, sortM (runL l).1⟩ = true) {j : Nat} (hj : j ≤ l.length) : appErr ⟨2, zeroO, l.length, sortM (runL l).1⟩ 0 (runL (l.take j)).1 (runL (l.take j)).2 = if l.length = 0 then 6 else 0 := by
  have hn : RunI (runL l) l.length := by have := runI h l.length (Nat.le_refl _); rwa [List.take_length] at this
  unfold appErr
  rw [if_neg (by rw [hr]; decide), run_snap h hj, if_neg (show ¬ 1000 < (runL l).1.length by have := hn.len; omega)]
  have e : staleP ⟨2, zeroO, l.length, sortM (runL l).1⟩ 0 (runL (l.take j)).1 (runL (l.take j)).2 = decide ((l.length : Int) ≤ 0) := by
    unfold staleP
    rw [verE_ok hr, if_neg (show ¬ ((2 : Int) = 0 ∨ (2 : Int) = 1) by decide), if_neg (show ¬ ((2 : Int) = 0 ∨ (2 : Int) = 1) by decide)]
  rw [e]
  by_cases h0 : l.length = 0
  · rw [if_pos h0, if_pos (decide_eq_true (by omega))]
  · rw [if_neg h0, if_neg (by rw [decide_eq_true_eq]; omega)]
end Go.Proofs.Ythhfcambdmdgfaa
namespace Go.Proofs.Ythhfcambdmdgfaa
open Go.RowKit Go.Maps Srt
set_option linter.unusedVariables false
set_option linter.unusedSimpArgs false
structure TState (w : World) (base sp mb : Nat) (n k : Nat) (M : AM KS OX) (lv : Value) (L : List LX) : Prop where
  h : HoldsS w base sp mb n k M lv L
  told : ToldL (lxOf L)
  run : mo M = (runL (lxOf L)).1
theorem lxOf_len (L : List LX) : (lxOf L).length = L.length := by simp [lxOf]
theorem TState.below {w w' : World} {base sp mb n k : Nat} {M : AM KS OX} {lv : Value} {L : List LX} (h : TState w base sp mb n k M lv L) (hb : Below w.heap.size w w') : TState w' base sp mb n k M lv L := ⟨⟨h.h.1.below hb, h.h.2⟩, h.told, h.run⟩
theorem TState.start {w : World} {base sp mb : Nat} (h : StoreAt w base sp mb 0 [] (.slice none 0 0) []) : TState w base sp mb 0 0 [] (.slice none 0 0) [] :=
  ⟨⟨h, PInv.nil, rfl, Nat.le_refl _, Nat.le_refl _, by rintro e ⟨⟩⟩, told_nil, rfl⟩
theorem nextM_put {e : Int × ObjD} (h : e.1 = 0) (fl : Int) (m : AO) (G : AM KS Int) : nextM (evL e) fl m G = putA ltKS m (kOf e.2) e.2 := by
  unfold nextM; rw [if_pos (show (evL e).kind = 0 from h)]; rfl
theorem nextM_del {e : Int × ObjD} (h : e.1 = 1) (fl : Int) (m : AO) (G : AM KS Int) : nextM (evL e) fl m G = delA m (kOf e.2) := by
  unfold nextM; rw [if_neg (show ¬ (evL e).kind = 0 by show ¬ e.1 = 0; omega), if_pos (show (evL e).kind = 1 from h)]; rfl
theorem told_do {w w' : World} {base sp mb n k : Nat} {M : AM KS OX} {lv : Value} {L : List LX} (h : TState w base sp mb n k M lv L) (gone : Bool) {o : ObjD} {K : KS} (hK : K.1 = o.key) (hs : objSmall o) {e : Ending} (hb0 : base ≤ w.heap.size)
    (ha : Act9 w base sp mb n (wMap M K gone o n) lv L (wKind gone) (wObj gone o) (wErr M K gone o) e w') : ∃ vv er : Int, e = .returned (.tuple #[.int .i64 vv, .int .i64 er]) ∧ Hid (∃ n' M' lv' L', TState w' base sp mb n' (k + 1) M' lv' L') ∧ Below base w w' := by
  obtain ⟨vv, rfl, hA⟩ := act9_form ha
  refine ⟨vv, _, rfl, ?_⟩
  by_cases he : wErr M K gone o = 0
  · obtain ⟨_, lv', x, y, hst, hkp⟩ := act9_did hA he
    have hai := act_is y h.h.2.1 hK hs (by omega) he
    have hlen := h.h.2.2.1
    refine ⟨Lib.hid ⟨n + 1, _, lv', _, ⟨⟨by simpa using hst, by simpa using hai.inv, by rw [List.length_append, hlen]; rfl, by have := h.h.2.2.2.1; omega, by have := hai.len; have := h.h.2.2.2.2.1; omega, fun q hq => ?_⟩, ?_, ?_⟩⟩, h.h.1.keptB hkp hb0⟩
    · rcases List.mem_append.1 hq with r | r
      · exact h.h.2.2.2.2.2 q r
      · obtain rfl := List.mem_singleton.1 r; exact (show objSmall _ from hai.small)
    · have e1 : lxOf (L ++ [(wKind gone, ({ wObj gone o with ver := (n : Int) + 1 }, x))]) = lxOf L ++ [(wKind gone, { wObj gone o with ver := (n : Int) + 1 })] := by simp [lxOf]
      rw [e1]
      exact told_snoc h.told (by unfold wKind; cases gone; exact .inl rfl; exact .inr rfl) hai.right (by rw [lxOf_len, hlen]) hai.small
    · have e1 : lxOf (L ++ [(wKind gone, ({ wObj gone o with ver := (n : Int) + 1 }, x))]) = lxOf L ++ [(wKind gone, { wObj gone o with ver := (n : Int) + 1 })] := by simp [lxOf]
      rw [e1, runL_snoc]
      have hko : ∀ v : Int, kOf { wObj gone o with ver := v } = K := fun v => Subtype.ext (by
        rw [kOf_key (show objSmall { wObj gone o with ver := v } from hai.small)]
        show (wObj gone o).key = K.1
        rw [hai.key, hK])
      cases gone with
      | true =>
        refine Eq.trans ?_ (nextM_del (e := (wKind true, { wObj true o with ver := (n : Int) + 1 })) rfl 0 (runL (lxOf L)).1 (runL (lxOf L)).2).symm
        show mo (delA M K) = delA (runL (lxOf L)).1 (kOf { wObj true o with ver := (n : Int) + 1 })
        rw [hko, mo_del, h.run]
      | false =>
        refine Eq.trans ?_ (nextM_put (e := (wKind false, { wObj false o with ver := (n : Int) + 1 })) rfl 0 (runL (lxOf L)).1 (runL (lxOf L)).2).symm
        show mo (putA ltKS M K ({ o with ver := (n : Int) + 1 }, y)) = putA ltKS (runL (lxOf L)).1 (kOf { wObj false o with ver := (n : Int) + 1 }) { wObj false o with ver := (n : Int) + 1 }
        rw [hko, mo_put, h.run]; rfl
  · obtain ⟨_, hb⟩ := act9_err hA he
    exact ⟨Lib.hid ⟨n, M, lv, L, ⟨⟨h.h.1.below hb, h.h.2.1, h.h.2.2.1, by have := h.h.2.2.2.1; omega, h.h.2.2.2.2⟩, h.told, h.run⟩⟩, hb.mono hb0⟩
def RunC (w : World) (base cp k : Nat) (l : List (Int × ObjD)) (j : Nat) : Prop := ∃ ob gb M G, CacheI w base cp k ob gb 0 M G ∧ mo M = (runL (l.take j)).1 ∧ G = (runL (l.take j)).2
theorem RunC.below {w w' : World} {base cp k : Nat} {l : List (Int × ObjD)} {j : Nat} (h : RunC w base cp k l j) (hb : Below w.heap.size w w') : RunC w' base cp k l j := by
  obtain ⟨ob, gb, M, G, h1, h2⟩ := h; exact ⟨ob, gb, M, G, h1.below hb, h2⟩
theorem CacheI.other {w w' : World} {base cp k ob gb dp : Nat} {fl : Int} {M : AM KS OX} {G : AM KS Int} {cs : Array Value} (h : CacheI w base cp k ob gb fl M G) (hd : w.heap[dp]? = some (.cells cs 98)) (hne : cp ≠ dp) (hk : Kept (fun k => k = dp) w w') : CacheI w' base cp k ob gb fl M G :=
  ⟨h.at_.keptX hk hne (fun e => mv_other h.at_.objs hd e.symm) (fun e => mv_other h.at_.graves hd e.symm) (fun k e c hc => by subst e; rw [hd] at hc; injection hc with hc; injection hc with _ ht; exact absurd ht (by decide)), h.inv, h.len, h.lenG⟩
theorem RunC.other {w w' : World} {base cp k dp : Nat} {l : List (Int × ObjD)} {j : Nat} {cs : Array Value} (h : RunC w base cp k l j) (hd : w.heap[dp]? = some (.cells cs 98)) (hne : cp ≠ dp) (hk : Kept (fun k => k = dp) w w') : RunC w' base cp k l j := by
  obtain ⟨ob, gb, M, G, h1, h2⟩ := h; exact ⟨ob, gb, M, G, h1.other hd hne hk, h2⟩
theorem RunC.cell {w : World} {base cp k : Nat} {l : List (Int × ObjD)} {j : Nat} (h : RunC w base cp k l j) : ∃ cs, w.heap[cp]? = some (.cells cs 98) := by
  obtain ⟨ob, gb, M, G, h1, h2⟩ := h; exact ⟨_, h1.at_.cell⟩
theorem RunC.ge {w : World} {base cp k : Nat} {l : List (Int × ObjD)} {j : Nat} (h : RunC w base cp k l j) : base ≤ cp := by
  obtain ⟨ob, gb, M, G, h1, h2⟩ := h; exact h1.at_.ge.1
theorem runC_new {w : World} {b base cp ob gb : Nat} (h : CacheAt w b cp ob gb 0 [] []) (hb : base ≤ b) (l : List (Int × ObjD)) : RunC w base cp 0 l 0 :=
  ⟨ob, gb, [], [], ⟨⟨h.cell, h.objs, h.graves, (by rintro q ⟨⟩), h.ints, (by have := h.ge; omega), h.ne⟩, CIn.nil, (by simp), (by simp)⟩, rfl, rfl⟩
theorem TState.other {w w' : World} {base sp mb n k dp : Nat} {M : AM KS OX} {lv : Value} {L : List LX} {cs : Array Value} (h : TState w base sp mb n k M lv L) (hd : w.heap[dp]? = some (.cells cs 98)) (hk : Kept (fun k => k = dp) w w') : TState w' base sp mb n k M lv L :=
  ⟨⟨h.h.1.kept hk (fun e => by
      have e' : sp = dp := e
      subst e'
      have hc := h.h.1.cell
      rw [hd] at hc; injection hc with hc; injection hc with _ ht; exact absurd ht (by decide)) (fun e => mv_other h.h.1.map hd e.symm) (fun k e q => by subst q; exact rw_other h.h.1.row hd (by decide) e) (fun k e c hc => by subst e; rw [hd] at hc; injection hc with hc; injection hc with _ ht; exact absurd ht (by decide)), h.h.2⟩, h.told, h.run⟩
theorem LogF.other {w w' : World} {b dp : Nat} {v : Value} {ys : List LY} {cs : Array Value} (h : LogF w b v ys) (hd : w.heap[dp]? = some (.cells cs 98)) (hk : Kept (fun k => k = dp) w w') : LogF w' b v ys :=
  ⟨rw_kept h.row hk (fun k e q => by subst q; exact rw_other h.row hd (by decide) e), fun p hp => ⟨(h.res p hp).1.kept hk (fun k e c hc => by subst e; rw [hd] at hc; injection hc with hc; injection hc with _ ht; exact absurd ht (by decide)), ObjsF.kept (h.res p hp).2 hk (fun k e q => by subst q; exact rw_other (h.res p hp).2.1 hd (by decide) e) (fun k e c hc => by subst e; rw [hd] at hc; injection hc with hc; injection hc with _ ht; exact absurd ht (by decide))⟩⟩
theorem kept_to {w w' : World} {B cp : Nat} (hk : Kept (fun k => k = cp) w w') (hb : B ≤ w.heap.size) (hc : B ≤ cp) : Below B w w' := hk.below hb (fun k e => by subst e; exact hc)
/-- An event of the log, told to a cache. -/
theorem runC_calls {w : World} {base cp k : Nat} {l : List (Int × ObjD)} {j : Nat} (h : RunC w base cp k l j) (hbase : base ≤ w.heap.size) (hk : k ≤ 100) (hT : ToldL l) (hl : l.length ≤ 60) (hj : j < l.length) {p : EX} (hp : EvS w p) (he : p.ev = evL (l[j]'hj)) (hx : p.xs = []) :
    Calls Try.prog 44 #[.pointer (some ⟨cp, 0, none⟩), evV p.kd p.ob p.sl p.vr p.ol] w fun e w' => ∃ A n c, e = .returned (.tuple #[.slice A n c, .int .i64 0]) ∧ RunC w' base cp (k + 1) l (j + 1) ∧ Kept (fun k => k = cp) w w' := by
  obtain ⟨ob, gb, M, G, h1, h2, h3⟩ := h
  obtain ⟨r1, r2, r3, r4⟩ := run_next hT hj hl
  have ho : p.ob = (l[j]'hj).2 := congrArg EvD.obj he
  have hs : objSmall p.ob := by rw [ho]; exact (hT j hj).2.2.2
  have hsx : objSmall p.ob ∧ OSmall (oxs p.xs) ∧ p.xs.length ≤ 60 := ⟨hs, (by rw [hx]; intro o ho; cases ho), by rw [hx]; simp⟩
  have he0 : appErr p.ev 0 (mo M) G = 0 := by rw [he, h2, h3]; exact r1
  refine (cappI_calls w h1 hbase (by omega) hp hsx he0).mono ?_
  rintro e w' ⟨A, n, c, rfl, ha⟩
  rcases ha with ⟨h, _⟩ | ⟨_, ob', gb', M', G', a1, a2, a3, a4⟩
  · exact absurd rfl h
  · rw [he] at a1 a2 a3
    rw [r2] at a1
    rw [h2, h3] at a2
    rw [h3] at a3
    exact ⟨A, n, c, rfl, ⟨ob', gb', M', G', a1, a2.trans r3, a3.trans r4⟩, a4⟩
def SnapC (w : World) (base cp k : Nat) (m : AO) : Prop := ∃ ob gb fl M G, CacheI w base cp k ob gb fl M G ∧ mo M = m
theorem SnapC.below {w w' : World} {base cp k : Nat} {m : AO} (h : SnapC w base cp k m) (hb : Below w.heap.size w w') : SnapC w' base cp k m := by
  obtain ⟨ob, gb, fl, M, G, h1, h2⟩ := h; exact ⟨ob, gb, fl, M, G, h1.below hb, h2⟩
theorem SnapC.other {w w' : World} {base cp k dp : Nat} {m : AO} {cs : Array Value} (h : SnapC w base cp k m) (hd : w.heap[dp]? = some (.cells cs 98)) (hne : cp ≠ dp) (hk : Kept (fun k => k = dp) w w') : SnapC w' base cp k m := by
  obtain ⟨ob, gb, fl, M, G, h1, h2⟩ := h; exact ⟨ob, gb, fl, M, G, h1.other hd hne hk, h2⟩
theorem SnapC.objs {w : World} {base cp k : Nat} {m : AO} (h : SnapC w base cp k m) {n : Nat} (hn : m.length = n) : Calls Try.prog 47 #[.pointer (some ⟨cp, 0, none⟩)] w fun e w' => ∃ A c, e = .returned (.slice A n c) ∧ Hid (∃ zs, ObjsS w' (.slice A n c) zs ∧ oxs zs = sortM m ∧ zs.length = n) ∧ Below w.heap.size w w' := by
  obtain ⟨ob, gb, fl, M, G, h1, h2⟩ := h
  refine (cobjI_calls w h1 (n := n) (by rw [← hn, ← h2, mo_len])).mono ?_
  rintro e w' ⟨A, c, q1, q2, q3⟩
  obtain ⟨zs, z1, z2, z3, z4⟩ := q2.out
  exact ⟨A, c, q1, Lib.hid ⟨zs, z1, by rw [z3, h2], z4⟩, q3⟩
/-- The snapshot, told to a cache. -/
theorem snapC_calls {w : World} {base cp k : Nat} {l : List (Int × ObjD)} {j : Nat} (h : RunC w base cp k l j) (hbase : base ≤ w.heap.size) (hk : k ≤ 100) (hT : ToldL l) (hl : l.length ≤ 60) (hj : j ≤ l.length) (hr : rightE ⟨2, zeroO, l.length, sortM (runL l).1⟩ = true) {A : Option Addr} {n c : Nat} (hz : ∃ zs, ObjsS w (.slice A n c) zs ∧ oxs zs = sortM (runL l).1 ∧ zs.length = n) (hn : n ≤ 60) {er : Int} (he : (if l.length = 0 then (6 : Int) else 0) = er) {N : Nat} (hN : l.length = N) :
    Calls Try.prog 44 #[.pointer (some ⟨cp, 0, none⟩), .agg #[.int .i64 2, .string ⟨#[]⟩, .string ⟨#[]⟩, .string ⟨#[]⟩, .int .i64 0, .string ⟨#[]⟩, .bool false, .bool false, .slice none 0 0, .int .i64 N, .slice A n c]] w fun e w' => ∃ A n c, e = .returned (.tuple #[.slice A n c, .int .i64 er]) ∧ SnapC w' base cp (k + 1) (runL l).1 ∧ Kept (fun k => k = cp) w w' := by
  subst hN
  obtain ⟨ob, gb, M, G, h1, h2, h3⟩ := h
  obtain ⟨zs, z1, z2, z3⟩ := hz
  have hpe : EX.ev ⟨2, zeroO, .slice none 0 0, (l.length : Int), .slice A n c, zs⟩ = ⟨2, zeroO, l.length, sortM (runL l).1⟩ := by unfold EX.ev; rw [z2]
  have hn' : RunI (runL l) l.length := by have := runI hT l.length (Nat.le_refl _); rwa [List.take_length] at this
  have he2 : appErr (EX.ev ⟨2, zeroO, .slice none 0 0, (l.length : Int), .slice A n c, zs⟩) 0 (mo M) G = er := by rw [hpe, h2, h3, snap_err hT hl hr hj, he]
  refine (cappI_calls w h1 hbase (by omega) (p := ⟨2, zeroO, .slice none 0 0, (l.length : Int), .slice A n c, zs⟩) ⟨zeroO_S w, z1, (show in64 (2 : Int) by unfold in64; omega), (show in64 (l.length : Int) by unfold in64; omega)⟩ ⟨zeroO_small, by rw [show (⟨2, zeroO, .slice none 0 0, (l.length : Int), .slice A n c, zs⟩ : EX).xs = zs from rfl, z2]; exact sortM_small hn'.inv, by show zs.length ≤ 60; omega⟩ he2).mono ?_
  rintro e w' ⟨A', n', c', rfl, ha⟩
  refine ⟨A', n', c', rfl, ?_⟩
  rcases ha with ⟨q1, q2⟩ | ⟨q1, ob', gb', M', G', a1, a2, a3, a4⟩
  · have hl0 : l.length = 0 := by
      by_cases h0 : l.length = 0
      · exact h0
      · rw [if_neg h0] at he; exact absurd he.symm q1
    have hl1 : l = [] := List.eq_nil_of_length_eq_zero hl0
    subst hl1
    exact ⟨⟨ob, gb, 0, M, G, (h1.below q2).up (by omega), by rw [h2]; simp⟩, kept_of_below q2⟩
  · rw [hpe] at a1 a2
    rw [h2, h3, run_snap hT hj] at a2
    exact ⟨⟨ob', gb', _, M', G', a1, a2⟩, a4⟩
theorem snapT_calls {w : World} {base sp mb n k : Nat} {M : AM KS OX} {lv : Value} {L : List LX} (h : TState w base sp mb n k M lv L) (hk : k ≤ 60) {l : List (Int × ObjD)} (hl : lxOf L = l) {nM : Nat} (hM : (runL l).1.length = nM) :
    Calls Try.prog 34 #[.pointer (some ⟨sp, 0, none⟩)] w fun e w' => ∃ A c, e = .returned (.agg #[.int .i64 2, .string ⟨#[]⟩, .string ⟨#[]⟩, .string ⟨#[]⟩, .int .i64 0, .string ⟨#[]⟩, .bool false, .bool false, .slice none 0 0, .int .i64 n, .slice A nM c]) ∧ Hid (∃ zs, ObjsS w' (.slice A nM c) zs ∧ oxs zs = sortM (runL l).1 ∧ zs.length = nM) ∧ Below w.heap.size w w' := by
  subst hl
  have hml : M.length = nM := by rw [← hM, ← h.run, mo_len]
  refine (ssnapshot_calls w h.h.1 (fun q hq => (h.h.2.1.2 q hq).2.2.2.2) h.h.2.1.keys h.h.2.1.texts (by have := h.h.2.2.2.1; have := h.h.2.2.2.2.1; omega)).mono ?_
  rintro e w' ⟨v, zs, rfl, hz, hzs, hb⟩
  have e1 : oxs zs = sortM (runL (lxOf L)).1 := by
    rw [hzs, ← h.run]
    unfold sortM mo
    rw [List.map_map]; rfl
  have e2 : zs.length = nM := by rw [← oxs_len, e1, sortM_len, hM]
  have hzz : ObjsS w' v zs := hz.objsS (fun p hp => by
    have hm : p.1 ∈ oxs zs := List.mem_map.2 ⟨p, hp, rfl⟩
    rw [hzs] at hm
    obtain ⟨q, hq, hqe⟩ := List.mem_map.1 (srtX_mem.1 hm)
    rw [← hqe]
    exact (h.h.1.resM q hq).2.1)
  obtain ⟨A, c, rfl⟩ := hz.form
  rw [e2] at hzz
  exact ⟨A, c, by rw [e2]; rfl, Lib.hid ⟨zs, hzz, e1, e2⟩, hb⟩
/-- The i-th event of a log in memory. -/
theorem log_ex {w : World} {b : Nat} {v : Value} {ys : List LY} {l : List (Int × ObjD)} (h : LogF w b v ys) (he : lyOf ys = l) (ho : ∀ e ∈ l, oIn e.2 ∧ in64 e.1) {i : Nat} (hi : i < l.length) : ∃ g off c, ∃ p : EX, v = .slice (some ⟨g, off, none⟩) l.length c ∧ p.ev = evL (l[i]'hi) ∧ p.xs = [] ∧ ∀ U, LogF U b v ys → EvAt U g (off + i * 11) p.kd p.ob p.sl p.vr p.ol ∧ EvS U p := by
  have hyl : ys.length = l.length := by rw [← he]; simp [lyOf]
  have hk : i < ys.length := by omega
  obtain ⟨g, off, c, e1, _⟩ := y_at (sliS_of h.row) hk
  have e4 : ((ys[i]'hk).1.1, (ys[i]'hk).1.2.1) = l[i]'hi := by subst he; simp [lyOf]
  have h5 := ho _ (List.getElem_mem hi)
  rw [← e4] at h5 ⊢
  refine ⟨g, off, c, ⟨(ys[i]'hk).1.1, (ys[i]'hk).1.2.1, (ys[i]'hk).1.2.2, 0, (ys[i]'hk).2, []⟩, by rw [e1, hyl], rfl, rfl, fun U hU => ?_⟩
  obtain ⟨g', off', c', e2, hq⟩ := y_at (sliS_of hU.row) hk
  rw [e1] at e2
  cases e2
  obtain ⟨h3, h4⟩ := hU.res _ (List.getElem_mem hk)
  exact ⟨hq, ⟨⟨h3.resS h5.1.2, h5.1.1⟩, h4.objsS (fun p hp => by cases hp), h5.2, (show in64 (0 : Int) by unfold in64; omega)⟩⟩
structure FinS (w : World) (base sp mb n k : Nat) (M : AM KS OX) (lv : Value) (L : List LX) (ap bp cp ka kb kc : Nat) (m : AO) : Prop where
  st : TState w base sp mb n k M lv L
  a : SnapC w base ap ka m
  b : SnapC w base bp kb m
  c : SnapC w base cp kc m
theorem FinS.below {w w' : World} {base sp mb n k : Nat} {M : AM KS OX} {lv : Value} {L : List LX} {ap bp cp ka kb kc : Nat} {m : AO} (h : FinS w base sp mb n k M lv L ap bp cp ka kb kc m) (hb : Below w.heap.size w w') : FinS w' base sp mb n k M lv L ap bp cp ka kb kc m := ⟨h.st.below hb, h.a.below hb, h.b.below hb, h.c.below hb⟩
theorem RunC.full {w : World} {base cp k : Nat} {l : List (Int × ObjD)} (h : RunC w base cp k l l.length) : SnapC w base cp k (runL l).1 := by
  obtain ⟨ob, gb, M, G, h1, h2, h3⟩ := h
  rw [List.take_length] at h2
  exact ⟨ob, gb, 0, M, G, h1, h2⟩
end Go.Proofs.Ythhfcambdmdgfaa
namespace Go.Proofs.Ythhfcambdmdgfaa
open Go.RowKit Go.Maps Srt
set_option linter.unusedVariables false
set_option linter.unusedSimpArgs false
theorem fieldE_objs (w : World) (v0 v1 v2 v3 v4 v5 v6 v7 v8 v9 v10 : Value) : (Instr.field 30 (.agg #[v0, v1, v2, v3, v4, v5, v6, v7, v8, v9, v10]) 3).run Try.prog w = .ok v10 w := by kernel_rfl
set_option maxRecDepth 100000 in
set_option maxHeartbeats 16000000 in
theorem storeTold_law (w : World) {ol : Value} {xs : List WX} (hx : WrS w ol xs) (part : Int) (hpart : 0 ≤ part ∧ part < 256) :
    Calls Try.prog 11 #[ol, .int .u8 part] w fun e w' => e = .returned (.bool true) ∧ Below w.heap.size w w' := by
  have HX := Lib.hid hx
  obtain ⟨al, cl, rfl⟩ := hx.form
  have HFA := Lib.hid (fits9_calls w hx)
  have HPT := Lib.hid hpart
  clear hx hpart
  have hB := Below.refl w.heap.size w
  go_enter Try.func11, Try.ntmps11
  go_upto_region 2 with (go_at_call 26; ((with_reducible refine HFA.out.mono ?_); rintro e W ⟨f1, rfl, hf1, hb⟩; have HF1 := Lib.hid hf1; have HBw := Lib.hid (bl_next hB hb); clear hf1 hb))
  cases f1 with
  | false =>
    go_wp2_with (go_at_call 27; refine (alive9_calls _).mono ?_; rintro e w' ⟨rfl, hb⟩; have HB2 := Lib.hid (bl_from HBw.out hb); clear hb)
    go_ret
    exact ⟨rfl, HB2.out⟩
  | true =>
  obtain ⟨hsm, hl60⟩ := HF1.out rfl
  have HSM := Lib.hid hsm
  have HXW := Lib.hid (HX.out.below HBw.out)
  clear HF1 HFA hsm hB HX
  go_wp2_with (go_at_call 28; refine (snew_calls _).mono ?_; rintro e w1 ⟨sp, mb, rfl, hst, hb⟩; have H1 := Lib.hid (TState.start hst); have HB1 := Lib.hid hb; clear hst hb)
  go_loopw [7] (fun s7 wr => ∃ (k n : Nat) (M : AM KS OX) (lv : Value) (L : List LX), s7 = .int .i64 (k : Int) ∧ k ≤ xs.length ∧ Hid (TState wr W.heap.size sp mb n k M lv L) ∧ Hid (Below W.heap.size W wr)) (fun s7 _ => xs.length - (intOf s7).toNat)
  case atStart => exact ⟨0, 0, [], _, [], rfl, Nat.zero_le _, H1, HB1⟩
  case round =>
    clear H1 HB1
    obtain ⟨k, n, M, lv, L, rfl, hk, HT, HBr⟩ := hrel
    have hnk := HT.out.h.2.2.2.1
    by_cases hkl : k < xs.length
    · have hkI : (k : Int) < xs.length := by omega
      obtain ⟨b, of, c9, he, q, s⟩ := HXW.out.at' hkl
      cases he
      have hsmo := HSM.out _ (List.getElem_mem hkl)
      generalize xs[k]'hkl = x at q s hsmo
      obtain ⟨gone, o, so⟩ := x
      simp only at s hsmo
      obtain ⟨ao, co, rfl⟩ := s.1.form
      have q := q.below HBr.out
      have d0 := (q).c0
      have d1 := (q).c1
      have d2 := (q).c2
      have d3 := (q).c3
      have d4 := (q).c4
      have d5 := (q).c5
      have d6 := (q).c6
      have d7 := (q).c7
      have d8 := (q).c8
      have HSO := Lib.hid hsmo
      obtain ⟨K, hK⟩ : ∃ K : KS, K.1 = o.key := ⟨⟨o.key, hsmo.1⟩, rfl⟩
      have HK := Lib.hid hK
      have HDO := Lib.hid (do_calls wr HT.out.h.1 gone (k := K) (sl := .slice ao o.charge.length co) hK (fun U hU => s.below (HBr.out.trans (StoreAt.keptB HT.out.h.1 hU HBr.out.size))) hsmo (by omega) (by have := HT.out.h.2.2.2.2.1; omega) (by have := HT.out.h.2.2.1; omega))
      clear q s hK hsmo
      go_upto_region 7 with (go_at_call 29; refine HDO.out.mono ?_; intro e w2 hA; obtain ⟨vv, er, rfl, hT2, hb2⟩ := told_do HT.out gone HK.out HSO.out HBr.out.size hA; have HT2 := Lib.hid hT2.out; have HB2 := Lib.hid (HBr.out.trans hb2); clear hA hT2 hb2)
      clear HDO
      clear d0 d1 d2 d3 d4 d5 d6 d7 d8
      obtain ⟨n2, M2, lv2, L2, hT3⟩ := HT2.out
      have HT3 := Lib.hid hT3
      clear hT3 HT2
      go_wp2_with fail
      go_roundw
      case rel => exact ⟨k + 1, n2, M2, lv2, L2, by simp, by omega, HT3, HB2⟩
      case measure => simp [intOf]; omega
    · obtain rfl : k = xs.length := by omega
      clear hkl
      obtain ⟨l, hl⟩ : ∃ z, lxOf L = z := ⟨_, rfl⟩
      have HLX := Lib.hid hl
      have hln : l.length = n := by rw [← hl, lxOf_len, HT.out.h.2.2.1]
      have HTL := Lib.hid (show ToldL l by rw [← hl]; exact HT.out.told)
      have HOI := Lib.hid (show ∀ e ∈ l, oIn e.2 ∧ in64 e.1 from fun e he => by
        refine ⟨?_, ?_⟩
        · rw [← hl] at he
          obtain ⟨q, hq, rfl⟩ := List.mem_map.1 he
          exact (HT.out.h.1.resL q hq).2
        · obtain ⟨i, hi, rfl⟩ := List.mem_iff_getElem.1 he
          rcases (HTL.out i hi).1 with h | h
          · rw [h]; unfold in64; omega
          · rw [h]; unfold in64; omega)
      have HRT := Lib.hid (show rightE ⟨2, zeroO, l.length, sortM (runL l).1⟩ = true by
        have h := HT.out.h.2.1.snap (by omega) (by have := HT.out.h.2.2.2.2.1; omega)
        have e : srtX kTO (M.map (·.2.1)) = sortM (runL l).1 := by rw [← hl, ← HT.out.run]; unfold sortM mo; rw [List.map_map]; rfl
        rw [e, ← hln] at h
        exact h)
      obtain ⟨nM, hnM⟩ : ∃ z, (runL l).1.length = z := ⟨_, rfl⟩
      have HNM := Lib.hid hnM
      have HMN := Lib.hid (show nM ≤ 60 by have h := (runI HTL.out l.length (Nat.le_refl _)).len; rw [List.take_length, hnM] at h; omega)
      have HSL := Lib.hid (show ∀ e ∈ L, objSmall e.2.1 from HT.out.h.2.2.2.2.2)
      have HLL := Lib.hid (show L.length = n from HT.out.h.2.2.1)
      have HLN := Lib.hid hln
      clear hl hln hnM
      go_upto_region 10 with (go_at_call 43; refine (cnew_calls _).mono ?_; rintro e w1 ⟨ap, oa, ga, rfl, hst, hb⟩; have HA1 := Lib.hid (runC_new (base := W.heap.size) hst HBr.out.size l); have HT1 := Lib.hid (HT.out.below hb); have HB1 := Lib.hid (bl_next HBr.out hb); clear hst hb)
      go_upto_region 11 with (go_at_call 43; refine (cnew_calls _).mono ?_; rintro e w2 ⟨bp, ob, gb, rfl, hst, hb⟩; have HNab := Lib.hid (show ap ≠ bp by obtain ⟨cs, hc⟩ := HA1.out.cell; have := blk_lt hc; have := hst.ge.1; omega); have HB2' := Lib.hid (runC_new (base := W.heap.size) hst HB1.out.size l); have HA2 := Lib.hid (HA1.out.below hb); have HT2 := Lib.hid (HT1.out.below hb); have HB2 := Lib.hid (bl_next HB1.out hb); clear hst hb)
      go_upto_region 12 with (go_at_call 43; refine (cnew_calls _).mono ?_; rintro e w3 ⟨cp, oc, gc, rfl, hst, hb⟩; have HNac := Lib.hid (show ap ≠ cp by obtain ⟨cs, hc⟩ := HA2.out.cell; have := blk_lt hc; have := hst.ge.1; omega); have HNbc := Lib.hid (show bp ≠ cp by obtain ⟨cs, hc⟩ := HB2'.out.cell; have := blk_lt hc; have := hst.ge.1; omega); have HC3 := Lib.hid (runC_new (base := W.heap.size) hst HB2.out.size l); have HA3 := Lib.hid (HA2.out.below hb); have HB3' := Lib.hid (HB2'.out.below hb); have HT3 := Lib.hid (HT2.out.below hb); have HB3 := Lib.hid (bl_next HB2.out hb); clear hst hb)
      clear HA1 HT1 HB1 HB2' HA2 HT2 HB2 HT HBr
      have HLG := Lib.hid (slogN_calls w3 (m := n) HT3.out.h.1 HSL.out (by have := HLL.out; omega) HLL.out)
      go_upto_region 13 with (go_at_call 38; refine HLG.out.mono ?_; rintro e w4 ⟨A4, c4, rfl, HLo, hb⟩; have HL4 := Lib.hid HLo.out; have HA4 := Lib.hid (HA3.out.below hb); have HB4' := Lib.hid (HB3'.out.below hb); have HC4 := Lib.hid (HC3.out.below hb); have HT4 := Lib.hid (HT3.out.below hb); have HB4 := Lib.hid (bl_next HB3.out hb); have HS3 := Lib.hid HB3.out.size; clear HLo hb)
      obtain ⟨ys, hlog, hly⟩ := HL4.out
      have HL5 := Lib.hid (LogF.mono hlog HS3.out)
      have HLY := Lib.hid (show lyOf ys = l by rw [hly]; exact HLX.out)
      clear HLG HL4 HA3 HB3' HC3 HT3 HB3 hlog hly HS3
      obtain ⟨rt, hrt⟩ : ∃ z : Int, (wrap64 part).tmod ((n : Int) + 1) = z := ⟨_, rfl⟩
      go_wp2_with fail
      go_loopw [12] (fun s12 wr => ∃ (i j : Nat), s12 = .int .i64 (i : Int) ∧ i ≤ n ∧ j ≤ i ∧ (j = i ∨ rt ≤ j) ∧ Hid (TState wr W.heap.size sp mb n xs.length M lv L) ∧ Hid (LogF wr W.heap.size (.slice A4 n c4) ys) ∧ Hid (RunC wr W.heap.size ap i l i) ∧ Hid (RunC wr W.heap.size bp 0 l 0) ∧ Hid (RunC wr W.heap.size cp j l j) ∧ Hid (Below W.heap.size W wr)) (fun s12 _ => n - (intOf s12).toNat)
      case atStart => exact ⟨0, 0, rfl, Nat.zero_le _, Nat.le_refl _, .inl rfl, HT4, HL5, HA4, HB4', HC4, HB4⟩
      case round =>
        clear HT4 HL5 HA4 HB4' HC4 HB4
        obtain ⟨i, j, rfl, hi, hji, hjr, HT, HLF, HA, HBb, HC, HBr⟩ := hrel
        by_cases hil : i < n
        · have hiI : (i : Int) < n := by omega
          have hill : i < l.length := by rw [HLN.out]; exact hil
          obtain ⟨g, of, cc, p, he, hpe, hpx, hq⟩ := log_ex HLF.out HLY.out HOI.out hill
          rw [HLN.out] at he
          cases he
          have HQ := Lib.hid hq
          obtain ⟨q, hp⟩ := hq wr HLF.out
          have HAP := Lib.hid (runC_calls HA.out HBr.out.size (by omega) HTL.out (by rw [HLN.out]; omega) hill hp hpe hpx)
          have HCP := Lib.hid (fun (U : World) (hU : Below W.heap.size W U) (hL : LogF U W.heap.size (.slice (some ⟨g, of, none⟩) n c4) ys) (hR : RunC U W.heap.size cp i l i) => runC_calls hR hU.size (by omega) HTL.out (by rw [HLN.out]; omega) hill (HQ.out U hL).2 hpe hpx)
          obtain ⟨ao, co, h1⟩ := hp.obj.1.form
          obtain ⟨az, cz, h2⟩ := hp.objs.form
          obtain ⟨kd, o, so, vr, ol, zs⟩ := p
          simp only at h1 h2 q
          subst h1; subst h2
          unfold evV at HAP HCP
          have d0 := (q).c0
          have d1 := (q).c1
          have d2 := (q).c2
          have d3 := (q).c3
          have d4 := (q).c4
          have d5 := (q).c5
          have d6 := (q).c6
          have d7 := (q).c7
          have d8 := (q).c8
          have d9 := (q).c9
          have d10 := (q).c10
          clear q hp hpe hpx hq
          obtain ⟨cs, hcell⟩ := HA.out.cell
          have HCE := Lib.hid hcell
          clear hcell
          go_upto_region 17 with (go_at_call 44; refine HAP.out.mono ?_; rintro e w5 ⟨A5, n5, c5, rfl, ha, hk⟩; have HA5 := Lib.hid ha; have HK5 := Lib.hid hk; clear ha hk)
          clear d0 d1 d2 d3 d4 d5 d6 d7 d8 d9 d10
          have HT5 := Lib.hid (HT.out.other HCE.out HK5.out)
          have HLF5 := Lib.hid (HLF.out.other HCE.out HK5.out)
          have HBb5 := Lib.hid (HBb.out.other HCE.out (Ne.symm HNab.out) HK5.out)
          have HC5 := Lib.hid (HC.out.other HCE.out (Ne.symm HNac.out) HK5.out)
          have HB5 := Lib.hid (HBr.out.trans (kept_to HK5.out HBr.out.size HA.out.ge))
          clear HT HLF HBb HC HBr HA HAP HCE HK5
          by_cases hir : (i : Int) < rt
          · obtain rfl : j = i := by omega
            obtain ⟨q, _⟩ := HQ.out w5 HLF5.out
            have HCQ := Lib.hid (HCP.out w5 HB5.out HLF5.out HC5.out)
            (try simp only at q)
            have d0 := (q).c0
            have d1 := (q).c1
            have d2 := (q).c2
            have d3 := (q).c3
            have d4 := (q).c4
            have d5 := (q).c5
            have d6 := (q).c6
            have d7 := (q).c7
            have d8 := (q).c8
            have d9 := (q).c9
            have d10 := (q).c10
            clear q
            go_upto_region 15 with (go_at_call 44; refine HCQ.out.mono ?_; rintro e w6 ⟨A6, n6, c6, rfl, ha, hk⟩; have HC6 := Lib.hid ha; have HK6 := Lib.hid hk; clear ha hk)
            clear d0 d1 d2 d3 d4 d5 d6 d7 d8 d9 d10
            obtain ⟨cs5, hcell5⟩ := HC5.out.cell
            have HT6 := Lib.hid (HT5.out.other hcell5 HK6.out)
            have HLF6 := Lib.hid (HLF5.out.other hcell5 HK6.out)
            have HA6 := Lib.hid (HA5.out.other hcell5 HNac.out HK6.out)
            have HBb6 := Lib.hid (HBb5.out.other hcell5 HNbc.out HK6.out)
            have HB6 := Lib.hid (HB5.out.trans (kept_to HK6.out HB5.out.size HC5.out.ge))
            clear hcell5 HT5 HLF5 HA5 HBb5 HB5 HC5 HK6 HCQ HCP HQ
            go_wp2_with fail
            go_roundw
            case rel => exact ⟨j + 1, j + 1, by simp, by omega, Nat.le_refl _, .inl rfl, HT6, HLF6, HA6, HBb6, HC6, HB6⟩
            case measure => simp [intOf]; omega
          · have hrj : rt ≤ j := by rcases hjr with r | r; subst r; omega; exact r
            clear HCP HQ hjr
            go_wp2_with fail
            go_roundw
            case rel => exact ⟨i + 1, j, by simp, by omega, by omega, .inr hrj, HT5, HLF5, HA5, HBb5, HC5, HB5⟩
            case measure => simp [intOf]; omega
        · obtain rfl : i = n := by omega
          have hjl : j ≤ l.length := by rw [HLN.out]; exact hji
          have HAF := Lib.hid (show SnapC wr W.heap.size ap i (runL l).1 from RunC.full (by rw [HLN.out]; exact HA.out))
          obtain ⟨er, her⟩ : ∃ z : Int, (if l.length = 0 then (6 : Int) else 0) = z := ⟨_, rfl⟩
          obtain ⟨bz, hbz⟩ : ∃ z : Bool, decide (0 < i) = z := ⟨_, rfl⟩
          have hez : (er == 0) = bz := by
            rw [← her, ← hbz]
            by_cases h0 : l.length = 0
            · rw [if_pos h0, decide_eq_false (by rw [HLN.out] at h0; omega)]; rfl
            · rw [if_neg h0, decide_eq_true (by rw [HLN.out] at h0; omega)]; rfl
          have HER := Lib.hid her
          have HS1 := Lib.hid (snapT_calls HT.out hl60 HLX.out HNM.out)
          have HP1 := Lib.hid (fun (U : World) (hb : Below wr.heap.size wr U) (A : Option Addr) (c : Nat) hz => snapC_calls (A := A) (c := c) (HBb.out.below hb) (bl_next HBr.out hb).size (by omega) HTL.out (by rw [HLN.out]; omega) (Nat.zero_le _) HRT.out hz HMN.out HER.out HLN.out)
          clear her hjr hil HA
          go_upto_region 22 with (first
            | (go_at_call 34; refine HS1.out.mono ?_; rintro e w5 ⟨A5, c5, rfl, hz, hb⟩; have HZ5 := Lib.hid hz.out; have HBS5 := Lib.hid hb; clear hz hb)
            | (go_at_call 44; refine (HP1.out w5 HBS5.out A5 c5 HZ5.out).mono ?_; rintro e w6 ⟨A6, n6, c6, rfl, ha, hk⟩; have HB6 := Lib.hid ha; have HK6 := Lib.hid hk; clear ha hk))
          obtain ⟨cs5, hcell5⟩ := (HBb.out.below HBS5.out).cell
          have HT6 := Lib.hid ((HT.out.below HBS5.out).other hcell5 HK6.out)
          have HA6 := Lib.hid ((HAF.out.below HBS5.out).other hcell5 HNab.out HK6.out)
          have HC6 := Lib.hid ((HC.out.below HBS5.out).other hcell5 (Ne.symm HNbc.out) HK6.out)
          have HW6 := Lib.hid ((bl_next HBr.out HBS5.out).trans (kept_to HK6.out (bl_next HBr.out HBS5.out).size HBb.out.ge))
          have HS2 := Lib.hid (snapT_calls HT6.out hl60 HLX.out HNM.out)
          have HP2 := Lib.hid (fun (U : World) (hb : Below w6.heap.size w6 U) (A : Option Addr) (c : Nat) hz => snapC_calls (A := A) (c := c) (HC6.out.below hb) (bl_next HW6.out hb).size (by omega) HTL.out (by rw [HLN.out]; omega) hjl HRT.out hz HMN.out HER.out HLN.out)
          clear hcell5 HS1 HP1 HT HAF HC HBb HBr HK6 HZ5 HBS5 HLF
          go_upto_region 23 with (first
            | (go_at_call 34; refine HS2.out.mono ?_; rintro e w7 ⟨A7, c7, rfl, hz, hb⟩; have HZ7 := Lib.hid hz.out; have HBS7 := Lib.hid hb; clear hz hb)
            | (go_at_call 44; refine (HP2.out w7 HBS7.out A7 c7 HZ7.out).mono ?_; rintro e w8 ⟨A8, n8, c8, rfl, ha, hk⟩; have HC8 := Lib.hid ha; have HK8 := Lib.hid hk; clear ha hk))
          obtain ⟨cs7, hcell7⟩ := (HC6.out.below HBS7.out).cell
          have HF8 := Lib.hid (show FinS w8 W.heap.size sp mb i xs.length M lv L ap bp cp i (0 + 1) (j + 1) (runL l).1 from ⟨(HT6.out.below HBS7.out).other hcell7 HK8.out, (HA6.out.below HBS7.out).other hcell7 HNac.out HK8.out, (HB6.out.below HBS7.out).other hcell7 HNbc.out HK8.out, HC8.out⟩)
          have HW8 := Lib.hid ((bl_next HW6.out HBS7.out).trans (kept_to HK8.out (bl_next HW6.out HBS7.out).size HC6.out.ge))
          clear hcell7 HS2 HP2 HT6 HA6 HB6 HC6 HC8 HK8 HZ7 HBS7 HW6
          have HVR := Lib.hid (sversion_calls w8 HF8.out.st.h.1)
          have HSM2 := Lib.hid (show OSmall (sortM (runL l).1) ∧ OSmall (sortM (runL l).1) ∧ nM ≤ 1000 ∧ nM ≤ 1000 from (by
            have h := sortM_small (runI HTL.out l.length (Nat.le_refl _)).inv
            rw [List.take_length] at h
            have := HMN.out
            exact ⟨h, h, by omega, by omega⟩))
          have HS9 := Lib.hid (fun (U : World) (hb : Below w8.heap.size w8 U) => snapT_calls (HF8.out.st.below hb) hl60 HLX.out HNM.out)
          have hfo := fieldE_objs
          go_upto_region 26 with (first
            | (go_at_call 36; refine HVR.out.mono ?_; rintro e w9 ⟨rfl, hb⟩; have HB9 := Lib.hid hb; clear hb)
            | (go_at_call 34; refine (HS9.out w9 HB9.out).mono ?_; rintro e w10 ⟨A10, c10, rfl, hz, hb⟩; have HZ10 := Lib.hid hz.out; have HB10 := Lib.hid (bl_next HB9.out hb); clear hz hb))
          have HF10 := Lib.hid (HF8.out.below HB10.out)
          have HW10 := Lib.hid (bl_next HW8.out HB10.out)
          have HOA := Lib.hid (HF10.out.a.objs HNM.out)
          have HOB := Lib.hid (fun (U : World) (hb : Below w10.heap.size w10 U) => (HF10.out.b.below hb).objs HNM.out)
          have HOC := Lib.hid (fun (U : World) (hb : Below w10.heap.size w10 U) => (HF10.out.c.below hb).objs HNM.out)
          clear HF8 HW8 HVR HS9 HB9 HB10 hfo
          go_upto_region 27 with (first
            | (go_at_call 47; refine HOA.out.mono ?_; rintro e w11 ⟨A11, c11, rfl, hz, hb⟩; have HZ11 := Lib.hid hz.out; have HY11 := Lib.hid (objsE_below HZ10.out hb); have HB11 := Lib.hid hb; clear hz hb)
            | (go_at_call 18; refine (robjI_calls w11 HZ11.out HY11.out HSM2.out).mono ?_; rintro e w12 ⟨rfl, hb⟩; have HB12 := Lib.hid (bl_next HB11.out hb); have HY12 := Lib.hid (objsE_below HY11.out hb); clear hb))
          go_upto_region 28 with (first
            | (go_at_call 47; refine (HOB.out w12 HB12.out).mono ?_; rintro e w13 ⟨A13, c13, rfl, hz, hb⟩; have HZ13 := Lib.hid hz.out; have HY13 := Lib.hid (objsE_below HY12.out hb); have HB13 := Lib.hid (bl_next HB12.out hb); clear hz hb)
            | (go_at_call 18; refine (robjI_calls w13 HZ13.out HY13.out HSM2.out).mono ?_; rintro e w14 ⟨rfl, hb⟩; have HB14 := Lib.hid (bl_next HB13.out hb); have HY14 := Lib.hid (objsE_below HY13.out hb); clear hb))
          go_upto_region 29 with (first
            | (go_at_call 47; refine (HOC.out w14 HB14.out).mono ?_; rintro e w15 ⟨A15, c15, rfl, hz, hb⟩; have HZ15 := Lib.hid hz.out; have HY15 := Lib.hid (objsE_below HY14.out hb); have HB15 := Lib.hid (bl_next HB14.out hb); clear hz hb)
            | (go_at_call 18; refine (robjI_calls w15 HZ15.out HY15.out HSM2.out).mono ?_; rintro e w16 ⟨rfl, hb⟩; have HB16 := Lib.hid (bl_next HB15.out hb); clear hb))
          go_wp2_with (go_at_call 27; refine (alive9_calls _).mono ?_; rintro e w17 ⟨rfl, hb⟩; have HB17 := Lib.hid (bl_next HB16.out hb); clear hb)
          go_ret
          exact ⟨ret_bool (by simp), bl_from HBw.out (bl_next HW10.out HB17.out)⟩
end Go.Proofs.Ythhfcambdmdgfaa

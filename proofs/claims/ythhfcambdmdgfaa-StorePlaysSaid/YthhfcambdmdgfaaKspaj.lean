import Derived.Test.YthhfcambdmdgfaaKspai
import Derived.Test.YthhfcambdmdgfaaKspag
namespace Go.Proofs.Ythhfcambdmdgfaa
open Go.RowKit Go.Maps Srt
set_option linter.unusedVariables false
set_option linter.unusedSimpArgs false
theorem objOf_put (M : AM KS OX) (k : KS) (v : OX) : objOf (putA ltKS M k v) k = v.1 := by unfold objOf; rw [getA_put, if_pos rfl]; rfl
structure ActIs (M : AM KS OX) (n : Int) (k : KS) (gone : Bool) (o : ObjD) (M1 : AM KS OX) : Prop where
  inv : PInv M1 (n + 1)
  has : hasA M1 k = !gone
  obj : gone = false → objOf M1 k = { o with ver := n + 1 }
  right : rightE ⟨wKind gone, { wObj gone o with ver := n + 1 }, 0, []⟩ = true
  small : objSmall (wObj gone o)
  len : M1.length ≤ M.length + 1
  key : (wObj gone o).key = o.key
theorem act_is {M : AM KS OX} {n : Int} {k : KS} {gone : Bool} {o : ObjD} (y : Value) (h : PInv M n) (hk : k.1 = o.key) (hs : objSmall o) (hn : 0 ≤ n) (he : wErr M k gone o = 0) : ActIs M n k gone o (wMap M k gone o n y) := by
  cases gone with
  | true =>
    have e1 : keyOk k.1 = true := by
      cases q : keyOk k.1 with
      | true => rfl
      | false => unfold wErr delErr at he; rw [if_pos rfl, q] at he; cases he
    refine ⟨h.del, has_del _ _, (fun q => by cases q), ?_, ⟨hs.1, (show (ByteArray.mk #[]).size ≤ 1000 by decide), (show (0:Nat) ≤ 300 by omega), by rintro p ⟨⟩⟩, Nat.le_trans (del_le _ _) (Nat.le_succ _), rfl⟩
    unfold rightE wKind wObj
    rw [if_pos rfl]
    rw [if_neg (show ¬ ((1 : Int) = 0) by decide), if_pos rfl]
    rw [if_pos rfl]
    rw [hk] at e1
    rw [Bool.and_eq_true]
    exact ⟨e1, decide_eq_true (show (1 : Int) ≤ n + 1 by omega)⟩
  | false =>
    have e1 : rightO { o with ver := 1 } = true := by
      cases q : rightO { o with ver := 1 } with
      | true => rfl
      | false => unfold wErr putErr at he; rw [if_neg (by decide), q] at he; cases he
    refine ⟨h.put e1 hk hs hn, has_put _ _ _, (fun _ => objOf_put _ _ _), rightO_ver e1 (by omega), hs, put_le _ _ _ _, rfl⟩
theorem y_at {w : World} {v : Value} {ys : List LY} (h : SliS w v 11 ys.length (yC ys)) {k : Nat} (hk : k < ys.length) : ∃ b off c, v = .slice (some ⟨b, off, none⟩) ys.length c ∧ EvAt w b (off + k * 11) (ys[k]'hk).1.1 (ys[k]'hk).1.2.1 (ys[k]'hk).1.2.2 0 (ys[k]'hk).2 := by
  obtain ⟨b, off, c, he, _, hx⟩ := h.at' hk
  have z : ∀ j u, j < 11 → (yX (ys[k]'hk))[j]? = some u → w.cell? ⟨b, off + k * 11 + j, none⟩ = some u := fun j u hj e => hx j hj u (by rw [show yC ys = ys.flatMap yX from rfl, flat_at yX 11 (fun _ => rfl) ys k hk j hj]; exact e)
  exact ⟨b, off, c, he, ⟨z 0 _ (by omega) rfl, z 1 _ (by omega) rfl, z 2 _ (by omega) rfl, z 3 _ (by omega) rfl, z 4 _ (by omega) rfl, z 5 _ (by omega) rfl, z 6 _ (by omega) rfl, z 7 _ (by omega) rfl, z 8 _ (by omega) rfl, z 9 _ (by omega) rfl, z 10 _ (by omega) rfl⟩⟩
theorem ly_len {ys : List LY} {L : List LX} (h : lyOf ys = lxOf L) : ys.length = L.length := by
  have := congrArg List.length h
  simpa [lyOf, lxOf] using this
theorem slogN_calls (w : World) {base sp mb : Nat} {ver : Int} {M : AM KS OX} {lv : Value} {L : List LX} {m : Nat} (h : StoreAt w base sp mb ver M lv L) (hS : ∀ e ∈ L, objSmall e.2.1) (hL : L.length ≤ 1000000) (hm : L.length = m) :
    Calls Try.prog 38 #[.pointer (some ⟨sp, 0, none⟩)] w fun e w' => ∃ A c, e = .returned (.slice A m c) ∧ Hid (∃ ys, LogF w' w.heap.size (.slice A m c) ys ∧ lyOf ys = lxOf L) ∧ Below w.heap.size w w' :=
  (slog_calls w h hS hL).mono fun e w' ⟨v, ys, h1, h2, h3, h4⟩ => by
    have hl := ly_len h3
    obtain ⟨A, c, rfl⟩ := rw_form h2.row
    rw [hl, hm] at h1 h2
    exact ⟨A, c, h1, Lib.hid ⟨ys, h2, h3⟩, h4⟩
theorem objsS_none (w : World) (A : Option Addr) (c : Nat) : ObjsS w (.slice A 0 c) [] := ⟨⟨rfl, A, c, rfl, Nat.zero_le _, .inl rfl⟩, by rintro p ⟨⟩⟩
end Go.Proofs.Ythhfcambdmdgfaa
namespace Go.Proofs.Ythhfcambdmdgfaa
open Go.RowKit Go.Maps Srt
set_option linter.unusedVariables false
set_option linter.unusedSimpArgs false
theorem act9_err {w : World} {base sp mb : Nat} {ver : Int} {M1 : Value → AM KS OX} {lv : Value} {L : List LX} {kd : Int} {o : ObjD} {er : Int} {vv er' : Int} {w' : World} (h : Act9 w base sp mb ver M1 lv L kd o er (.returned (.tuple #[.int .i64 vv, .int .i64 er'])) w') (he : er ≠ 0) : vv = 0 ∧ Below w.heap.size w w' := by
  obtain ⟨h1, h2⟩ := act9_no h he
  simp only [Ending.returned.injEq, Value.tuple.injEq, Array.mk.injEq, List.cons.injEq, Value.int.injEq, true_and, and_true] at h1
  exact ⟨h1.1, h2⟩
theorem act9_did {w : World} {base sp mb : Nat} {ver : Int} {M1 : Value → AM KS OX} {lv : Value} {L : List LX} {kd : Int} {o : ObjD} {er : Int} {vv er' : Int} {w' : World} (h : Act9 w base sp mb ver M1 lv L kd o er (.returned (.tuple #[.int .i64 vv, .int .i64 er'])) w') (he : er = 0) :
    vv = ver + 1 ∧ ∃ lv' x y, StoreAt w' base sp mb (ver + 1) (M1 y) lv' (L ++ [(kd, ({ o with ver := ver + 1 }, x))]) ∧ Kept (fun b => b = sp ∨ b = mb ∨ lv.ownBlock = some b) w w' := by
  rcases h with ⟨h1, _⟩ | ⟨_, lv', x, y, h2, h3, h4⟩
  · exact absurd he h1
  · simp only [Ending.returned.injEq, Value.tuple.injEq, Array.mk.injEq, List.cons.injEq, Value.int.injEq, true_and, and_true] at h2
    exact ⟨h2.1, lv', x, y, h3, h4⟩
def HoldsS (w : World) (base sp mb : Nat) (n k : Nat) (M : AM KS OX) (lv : Value) (L : List LX) : Prop := StoreAt w base sp mb n M lv L ∧ PInv M n ∧ L.length = n ∧ n ≤ k ∧ M.length ≤ n ∧ ∀ e ∈ L, objSmall e.2.1
end Go.Proofs.Ythhfcambdmdgfaa
namespace Go.Proofs.Ythhfcambdmdgfaa
open Go.RowKit Go.Maps Srt
set_option linter.unusedVariables false
set_option linter.unusedSimpArgs false
def evL (e : Int × ObjD) : EvD := ⟨e.1, e.2, 0, []⟩
noncomputable def stepLog (s : AO × AM KS Int) (e : Int × ObjD) : AO × AM KS Int := (nextM (evL e) 0 s.1 s.2, nextG (evL e) 0 s.2)
noncomputable def runL (l : List (Int × ObjD)) : AO × AM KS Int := l.foldl stepLog ([], [])
theorem runL_snoc (l : List (Int × ObjD)) (e : Int × ObjD) : runL (l ++ [e]) = stepLog (runL l) e := by unfold runL; rw [List.foldl_append]; rfl
/-- A log: Puts and Deletes that may be, with the versions 1, 2, .. -/
def ToldL (l : List (Int × ObjD)) : Prop := ∀ i (h : i < l.length), ((l[i]'h).1 = 0 ∨ (l[i]'h).1 = 1) ∧ rightE (evL (l[i]'h)) = true ∧ (l[i]'h).2.ver = (i : Int) + 1 ∧ objSmall (l[i]'h).2
theorem told_nil : ToldL [] := fun i h => absurd h (Nat.not_lt_zero _)
theorem told_snoc {l : List (Int × ObjD)} (h : ToldL l) {e : Int × ObjD} (hk : e.1 = 0 ∨ e.1 = 1) (hr : rightE (evL e) = true) (hv : e.2.ver = (l.length : Int) + 1) (hs : objSmall e.2) : ToldL (l ++ [e]) := by
  intro i hi
  by_cases hl : i < l.length
  · rw [List.getElem_append_left hl]; exact h i hl
  · rw [List.length_append, List.length_singleton] at hi
    obtain rfl : i = l.length := by omega
    rw [List.getElem_append_right (Nat.le_refl _)]
    simp only [Nat.sub_self, List.getElem_cons_zero]
    exact ⟨hk, hr, hv, hs⟩
theorem verG_drop2 {G : AM KS Int} (h : RiseA ltKS G) (f : Int) (k : KS) : verG (dropG G fun _ v => decide (v ≤ f)) k = verG G k ∨ verG (dropG G fun _ v => decide (v ≤ f)) k = 0 := by
  unfold verG
  rw [getA_drop (keys_nodup strictKS h) k]
  cases getA G k with
  | none => exact .inl rfl
  | some v =>
    by_cases hv : v ≤ f
    · right; simp [hv]
    · left; simp [hv]
/-- What holds of the state behind i events. -/
structure RunI (s : AO × AM KS Int) (i : Nat) : Prop where
  inv : CIn s.1 s.2 0
  kn : ∀ k, knownP 0 s.1 s.2 k ≤ i
  len : s.1.length ≤ i
  lenG : s.2.length ≤ i
theorem run_step {s : AO × AM KS Int} {i : Nat} (h : RunI s i) {e : Int × ObjD} (hk : e.1 = 0 ∨ e.1 = 1) (hr : rightE (evL e) = true) (hv : e.2.ver = (i : Int) + 1) (hs : objSmall e.2) :
    RunI (stepLog s e) (i + 1) ∧ staleP (evL e) 0 s.1 s.2 = false ∧ nextF (evL e) 0 = 0 := by
  have hk' : (evL e).kind = 0 ∨ (evL e).kind = 1 := hk
  have hst : staleP (evL e) 0 s.1 s.2 = false := by
    unfold staleP
    rw [verE_ok hr, if_pos hk', if_pos hk']
    refine decide_eq_false ?_
    have := h.kn (kOf (evL e).obj)
    have e1 : (evL e).obj.ver = (i : Int) + 1 := hv
    omega
  have hf : nextF (evL e) 0 = 0 := by unfold nextF; rw [if_pos hk']
  have hI := h.inv.next hr hst hs (fun o ho => by cases ho)
  rw [hf] at hI
  refine ⟨⟨hI, fun k => ?_, ?_, ?_⟩, hst, hf⟩
  · have hkn := h.kn k
    rcases hk' with h0 | h1
    · have hM : nextM (evL e) 0 s.1 s.2 = putA ltKS s.1 (kOf e.2) e.2 := by unfold nextM; rw [if_pos h0]; rfl
      have hG : nextG (evL e) 0 s.2 = dropG (delA s.2 (kOf e.2)) fun _ v => decide (v ≤ nextF (evL e) 0) := by unfold nextG; rw [if_pos h0]; rfl
      show knownP 0 (nextM (evL e) 0 s.1 s.2) (nextG (evL e) 0 s.2) k ≤ _
      rw [hM, hG]
      have hd := verG_drop2 (rise_del strictKS h.inv.riseG (kOf e.2)) (nextF (evL e) 0) k
      rw [verG_del] at hd
      unfold knownP at hkn ⊢
      rw [obA_put]
      by_cases hx : k = kOf e.2
      · rw [if_pos hx] at hd ⊢; omega
      · rw [if_neg hx] at hd ⊢; omega
    · have h0 : ¬ (evL e).kind = 0 := by omega
      have hM : nextM (evL e) 0 s.1 s.2 = delA s.1 (kOf e.2) := by unfold nextM; rw [if_neg h0, if_pos h1]; rfl
      have hG : nextG (evL e) 0 s.2 = dropG (putA ltKS s.2 (kOf e.2) e.2.ver) fun _ v => decide (v ≤ nextF (evL e) 0) := by unfold nextG; rw [if_neg h0, if_pos h1]; rfl
      show knownP 0 (nextM (evL e) 0 s.1 s.2) (nextG (evL e) 0 s.2) k ≤ _
      rw [hM, hG]
      have hd := verG_drop2 (rise_put strictKS h.inv.riseG (kOf e.2) e.2.ver) (nextF (evL e) 0) k
      rw [verG_put] at hd
      unfold knownP at hkn ⊢
      rw [obA_del]
      by_cases hx : k = kOf e.2
      · rw [if_pos hx] at hd ⊢; rw [zeroO_ver]; omega
      · rw [if_neg hx] at hd ⊢; omega
  · have := h.len
    show (nextM (evL e) 0 s.1 s.2).length ≤ _
    unfold nextM
    rcases hk' with h0 | h1
    · rw [if_pos h0]; exact Nat.le_trans (put_le _ _ _ _) (by omega)
    · rw [if_neg (by omega), if_pos h1]; exact Nat.le_trans (del_le _ _) (by omega)
  · have := h.lenG
    show (nextG (evL e) 0 s.2).length ≤ _
    unfold nextG
    refine Nat.le_trans (drop_le _ _) ?_
    rcases hk' with h0 | h1
    · rw [if_pos h0]; exact Nat.le_trans (del_le _ _) (by omega)
    · rw [if_neg (by omega), if_pos h1]; exact Nat.le_trans (put_le _ _ _ _) (by omega)
theorem runI {l : List (Int × ObjD)} (h : ToldL l) : ∀ i, i ≤ l.length → RunI (runL (l.take i)) i
  | 0, _ => ⟨by simpa [runL] using CIn.nil, fun k => by simp [runL]; show max (max (0:Int) 0) 0 ≤ 0; omega, by simp [runL], by simp [runL]⟩
  | i + 1, hi => by
    have ih := runI h i (by omega)
    have hl : i < l.length := by omega
    rw [List.take_succ_eq_append_getElem hl, runL_snoc]
    obtain ⟨h1, h2, h3, h4⟩ := h i hl
    exact (run_step ih h1 h2 h3 h4).1
theorem kOf_of {m : AO} {G : AM KS Int} {fl : Int} (h : CIn m G fl) {q : KS × ObjD} (hq : q ∈ m) : kOf q.2 = q.1 := Subtype.ext (by rw [kOf_key (h.objs q hq).2.2.2]; exact (h.objs q hq).2.1.symm)
theorem sortM_keys {m : AO} {G : AM KS Int} {fl : Int} (h : CIn m G fl) : ((sortM m).map kOf).Nodup ∧ ∀ o, o ∈ sortM m ↔ getA m (kOf o) = some o := by
  have hp : (m.map (·.2)).Perm (sortM m) := stab_perm (Stab_symm (srtX_stab _))
  have e : (m.map (·.2)).map kOf = m.map (·.1) := by rw [List.map_map]; exact List.map_congr_left fun q hq => kOf_of h hq
  refine ⟨?_, fun o => ?_⟩
  · rw [← (hp.map kOf).nodup_iff, e]; exact keys_nodup strictKS h.rise
  · rw [← hp.mem_iff, List.mem_map, get_mem strictKS h.rise]
    constructor
    · rintro ⟨q, hq, rfl⟩; rw [kOf_of h hq]; exact hq
    · intro hq; exact ⟨_, hq, rfl⟩
end Go.Proofs.Ythhfcambdmdgfaa
namespace Go.Proofs.Ythhfcambdmdgfaa
open Go.RowKit Go.Maps Srt
set_option linter.unusedVariables false
set_option linter.unusedSimpArgs false
def keyQ (a b : KeyD) : Bool := decide (a.kind = b.kind) && (decide (a.space = b.space) && decide (a.name = b.name))
theorem keyQ_eq {a b : KeyD} : keyQ a b = true ↔ a = b := by
  unfold keyQ
  constructor
  · intro h
    simp only [Bool.and_eq_true, decide_eq_true_eq] at h
    exact keyD_ext h.1 h.2.1 h.2.2
  · intro h; subst h; simp
theorem keyIfN3 (a b c a' b' c' : ByteArray) (w : World) {q : Bool} (hq : (!(decide (a = a') && (decide (b = b') && decide (c = c')))) = q) : (if a.toList = a'.toList then if b.toList = b'.toList then if c.toList = c'.toList then Result.ok (Next.value (Value.bool false)) w else Result.ok (Next.value (Value.bool true)) w else Result.ok (Next.value (Value.bool true)) w else Result.ok (Next.value (Value.bool true)) w)
    = .ok (.value (.bool q)) w := by
  rw [← hq]
  simp only [ba_eq]
  by_cases h1 : a = a' <;> by_cases h2 : b = b' <;> by_cases h3 : c = c' <;> simp [h1, h2, h3]
def gL (l : List (Int × ObjD)) (j : Nat) : Int × ObjD := l.getD j (0, zeroO)
theorem gL_at {l : List (Int × ObjD)} {j : Nat} (h : j < l.length) : gL l j = l[j]'h := by unfold gL; simp [List.getD_eq_getElem?_getD, h]
def lastN (l : List (Int × ObjD)) (i k : Nat) : Bool := (List.range k).all fun j => decide (j ≤ i) || !keyQ (gL l j).2.key (gL l i).2.key
theorem lastN_start (l : List (Int × ObjD)) (i : Nat) : lastN l i (i + 1) = true := by
  unfold lastN
  rw [List.all_eq_true]
  intro j hj
  rw [List.mem_range] at hj
  rw [decide_eq_true (by omega)]; rfl
theorem lastN_succ (l : List (Int × ObjD)) {i k : Nat} (h : i < k) : lastN l i (k + 1) = (lastN l i k && !keyQ (gL l k).2.key (gL l i).2.key) := by
  unfold lastN
  rw [List.range_succ, List.all_append]
  simp only [List.all_cons, List.all_nil, Bool.and_true]
  rw [decide_eq_false (by omega), Bool.false_or]
def liveN (l : List (Int × ObjD)) : Nat → List ObjD
  | 0 => []
  | i + 1 => liveN l i ++ (if lastN l i l.length && decide ((gL l i).1 = 0) then [(gL l i).2] else [])
theorem liveN_len (l : List (Int × ObjD)) : ∀ i, (liveN l i).length ≤ i
  | 0 => Nat.le_refl _
  | i + 1 => by
    have := liveN_len l i
    unfold liveN
    rw [List.length_append]
    split
    · simp; omega
    · simp; omega
structure RefS9 (w W : World) (base mp : Nat) (v : Value) (RL : List LX) : Prop where
  cell : w.heap[mp]? = some (.cells #[v] 50)
  row : w.ownsRow base 30 11 v RL.length (lgC RL)
  args : ∀ e ∈ RL, ObjS W e.2.2 e.2.1
  small : ∀ e ∈ RL, objSmall e.2.1
  ge : base ≤ mp
theorem RefS9.below {w w' W : World} {base mp : Nat} {v : Value} {RL : List LX} (h : RefS9 w W base mp v RL) (hb : Below w.heap.size w w') : RefS9 w' W base mp v RL := ⟨blk_below h.cell hb, rw_below h.row hb, h.args, h.small, h.ge⟩
theorem app_objl {ops : Array Oper} {rest : List Oper} {o : Oper} {a : Act} {Q : Exit → Act → World → Prop} {w : World} (hgd : o.guard = none) (s x : Operand)
    (ho : o.op = .call { callee := .builtin .append, args := #[s, x], argTypes := #[28, 28] })
    (base : Nat) (tb : TypeId) (v : Value) (n : Nat) (l : List OX) (ob : ObjD) (ao : Option Addr) (n1 c1 : Nat) (hs : a.eval s = v) (hown : w.ownsRow base 27 8 v n (objC l)) (c : Nat) (hx : a.eval x = .slice (some ⟨w.heap.size, 0, none⟩) 1 c)
    (hbase : base ≤ w.heap.size) (hlen : n + 1 ≤ 100000000)
    (h : ∀ g cap w1, w1.ownsRow base 27 8 (.slice (some ⟨g, 0, none⟩) (n + 1) cap) (n + 1) (objC (l ++ [(ob, .slice ao n1 c1)])) → Kept (fun k => v.ownBlock = some k) w w1 → (v.ownBlock = some g ∨ w.heap.size < g) → wpList Try.prog ops Q rest (a.put o.dst (.slice (some ⟨g, 0, none⟩) (n + 1) cap)) w1) :
    wpList Try.prog ops Q (o :: rest) a (w.alloc (.cells #[.string ob.key.kind, .string ob.key.space, .string ob.key.name, .int .i64 ob.ver, .string ob.cls, .bool ob.term, .bool ob.best, .slice ao n1 c1] tb)) := by
  obtain ⟨i0, hi, hz0, hz1, hz2⟩ := info_parts info_obj
  refine app_rw hgd s x _ ho base _ i0 _ 8 104 Try.underlying28 hi hz0 hz1 hz2 rfl (by decide) tb v n (objC l) [.string ob.key.kind, .string ob.key.space, .string ob.key.name, .int .i64 ob.ver, .string ob.cls, .bool ob.term, .bool ob.best, .slice ao n1 c1] hs hown c hx rfl (by simp [Value.oneCell']) hbase hlen (by decide) ?_
  intro g cap w1 h1 h2 h3
  refine h g cap w1 ?_ h2 h3
  rw [objC_app]
  exact h1
/-- Objects of a list of the call's own, their charges where they were in W. -/
def ObjsA (w W : World) (b : Nat) (v : Value) (ys : List OX) (l : List ObjD) : Prop := w.ownsRow b 27 8 v ys.length (objC ys) ∧ oxs ys = l ∧ ∀ p ∈ ys, ObjS W p.2 p.1 ∧ objSmall p.1
theorem ObjsA.below {w w' W : World} {b : Nat} {v : Value} {ys : List OX} {l : List ObjD} (h : ObjsA w W b v ys l) (hb : Below w.heap.size w w') : ObjsA w' W b v ys l := ⟨rw_below h.1 hb, h.2⟩
theorem ObjsA.objsS {w W : World} {b : Nat} {v : Value} {ys : List OX} {l : List ObjD} (h : ObjsA w W b v ys l) (hb : Below W.heap.size W w) : ObjsS w v ys := ⟨sliS_of h.1, fun p hp => (h.2.2 p hp).1.below hb⟩
theorem bl_from' {W w a : World} (h : Below W.heap.size W w) (hb : Below w.heap.size w a) : Below W.heap.size W a := bl_next h hb
set_option maxRecDepth 100000 in
set_option maxHeartbeats 8000000 in
theorem rlive_calls (w : World) {W : World} {base mp : Nat} {v : Value} {RL : List LX} (h : RefS9 w W base mp v RL) (hW : Below W.heap.size W w) (hl : RL.length ≤ 1000) {l : List (Int × ObjD)} (hle : lxOf RL = l) :
    Calls Try.prog 67 #[.pointer (some ⟨mp, 0, none⟩)] w fun e w' => ∃ A c zs, e = .returned (.slice A zs.length c) ∧ ObjsS w' (.slice A zs.length c) zs ∧ oxs zs = srtX kTO (liveN l l.length) ∧ ((∀ p ∈ zs, ObjS W p.2 p.1 ∧ objSmall p.1) ∧ w'.ownsRow w.heap.size 27 8 (.slice A zs.length c) zs.length (objC zs)) ∧ Below w.heap.size w w' := by
  have HR := Lib.hid h
  have HL := Lib.hid (And.intro hl hW)
  have m0 : w.cell? ⟨mp, 0, none⟩ = some v := blk_cell h.cell 0
  obtain ⟨A, c, rfl⟩ := rw_form h.row
  have HLE := Lib.hid hle
  have hll : l.length = RL.length := by rw [← hle]; simp [lxOf]
  have HLL := Lib.hid hll
  obtain ⟨n, hn⟩ : ∃ n, RL.length = n := ⟨_, rfl⟩
  have HN := Lib.hid hn
  rw [hn] at m0
  have hmp := blk_lt h.cell
  have hn1 : n ≤ 1000 := by omega
  clear h hW hl hle hll hn
  have hB := Below.refl w.heap.size w
  go_enter Try.func67, Try.ntmps67
  go_wp2_with fail
  go_loopw [3, 4] (fun s3 s4 wr => ∃ (i m c2 : Nat) (A2 : Option Addr) (ys : List OX), s4 = .int .i64 (i : Int) ∧ i ≤ n ∧ s3 = .slice A2 m c2 ∧ m ≤ i ∧ Hid (ys.length = m ∧ ObjsA wr W w.heap.size (.slice A2 m c2) ys (liveN l i)) ∧ Hid (Below w.heap.size w wr)) (fun _ s4 _ => n - (intOf s4).toNat)
  case atStart => exact ⟨0, 0, 0, none, [], rfl, Nat.zero_le _, rfl, Nat.le_refl _, Lib.hid ⟨rfl, ⟨rfl, .inl ⟨rfl, rfl⟩⟩, rfl, by rintro p ⟨⟩⟩, Lib.hid hB⟩
  case round =>
    clear hB
    obtain ⟨i, m, c2, A2, ys, rfl, hi, rfl, hm, HY, HBr⟩ := hrel
    obtain ⟨V, rfl⟩ : ∃ U : World, U = wr := ⟨_, rfl⟩
    have m1 := cb HBr.out m0
    by_cases hil : i < n
    · have hiI : (i : Int) < n := by omega
      have hir : i < RL.length := by rw [HN.out]; exact hil
      obtain ⟨b, of, c9, he, q⟩ := log_at (sliS_of HR.out.row) hir
      rw [HN.out] at he
      cases he
      have HXI := Lib.hid (show gL l i = ((RL[i]'hir).1, (RL[i]'hir).2.1) by rw [gL_at (by rw [HLL.out]; exact hir)]; simp [← HLE.out, lxOf])
      have HAI := Lib.hid (HR.out.args _ (List.getElem_mem hir))
      have HSI := Lib.hid (HR.out.small _ (List.getElem_mem hir))
      generalize RL[i]'hir = x at q HXI HAI HSI
      obtain ⟨kd, o, so⟩ := x
      obtain ⟨ao, co, hso⟩ := HAI.out.1.form
      simp only at hso q HXI HAI HSI
      subst hso
      have QI := Lib.hid q
      clear q
      go_wp2_with fail
      go_loopw [5, 6] (fun s5 s6 wr => ∃ (k : Nat), s6 = .int .i64 (k : Int) ∧ i + 1 ≤ k ∧ k ≤ n ∧ s5 = .bool (lastN l i k) ∧ Hid (Below V.heap.size V wr)) (fun _ s6 _ => n - (intOf s6).toNat)
      case atStart => exact ⟨i + 1, by simp, Nat.le_refl _, by omega, by rw [lastN_start], Lib.hid (Below.refl _ _)⟩
      case round =>
        obtain ⟨k, rfl, hk1, hk, rfl, HBk⟩ := hrel
        have HBkw := Lib.hid (bl_next HBr.out HBk.out)
        have m2 := cb HBk.out m1
        by_cases hkl : k < n
        · have hkI : (k : Int) < n := by omega
          have hkr : k < RL.length := by rw [HN.out]; exact hkl
          obtain ⟨b', of', c', he', q⟩ := log_at (sliS_of HR.out.row) hkr
          rw [HN.out] at he'
          cases he'
          have HXK := Lib.hid (show gL l k = ((RL[k]'hkr).1, (RL[k]'hkr).2.1) by rw [gL_at (by rw [HLL.out]; exact hkr)]; simp [← HLE.out, lxOf])
          generalize RL[k]'hkr = y at q HXK
          obtain ⟨kd2, o2, so2⟩ := y
          simp only at q HXK
          have HSU := Lib.hid (show lastN l i (k + 1) = (lastN l i k && !keyQ o2.key o.key) by rw [lastN_succ l (by omega), HXK.out, HXI.out])
          have q1 := q.below HBkw.out
          have q2 := QI.out.below HBkw.out
          have d1 := q1.c1
          have d2 := q1.c2
          have d3 := q1.c3
          have e1 := q2.c1
          have e2 := q2.c2
          have e3 := q2.c3
          obtain ⟨kq, hkq⟩ : ∃ z, (!(decide (o2.key.kind = o.key.kind) && (decide (o2.key.space = o.key.space) && decide (o2.key.name = o.key.name)))) = z := ⟨_, rfl⟩
          have HKQ := Lib.hid hkq
          have HSU2 := Lib.hid (show lastN l i (k + 1) = (lastN l i k && kq) by rw [HSU.out, ← hkq]; rfl)
          obtain ⟨lb, hlb⟩ : ∃ z, lastN l i k = z := ⟨_, rfl⟩
          rw [hlb] at HSU2 ⊢
          clear q q1 q2 hkq hlb HSU
          obtain ⟨Z, rfl⟩ : ∃ U : World, U = wr := ⟨_, rfl⟩
          have hB := Below.refl Z.heap.size Z
          cases lb with
          | true =>
            go_upto_region 9 with fail
            have hB := hB.drew
            refine region_seq (fun w' => Below Z.heap.size Z w') [(0, true), (1, true), (2, true), (3, true), (4, true), (5, true), (6, true), (7, true), (8, true), (9, true), (10, true), (11, true), (12, true), (13, true), (14, true), (15, true), (16, true), (17, true), (18, true), (19, true), (20, true), (21, true), (22, true)] (by kernel_rfl) (by kernel_rfl) (fun _ _ _ _ h => h) hB ?_
            try generalize World.drew _ = wS at hB ⊢
            refine seq_take (v := ?_) (a' := ?_) (some 27) rfl rfl (by rfl) ?_ ?_ ?_
            rotate_left; rotate_left
            · intro w' hS; go_simp; with_reducible rfl
            · simp only [Act.put, List.setIfInBounds_toArray, List.set_cons_zero, List.set_cons_succ]; rfl
            refine seq_take (v := ?_) (a' := ?_) (some 28) rfl rfl (by rfl) ?_ ?_ ?_
            rotate_left; rotate_left
            · intro w' hS; go_simp; with_reducible rfl
            · simp only [Act.put, List.setIfInBounds_toArray, List.set_cons_zero, List.set_cons_succ]; rfl
            refine seq_take (v := ?_) (a' := ?_) (some 29) rfl rfl (by rfl) ?_ ?_ ?_
            rotate_left; rotate_left
            · intro w' hS; go_simp; with_reducible rfl
            · simp only [Act.put, List.setIfInBounds_toArray, List.set_cons_zero, List.set_cons_succ]; rfl
            refine seq_take (v := ?_) (a' := ?_) (some 30) rfl rfl (by rfl) ?_ ?_ ?_
            rotate_left; rotate_left
            · intro w' hS; go_simp; with_reducible rfl
            · simp only [Act.put, List.setIfInBounds_toArray, List.set_cons_zero, List.set_cons_succ]; rfl
            refine seq_take (v := ?_) (a' := ?_) (some 31) rfl rfl (by rfl) ?_ ?_ ?_
            rotate_left; rotate_left
            · intro w' hS; go_simp; with_reducible rfl
            · simp only [Act.put, List.setIfInBounds_toArray, List.set_cons_zero, List.set_cons_succ]; rfl
            refine seq_take (v := ?_) (a' := ?_) (some 32) rfl rfl (by rfl) ?_ ?_ ?_
            rotate_left; rotate_left
            · intro w' hS; have q0 := cb hS m2; have q1 := cb hS d1; have q2 := cb hS d2; have q3 := cb hS d3; have q4 := cb hS e1; have q5 := cb hS e2; have q6 := cb hS e3; go_simp; with_reducible rfl
            · simp only [Act.put, List.setIfInBounds_toArray, List.set_cons_zero, List.set_cons_succ]; rfl
            refine seq_take (v := ?_) (a' := ?_) (some 33) rfl rfl (by rfl) ?_ ?_ ?_
            rotate_left; rotate_left
            · intro w' hS; go_simp; with_reducible rfl
            · simp only [Act.put, List.setIfInBounds_toArray, List.set_cons_zero, List.set_cons_succ]; rfl
            refine seq_take (v := ?_) (a' := ?_) (some 34) rfl rfl (by rfl) ?_ ?_ ?_
            rotate_left; rotate_left
            · intro w' hS; go_simp; with_reducible rfl
            · simp only [Act.put, List.setIfInBounds_toArray, List.set_cons_zero, List.set_cons_succ]; rfl
            refine seq_take (v := ?_) (a' := ?_) (some 35) rfl rfl (by rfl) ?_ ?_ ?_
            rotate_left; rotate_left
            · intro w' hS; go_simp; with_reducible rfl
            · simp only [Act.put, List.setIfInBounds_toArray, List.set_cons_zero, List.set_cons_succ]; rfl
            refine seq_take (v := ?_) (a' := ?_) (some 36) rfl rfl (by rfl) ?_ ?_ ?_
            rotate_left; rotate_left
            · intro w' hS; go_simp; with_reducible rfl
            · simp only [Act.put, List.setIfInBounds_toArray, List.set_cons_zero, List.set_cons_succ]; rfl
            refine seq_take (v := ?_) (a' := ?_) (some 37) rfl rfl (by rfl) ?_ ?_ ?_
            rotate_left; rotate_left
            · intro w' hS; have q0 := cb hS m2; have q1 := cb hS d1; have q2 := cb hS d2; have q3 := cb hS d3; have q4 := cb hS e1; have q5 := cb hS e2; have q6 := cb hS e3; go_simp; with_reducible rfl
            · simp only [Act.put, List.setIfInBounds_toArray, List.set_cons_zero, List.set_cons_succ]; rfl
            refine seq_take (v := ?_) (a' := ?_) (some 38) rfl rfl (by rfl) ?_ ?_ ?_
            rotate_left; rotate_left
            · intro w' hS; go_simp; with_reducible rfl
            · simp only [Act.put, List.setIfInBounds_toArray, List.set_cons_zero, List.set_cons_succ]; rfl
            refine seq_take (v := ?_) (a' := ?_) (some 39) rfl rfl (by rfl) ?_ ?_ ?_
            rotate_left; rotate_left
            · intro w' hS; go_simp; with_reducible rfl
            · simp only [Act.put, List.setIfInBounds_toArray, List.set_cons_zero, List.set_cons_succ]; rfl
            refine seq_take (v := ?_) (a' := ?_) (some 40) rfl rfl (by rfl) ?_ ?_ ?_
            rotate_left; rotate_left
            · intro w' hS; go_simp; with_reducible rfl
            · simp only [Act.put, List.setIfInBounds_toArray, List.set_cons_zero, List.set_cons_succ]; rfl
            refine seq_take (v := ?_) (a' := ?_) (some 41) rfl rfl (by rfl) ?_ ?_ ?_
            rotate_left; rotate_left
            · intro w' hS; have q0 := cb hS m2; have q1 := cb hS d1; have q2 := cb hS d2; have q3 := cb hS d3; have q4 := cb hS e1; have q5 := cb hS e2; have q6 := cb hS e3; go_simp; with_reducible rfl
            · simp only [Act.put, List.setIfInBounds_toArray, List.set_cons_zero, List.set_cons_succ]; rfl
            refine seq_take (v := ?_) (a' := ?_) (some 42) rfl rfl (by rfl) ?_ ?_ ?_
            rotate_left; rotate_left
            · intro w' hS; go_simp; with_reducible rfl
            · simp only [Act.put, List.setIfInBounds_toArray, List.set_cons_zero, List.set_cons_succ]; rfl
            refine seq_take (v := ?_) (a' := ?_) (some 43) rfl rfl (by rfl) ?_ ?_ ?_
            rotate_left; rotate_left
            · intro w' hS; go_simp; with_reducible rfl
            · simp only [Act.put, List.setIfInBounds_toArray, List.set_cons_zero, List.set_cons_succ]; rfl
            refine seq_take (v := ?_) (a' := ?_) (some 44) rfl rfl (by rfl) ?_ ?_ ?_
            rotate_left; rotate_left
            · intro w' hS; go_simp; with_reducible rfl
            · simp only [Act.put, List.setIfInBounds_toArray, List.set_cons_zero, List.set_cons_succ]; rfl
            refine seq_take (v := ?_) (a' := ?_) (some 45) rfl rfl (by rfl) ?_ ?_ ?_
            rotate_left; rotate_left
            · intro w' hS; go_simp; with_reducible rfl
            · simp only [Act.put, List.setIfInBounds_toArray, List.set_cons_zero, List.set_cons_succ]; rfl
            refine seq_take (v := ?_) (a' := ?_) (some 46) rfl rfl (by rfl) ?_ ?_ ?_
            rotate_left; rotate_left
            · intro w' hS; have q0 := cb hS m2; have q1 := cb hS d1; have q2 := cb hS d2; have q3 := cb hS d3; have q4 := cb hS e1; have q5 := cb hS e2; have q6 := cb hS e3; go_simp; with_reducible rfl
            · simp only [Act.put, List.setIfInBounds_toArray, List.set_cons_zero, List.set_cons_succ]; rfl
            refine seq_take (v := ?_) (a' := ?_) (some 47) rfl rfl (by rfl) ?_ ?_ ?_
            rotate_left; rotate_left
            · intro w' hS; (first | (go_simp; with_reducible rfl) | (go_simp; exact keyIfN3 _ _ _ _ _ _ _ HKQ.out))
            · simp only [Act.put, List.setIfInBounds_toArray, List.set_cons_zero, List.set_cons_succ]; rfl
            refine seq_take (v := ?_) (a' := ?_) (some 48) rfl rfl (by rfl) ?_ ?_ ?_
            rotate_left; rotate_left
            · intro w' hS; go_simp; with_reducible rfl
            · simp only [Act.put, List.setIfInBounds_toArray, List.set_cons_zero, List.set_cons_succ]; rfl
            refine seq_take (v := ?_) (a' := ?_) (some 5) rfl rfl (by rfl) ?_ ?_ ?_
            rotate_left; rotate_left
            · intro w' hS; go_simp; with_reducible rfl
            · simp only [Act.put, List.setIfInBounds_toArray, List.set_cons_zero, List.set_cons_succ]; rfl
            refine seq_done ?_
            have HBz := Lib.hid (bl_next HBk.out hB)
            clear hB d1 d2 d3 e1 e2 e3
            go_wp2_with fail
            go_roundw
            case rel => exact ⟨k + 1, by simp, by omega, by omega, by rw [HSU2.out]; rfl, HBz⟩
            case measure => simp [intOf]; omega
          | false =>
            go_upto_region 9 with fail
            have hB := hB.drew
            refine region_seq (fun w' => Below Z.heap.size Z w') [(0, true), (1, true), (2, true), (3, true), (4, true), (5, true), (6, true), (7, true), (8, true), (9, true), (10, true), (11, true), (12, true), (13, true), (14, true), (15, true), (16, true), (17, true), (18, true), (19, true), (20, true), (21, true), (22, true)] (by kernel_rfl) (by kernel_rfl) (fun _ _ _ _ h => h) hB ?_
            try generalize World.drew _ = wS at hB ⊢
            refine seq_take (v := ?_) (a' := ?_) (some 27) rfl rfl (by rfl) ?_ ?_ ?_
            rotate_left; rotate_left
            · intro w' hS; go_simp; with_reducible rfl
            · simp only [Act.put, List.setIfInBounds_toArray, List.set_cons_zero, List.set_cons_succ]; rfl
            refine seq_take (v := ?_) (a' := ?_) (some 28) rfl rfl (by rfl) ?_ ?_ ?_
            rotate_left; rotate_left
            · intro w' hS; go_simp; with_reducible rfl
            · simp only [Act.put, List.setIfInBounds_toArray, List.set_cons_zero, List.set_cons_succ]; rfl
            refine seq_skip (a' := ?_) (some 29) rfl rfl (by rfl) ?_ ?_
            rotate_left
            · simp only [Act.put, List.setIfInBounds_toArray, List.set_cons_zero, List.set_cons_succ]; rfl
            refine seq_skip (a' := ?_) (some 30) rfl rfl (by rfl) ?_ ?_
            rotate_left
            · simp only [Act.put, List.setIfInBounds_toArray, List.set_cons_zero, List.set_cons_succ]; rfl
            refine seq_skip (a' := ?_) (some 31) rfl rfl (by rfl) ?_ ?_
            rotate_left
            · simp only [Act.put, List.setIfInBounds_toArray, List.set_cons_zero, List.set_cons_succ]; rfl
            refine seq_skip (a' := ?_) (some 32) rfl rfl (by rfl) ?_ ?_
            rotate_left
            · simp only [Act.put, List.setIfInBounds_toArray, List.set_cons_zero, List.set_cons_succ]; rfl
            refine seq_skip (a' := ?_) (some 33) rfl rfl (by rfl) ?_ ?_
            rotate_left
            · simp only [Act.put, List.setIfInBounds_toArray, List.set_cons_zero, List.set_cons_succ]; rfl
            refine seq_skip (a' := ?_) (some 34) rfl rfl (by rfl) ?_ ?_
            rotate_left
            · simp only [Act.put, List.setIfInBounds_toArray, List.set_cons_zero, List.set_cons_succ]; rfl
            refine seq_skip (a' := ?_) (some 35) rfl rfl (by rfl) ?_ ?_
            rotate_left
            · simp only [Act.put, List.setIfInBounds_toArray, List.set_cons_zero, List.set_cons_succ]; rfl
            refine seq_skip (a' := ?_) (some 36) rfl rfl (by rfl) ?_ ?_
            rotate_left
            · simp only [Act.put, List.setIfInBounds_toArray, List.set_cons_zero, List.set_cons_succ]; rfl
            refine seq_skip (a' := ?_) (some 37) rfl rfl (by rfl) ?_ ?_
            rotate_left
            · simp only [Act.put, List.setIfInBounds_toArray, List.set_cons_zero, List.set_cons_succ]; rfl
            refine seq_skip (a' := ?_) (some 38) rfl rfl (by rfl) ?_ ?_
            rotate_left
            · simp only [Act.put, List.setIfInBounds_toArray, List.set_cons_zero, List.set_cons_succ]; rfl
            refine seq_skip (a' := ?_) (some 39) rfl rfl (by rfl) ?_ ?_
            rotate_left
            · simp only [Act.put, List.setIfInBounds_toArray, List.set_cons_zero, List.set_cons_succ]; rfl
            refine seq_skip (a' := ?_) (some 40) rfl rfl (by rfl) ?_ ?_
            rotate_left
            · simp only [Act.put, List.setIfInBounds_toArray, List.set_cons_zero, List.set_cons_succ]; rfl
            refine seq_skip (a' := ?_) (some 41) rfl rfl (by rfl) ?_ ?_
            rotate_left
            · simp only [Act.put, List.setIfInBounds_toArray, List.set_cons_zero, List.set_cons_succ]; rfl
            refine seq_skip (a' := ?_) (some 42) rfl rfl (by rfl) ?_ ?_
            rotate_left
            · simp only [Act.put, List.setIfInBounds_toArray, List.set_cons_zero, List.set_cons_succ]; rfl
            refine seq_skip (a' := ?_) (some 43) rfl rfl (by rfl) ?_ ?_
            rotate_left
            · simp only [Act.put, List.setIfInBounds_toArray, List.set_cons_zero, List.set_cons_succ]; rfl
            refine seq_skip (a' := ?_) (some 44) rfl rfl (by rfl) ?_ ?_
            rotate_left
            · simp only [Act.put, List.setIfInBounds_toArray, List.set_cons_zero, List.set_cons_succ]; rfl
            refine seq_skip (a' := ?_) (some 45) rfl rfl (by rfl) ?_ ?_
            rotate_left
            · simp only [Act.put, List.setIfInBounds_toArray, List.set_cons_zero, List.set_cons_succ]; rfl
            refine seq_skip (a' := ?_) (some 46) rfl rfl (by rfl) ?_ ?_
            rotate_left
            · simp only [Act.put, List.setIfInBounds_toArray, List.set_cons_zero, List.set_cons_succ]; rfl
            refine seq_skip (a' := ?_) (some 47) rfl rfl (by rfl) ?_ ?_
            rotate_left
            · simp only [Act.put, List.setIfInBounds_toArray, List.set_cons_zero, List.set_cons_succ]; rfl
            refine seq_take (v := ?_) (a' := ?_) (some 48) rfl rfl (by rfl) ?_ ?_ ?_
            rotate_left; rotate_left
            · intro w' hS; go_simp; with_reducible rfl
            · simp only [Act.put, List.setIfInBounds_toArray, List.set_cons_zero, List.set_cons_succ]; rfl
            refine seq_take (v := ?_) (a' := ?_) (some 5) rfl rfl (by rfl) ?_ ?_ ?_
            rotate_left; rotate_left
            · intro w' hS; go_simp; with_reducible rfl
            · simp only [Act.put, List.setIfInBounds_toArray, List.set_cons_zero, List.set_cons_succ]; rfl
            refine seq_done ?_
            have HBz := Lib.hid (bl_next HBk.out hB)
            clear hB d1 d2 d3 e1 e2 e3
            go_wp2_with fail
            go_roundw
            case rel => exact ⟨k + 1, by simp, by omega, by omega, by rw [HSU2.out]; rfl, HBz⟩
            case measure => simp [intOf]; omega
        · obtain rfl : k = n := by omega
          have HLV := Lib.hid (show liveN l (i + 1) = liveN l i ++ (if lastN l i k && decide (kd = 0) then [o] else []) by rw [liveN, HXI.out, HLL.out, HN.out])
          have q2 := QI.out.below HBkw.out
          have HYK := Lib.hid (show ys.length = m ∧ ObjsA wr W w.heap.size (.slice A2 m c2) ys (liveN l i) from ⟨HY.out.1, HY.out.2.below HBk.out⟩)
          obtain ⟨lb, hlb⟩ : ∃ z, lastN l i k = z := ⟨_, rfl⟩
          rw [hlb] at HLV ⊢
          have d0 := q2.c0
          have d1 := q2.c1
          have d2 := q2.c2
          have d3 := q2.c3
          have d4 := q2.c4
          have d5 := q2.c5
          have d6 := q2.c6
          have d7 := q2.c7
          have d8 := q2.c8
          clear q2 hlb HY HBk
          cases lb with
          | false =>
            clear d1 d2 d3 d4 d5 d6 d7 d8
            go_wp2_with fail
            go_roundw
            case rel => exact ⟨i + 1, m, c2, A2, ys, by simp, by omega, rfl, by omega, Lib.hid ⟨HYK.out.1, by rw [HLV.out]; simpa using HYK.out.2⟩, HBkw⟩
            case measure => simp [intOf]; omega
          | true =>
            by_cases h0 : kd = 0
            · subst h0
              go_upto_region 4 with (at_builtin; refine app_objl rfl (.tmp 61) (.tmp 70) rfl w.heap.size _ (.slice A2 m c2) m ys o ao _ co rfl (by have h := HYK.out.2.1; rw [HYK.out.1] at h; exact h) 1 rfl HBkw.out.size (by have := HL.out.1; have := HN.out; omega) ?_; intro g6 cap6 w6 hown6 hk6 hat6; have HR6 := Lib.hid hown6; have HK6 := Lib.hid hk6; clear hown6 hk6 hat6; clear d0 d1 d2 d3 d4 d5 d6 d7 d8)
              have hrow : wr.ownsRow w.heap.size 27 8 (.slice A2 m c2) m (objC ys) := by have h := HYK.out.2.1; rw [HYK.out.1] at h; exact h
              have HB6 := Lib.hid (show Below w.heap.size w w6 from HBkw.out.trans (HK6.out.below HBkw.out.size (fun q hq => (rw_type hrow hq).1)))
              clear hrow
              go_wp2_with fail
              go_roundw
              case rel => exact ⟨i + 1, m + 1, cap6, _, ys ++ [(o, .slice ao o.charge.length co)], by simp, by omega, rfl, by omega, Lib.hid ⟨by rw [List.length_append, HYK.out.1]; rfl, by rw [List.length_append, HYK.out.1]; exact HR6.out, by rw [HLV.out]; simp [oxs]; simpa [oxs] using HYK.out.2.2.1, fun p hp => by
                rcases List.mem_append.1 hp with r | r
                · exact HYK.out.2.2.2 p r
                · obtain rfl := List.mem_singleton.1 r; exact ⟨HAI.out, HSI.out⟩⟩, HB6⟩
              case measure => simp [intOf]; omega
            · have n0 : (kd == 0) = false := by simpa using h0
              clear d1 d2 d3 d4 d5 d6 d7 d8
              go_wp2_with fail
              go_roundw
              case rel => exact ⟨i + 1, m, c2, A2, ys, by simp, by omega, rfl, by omega, Lib.hid ⟨HYK.out.1, by rw [HLV.out, decide_eq_false h0]; simpa using HYK.out.2⟩, HBkw⟩
              case measure => simp [intOf]; omega
    · obtain rfl : i = n := by omega
      have hys := HY.out.2
      have HO := Lib.hid (rsorted_calls V (ol := .slice A2 m c2) (hys.objsS (bl_from' HL.out.2 HBr.out)) (fun o ho => by
        obtain ⟨p, hp, rfl⟩ := List.mem_map.1 ho
        exact (hys.2.2 p hp).2) (by have := HY.out.1; have := HL.out.1; have := HN.out; omega))
      go_wp2_with (go_at_call 20; refine HO.out.mono ?_; rintro e w2 ⟨v2, rfl, hr, hb⟩; have HR2 := Lib.hid hr; have HB2 := Lib.hid (bl_next HBr.out hb); clear hr hb)
      go_ret
      obtain ⟨A3, c3, rfl⟩ := rw_form HR2.out
      have hm : ∀ p ∈ srtX kX ys, ObjS W p.2 p.1 ∧ objSmall p.1 := fun p hp => hys.2.2 p (srtX_mem.1 hp)
      refine ⟨A3, c3, srtX kX ys, rfl, ⟨sliS_of HR2.out, fun p hp => (hm p hp).1.below (bl_from' HL.out.2 HB2.out)⟩, ?_, ⟨hm, rw_mono HR2.out HBr.out.size⟩, HB2.out⟩
      rw [HLL.out, HN.out, ← hys.2.1]
      exact srtX_of (oxs_srt (srtX_srt ys)) (oxs_stab (Stab_symm (srtX_stab ys)))
end Go.Proofs.Ythhfcambdmdgfaa
namespace Go.Proofs.Ythhfcambdmdgfaa
open Go.RowKit Go.Maps Srt
set_option linter.unusedVariables false
set_option linter.unusedSimpArgs false
theorem lastN_iff {l : List (Int × ObjD)} {j n : Nat} : lastN l j n = true ↔ ∀ k, j < k → k < n → (gL l k).2.key ≠ (gL l j).2.key := by
  unfold lastN
  rw [List.all_eq_true]
  constructor
  · intro h k h1 h2 e
    have := h k (List.mem_range.2 h2)
    rw [decide_eq_false (by omega), Bool.false_or, keyQ_eq.2 e] at this
    cases this
  · intro h k hk
    by_cases hj : k ≤ j
    · rw [decide_eq_true hj]; rfl
    · rw [decide_eq_false hj, Bool.false_or]
      cases q : keyQ (gL l k).2.key (gL l j).2.key with
      | false => rfl
      | true => exact absurd (keyQ_eq.1 q) (h k (by omega) (List.mem_range.1 hk))
theorem liveN_mem {l : List (Int × ObjD)} {o : ObjD} : ∀ i, o ∈ liveN l i ↔ ∃ j, j < i ∧ lastN l j l.length = true ∧ (gL l j).1 = 0 ∧ (gL l j).2 = o
  | 0 => ⟨(fun h => by cases h), fun ⟨j, h, _⟩ => absurd h (Nat.not_lt_zero _)⟩
  | i + 1 => by
    unfold liveN
    rw [List.mem_append, liveN_mem i]
    constructor
    · rintro (⟨j, h1, h2⟩ | h)
      · exact ⟨j, by omega, h2⟩
      · by_cases hc : (lastN l i l.length && decide ((gL l i).1 = 0)) = true
        · rw [if_pos hc] at h
          rw [Bool.and_eq_true] at hc
          exact ⟨i, by omega, hc.1, of_decide_eq_true hc.2, (List.mem_singleton.1 h).symm⟩
        · rw [if_neg hc] at h; cases h
    · rintro ⟨j, h1, h2, h3, h4⟩
      by_cases hj : j < i
      · exact .inl ⟨j, hj, h2, h3, h4⟩
      · obtain rfl : j = i := by omega
        right
        rw [if_pos (by rw [h2, decide_eq_true h3]; rfl), h4]; exact List.mem_cons_self
theorem nodup_of_map {α β : Type} {f : α → β} {l : List α} (h : (l.map f).Nodup) : l.Nodup := by
  rw [List.Nodup, List.pairwise_map] at h
  exact h.imp (fun h e => h (congrArg f e))
theorem nextM_put' {e : Int × ObjD} (h : e.1 = 0) {fl : Int} {m : AO} {G : AM KS Int} : nextM (evL e) fl m G = putA ltKS m (kOf e.2) e.2 := by
  unfold nextM; rw [if_pos (show (evL e).kind = 0 from h)]; rfl
theorem nextM_del' {e : Int × ObjD} (h : e.1 = 1) {fl : Int} {m : AO} {G : AM KS Int} : nextM (evL e) fl m G = delA m (kOf e.2) := by
  unfold nextM; rw [if_neg (show ¬ (evL e).kind = 0 by show ¬ e.1 = 0; omega), if_pos (show (evL e).kind = 1 from h)]; rfl
theorem keys_nodup' {m : AO} {G : AM KS Int} {fl : Int} (h : CIn m G fl) : m.Nodup := by
  have := keys_nodup strictKS h.rise
  exact nodup_of_map this
theorem texts_nodup {m : AO} {G : AM KS Int} {fl : Int} (hI : CIn m G fl) : ((m.map (·.2)).map kTO).Nodup := by
  rw [List.map_map]
  refine nodup_on (keys_nodup' hI) ?_
  intro a ha b hb e
  have ha' := hI.objs a ha; have hb' := hI.objs b hb
  have hk : kT a.1.1 = kT b.1.1 := by rw [ha'.2.1, hb'.2.1]; exact e
  have e1 := kT_inj ha'.1 hb'.1 hk
  obtain ⟨a1, a2⟩ := a
  obtain ⟨b1, b2⟩ := b
  simp only at e1
  subst e1
  have g1 := (get_mem strictKS hI.rise).2 ha
  have g2 := (get_mem strictKS hI.rise).2 hb
  rw [g1] at g2
  injection g2 with g2
  rw [g2]
theorem run_get {l : List (Int × ObjD)} (h : ToldL l) : ∀ i, i ≤ l.length → ∀ k o, getA (runL (l.take i)).1 k = some o ↔ ∃ j, j < i ∧ (gL l j).1 = 0 ∧ (gL l j).2 = o ∧ kOf o = k ∧ ∀ k', j < k' → k' < i → (gL l k').2.key ≠ (gL l j).2.key
  | 0, _, k, o => ⟨(fun e => by simp [runL] at e; cases e), fun ⟨j, hj, _⟩ => absurd hj (Nat.not_lt_zero _)⟩
  | i + 1, hi, k, o => by
    have hl : i < l.length := by omega
    have ih := run_get h i (by omega) k o
    obtain ⟨h1, h2, h3, h4⟩ := h i hl
    have hgi : gL l i = l[i]'hl := gL_at hl
    have hsm : ∀ j, j < l.length → objSmall (gL l j).2 := fun j hj => by rw [gL_at hj]; exact (h j hj).2.2.2
    have hkey : ∀ j, j < l.length → (kOf (gL l j).2 = kOf (gL l i).2 ↔ (gL l j).2.key = (gL l i).2.key) := fun j hj => by
      constructor
      · intro e
        have := congrArg Subtype.val e
        rw [kOf_key (hsm j hj), kOf_key (hsm i hl)] at this
        exact this
      · intro e
        exact Subtype.ext (by rw [kOf_key (hsm j hj), kOf_key (hsm i hl), e])
    rw [List.take_succ_eq_append_getElem hl, runL_snoc, ← hgi]
    rw [← hgi] at h1 h2 h3 h4
    unfold stepLog
    simp only
    rcases h1 with h0 | h1
    · rw [nextM_put' h0, getA_put]
      by_cases hx : k = kOf (gL l i).2
      · rw [if_pos hx]
        constructor
        · intro e
          have e' : (gL l i).2 = o := by injection e
          exact ⟨i, by omega, h0, e', by rw [← e']; exact hx.symm, fun k' a b => by omega⟩
        · rintro ⟨j, j1, j2, j3, j4, j5⟩
          by_cases hj : j < i
          · exfalso
            refine j5 i hj (by omega) ?_
            rw [← j3] at j4
            exact ((hkey j (by omega)).1 (by rw [j4, hx])).symm
          · obtain rfl : j = i := by omega
            rw [j3]
      · rw [if_neg hx, ih]
        constructor
        · rintro ⟨j, j1, j2, j3, j4, j5⟩
          refine ⟨j, by omega, j2, j3, j4, fun k' a b => ?_⟩
          by_cases hk' : k' < i
          · exact j5 k' a hk'
          · obtain rfl : k' = i := by omega
            intro e
            apply hx
            rw [← j4, ← j3]
            exact (hkey j (by omega)).2 e.symm
        · rintro ⟨j, j1, j2, j3, j4, j5⟩
          have hj : j < i := by
            by_cases q : j < i
            · exact q
            · obtain rfl : j = i := by omega
              exact absurd (by rw [← j4, ← j3]) hx
          exact ⟨j, hj, j2, j3, j4, fun k' a b => j5 k' a (by omega)⟩
    · have h0 : ¬ (gL l i).1 = 0 := by omega
      rw [nextM_del' h1, getA_del]
      by_cases hx : k = kOf (gL l i).2
      · rw [if_pos hx]
        constructor
        · intro e; cases e
        · rintro ⟨j, j1, j2, j3, j4, j5⟩
          exfalso
          by_cases hj : j < i
          · refine j5 i hj (by omega) ?_
            rw [← j3] at j4
            exact ((hkey j (by omega)).1 (by rw [j4, hx])).symm
          · obtain rfl : j = i := by omega
            exact h0 j2
      · rw [if_neg hx, ih]
        constructor
        · rintro ⟨j, j1, j2, j3, j4, j5⟩
          refine ⟨j, by omega, j2, j3, j4, fun k' a b => ?_⟩
          by_cases hk' : k' < i
          · exact j5 k' a hk'
          · obtain rfl : k' = i := by omega
            intro e
            apply hx
            rw [← j4, ← j3]
            exact (hkey j (by omega)).2 e.symm
        · rintro ⟨j, j1, j2, j3, j4, j5⟩
          have hj : j < i := by
            by_cases q : j < i
            · exact q
            · obtain rfl : j = i := by omega
              exact absurd j2 h0
          exact ⟨j, hj, j2, j3, j4, fun k' a b => j5 k' a (by omega)⟩
theorem live_get {l : List (Int × ObjD)} (h : ToldL l) (o : ObjD) : o ∈ liveN l l.length ↔ getA (runL l).1 (kOf o) = some o := by
  have hr := run_get h l.length (Nat.le_refl _) (kOf o) o
  rw [List.take_length] at hr
  rw [liveN_mem, hr]
  constructor
  · rintro ⟨j, h1, h2, h3, h4⟩
    exact ⟨j, h1, h3, h4, rfl, lastN_iff.1 h2⟩
  · rintro ⟨j, h1, h2, h3, _, h5⟩
    exact ⟨j, h1, lastN_iff.2 h5, h2, h3⟩
theorem live_nodup {l : List (Int × ObjD)} (h : ToldL l) : ∀ i, i ≤ l.length → ((liveN l i).map (·.key)).Nodup
  | 0, _ => by simp [liveN]
  | i + 1, hi => by
    unfold liveN
    rw [List.map_append, List.nodup_append]
    refine ⟨live_nodup h i (by omega), ?_, ?_⟩
    · split <;> simp
    · intro a ha b hb e
      obtain ⟨x, hx, rfl⟩ := List.mem_map.1 ha
      obtain ⟨j, h1, h2, h3, h4⟩ := (liveN_mem i).1 hx
      split at hb
      · simp only [List.map_cons, List.map_nil, List.mem_singleton] at hb
        refine lastN_iff.1 h2 i h1 (by omega) ?_
        rw [h4, e, hb]
      · cases hb
theorem live_run {l : List (Int × ObjD)} (h : ToldL l) : srtX kTO (liveN l l.length) = sortM (runL l).1 := by
  have hn : RunI (runL l) l.length := by have := runI h l.length (Nat.le_refl _); rwa [List.take_length] at this
  have hI := hn.inv
  have hnd : (liveN l l.length).Nodup := by
    have := live_nodup h l.length (Nat.le_refl _)
    exact nodup_of_map this
  have hnd2 : ((runL l).1.map (·.2)).Nodup := by
    have e : ((runL l).1.map (·.2)).map kOf = (runL l).1.map (·.1) := by rw [List.map_map]; exact List.map_congr_left fun q hq => kOf_of hI hq
    have := keys_nodup strictKS hI.rise
    unfold keysA at this
    rw [← e] at this
    exact nodup_of_map this
  have hp : (liveN l l.length).Perm ((runL l).1.map (·.2)) := by
    refine (List.perm_ext_iff_of_nodup hnd hnd2).2 fun o => ?_
    rw [live_get h]
    constructor
    · intro e
      exact List.mem_map.2 ⟨_, (get_mem strictKS hI.rise).1 e, rfl⟩
    · intro e
      obtain ⟨q, hq, rfl⟩ := List.mem_map.1 e
      rw [kOf_of hI hq]
      exact (get_mem strictKS hI.rise).2 hq
  have hkt := texts_nodup hI
  unfold sortM
  exact srtX_perm hp hkt
/-- The first of a key. -/
def findO (S : List ObjD) (k : KeyD) : ObjD × Bool := match S.find? fun o => keyQ o.key k with
  | some o => (o, true)
  | none => (zeroO, false)
theorem find_run {m : AO} {G : AM KS Int} {fl : Int} (hI : CIn m G fl) (K : KS) : findO (sortM m) K.1 = (obA m K, hasA m K) := by
  obtain ⟨hk1, hk2⟩ := sortM_keys hI
  have hsm := sortM_small hI
  unfold findO
  cases e : getA m K with
  | some o =>
    have hko : kOf o = K := by
      have hm := (get_mem strictKS hI.rise).1 e
      exact kOf_of hI hm
    have hin : o ∈ sortM m := (hk2 o).2 (by rw [hko]; exact e)
    have hf : (sortM m).find? (fun o => keyQ o.key K.1) = some o := by
      cases q : (sortM m).find? (fun o => keyQ o.key K.1) with
      | none =>
        rw [List.find?_eq_none] at q
        have := q o hin
        exact absurd (keyQ_eq.2 (by rw [← hko, kOf_key (hsm o hin)])) this
      | some o2 =>
        have h1 := List.mem_of_find?_eq_some q
        have h2 := List.find?_some q
        have h3 : kOf o2 = K := Subtype.ext (by rw [kOf_key (hsm o2 h1)]; exact keyQ_eq.1 h2)
        have h4 := (hk2 o2).1 h1
        rw [h3, e] at h4
        exact h4.symm
    rw [hf]
    show (o, true) = _
    rw [hasA_get]; unfold obA; rw [e]; rfl
  | none =>
    have hf : (sortM m).find? (fun o => keyQ o.key K.1) = none := by
      rw [List.find?_eq_none]
      intro o ho h
      have h3 : kOf o = K := Subtype.ext (by rw [kOf_key (hsm o ho)]; exact keyQ_eq.1 h)
      have h4 := (hk2 o).1 ho
      rw [h3, e] at h4; cases h4
    rw [hf]
    show (zeroO, false) = _
    rw [hasA_get]; unfold obA; rw [e]; rfl
end Go.Proofs.Ythhfcambdmdgfaa
namespace Go.Proofs.Ythhfcambdmdgfaa
open Go.RowKit Go.Maps Srt
set_option linter.unusedVariables false
set_option linter.unusedSimpArgs false
theorem find_at {S : List ObjD} {k : KeyD} {i : Nat} (h : i < S.length) (hn : ∀ j (hj : j < S.length), j < i → keyQ (S[j]'hj).key k = false) (hi : keyQ (S[i]'h).key k = true) : findO S k = (S[i]'h, true) := by
  have e : S.find? (fun o => keyQ o.key k) = some (S[i]'h) := by
    rw [List.find?_eq_some_iff_getElem]
    exact ⟨hi, i, h, rfl, fun j hj => by rw [hn j (by omega) hj]; rfl⟩
  unfold findO; rw [e]
theorem find_no {S : List ObjD} {k : KeyD} (hn : ∀ j (hj : j < S.length), j < S.length → keyQ (S[j]'hj).key k = false) : findO S k = (zeroO, false) := by
  have e : S.find? (fun o => keyQ o.key k) = none := by
    rw [List.find?_eq_none]
    intro o ho h
    obtain ⟨j, hj, rfl⟩ := List.mem_iff_getElem.1 ho
    rw [hn j hj hj] at h; cases h
  unfold findO; rw [e]
set_option maxRecDepth 100000 in
set_option maxHeartbeats 8000000 in
theorem rget9_walk (w : World) {W : World} {base mp : Nat} {v : Value} {RL : List LX} (h : RefS9 w W base mp v RL) (hW : Below W.heap.size W w) (hl : RL.length ≤ 1000) {l : List (Int × ObjD)} (hle : lxOf RL = l) (kk : KeyD) :
    Calls Try.prog 33 #[.pointer (some ⟨mp, 0, none⟩), .agg #[.string kk.kind, .string kk.space, .string kk.name]] w fun e w' => ∃ sl, e = .returned (.tuple #[objV (findO (srtX kTO (liveN l l.length)) kk).1 sl, .bool (findO (srtX kTO (liveN l l.length)) kk).2]) ∧ ObjS w' sl (findO (srtX kTO (liveN l l.length)) kk).1 ∧ Below w.heap.size w w' := by
  have HLV := Lib.hid (fun (U : World) (hb : Below w.heap.size w U) => rlive_calls U (h.below hb) (bl_next hW hb) hl hle)
  have HLN := Lib.hid (show (srtX kTO (liveN l l.length)).length ≤ 1000 by
    rw [srtX_len]
    have h1 := liveN_len l l.length
    have h2 : l.length = RL.length := by rw [← hle]; simp [lxOf]
    omega)
  generalize srtX kTO (liveN l l.length) = S at HLV HLN ⊢
  clear h hl hle
  have HW := Lib.hid hW
  clear hW
  go_enter Try.func33, Try.ntmps33
  go_upto_region 1 with fail
  first | with_reducible refine name_wp ?_ | with_reducible refine name_calls ?_
  intro V hV
  have gK : V.heap[w.heap.size]? = some (.cells #[.string kk.kind, .string kk.space, .string kk.name] 24) := by rw [hV]; exact blk_old (blk_new w _) _
  have gR : V.heap[w.heap.size + 1]? = some (.cells #[.string ⟨#[]⟩, .string ⟨#[]⟩, .string ⟨#[]⟩, .int .i64 0, .string ⟨#[]⟩, .bool false, .bool false, .slice none 0 0] 27) := by rw [hV]; exact blk_new1 w _ _
  have hbV : Below w.heap.size w V := by rw [hV]; exact ((Below.refl _ _).alloc (Nat.le_refl _) _).alloc (by simp) _
  clear hV
  have HGK := Lib.hid gK; have HGR := Lib.hid gR; have HBV := Lib.hid hbV
  clear gK gR hbV
  go_upto_region 2 with (go_at_call 67; refine (HLV.out V HBV.out).mono ?_; rintro e w1 ⟨A, c, zs, rfl, hz, he, ha, hb⟩; have HA := Lib.hid ha.1; clear ha; have HZ := Lib.hid hz; have HE := Lib.hid he; have HB1 := Lib.hid hb; clear hz he hb)
  clear HLV
  have HZL := Lib.hid (show zs.length = S.length by rw [← HE.out, oxs_len])
  have HGK1 := Lib.hid (blk_below HGK.out HB1.out)
  have HGR1 := Lib.hid (blk_below HGR.out HB1.out)
  obtain ⟨n, hn⟩ : ∃ n, zs.length = n := ⟨_, rfl⟩
  have HN := Lib.hid hn
  have hn1 : n ≤ 1000 := by have := HZL.out; have := HLN.out; omega
  rw [hn] at HZ ⊢
  clear hn HGK HGR
  have HB1w := Lib.hid (bl_from HBV.out HB1.out)
  go_wp2_with fail
  go_loopw [7] (fun s7 wr => ∃ (i : Nat), s7 = .int .i64 (i : Int) ∧ i ≤ n ∧ Hid (∀ j (hj : j < S.length), j < i → keyQ (S[j]'hj).key kk = false) ∧ Hid (Below w1.heap.size w1 wr)) (fun s7 _ => n - (intOf s7).toNat)
  case atStart => exact ⟨0, rfl, Nat.zero_le _, Lib.hid (fun j hj h => absurd h (Nat.not_lt_zero _)), Lib.hid (Below.refl _ _)⟩
  case round =>
    obtain ⟨i, rfl, hi, HNO, HBi⟩ := hrel
    obtain ⟨V2, rfl⟩ : ∃ U : World, U = wr := ⟨_, rfl⟩
    have gK := blk_below HGK1.out HBi.out
    have gR := blk_below HGR1.out HBi.out
    have HBw := Lib.hid (bl_from HB1w.out HBi.out)
    by_cases hil : i < n
    · have hiI : (i : Int) < n := by omega
      have hiz : i < zs.length := by rw [HN.out]; exact hil
      have hiS : i < S.length := by rw [← HZL.out]; exact hiz
      obtain ⟨b, of, c9, he, q, s⟩ := (show ObjsS w1 (.slice A zs.length c) zs by rw [HN.out]; exact HZ.out).at' hiz
      rw [HN.out] at he
      cases he
      have hxe : S[i]'hiS = (zs[i]'hiz).1 := by
        have e := HE.out
        subst e
        simp [oxs]
      have HFI := Lib.hid (fun h => find_at (k := kk) hiS HNO.out h)
      rw [hxe] at HFI
      have HXE := Lib.hid hxe
      have hax := (HA.out _ (List.getElem_mem hiz)).1
      generalize zs[i]'hiz = x at q s HFI HXE hax
      clear hxe
      obtain ⟨o, so⟩ := x
      simp only at q s HFI HXE hax
      have HAX := Lib.hid hax
      obtain ⟨ao, co, rfl⟩ := s.1.form
      have HS1 := Lib.hid (s.below HBi.out)
      have q := q.below HBi.out
      have d0 := q.c0
      have d1 := q.c1
      have d2 := q.c2
      have d3 := q.c3
      have d4 := q.c4
      have d5 := q.c5
      have d6 := q.c6
      have d7 := q.c7
      have k0 := blk_cell gK 0
      have k1 := blk_cell gK 1
      have k2 := blk_cell gK 2
      obtain ⟨kq, hkq⟩ : ∃ z, (decide (o.key.kind = kk.kind) && (decide (o.key.space = kk.space) && decide (o.key.name = kk.name))) = z := ⟨_, rfl⟩
      have HKQ := Lib.hid hkq
      have HKE := Lib.hid (show keyQ o.key kk = kq from hkq)
      have HGR2 := Lib.hid gR
      clear q s hkq gK gR hax
      have hB := Below.refl V2.heap.size V2
      go_upto_region 5 with fail
      have hB := hB.drew
      refine region_seq (fun w' => Below V2.heap.size V2 w') [(0, true), (1, true), (2, true), (3, true), (4, true), (5, true), (6, true)] (by kernel_rfl) (by kernel_rfl) (fun _ _ _ _ h => h) hB ?_
      try generalize World.drew _ = wS at hB ⊢
      refine seq_take (v := ?_) (a' := ?_) (some 16) rfl rfl (by rfl) ?_ ?_ ?_
      rotate_left; rotate_left
      · intro w' hS; go_simp; with_reducible rfl
      · simp only [Act.put, List.setIfInBounds_toArray, List.set_cons_zero, List.set_cons_succ]; rfl
      refine seq_take (v := ?_) (a' := ?_) (some 17) rfl rfl (by rfl) ?_ ?_ ?_
      rotate_left; rotate_left
      · intro w' hS; go_simp; with_reducible rfl
      · simp only [Act.put, List.setIfInBounds_toArray, List.set_cons_zero, List.set_cons_succ]; rfl
      refine seq_take (v := ?_) (a' := ?_) (some 18) rfl rfl (by rfl) ?_ ?_ ?_
      rotate_left; rotate_left
      · intro w' hS; go_simp; with_reducible rfl
      · simp only [Act.put, List.setIfInBounds_toArray, List.set_cons_zero, List.set_cons_succ]; rfl
      refine seq_take (v := ?_) (a' := ?_) (some 19) rfl rfl (by rfl) ?_ ?_ ?_
      rotate_left; rotate_left
      · intro w' hS; go_simp; with_reducible rfl
      · simp only [Act.put, List.setIfInBounds_toArray, List.set_cons_zero, List.set_cons_succ]; rfl
      refine seq_take (v := ?_) (a' := ?_) (some 20) rfl rfl (by rfl) ?_ ?_ ?_
      rotate_left; rotate_left
      · intro w' hS; have q0 := cb hS k0; have q1 := cb hS k1; have q2 := cb hS k2; have p0 := cb hS d0; have p1 := cb hS d1; have p2 := cb hS d2; go_simp; with_reducible rfl
      · simp only [Act.put, List.setIfInBounds_toArray, List.set_cons_zero, List.set_cons_succ]; rfl
      refine seq_take (v := ?_) (a' := ?_) (some 21) rfl rfl (by rfl) ?_ ?_ ?_
      rotate_left; rotate_left
      · intro w' hS; have q0 := cb hS k0; have q1 := cb hS k1; have q2 := cb hS k2; have p0 := cb hS d0; have p1 := cb hS d1; have p2 := cb hS d2; go_simp; with_reducible rfl
      · simp only [Act.put, List.setIfInBounds_toArray, List.set_cons_zero, List.set_cons_succ]; rfl
      refine seq_take (v := ?_) (a' := ?_) (some 22) rfl rfl (by rfl) ?_ ?_ ?_
      rotate_left; rotate_left
      · intro w' hS; (first | (go_simp; with_reducible rfl) | (go_simp; exact keyIf3 _ _ _ _ _ _ _ HKQ.out))
      · simp only [Act.put, List.setIfInBounds_toArray, List.set_cons_zero, List.set_cons_succ]; rfl
      refine seq_done ?_
      refine name_exit ?_
      intro V3 hV3
      have HB3 := Lib.hid (show Below V2.heap.size V2 V3 by rw [hV3]; exact hB)
      clear hV3 hB k0 k1 k2
      cases kq with
      | true =>
        have HF2 := Lib.hid (HFI.out HKE.out)
        have d0 := cb HB3.out d0
        have d1 := cb HB3.out d1
        have d2 := cb HB3.out d2
        have d3 := cb HB3.out d3
        have d4 := cb HB3.out d4
        have d5 := cb HB3.out d5
        have d6 := cb HB3.out d6
        have d7 := cb HB3.out d7
        have gR3 := blk_below HGR2.out HB3.out
        have f0 := blk_free gR3 0
        have t0 := blk_cell gR3 0
        have f1 := blk_free gR3 1
        have t1 := blk_cell gR3 1
        have f2 := blk_free gR3 2
        have t2 := blk_cell gR3 2
        have f3 := blk_free gR3 3
        have t3 := blk_cell gR3 3
        have f4 := blk_free gR3 4
        have t4 := blk_cell gR3 4
        have f5 := blk_free gR3 5
        have t5 := blk_cell gR3 5
        have f6 := blk_free gR3 6
        have t6 := blk_cell gR3 6
        have f7 := blk_free gR3 7
        have t7 := blk_cell gR3 7
        have HS3 := Lib.hid (HS1.out.below HB3.out)
        have HGR3 := Lib.hid gR3
        clear gR3
        go_wp2_with fail
        refine name_body ?_
        intro Z hZ
        have hkZ : Kept (fun k => k = w.heap.size + 1) V3 Z := by
          rw [hZ]
          iterate 8 (refine Kept.setCell ?_ _ _ (.inl rfl))
          exact Kept.refl _ _
        have r0 : Z.cell? ⟨w.heap.size + 1, 0, none⟩ = some (.string o.key.kind) := by rw [hZ]; go_simp
        have r1 : Z.cell? ⟨w.heap.size + 1, 1, none⟩ = some (.string o.key.space) := by rw [hZ]; go_simp
        have r2 : Z.cell? ⟨w.heap.size + 1, 2, none⟩ = some (.string o.key.name) := by rw [hZ]; go_simp
        have r3 : Z.cell? ⟨w.heap.size + 1, 3, none⟩ = some (.int .i64 o.ver) := by rw [hZ]; go_simp
        have r4 : Z.cell? ⟨w.heap.size + 1, 4, none⟩ = some (.string o.cls) := by rw [hZ]; go_simp
        have r5 : Z.cell? ⟨w.heap.size + 1, 5, none⟩ = some (.bool o.term) := by rw [hZ]; go_simp
        have r6 : Z.cell? ⟨w.heap.size + 1, 6, none⟩ = some (.bool o.best) := by rw [hZ]; go_simp
        have r7 : Z.cell? ⟨w.heap.size + 1, 7, none⟩ = some (.slice ao o.charge.length co) := by rw [hZ]; go_simp
        clear hZ
        refine bodyPost_ret (v := .tuple #[.agg #[.string o.key.kind, .string o.key.space, .string o.key.name, .int .i64 o.ver, .string o.cls, .bool o.term, .bool o.best, .slice ao o.charge.length co], .bool true]) (by simp [results, Try.results33, go_sem, r0, r1, r2, r3, r4, r5, r6, r7]) rfl ?_
        rw [HF2.out]
        have hbz := (bl_next HBw.out HB3.out).trans (hkZ.below (bl_next HBw.out HB3.out).size (fun j e => by omega))
        exact ⟨_, rfl, HAX.out.below (bl_next HW.out hbz), hbz⟩
      | false =>
        have HNO2 := Lib.hid (show ∀ j (hj : j < S.length), j < i + 1 → keyQ (S[j]'hj).key kk = false from fun j hj hlt => by
          by_cases e : j = i
          · subst e; rw [HXE.out]; exact HKE.out
          · exact HNO.out j hj (by omega))
        clear d0 d1 d2 d3 d4 d5 d6 d7
        go_wp2_with fail
        go_roundw
        case rel => exact ⟨i + 1, by simp, by omega, HNO2, Lib.hid (bl_next HBi.out HB3.out)⟩
        case measure => simp [intOf]; omega
    · obtain rfl : i = n := by omega
      have HF2 := Lib.hid (find_no (S := S) (k := kk) (fun j hj h => HNO.out j hj (by rw [← HN.out, HZL.out]; exact hj)))
      have f0 := blk_free gR 0
      have t0 := blk_cell gR 0
      have f1 := blk_free gR 1
      have t1 := blk_cell gR 1
      have f2 := blk_free gR 2
      have t2 := blk_cell gR 2
      have f3 := blk_free gR 3
      have t3 := blk_cell gR 3
      have f4 := blk_free gR 4
      have t4 := blk_cell gR 4
      have f5 := blk_free gR 5
      have t5 := blk_cell gR 5
      have f6 := blk_free gR 6
      have t6 := blk_cell gR 6
      have f7 := blk_free gR 7
      have t7 := blk_cell gR 7
      clear gK
      go_wp2_with fail
      refine name_body ?_
      intro Z hZ
      have hkZ : Kept (fun k => k = w.heap.size + 1) V2 Z := by
        rw [hZ]
        iterate 8 (refine Kept.setCell ?_ _ _ (.inl rfl))
        exact Kept.refl _ _
      have r0 : Z.cell? ⟨w.heap.size + 1, 0, none⟩ = some (.string ⟨#[]⟩) := by rw [hZ]; go_simp
      have r1 : Z.cell? ⟨w.heap.size + 1, 1, none⟩ = some (.string ⟨#[]⟩) := by rw [hZ]; go_simp
      have r2 : Z.cell? ⟨w.heap.size + 1, 2, none⟩ = some (.string ⟨#[]⟩) := by rw [hZ]; go_simp
      have r3 : Z.cell? ⟨w.heap.size + 1, 3, none⟩ = some (.int .i64 0) := by rw [hZ]; go_simp
      have r4 : Z.cell? ⟨w.heap.size + 1, 4, none⟩ = some (.string ⟨#[]⟩) := by rw [hZ]; go_simp
      have r5 : Z.cell? ⟨w.heap.size + 1, 5, none⟩ = some (.bool false) := by rw [hZ]; go_simp
      have r6 : Z.cell? ⟨w.heap.size + 1, 6, none⟩ = some (.bool false) := by rw [hZ]; go_simp
      have r7 : Z.cell? ⟨w.heap.size + 1, 7, none⟩ = some (.slice none 0 0) := by rw [hZ]; go_simp
      clear hZ
      refine bodyPost_ret (v := .tuple #[.agg #[.string ⟨#[]⟩, .string ⟨#[]⟩, .string ⟨#[]⟩, .int .i64 0, .string ⟨#[]⟩, .bool false, .bool false, .slice none 0 0], .bool false]) (by simp [results, Try.results33, go_sem, r0, r1, r2, r3, r4, r5, r6, r7]) rfl ?_
      rw [HF2.out]
      exact ⟨_, rfl, zeroO_S Z, HBw.out.trans (hkZ.below HBw.out.size (fun j e => by omega))⟩
end Go.Proofs.Ythhfcambdmdgfaa

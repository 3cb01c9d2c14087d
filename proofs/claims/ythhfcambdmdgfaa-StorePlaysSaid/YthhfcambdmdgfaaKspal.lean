import Derived.Test.YthhfcambdmdgfaaKspak
import Derived.Test.YthhfcambdmdgfaaKspai
namespace Go.Proofs.Ythhfcambdmdgfaa
open Go.RowKit Go.Maps Srt
set_option linter.unusedVariables false
set_option linter.unusedSimpArgs false
set_option maxRecDepth 100000 in
set_option maxHeartbeats 8000000 in
theorem revents9_calls (w : World) {b : Nat} {A : Option Addr} {n c : Nat} {ys : List LY} (hlog : LogF w b (.slice A n c) ys) {W : World} {base : Nat} {v2 : Value} {RL : List LX} (hrow : w.ownsRow base 30 11 v2 RL.length (lgC RL)) (hargs : ∀ e ∈ RL, ObjS W e.2.2 e.2.1) (hW : Below W.heap.size W w)
    {l : List (Int × ObjD)} (h1 : lyOf ys = l) (h2 : lxOf RL = l) (hn : l.length = n) (ho : ∀ e ∈ l, oIn e.2 ∧ in64 e.1) (hs : ∀ e ∈ l, objSmall e.2) (hl : n ≤ 60) :
    Calls Try.prog 37 #[.slice A n c, v2] w fun e w' => e = .returned (.bool true) ∧ Below w.heap.size w w' := by
  have HLG := Lib.hid hlog; have HRW := Lib.hid hrow; have HAR := Lib.hid hargs; have HW := Lib.hid hW; have H1 := Lib.hid h1; have H2 := Lib.hid h2; have HO := Lib.hid ho; have HS := Lib.hid hs; have HN := Lib.hid hn
  obtain ⟨A2, c2, rfl⟩ := rw_form hrow
  have hrl : RL.length = n := by rw [← hn, ← h2]; simp [lxOf]
  have HRL := Lib.hid hrl
  rw [hrl]
  clear hlog hrow hargs hW h1 h2 ho hs hn hrl
  have hB := Below.refl w.heap.size w
  go_enter Try.func37, Try.ntmps37
  go_wp2_with fail
  go_loopw [5] (fun s5 wr => ∃ (i : Nat), s5 = .int .i64 (i : Int) ∧ i ≤ n ∧ Hid (Below w.heap.size w wr)) (fun s5 _ => n - (intOf s5).toNat)
  case atStart => exact ⟨0, rfl, Nat.zero_le _, Lib.hid hB⟩
  case round =>
    clear hB
    obtain ⟨i, rfl, hi, HBi⟩ := hrel
    by_cases hil : i < n
    · have hiI : (i : Int) < n := by omega
      have hill : i < l.length := by rw [HN.out]; exact hil
      have hir : i < RL.length := by rw [HRL.out]; exact hil
      obtain ⟨g, of, cc, p, he, hpe, hpx, hq⟩ := log_ex HLG.out H1.out HO.out hill
      rw [HN.out] at he
      cases he
      obtain ⟨q, hp⟩ := hq w HLG.out
      obtain ⟨g2, of2, cc2, he2, q2⟩ := log_at (sliS_of HRW.out) hir
      rw [HRL.out] at he2
      cases he2
      have hxl : l[i]'hill = ((RL[i]'hir).1, (RL[i]'hir).2.1) := by simp [← H2.out, lxOf]
      have ha := HAR.out _ (List.getElem_mem hir)
      have hsm := HS.out _ (List.getElem_mem hill)
      rw [hxl] at hpe hsm
      generalize RL[i]'hir = y at q2 ha hpe hsm
      obtain ⟨kd, o, so⟩ := y
      obtain ⟨kd', o', so', vr', ol', xs'⟩ := p
      simp only at q q2 ha hpx hsm
      subst hpx
      have e1 : kd' = kd := congrArg EvD.kind hpe
      have e2 : o' = o := congrArg EvD.obj hpe
      have e3 : vr' = 0 := congrArg EvD.ver hpe
      subst e1; subst e2; subst e3
      have hpo := hp.obj; have hps := hp.objs
      simp only at hpo hps
      obtain ⟨a1, n1, rfl⟩ := hpo.1.form
      obtain ⟨a2, n2, hz⟩ := hps.form
      rw [List.length_nil] at hz
      subst hz
      obtain ⟨a3, n3, rfl⟩ := ha.1.form
      have HSA := Lib.hid (fun (U : World) (hb : Below w.heap.size w U) => revsame_calls U kd' kd' 0 0 (hpo.below hb) hsm (hps.below hb) (fun o ho => by cases ho) (by simp) (ha.below (bl_next HW.out hb)) hsm (objsS_none U none 0) (fun o ho => by cases ho) (by simp))
      rw [show oxs ([] : List OX) = [] from rfl, sameE_refl] at HSA
      unfold evV at HSA
      have QA := q.below HBi.out
      have QB := q2.below HBi.out
      have d0 := (QA).c0
      have d1 := (QA).c1
      have d2 := (QA).c2
      have d3 := (QA).c3
      have d4 := (QA).c4
      have d5 := (QA).c5
      have d6 := (QA).c6
      have d7 := (QA).c7
      have d8 := (QA).c8
      have d9 := (QA).c9
      have d10 := (QA).c10
      have e0 := (QB).c0
      have e1 := (QB).c1
      have e2 := (QB).c2
      have e3 := (QB).c3
      have e4 := (QB).c4
      have e5 := (QB).c5
      have e6 := (QB).c6
      have e7 := (QB).c7
      have e8 := (QB).c8
      have e9 := (QB).c9
      have e10 := (QB).c10
      clear q q2 hp hq hpo hps ha hsm QA QB hpe hxl
      obtain ⟨V, rfl⟩ : ∃ U : World, U = wr := ⟨_, rfl⟩
      have hB := Below.refl V.heap.size V
      go_upto_region 6 with fail
      have hB := hB.drew
      refine region_seq (fun w' => Below V.heap.size V w') [(0, true), (1, true), (2, true), (3, true), (4, true), (5, true), (6, true), (7, true), (8, false), (9, true)] (by kernel_rfl) (by kernel_rfl) (fun _ _ _ _ h => h) hB ?_
      try generalize World.drew _ = wS at hB ⊢
      refine seq_take (v := ?_) (a' := ?_) (some 18) rfl rfl (by rfl) ?_ ?_ ?_
      rotate_left; rotate_left
      · intro w' hS; go_simp; with_reducible rfl
      · simp only [Act.put, List.setIfInBounds_toArray, List.set_cons_zero, List.set_cons_succ]; rfl
      refine seq_take (v := ?_) (a' := ?_) (some 19) rfl rfl (by rfl) ?_ ?_ ?_
      rotate_left; rotate_left
      · intro w' hS; go_simp; with_reducible rfl
      · simp only [Act.put, List.setIfInBounds_toArray, List.set_cons_zero, List.set_cons_succ]; rfl
      refine seq_take (v := ?_) (a' := ?_) (some 20) rfl rfl (by rfl) ?_ ?_ ?_
      rotate_left; rotate_left
      · intro w' hS; go_simp; with_reducible rfl
      · simp only [Act.put, List.setIfInBounds_toArray, List.set_cons_zero, List.set_cons_succ]; rfl
      refine seq_take (v := ?_) (a' := ?_) (some 21) rfl rfl (by rfl) ?_ ?_ ?_
      rotate_left; rotate_left
      · intro w' hS; have p0 := cb hS d0; have q0 := cb hS e0; have p1 := cb hS d1; have q1 := cb hS e1; have p2 := cb hS d2; have q2 := cb hS e2; have p3 := cb hS d3; have q3 := cb hS e3; have p4 := cb hS d4; have q4 := cb hS e4; have p5 := cb hS d5; have q5 := cb hS e5; have p6 := cb hS d6; have q6 := cb hS e6; have p7 := cb hS d7; have q7 := cb hS e7; have p8 := cb hS d8; have q8 := cb hS e8; have p9 := cb hS d9; have q9 := cb hS e9; have p10 := cb hS d10; have q10 := cb hS e10; go_simp; with_reducible rfl
      · simp only [Act.put, List.setIfInBounds_toArray, List.set_cons_zero, List.set_cons_succ]; rfl
      refine seq_take (v := ?_) (a' := ?_) (some 22) rfl rfl (by rfl) ?_ ?_ ?_
      rotate_left; rotate_left
      · intro w' hS; go_simp; with_reducible rfl
      · simp only [Act.put, List.setIfInBounds_toArray, List.set_cons_zero, List.set_cons_succ]; rfl
      refine seq_take (v := ?_) (a' := ?_) (some 23) rfl rfl (by rfl) ?_ ?_ ?_
      rotate_left; rotate_left
      · intro w' hS; go_simp; with_reducible rfl
      · simp only [Act.put, List.setIfInBounds_toArray, List.set_cons_zero, List.set_cons_succ]; rfl
      refine seq_take (v := ?_) (a' := ?_) (some 24) rfl rfl (by rfl) ?_ ?_ ?_
      rotate_left; rotate_left
      · intro w' hS; go_simp; with_reducible rfl
      · simp only [Act.put, List.setIfInBounds_toArray, List.set_cons_zero, List.set_cons_succ]; rfl
      refine seq_take (v := ?_) (a' := ?_) (some 25) rfl rfl (by rfl) ?_ ?_ ?_
      rotate_left; rotate_left
      · intro w' hS; have p0 := cb hS d0; have q0 := cb hS e0; have p1 := cb hS d1; have q1 := cb hS e1; have p2 := cb hS d2; have q2 := cb hS e2; have p3 := cb hS d3; have q3 := cb hS e3; have p4 := cb hS d4; have q4 := cb hS e4; have p5 := cb hS d5; have q5 := cb hS e5; have p6 := cb hS d6; have q6 := cb hS e6; have p7 := cb hS d7; have q7 := cb hS e7; have p8 := cb hS d8; have q8 := cb hS e8; have p9 := cb hS d9; have q9 := cb hS e9; have p10 := cb hS d10; have q10 := cb hS e10; go_simp; with_reducible rfl
      · simp only [Act.put, List.setIfInBounds_toArray, List.set_cons_zero, List.set_cons_succ]; rfl
      refine seq_call (args := ?_) Try.func16 (by kernel_rfl) rfl (some 26) rfl rfl (by rfl) rfl ?_ ?_
      rotate_left
      · simp only [List.map_toArray, List.map_cons, List.map_nil]; go_simp; rfl
      with_reducible refine (HSA.out _ (bl_next HBi.out hB)).mono ?_
      rintro e w' ⟨rfl, hb⟩
      refine ⟨_, rfl, bl_next (by repeat (first | with_reducible exact hB | refine Below.alloc ?_ (by have := hB.size; simp; omega) _ | refine bl_dN ?_ _ | refine Below.drew ?_ | refine Below.setCell ?_ (by have := hB.size; simp; omega) _)) hb, ?_⟩
      have hB := bl_next (by repeat (first | with_reducible exact hB | refine Below.alloc ?_ (by have := hB.size; simp; omega) _ | refine bl_dN ?_ _ | refine Below.drew ?_ | refine Below.setCell ?_ (by have := hB.size; simp; omega) _)) hb; clear hb
      simp only [Act.put, List.setIfInBounds_toArray, List.set_cons_zero, List.set_cons_succ]
      refine seq_take (v := ?_) (a' := ?_) (some 6) rfl rfl (by rfl) ?_ ?_ ?_
      rotate_left; rotate_left
      · intro w' hS; go_simp; with_reducible rfl
      · simp only [Act.put, List.setIfInBounds_toArray, List.set_cons_zero, List.set_cons_succ]; rfl
      refine seq_done ?_
      have HBz := Lib.hid (bl_next HBi.out hB)
      clear hB
      clear d0 d1 d2 d3 d4 d5 d6 d7 d8 d9 d10
      clear e0 e1 e2 e3 e4 e5 e6 e7 e8 e9 e10
      go_wp2_with fail
      go_roundw
      case rel => exact ⟨i + 1, by simp, by omega, HBz⟩
      case measure => simp [intOf]; omega
    · obtain rfl : i = n := by omega
      go_wp2_with fail
      go_ret
      exact ⟨rfl, HBi.out⟩
theorem told_app {w : World} {base sp mb n k : Nat} {M : AM KS OX} {lv : Value} {L : List LX} (h : TState w base sp mb n k M lv L) (gone : Bool) {o : ObjD} {K : KS} {x y : Value} (hK : K.1 = o.key) (hai : ActIs M n K gone o (wMap M K gone o n y)) :
    ToldL (lxOf (L ++ [(wKind gone, ({ wObj gone o with ver := (n : Int) + 1 }, x))])) ∧ mo (wMap M K gone o n y) = (runL (lxOf (L ++ [(wKind gone, ({ wObj gone o with ver := (n : Int) + 1 }, x))]))).1 := by
  have hlen := h.h.2.2.1
  have e1 : lxOf (L ++ [(wKind gone, ({ wObj gone o with ver := (n : Int) + 1 }, x))]) = lxOf L ++ [(wKind gone, { wObj gone o with ver := (n : Int) + 1 })] := by simp [lxOf]
  rw [e1]
  refine ⟨told_snoc h.told (by unfold wKind; cases gone; exact .inl rfl; exact .inr rfl) hai.right (by rw [lxOf_len, hlen]) hai.small, ?_⟩
  rw [runL_snoc]
  have hko : ∀ v : Int, kOf { wObj gone o with ver := v } = K := fun v => Subtype.ext (by
    rw [kOf_key (show objSmall { wObj gone o with ver := v } from hai.small)]
    show (wObj gone o).key = K.1
    rw [hai.key, hK])
  cases gone with
  | true =>
    refine Eq.trans ?_ (nextM_del (e := (wKind true, { wObj true o with ver := (n : Int) + 1 })) rfl 0 (runL (lxOf L)).1 (runL (lxOf L)).2).symm
    show mo (delA M K) = delA (runL (lxOf L)).1 (kOf { wObj true o with ver := (n : Int) + 1 })
    rw [hko, mo_del, h.run]
  | false =>
    refine Eq.trans ?_ (nextM_put (e := (wKind false, { wObj false o with ver := (n : Int) + 1 })) rfl 0 (runL (lxOf L)).1 (runL (lxOf L)).2).symm
    show mo (putA ltKS M K ({ o with ver := (n : Int) + 1 }, y)) = putA ltKS (runL (lxOf L)).1 (kOf { wObj false o with ver := (n : Int) + 1 }) { wObj false o with ver := (n : Int) + 1 }
    rw [hko, mo_put, h.run]; rfl
/-- What a write does, in all. -/
theorem told_do2 {w w' : World} {base sp mb n k : Nat} {M : AM KS OX} {lv : Value} {L : List LX} (h : TState w base sp mb n k M lv L) (gone : Bool) {o : ObjD} {K : KS} (hK : K.1 = o.key) (hs : objSmall o) {e : Ending} {er : Int} (her : wErr M K gone o = er)
    (ha : Act9 w base sp mb n (wMap M K gone o n) lv L (wKind gone) (wObj gone o) (wErr M K gone o) e w') : e = .returned (.tuple #[.int .i64 (if er = 0 then (n : Int) + 1 else 0), .int .i64 er]) ∧ Hid (∃ n' M' lv' L', TState w' base sp mb n' (k + 1) M' lv' L' ∧ n' = (if er = 0 then n + 1 else n) ∧ lxOf L' = (if er = 0 then lxOf L ++ [(wKind gone, { wObj gone o with ver := (n : Int) + 1 })] else lxOf L) ∧ (er ≠ 0 → lv' = lv)) ∧ Kept (fun b => b = sp ∨ b = mb ∨ lv.ownBlock = some b) w w' := by
  subst her
  obtain ⟨vv, rfl, hA⟩ := act9_form ha
  by_cases he : wErr M K gone o = 0
  · obtain ⟨hvv, lv', x, y, hst, hkp⟩ := act9_did hA he
    have hai := act_is y h.h.2.1 hK hs (by omega) he
    have hlen := h.h.2.2.1
    have e1 : lxOf (L ++ [(wKind gone, ({ wObj gone o with ver := (n : Int) + 1 }, x))]) = lxOf L ++ [(wKind gone, { wObj gone o with ver := (n : Int) + 1 })] := by simp [lxOf]
    obtain ⟨hT, hR⟩ := told_app (x := x) (y := y) h gone hK hai
    refine ⟨by rw [hvv, he, if_pos rfl], Lib.hid ⟨n + 1, _, lv', _, ⟨⟨by simpa using hst, by simpa using hai.inv, by rw [List.length_append, hlen]; rfl, by have := h.h.2.2.2.1; omega, by have := hai.len; have := h.h.2.2.2.2.1; omega, fun q hq => ?_⟩, hT, hR⟩, by rw [if_pos he], by rw [if_pos he, e1], fun q => absurd he q⟩, hkp⟩
    rcases List.mem_append.1 hq with r | r
    · exact h.h.2.2.2.2.2 q r
    · obtain rfl := List.mem_singleton.1 r; exact (show objSmall _ from hai.small)
  · obtain ⟨hvv, hb⟩ := act9_err hA he
    exact ⟨by rw [hvv, if_neg he], Lib.hid ⟨n, M, lv, L, ⟨⟨h.h.1.below hb, h.h.2.1, h.h.2.2.1, by have := h.h.2.2.2.1; omega, h.h.2.2.2.2⟩, h.told, h.run⟩, by rw [if_neg he], by rw [if_neg he], fun _ => rfl⟩, kept_of_below hb⟩
theorem rerr_eq {M : AM KS OX} {m : AO} (hm : mo M = m) (hM : M.length < 1000) (K : KS) (gone : Bool) {o : ObjD} (hK : K.1 = o.key) : wErr M K gone o = if gone then (if keyOk o.key then if hasA m K then 0 else 4 else 1) else (if rightO { o with ver := 1 } then 0 else 1) := by
  subst hm
  unfold wErr
  cases gone with
  | true => rw [if_pos rfl, if_pos rfl]; unfold delErr; rw [hK, hasA_mo]
  | false =>
    rw [if_neg (by decide), if_neg (by decide)]; unfold putErr
    rw [decide_eq_true hM, Bool.or_true, if_pos rfl]
theorem RefS9.storeK {w w' W : World} {base sp mb n k mp : Nat} {M : AM KS OX} {lv v : Value} {L RL : List LX} (h : RefS9 w W base mp v RL) (hs : TState w base sp mb n k M lv L) (hne : ∀ k, lv.ownBlock = some k → v.ownBlock ≠ some k) (hk : Kept (fun b => b = sp ∨ b = mb ∨ lv.ownBlock = some b) w w') : RefS9 w' W base mp v RL := by
  have h1 : ¬ (mp = sp ∨ mp = mb ∨ lv.ownBlock = some mp) := by
    rintro (e | e | e)
    · subst e
      have hc := h.cell
      rw [hs.h.1.cell] at hc; injection hc with hc; injection hc with _ ht; exact absurd ht (by decide)
    · exact mv_other hs.h.1.map h.cell e
    · exact rw_other hs.h.1.row h.cell (by decide) e
  refine ⟨hk.heap h.cell h1, rw_kept h.row hk (fun b e q => ?_), h.args, h.small, h.ge⟩
  rcases q with q | q | q
  · subst q; exact rw_other h.row hs.h.1.cell (by decide) e
  · subst q
    obtain ⟨_, cs, hc⟩ := rw_type h.row e
    exact mv_other hs.h.1.map hc rfl
  · exact hne b q e
theorem TState.refK {w w' : World} {base sp mb n k mp : Nat} {M : AM KS OX} {lv : Value} {L : List LX} {cs : Array Value} (h : TState w base sp mb n k M lv L) (hd : w.heap[mp]? = some (.cells cs 50)) (hk : Kept (fun k => k = mp) w w') : TState w' base sp mb n k M lv L :=
  ⟨⟨h.h.1.kept hk (fun e => by
      have e' : sp = mp := e
      subst e'
      have hc := h.h.1.cell
      rw [hd] at hc; injection hc with hc; injection hc with _ ht; exact absurd ht (by decide)) (fun e => mv_other h.h.1.map hd e.symm) (fun k e q => by subst q; exact rw_other h.h.1.row hd (by decide) e) (fun k e c hc => by subst e; rw [hd] at hc; injection hc with hc; injection hc with _ ht; exact absurd ht (by decide)), h.h.2⟩, h.told, h.run⟩
end Go.Proofs.Ythhfcambdmdgfaa
namespace Go.Proofs.Ythhfcambdmdgfaa
open Go.RowKit Go.Maps Srt
set_option linter.unusedVariables false
set_option linter.unusedSimpArgs false
theorem ract_form {w W w' : World} {base mp : Nat} {RL : List LX} {v : Value} {kd : Int} {o : ObjD} {sl : Value} {er : Int} {e : Ending} {n : Nat} (hr : RefS9 w W base mp v RL) (hn : RL.length = n) (h : RAct9 w W base mp RL kd o sl er e w') :
    e = .returned (.tuple #[.int .i64 (if er = 0 then (n : Int) + 1 else 0), .int .i64 er]) ∧ Hid (∃ v' RL', RefS9 w' W base mp v' RL' ∧ lxOf RL' = (if er = 0 then lxOf RL ++ [(kd, { o with ver := (n : Int) + 1 })] else lxOf RL) ∧ (er = 0 → ∀ k, v'.ownBlock = some k → w.heap.size ≤ k) ∧ (er ≠ 0 → v' = v)) ∧ Kept (fun k => k = mp) w w' := by
  subst hn
  rcases h with ⟨h1, h2, h3⟩ | ⟨h1, v', h2, h3, h4, h5⟩
  · exact ⟨by rw [if_neg h1]; exact h2, Lib.hid ⟨v, RL, hr.below h3, by rw [if_neg h1], fun q => absurd q h1, fun _ => rfl⟩, kept_of_below h3⟩
  · exact ⟨by rw [if_pos h1, h1]; exact h2, Lib.hid ⟨v', _, h3, by rw [if_pos h1]; simp [lxOf], fun _ => h4, fun q => absurd h1 q⟩, h5⟩
theorem snapsame_calls (w : World) {A B : Option Addr} {nM c d n : Nat} {l : List ObjD} (h1 : ∃ zs, ObjsS w (.slice A nM c) zs ∧ oxs zs = l ∧ zs.length = nM) (h2 : ∃ zs, ObjsS w (.slice B nM d) zs ∧ oxs zs = l ∧ zs.length = nM) (hs : OSmall l ∧ nM ≤ 1000) (hn : n ≤ 1000) :
    Calls Try.prog 16 #[.agg #[.int .i64 2, .string ⟨#[]⟩, .string ⟨#[]⟩, .string ⟨#[]⟩, .int .i64 0, .string ⟨#[]⟩, .bool false, .bool false, .slice none 0 0, .int .i64 n, .slice A nM c], .agg #[.int .i64 2, .string ⟨#[]⟩, .string ⟨#[]⟩, .string ⟨#[]⟩, .int .i64 0, .string ⟨#[]⟩, .bool false, .bool false, .slice none 0 0, .int .i64 n, .slice B nM d]] w fun e w' => e = .returned (.bool true) ∧ Below w.heap.size w w' := by
  obtain ⟨xs, a1, a2, a3⟩ := h1
  obtain ⟨ys, b1, b2, b3⟩ := h2
  have h := revsame_calls w 2 2 (n : Int) (n : Int) (zeroO_S w) zeroO_small a1 (by rw [a2]; exact hs.1) (by omega) (zeroO_S w) zeroO_small b1 (by rw [b2]; exact hs.1) (by omega)
  rw [a2, b2, sameE_refl] at h
  exact h
set_option maxRecDepth 100000 in
set_option maxHeartbeats 32000000 in
theorem storePlays_law (w : World) {ol : Value} {xs : List WX} (hx : WrS w ol xs) :
    Calls Try.prog 5 #[ol] w fun e w' => e = .returned (.bool true) ∧ Below w.heap.size w w' := by
  have HX := Lib.hid hx
  obtain ⟨al, cl, rfl⟩ := hx.form
  have HFA := Lib.hid (fits9_calls w hx)
  clear hx
  have hB := Below.refl w.heap.size w
  go_enter Try.func5, Try.ntmps5
  go_upto_region 2 with (go_at_call 26; ((with_reducible refine HFA.out.mono ?_); rintro e W ⟨f1, rfl, hf1, hb⟩; have HF1 := Lib.hid hf1; have HBw := Lib.hid (bl_next hB hb); clear hf1 hb))
  cases f1 with
  | false =>
    go_wp2_with (go_at_call 27; refine (alive9_calls _).mono ?_; rintro e w' ⟨rfl, hb⟩; have HB2 := Lib.hid (bl_from HBw.out hb); clear hb)
    go_ret
    exact ⟨rfl, HB2.out⟩
  | true =>
  obtain ⟨hsm, hl60⟩ := HF1.out rfl
  have HSM := Lib.hid hsm
  have HXW := Lib.hid (HX.out.below HBw.out)
  clear HF1 HFA hsm hB HX
  go_upto_region 6 with (go_at_call 28; refine (snew_calls _).mono ?_; rintro e w1 ⟨sp, mb, rfl, hst, hb⟩; have H1 := Lib.hid (TState.start hst); have HB1 := Lib.hid hb; clear hst hb)
  first | with_reducible refine name_wp ?_ | with_reducible refine name_calls ?_
  intro V1 hV
  have hbV : Below w1.heap.size w1 V1 := by rw [hV]; exact (Below.refl _ _).alloc (Nat.le_refl _) _
  have HR1 := Lib.hid (show RefS9 V1 W W.heap.size w1.heap.size (.slice none 0 0) [] from ⟨by rw [hV]; exact blk_new w1 _, ⟨rfl, .inl ⟨rfl, rfl⟩⟩, by rintro e ⟨⟩, by rintro e ⟨⟩, HB1.out.size⟩)
  clear hV
  have H2 := Lib.hid (H1.out.below hbV)
  have HB2 := Lib.hid (bl_next HB1.out hbV)
  clear hbV H1 HB1
  obtain ⟨mp, hmp⟩ : ∃ z, w1.heap.size = z := ⟨_, rfl⟩
  rw [hmp] at HR1 ⊢
  clear hmp
  go_wp2_with fail
  go_loopw [6] (fun s6 wr => ∃ (k n : Nat) (M : AM KS OX) (lv : Value) (L : List LX) (v : Value) (RL : List LX), s6 = .int .i64 (k : Int) ∧ k ≤ xs.length ∧ Hid (TState wr W.heap.size sp mb n k M lv L) ∧ Hid (RefS9 wr W W.heap.size mp v RL ∧ lxOf RL = lxOf L ∧ (∀ q, lv.ownBlock = some q → v.ownBlock ≠ some q)) ∧ Hid (Below W.heap.size W wr)) (fun s6 _ => xs.length - (intOf s6).toNat)
  case atStart => exact ⟨0, 0, [], _, [], _, [], rfl, Nat.zero_le _, H2, Lib.hid ⟨HR1.out, rfl, fun q h => by cases h⟩, HB2⟩
  case round =>
    clear H2 HR1 HB2
    obtain ⟨k, n, M, lv, L, v, RL, rfl, hk, HT, HRR, HBr⟩ := hrel
    have HR := Lib.hid HRR.out.1; have HLE := Lib.hid HRR.out.2.1; have HNE := Lib.hid HRR.out.2.2
    clear HRR
    have hnk := HT.out.h.2.2.2.1
    by_cases hkl : k < xs.length
    · have hkI : (k : Int) < xs.length := by omega
      obtain ⟨b, of, c9, he, q, s⟩ := HXW.out.at' hkl
      cases he
      have hsmo := HSM.out _ (List.getElem_mem hkl)
      generalize xs[k]'hkl = x at q s hsmo
      obtain ⟨gone, o, so⟩ := x
      simp only at s hsmo
      obtain ⟨ao, co, rfl⟩ := s.1.form
      have QX := Lib.hid q
      have HSW := Lib.hid s
      have q := q.below HBr.out
      have d0 := (q).c0
      have d1 := (q).c1
      have d2 := (q).c2
      have d3 := (q).c3
      have d4 := (q).c4
      have d5 := (q).c5
      have d6 := (q).c6
      have d7 := (q).c7
      have d8 := (q).c8
      have HSO := Lib.hid hsmo
      obtain ⟨K, hK⟩ : ∃ K : KS, K.1 = o.key := ⟨⟨o.key, hsmo.1⟩, rfl⟩
      have HK := Lib.hid hK
      have hM1 : M.length < 1000 := by have := HT.out.h.2.2.2.2.1; omega
      obtain ⟨er, her⟩ : ∃ z, wErr M K gone o = z := ⟨_, rfl⟩
      have hrl : RL.length = n := by
        have h1 : (lxOf RL).length = (lxOf L).length := by rw [HLE.out]
        rw [lxOf_len, lxOf_len, HT.out.h.2.2.1] at h1
        exact h1
      have HRLN := Lib.hid hrl
      have HER := Lib.hid (rerr_eq HT.out.run hM1 K gone hK)
      rw [her, ← HLE.out] at HER
      have HDO := Lib.hid ((do_calls wr HT.out.h.1 gone (k := K) (sl := .slice ao o.charge.length co) hK (fun U hU => s.below (HBr.out.trans (StoreAt.keptB HT.out.h.1 hU HBr.out.size))) hsmo (by omega) (by omega) (by have := HT.out.h.2.2.1; omega)).mono fun e w' hA => told_do2 HT.out gone hK hsmo her hA)
      obtain ⟨vv, hvv⟩ : ∃ z : Int, (if er = 0 then (n : Int) + 1 else 0) = z := ⟨_, rfl⟩
      rw [hvv] at HDO
      have HVV := Lib.hid hvv
      clear q s hK hsmo her hvv hM1 hrl
      go_upto_region 12 with (go_at_call 29; refine HDO.out.mono ?_; rintro e w2 ⟨rfl, hT2, hk2⟩; have HT2E := Lib.hid hT2.out; have HK2 := Lib.hid hk2; clear hT2 hk2)
      clear d0 d1 d2 d3 d4 d5 d6 d7 d8
      obtain ⟨n2, M2, lv2, L2, hT2, hn2, hl2, hlv2⟩ := HT2E.out
      have HT2 := Lib.hid hT2; have HL2 := Lib.hid hl2; have HLV2 := Lib.hid hlv2
      have HR2 := Lib.hid (HR.out.storeK HT.out HNE.out HK2.out)
      have HB2 := Lib.hid (HBr.out.trans (StoreAt.keptB HT.out.h.1 HK2.out HBr.out.size))
      have HTL := Lib.hid (show ToldL (lxOf L) from HT.out.told)
      have OIN := Lib.hid (show oIn (obA (runL (lxOf L2)).1 K) from by
        have hM2 := hT2.run
        rw [← hM2, obA_mo]
        unfold objOf
        cases e : getA M2 K with
        | none => exact ⟨(show in64 0 by unfold in64; omega), by rintro p ⟨⟩⟩
        | some p => exact (hT2.h.1.resM _ (getA_mem e)).2.1)
      clear hT2 hl2 hlv2 HT2E HDO HT HR HBr HK2 hn2
      rw [← HLE.out] at HL2 HTL
      have QX2 := Lib.hid (QX.out.below HB2.out)
      have d0 := QX2.out.c0
      have HRL6 := Lib.hid (show RL.length ≤ 60 by have := HRLN.out; omega)
      cases gone with
      | true =>
        have he := HER.out
        rw [if_pos rfl] at he
        have HRA := rdel9_calls w2 HR2.out HB2.out HB2.out.size HRL6.out rfl HTL.out K HK.out
        rw [← he] at HRA
        have HRB := Lib.hid (HRA.mono fun e w' hA => ract_form HR2.out HRLN.out hA)
        rw [HVV.out] at HRB
        have d1 := QX2.out.c1
        have d2 := QX2.out.c2
        have d3 := QX2.out.c3
        clear he HRA
        go_upto_region 15 with (go_at_call 30; refine HRB.out.mono ?_; rintro e w3 ⟨rfl, hX, hk⟩; have HX3 := Lib.hid hX.out; have HK3 := Lib.hid hk; clear hX hk)
        clear d0 d1 d2 d3
        have hc3 := HR2.out.cell
        have HT3 := Lib.hid (HT2.out.refK hc3 HK3.out)
        have HB3 := Lib.hid (HB2.out.trans (kept_to HK3.out HB2.out.size HR2.out.ge))
        obtain ⟨v3, RL3, hr3, hl3, hf3, hv3⟩ := HX3.out
        have HR3 := Lib.hid hr3
        have HLE3 := Lib.hid (show lxOf RL3 = lxOf L2 from hl3.trans HL2.out.symm)
        have HNE3 := Lib.hid (show ∀ q, lv2.ownBlock = some q → v3.ownBlock ≠ some q from fun q e1 e2 => by
          by_cases h0 : er = 0
          · have a1 := hf3 h0 q e2
            obtain ⟨_, cs, hcs⟩ := rw_type HT2.out.h.1.row e1
            have := blk_lt hcs
            omega
          · rw [hv3 h0] at e2
            rw [HLV2.out h0] at e1
            exact HNE.out q e1 e2)
        clear hr3 hl3 hf3 hv3 hc3 HX3 HK3 HR2 HB2 HT2 HL2 HLV2 HNE
        obtain ⟨l3, hl3⟩ : ∃ z, lxOf L2 = z := ⟨_, rfl⟩
        have HL3 := Lib.hid hl3
        have HR3L := Lib.hid (show RL3.length = n2 by
          have h1 : (lxOf RL3).length = (lxOf L2).length := by rw [HLE3.out]
          rw [lxOf_len, lxOf_len, HT3.out.h.2.2.1] at h1
          exact h1)
        rw [hl3] at HLE3 OIN
        have HT3L := Lib.hid (show ToldL l3 by rw [← hl3]; exact HT3.out.told)
        have HRN := Lib.hid (show mo M2 = (runL l3).1 by rw [← hl3]; exact HT3.out.run)
        clear hl3
        have hk60 : k + 1 ≤ 60 := by omega
        have hn60 : n2 ≤ 60 := by have := HT3.out.h.2.2.2.1; omega
        obtain ⟨og, hog⟩ : ∃ z, obA (runL l3).1 K = z := ⟨_, rfl⟩
        obtain ⟨ig, hig⟩ : ∃ z, hasA (runL l3).1 K = z := ⟨_, rfl⟩
        have HSGT := Lib.hid (sget_calls w3 HT3.out.h.1 (fun q hq => (HT3.out.h.2.1.2 q hq).2.2.2.2) K)
        rw [show objOf M2 K = og by rw [← hog, ← HRN.out, obA_mo], show hasA M2 K = ig by rw [← hig, ← HRN.out, hasA_mo], HK.out] at HSGT
        have HRGT := Lib.hid (fun (U : World) (hb : Below w3.heap.size w3 U) => rget9_calls U (HR3.out.below hb) (bl_next HB3.out hb) (by have := HR3L.out; omega) HLE3.out HT3L.out K HK.out)
        rw [hog, hig] at HRGT
        rw [hog] at OIN
        have HOS := Lib.hid (show og.charge.length ≤ 1000000 by
          have hI := (runI HT3L.out l3.length (Nat.le_refl _)).inv
          rw [List.take_length] at hI
          rw [← hog]
          unfold obA
          cases e : getA (runL l3).1 K with
          | none => exact Nat.zero_le _
          | some o => have := (hI.objs _ ((get_mem strictKS hI.rise).1 e)).2.2.2.2.2.1; exact Nat.le_trans this (by omega))
        clear hog hig
        obtain ⟨nM, hnM⟩ : ∃ z, (runL l3).1.length = z := ⟨_, rfl⟩
        have HNM := Lib.hid hnM
        clear hnM
        have q3 := QX.out.below HB3.out
        have d1 := q3.c1
        have d2 := q3.c2
        have d3 := q3.c3
        clear q3
        go_upto_region 16 with (go_at_call 32; refine HSGT.out.mono ?_; rintro e w4 ⟨x4, rfl, hrf4, hb⟩; obtain ⟨g4, rfl⟩ := hrf4.form; have HRF4 := Lib.hid hrf4; have HB4 := Lib.hid hb; clear hb hrf4; unfold objV)
        clear d1 d2 d3
        first | with_reducible refine name_wp ?_ | with_reducible refine name_calls ?_
        intro V4 hV
        have gX := (show V4.heap[w4.heap.size]? = some (.cells #[.string og.key.kind, .string og.key.space, .string og.key.name, .int .i64 og.ver, .string og.cls, .bool og.term, .bool og.best, .slice (some ⟨g4, 0, none⟩) og.charge.length og.charge.length] 27) by rw [hV]; exact blk_new w4 _)
        have hbV : Below w4.heap.size w4 V4 := by rw [hV]; exact (Below.refl _ _).alloc (Nat.le_refl _) _
        clear hV
        have HGX := Lib.hid gX
        have HB5 := Lib.hid (bl_next HB4.out hbV)
        have HXS := Lib.hid (show ObjS V4 (.slice (some ⟨g4, 0, none⟩) og.charge.length og.charge.length) og from (by
          have hO := OIN.out
          exact ⟨(HRF4.out.below hbV).resS hO.2, hO.1⟩))
        clear gX hbV HRF4
        have q5 := QX.out.below (bl_next HB3.out HB5.out)
        have d1 := q5.c1
        have d2 := q5.c2
        have d3 := q5.c3
        clear q5
        go_upto_region 17 with (go_at_call 33; refine (HRGT.out V4 HB5.out).mono ?_; rintro e w6 ⟨s6, rfl, hs6, hb⟩; obtain ⟨a6, c6, rfl⟩ := hs6.1.form; have HS6 := Lib.hid hs6; have HB6 := Lib.hid hb; clear hb hs6; unfold objV)
        clear d1 d2 d3
        first | with_reducible refine name_wp ?_ | with_reducible refine name_calls ?_
        intro V6 hV
        have gY := (show V6.heap[w6.heap.size]? = some (.cells #[.string og.key.kind, .string og.key.space, .string og.key.name, .int .i64 og.ver, .string og.cls, .bool og.term, .bool og.best, .slice a6 og.charge.length c6] 27) by rw [hV]; exact blk_new w6 _)
        have hbV : Below w6.heap.size w6 V6 := by rw [hV]; exact (Below.refl _ _).alloc (Nat.le_refl _) _
        clear hV
        have hbV5 := bl_next HB6.out hbV
        have gX := blk_below HGX.out hbV5
        have HSA := Lib.hid (rosame_calls V6 (HXS.out.below hbV5) (HS6.out.below hbV) ⟨HOS.out, HOS.out⟩)
        rw [sameO_self] at HSA
        unfold objV at HSA
        have HB7 := Lib.hid (bl_next HB5.out hbV5)
        have x0 := blk_cell gX 0
        have y0 := blk_cell gY 0
        have x1 := blk_cell gX 1
        have y1 := blk_cell gY 1
        have x2 := blk_cell gX 2
        have y2 := blk_cell gY 2
        have x3 := blk_cell gX 3
        have y3 := blk_cell gY 3
        have x4 := blk_cell gX 4
        have y4 := blk_cell gY 4
        have x5 := blk_cell gX 5
        have y5 := blk_cell gY 5
        have x6 := blk_cell gX 6
        have y6 := blk_cell gY 6
        have x7 := blk_cell gX 7
        have y7 := blk_cell gY 7
        clear gX gY hbV hbV5 HGX HXS HS6 HB6 HB5 HB4 HSGT HRGT HOS
        go_upto_region 18 with (go_at_call 24; refine HSA.out.mono ?_; rintro e w8 ⟨rfl, hb⟩; have HB8 := Lib.hid (bl_next HB7.out hb); clear hb)
        clear x0 x1 x2 x3 x4 x5 x6 x7 y0 y1 y2 y3 y4 y5 y6 y7
        have HB8W := Lib.hid (bl_next HB3.out HB8.out)
        have HS9 := Lib.hid (snapT_calls (HT3.out.below HB8.out) hk60 HL3.out HNM.out)
        have HS10 := Lib.hid (fun (U : World) (hb : Below w8.heap.size w8 U) => rsnap9_calls U (HR3.out.below (bl_next HB8.out hb)) (bl_next HB8W.out hb) (by have := HR3L.out; omega) HLE3.out HT3L.out HNM.out HR3L.out)
        have HSMS := Lib.hid (show OSmall (sortM (runL l3).1) ∧ nM ≤ 1000 from by
          have hR := runI HT3L.out l3.length (Nat.le_refl _)
          rw [List.take_length] at hR
          refine ⟨sortM_small hR.inv, ?_⟩
          have h1 := hR.len
          have h2 : l3.length = n2 := by rw [← HL3.out, lxOf_len, HT3.out.h.2.2.1]
          have h3 := HNM.out
          omega)
        have HS7 := Lib.hid (fun (U : World) (A B : Option Addr) (c d : Nat) h1 h2 => snapsame_calls (A := A) (B := B) (c := c) (d := d) (n := n2) U h1 h2 HSMS.out (by omega))
        go_upto_region 19 with (first
          | (go_at_call 34; refine HS9.out.mono ?_; rintro e w9 ⟨A9, c9, rfl, hz, hb⟩; have HZ9 := Lib.hid hz.out; have HB9 := Lib.hid hb; clear hz hb)
          | (go_at_call 35; refine (HS10.out w9 HB9.out).mono ?_; rintro e w10 ⟨A10, c10, rfl, hz, hb⟩; have HZ10 := Lib.hid hz.out; have HY10 := Lib.hid (objsE_below HZ9.out hb); have HB10 := Lib.hid (bl_next HB9.out hb); clear hz hb)
          | (go_at_call 16; refine (HS7.out w10 A9 A10 c9 c10 HY10.out HZ10.out).mono ?_; rintro e w11 ⟨rfl, hb⟩; have HB11 := Lib.hid (bl_next HB10.out hb); clear hb))
        have HB11W := Lib.hid (bl_next HB8W.out HB11.out)
        have HB11V := Lib.hid (bl_next HB8.out HB11.out)
        have HTZ := Lib.hid (HT3.out.below HB11V.out)
        have HRZ := Lib.hid (HR3.out.below HB11V.out)
        obtain ⟨Z, rfl⟩ : ∃ U : World, U = w11 := ⟨_, rfl⟩
        obtain ⟨A3, c3, hv3⟩ := rw_form HR3.out.row
        have m0 : Z.cell? ⟨mp, 0, none⟩ = some (.slice A3 n2 c3) := by have h := blk_cell HRZ.out.cell 0; rw [← HR3L.out, ← hv3]; exact h
        have HVR := Lib.hid (fun (U : World) (hb : Below Z.heap.size Z U) => sversion_calls U (HTZ.out.h.1.below hb))
        clear hv3 HS9 HS10 HS7 HZ9 HZ10 HY10 HB9 HB10 HB11 HB8 HB8W HSMS HB7 HSA HT3 HR3 HB3 HB11V
        have hB := Below.refl Z.heap.size Z
        have hB := hB.drew
        refine region_seq (fun w' => Below Z.heap.size Z w') [(0, true), (1, true), (2, true), (3, true), (4, true), (5, true), (6, true), (7, true), (8, true), (9, true), (10, true), (11, true), (12, true), (13, true), (14, true), (15, true), (16, true), (17, true), (18, true), (19, true), (20, true), (21, true), (22, true), (24, true), (25, true), (26, true), (27, true), (28, true), (23, false), (29, true), (30, true)] (by kernel_rfl) (by kernel_rfl) (fun _ _ _ _ h => h) hB ?_
        try generalize World.drew _ = wS at hB ⊢
        refine seq_take (v := ?_) (a' := ?_) (some 105) rfl rfl (by rfl) ?_ ?_ ?_
        rotate_left; rotate_left
        · intro w' hS; go_simp; with_reducible rfl
        · simp only [Act.put, List.setIfInBounds_toArray, List.set_cons_zero, List.set_cons_succ]; rfl
        refine seq_take (v := ?_) (a' := ?_) (some 106) rfl rfl (by rfl) ?_ ?_ ?_
        rotate_left; rotate_left
        · intro w' hS; go_simp; with_reducible rfl
        · simp only [Act.put, List.setIfInBounds_toArray, List.set_cons_zero, List.set_cons_succ]; rfl
        refine seq_take (v := ?_) (a' := ?_) (some 107) rfl rfl (by rfl) ?_ ?_ ?_
        rotate_left; rotate_left
        · intro w' hS; go_simp; with_reducible rfl
        · simp only [Act.put, List.setIfInBounds_toArray, List.set_cons_zero, List.set_cons_succ]; rfl
        refine seq_take (v := ?_) (a' := ?_) (some 108) rfl rfl (by rfl) ?_ ?_ ?_
        rotate_left; rotate_left
        · intro w' hS; go_simp; with_reducible rfl
        · simp only [Act.put, List.setIfInBounds_toArray, List.set_cons_zero, List.set_cons_succ]; rfl
        refine seq_take (v := ?_) (a' := ?_) (some 109) rfl rfl (by rfl) ?_ ?_ ?_
        rotate_left; rotate_left
        · intro w' hS; go_simp; with_reducible rfl
        · simp only [Act.put, List.setIfInBounds_toArray, List.set_cons_zero, List.set_cons_succ]; rfl
        refine seq_take (v := ?_) (a' := ?_) (some 110) rfl rfl (by rfl) ?_ ?_ ?_
        rotate_left; rotate_left
        · intro w' hS; go_simp; with_reducible rfl
        · simp only [Act.put, List.setIfInBounds_toArray, List.set_cons_zero, List.set_cons_succ]; rfl
        refine seq_take (v := ?_) (a' := ?_) (some 111) rfl rfl (by rfl) ?_ ?_ ?_
        rotate_left; rotate_left
        · intro w' hS; go_simp; with_reducible rfl
        · simp only [Act.put, List.setIfInBounds_toArray, List.set_cons_zero, List.set_cons_succ]; rfl
        refine seq_take (v := ?_) (a' := ?_) (some 112) rfl rfl (by rfl) ?_ ?_ ?_
        rotate_left; rotate_left
        · intro w' hS; go_simp; with_reducible rfl
        · simp only [Act.put, List.setIfInBounds_toArray, List.set_cons_zero, List.set_cons_succ]; rfl
        refine seq_take (v := ?_) (a' := ?_) (some 113) rfl rfl (by rfl) ?_ ?_ ?_
        rotate_left; rotate_left
        · intro w' hS; go_simp; with_reducible rfl
        · simp only [Act.put, List.setIfInBounds_toArray, List.set_cons_zero, List.set_cons_succ]; rfl
        refine seq_take (v := ?_) (a' := ?_) (some 114) rfl rfl (by rfl) ?_ ?_ ?_
        rotate_left; rotate_left
        · intro w' hS; go_simp; with_reducible rfl
        · simp only [Act.put, List.setIfInBounds_toArray, List.set_cons_zero, List.set_cons_succ]; rfl
        refine seq_take (v := ?_) (a' := ?_) (some 115) rfl rfl (by rfl) ?_ ?_ ?_
        rotate_left; rotate_left
        · intro w' hS; go_simp; with_reducible rfl
        · simp only [Act.put, List.setIfInBounds_toArray, List.set_cons_zero, List.set_cons_succ]; rfl
        refine seq_take (v := ?_) (a' := ?_) (some 116) rfl rfl (by rfl) ?_ ?_ ?_
        rotate_left; rotate_left
        · intro w' hS; go_simp; with_reducible rfl
        · simp only [Act.put, List.setIfInBounds_toArray, List.set_cons_zero, List.set_cons_succ]; rfl
        refine seq_take (v := ?_) (a' := ?_) (some 117) rfl rfl (by rfl) ?_ ?_ ?_
        rotate_left; rotate_left
        · intro w' hS; go_simp; with_reducible rfl
        · simp only [Act.put, List.setIfInBounds_toArray, List.set_cons_zero, List.set_cons_succ]; rfl
        refine seq_take (v := ?_) (a' := ?_) (some 118) rfl rfl (by rfl) ?_ ?_ ?_
        rotate_left; rotate_left
        · intro w' hS; go_simp; with_reducible rfl
        · simp only [Act.put, List.setIfInBounds_toArray, List.set_cons_zero, List.set_cons_succ]; rfl
        refine seq_take (v := ?_) (a' := ?_) (some 119) rfl rfl (by rfl) ?_ ?_ ?_
        rotate_left; rotate_left
        · intro w' hS; go_simp; with_reducible rfl
        · simp only [Act.put, List.setIfInBounds_toArray, List.set_cons_zero, List.set_cons_succ]; rfl
        refine seq_take (v := ?_) (a' := ?_) (some 120) rfl rfl (by rfl) ?_ ?_ ?_
        rotate_left; rotate_left
        · intro w' hS; go_simp; with_reducible rfl
        · simp only [Act.put, List.setIfInBounds_toArray, List.set_cons_zero, List.set_cons_succ]; rfl
        refine seq_take (v := ?_) (a' := ?_) (some 121) rfl rfl (by rfl) ?_ ?_ ?_
        rotate_left; rotate_left
        · intro w' hS; go_simp; with_reducible rfl
        · simp only [Act.put, List.setIfInBounds_toArray, List.set_cons_zero, List.set_cons_succ]; rfl
        refine seq_take (v := ?_) (a' := ?_) (some 122) rfl rfl (by rfl) ?_ ?_ ?_
        rotate_left; rotate_left
        · intro w' hS; go_simp; with_reducible rfl
        · simp only [Act.put, List.setIfInBounds_toArray, List.set_cons_zero, List.set_cons_succ]; rfl
        refine seq_take (v := ?_) (a' := ?_) (some 123) rfl rfl (by rfl) ?_ ?_ ?_
        rotate_left; rotate_left
        · intro w' hS; go_simp; with_reducible rfl
        · simp only [Act.put, List.setIfInBounds_toArray, List.set_cons_zero, List.set_cons_succ]; rfl
        refine seq_take (v := ?_) (a' := ?_) (some 124) rfl rfl (by rfl) ?_ ?_ ?_
        rotate_left; rotate_left
        · intro w' hS; go_simp; with_reducible rfl
        · simp only [Act.put, List.setIfInBounds_toArray, List.set_cons_zero, List.set_cons_succ]; rfl
        refine seq_take (v := ?_) (a' := ?_) (some 125) rfl rfl (by rfl) ?_ ?_ ?_
        rotate_left; rotate_left
        · intro w' hS; go_simp; with_reducible rfl
        · simp only [Act.put, List.setIfInBounds_toArray, List.set_cons_zero, List.set_cons_succ]; rfl
        refine seq_take (v := ?_) (a' := ?_) (some 126) rfl rfl (by rfl) ?_ ?_ ?_
        rotate_left; rotate_left
        · intro w' hS; go_simp; with_reducible rfl
        · simp only [Act.put, List.setIfInBounds_toArray, List.set_cons_zero, List.set_cons_succ]; rfl
        refine seq_take (v := ?_) (a' := ?_) (some 127) rfl rfl (by rfl) ?_ ?_ ?_
        rotate_left; rotate_left
        · intro w' hS; go_simp; with_reducible rfl
        · simp only [Act.put, List.setIfInBounds_toArray, List.set_cons_zero, List.set_cons_succ]; rfl
        refine seq_take (v := ?_) (a' := ?_) (some 129) rfl rfl (by rfl) ?_ ?_ ?_
        rotate_left; rotate_left
        · intro w' hS; go_simp; with_reducible rfl
        · simp only [Act.put, List.setIfInBounds_toArray, List.set_cons_zero, List.set_cons_succ]; rfl
        refine seq_take (v := ?_) (a' := ?_) (some 130) rfl rfl (by rfl) ?_ ?_ ?_
        rotate_left; rotate_left
        · intro w' hS; go_simp; with_reducible rfl
        · simp only [Act.put, List.setIfInBounds_toArray, List.set_cons_zero, List.set_cons_succ]; rfl
        refine seq_take (v := ?_) (a' := ?_) (some 131) rfl rfl (by rfl) ?_ ?_ ?_
        rotate_left; rotate_left
        · intro w' hS; go_simp; with_reducible rfl
        · simp only [Act.put, List.setIfInBounds_toArray, List.set_cons_zero, List.set_cons_succ]; rfl
        refine seq_take (v := ?_) (a' := ?_) (some 132) rfl rfl (by rfl) ?_ ?_ ?_
        rotate_left; rotate_left
        · intro w' hS; have q0 := cb hS m0; go_simp; with_reducible rfl
        · simp only [Act.put, List.setIfInBounds_toArray, List.set_cons_zero, List.set_cons_succ]; rfl
        refine seq_take (v := ?_) (a' := ?_) (some 133) rfl rfl (by rfl) ?_ ?_ ?_
        rotate_left; rotate_left
        · intro w' hS; go_simp; with_reducible rfl
        · simp only [Act.put, List.setIfInBounds_toArray, List.set_cons_zero, List.set_cons_succ]; rfl
        refine seq_call (args := ?_) Try.func36 (by kernel_rfl) rfl (some 128) rfl rfl (by rfl) rfl ?_ ?_
        rotate_left
        · simp only [List.map_toArray, List.map_cons, List.map_nil]; go_simp; rfl
        with_reducible refine (HVR.out _ hB).mono ?_
        rintro e w' ⟨rfl, hb⟩
        refine ⟨_, rfl, bl_next (by repeat (first | with_reducible exact hB | refine Below.alloc ?_ (by have := hB.size; simp; omega) _ | refine bl_dN ?_ _ | refine Below.drew ?_ | refine Below.setCell ?_ (by have := hB.size; simp; omega) _)) hb, ?_⟩
        have hB := bl_next (by repeat (first | with_reducible exact hB | refine Below.alloc ?_ (by have := hB.size; simp; omega) _ | refine bl_dN ?_ _ | refine Below.drew ?_ | refine Below.setCell ?_ (by have := hB.size; simp; omega) _)) hb; clear hb
        simp only [Act.put, List.setIfInBounds_toArray, List.set_cons_zero, List.set_cons_succ]
        refine seq_take (v := ?_) (a' := ?_) (some 134) rfl rfl (by rfl) ?_ ?_ ?_
        rotate_left; rotate_left
        · intro w' hS; go_simp; with_reducible rfl
        · simp only [Act.put, List.setIfInBounds_toArray, List.set_cons_zero, List.set_cons_succ]; rfl
        refine seq_take (v := ?_) (a' := ?_) (some 135) rfl rfl (by rfl) ?_ ?_ ?_
        rotate_left; rotate_left
        · intro w' hS; go_simp; with_reducible rfl
        · simp only [Act.put, List.setIfInBounds_toArray, List.set_cons_zero, List.set_cons_succ]; rfl
        refine seq_done ?_
        have HTF := Lib.hid (HTZ.out.below hB)
        have HRF := Lib.hid (HRZ.out.below hB)
        have HBF := Lib.hid (bl_next HB11W.out hB)
        clear hB m0
        go_wp2_with fail
        go_roundw
        case rel => exact ⟨k + 1, n2, M2, lv2, L2, v3, RL3, by simp, by omega, HTF, Lib.hid ⟨HRF.out, by rw [HLE3.out, HL3.out], HNE3.out⟩, HBF⟩
        case measure => simp [intOf]; omega
      | false =>
        have he := HER.out
        rw [if_neg (by decide)] at he
        have HRA := rput9_calls w2 HR2.out HB2.out HB2.out.size HRL6.out rfl HTL.out HSW.out HSO.out K HK.out
        rw [← he] at HRA
        have HRB := Lib.hid (HRA.mono fun e w' hA => ract_form HR2.out HRLN.out hA)
        rw [HVV.out] at HRB
        unfold objV at HRB
        have d1 := QX2.out.c1
        have d2 := QX2.out.c2
        have d3 := QX2.out.c3
        have d4 := QX2.out.c4
        have d5 := QX2.out.c5
        have d6 := QX2.out.c6
        have d7 := QX2.out.c7
        have d8 := QX2.out.c8
        clear he HRA
        go_upto_region 15 with (go_at_call 31; refine HRB.out.mono ?_; rintro e w3 ⟨rfl, hX, hk⟩; have HX3 := Lib.hid hX.out; have HK3 := Lib.hid hk; clear hX hk)
        clear d0 d1 d2 d3 d4 d5 d6 d7 d8
        have hc3 := HR2.out.cell
        have HT3 := Lib.hid (HT2.out.refK hc3 HK3.out)
        have HB3 := Lib.hid (HB2.out.trans (kept_to HK3.out HB2.out.size HR2.out.ge))
        obtain ⟨v3, RL3, hr3, hl3, hf3, hv3⟩ := HX3.out
        have HR3 := Lib.hid hr3
        have HLE3 := Lib.hid (show lxOf RL3 = lxOf L2 from hl3.trans HL2.out.symm)
        have HNE3 := Lib.hid (show ∀ q, lv2.ownBlock = some q → v3.ownBlock ≠ some q from fun q e1 e2 => by
          by_cases h0 : er = 0
          · have a1 := hf3 h0 q e2
            obtain ⟨_, cs, hcs⟩ := rw_type HT2.out.h.1.row e1
            have := blk_lt hcs
            omega
          · rw [hv3 h0] at e2
            rw [HLV2.out h0] at e1
            exact HNE.out q e1 e2)
        clear hr3 hl3 hf3 hv3 hc3 HX3 HK3 HR2 HB2 HT2 HL2 HLV2 HNE
        obtain ⟨l3, hl3⟩ : ∃ z, lxOf L2 = z := ⟨_, rfl⟩
        have HL3 := Lib.hid hl3
        have HR3L := Lib.hid (show RL3.length = n2 by
          have h1 : (lxOf RL3).length = (lxOf L2).length := by rw [HLE3.out]
          rw [lxOf_len, lxOf_len, HT3.out.h.2.2.1] at h1
          exact h1)
        rw [hl3] at HLE3 OIN
        have HT3L := Lib.hid (show ToldL l3 by rw [← hl3]; exact HT3.out.told)
        have HRN := Lib.hid (show mo M2 = (runL l3).1 by rw [← hl3]; exact HT3.out.run)
        clear hl3
        have hk60 : k + 1 ≤ 60 := by omega
        have hn60 : n2 ≤ 60 := by have := HT3.out.h.2.2.2.1; omega
        obtain ⟨og, hog⟩ : ∃ z, obA (runL l3).1 K = z := ⟨_, rfl⟩
        obtain ⟨ig, hig⟩ : ∃ z, hasA (runL l3).1 K = z := ⟨_, rfl⟩
        have HSGT := Lib.hid (sget_calls w3 HT3.out.h.1 (fun q hq => (HT3.out.h.2.1.2 q hq).2.2.2.2) K)
        rw [show objOf M2 K = og by rw [← hog, ← HRN.out, obA_mo], show hasA M2 K = ig by rw [← hig, ← HRN.out, hasA_mo], HK.out] at HSGT
        have HRGT := Lib.hid (fun (U : World) (hb : Below w3.heap.size w3 U) => rget9_calls U (HR3.out.below hb) (bl_next HB3.out hb) (by have := HR3L.out; omega) HLE3.out HT3L.out K HK.out)
        rw [hog, hig] at HRGT
        rw [hog] at OIN
        have HOS := Lib.hid (show og.charge.length ≤ 1000000 by
          have hI := (runI HT3L.out l3.length (Nat.le_refl _)).inv
          rw [List.take_length] at hI
          rw [← hog]
          unfold obA
          cases e : getA (runL l3).1 K with
          | none => exact Nat.zero_le _
          | some o => have := (hI.objs _ ((get_mem strictKS hI.rise).1 e)).2.2.2.2.2.1; exact Nat.le_trans this (by omega))
        clear hog hig
        obtain ⟨nM, hnM⟩ : ∃ z, (runL l3).1.length = z := ⟨_, rfl⟩
        have HNM := Lib.hid hnM
        clear hnM
        have q3 := QX.out.below HB3.out
        have d1 := q3.c1
        have d2 := q3.c2
        have d3 := q3.c3
        clear q3
        go_upto_region 16 with (go_at_call 32; refine HSGT.out.mono ?_; rintro e w4 ⟨x4, rfl, hrf4, hb⟩; obtain ⟨g4, rfl⟩ := hrf4.form; have HRF4 := Lib.hid hrf4; have HB4 := Lib.hid hb; clear hb hrf4; unfold objV)
        clear d1 d2 d3
        first | with_reducible refine name_wp ?_ | with_reducible refine name_calls ?_
        intro V4 hV
        have gX := (show V4.heap[w4.heap.size]? = some (.cells #[.string og.key.kind, .string og.key.space, .string og.key.name, .int .i64 og.ver, .string og.cls, .bool og.term, .bool og.best, .slice (some ⟨g4, 0, none⟩) og.charge.length og.charge.length] 27) by rw [hV]; exact blk_new w4 _)
        have hbV : Below w4.heap.size w4 V4 := by rw [hV]; exact (Below.refl _ _).alloc (Nat.le_refl _) _
        clear hV
        have HGX := Lib.hid gX
        have HB5 := Lib.hid (bl_next HB4.out hbV)
        have HXS := Lib.hid (show ObjS V4 (.slice (some ⟨g4, 0, none⟩) og.charge.length og.charge.length) og from (by
          have hO := OIN.out
          exact ⟨(HRF4.out.below hbV).resS hO.2, hO.1⟩))
        clear gX hbV HRF4
        have q5 := QX.out.below (bl_next HB3.out HB5.out)
        have d1 := q5.c1
        have d2 := q5.c2
        have d3 := q5.c3
        clear q5
        go_upto_region 17 with (go_at_call 33; refine (HRGT.out V4 HB5.out).mono ?_; rintro e w6 ⟨s6, rfl, hs6, hb⟩; obtain ⟨a6, c6, rfl⟩ := hs6.1.form; have HS6 := Lib.hid hs6; have HB6 := Lib.hid hb; clear hb hs6; unfold objV)
        clear d1 d2 d3
        first | with_reducible refine name_wp ?_ | with_reducible refine name_calls ?_
        intro V6 hV
        have gY := (show V6.heap[w6.heap.size]? = some (.cells #[.string og.key.kind, .string og.key.space, .string og.key.name, .int .i64 og.ver, .string og.cls, .bool og.term, .bool og.best, .slice a6 og.charge.length c6] 27) by rw [hV]; exact blk_new w6 _)
        have hbV : Below w6.heap.size w6 V6 := by rw [hV]; exact (Below.refl _ _).alloc (Nat.le_refl _) _
        clear hV
        have hbV5 := bl_next HB6.out hbV
        have gX := blk_below HGX.out hbV5
        have HSA := Lib.hid (rosame_calls V6 (HXS.out.below hbV5) (HS6.out.below hbV) ⟨HOS.out, HOS.out⟩)
        rw [sameO_self] at HSA
        unfold objV at HSA
        have HB7 := Lib.hid (bl_next HB5.out hbV5)
        have x0 := blk_cell gX 0
        have y0 := blk_cell gY 0
        have x1 := blk_cell gX 1
        have y1 := blk_cell gY 1
        have x2 := blk_cell gX 2
        have y2 := blk_cell gY 2
        have x3 := blk_cell gX 3
        have y3 := blk_cell gY 3
        have x4 := blk_cell gX 4
        have y4 := blk_cell gY 4
        have x5 := blk_cell gX 5
        have y5 := blk_cell gY 5
        have x6 := blk_cell gX 6
        have y6 := blk_cell gY 6
        have x7 := blk_cell gX 7
        have y7 := blk_cell gY 7
        clear gX gY hbV hbV5 HGX HXS HS6 HB6 HB5 HB4 HSGT HRGT HOS
        go_upto_region 18 with (go_at_call 24; refine HSA.out.mono ?_; rintro e w8 ⟨rfl, hb⟩; have HB8 := Lib.hid (bl_next HB7.out hb); clear hb)
        clear x0 x1 x2 x3 x4 x5 x6 x7 y0 y1 y2 y3 y4 y5 y6 y7
        have HB8W := Lib.hid (bl_next HB3.out HB8.out)
        have HS9 := Lib.hid (snapT_calls (HT3.out.below HB8.out) hk60 HL3.out HNM.out)
        have HS10 := Lib.hid (fun (U : World) (hb : Below w8.heap.size w8 U) => rsnap9_calls U (HR3.out.below (bl_next HB8.out hb)) (bl_next HB8W.out hb) (by have := HR3L.out; omega) HLE3.out HT3L.out HNM.out HR3L.out)
        have HSMS := Lib.hid (show OSmall (sortM (runL l3).1) ∧ nM ≤ 1000 from by
          have hR := runI HT3L.out l3.length (Nat.le_refl _)
          rw [List.take_length] at hR
          refine ⟨sortM_small hR.inv, ?_⟩
          have h1 := hR.len
          have h2 : l3.length = n2 := by rw [← HL3.out, lxOf_len, HT3.out.h.2.2.1]
          have h3 := HNM.out
          omega)
        have HS7 := Lib.hid (fun (U : World) (A B : Option Addr) (c d : Nat) h1 h2 => snapsame_calls (A := A) (B := B) (c := c) (d := d) (n := n2) U h1 h2 HSMS.out (by omega))
        go_upto_region 19 with (first
          | (go_at_call 34; refine HS9.out.mono ?_; rintro e w9 ⟨A9, c9, rfl, hz, hb⟩; have HZ9 := Lib.hid hz.out; have HB9 := Lib.hid hb; clear hz hb)
          | (go_at_call 35; refine (HS10.out w9 HB9.out).mono ?_; rintro e w10 ⟨A10, c10, rfl, hz, hb⟩; have HZ10 := Lib.hid hz.out; have HY10 := Lib.hid (objsE_below HZ9.out hb); have HB10 := Lib.hid (bl_next HB9.out hb); clear hz hb)
          | (go_at_call 16; refine (HS7.out w10 A9 A10 c9 c10 HY10.out HZ10.out).mono ?_; rintro e w11 ⟨rfl, hb⟩; have HB11 := Lib.hid (bl_next HB10.out hb); clear hb))
        have HB11W := Lib.hid (bl_next HB8W.out HB11.out)
        have HB11V := Lib.hid (bl_next HB8.out HB11.out)
        have HTZ := Lib.hid (HT3.out.below HB11V.out)
        have HRZ := Lib.hid (HR3.out.below HB11V.out)
        obtain ⟨Z, rfl⟩ : ∃ U : World, U = w11 := ⟨_, rfl⟩
        obtain ⟨A3, c3, hv3⟩ := rw_form HR3.out.row
        have m0 : Z.cell? ⟨mp, 0, none⟩ = some (.slice A3 n2 c3) := by have h := blk_cell HRZ.out.cell 0; rw [← HR3L.out, ← hv3]; exact h
        have HVR := Lib.hid (fun (U : World) (hb : Below Z.heap.size Z U) => sversion_calls U (HTZ.out.h.1.below hb))
        clear hv3 HS9 HS10 HS7 HZ9 HZ10 HY10 HB9 HB10 HB11 HB8 HB8W HSMS HB7 HSA HT3 HR3 HB3 HB11V
        have hB := Below.refl Z.heap.size Z
        have hB := hB.drew
        refine region_seq (fun w' => Below Z.heap.size Z w') [(0, true), (1, true), (2, true), (3, true), (4, true), (5, true), (6, true), (7, true), (8, true), (9, true), (10, true), (11, true), (12, true), (13, true), (14, true), (15, true), (16, true), (17, true), (18, true), (19, true), (20, true), (21, true), (22, true), (24, true), (25, true), (26, true), (27, true), (28, true), (23, false), (29, true), (30, true)] (by kernel_rfl) (by kernel_rfl) (fun _ _ _ _ h => h) hB ?_
        try generalize World.drew _ = wS at hB ⊢
        refine seq_take (v := ?_) (a' := ?_) (some 105) rfl rfl (by rfl) ?_ ?_ ?_
        rotate_left; rotate_left
        · intro w' hS; go_simp; with_reducible rfl
        · simp only [Act.put, List.setIfInBounds_toArray, List.set_cons_zero, List.set_cons_succ]; rfl
        refine seq_take (v := ?_) (a' := ?_) (some 106) rfl rfl (by rfl) ?_ ?_ ?_
        rotate_left; rotate_left
        · intro w' hS; go_simp; with_reducible rfl
        · simp only [Act.put, List.setIfInBounds_toArray, List.set_cons_zero, List.set_cons_succ]; rfl
        refine seq_take (v := ?_) (a' := ?_) (some 107) rfl rfl (by rfl) ?_ ?_ ?_
        rotate_left; rotate_left
        · intro w' hS; go_simp; with_reducible rfl
        · simp only [Act.put, List.setIfInBounds_toArray, List.set_cons_zero, List.set_cons_succ]; rfl
        refine seq_take (v := ?_) (a' := ?_) (some 108) rfl rfl (by rfl) ?_ ?_ ?_
        rotate_left; rotate_left
        · intro w' hS; go_simp; with_reducible rfl
        · simp only [Act.put, List.setIfInBounds_toArray, List.set_cons_zero, List.set_cons_succ]; rfl
        refine seq_take (v := ?_) (a' := ?_) (some 109) rfl rfl (by rfl) ?_ ?_ ?_
        rotate_left; rotate_left
        · intro w' hS; go_simp; with_reducible rfl
        · simp only [Act.put, List.setIfInBounds_toArray, List.set_cons_zero, List.set_cons_succ]; rfl
        refine seq_take (v := ?_) (a' := ?_) (some 110) rfl rfl (by rfl) ?_ ?_ ?_
        rotate_left; rotate_left
        · intro w' hS; go_simp; with_reducible rfl
        · simp only [Act.put, List.setIfInBounds_toArray, List.set_cons_zero, List.set_cons_succ]; rfl
        refine seq_take (v := ?_) (a' := ?_) (some 111) rfl rfl (by rfl) ?_ ?_ ?_
        rotate_left; rotate_left
        · intro w' hS; go_simp; with_reducible rfl
        · simp only [Act.put, List.setIfInBounds_toArray, List.set_cons_zero, List.set_cons_succ]; rfl
        refine seq_take (v := ?_) (a' := ?_) (some 112) rfl rfl (by rfl) ?_ ?_ ?_
        rotate_left; rotate_left
        · intro w' hS; go_simp; with_reducible rfl
        · simp only [Act.put, List.setIfInBounds_toArray, List.set_cons_zero, List.set_cons_succ]; rfl
        refine seq_take (v := ?_) (a' := ?_) (some 113) rfl rfl (by rfl) ?_ ?_ ?_
        rotate_left; rotate_left
        · intro w' hS; go_simp; with_reducible rfl
        · simp only [Act.put, List.setIfInBounds_toArray, List.set_cons_zero, List.set_cons_succ]; rfl
        refine seq_take (v := ?_) (a' := ?_) (some 114) rfl rfl (by rfl) ?_ ?_ ?_
        rotate_left; rotate_left
        · intro w' hS; go_simp; with_reducible rfl
        · simp only [Act.put, List.setIfInBounds_toArray, List.set_cons_zero, List.set_cons_succ]; rfl
        refine seq_take (v := ?_) (a' := ?_) (some 115) rfl rfl (by rfl) ?_ ?_ ?_
        rotate_left; rotate_left
        · intro w' hS; go_simp; with_reducible rfl
        · simp only [Act.put, List.setIfInBounds_toArray, List.set_cons_zero, List.set_cons_succ]; rfl
        refine seq_take (v := ?_) (a' := ?_) (some 116) rfl rfl (by rfl) ?_ ?_ ?_
        rotate_left; rotate_left
        · intro w' hS; go_simp; with_reducible rfl
        · simp only [Act.put, List.setIfInBounds_toArray, List.set_cons_zero, List.set_cons_succ]; rfl
        refine seq_take (v := ?_) (a' := ?_) (some 117) rfl rfl (by rfl) ?_ ?_ ?_
        rotate_left; rotate_left
        · intro w' hS; go_simp; with_reducible rfl
        · simp only [Act.put, List.setIfInBounds_toArray, List.set_cons_zero, List.set_cons_succ]; rfl
        refine seq_take (v := ?_) (a' := ?_) (some 118) rfl rfl (by rfl) ?_ ?_ ?_
        rotate_left; rotate_left
        · intro w' hS; go_simp; with_reducible rfl
        · simp only [Act.put, List.setIfInBounds_toArray, List.set_cons_zero, List.set_cons_succ]; rfl
        refine seq_take (v := ?_) (a' := ?_) (some 119) rfl rfl (by rfl) ?_ ?_ ?_
        rotate_left; rotate_left
        · intro w' hS; go_simp; with_reducible rfl
        · simp only [Act.put, List.setIfInBounds_toArray, List.set_cons_zero, List.set_cons_succ]; rfl
        refine seq_take (v := ?_) (a' := ?_) (some 120) rfl rfl (by rfl) ?_ ?_ ?_
        rotate_left; rotate_left
        · intro w' hS; go_simp; with_reducible rfl
        · simp only [Act.put, List.setIfInBounds_toArray, List.set_cons_zero, List.set_cons_succ]; rfl
        refine seq_take (v := ?_) (a' := ?_) (some 121) rfl rfl (by rfl) ?_ ?_ ?_
        rotate_left; rotate_left
        · intro w' hS; go_simp; with_reducible rfl
        · simp only [Act.put, List.setIfInBounds_toArray, List.set_cons_zero, List.set_cons_succ]; rfl
        refine seq_take (v := ?_) (a' := ?_) (some 122) rfl rfl (by rfl) ?_ ?_ ?_
        rotate_left; rotate_left
        · intro w' hS; go_simp; with_reducible rfl
        · simp only [Act.put, List.setIfInBounds_toArray, List.set_cons_zero, List.set_cons_succ]; rfl
        refine seq_take (v := ?_) (a' := ?_) (some 123) rfl rfl (by rfl) ?_ ?_ ?_
        rotate_left; rotate_left
        · intro w' hS; go_simp; with_reducible rfl
        · simp only [Act.put, List.setIfInBounds_toArray, List.set_cons_zero, List.set_cons_succ]; rfl
        refine seq_take (v := ?_) (a' := ?_) (some 124) rfl rfl (by rfl) ?_ ?_ ?_
        rotate_left; rotate_left
        · intro w' hS; go_simp; with_reducible rfl
        · simp only [Act.put, List.setIfInBounds_toArray, List.set_cons_zero, List.set_cons_succ]; rfl
        refine seq_take (v := ?_) (a' := ?_) (some 125) rfl rfl (by rfl) ?_ ?_ ?_
        rotate_left; rotate_left
        · intro w' hS; go_simp; with_reducible rfl
        · simp only [Act.put, List.setIfInBounds_toArray, List.set_cons_zero, List.set_cons_succ]; rfl
        refine seq_take (v := ?_) (a' := ?_) (some 126) rfl rfl (by rfl) ?_ ?_ ?_
        rotate_left; rotate_left
        · intro w' hS; go_simp; with_reducible rfl
        · simp only [Act.put, List.setIfInBounds_toArray, List.set_cons_zero, List.set_cons_succ]; rfl
        refine seq_take (v := ?_) (a' := ?_) (some 127) rfl rfl (by rfl) ?_ ?_ ?_
        rotate_left; rotate_left
        · intro w' hS; go_simp; with_reducible rfl
        · simp only [Act.put, List.setIfInBounds_toArray, List.set_cons_zero, List.set_cons_succ]; rfl
        refine seq_take (v := ?_) (a' := ?_) (some 129) rfl rfl (by rfl) ?_ ?_ ?_
        rotate_left; rotate_left
        · intro w' hS; go_simp; with_reducible rfl
        · simp only [Act.put, List.setIfInBounds_toArray, List.set_cons_zero, List.set_cons_succ]; rfl
        refine seq_take (v := ?_) (a' := ?_) (some 130) rfl rfl (by rfl) ?_ ?_ ?_
        rotate_left; rotate_left
        · intro w' hS; go_simp; with_reducible rfl
        · simp only [Act.put, List.setIfInBounds_toArray, List.set_cons_zero, List.set_cons_succ]; rfl
        refine seq_take (v := ?_) (a' := ?_) (some 131) rfl rfl (by rfl) ?_ ?_ ?_
        rotate_left; rotate_left
        · intro w' hS; go_simp; with_reducible rfl
        · simp only [Act.put, List.setIfInBounds_toArray, List.set_cons_zero, List.set_cons_succ]; rfl
        refine seq_take (v := ?_) (a' := ?_) (some 132) rfl rfl (by rfl) ?_ ?_ ?_
        rotate_left; rotate_left
        · intro w' hS; have q0 := cb hS m0; go_simp; with_reducible rfl
        · simp only [Act.put, List.setIfInBounds_toArray, List.set_cons_zero, List.set_cons_succ]; rfl
        refine seq_take (v := ?_) (a' := ?_) (some 133) rfl rfl (by rfl) ?_ ?_ ?_
        rotate_left; rotate_left
        · intro w' hS; go_simp; with_reducible rfl
        · simp only [Act.put, List.setIfInBounds_toArray, List.set_cons_zero, List.set_cons_succ]; rfl
        refine seq_call (args := ?_) Try.func36 (by kernel_rfl) rfl (some 128) rfl rfl (by rfl) rfl ?_ ?_
        rotate_left
        · simp only [List.map_toArray, List.map_cons, List.map_nil]; go_simp; rfl
        with_reducible refine (HVR.out _ hB).mono ?_
        rintro e w' ⟨rfl, hb⟩
        refine ⟨_, rfl, bl_next (by repeat (first | with_reducible exact hB | refine Below.alloc ?_ (by have := hB.size; simp; omega) _ | refine bl_dN ?_ _ | refine Below.drew ?_ | refine Below.setCell ?_ (by have := hB.size; simp; omega) _)) hb, ?_⟩
        have hB := bl_next (by repeat (first | with_reducible exact hB | refine Below.alloc ?_ (by have := hB.size; simp; omega) _ | refine bl_dN ?_ _ | refine Below.drew ?_ | refine Below.setCell ?_ (by have := hB.size; simp; omega) _)) hb; clear hb
        simp only [Act.put, List.setIfInBounds_toArray, List.set_cons_zero, List.set_cons_succ]
        refine seq_take (v := ?_) (a' := ?_) (some 134) rfl rfl (by rfl) ?_ ?_ ?_
        rotate_left; rotate_left
        · intro w' hS; go_simp; with_reducible rfl
        · simp only [Act.put, List.setIfInBounds_toArray, List.set_cons_zero, List.set_cons_succ]; rfl
        refine seq_take (v := ?_) (a' := ?_) (some 135) rfl rfl (by rfl) ?_ ?_ ?_
        rotate_left; rotate_left
        · intro w' hS; go_simp; with_reducible rfl
        · simp only [Act.put, List.setIfInBounds_toArray, List.set_cons_zero, List.set_cons_succ]; rfl
        refine seq_done ?_
        have HTF := Lib.hid (HTZ.out.below hB)
        have HRF := Lib.hid (HRZ.out.below hB)
        have HBF := Lib.hid (bl_next HB11W.out hB)
        clear hB m0
        go_wp2_with fail
        go_roundw
        case rel => exact ⟨k + 1, n2, M2, lv2, L2, v3, RL3, by simp, by omega, HTF, Lib.hid ⟨HRF.out, by rw [HLE3.out, HL3.out], HNE3.out⟩, HBF⟩
        case measure => simp [intOf]; omega
    · obtain rfl : k = xs.length := by omega
      obtain ⟨V, rfl⟩ : ∃ U : World, U = wr := ⟨_, rfl⟩
      have hrl : RL.length = n := by
        have h1 : (lxOf RL).length = (lxOf L).length := by rw [HLE.out]
        rw [lxOf_len, lxOf_len, HT.out.h.2.2.1] at h1
        exact h1
      obtain ⟨A3, c3, rfl⟩ := rw_form HR.out.row
      have m0 : V.cell? ⟨mp, 0, none⟩ = some (.slice A3 n c3) := by have h := blk_cell HR.out.cell 0; rw [hrl] at h; exact h
      have hn60 : n ≤ 60 := by omega
      have HLG := Lib.hid (fun (U : World) (hb : Below V.heap.size V U) => slogN_calls U (m := n) (HT.out.h.1.below hb) HT.out.h.2.2.2.2.2 (by have := HT.out.h.2.2.1; omega) HT.out.h.2.2.1)
      have HOI := Lib.hid (show ∀ e ∈ lxOf L, oIn e.2 ∧ in64 e.1 from fun e he => by
        refine ⟨?_, ?_⟩
        · obtain ⟨q, hq, rfl⟩ := List.mem_map.1 he
          exact (HT.out.h.1.resL q hq).2
        · obtain ⟨i, hi, rfl⟩ := List.mem_iff_getElem.1 he
          rcases (HT.out.told i hi).1 with h | h
          · rw [h]; unfold in64; omega
          · rw [h]; unfold in64; omega)
      have HSS := Lib.hid (show ∀ e ∈ lxOf L, objSmall e.2 from fun e he => by
        obtain ⟨q, hq, rfl⟩ := List.mem_map.1 he
        exact HT.out.h.2.2.2.2.2 q hq)
      have HEV := Lib.hid (fun (U : World) (hb : Below V.heap.size V U) (A : Option Addr) (c : Nat) (hy : ∃ b ys, LogF U b (.slice A n c) ys ∧ lyOf ys = lxOf L) => (show Calls Try.prog 37 #[.slice A n c, .slice A3 n c3] U (fun e w' => e = .returned (.bool true) ∧ Below U.heap.size U w') by
        obtain ⟨b, ys, h1, h2⟩ := hy
        have h := revents9_calls U h1 (rw_below HR.out.row hb) HR.out.args (bl_next HBr.out hb) h2 HLE.out (by rw [lxOf_len, HT.out.h.2.2.1]) HOI.out HSS.out hn60
        rw [hrl] at h
        exact h))
      clear hkl hrl
      have hB := Below.refl V.heap.size V
      go_upto_region 21 with fail
      have hB := hB.drew
      refine region_seq (fun w' => Below V.heap.size V w') [(0, true), (2, true), (3, true), (4, true), (5, true), (1, false), (6, false), (7, true)] (by kernel_rfl) (by kernel_rfl) (fun _ _ _ _ h => h) hB ?_
      try generalize World.drew _ = wS at hB ⊢
      refine seq_take (v := ?_) (a' := ?_) (some 136) rfl rfl (by rfl) ?_ ?_ ?_
      rotate_left; rotate_left
      · intro w' hS; go_simp; with_reducible rfl
      · simp only [Act.put, List.setIfInBounds_toArray, List.set_cons_zero, List.set_cons_succ]; rfl
      refine seq_take (v := ?_) (a' := ?_) (some 138) rfl rfl (by rfl) ?_ ?_ ?_
      rotate_left; rotate_left
      · intro w' hS; go_simp; with_reducible rfl
      · simp only [Act.put, List.setIfInBounds_toArray, List.set_cons_zero, List.set_cons_succ]; rfl
      refine seq_take (v := ?_) (a' := ?_) (some 139) rfl rfl (by rfl) ?_ ?_ ?_
      rotate_left; rotate_left
      · intro w' hS; go_simp; with_reducible rfl
      · simp only [Act.put, List.setIfInBounds_toArray, List.set_cons_zero, List.set_cons_succ]; rfl
      refine seq_take (v := ?_) (a' := ?_) (some 140) rfl rfl (by rfl) ?_ ?_ ?_
      rotate_left; rotate_left
      · intro w' hS; go_simp; with_reducible rfl
      · simp only [Act.put, List.setIfInBounds_toArray, List.set_cons_zero, List.set_cons_succ]; rfl
      refine seq_take (v := ?_) (a' := ?_) (some 141) rfl rfl (by rfl) ?_ ?_ ?_
      rotate_left; rotate_left
      · intro w' hS; have q0 := cb hS m0; go_simp; with_reducible rfl
      · simp only [Act.put, List.setIfInBounds_toArray, List.set_cons_zero, List.set_cons_succ]; rfl
      refine seq_call (args := ?_) Try.func38 (by kernel_rfl) rfl (some 137) rfl rfl (by rfl) rfl ?_ ?_
      rotate_left
      · simp only [List.map_toArray, List.map_cons, List.map_nil]; go_simp; rfl
      with_reducible refine ((HLG.out _ hB)).mono ?_
      rintro e w' ⟨A9, c9, rfl, hlo, hb⟩
      have HLO := Lib.hid hlo.out; clear hlo
      refine ⟨_, rfl, bl_next (by repeat (first | with_reducible exact hB | refine Below.alloc ?_ (by have := hB.size; simp; omega) _ | refine bl_dN ?_ _ | refine Below.drew ?_ | refine Below.setCell ?_ (by have := hB.size; simp; omega) _)) hb, ?_⟩
      have hB := bl_next (by repeat (first | with_reducible exact hB | refine Below.alloc ?_ (by have := hB.size; simp; omega) _ | refine bl_dN ?_ _ | refine Below.drew ?_ | refine Below.setCell ?_ (by have := hB.size; simp; omega) _)) hb; clear hb
      simp only [Act.put, List.setIfInBounds_toArray, List.set_cons_zero, List.set_cons_succ]
      refine seq_call (args := ?_) Try.func37 (by kernel_rfl) rfl (some 142) rfl rfl (by rfl) rfl ?_ ?_
      rotate_left
      · simp only [List.map_toArray, List.map_cons, List.map_nil]; go_simp; rfl
      with_reducible refine ((HEV.out _ hB A9 c9 ⟨_, HLO.out⟩)).mono ?_
      rintro e w' ⟨rfl, hb⟩
      refine ⟨_, rfl, bl_next (by repeat (first | with_reducible exact hB | refine Below.alloc ?_ (by have := hB.size; simp; omega) _ | refine bl_dN ?_ _ | refine Below.drew ?_ | refine Below.setCell ?_ (by have := hB.size; simp; omega) _)) hb, ?_⟩
      have hB := bl_next (by repeat (first | with_reducible exact hB | refine Below.alloc ?_ (by have := hB.size; simp; omega) _ | refine bl_dN ?_ _ | refine Below.drew ?_ | refine Below.setCell ?_ (by have := hB.size; simp; omega) _)) hb; clear hb
      simp only [Act.put, List.setIfInBounds_toArray, List.set_cons_zero, List.set_cons_succ]
      refine seq_take (v := ?_) (a' := ?_) (some 17) rfl rfl (by rfl) ?_ ?_ ?_
      rotate_left; rotate_left
      · intro w' hS; go_simp; with_reducible rfl
      · simp only [Act.put, List.setIfInBounds_toArray, List.set_cons_zero, List.set_cons_succ]; rfl
      refine seq_done ?_
      have HB1 := Lib.hid (bl_next HBr.out hB)
      clear hB m0 HLG HEV HOI HSS HR HT
      have HZS := Lib.hid (fun (U : World) => revsame_calls U 0 0 0 0 (zeroO_S U) zeroO_small (objsS_nil U) (fun o ho => by cases ho) (by simp) (zeroO_S U) zeroO_small (objsS_nil U) (fun o ho => by cases ho) (by simp))
      rw [sameE_refl] at HZS
      go_upto_region 25 with (first
        | (go_at_call 39; refine (sput_nil _).mono ?_; rintro e w2 ⟨rfl, hb⟩; have HB2 := Lib.hid (bl_next HB1.out hb); clear hb)
        | (go_at_call 40; refine (sdelete_nil _ ⟨⟨#[]⟩, ⟨#[]⟩, ⟨#[]⟩⟩).mono ?_; rintro e w3 ⟨rfl, hb⟩; have HB3 := Lib.hid (bl_next HB2.out hb); clear hb))
      go_upto_region 26 with (go_at_call 32; refine (sget_nil _ ⟨⟨#[]⟩, ⟨#[]⟩, ⟨#[]⟩⟩).mono ?_; rintro e w4 ⟨rfl, hb⟩; have HB4 := Lib.hid (bl_next HB3.out hb); clear hb; unfold objV)
      first | with_reducible refine name_wp ?_ | with_reducible refine name_calls ?_
      intro V5 hV
      have HB5 := Lib.hid (show Below W.heap.size W V5 by rw [hV]; exact HB4.out.alloc HB4.out.size _)
      clear hV
      go_upto_region 27 with (first
        | (go_at_call 34; refine (ssnapshot_nil _).mono ?_; rintro e w6 ⟨rfl, hb⟩; have HB6 := Lib.hid (bl_next HB5.out hb); clear hb; unfold evV)
        | (go_at_call 16; refine (HZS.out w6).mono ?_; rintro e w7 ⟨rfl, hb⟩; have HB7 := Lib.hid (bl_next HB6.out hb); clear hb))
      go_wp2_with (first
        | (go_at_call 27; refine (alive9_calls _).mono ?_; rintro e w8 ⟨rfl, hb⟩; have HB8 := Lib.hid (bl_next HB7.out hb); clear hb)
        | (go_at_call 36; refine (sversion_nil _).mono ?_; rintro e w9 ⟨rfl, hb⟩; have HB9 := Lib.hid (bl_next HB8.out hb); clear hb)
        | (go_at_call 38; refine (slog_nil _).mono ?_; rintro e w10 ⟨rfl, hb⟩; have HB10 := Lib.hid (bl_next HB9.out hb); clear hb))
      go_ret
      exact ⟨rfl, bl_from HBw.out HB10.out⟩
end Go.Proofs.Ythhfcambdmdgfaa

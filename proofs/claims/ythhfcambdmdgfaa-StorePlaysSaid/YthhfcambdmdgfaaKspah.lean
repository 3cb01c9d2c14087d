import Derived.Test.YthhfcambdmdgfaaKspag
import Derived.Test.YthhfcambdmdgfaaKspaa
import Derived.Test.YthhfcambdmdgfaaKspae
import Derived.Maps.RangeWalk
namespace Go.Proofs.Ythhfcambdmdgfaa
open Go.RowKit Go.Maps
set_option linter.unusedVariables false
set_option linter.unusedSimpArgs false
theorem info_ev : (Try.prog.info? 30).map (fun i => (i.zero, i.size, i.bytes)) = some (some (.agg #[.int .i64 0, .string ⟨#[]⟩, .string ⟨#[]⟩, .string ⟨#[]⟩, .int .i64 0, .string ⟨#[]⟩, .bool false, .bool false, .slice none 0 0, .int .i64 0, .slice none 0 0]), 11, 144) := by kernel_rfl
theorem app_ev_at {o : Oper} {a : Act} {K : Act → World → Prop} {Q : Exit → Act → World → Prop} {w : World} (s x : Operand)
    (ho : o.op = .call { callee := .builtin .append, args := #[s, x], argTypes := #[48, 48] })
    (base : Nat) {tb : TypeId} (v : Value) (n : Nat) (l : List LX) (kd : Int) (u : ObjD) (g n1 c1 : Nat) (hs : a.eval s = v) (hown : w.ownsRow base 30 11 v n (lgC l)) (g0 c : Nat) (hx : a.eval x = .slice (some ⟨g0, 0, none⟩) 1 c)
    (hcells : w.heap[g0]? = some (.cells #[.int .i64 kd, .string u.key.kind, .string u.key.space, .string u.key.name, .int .i64 u.ver, .string u.cls, .bool u.term, .bool u.best, .slice (some ⟨g, 0, none⟩) n1 c1, .int .i64 0, .slice none 0 0] tb)) (hbase : base ≤ w.heap.size) (hlen : n + 1 ≤ 100000000)
    (h : ∀ g2 cap w1, w1.ownsRow base 30 11 (.slice (some ⟨g2, 0, none⟩) (n + 1) cap) (n + 1) (lgC (l ++ [(kd, (u, .slice (some ⟨g, 0, none⟩) n1 c1))])) → Kept (fun k => v.ownBlock = some k) w w1 → K (a.put o.dst (.slice (some ⟨g2, 0, none⟩) (n + 1) cap)) w1) : o.wp Try.prog a w K Q := by
  obtain ⟨i0, hi, hz0, hz1, hz2⟩ := info_parts info_ev
  refine app_rw_at s x _ ho base _ i0 _ 11 144 Try.underlying48 hi hz0 hz1 hz2 rfl (by decide) v n (lgC l) [.int .i64 kd, .string u.key.kind, .string u.key.space, .string u.key.name, .int .i64 u.ver, .string u.cls, .bool u.term, .bool u.best, .slice (some ⟨g, 0, none⟩) n1 c1, .int .i64 0, .slice none 0 0] hs hown g0 c hx hcells rfl (by simp [Value.oneCell']) hbase hlen (by decide) ?_
  intro g2 cap w1 h1 h2 h3
  refine h g2 cap w1 ?_ h2
  rw [lgC_app]
  exact h1
section
variable {w w1 w' : World} {base sp mb : Nat} {ver : Int} {M : AM KS OX} {lv : Value} {L : List LX}
theorem StoreAt.kept {X : Nat → Prop} (h : StoreAt w base sp mb ver M lv L) (hk : Kept X w w') (h1 : ¬ X sp) (h2 : ¬ X mb) (h3 : ∀ k, lv.ownBlock = some k → ¬ X k) (h4 : ∀ k, X k → ∀ c, w.heap[k]? = some (.cells c 112) → False) : StoreAt w' base sp mb ver M lv L :=
  ⟨hk.heap h.cell h1, h.map.kept hk h2, rw_kept h.row hk h3, fun q hq => ⟨(h.resM q hq).1.kept hk h4, (h.resM q hq).2⟩, fun e he => ⟨(h.resL e he).1.kept hk h4, (h.resL e he).2⟩, h.ge⟩
theorem StoreAt.ne_map (h : StoreAt w base sp mb ver M lv L) : sp ≠ mb := mv_other h.map h.cell
theorem StoreAt.ne_log (h : StoreAt w base sp mb ver M lv L) : lv.ownBlock ≠ some sp := rw_other h.row h.cell (by decide)
theorem StoreAt.ne_log_map (h : StoreAt w base sp mb ver M lv L) : lv.ownBlock ≠ some mb := fun e => by
  obtain ⟨_, cs, hc⟩ := rw_type h.row e
  exact mv_other h.map hc rfl
/-- The version, or whatever else, is laid into the store's own cells. -/
theorem StoreAt.laid {ver' : Int} (h : StoreAt w base sp mb ver M lv L) (hk : Kept (fun k => k = sp) w w') (hc : w'.heap[sp]? = some (.cells #[.map (some mb), .int .i64 ver', lv] 94)) : StoreAt w' base sp mb ver' M lv L :=
  have h4 : ∀ k, k = sp → ∀ c, w.heap[k]? = some (.cells c 112) → False := fun k e c hc' => by subst e; rw [h.cell] at hc'; cases hc'
  ⟨hc, h.map.kept hk (fun e => h.ne_map e.symm), rw_kept h.row hk (fun k e q => by subst q; exact h.ne_log e), fun q hq => ⟨(h.resM q hq).1.kept hk h4, (h.resM q hq).2⟩, fun e he => ⟨(h.resL e he).1.kept hk h4, (h.resL e he).2⟩, h.ge⟩
theorem StoreAt.pushed {lv' : Value} {e : LX} (h : StoreAt w base sp mb ver M lv L) (hk : Kept (fun k => lv.ownBlock = some k) w w1) (hr : w1.ownsRow base 30 11 lv' (L.length + 1) (lgC (L ++ [e]))) (he : ResF w base e.2.2 e.2.1.charge) (hi : oIn e.2.1) :
    StoreAt (w1.setCell ⟨sp, 2, none⟩ lv') base sp mb ver M lv' (L ++ [e]) ∧ Kept (fun k => k = sp ∨ lv.ownBlock = some k) w (w1.setCell ⟨sp, 2, none⟩ lv') := by
  have hc1 := hk.heap h.cell h.ne_log
  have hc2 := heap_setCell_same w1 sp 2 _ _ lv' hc1
  have hk2 : Kept (fun k => k = sp) w1 (w1.setCell ⟨sp, 2, none⟩ lv') := (Kept.refl _ _).setCell _ _ (.inl rfl)
  have hkk : Kept (fun k => k = sp ∨ lv.ownBlock = some k) w (w1.setCell ⟨sp, 2, none⟩ lv') := (hk.wider (fun _ q => .inr q)).setCell _ _ (.inl (.inl rfl))
  have h4 : ∀ k, (k = sp ∨ lv.ownBlock = some k) → ∀ c, w.heap[k]? = some (.cells c 112) → False := fun k q c hc' => by
    rcases q with rfl | q
    · rw [h.cell] at hc'; cases hc'
    · exact rw_other h.row hc' (by decide) q
  refine ⟨⟨by simpa using hc2, h.map.kept hkk ?_, ?_, fun q hq => ⟨(h.resM q hq).1.kept hkk h4, (h.resM q hq).2⟩, fun q hq => ?_, h.ge⟩, hkk⟩
  · rintro (q | q)
    · exact h.ne_map q.symm
    · exact h.ne_log_map q
  · rw [List.length_append, List.length_singleton]
    exact rw_kept hr hk2 (fun k e q => by subst q; exact rw_other hr hc1 (by decide) e)
  · rcases List.mem_append.1 hq with r | r
    · exact ⟨(h.resL q r).1.kept hkk h4, (h.resL q r).2⟩
    · obtain rfl := List.mem_singleton.1 r; exact ⟨he.kept hkk h4, hi⟩
theorem StoreAt.put {k : KS} {p : OX} (h : StoreAt w base sp mb ver M lv L) (hg : w.grownBy w1 (some mb)) (hm : OMap w1 mb (putA ltKS M k p)) (he : ResF w base p.2 p.1.charge) (hi : oIn p.1) (hk : k.1 = p.1.key) :
    StoreAt w1 base sp mb ver (putA ltKS M k p) lv L ∧ Kept (fun q => q = mb) w w1 := by
  have hkk : Kept (fun q => q = mb) w w1 := (Kept.refl _ w).grown hg (fun q e => .inl (by cases e; rfl))
  have h4 : ∀ q, q = mb → ∀ c, w.heap[q]? = some (.cells c 112) → False := fun q e c hc' => mv_other h.map hc' e
  refine ⟨⟨hkk.heap h.cell h.ne_map, hm, rw_kept h.row hkk (fun q e r => by subst r; exact h.ne_log_map e), fun q hq => ?_, fun e he => ⟨(h.resL e he).1.kept hkk h4, (h.resL e he).2⟩, h.ge⟩, hkk⟩
  rcases mem_put.1 hq with rfl | ⟨r, _⟩
  · exact ⟨he.kept hkk h4, hi, hk ▸ k.2, hk⟩
  · exact ⟨(h.resM q r).1.kept hkk h4, (h.resM q r).2⟩
end
/-- What is written, and what is left as it was. -/
def Wrote (w : World) (base sp mb : Nat) (ver : Int) (M : AM KS OX) (lv : Value) (L : List LX) (kd : Int) (k : KS) (o : ObjD) (e : Ending) (w' : World) : Prop :=
  ∃ lv' x y, e = .returned (.int .i64 (ver + 1)) ∧ StoreAt w' base sp mb (ver + 1) (if kd = 0 then putA ltKS M k ({ o with ver := ver + 1 }, y) else M) lv' (L ++ [(kd, ({ o with ver := ver + 1 }, x))]) ∧ Kept (fun b => b = sp ∨ b = mb ∨ lv.ownBlock = some b) w w'
set_option maxRecDepth 100000 in
set_option maxHeartbeats 8000000 in
theorem written_calls (w : World) {base sp mb : Nat} {ver : Int} {M : AM KS OX} {lv : Value} {L : List LX} (h : StoreAt w base sp mb ver M lv L) (kd : Int) {o : ObjD} {k : KS} {sl : Value} (hk : k.1 = o.key)
    (hO : ∀ U, Kept (fun b => b = sp ∨ b = mb ∨ lv.ownBlock = some b) w U → ObjS U sl o) (hs : objSmall o) (hv : 0 ≤ ver ∧ ver ≤ 1000000000) (hM : M.length ≤ 1000000) (hL : L.length ≤ 1000000) :
    Calls Try.prog 69 #[.pointer (some ⟨sp, 0, none⟩), .int .i64 kd, objV o sl] w (Wrote w base sp mb ver M lv L kd k o) := by
  have hsp := h.ptr
  obtain ⟨al, cl, rfl⟩ := rw_form h.row
  have HST0 := Lib.hid h
  obtain ⟨ao, co, rfl⟩ := (hO w (Kept.refl _ _)).1.form
  have m1 : w.cell? ⟨sp, 1, none⟩ = some (.int .i64 ver) := blk_cell h.cell 1
  have mf1 : w.frozen? ⟨sp, 1, none⟩ = false := blk_free h.cell 1
  have hw1 : IntKind.i64.wrap (ver + 1) = ver + 1 := IntWalk.i64_in _ (by omega)
  have HO1 := Lib.hid (fun U (hq : Kept (fun b => b = sp ∨ b = mb ∨ (Value.slice al L.length cl).ownBlock = some b) w U) => show ObjS U (.slice ao o.charge.length co) { o with ver := ver + 1 } from ⟨(hO U hq).1, (show in64 (ver + 1) by unfold in64; omega)⟩)
  have HS := Lib.hid (show objSmall { o with ver := ver + 1 } from hs)
  have HV := Lib.hid hv; have HM := Lib.hid hM; have HL := Lib.hid hL; have HK := Lib.hid hk
  have HRES := Lib.hid (show oIn { o with ver := ver + 1 } from (HO1.out w (Kept.refl _ _)).oIn)
  clear h hO hs hv hM hL hk
  unfold objV
  go_enter Try.func69, Try.ntmps69
  go_upto_region 3 with fail
  first | with_reducible refine name_wp ?_ | with_reducible refine name_calls ?_
  intro V hV
  have d0 : V.cell? ⟨w.heap.size, 0, none⟩ = some (.string o.key.kind) := by rw [hV]; go_simp
  have d1 : V.cell? ⟨w.heap.size, 1, none⟩ = some (.string o.key.space) := by rw [hV]; go_simp
  have d2 : V.cell? ⟨w.heap.size, 2, none⟩ = some (.string o.key.name) := by rw [hV]; go_simp
  have d3 : V.cell? ⟨w.heap.size, 3, none⟩ = some (.int .i64 (ver + 1)) := by rw [hV]; go_simp
  have d4 : V.cell? ⟨w.heap.size, 4, none⟩ = some (.string o.cls) := by rw [hV]; go_simp
  have d5 : V.cell? ⟨w.heap.size, 5, none⟩ = some (.bool o.term) := by rw [hV]; go_simp
  have d6 : V.cell? ⟨w.heap.size, 6, none⟩ = some (.bool o.best) := by rw [hV]; go_simp
  have d7 : V.cell? ⟨w.heap.size, 7, none⟩ = some (.slice ao o.charge.length co) := by rw [hV]; go_simp
  have HKV : Hid (Kept (fun b => b = sp) w V) := Lib.hid (by
    rw [hV]
    exact ((Kept.refl (fun b => b = sp) w).setCell ⟨sp, 1, none⟩ _ (.inl rfl)).alloc _)
  have HB0 := Lib.hid (show ∃ c, V.heap[w.heap.size]? = some (.cells c 27) by
    rw [hV]
    exact ⟨_, blk_newAt _ _ (by simp)⟩)
  have HSV := Lib.hid (show StoreAt V base sp mb (ver + 1) M (.slice al L.length cl) L from HST0.out.laid HKV.out (by
    rw [hV]
    refine blk_old ?_ _
    have q := heap_setCell_same w sp 1 _ _ (.int .i64 (ver + 1)) HST0.out.cell
    simpa using q))
  clear hV m1 mf1 hw1
  have s0 : V.cell? ⟨sp, 0, none⟩ = some (.map (some mb)) := blk_cell HSV.out.cell 0
  have s2 : V.cell? ⟨sp, 2, none⟩ = some (.slice al L.length cl) := blk_cell HSV.out.cell 2
  have HOV := Lib.hid (HO1.out V (HKV.out.wider (fun _ e => .inl e)))
  have HC := Lib.hid (fun (U : World) (hb : Below V.heap.size V U) => ownO_calls U (HOV.out.below hb) HS.out)
  unfold objV at HC
  simp only at HC
  have HGE := Lib.hid (show base ≤ V.heap.size by have := HST0.out.ge.1; have := HKV.out.size; omega)
  have hB := Below.refl V.heap.size V
  have hB := hB.drew
  refine region_seqM (fun w' => Below V.heap.size V w') 10 [(0, 2), (1, 1), (2, 1), (3, 1), (4, 1), (5, 1), (6, 1), (7, 0), (8, 1), (9, 0), (10, 0), (11, 2), (12, 2), (13, 3)] (by kernel_rfl) (by kernel_rfl) (fun _ _ _ _ h => h) hB ?_
  try generalize World.drew _ = wS at hB ⊢
  refine sm_free (v := ?_) (a' := ?_) (some 19) rfl rfl (by rfl) ?_ ?_ ?_
  rotate_left; rotate_left
  · intro w'; go_simp; with_reducible rfl
  · simp only [Act.put, List.setIfInBounds_toArray, List.set_cons_zero, List.set_cons_succ]; rfl
  refine sm_take (v := ?_) (a' := ?_) (some 20) rfl rfl (by rfl) ?_ ?_ ?_
  rotate_left; rotate_left
  · intro w' hS; go_simp; with_reducible rfl
  · simp only [Act.put, List.setIfInBounds_toArray, List.set_cons_zero, List.set_cons_succ]; rfl
  refine sm_take (v := ?_) (a' := ?_) (some 21) rfl rfl (by rfl) ?_ ?_ ?_
  rotate_left; rotate_left
  · intro w' hS; go_simp; with_reducible rfl
  · simp only [Act.put, List.setIfInBounds_toArray, List.set_cons_zero, List.set_cons_succ]; rfl
  refine sm_take (v := ?_) (a' := ?_) (some 22) rfl rfl (by rfl) ?_ ?_ ?_
  rotate_left; rotate_left
  · intro w' hS; go_simp; with_reducible rfl
  · simp only [Act.put, List.setIfInBounds_toArray, List.set_cons_zero, List.set_cons_succ]; rfl
  refine sm_take (v := ?_) (a' := ?_) (some 23) rfl rfl (by rfl) ?_ ?_ ?_
  rotate_left; rotate_left
  · intro w' hS; have p0 := cb hS s0; have p2 := cb hS s2; have q0 := cb hS d0; have q1 := cb hS d1; have q2 := cb hS d2; have q3 := cb hS d3; have q4 := cb hS d4; have q5 := cb hS d5; have q6 := cb hS d6; have q7 := cb hS d7; go_simp; with_reducible rfl
  · simp only [Act.put, List.setIfInBounds_toArray, List.set_cons_zero, List.set_cons_succ]; rfl
  refine sm_take (v := ?_) (a' := ?_) (some 24) rfl rfl (by rfl) ?_ ?_ ?_
  rotate_left; rotate_left
  · intro w' hS; go_simp; with_reducible rfl
  · simp only [Act.put, List.setIfInBounds_toArray, List.set_cons_zero, List.set_cons_succ]; rfl
  refine sm_take (v := ?_) (a' := ?_) (some 25) rfl rfl (by rfl) ?_ ?_ ?_
  rotate_left; rotate_left
  · intro w' hS; have p0 := cb hS s0; have p2 := cb hS s2; have q0 := cb hS d0; have q1 := cb hS d1; have q2 := cb hS d2; have q3 := cb hS d3; have q4 := cb hS d4; have q5 := cb hS d5; have q6 := cb hS d6; have q7 := cb hS d7; go_simp; with_reducible rfl
  · simp only [Act.put, List.setIfInBounds_toArray, List.set_cons_zero, List.set_cons_succ]; rfl
  refine sm_call (args := ?_) Try.func56 (by kernel_rfl) rfl (some 26) rfl rfl (by rfl) rfl rfl ?_ ?_
  rotate_left
  · simp only [List.map_toArray, List.map_cons, List.map_nil]; go_simp; rfl
  with_reducible refine ((HC.out _ hB)).mono ?_
  rintro e w' ⟨g, rfl, HF, hb⟩
  have HF1 := Lib.hid (HF.out.mono (b' := base) (by have := HGE.out; have := hB.size; omega))
  refine ⟨_, rfl, .inr (bl_next (by repeat (first | with_reducible exact hB | refine Below.alloc ?_ (by have := hB.size; simp; omega) _ | refine bl_dN ?_ _ | refine Below.drew ?_ | refine Below.setCell ?_ (by have := hB.size; simp; omega) _)) hb), ?_⟩
  have hB := bl_next (by repeat (first | with_reducible exact hB | refine Below.alloc ?_ (by have := hB.size; simp; omega) _ | refine bl_dN ?_ _ | refine Below.drew ?_ | refine Below.setCell ?_ (by have := hB.size; simp; omega) _)) hb; clear hb
  simp only [Act.put, List.setIfInBounds_toArray, List.set_cons_zero, List.set_cons_succ]
  refine sm_take (v := ?_) (a' := ?_) (some 27) rfl rfl (by rfl) ?_ ?_ ?_
  rotate_left; rotate_left
  · intro w' hS; go_simp; with_reducible rfl
  · simp only [Act.put, List.setIfInBounds_toArray, List.set_cons_zero, List.set_cons_succ]; rfl
  refine sm_op (some 28) rfl rfl (by rfl) ?_
  apply Exists.intro; apply Exists.intro; apply And.intro
  · go_simp; first | exact ⟨rfl, rfl⟩ | rfl
  apply Exists.intro; apply And.intro
  · simp only [Act.put, List.setIfInBounds_toArray, List.set_cons_zero, List.set_cons_succ]; rfl
  apply And.intro
  · exact .inr (by repeat (first | with_reducible exact hB | refine Below.alloc ?_ (by have := hB.size; simp; omega) _ | refine bl_dN ?_ _ | refine Below.drew ?_ | refine Below.setCell ?_ (by have := hB.size; simp; omega) _))
  refine sm_law rfl (by rfl) ?_
  refine app_ev_at (.tmp 23) (.tmp 28) rfl base (.slice al L.length cl) L.length L kd { o with ver := ver + 1 } g _ _ rfl (World.ownsRow.alloc (rw_below HSV.out.row hB) _) _ 1 rfl (blk_new _ _) (by have := HGE.out; have := hB.size; simp; omega) (by have := HL.out; omega) ?_
  intro g3 cap3 w3 hown3 hk3; have HZ1 := Lib.hid (hk3.heap (blk_old (blk_below HSV.out.cell hB) _) HSV.out.ne_log); have HP := Lib.hid (StoreAt.pushed (hk := hk3) (h := by exact HSV.out.below (hB.alloc hB.size _)) (hr := hown3) (he := by exact HF1.out.below ((Below.refl _ _).alloc (Nat.le_refl _) _)) (hi := HRES.out)); have HKP := Lib.hid (((kept_of_below (X := fun k => k = sp ∨ (Value.slice al L.length cl).ownBlock = some k) (hB.alloc hB.size _)).trans HP.out.2 (fun _ q => .inl q)))
  refine ⟨.inl rfl, ?_⟩
  simp only [Act.put, List.setIfInBounds_toArray, List.set_cons_zero, List.set_cons_succ]
  refine sm_free (v := ?_) (a' := ?_) (some 30) rfl rfl (by rfl) ?_ ?_ ?_
  rotate_left; rotate_left
  · intro w'; go_simp; with_reducible rfl
  · simp only [Act.put, List.setIfInBounds_toArray, List.set_cons_zero, List.set_cons_succ]; rfl
  refine sm_free (v := ?_) (a' := ?_) (some 31) rfl rfl (by rfl) ?_ ?_ ?_
  rotate_left; rotate_left
  · intro w'; go_simp; with_reducible rfl
  · simp only [Act.put, List.setIfInBounds_toArray, List.set_cons_zero, List.set_cons_succ]; rfl
  refine sm_after none rfl rfl (by rfl) ?_
  apply Exists.intro; apply And.intro
  · have z2 := blk_cell HZ1.out 2; have z3 := blk_free HZ1.out 2; go_simp; first | exact ⟨rfl, rfl⟩ | rfl
  apply Exists.intro; apply And.intro
  · simp only [Act.put, List.setIfInBounds_toArray, List.set_cons_zero, List.set_cons_succ]; rfl
  refine sm_done ?_
  refine name_exit ?_
  intro U hU
  rw [← hU] at HP HKP
  have HSU := Lib.hid HP.out.1
  have HKU := Lib.hid HKP.out
  have HNB := Lib.hid (show ¬ (w.heap.size = sp ∨ (Value.slice al L.length cl).ownBlock = some w.heap.size) by
    rintro (q | q)
    · omega
    · obtain ⟨_, cs, hc⟩ := rw_type HST0.out.row q
      have := blk_lt hc; omega)
  have e0 := HKU.out.cell d0 HNB.out
  have e1 := HKU.out.cell d1 HNB.out
  have e2 := HKU.out.cell d2 HNB.out
  have e3 := HKU.out.cell d3 HNB.out
  have e4 := HKU.out.cell d4 HNB.out
  have e5 := HKU.out.cell d5 HNB.out
  have e6 := HKU.out.cell d6 HNB.out
  have e7 := HKU.out.cell d7 HNB.out
  have HKW := Lib.hid (show Kept (fun b => b = sp ∨ b = mb ∨ (Value.slice al L.length cl).ownBlock = some b) w U from
    (HKV.out.wider (fun _ e => .inl e)).trans HKU.out (fun n q => .inl (q.elim .inl (fun r => .inr (.inr r)))))
  have t0 : U.cell? ⟨sp, 0, none⟩ = some (.map (some mb)) := blk_cell HSU.out.cell 0
  have t1 : U.cell? ⟨sp, 1, none⟩ = some (.int .i64 (ver + 1)) := blk_cell HSU.out.cell 1
  have HOU := Lib.hid (HO1.out U HKW.out)
  clear hU HP HKP hown3 hk3 HZ1 hB HF HF1 HC HOV s0 s2 d0 d1 d2 d3 d4 d5 d6 d7 HO1
  have HC := Lib.hid (fun (X : World) (hb : Below U.heap.size U X) => ownO_calls X (HOU.out.below hb) HS.out)
  unfold objV at HC
  simp only at HC
  have HGU := Lib.hid (show base ≤ U.heap.size by have := HGE.out; have := HKU.out.size; omega)
  have HKEY := Lib.hid (show keyOf Try.prog 24 (.agg #[.string o.key.kind, .string o.key.space, .string o.key.name]) = some (kL k) by have q := kL_key k; rw [HK.out] at q; exact q)
  have hB := Below.refl U.heap.size U
  by_cases h0 : kd = 0
  · subst h0
    go_upto_region 5 with fail
    have hB := hB.drew
    refine region_seqM (fun w' => Below U.heap.size U w') 8 [(0, 1), (1, 1), (2, 1), (3, 1), (4, 1), (5, 1), (6, 1), (7, 0), (8, 0)] (by kernel_rfl) (by kernel_rfl) (fun _ _ _ _ h => h) hB ?_
    try generalize World.drew _ = wS at hB ⊢
    refine sm_take (v := ?_) (a' := ?_) (some 34) rfl rfl (by rfl) ?_ ?_ ?_
    rotate_left; rotate_left
    · intro w' hS; go_simp; with_reducible rfl
    · simp only [Act.put, List.setIfInBounds_toArray, List.set_cons_zero, List.set_cons_succ]; rfl
    refine sm_take (v := ?_) (a' := ?_) (some 35) rfl rfl (by rfl) ?_ ?_ ?_
    rotate_left; rotate_left
    · intro w' hS; go_simp; with_reducible rfl
    · simp only [Act.put, List.setIfInBounds_toArray, List.set_cons_zero, List.set_cons_succ]; rfl
    refine sm_take (v := ?_) (a' := ?_) (some 36) rfl rfl (by rfl) ?_ ?_ ?_
    rotate_left; rotate_left
    · intro w' hS; go_simp; with_reducible rfl
    · simp only [Act.put, List.setIfInBounds_toArray, List.set_cons_zero, List.set_cons_succ]; rfl
    refine sm_take (v := ?_) (a' := ?_) (some 37) rfl rfl (by rfl) ?_ ?_ ?_
    rotate_left; rotate_left
    · intro w' hS; have p0 := cb hS t0; have q0 := cb hS e0; have q1 := cb hS e1; have q2 := cb hS e2; have q3 := cb hS e3; have q4 := cb hS e4; have q5 := cb hS e5; have q6 := cb hS e6; have q7 := cb hS e7; go_simp; with_reducible rfl
    · simp only [Act.put, List.setIfInBounds_toArray, List.set_cons_zero, List.set_cons_succ]; rfl
    refine sm_take (v := ?_) (a' := ?_) (some 38) rfl rfl (by rfl) ?_ ?_ ?_
    rotate_left; rotate_left
    · intro w' hS; go_simp; with_reducible rfl
    · simp only [Act.put, List.setIfInBounds_toArray, List.set_cons_zero, List.set_cons_succ]; rfl
    refine sm_take (v := ?_) (a' := ?_) (some 39) rfl rfl (by rfl) ?_ ?_ ?_
    rotate_left; rotate_left
    · intro w' hS; have p0 := cb hS t0; have q0 := cb hS e0; have q1 := cb hS e1; have q2 := cb hS e2; have q3 := cb hS e3; have q4 := cb hS e4; have q5 := cb hS e5; have q6 := cb hS e6; have q7 := cb hS e7; go_simp; with_reducible rfl
    · simp only [Act.put, List.setIfInBounds_toArray, List.set_cons_zero, List.set_cons_succ]; rfl
    refine sm_take (v := ?_) (a' := ?_) (some 40) rfl rfl (by rfl) ?_ ?_ ?_
    rotate_left; rotate_left
    · intro w' hS; have p0 := cb hS t0; have q0 := cb hS e0; have q1 := cb hS e1; have q2 := cb hS e2; have q3 := cb hS e3; have q4 := cb hS e4; have q5 := cb hS e5; have q6 := cb hS e6; have q7 := cb hS e7; go_simp; with_reducible rfl
    · simp only [Act.put, List.setIfInBounds_toArray, List.set_cons_zero, List.set_cons_succ]; rfl
    refine sm_call (args := ?_) Try.func56 (by kernel_rfl) rfl (some 41) rfl rfl (by rfl) rfl rfl ?_ ?_
    rotate_left
    · simp only [List.map_toArray, List.map_cons, List.map_nil]; go_simp; rfl
    with_reducible refine ((HC.out _ hB)).mono ?_
    rintro e w' ⟨g2, rfl, HF, hb⟩
    have HF1 := Lib.hid (HF.out.mono (b' := base) (by have := HGU.out; have := hB.size; omega))
    refine ⟨_, rfl, .inr (bl_next (by repeat (first | with_reducible exact hB | refine Below.alloc ?_ (by have := hB.size; simp; omega) _ | refine bl_dN ?_ _ | refine Below.drew ?_ | refine Below.setCell ?_ (by have := hB.size; simp; omega) _)) hb), ?_⟩
    have hB := bl_next (by repeat (first | with_reducible exact hB | refine Below.alloc ?_ (by have := hB.size; simp; omega) _ | refine bl_dN ?_ _ | refine Below.drew ?_ | refine Below.setCell ?_ (by have := hB.size; simp; omega) _)) hb; clear hb
    simp only [Act.put, List.setIfInBounds_toArray, List.set_cons_zero, List.set_cons_succ]
    refine sm_law rfl (by rfl) ?_
    refine wp_mapUpd _ (.tmp 37) (.tmp 39) (.tmp 41) 92 rfl 24 27 kS_keyed Try.underlying92 mb M.length (dmA kL (fun p => Value.agg (objX p).toArray) M) rfl (HSU.out.map.below hB) (by have := HM.out; unfold maxLen; omega) (.agg #[.string o.key.kind, .string o.key.space, .string o.key.name]) (.agg #[.string o.key.kind, .string o.key.space, .string o.key.name, .int .i64 (ver + 1), .string o.cls, .bool o.term, .bool o.best, .slice (some ⟨g2, 0, none⟩) o.charge.length o.charge.length]) (kL k) rfl rfl HKEY.out ?_
    intro w4 hown4 hgrow4
    refine ⟨.inl rfl, ?_⟩
    simp only [Act.put, List.setIfInBounds_toArray, List.set_cons_zero, List.set_cons_succ]
    refine sm_done ?_
    have HPUT := Lib.hid (StoreAt.put (k := k) (p := ({ o with ver := ver + 1 }, .slice (some ⟨g2, 0, none⟩) o.charge.length o.charge.length)) (HSU.out.below hB) hgrow4 (omap_put hown4) HF1.out HRES.out HK.out)
    have HKF := Lib.hid (show Kept (fun b => b = sp ∨ b = mb ∨ (Value.slice al L.length cl).ownBlock = some b) w w4 from (HKW.out.trans (kept_of_below (X := fun _ => False) hB) (fun _ q => q.elim)).trans HPUT.out.2 (fun n q => .inl (.inr (.inl q))))
    have t2 : w4.cell? ⟨sp, 1, none⟩ = some (.int .i64 (ver + 1)) := blk_cell HPUT.out.1.cell 1
    clear hown4 hgrow4 hB t0 t1 e0 e1 e2 e3 e4 e5 e6 e7
    go_wp2_with fail
    go_ret
    exact ⟨_, _, _, rfl, by rw [if_pos rfl]; exact HPUT.out.1, HKF.out⟩
  · have h1 : (kd == 0) = false := by simpa using h0
    have H0 := Lib.hid h0
    go_wp2_with fail
    go_ret
    exact ⟨_, _, undef, rfl, by rw [if_neg H0.out]; exact HSU.out, HKW.out⟩
end Go.Proofs.Ythhfcambdmdgfaa
namespace Go.Proofs.Ythhfcambdmdgfaa
open Go.RowKit Go.Maps
set_option linter.unusedVariables false
set_option linter.unusedSimpArgs false
theorem store_look {w : World} {base sp mb : Nat} {ver : Int} {M : AM KS OX} {lv : Value} {L : List LX} (h : StoreAt w base sp mb ver M lv L) (k : KS) {kk : KeyD} (hk : k.1 = kk) :
    ∃ (q : ObjD) (A : Option Addr) (n c : Nat), ∀ U, Below w.heap.size w U → (Instr.lookup 92 (.map (some mb)) (.agg #[.string kk.kind, .string kk.space, .string kk.name]) true).run Try.prog U = .ok (.tuple #[.agg #[.string q.key.kind, .string q.key.space, .string q.key.name, .int .i64 q.ver, .string q.cls, .bool q.term, .bool q.best, .slice A n c], .bool (hasA M k)]) U := by
  subst hk
  cases hg : getA M k with
  | none =>
    refine ⟨zeroO, none, 0, 0, fun U hb => ?_⟩
    have q := omap_look (h.map.below hb) k
    rw [hg] at q; exact q
  | some p =>
    obtain ⟨o, so⟩ := p
    obtain ⟨g, hso⟩ := (h.resM _ (getA_mem hg)).1.form
    simp only at hso
    subst hso
    refine ⟨o, some ⟨g, 0, none⟩, o.charge.length, o.charge.length, fun U hb => ?_⟩
    have q := omap_look (h.map.below hb) k
    rw [hg] at q; exact q
/-- What an act of the store yields: an error, or a version more. -/
def Act9 (w : World) (base sp mb : Nat) (ver : Int) (M1 : Value → AM KS OX) (lv : Value) (L : List LX) (kd : Int) (o : ObjD) (er : Int) (e : Ending) (w' : World) : Prop :=
  (er ≠ 0 ∧ e = .returned (.tuple #[.int .i64 0, .int .i64 er]) ∧ Below w.heap.size w w') ∨
  (er = 0 ∧ ∃ lv' x y, e = .returned (.tuple #[.int .i64 (ver + 1), .int .i64 0]) ∧ StoreAt w' base sp mb (ver + 1) (M1 y) lv' (L ++ [(kd, ({ o with ver := ver + 1 }, x))]) ∧ Kept (fun b => b = sp ∨ b = mb ∨ lv.ownBlock = some b) w w')
def putErr (M : AM KS OX) (k : KS) (o : ObjD) : Int := if rightO { o with ver := 1 } then if hasA M k || decide (M.length < 1000) then 0 else 3 else 1
set_option maxRecDepth 100000 in
set_option maxHeartbeats 8000000 in
theorem sput_calls (w : World) {base sp mb : Nat} {ver : Int} {M : AM KS OX} {lv : Value} {L : List LX} (h : StoreAt w base sp mb ver M lv L) {o : ObjD} {k : KS} {sl : Value} (hk : k.1 = o.key)
    (hO : ∀ U, Kept (fun b => b = sp ∨ b = mb ∨ lv.ownBlock = some b) w U → ObjS U sl o) (hs : objSmall o) (hv : 0 ≤ ver ∧ ver ≤ 1000000000) (hM : M.length ≤ 1000000) (hL : L.length ≤ 1000000) :
    Calls Try.prog 39 #[.pointer (some ⟨sp, 0, none⟩), objV o sl] w (Act9 w base sp mb ver (fun y => putA ltKS M k ({ o with ver := ver + 1 }, y)) lv L 0 o (putErr M k o)) := by
  have hsp := h.ptr
  obtain ⟨al, cl, rfl⟩ := rw_form h.row
  have HST := Lib.hid h
  obtain ⟨ao, co, rfl⟩ := (hO w (Kept.refl _ _)).1.form
  have HO1 := Lib.hid (fun U (hq : Kept (fun b => b = sp ∨ b = mb ∨ (Value.slice al L.length cl).ownBlock = some b) w U) => show ObjS U (.slice ao o.charge.length co) { o with ver := 1 } from ⟨(hO U hq).1, (show in64 1 by unfold in64; omega)⟩)
  have HS := Lib.hid (show objSmall { o with ver := 1 } from hs)
  have HR := Lib.hid (fun (U : World) (hb : Below w.heap.size w U) => oright_calls U (HO1.out U (kept_of_below hb)) HS.out)
  have HWR := Lib.hid (fun (U : World) (hb : Below w.heap.size w U) => written_calls U (h.below hb) 0 (o := { o with ver := 1 }) (k := k) hk (fun X hX => HO1.out X ((kept_of_below (X := fun b => b = sp ∨ b = mb ∨ (Value.slice al L.length cl).ownBlock = some b) hb).trans hX (fun _ q => .inl q))) HS.out hv hM hL)
  unfold objV at HR HWR
  simp only at HR HWR
  obtain ⟨q, A, n, c, HLK⟩ := store_look h k hk
  have m0 : w.cell? ⟨sp, 0, none⟩ = some (.map (some mb)) := blk_cell h.cell 0
  have HLK2 := Lib.hid HLK
  have HPE := Lib.hid (show putErr M k o = if rightO { o with ver := 1 } then if hasA M k || decide (M.length < 1000) then 0 else 3 else 1 from rfl)
  generalize putErr M k o = pe at HPE ⊢
  clear h hO hs hv hM hL hk HLK
  unfold objV
  go_enter Try.func39, Try.ntmps39
  go_upto_region 2 with fail
  first | with_reducible refine name_wp ?_ | with_reducible refine name_calls ?_
  intro W hW
  have Hw := Lib.hid (show Below w.heap.size w W by rw [hW]; exact (Below.refl _ _).alloc (Nat.le_refl _) _)
  have c0_0 : W.cell? ⟨w.heap.size, 0, none⟩ = some (.string o.key.kind) := by rw [hW]; exact blk_cell (blk_new w _) 0
  have c0_1 : W.cell? ⟨w.heap.size, 1, none⟩ = some (.string o.key.space) := by rw [hW]; exact blk_cell (blk_new w _) 1
  have c0_2 : W.cell? ⟨w.heap.size, 2, none⟩ = some (.string o.key.name) := by rw [hW]; exact blk_cell (blk_new w _) 2
  have c0_3 : W.cell? ⟨w.heap.size, 3, none⟩ = some (.int .i64 1) := by rw [hW]; exact blk_cell (blk_new w _) 3
  have c0_4 : W.cell? ⟨w.heap.size, 4, none⟩ = some (.string o.cls) := by rw [hW]; exact blk_cell (blk_new w _) 4
  have c0_5 : W.cell? ⟨w.heap.size, 5, none⟩ = some (.bool o.term) := by rw [hW]; exact blk_cell (blk_new w _) 5
  have c0_6 : W.cell? ⟨w.heap.size, 6, none⟩ = some (.bool o.best) := by rw [hW]; exact blk_cell (blk_new w _) 6
  have c0_7 : W.cell? ⟨w.heap.size, 7, none⟩ = some (.slice ao o.charge.length co) := by rw [hW]; exact blk_cell (blk_new w _) 7
  clear hW
  cases hr : rightO { o with ver := 1 } with
  | false =>
    have HRR := Lib.hid hr
    have HE := Lib.hid (show pe = 1 by rw [HPE.out, hr]; rfl)
    clear hr
    go_wp2_with (go_at_call 68; refine (HR.out _ Hw.out).mono ?_; rintro e w1 ⟨rfl, hb⟩; rw [HRR.out]; have k0 := cb hb c0_0; have k1 := cb hb c0_1; have k2 := cb hb c0_2; have k3 := cb hb c0_3; have k4 := cb hb c0_4; have k5 := cb hb c0_5; have k6 := cb hb c0_6; have k7 := cb hb c0_7; have HB1 := Lib.hid hb; have n0 := cb (bl_from Hw.out hb) m0; clear hb)
    refine bodyPost_ret (v := .tuple #[.int .i64 0, .int .i64 1]) (by simp [results, Try.results39, go_sem]) rfl ?_
    exact .inl ⟨by rw [HE.out]; decide, by rw [HE.out], bl_from Hw.out HB1.out⟩
  | true =>
    have HRR := Lib.hid hr
    have HE := Lib.hid (show pe = if hasA M k || decide (M.length < 1000) then 0 else 3 by rw [HPE.out, hr]; rfl)
    clear hr
    go_upto_region 4 with (go_at_call 68; refine (HR.out _ Hw.out).mono ?_; rintro e w1 ⟨rfl, hb⟩; rw [HRR.out]; have k0 := cb hb c0_0; have k1 := cb hb c0_1; have k2 := cb hb c0_2; have k3 := cb hb c0_3; have k4 := cb hb c0_4; have k5 := cb hb c0_5; have k6 := cb hb c0_6; have k7 := cb hb c0_7; have HB1 := Lib.hid hb; have n0 := cb (bl_from Hw.out hb) m0; clear hb)
    have HBW := Lib.hid (bl_from Hw.out HB1.out)
    have hB := Below.refl w1.heap.size w1
    clear c0_0 c0_1 c0_2 c0_3 c0_4 c0_5 c0_6 c0_7
    have hB := hB.drew
    refine region_seq (fun w' => Below w1.heap.size w1 w') [(0, true), (1, true), (2, true), (3, true), (4, true), (5, true), (6, true), (7, true), (8, true), (9, true), (10, false), (11, false), (12, true)] (by kernel_rfl) (by kernel_rfl) (fun _ _ _ _ h => h) hB ?_
    try generalize World.drew _ = wS at hB ⊢
    refine seq_take (v := ?_) (a' := ?_) (some 17) rfl rfl (by rfl) ?_ ?_ ?_
    rotate_left; rotate_left
    · intro w' hS; go_simp; with_reducible rfl
    · simp only [Act.put, List.setIfInBounds_toArray, List.set_cons_zero, List.set_cons_succ]; rfl
    refine seq_take (v := ?_) (a' := ?_) (some 18) rfl rfl (by rfl) ?_ ?_ ?_
    rotate_left; rotate_left
    · intro w' hS; go_simp; with_reducible rfl
    · simp only [Act.put, List.setIfInBounds_toArray, List.set_cons_zero, List.set_cons_succ]; rfl
    refine seq_take (v := ?_) (a' := ?_) (some 19) rfl rfl (by rfl) ?_ ?_ ?_
    rotate_left; rotate_left
    · intro w' hS; go_simp; with_reducible rfl
    · simp only [Act.put, List.setIfInBounds_toArray, List.set_cons_zero, List.set_cons_succ]; rfl
    refine seq_take (v := ?_) (a' := ?_) (some 20) rfl rfl (by rfl) ?_ ?_ ?_
    rotate_left; rotate_left
    · intro w' hS; have z := cb hS n0; have q0 := cb hS k0; have q1 := cb hS k1; have q2 := cb hS k2; have q3 := cb hS k3; have q4 := cb hS k4; have q5 := cb hS k5; have q6 := cb hS k6; have q7 := cb hS k7; have hl := HLK2.out _ (bl_from HBW.out hS); go_simp; with_reducible rfl
    · simp only [Act.put, List.setIfInBounds_toArray, List.set_cons_zero, List.set_cons_succ]; rfl
    refine seq_take (v := ?_) (a' := ?_) (some 21) rfl rfl (by rfl) ?_ ?_ ?_
    rotate_left; rotate_left
    · intro w' hS; go_simp; with_reducible rfl
    · simp only [Act.put, List.setIfInBounds_toArray, List.set_cons_zero, List.set_cons_succ]; rfl
    refine seq_take (v := ?_) (a' := ?_) (some 22) rfl rfl (by rfl) ?_ ?_ ?_
    rotate_left; rotate_left
    · intro w' hS; have z := cb hS n0; have q0 := cb hS k0; have q1 := cb hS k1; have q2 := cb hS k2; have q3 := cb hS k3; have q4 := cb hS k4; have q5 := cb hS k5; have q6 := cb hS k6; have q7 := cb hS k7; have hl := HLK2.out _ (bl_from HBW.out hS); go_simp; with_reducible rfl
    · simp only [Act.put, List.setIfInBounds_toArray, List.set_cons_zero, List.set_cons_succ]; rfl
    refine seq_take (v := ?_) (a' := ?_) (some 23) rfl rfl (by rfl) ?_ ?_ ?_
    rotate_left; rotate_left
    · intro w' hS; have z := cb hS n0; have q0 := cb hS k0; have q1 := cb hS k1; have q2 := cb hS k2; have q3 := cb hS k3; have q4 := cb hS k4; have q5 := cb hS k5; have q6 := cb hS k6; have q7 := cb hS k7; have hl := HLK2.out _ (bl_from HBW.out hS); go_simp; with_reducible rfl
    · simp only [Act.put, List.setIfInBounds_toArray, List.set_cons_zero, List.set_cons_succ]; rfl
    refine seq_take (v := ?_) (a' := ?_) (some 16) rfl rfl (by rfl) ?_ ?_ ?_
    rotate_left; rotate_left
    · intro w' hS; go_simp; with_reducible rfl
    · simp only [Act.put, List.setIfInBounds_toArray, List.set_cons_zero, List.set_cons_succ]; rfl
    refine seq_take (v := ?_) (a' := ?_) (some 24) rfl rfl (by rfl) ?_ ?_ ?_
    rotate_left; rotate_left
    · intro w' hS; go_simp; with_reducible rfl
    · simp only [Act.put, List.setIfInBounds_toArray, List.set_cons_zero, List.set_cons_succ]; rfl
    refine seq_take (v := ?_) (a' := ?_) (some 25) rfl rfl (by rfl) ?_ ?_ ?_
    rotate_left; rotate_left
    · intro w' hS; go_simp; with_reducible rfl
    · simp only [Act.put, List.setIfInBounds_toArray, List.set_cons_zero, List.set_cons_succ]; rfl
    refine seq_op (some 6) rfl rfl (by rfl) ?_
    apply Exists.intro; apply Exists.intro; apply And.intro
    · go_simp; first | exact ⟨rfl, rfl⟩ | rfl
    apply Exists.intro; apply And.intro
    · simp only [Act.put, List.setIfInBounds_toArray, List.set_cons_zero, List.set_cons_succ]; rfl
    apply And.intro
    · exact (by repeat (first | with_reducible exact hB | refine Below.alloc ?_ (by have := hB.size; simp; omega) _ | refine bl_dN ?_ _ | refine Below.drew ?_ | refine Below.setCell ?_ (by have := hB.size; simp; omega) _))
    refine seq_store none rfl rfl (by rfl) ?_
    apply Exists.intro; apply And.intro
    · go_simp; first | exact ⟨rfl, rfl⟩ | rfl
    apply Exists.intro; apply And.intro
    · simp only [Act.put, List.setIfInBounds_toArray, List.set_cons_zero, List.set_cons_succ]; rfl
    apply And.intro
    · exact (by repeat (first | with_reducible exact hB | refine Below.alloc ?_ (by have := hB.size; simp; omega) _ | refine bl_dN ?_ _ | refine Below.drew ?_ | refine Below.setCell ?_ (by have := hB.size; simp; omega) _))
    refine seq_take (v := ?_) (a' := ?_) (some 7) rfl rfl (by rfl) ?_ ?_ ?_
    rotate_left; rotate_left
    · intro w' hS; go_simp; with_reducible rfl
    · simp only [Act.put, List.setIfInBounds_toArray, List.set_cons_zero, List.set_cons_succ]; rfl
    refine seq_done ?_
    refine name_exit ?_
    intro U hU
    have hbU : Below w1.heap.size w1 U := by rw [hU]; exact hB.alloc hB.size _
    have HBU := Lib.hid (bl_from HBW.out hbU)
    have z0 := cb hbU n0
    have e0 := cb hbU k0
    have e1 := cb hbU k1
    have e2 := cb hbU k2
    have e3 := cb hbU k3
    have e4 := cb hbU k4
    have e5 := cb hbU k5
    have e6 := cb hbU k6
    have e7 := cb hbU k7
    have HSU := Lib.hid (HST.out.below HBU.out)
    have hln := omap_len HSU.out.map 3
    clear hU hB hbU n0 k0 k1 k2 k3 k4 k5 k6 k7
    cases hh : hasA M k with
    | true =>
      have HE2 := Lib.hid (show pe = 0 by rw [HE.out, hh]; rfl)
      clear hh
      go_wp2_with (go_at_call 69; refine (HWR.out _ HBU.out).mono ?_; rintro e w' ⟨lv', x, y, rfl, hst, hkp⟩; have HF := Lib.hid hst; have HK := Lib.hid hkp; clear hst hkp)
      refine bodyPost_ret (v := .tuple #[.int .i64 (ver + 1), .int .i64 0]) (by simp [results, Try.results39, go_sem]) rfl ?_
      have q1 := HF.out
      first | rw [if_pos rfl] at q1 | rw [if_pos trivial] at q1
      exact .inr ⟨HE2.out, lv', x, y, rfl, q1, (kept_of_below (X := fun b => b = sp ∨ b = mb ∨ (Value.slice al L.length cl).ownBlock = some b) HBU.out).trans HK.out (fun _ q => .inl q)⟩
    | false =>
      by_cases hc : M.length < 1000
      · have HE2 := Lib.hid (show pe = 0 by rw [HE.out, hh, if_pos (by simpa using hc)])
        have hI : ¬ (1000 : Int) ≤ M.length := by omega
        clear hh hc
        go_wp2_with (go_at_call 69; refine (HWR.out _ HBU.out).mono ?_; rintro e w' ⟨lv', x, y, rfl, hst, hkp⟩; have HF := Lib.hid hst; have HK := Lib.hid hkp; clear hst hkp)
        refine bodyPost_ret (v := .tuple #[.int .i64 (ver + 1), .int .i64 0]) (by simp [results, Try.results39, go_sem]) rfl ?_
        have q1 := HF.out
        first | rw [if_pos rfl] at q1 | rw [if_pos trivial] at q1
        exact .inr ⟨HE2.out, lv', x, y, rfl, q1, (kept_of_below (X := fun b => b = sp ∨ b = mb ∨ (Value.slice al L.length cl).ownBlock = some b) HBU.out).trans HK.out (fun _ q => .inl q)⟩
      · have HE2 := Lib.hid (show pe = 3 by rw [HE.out, hh, if_neg (by simpa using hc)])
        have hI : (1000 : Int) ≤ M.length := by omega
        clear hh hc
        go_wp2_with fail
        refine bodyPost_ret (v := .tuple #[.int .i64 0, .int .i64 3]) (by simp [results, Try.results39, go_sem]) rfl ?_
        exact .inl ⟨by rw [HE2.out]; decide, by rw [HE2.out], HBU.out⟩
end Go.Proofs.Ythhfcambdmdgfaa
namespace Go.Proofs.Ythhfcambdmdgfaa
open Go.RowKit Go.Maps
set_option linter.unusedVariables false
set_option linter.unusedSimpArgs false
def goneO (k : KeyD) : ObjD := ⟨k, 0, ⟨#[]⟩, false, false, []⟩
def delErr (M : AM KS OX) (k : KS) : Int := if keyOk k.1 then if hasA M k then 0 else 4 else 1
theorem StoreAt.del {w w1 : World} {base sp mb : Nat} {ver : Int} {M : AM KS OX} {lv : Value} {L : List LX} {k : KS} (h : StoreAt w base sp mb ver M lv L) (hg : w.mapTurned w1 mb) (hm : w1.ownsMap Try.prog 24 RV mb M.length ((dmA kL (fun p => Value.agg (objX p).toArray) M).del (kL k))) :
    StoreAt w1 base sp mb ver (delA M k) lv L ∧ Kept (fun q => q = mb) w w1 := by
  have hkk : Kept (fun q => q = mb) w w1 := kept_turned hg
  have h4 : ∀ q, q = mb → ∀ c, w.heap[q]? = some (.cells c 112) → False := fun q e c hc' => mv_other h.map hc' e
  refine ⟨⟨hkk.heap h.cell h.ne_map, ?_, rw_kept h.row hkk (fun q e r => by subst r; exact h.ne_log_map e), fun q hq => ?_, fun e he => ⟨(h.resL e he).1.kept hkk h4, (h.resL e he).2⟩, h.ge⟩, hkk⟩
  · rw [del_dmA kL_lit] at hm
    have := mv_tight hm
    rw [size_dmA kL_lit] at this
    exact this
  · have r := (mem_del.1 hq).1
    exact ⟨(h.resM q r).1.kept hkk h4, (h.resM q r).2⟩
def WroteD (w : World) (base sp mb : Nat) (ver : Int) (M : AM KS OX) (lv : Value) (L : List LX) (kd : Int) (o : ObjD) (e : Ending) (w' : World) : Prop :=
  ∃ lv' x, e = .returned (.int .i64 (ver + 1)) ∧ StoreAt w' base sp mb (ver + 1) M lv' (L ++ [(kd, ({ o with ver := ver + 1 }, x))]) ∧ Kept (fun b => b = sp ∨ b = mb ∨ lv.ownBlock = some b) w w'
theorem wrote_ne {w : World} {base sp mb : Nat} {ver : Int} {M : AM KS OX} {lv : Value} {L : List LX} {kd : Int} {k : KS} {o : ObjD} {e : Ending} {w' : World} (h : Wrote w base sp mb ver M lv L kd k o e w') (hk : kd ≠ 0) : WroteD w base sp mb ver M lv L kd o e w' := by
  obtain ⟨lv', x, y, h1, h2, h3⟩ := h
  rw [if_neg hk] at h2
  exact ⟨lv', x, h1, h2, h3⟩
set_option maxRecDepth 100000 in
set_option maxHeartbeats 8000000 in
theorem sdelete_calls (w : World) {base sp mb : Nat} {ver : Int} {M : AM KS OX} {lv : Value} {L : List LX} (h : StoreAt w base sp mb ver M lv L) (k : KS)
    (hv : 0 ≤ ver ∧ ver ≤ 1000000000) (hM : M.length ≤ 1000000) (hL : L.length ≤ 1000000) :
    Calls Try.prog 40 #[.pointer (some ⟨sp, 0, none⟩), .agg #[.string k.1.kind, .string k.1.space, .string k.1.name]] w (Act9 w base sp mb ver (fun _ => delA M k) lv L 1 (goneO k.1) (delErr M k)) := by
  have hsp := h.ptr
  obtain ⟨al, cl, rfl⟩ := rw_form h.row
  have HST := Lib.hid h
  have HKS := Lib.hid k.2
  have HWR := Lib.hid (fun (U : World) (hu : StoreAt U base sp mb ver (delA M k) (.slice al L.length cl) L) => written_calls U hu 1 (o := goneO k.1) (k := k) (sl := .slice none 0 0) rfl (fun X hX => ⟨⟨sliS_nil X 2, by rintro p ⟨⟩⟩, (show in64 0 by unfold in64; omega)⟩) ⟨k.2, (show (ByteArray.mk #[]).size ≤ 1000 by decide), (show (0:Nat) ≤ 300 by omega), by rintro p ⟨⟩⟩ hv (Nat.le_trans (del_le M k) hM) hL |>.mono fun e w' q => wrote_ne q (by decide))
  unfold objV goneO at HWR
  simp only at HWR
  obtain ⟨q, A, n, c, HLK⟩ := store_look h k rfl
  have m0 : w.cell? ⟨sp, 0, none⟩ = some (.map (some mb)) := blk_cell h.cell 0
  have HLK2 := Lib.hid HLK
  have HM := Lib.hid hM
  have HKEY := Lib.hid (show keyOf Try.prog 24 (.agg #[.string k.1.kind, .string k.1.space, .string k.1.name]) = some (kL k) from kL_key k)
  have HPE := Lib.hid (show delErr M k = if keyOk k.1 then if hasA M k then 0 else 4 else 1 from rfl)
  generalize delErr M k = pe at HPE ⊢
  clear h hv hM hL HLK
  go_enter Try.func40, Try.ntmps40
  go_upto_region 1 with fail
  first | with_reducible refine name_wp ?_ | with_reducible refine name_calls ?_
  intro W hW
  have Hw := Lib.hid (show Below w.heap.size w W by rw [hW]; exact (Below.refl _ _).alloc (Nat.le_refl _) _)
  have c0_0 : W.cell? ⟨w.heap.size, 0, none⟩ = some (.string k.1.kind) := by rw [hW]; exact blk_cell (blk_new w _) 0
  have c0_1 : W.cell? ⟨w.heap.size, 1, none⟩ = some (.string k.1.space) := by rw [hW]; exact blk_cell (blk_new w _) 1
  have c0_2 : W.cell? ⟨w.heap.size, 2, none⟩ = some (.string k.1.name) := by rw [hW]; exact blk_cell (blk_new w _) 2
  clear hW
  cases hr : keyB k.1.kind k.1.space k.1.name with
  | false =>
    have HRR := Lib.hid hr
    have HE := Lib.hid (show pe = 1 by rw [HPE.out]; unfold keyOk; rw [hr]; rfl)
    clear hr
    go_wp2_with (go_at_call 70; refine (key_calls _ _ _ _ (by have := HKS.out; unfold keySmall at this; omega) (by have := HKS.out; unfold keySmall at this; omega) (by have := HKS.out; unfold keySmall at this; omega)).mono ?_; rintro e w1 ⟨rfl, hb⟩; rw [HRR.out]; have k0 := cb hb c0_0; have k1 := cb hb c0_1; have k2 := cb hb c0_2; have HB1 := Lib.hid hb; have n0 := cb (bl_from Hw.out hb) m0; clear hb)
    refine bodyPost_ret (v := .tuple #[.int .i64 0, .int .i64 1]) (by simp [results, Try.results40, go_sem]) rfl ?_
    exact .inl ⟨by rw [HE.out]; decide, by rw [HE.out], bl_from Hw.out HB1.out⟩
  | true =>
    have HRR := Lib.hid hr
    have HE := Lib.hid (show pe = if hasA M k then 0 else 4 by rw [HPE.out]; unfold keyOk; rw [hr]; rfl)
    clear hr
    go_upto_region 3 with (go_at_call 70; refine (key_calls _ _ _ _ (by have := HKS.out; unfold keySmall at this; omega) (by have := HKS.out; unfold keySmall at this; omega) (by have := HKS.out; unfold keySmall at this; omega)).mono ?_; rintro e w1 ⟨rfl, hb⟩; rw [HRR.out]; have k0 := cb hb c0_0; have k1 := cb hb c0_1; have k2 := cb hb c0_2; have HB1 := Lib.hid hb; have n0 := cb (bl_from Hw.out hb) m0; clear hb)
    have HBW := Lib.hid (bl_from Hw.out HB1.out)
    have hB := Below.refl w1.heap.size w1
    clear c0_0 c0_1 c0_2
    have hB := hB.drew
    refine region_seq (fun w' => Below w1.heap.size w1 w') [(0, true), (1, true), (2, true), (3, true), (4, true), (5, true), (6, true), (7, true), (8, true), (9, false), (10, false), (11, true)] (by kernel_rfl) (by kernel_rfl) (fun _ _ _ _ h => h) hB ?_
    try generalize World.drew _ = wS at hB ⊢
    refine seq_take (v := ?_) (a' := ?_) (some 16) rfl rfl (by rfl) ?_ ?_ ?_
    rotate_left; rotate_left
    · intro w' hS; go_simp; with_reducible rfl
    · simp only [Act.put, List.setIfInBounds_toArray, List.set_cons_zero, List.set_cons_succ]; rfl
    refine seq_take (v := ?_) (a' := ?_) (some 17) rfl rfl (by rfl) ?_ ?_ ?_
    rotate_left; rotate_left
    · intro w' hS; go_simp; with_reducible rfl
    · simp only [Act.put, List.setIfInBounds_toArray, List.set_cons_zero, List.set_cons_succ]; rfl
    refine seq_take (v := ?_) (a' := ?_) (some 18) rfl rfl (by rfl) ?_ ?_ ?_
    rotate_left; rotate_left
    · intro w' hS; go_simp; with_reducible rfl
    · simp only [Act.put, List.setIfInBounds_toArray, List.set_cons_zero, List.set_cons_succ]; rfl
    refine seq_take (v := ?_) (a' := ?_) (some 19) rfl rfl (by rfl) ?_ ?_ ?_
    rotate_left; rotate_left
    · intro w' hS; have z := cb hS n0; have q0 := cb hS k0; have q1 := cb hS k1; have q2 := cb hS k2; have hl := HLK2.out _ (bl_from HBW.out hS); go_simp; with_reducible rfl
    · simp only [Act.put, List.setIfInBounds_toArray, List.set_cons_zero, List.set_cons_succ]; rfl
    refine seq_take (v := ?_) (a' := ?_) (some 20) rfl rfl (by rfl) ?_ ?_ ?_
    rotate_left; rotate_left
    · intro w' hS; have z := cb hS n0; have q0 := cb hS k0; have q1 := cb hS k1; have q2 := cb hS k2; have hl := HLK2.out _ (bl_from HBW.out hS); go_simp; with_reducible rfl
    · simp only [Act.put, List.setIfInBounds_toArray, List.set_cons_zero, List.set_cons_succ]; rfl
    refine seq_take (v := ?_) (a' := ?_) (some 21) rfl rfl (by rfl) ?_ ?_ ?_
    rotate_left; rotate_left
    · intro w' hS; have z := cb hS n0; have q0 := cb hS k0; have q1 := cb hS k1; have q2 := cb hS k2; have hl := HLK2.out _ (bl_from HBW.out hS); go_simp; with_reducible rfl
    · simp only [Act.put, List.setIfInBounds_toArray, List.set_cons_zero, List.set_cons_succ]; rfl
    refine seq_take (v := ?_) (a' := ?_) (some 15) rfl rfl (by rfl) ?_ ?_ ?_
    rotate_left; rotate_left
    · intro w' hS; go_simp; with_reducible rfl
    · simp only [Act.put, List.setIfInBounds_toArray, List.set_cons_zero, List.set_cons_succ]; rfl
    refine seq_take (v := ?_) (a' := ?_) (some 22) rfl rfl (by rfl) ?_ ?_ ?_
    rotate_left; rotate_left
    · intro w' hS; go_simp; with_reducible rfl
    · simp only [Act.put, List.setIfInBounds_toArray, List.set_cons_zero, List.set_cons_succ]; rfl
    refine seq_take (v := ?_) (a' := ?_) (some 23) rfl rfl (by rfl) ?_ ?_ ?_
    rotate_left; rotate_left
    · intro w' hS; go_simp; with_reducible rfl
    · simp only [Act.put, List.setIfInBounds_toArray, List.set_cons_zero, List.set_cons_succ]; rfl
    refine seq_op (some 6) rfl rfl (by rfl) ?_
    apply Exists.intro; apply Exists.intro; apply And.intro
    · go_simp; first | exact ⟨rfl, rfl⟩ | rfl
    apply Exists.intro; apply And.intro
    · simp only [Act.put, List.setIfInBounds_toArray, List.set_cons_zero, List.set_cons_succ]; rfl
    apply And.intro
    · exact (by repeat (first | with_reducible exact hB | refine Below.alloc ?_ (by have := hB.size; simp; omega) _ | refine bl_dN ?_ _ | refine Below.drew ?_ | refine Below.setCell ?_ (by have := hB.size; simp; omega) _))
    refine seq_store none rfl rfl (by rfl) ?_
    apply Exists.intro; apply And.intro
    · go_simp; first | exact ⟨rfl, rfl⟩ | rfl
    apply Exists.intro; apply And.intro
    · simp only [Act.put, List.setIfInBounds_toArray, List.set_cons_zero, List.set_cons_succ]; rfl
    apply And.intro
    · exact (by repeat (first | with_reducible exact hB | refine Below.alloc ?_ (by have := hB.size; simp; omega) _ | refine bl_dN ?_ _ | refine Below.drew ?_ | refine Below.setCell ?_ (by have := hB.size; simp; omega) _))
    refine seq_take (v := ?_) (a' := ?_) (some 7) rfl rfl (by rfl) ?_ ?_ ?_
    rotate_left; rotate_left
    · intro w' hS; go_simp; with_reducible rfl
    · simp only [Act.put, List.setIfInBounds_toArray, List.set_cons_zero, List.set_cons_succ]; rfl
    refine seq_done ?_
    refine name_exit ?_
    intro U hU
    have hbU : Below w1.heap.size w1 U := by rw [hU]; exact hB.alloc hB.size _
    have HBU := Lib.hid (bl_from HBW.out hbU)
    have z0 := cb hbU n0
    have e0 := cb hbU k0
    have e1 := cb hbU k1
    have e2 := cb hbU k2
    have HSU := Lib.hid (HST.out.below HBU.out)
    clear hU hB hbU n0 k0 k1 k2
    cases hh : hasA M k with
    | false =>
      have HE2 := Lib.hid (show pe = 4 by rw [HE.out, hh]; rfl)
      clear hh
      go_wp2_with fail
      refine bodyPost_ret (v := .tuple #[.int .i64 0, .int .i64 4]) (by simp [results, Try.results40, go_sem]) rfl ?_
      exact .inl ⟨by rw [HE2.out]; decide, by rw [HE2.out], HBU.out⟩
    | true =>
      have HE2 := Lib.hid (show pe = 0 by rw [HE.out, hh]; rfl)
      clear hh
      go_upto_region 6 with fail
      have hB := Below.refl U.heap.size U
      have hB := hB.drew
      refine region_seqM (fun w' => Below U.heap.size U w') 5 [(0, 1), (1, 1), (2, 1), (3, 1), (4, 1), (5, 0)] (by kernel_rfl) (by kernel_rfl) (fun _ _ _ _ h => h) hB ?_
      try generalize World.drew _ = wS at hB ⊢
      refine sm_take (v := ?_) (a' := ?_) (some 26) rfl rfl (by rfl) ?_ ?_ ?_
      rotate_left; rotate_left
      · intro w' hS; go_simp; with_reducible rfl
      · simp only [Act.put, List.setIfInBounds_toArray, List.set_cons_zero, List.set_cons_succ]; rfl
      refine sm_take (v := ?_) (a' := ?_) (some 27) rfl rfl (by rfl) ?_ ?_ ?_
      rotate_left; rotate_left
      · intro w' hS; go_simp; with_reducible rfl
      · simp only [Act.put, List.setIfInBounds_toArray, List.set_cons_zero, List.set_cons_succ]; rfl
      refine sm_take (v := ?_) (a' := ?_) (some 28) rfl rfl (by rfl) ?_ ?_ ?_
      rotate_left; rotate_left
      · intro w' hS; go_simp; with_reducible rfl
      · simp only [Act.put, List.setIfInBounds_toArray, List.set_cons_zero, List.set_cons_succ]; rfl
      refine sm_take (v := ?_) (a' := ?_) (some 29) rfl rfl (by rfl) ?_ ?_ ?_
      rotate_left; rotate_left
      · intro w' hS; have p0 := cb hS z0; have q0 := cb hS e0; have q1 := cb hS e1; have q2 := cb hS e2; go_simp; with_reducible rfl
      · simp only [Act.put, List.setIfInBounds_toArray, List.set_cons_zero, List.set_cons_succ]; rfl
      refine sm_take (v := ?_) (a' := ?_) (some 30) rfl rfl (by rfl) ?_ ?_ ?_
      rotate_left; rotate_left
      · intro w' hS; have p0 := cb hS z0; have q0 := cb hS e0; have q1 := cb hS e1; have q2 := cb hS e2; go_simp; with_reducible rfl
      · simp only [Act.put, List.setIfInBounds_toArray, List.set_cons_zero, List.set_cons_succ]; rfl
      refine sm_law rfl (by rfl) ?_
      refine wp_mapDel _ (.tmp 29) (.tmp 30) 92 24 rfl 27 kS_keyed Try.underlying92 mb M.length (dmA kL (fun p => Value.agg (objX p).toArray) M) rfl (HSU.out.map.below hB) (.agg #[.string k.1.kind, .string k.1.space, .string k.1.name]) (kL k) rfl HKEY.out ?_
      intro w4 hown4 hturn4
      refine ⟨.inl rfl, ?_⟩
      simp only [Act.put, List.setIfInBounds_toArray, List.set_cons_zero, List.set_cons_succ]
      refine sm_done ?_
      have HD := Lib.hid ((HSU.out.below hB).del hturn4 hown4)
      have HKF := Lib.hid (show Kept (fun b => b = sp ∨ b = mb ∨ (Value.slice al L.length cl).ownBlock = some b) w w4 from (kept_of_below (X := fun b => b = sp ∨ b = mb ∨ (Value.slice al L.length cl).ownBlock = some b) (bl_from HBU.out hB)).trans HD.out.2 (fun _ q => .inl (.inr (.inl q))))
      have hNB : ¬ (w.heap.size = mb) := by
        obtain ⟨es, clock, hb, _⟩ := HST.out.map
        have := blk_lt hb; omega
      have f0 := HD.out.2.cell (cb hB e0) hNB
      have f1 := HD.out.2.cell (cb hB e1) hNB
      have f2 := HD.out.2.cell (cb hB e2) hNB
      clear hown4 hturn4 hB e0 e1 e2 z0 hNB
      go_wp2_with (go_at_call 69; refine (HWR.out _ HD.out.1).mono ?_; rintro e w' ⟨lv', x, rfl, hst, hkp⟩; have HF := Lib.hid hst; have HK := Lib.hid hkp; clear hst hkp)
      refine bodyPost_ret (v := .tuple #[.int .i64 (ver + 1), .int .i64 0]) (by simp [results, Try.results40, go_sem]) rfl ?_
      exact .inr ⟨HE2.out, lv', x, undef, rfl, HF.out, HKF.out.trans HK.out (fun _ q => .inl q)⟩
end Go.Proofs.Ythhfcambdmdgfaa
namespace Go.Proofs.Ythhfcambdmdgfaa
open Go.RowKit Go.Maps
set_option linter.unusedVariables false
set_option linter.unusedSimpArgs false
abbrev LY := LX × Value
def yX (e : LY) : List Value := [.int .i64 e.1.1] ++ objX e.1.2 ++ [.int .i64 0, e.2]
def yC (l : List LY) : List Value := l.flatMap yX
theorem yC_app (l : List LY) (e : LY) : yC (l ++ [e]) = yC l ++ yX e := by simp [yC]
def lyOf (l : List LY) : List (Int × ObjD) := l.map fun p => (p.1.1, p.1.2.1)
def lxOf (L : List LX) : List (Int × ObjD) := L.map fun p => (p.1, p.2.1)
theorem flat_at {α : Type} (f : α → List Value) (sz : Nat) (hf : ∀ a, (f a).length = sz) : ∀ (l : List α) (k : Nat) (hk : k < l.length) (j : Nat), j < sz → (l.flatMap f)[k * sz + j]? = (f (l[k]'hk))[j]? := by
  intro l
  induction l with
  | nil => intro k hk; exact absurd hk (Nat.not_lt_zero _)
  | cons a r ih =>
    intro k hk j hj
    rw [List.flatMap_cons]
    cases k with
    | zero => rw [Nat.zero_mul, Nat.zero_add, List.getElem?_append_left (by rw [hf]; exact hj)]; rfl
    | succ k =>
      rw [List.getElem?_append_right (by rw [hf, Nat.succ_mul]; omega), hf, show (k + 1) * sz + j - sz = k * sz + j by rw [Nat.succ_mul]; omega]
      exact ih k (by simpa using hk) j hj
/-- An event's cells. -/
structure EvAt (w : World) (b off : Nat) (kd : Int) (o : ObjD) (x : Value) (vr : Int) (ov : Value) : Prop where
  c0 : w.cell? ⟨b, off, none⟩ = some (.int .i64 kd)
  c1 : w.cell? ⟨b, off + 1, none⟩ = some (.string o.key.kind)
  c2 : w.cell? ⟨b, off + 2, none⟩ = some (.string o.key.space)
  c3 : w.cell? ⟨b, off + 3, none⟩ = some (.string o.key.name)
  c4 : w.cell? ⟨b, off + 4, none⟩ = some (.int .i64 o.ver)
  c5 : w.cell? ⟨b, off + 5, none⟩ = some (.string o.cls)
  c6 : w.cell? ⟨b, off + 6, none⟩ = some (.bool o.term)
  c7 : w.cell? ⟨b, off + 7, none⟩ = some (.bool o.best)
  c8 : w.cell? ⟨b, off + 8, none⟩ = some (x)
  c9 : w.cell? ⟨b, off + 9, none⟩ = some (.int .i64 vr)
  c10 : w.cell? ⟨b, off + 10, none⟩ = some (ov)
theorem EvAt.below {w w' : World} {b off : Nat} {kd : Int} {o : ObjD} {x : Value} {vr : Int} {ov : Value} (h : EvAt w b off kd o x vr ov) (hb : Below w.heap.size w w') : EvAt w' b off kd o x vr ov :=
  ⟨cb hb h.c0, cb hb h.c1, cb hb h.c2, cb hb h.c3, cb hb h.c4, cb hb h.c5, cb hb h.c6, cb hb h.c7, cb hb h.c8, cb hb h.c9, cb hb h.c10⟩
theorem log_at {w : World} {v : Value} {L : List LX} (h : SliS w v 11 L.length (lgC L)) {k : Nat} (hk : k < L.length) : ∃ b off c, v = .slice (some ⟨b, off, none⟩) L.length c ∧ EvAt w b (off + k * 11) (L[k]'hk).1 (L[k]'hk).2.1 (L[k]'hk).2.2 0 (.slice none 0 0) := by
  obtain ⟨b, off, c, he, _, hx⟩ := h.at' hk
  have z : ∀ j u, j < 11 → (lgX (L[k]'hk))[j]? = some u → w.cell? ⟨b, off + k * 11 + j, none⟩ = some u := fun j u hj e => hx j hj u (by rw [show lgC L = L.flatMap lgX from rfl, flat_at lgX 11 (fun _ => rfl) L k hk j hj]; exact e)
  exact ⟨b, off, c, he, ⟨z 0 _ (by omega) rfl, z 1 _ (by omega) rfl, z 2 _ (by omega) rfl, z 3 _ (by omega) rfl, z 4 _ (by omega) rfl, z 5 _ (by omega) rfl, z 6 _ (by omega) rfl, z 7 _ (by omega) rfl, z 8 _ (by omega) rfl, z 9 _ (by omega) rfl, z 10 _ (by omega) rfl⟩⟩
def OwnL (w : World) (kd : Int) (o : ObjD) (e : Ending) (w' : World) : Prop := ∃ g A c, e = .returned (.agg #[.int .i64 kd, .string o.key.kind, .string o.key.space, .string o.key.name, .int .i64 o.ver, .string o.cls, .bool o.term, .bool o.best, .slice (some ⟨g, 0, none⟩) o.charge.length o.charge.length, .int .i64 0, .slice A 0 c]) ∧ Hid (ResF w' w.heap.size (.slice (some ⟨g, 0, none⟩) o.charge.length o.charge.length) o.charge ∧ ObjsF w' w.heap.size (.slice A 0 c) []) ∧ Below w.heap.size w w'
theorem evown0_calls (w : World) (kd : Int) {o : ObjD} {sl : Value} (ho : ObjS w sl o) (hs : objSmall o) : Calls Try.prog 17 #[evV kd o sl 0 (.slice none 0 0)] w (OwnL w kd o) :=
  (evown_calls w kd 0 ho hs (xs := []) ⟨sliS_nil w 8, by rintro p ⟨⟩⟩ (by rintro p ⟨⟩) (by simp)).mono fun e w' ⟨x, ov, ys, he, hx, hy, hyx, hb⟩ => by
    obtain rfl : ys = [] := by cases ys with
      | nil => rfl
      | cons p r => simp [oxs] at hyx
    obtain ⟨g, rfl⟩ := hx.form
    obtain ⟨A, c, rfl⟩ := hy.form
    exact ⟨g, A, c, he, Lib.hid ⟨hx, hy⟩, hb⟩
theorem app_ey {ops : Array Oper} {rest : List Oper} {o' : Oper} {a : Act} {Q : Exit → Act → World → Prop} {w : World} (hgd : o'.guard = none) (s x : Operand)
    (ho : o'.op = .call { callee := .builtin .append, args := #[s, x], argTypes := #[48, 48] })
    (base : Nat) (tb : TypeId) (v : Value) (l : List LY) (kd : Int) (o : ObjD) (g n1 c1 : Nat) (A : Option Addr) (c : Nat) (hs : a.eval s = v) (hown : w.ownsRow base 30 11 v l.length (yC l)) (c0 : Nat) (hx : a.eval x = .slice (some ⟨w.heap.size, 0, none⟩) 1 c0)
    (hbase : base ≤ w.heap.size) (hlen : l.length + 1 ≤ 100000000)
    (h : ∀ g2 cap w1, w1.ownsRow base 30 11 (.slice (some ⟨g2, 0, none⟩) (l.length + 1) cap) (l ++ [((kd, (o, Value.slice (some ⟨g, 0, none⟩) n1 c1)), Value.slice A 0 c)]).length (yC (l ++ [((kd, (o, Value.slice (some ⟨g, 0, none⟩) n1 c1)), Value.slice A 0 c)])) → Kept (fun k => v.ownBlock = some k) w w1 → wpList Try.prog ops Q rest (a.put o'.dst (.slice (some ⟨g2, 0, none⟩) (l.length + 1) cap)) w1) :
    wpList Try.prog ops Q (o' :: rest) a (w.alloc (.cells #[.int .i64 kd, .string o.key.kind, .string o.key.space, .string o.key.name, .int .i64 o.ver, .string o.cls, .bool o.term, .bool o.best, .slice (some ⟨g, 0, none⟩) n1 c1, .int .i64 0, .slice A 0 c] tb)) := by
  obtain ⟨i0, hi, hz0, hz1, hz2⟩ := info_parts info_ev
  refine app_rw hgd s x _ ho base _ i0 _ 11 144 Try.underlying48 hi hz0 hz1 hz2 rfl (by decide) tb v l.length (yC l) [.int .i64 kd, .string o.key.kind, .string o.key.space, .string o.key.name, .int .i64 o.ver, .string o.cls, .bool o.term, .bool o.best, .slice (some ⟨g, 0, none⟩) n1 c1, .int .i64 0, .slice A 0 c] hs hown c0 hx rfl (by simp [Value.oneCell']) hbase hlen (by decide) ?_
  intro g2 cap w1 h1 h2 h3
  refine h g2 cap w1 ?_ h2
  rw [List.length_append, yC_app]
  exact h1
/-- A list of events of the call's own. -/
structure LogF (w : World) (b : Nat) (v : Value) (ys : List LY) : Prop where
  row : w.ownsRow b 30 11 v ys.length (yC ys)
  res : ∀ p ∈ ys, ResF w b p.1.2.2 p.1.2.1.charge ∧ ObjsF w b p.2 []
theorem LogF.below {w w' : World} {b : Nat} {v : Value} {ys : List LY} (h : LogF w b v ys) (hb : Below w.heap.size w w') : LogF w' b v ys := ⟨rw_below h.row hb, fun p hp => ⟨(h.res p hp).1.below hb, (h.res p hp).2.below hb⟩⟩
theorem LogF.mono {w : World} {b b' : Nat} {v : Value} {ys : List LY} (h : LogF w b v ys) (hb : b' ≤ b) : LogF w b' v ys := ⟨rw_mono h.row hb, fun p hp => ⟨(h.res p hp).1.mono hb, (h.res p hp).2.mono hb⟩⟩
theorem LogF.snoc {w w' : World} {b : Nat} {v v' : Value} {ys : List LY} {p : LY} (h : LogF w b v ys) (hp : ResF w b p.1.2.2 p.1.2.1.charge ∧ ObjsF w b p.2 []) (hr : w'.ownsRow b 30 11 v' (ys ++ [p]).length (yC (ys ++ [p]))) (hk : Kept (fun k => v.ownBlock = some k) w w') : LogF w' b v' (ys ++ [p]) := by
  have key : ∀ q : LY, ResF w b q.1.2.2 q.1.2.1.charge ∧ ObjsF w b q.2 [] → ResF w' b q.1.2.2 q.1.2.1.charge ∧ ObjsF w' b q.2 [] := fun q hq =>
    ⟨hq.1.kept hk (fun k e c hc => rw_other h.row hc (by decide) e), hq.2.kept hk (fun k e => rw_ne h.row hq.2.1 (by decide) k e) (fun k e c hc => rw_other h.row hc (by decide) e)⟩
  refine ⟨hr, fun q hq => ?_⟩
  rcases List.mem_append.1 hq with r | r
  · exact key q (h.res q r)
  · obtain rfl := List.mem_singleton.1 r; exact key q hp
set_option maxRecDepth 100000 in
set_option maxHeartbeats 8000000 in
theorem slog_calls (w : World) {base sp mb : Nat} {ver : Int} {M : AM KS OX} {lv : Value} {L : List LX} (h : StoreAt w base sp mb ver M lv L) (hS : ∀ e ∈ L, objSmall e.2.1) (hL : L.length ≤ 1000000) :
    Calls Try.prog 38 #[.pointer (some ⟨sp, 0, none⟩)] w fun e w' => ∃ v ys, e = .returned v ∧ LogF w' w.heap.size v ys ∧ lyOf ys = lxOf L ∧ Below w.heap.size w w' := by
  have hsp := h.ptr
  obtain ⟨al, cl, rfl⟩ := rw_form h.row
  have m2 : w.cell? ⟨sp, 2, none⟩ = some (.slice al L.length cl) := blk_cell h.cell 2
  have HSL := Lib.hid (sliS_of h.row)
  have HRL := Lib.hid (fun e (he : e ∈ L) => And.intro (h.resL e he) (hS e he))
  have HL := Lib.hid hL
  clear h hS
  have HNIL := Lib.hid (show LogF w w.heap.size (.slice none 0 0) [] from ⟨⟨rfl, .inl ⟨rfl, rfl⟩⟩, by rintro p ⟨⟩⟩)
  go_enter Try.func38, Try.ntmps38
  go_wp2_with fail
  go_loopw [3, 13] (fun s i wr => ∃ (k : Nat) (A : Option Addr) (c : Nat) (ys : List LY), i = .int .i64 k ∧ k ≤ L.length ∧ s = .slice A k c ∧ Hid (ys.length = k ∧ LogF wr w.heap.size (.slice A k c) ys ∧ lyOf ys = (lxOf L).take k) ∧ Hid (Below w.heap.size w wr)) (fun _ i _ => L.length - (intOf i).toNat)
  case atStart => exact ⟨0, none, 0, [], rfl, Nat.zero_le _, rfl, Lib.hid ⟨rfl, HNIL.out, rfl⟩, Lib.hid (Below.refl _ _)⟩
  case round =>
    obtain ⟨k, av, cv, ys, rfl, hk, rfl, HY, HBr⟩ := hrel
    by_cases hkl : k < L.length
    · have hkI : (k : Int) < L.length := by omega
      obtain ⟨b, of, c9, he, hq⟩ := log_at HSL.out hkl
      cases he
      have HT := Lib.hid (show (lxOf L).take (k + 1) = (lxOf L).take k ++ [((L[k]'hkl).1, (L[k]'hkl).2.1)] by rw [List.take_succ_eq_append_getElem (by simp [lxOf]; exact hkl)]; simp [lxOf])
      have HM := Lib.hid (HRL.out _ (List.getElem_mem hkl))
      generalize L[k]'hkl = p at hq HT HM
      obtain ⟨kd, o, so⟩ := p
      obtain ⟨g0, hg0⟩ := HM.out.1.1.form
      simp only at hg0
      subst hg0
      simp only at hq HT
      obtain ⟨V, rfl⟩ : ∃ V : World, V = wr := ⟨_, rfl⟩
      have q := hq.below HBr.out
      clear hq
      have d0 := q.c0
      have d1 := q.c1
      have d2 := q.c2
      have d3 := q.c3
      have d4 := q.c4
      have d5 := q.c5
      have d6 := q.c6
      have d7 := q.c7
      have d8 := q.c8
      have d9 := q.c9
      have d10 := q.c10
      have HOS := Lib.hid (show ObjS V (.slice (some ⟨g0, 0, none⟩) o.charge.length o.charge.length) o from (ObjS.below ⟨HM.out.1.1.resS HM.out.1.2.2, HM.out.1.2.1⟩ HBr.out))
      have HSM := Lib.hid HM.out.2
      clear q HM
      go_upto_region 7 with fail
      first | with_reducible refine name_wp ?_ | with_reducible refine name_calls ?_
      intro V1 hU
      have hw9 : Below V.heap.size V V1 := by rw [hU]; exact (Below.refl V.heap.size V).alloc (Nat.le_refl _) _
      clear d0 d1 d2 d3 d4 d5 d6 d7 d8 d9 d10
      have gA : V1.heap[V.heap.size]? = some (.cells #[.int .i64 kd, .string o.key.kind, .string o.key.space, .string o.key.name, .int .i64 o.ver, .string o.cls, .bool o.term, .bool o.best, .slice (some ⟨g0, 0, none⟩) o.charge.length o.charge.length, .int .i64 0, .slice none 0 0] 30) := by rw [hU]; exact blk_new V _
      clear hU
      have a0 := blk_cell gA 0
      have a1 := blk_cell gA 1
      have a2 := blk_cell gA 2
      have a3 := blk_cell gA 3
      have a4 := blk_cell gA 4
      have a5 := blk_cell gA 5
      have a6 := blk_cell gA 6
      have a7 := blk_cell gA 7
      have a8 := blk_cell gA 8
      have a9 := blk_cell gA 9
      have a10 := blk_cell gA 10
      clear gA
      have HC2 := Lib.hid (evown0_calls V1 kd (HOS.out.below hw9) HSM.out)
      unfold evV at HC2
      have HBV := Lib.hid (bl_next HBr.out hw9)
      have HY1 := Lib.hid (HY.out.2.1.below hw9)
      have HYE := Lib.hid (And.intro HY.out.1 HY.out.2.2)
      have hyl : ys.length ≤ 1000000 := by have := HY.out.1; have := HL.out; omega
      clear hw9 HY HOS
      go_wp2_with (first | (go_at_call 17; refine HC2.out.mono ?_; rintro e w2 ⟨gx, A2, c2, rfl, HF, hb⟩; have HY2 := Lib.hid (HY1.out.below hb); have HB2 := Lib.hid (bl_next HBV.out hb); have HF2 := Lib.hid (And.intro (HF.out.1.mono HBV.out.size) (HF.out.2.mono HBV.out.size)); clear hb HF) | (at_builtin; refine app_ey rfl (.tmp 17) (.tmp 20) rfl w.heap.size _ (.slice av k cv) ys kd o gx o.charge.length o.charge.length A2 c2 rfl HY2.out.row 1 rfl HB2.out.size (by omega) ?_; intro g3 cap w3 hown' hk'; have HN := Lib.hid (LogF.snoc (p := ((kd, (o, Value.slice (some ⟨gx, 0, none⟩) o.charge.length o.charge.length)), Value.slice A2 0 c2)) HY2.out HF2.out hown' hk'); have HB3 := Lib.hid (HB2.out.trans (hk'.below HB2.out.size (fun q hq => (rw_type HY2.out.row hq).1))); clear hown' hk'))
      go_roundw
      case rel => exact ⟨k + 1, _, cap, ys ++ [_], by simp, by omega, by rw [HYE.out.1], Lib.hid ⟨by simp [HYE.out.1], by rw [HYE.out.1] at HN; exact HN.out, by rw [HT.out, ← HYE.out.2]; simp [lyOf]⟩, HB3⟩
      case measure => simp [intOf]; omega
    · obtain rfl : k = L.length := by omega
      go_wp2_with fail
      go_ret
      exact ⟨_, ys, rfl, HY.out.2.1, by rw [HY.out.2.2, show L.length = (lxOf L).length by simp [lxOf], List.take_length], HBr.out⟩
end Go.Proofs.Ythhfcambdmdgfaa
namespace Go.Proofs.Ythhfcambdmdgfaa
open Go.RowKit Go.Maps
set_option linter.unusedVariables false
set_option linter.unusedSimpArgs false
theorem slice_rows {α β : Type} [Inhabited β] {kd : Kd α} {w : World} {ok : Nat → Prop} {A : Option Addr} {c sz : Nat} {l : List α} (hsz : kd.sz = sz) (hpos : 0 < sz) (f : β → List Value) (hf : ∀ x, (f x).length = sz) (P : α → β → Prop)
    (hK : ∀ a cs, kd.K w ok a cs → ∃ x, cs = f x ∧ P a x) (hc : l.length ≤ c) (h : Row kd w ok A l) :
    ∃ xs : List β, xs.length = l.length ∧ SliS w (.slice A l.length c) sz xs.length (xs.flatMap f) ∧ ∀ i (h1 : i < l.length) (h2 : i < xs.length), P (l[i]'h1) (xs[i]'h2) := by
  rcases h with rfl | ⟨b, off, rfl, _, _, hr⟩
  · exact ⟨[], rfl, ⟨by simp, A, c, rfl, hc, .inl rfl⟩, fun i h1 => absurd h1 (Nat.not_lt_zero _)⟩
  · have hy : ∀ i, i < l.length → ∃ x : β, ∃ hi : i < l.length, cellsAt w b (off + i * sz) (f x) ∧ P (l[i]'hi) x := fun i hi => by
      obtain ⟨cs, h1, h2⟩ := hr i hi
      obtain ⟨x, rfl, h3⟩ := hK _ _ h2
      rw [hsz] at h1
      exact ⟨x, hi, h1, h3⟩
    obtain ⟨g, hg⟩ := Go.Deep.choose_lt hy
    obtain ⟨xs, hxs⟩ : ∃ xs : List β, xs = (List.range l.length).map fun i => g i := ⟨_, rfl⟩
    have hlen : xs.length = l.length := by rw [hxs]; simp
    have hget : ∀ i (hi : i < xs.length), xs[i]'hi = g i := fun i hi => by subst hxs; simp
    have hfl : (xs.flatMap f).length = xs.length * sz := by
      clear hget hlen hxs
      induction xs with
      | nil => simp
      | cons a r ih => rw [List.flatMap_cons, List.length_append, hf, ih, List.length_cons, Nat.succ_mul, Nat.add_comm]
    refine ⟨xs, hlen, ⟨hfl, _, _, by rw [hlen], by rw [hlen]; exact hc, .inr ⟨b, off, rfl, fun j u hu => ?_⟩⟩, fun i h1 h2 => ?_⟩
    · have hj : j < xs.length * sz := by have := (List.getElem?_eq_some_iff.1 hu).1; rwa [hfl] at this
      have hi : j / sz < xs.length := by rw [Nat.div_lt_iff_lt_mul hpos]; exact hj
      obtain ⟨hi2, h1, _⟩ := hg (j / sz) (by omega)
      have hm := Nat.mod_lt j hpos
      have e := flat_at f sz hf xs (j / sz) hi (j % sz) hm
      have hd : j / sz * sz + j % sz = j := by rw [Nat.mul_comm]; exact Nat.div_add_mod j sz
      rw [hd, hu, hget _ hi] at e
      have := h1 (j % sz) u e.symm
      rwa [Nat.add_assoc, hd] at this
    · rw [hget i h2]
      obtain ⟨_, _, h3⟩ := hg i h1
      exact h3
end Go.Proofs.Ythhfcambdmdgfaa
namespace Go.Proofs.Ythhfcambdmdgfaa
open Go.RowKit Go.Maps Srt
set_option linter.unusedVariables false
set_option linter.unusedSimpArgs false
set_option linter.unusedSectionVars false
theorem ranges_kept {X : Nat → Prop} {H : Type} {P : Program} {k : TypeId} {R : Value → Option (DataW H × List MemPlace)} {w w' : World} {b r n : Nat} {D : DataW H} {left : Lit → Bool} {cnt : Nat}
    (h : w.ranges P k R b r n D left cnt) (hk : Kept X w w') (hb : ¬ X b) (hr : ¬ X r) : w'.ranges P k R b r n D left cnt := by
  obtain ⟨es, clock, since, seen, c0, hb', F, hs, hD, hr', rest⟩ := h
  exact ⟨es, clock, since, seen, c0, hk.heap hb' hb, F, hs, hD, hk.heap hr' hr, rest⟩
def fO (p : OX) : Value := .agg (objX p).toArray
/-- The entry that has come is one of the map's. -/
theorem met_next {M : AM KS OX} {kl : Lit} {c : Value} {yd : DataW Value} {yp : List MemPlace} (hl : Maps.has (dmA kL fO M) kl = true) (hv : RV c = some (yd, yp)) (hat : ∀ zd, (dmA kL fO M).atKey kl zd = yd) :
    ∃ p ∈ M, kl = kL p.1 ∧ c = fO p.2 := by
  have h : (M.map (fun p : KS × OX => ((kL p.1, DataW.held (fO p.2)) : Lit × DataW Value))).any (fun p => p.1.sameKey kl) = true := hl
  rw [List.any_map, List.any_eq_true] at h
  obtain ⟨q, hq, hs⟩ := h
  have e : kL q.1 = kl := Go.WideAt.sameKey_eq hs
  subst e
  rw [has_dmA kL_lit, hasA_get] at hl
  obtain ⟨v, hg⟩ := Option.isSome_iff_exists.1 hl
  refine ⟨(q.1, v), getA_mem hg, rfl, ?_⟩
  have z := val_dmA kL_lit fO M q.1 (.int .i64 0)
  rw [hg] at z
  unfold valAt at z
  rw [hat] at z
  cases hv
  exact z
theorem fst_inj {α β : Type} : ∀ {l : List (α × β)} {p q : α × β}, (l.map (·.1)).Nodup → p ∈ l → q ∈ l → p.1 = q.1 → p = q
  | a :: r, p, q, h, hp, hq, e => by
    rw [List.map_cons, List.nodup_cons] at h
    rcases List.mem_cons.1 hp with h1 | h1
    · rcases List.mem_cons.1 hq with h2 | h2
      · rw [h1, h2]
      · exact absurd (List.mem_map.2 ⟨q, h2, by rw [← e, h1]⟩) h.1
    · rcases List.mem_cons.1 hq with h2 | h2
      · exact absurd (List.mem_map.2 ⟨p, h1, by rw [e, h2]⟩) h.1
      · exact fst_inj h.2 h1 h2 e
/-- What has been met so far of a map that is ranged over. -/
structure Met (M : AM KS OX) (left : Lit → Bool) (N : AM KS OX) : Prop where
  sub : ∀ q ∈ N, q ∈ M ∧ left (kL q.1) = false
  all : ∀ q ∈ M, q ∈ N ∨ left (kL q.1) = true
  nod : (N.map (·.1)).Nodup
  has : ∀ z, left z = true → Maps.has (dmA kL fO M) z = true
theorem Met.start (M : AM KS OX) : Met M (Maps.has (dmA kL fO M)) [] where
  sub := by rintro q ⟨⟩
  all := fun q hq => .inr (by rw [has_dmA kL_lit]; unfold hasA; rw [List.any_eq_true]; exact ⟨q, hq, by simp⟩)
  nod := List.nodup_nil
  has := fun z h => h
theorem Met.step {M N : AM KS OX} {left : Lit → Bool} (h : Met M left N) (hk : (M.map (·.1)).Nodup) {p : KS × OX} (hp : p ∈ M) (hl : left (kL p.1) = true) : Met M (fun z => left z && !z.sameKey (kL p.1)) (N ++ [p]) where
  sub := fun q hq => by
    rcases List.mem_append.1 hq with r | r
    · exact ⟨(h.sub q r).1, by simp [(h.sub q r).2]⟩
    · obtain rfl := List.mem_singleton.1 r
      exact ⟨hp, by rw [kL_lit.same]; simp⟩
  all := fun q hq => by
    by_cases e : q.1 = p.1
    · left
      have : q = p := fst_inj hk hq hp e
      rw [this]; simp
    · rcases h.all q hq with r | r
      · exact .inl (List.mem_append_left _ r)
      · right; show (left (kL q.1) && !(kL q.1).sameKey (kL p.1)) = true
        rw [r, kL_lit.same, decide_eq_false e]; rfl
  nod := by
    rw [List.map_append, List.nodup_append]
    refine ⟨h.nod, by simp, ?_⟩
    intro a ha b hb e
    obtain ⟨q, hq, rfl⟩ := List.mem_map.1 ha
    obtain rfl : b = p.1 := by simpa using hb
    have := (h.sub q hq).2
    rw [e, hl] at this; cases this
  has := fun z hz => by
    simp only [Bool.and_eq_true] at hz
    exact h.has z hz.1
theorem nodup_fst {α β : Type} : ∀ {l : List (α × β)}, (l.map (·.1)).Nodup → l.Nodup
  | [], _ => List.nodup_nil
  | a :: r, h => by
    rw [List.map_cons, List.nodup_cons] at h
    exact List.nodup_cons.2 ⟨fun e => h.1 (List.mem_map.2 ⟨a, e, rfl⟩), nodup_fst h.2⟩
theorem Met.perm {M N : AM KS OX} {left : Lit → Bool} (h : Met M left N) (hk : (M.map (·.1)).Nodup) (hl : ∀ z, left z = false) : N.Perm M :=
  (List.perm_ext_iff_of_nodup (nodup_fst h.nod) (nodup_fst hk)).2 fun q => ⟨fun r => (h.sub q r).1, fun r => (h.all q r).elim id (fun e => by rw [hl] at e; cases e)⟩
/-- Lists of the same things, whose texts differ, are sorted alike. -/
theorem srtX_perm {α : Type} {t : α → ByteArray} {l m : List α} (hp : l.Perm m) (hn : (m.map t).Nodup) : srtX t l = srtX t m := by
  refine (srtX_of (srtX_srt m) (Stab.trans (K := t) (fun c => ?_) (Stab_symm (srtX_stab m)))).symm
  have q : (l.filter (fun x => decide (t x = c))).Perm (m.filter (fun x => decide (t x = c))) := hp.filter _
  have z : ∀ m : List α, (m.map t).Nodup → (m.filter (fun x => decide (t x = c))).length ≤ 1 := by
    intro m
    induction m with
    | nil => intro _; simp
    | cons a r ih =>
      intro h
      rw [List.map_cons, List.nodup_cons] at h
      rw [List.filter_cons]
      by_cases e : t a = c
      · rw [if_pos (by simpa using e)]
        have : r.filter (fun x => decide (t x = c)) = [] := by
          rw [List.filter_eq_nil_iff]
          intro x hx
          simp only [decide_eq_true_eq]
          intro e2
          exact h.1 (List.mem_map.2 ⟨x, hx, e2.trans e.symm⟩)
        rw [this]; simp
      · rw [if_neg (by simpa using e)]; exact ih h.2
  have z := z m hn
  generalize m.filter (fun x => decide (t x = c)) = b at q z
  cases b with
  | nil => exact q.eq_nil
  | cons x r =>
    obtain rfl : r = [] := by cases r with
      | nil => rfl
      | cons y s => simp at z
    exact List.perm_singleton.1 q
end Go.Proofs.Ythhfcambdmdgfaa

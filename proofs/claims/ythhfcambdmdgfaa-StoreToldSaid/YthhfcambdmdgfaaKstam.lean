import Derived.Test.YthhfcambdmdgfaaKstal
import Derived.Test.YthhfcambdmdgfaaKstak
import Derived.WideKeyEntry
namespace Go.Proofs.Ythhfcambdmdgfaa
open Go.RowKit Go.Maps
set_option linter.unusedVariables false
set_option linter.unusedSimpArgs false
/-- A call, by itself. -/
theorem call_R {P : Program} {Q : Exit → Act → World → Prop} {a : Act} {w : World} {oi : Oper} {f : FuncId} {fn : Func} {ags : Array Operand} {ts : Array TypeId} (hf : P.funcs[f]? = some fn) (hname : (fn.name == "runtime.NumGoroutine") = false) (hb : fn.body.isSome = true)
    (args : Array Value) (hop : oi.op = .call { callee := .value (.func f), args := ags, argTypes := ts }) (hargs : ags.map a.eval = args) {R : Value → World → Prop}
    (h : Calls P f args w fun e w' => ∃ v, e = .returned v ∧ R v w') : ∀ K : Act → World → Prop, (∀ v w1, R v w1 → K (a.put oi.dst v) w1) → oi.wp P a w K Q := by
  intro K hK
  have h1 : fn.name ≠ "runtime.NumGoroutine" := by simpa using hname
  obtain ⟨c, hc⟩ := Option.isSome_iff_exists.1 hb
  have he : (callFunc f args).run P w = .ok (.enter f args) w := by simp [callFunc, hf, h1, hc]
  have hrun : (execOp a.eval oi).run P w = .ok (.enter f args) w := by
    unfold execOp
    simp [hop, resolve, Deferred.ofValue, invoke, Act.eval, hargs, he]
  unfold Oper.wp
  rw [hrun, Oper.upon_enter]
  refine h.mono fun e w'' hh => ?_
  obtain ⟨v, rfl, hk⟩ := hh
  exact hK v w'' hk
theorem cloneO_R (w : World) {ob : Nat} {M : AM KS OX} (h : OMap w ob M) : Calls Try.prog 90 #[.map (some ob)] w fun e w' => ∃ v, e = .returned v ∧ (fun v w' => ∃ b, v = .map (some b) ∧ w.heap.size ≤ b ∧ OMap w' b M ∧ Below w.heap.size w w') v w' :=
  (cloneO_calls w h).mono fun e w' ⟨h1, h2, h3⟩ => ⟨_, h1, _, rfl, Nat.le_refl _, h2, h3⟩
theorem cloneG_R (w : World) {gb : Nat} {G : AM KS Int} (h : GMap w gb G) : Calls Try.prog 91 #[.map (some gb)] w fun e w' => ∃ v, e = .returned v ∧ (fun v w' => ∃ b, v = .map (some b) ∧ w.heap.size ≤ b ∧ GMap w' b G ∧ Below w.heap.size w w') v w' :=
  (cloneG_calls w h).mono fun e w' ⟨h1, h2, h3⟩ => ⟨_, h1, _, rfl, Nat.le_refl _, h2, h3⟩
/-- A cache that the call has made, and the variable that points to it. -/
structure NewC (W U : World) (pb np o1 g1 : Nat) (fl : Int) (M : AM KS OX) (G : AM KS Int) : Prop where
  ptr : U.heap[pb]? = some (.cells #[.pointer (some ⟨np, 0, none⟩)] 63)
  box : U.heap[np]? = some (.cells #[.map (some o1), .map (some g1), .int .i64 fl] 98)
  om : OMap U o1 M
  gm : GMap U g1 G
  ne : o1 ≠ g1
  ge : W.heap.size ≤ pb ∧ W.heap.size ≤ np ∧ W.heap.size ≤ o1 ∧ W.heap.size ≤ g1
theorem NewC.below {W U U' : World} {pb np o1 g1 : Nat} {fl : Int} {M : AM KS OX} {G : AM KS Int} (h : NewC W U pb np o1 g1 fl M G) (hb : Below U.heap.size U U') : NewC W U' pb np o1 g1 fl M G :=
  ⟨blk_below h.ptr hb, blk_below h.box hb, h.om.below hb, mv_below h.gm hb, h.ne, h.ge⟩
theorem box0 {u : World} {b : Nat} {t : TypeId} {v : Value} (h : u.heap[b]? = some (.cells #[v] t)) : u.cell? ⟨b, 0, none⟩ = some v := blk_cell h 0
theorem put_ptr {u : World} {b : Nat} {t : TypeId} {v v' : Value} (h : u.heap[b]? = some (.cells #[v] t)) : (u.setCell ⟨b, 0, none⟩ v').heap[b]? = some (.cells #[v'] t) := heap_setCell_same _ b 0 _ _ _ h
theorem new_of {W u : World} {pb np o1 g1 : Nat} {fl : Int} {M : AM KS OX} {G : AM KS Int} (hp : u.heap[pb]? = some (.cells #[.pointer none] 63)) (hn : u.heap[np]? = some (.cells #[.map (some o1), .map (some g1), .int .i64 fl] 98)) (ho : OMap u o1 M) (hg : GMap u g1 G) (hne : o1 ≠ g1)
    (hge : W.heap.size ≤ pb ∧ W.heap.size ≤ np ∧ W.heap.size ≤ o1 ∧ W.heap.size ≤ g1) (hB : Below W.heap.size W u) :
    NewC W (u.setCell ⟨pb, 0, none⟩ (.pointer (some ⟨np, 0, none⟩))) pb np o1 g1 fl M G ∧ Below W.heap.size W (u.setCell ⟨pb, 0, none⟩ (.pointer (some ⟨np, 0, none⟩))) := by
  have hk : Kept (fun k => k = pb) u (u.setCell ⟨pb, 0, none⟩ (.pointer (some ⟨np, 0, none⟩))) := (Kept.refl _ _).setCell _ _ (.inl rfl)
  refine ⟨⟨put_ptr hp, hk.heap hn (fun e => ?_), ho.kept hk (fun e => ?_), mv_kept hg hk (fun e => ?_), hne, hge⟩, hB.setCell hge.1 _⟩
  · have e' : np = pb := e
    rw [e'] at hn; rw [hp] at hn; cases hn
  · exact mv_other ho hp e.symm
  · exact mv_other hg hp e.symm
section
variable {W U U' : World} {pb np o1 g1 : Nat} {fl : Int} {M M1 : AM KS OX} {G G1 : AM KS Int}
theorem NewC.om1 (h : NewC W U pb np o1 g1 fl M G) (hk : Kept (fun k => k = o1) U U') (hm : OMap U' o1 M1) : NewC W U' pb np o1 g1 fl M1 G :=
  ⟨hk.heap h.ptr (mv_other h.om h.ptr), hk.heap h.box (mv_other h.om h.box), hm, mv_kept h.gm hk (fun e => h.ne e.symm), h.ne, h.ge⟩
theorem NewC.gm1 (h : NewC W U pb np o1 g1 fl M G) (hk : Kept (fun k => k = g1) U U') (hm : GMap U' g1 G1) : NewC W U' pb np o1 g1 fl M G1 :=
  ⟨hk.heap h.ptr (mv_other h.gm h.ptr), hk.heap h.box (mv_other h.gm h.box), h.om.kept hk h.ne, hm, h.ne, h.ge⟩
theorem NewC.ptr_ne (h : NewC W U pb np o1 g1 fl M G) : pb ≠ np := by
  rintro rfl
  have h1 := h.ptr; rw [h.box] at h1; cases h1
theorem kept_cell (U : World) (b j : Nat) (v : Value) : Kept (fun k => k = b) U (U.setCell ⟨b, j, none⟩ v) := (Kept.refl _ _).setCell _ _ (.inl rfl)
theorem NewC.setF (h : NewC W U pb np o1 g1 fl M G) (v : Int) : NewC W (U.setCell ⟨np, 2, none⟩ (.int .i64 v)) pb np o1 g1 v M G :=
  ⟨(kept_cell U np 2 _).heap h.ptr h.ptr_ne, heap_setCell_same _ np 2 _ _ _ h.box, h.om.kept (kept_cell U np 2 _) (fun e => mv_other h.om h.box e.symm), mv_kept h.gm (kept_cell U np 2 _) (fun e => mv_other h.gm h.box e.symm), h.ne, h.ge⟩
end
theorem GMap.below {w w' : World} {gb : Nat} {G : AM KS Int} (h : GMap w gb G) (hb : Below w.heap.size w w') : GMap w' gb G := mv_below h hb
theorem gmap_put {w : World} {gb : Nat} {G : AM KS Int} {k : KS} {v : Int} (h : w.ownsMap Try.prog 24 RV gb (G.length + 1) ((dmA kL gV G).put (kL k) (.held (.int .i64 v)))) : GMap w gb (putA ltKS G k v) := by
  have q := mv_tight h
  rw [show (DataW.held (.int .i64 v) : DataW Value) = .held (gV v) from rfl, put_dmA kL_lit, size_dmA kL_lit] at q
  exact q
theorem gmap_del {w : World} {gb n : Nat} {G : AM KS Int} {k : KS} (h : w.ownsMap Try.prog 24 RV gb n ((dmA kL gV G).del (kL k))) : GMap w gb (delA G k) := by
  have q := mv_tight h
  rw [del_dmA kL_lit, size_dmA kL_lit] at q
  exact q
theorem omap_del {w : World} {mb n : Nat} {M : AM KS OX} {k : KS} (h : w.ownsMap Try.prog 24 RV mb n ((dmA kL (fun p => Value.agg (objX p).toArray) M).del (kL k))) : OMap w mb (delA M k) := by
  have q := mv_tight h
  rw [del_dmA kL_lit, size_dmA kL_lit] at q
  exact q
def ResM (w : World) (base : Nat) (M : AM KS OX) : Prop := ∀ q ∈ M, ResF w base q.2.2 q.2.1.charge ∧ oIn q.2.1 ∧ keySmall q.2.1.key ∧ q.1.1 = q.2.1.key
theorem ResM.kept {X : Nat → Prop} {w w' : World} {base : Nat} {M : AM KS OX} (h : ResM w base M) (hk : Kept X w w') (hX : ∀ k, X k → ∀ c, w.heap[k]? = some (.cells c 112) → False) : ResM w' base M := fun q hq => ⟨(h q hq).1.kept hk hX, (h q hq).2⟩
theorem ResM.below {w w' : World} {base : Nat} {M : AM KS OX} (h : ResM w base M) (hb : Below w.heap.size w w') : ResM w' base M := fun q hq => ⟨(h q hq).1.below hb, (h q hq).2⟩
theorem ResM.put {w : World} {base : Nat} {M : AM KS OX} {k : KS} {p : OX} (h : ResM w base M) (hp : ResF w base p.2 p.1.charge ∧ oIn p.1 ∧ keySmall p.1.key ∧ k.1 = p.1.key) : ResM w base (putA ltKS M k p) := fun q hq => by
  rcases mem_put.1 hq with rfl | ⟨r, _⟩
  · exact hp
  · exact h q r
theorem ResM.del {w : World} {base : Nat} {M : AM KS OX} {k : KS} (h : ResM w base M) : ResM w base (delA M k) := fun q hq => h q (mem_del.1 hq).1
def nextF (e : EvD) (fl : Int) : Int := if e.kind = 0 ∨ e.kind = 1 then fl else e.ver
noncomputable def nextM (e : EvD) (fl : Int) (m : AO) (G : AM KS Int) : AO := if e.kind = 0 then putA ltKS m (kOf e.obj) e.obj else if e.kind = 1 then delA m (kOf e.obj) else if e.kind = 2 then relistP fl m G e.objs e.ver else m
noncomputable def nextG (e : EvD) (fl : Int) (G : AM KS Int) : AM KS Int := dropG (if e.kind = 0 then delA G (kOf e.obj) else if e.kind = 1 then putA ltKS G (kOf e.obj) e.obj.ver else G) fun _ v => decide (v ≤ nextF e fl)
structure RelS (U : World) (np g1 : Nat) (w' : World) : Prop where
  kept : Kept (fun k => k = np) U w'
  size : U.heap.size ≤ w'.heap.size
  box : ∃ v0 v2, w'.heap[np]? = some (.cells #[v0, .map (some g1), v2] 98)
theorem RelS.below {U : World} {np g1 : Nat} {a b : World} (h : RelS U np g1 a) (hb : Below a.heap.size a b) : RelS U np g1 b :=
  ⟨h.kept.trans (kept_of_below (X := fun _ => False) hb) (fun _ q => q.elim), Nat.le_trans h.size hb.size, by obtain ⟨v0, v2, q⟩ := h.box; exact ⟨v0, v2, blk_below q hb⟩⟩
theorem RelS.drew {U : World} {np g1 : Nat} {a : World} (h : RelS U np g1 a) : RelS U np g1 a.drew := ⟨h.kept.drew, h.size, h.box⟩
theorem RelS.set0 {U : World} {np g1 : Nat} {a : World} (h : RelS U np g1 a) (v : Value) : RelS U np g1 (a.setCell ⟨np, 0, none⟩ v) :=
  ⟨h.kept.setCell _ _ (.inl rfl), Nat.le_trans h.size (Nat.le_of_eq (by simp)), by obtain ⟨v0, v2, q⟩ := h.box; exact ⟨v, v2, heap_setCell_same _ np 0 _ _ _ q⟩⟩
theorem RelS.set2 {U : World} {np g1 : Nat} {a : World} (h : RelS U np g1 a) (v : Value) : RelS U np g1 (a.setCell ⟨np, 2, none⟩ v) :=
  ⟨h.kept.setCell _ _ (.inl rfl), Nat.le_trans h.size (Nat.le_of_eq (by simp)), by obtain ⟨v0, v2, q⟩ := h.box; exact ⟨v0, v, heap_setCell_same _ np 2 _ _ _ q⟩⟩
theorem RelS.toW {w U a : World} {np g1 : Nat} (h : RelS U np g1 a) (hb : Below w.heap.size w U) (hn : w.heap.size ≤ np) : Below w.heap.size w a := hb.trans (h.kept.below hb.size (fun k e => by subst e; exact hn))
theorem RelS.done {W U w' : World} {pb np o1 g1 o2 : Nat} {fl ev : Int} {M M2 : AM KS OX} {G : AM KS Int} (hB : RelS U np g1 w') (h : NewC W U pb np o1 g1 fl M G) (hm : OMap w' o2 M2) (hge : W.heap.size ≤ o2) (hne : o2 ≠ g1) :
    NewC W ((w'.setCell ⟨np, 0, none⟩ (.map (some o2))).setCell ⟨np, 2, none⟩ (.int .i64 ev)) pb np o2 g1 ev M2 G ∧ Kept (fun k => k = np) w' ((w'.setCell ⟨np, 0, none⟩ (.map (some o2))).setCell ⟨np, 2, none⟩ (.int .i64 ev)) := by
  obtain ⟨v0, v2, hbx⟩ := hB.box
  have hk : Kept (fun k => k = np) w' ((w'.setCell ⟨np, 0, none⟩ (.map (some o2))).setCell ⟨np, 2, none⟩ (.int .i64 ev)) := ((Kept.refl (fun k => k = np) w').setCell' np 0 _ rfl).setCell' np 2 _ rfl
  have hK := hB.kept.trans hk (fun _ q => .inl q)
  refine ⟨⟨hK.heap h.ptr h.ptr_ne, ?_, hm.kept hk (fun e => mv_other hm hbx e.symm), mv_kept h.gm hK (fun e => mv_other h.gm h.box e.symm), hne, ⟨h.ge.1, h.ge.2.1, hge, h.ge.2.2.2⟩⟩, hk⟩
  exact heap_setCell_same _ np 2 _ _ _ (heap_setCell_same _ np 0 _ _ _ hbx)
def NextO (w : World) (base : Nat) (fl : Int) (M : AM KS OX) (G : AM KS Int) (E : EvD) (e : Ending) (w' : World) : Prop :=
  ∃ np o1 g1 M' G', e = .returned (.pointer (some ⟨np, 0, none⟩)) ∧ (w.heap.size ≤ np ∧ w.heap.size ≤ o1 ∧ w.heap.size ≤ g1) ∧ CacheAt w' base np o1 g1 (nextF E fl) M' G' ∧ RiseA ltKS M' ∧ RiseA ltKS G' ∧ mo M' = nextM E fl (mo M) G ∧ G' = nextG E fl G ∧ M'.length ≤ M.length + E.objs.length + 1 ∧ G'.length ≤ G.length + 1 ∧ Below w.heap.size w w'
theorem next_done {w W Z w9 : World} {base pb np o1 g1 : Nat} {fl fl' : Int} {M M1 : AM KS OX} {G G1 : AM KS Int} {E : EvD} (h : NewC W Z pb np o1 g1 fl' M1 G1) (hr : ResM Z base M1) (h1 : RiseA ltKS M1) (h2 : RiseA ltKS G1) (hmo : mo M1 = nextM E fl (mo M) G) (hG : dropG G1 (fun _ v => decide (v ≤ fl')) = nextG E fl G) (hfl : fl' = nextF E fl)
    (hm : M1.length ≤ M.length + E.objs.length + 1) (hg : G1.length ≤ G.length + 1) (hi : in64 fl' ∧ ∀ q ∈ G1, in64 q.2) (hbase : base ≤ w.heap.size) (hW : w.heap.size ≤ W.heap.size) (hb : Below w.heap.size w Z)
    (hd : w9.ownsMap Try.prog 24 RV g1 (dropG G1 (fun _ v => decide (v ≤ fl'))).length (dmA kL gV (dropG G1 (fun _ v => decide (v ≤ fl'))))) (hk : Kept (fun k => k = g1) Z w9) : NextO w base fl M G E (.returned (.pointer (some ⟨np, 0, none⟩))) w9 := by
  subst hfl
  have hge := h.ge
  refine ⟨np, o1, g1, M1, _, rfl, by omega, ⟨hk.heap h.box (mv_other h.gm h.box), h.om.kept hk h.ne, hd, hr.kept hk (map_apart h.gm), ⟨hi.1, fun q hq => hi.2 q (List.mem_filter.1 hq).1⟩, by omega, h.ne⟩, h1, rise_drop h2 _, hmo, hG, hm, Nat.le_trans (drop_le _ _) hg, hb.trans (hk.below hb.size (fun k e => by subst e; omega))⟩
set_option maxRecDepth 100000 in
set_option maxHeartbeats 16000000 in
theorem cnext_calls (w : World) {base cp ob gb : Nat} {fl : Int} {M : AM KS OX} {G : AM KS Int} (h : CacheAt w base cp ob gb fl M G) (hR : RiseA ltKS M) (hRG : RiseA ltKS G) (hbase : base ≤ w.heap.size) (kd : Int) {o : ObjD} {sl : Value} (ev : Int) {ol : Value} {xs : List OX} (ho : ObjS w sl o) (hso : objSmall o) (hx : ObjsS w ol xs) (hxs : OSmall (oxs xs)) (hev : in64 ev) (hl : xs.length ≤ 1000000) (hM : M.length ≤ 1000000) (hG : G.length ≤ 1000000) :
    Calls Try.prog 72 #[.pointer (some ⟨cp, 0, none⟩), evV kd o sl ev ol] w (NextO w base fl M G ⟨kd, o, ev, oxs xs⟩) := by
  have HC := Lib.hid h; have HX := Lib.hid hx; have HSM := Lib.hid hxs; have HR := Lib.hid (And.intro hR hRG); have HSO := Lib.hid hso; have HO := Lib.hid ho; have HEV := Lib.hid hev
  have HL := Lib.hid (And.intro hl (And.intro hM (And.intro hG hbase)))
  obtain ⟨ao, co, rfl⟩ := ho.1.form
  obtain ⟨al, cl, rfl⟩ := hx.form
  clear h hR hx hxs hl hM ho hbase hG hRG hso hev
  unfold evV
  go_enter Try.func72, Try.ntmps72
  go_upto_region 1 with fail
  first | with_reducible refine name_wp ?_ | with_reducible refine name_calls ?_
  intro W hW
  have gE : W.heap[w.heap.size]? = some (.cells #[.int .i64 kd, .string o.key.kind, .string o.key.space, .string o.key.name, .int .i64 o.ver, .string o.cls, .bool o.term, .bool o.best, .slice ao o.charge.length co, .int .i64 ev, .slice al xs.length cl] 30) := by rw [hW]; exact blk_new w _
  have hbW : Below w.heap.size w W := by rw [hW]; exact (Below.refl _ _).alloc (Nat.le_refl _) _
  have hzW : w.heap.size + 1 = W.heap.size := by rw [hW]; simp
  clear hW
  have HE := Lib.hid gE
  have HBW := Lib.hid hbW
  have HCW := Lib.hid (HC.out.below hbW)
  have c0 : W.cell? ⟨cp, 0, none⟩ = some (.map (some ob)) := blk_cell HCW.out.cell 0
  have c1 : W.cell? ⟨cp, 1, none⟩ = some (.map (some gb)) := blk_cell HCW.out.cell 1
  have c2 : W.cell? ⟨cp, 2, none⟩ = some (.int .i64 fl) := blk_cell HCW.out.cell 2
  clear gE hbW
  go_cut [5] from 7 to 22 (fun s5 wc => ∃ pb np o1 g1, s5 = .pointer (some ⟨pb, 0, none⟩) ∧ Hid (NewC W wc pb np o1 g1 fl M G) ∧ Hid (Below W.heap.size W wc))
  case first =>
    have hB := Below.refl W.heap.size W
    have hB := hB.drew
    refine region_tree (fun w' => Below W.heap.size W w') 17 (.take 0 (.take 1 (.take 2 (.take 3 (.take 5 (.take 6 (.take 7 (.take 8 (.take 10 (.take 11 (.take 12 (.take 13 (.two 4 (.two 9 (.take 14 (.two 15 (.one 16 (.one 17 .done)) 16 (.one 15 (.one 17 .done)))) 16 (.one 9 (.take 14 (.one 15 (.one 17 .done))))) 16 (.one 4 (.one 9 (.take 14 (.one 15 (.one 17 .done)))))))))))))))))) (by kernel_rfl) (by kernel_rfl) hB ?_
    try generalize World.drew _ = wS at hB ⊢
    refine tl_take (v := ?_) (a' := ?_) (some 7) rfl rfl (by rfl) ?_ ?_ ?_
    rotate_left; rotate_left
    · intro w' hS; go_simp; with_reducible rfl
    · simp only [Act.put, List.setIfInBounds_toArray, List.set_cons_zero, List.set_cons_succ]; rfl
    refine tl_take (v := ?_) (a' := ?_) (some 8) rfl rfl (by rfl) ?_ ?_ ?_
    rotate_left; rotate_left
    · intro w' hS; go_simp; with_reducible rfl
    · simp only [Act.put, List.setIfInBounds_toArray, List.set_cons_zero, List.set_cons_succ]; rfl
    refine tl_take (v := ?_) (a' := ?_) (some 9) rfl rfl (by rfl) ?_ ?_ ?_
    rotate_left; rotate_left
    · intro w' hS; go_simp; with_reducible rfl
    · simp only [Act.put, List.setIfInBounds_toArray, List.set_cons_zero, List.set_cons_succ]; rfl
    refine tl_take (v := ?_) (a' := ?_) (some 10) rfl rfl (by rfl) ?_ ?_ ?_
    rotate_left; rotate_left
    · intro w' hS; have q0 := cb hS c0; have q1 := cb hS c1; have q2 := cb hS c2; go_simp; with_reducible rfl
    · simp only [Act.put, List.setIfInBounds_toArray, List.set_cons_zero, List.set_cons_succ]; rfl
    refine tl_take (v := ?_) (a' := ?_) (some 12) rfl rfl (by rfl) ?_ ?_ ?_
    rotate_left; rotate_left
    · intro w' hS; go_simp; with_reducible rfl
    · simp only [Act.put, List.setIfInBounds_toArray, List.set_cons_zero, List.set_cons_succ]; rfl
    refine tl_take (v := ?_) (a' := ?_) (some 13) rfl rfl (by rfl) ?_ ?_ ?_
    rotate_left; rotate_left
    · intro w' hS; go_simp; with_reducible rfl
    · simp only [Act.put, List.setIfInBounds_toArray, List.set_cons_zero, List.set_cons_succ]; rfl
    refine tl_take (v := ?_) (a' := ?_) (some 14) rfl rfl (by rfl) ?_ ?_ ?_
    rotate_left; rotate_left
    · intro w' hS; go_simp; with_reducible rfl
    · simp only [Act.put, List.setIfInBounds_toArray, List.set_cons_zero, List.set_cons_succ]; rfl
    refine tl_take (v := ?_) (a' := ?_) (some 15) rfl rfl (by rfl) ?_ ?_ ?_
    rotate_left; rotate_left
    · intro w' hS; have q0 := cb hS c0; have q1 := cb hS c1; have q2 := cb hS c2; go_simp; with_reducible rfl
    · simp only [Act.put, List.setIfInBounds_toArray, List.set_cons_zero, List.set_cons_succ]; rfl
    refine tl_take (v := ?_) (a' := ?_) (some 17) rfl rfl (by rfl) ?_ ?_ ?_
    rotate_left; rotate_left
    · intro w' hS; go_simp; with_reducible rfl
    · simp only [Act.put, List.setIfInBounds_toArray, List.set_cons_zero, List.set_cons_succ]; rfl
    refine tl_take (v := ?_) (a' := ?_) (some 18) rfl rfl (by rfl) ?_ ?_ ?_
    rotate_left; rotate_left
    · intro w' hS; go_simp; with_reducible rfl
    · simp only [Act.put, List.setIfInBounds_toArray, List.set_cons_zero, List.set_cons_succ]; rfl
    refine tl_take (v := ?_) (a' := ?_) (some 19) rfl rfl (by rfl) ?_ ?_ ?_
    rotate_left; rotate_left
    · intro w' hS; go_simp; with_reducible rfl
    · simp only [Act.put, List.setIfInBounds_toArray, List.set_cons_zero, List.set_cons_succ]; rfl
    refine tl_take (v := ?_) (a' := ?_) (some 20) rfl rfl (by rfl) ?_ ?_ ?_
    rotate_left; rotate_left
    · intro w' hS; have q0 := cb hS c0; have q1 := cb hS c1; have q2 := cb hS c2; go_simp; with_reducible rfl
    · simp only [Act.put, List.setIfInBounds_toArray, List.set_cons_zero, List.set_cons_succ]; rfl
    refine tl_two ?_ ?_
    · refine st_res (some 11) rfl rfl (by rfl) (call_R Try.func90 (by kernel_rfl) rfl #[.map (some ob)] rfl (by simp only [List.map_toArray, List.map_cons, List.map_nil]; go_simp; try rfl) (cloneO_R _ (HCW.out.objs.below hB))) ?_
      rintro v4 u4 ⟨b4, rfl, hge4, hom, hb⟩; have hp4 := hB.size; have oO := Lib.hid hom; have hB := bl_next hB hb; (try (have oP' := Lib.hid (blk_below oP.out hb); clear oP; have oP := oP'; clear oP')); clear hom hb
      refine ⟨hB, ?_⟩
      simp only [Act.put, List.setIfInBounds_toArray, List.set_cons_zero, List.set_cons_succ]
      refine tl_two ?_ ?_
      · refine st_res (some 16) rfl rfl (by rfl) (call_R Try.func91 (by kernel_rfl) rfl #[.map (some gb)] rfl (by simp only [List.map_toArray, List.map_cons, List.map_nil]; go_simp; try rfl) (cloneG_R _ (mv_below HCW.out.graves hB))) ?_
        rintro v9 u9 ⟨b9, rfl, hge9, hgm, hb⟩; have hp9 := hB.size; have HNE := Nat.ne_of_lt (Nat.lt_of_lt_of_le oO.out.lt hge9); have oG := Lib.hid hgm; have hB := bl_next hB hb; have oO' := Lib.hid (oO.out.below hb); clear oO; have oO := oO'; clear oO'; (try (have oP' := Lib.hid (blk_below oP.out hb); clear oP; have oP := oP'; clear oP')); clear hgm hb
        refine ⟨hB, ?_⟩
        simp only [Act.put, List.setIfInBounds_toArray, List.set_cons_zero, List.set_cons_succ]
        refine tl_take (v := ?_) (a' := ?_) (some 21) rfl rfl (by rfl) ?_ ?_ ?_
        rotate_left; rotate_left
        · intro w' hS; go_simp; with_reducible rfl
        · simp only [Act.put, List.setIfInBounds_toArray, List.set_cons_zero, List.set_cons_succ]; rfl
        refine tl_two ?_ ?_
        · refine st_new (some 22) rfl rfl (by rfl) ?_
          apply Exists.intro; apply Exists.intro; apply And.intro
          · go_simp; first | exact ⟨rfl, rfl⟩ | rfl
          apply Exists.intro; apply And.intro
          · simp only [Act.put, List.setIfInBounds_toArray, List.set_cons_zero, List.set_cons_succ]; rfl
          intro u15 g15 hb hlt
          have hp15 := hB.size
          have hB := bl_next hB hb
          have G15 := Lib.hid g15; clear g15
          have oN := G15; clear G15; have oO' := Lib.hid (oO.out.below hb); clear oO; have oO := oO'; clear oO'; have oG' := Lib.hid (show GMap _ b9 G from mv_below oG.out hb); clear oG; have oG := oG'; clear oG'; (try (have oP' := Lib.hid (blk_below oP.out hb); clear oP; have oP := oP'; clear oP'; have z0 := box0 oP.out; have z1 := blk_free oP.out 0))
          clear hb
          refine ⟨hB, ?_⟩
          refine tl_one ?_
          refine st_new (some 5) rfl rfl (by rfl) ?_
          apply Exists.intro; apply Exists.intro; apply And.intro
          · go_simp; first | exact ⟨rfl, rfl⟩ | rfl
          apply Exists.intro; apply And.intro
          · simp only [Act.put, List.setIfInBounds_toArray, List.set_cons_zero, List.set_cons_succ]; rfl
          intro u16 g16 hb hlt
          have hp16 := hB.size
          have hB := bl_next hB hb
          have G16 := Lib.hid g16; clear g16
          have oP := G16; clear G16; (try (have oO' := Lib.hid (oO.out.below hb); clear oO; have oO := oO'; clear oO')); (try (have oG' := Lib.hid (show GMap _ b9 G from mv_below oG.out hb); clear oG; have oG := oG'; clear oG')); (try (have oN' := Lib.hid (blk_below oN.out hb); clear oN; have oN := oN'; clear oN')); have z0 := box0 oP.out; have z1 := blk_free oP.out 0
          clear hb
          refine ⟨hB, ?_⟩
          refine tl_one ?_
          refine st_last none rfl rfl (by rfl) ?_
          apply Exists.intro; apply And.intro
          · go_simp; first | exact ⟨rfl, rfl⟩ | rfl
          apply Exists.intro; apply And.intro
          · simp only [Act.put, List.setIfInBounds_toArray, List.set_cons_zero, List.set_cons_succ]; rfl
          refine tl_done ?_
          go_wp2_with fail
          go_meet
          have q := new_of (W := W) oP.out oN.out oO.out oG.out HNE (by omega) hB
          exact ⟨_, _, _, _, rfl, Lib.hid q.1, Lib.hid q.2⟩
        · refine st_new (some 5) rfl rfl (by rfl) ?_
          apply Exists.intro; apply Exists.intro; apply And.intro
          · go_simp; first | exact ⟨rfl, rfl⟩ | rfl
          apply Exists.intro; apply And.intro
          · simp only [Act.put, List.setIfInBounds_toArray, List.set_cons_zero, List.set_cons_succ]; rfl
          intro u16 g16 hb hlt
          have hp16 := hB.size
          have hB := bl_next hB hb
          have G16 := Lib.hid g16; clear g16
          have oP := G16; clear G16; (try (have oO' := Lib.hid (oO.out.below hb); clear oO; have oO := oO'; clear oO')); (try (have oG' := Lib.hid (show GMap _ b9 G from mv_below oG.out hb); clear oG; have oG := oG'; clear oG')); (try (have oN' := Lib.hid (blk_below oN.out hb); clear oN; have oN := oN'; clear oN')); have z0 := box0 oP.out; have z1 := blk_free oP.out 0
          clear hb
          refine ⟨hB, ?_⟩
          refine tl_one ?_
          refine st_new (some 22) rfl rfl (by rfl) ?_
          apply Exists.intro; apply Exists.intro; apply And.intro
          · go_simp; first | exact ⟨rfl, rfl⟩ | rfl
          apply Exists.intro; apply And.intro
          · simp only [Act.put, List.setIfInBounds_toArray, List.set_cons_zero, List.set_cons_succ]; rfl
          intro u15 g15 hb hlt
          have hp15 := hB.size
          have hB := bl_next hB hb
          have G15 := Lib.hid g15; clear g15
          have oN := G15; clear G15; have oO' := Lib.hid (oO.out.below hb); clear oO; have oO := oO'; clear oO'; have oG' := Lib.hid (show GMap _ b9 G from mv_below oG.out hb); clear oG; have oG := oG'; clear oG'; (try (have oP' := Lib.hid (blk_below oP.out hb); clear oP; have oP := oP'; clear oP'; have z0 := box0 oP.out; have z1 := blk_free oP.out 0))
          clear hb
          refine ⟨hB, ?_⟩
          refine tl_one ?_
          refine st_last none rfl rfl (by rfl) ?_
          apply Exists.intro; apply And.intro
          · go_simp; first | exact ⟨rfl, rfl⟩ | rfl
          apply Exists.intro; apply And.intro
          · simp only [Act.put, List.setIfInBounds_toArray, List.set_cons_zero, List.set_cons_succ]; rfl
          refine tl_done ?_
          go_wp2_with fail
          go_meet
          have q := new_of (W := W) oP.out oN.out oO.out oG.out HNE (by omega) hB
          exact ⟨_, _, _, _, rfl, Lib.hid q.1, Lib.hid q.2⟩
      · refine st_new (some 5) rfl rfl (by rfl) ?_
        apply Exists.intro; apply Exists.intro; apply And.intro
        · go_simp; first | exact ⟨rfl, rfl⟩ | rfl
        apply Exists.intro; apply And.intro
        · simp only [Act.put, List.setIfInBounds_toArray, List.set_cons_zero, List.set_cons_succ]; rfl
        intro u16 g16 hb hlt
        have hp16 := hB.size
        have hB := bl_next hB hb
        have G16 := Lib.hid g16; clear g16
        have oP := G16; clear G16; (try (have oO' := Lib.hid (oO.out.below hb); clear oO; have oO := oO'; clear oO')); (try (have oG' := Lib.hid (show GMap _ b9 G from mv_below oG.out hb); clear oG; have oG := oG'; clear oG')); (try (have oN' := Lib.hid (blk_below oN.out hb); clear oN; have oN := oN'; clear oN')); have z0 := box0 oP.out; have z1 := blk_free oP.out 0
        clear hb
        refine ⟨hB, ?_⟩
        refine tl_one ?_
        refine st_res (some 16) rfl rfl (by rfl) (call_R Try.func91 (by kernel_rfl) rfl #[.map (some gb)] rfl (by simp only [List.map_toArray, List.map_cons, List.map_nil]; go_simp; try rfl) (cloneG_R _ (mv_below HCW.out.graves hB))) ?_
        rintro v9 u9 ⟨b9, rfl, hge9, hgm, hb⟩; have hp9 := hB.size; have HNE := Nat.ne_of_lt (Nat.lt_of_lt_of_le oO.out.lt hge9); have oG := Lib.hid hgm; have hB := bl_next hB hb; have oO' := Lib.hid (oO.out.below hb); clear oO; have oO := oO'; clear oO'; (try (have oP' := Lib.hid (blk_below oP.out hb); clear oP; have oP := oP'; clear oP')); clear hgm hb
        refine ⟨hB, ?_⟩
        simp only [Act.put, List.setIfInBounds_toArray, List.set_cons_zero, List.set_cons_succ]
        refine tl_take (v := ?_) (a' := ?_) (some 21) rfl rfl (by rfl) ?_ ?_ ?_
        rotate_left; rotate_left
        · intro w' hS; go_simp; with_reducible rfl
        · simp only [Act.put, List.setIfInBounds_toArray, List.set_cons_zero, List.set_cons_succ]; rfl
        refine tl_one ?_
        refine st_new (some 22) rfl rfl (by rfl) ?_
        apply Exists.intro; apply Exists.intro; apply And.intro
        · go_simp; first | exact ⟨rfl, rfl⟩ | rfl
        apply Exists.intro; apply And.intro
        · simp only [Act.put, List.setIfInBounds_toArray, List.set_cons_zero, List.set_cons_succ]; rfl
        intro u15 g15 hb hlt
        have hp15 := hB.size
        have hB := bl_next hB hb
        have G15 := Lib.hid g15; clear g15
        have oN := G15; clear G15; have oO' := Lib.hid (oO.out.below hb); clear oO; have oO := oO'; clear oO'; have oG' := Lib.hid (show GMap _ b9 G from mv_below oG.out hb); clear oG; have oG := oG'; clear oG'; (try (have oP' := Lib.hid (blk_below oP.out hb); clear oP; have oP := oP'; clear oP'; have z0 := box0 oP.out; have z1 := blk_free oP.out 0))
        clear hb
        refine ⟨hB, ?_⟩
        refine tl_one ?_
        refine st_last none rfl rfl (by rfl) ?_
        apply Exists.intro; apply And.intro
        · go_simp; first | exact ⟨rfl, rfl⟩ | rfl
        apply Exists.intro; apply And.intro
        · simp only [Act.put, List.setIfInBounds_toArray, List.set_cons_zero, List.set_cons_succ]; rfl
        refine tl_done ?_
        go_wp2_with fail
        go_meet
        have q := new_of (W := W) oP.out oN.out oO.out oG.out HNE (by omega) hB
        exact ⟨_, _, _, _, rfl, Lib.hid q.1, Lib.hid q.2⟩
    · refine st_new (some 5) rfl rfl (by rfl) ?_
      apply Exists.intro; apply Exists.intro; apply And.intro
      · go_simp; first | exact ⟨rfl, rfl⟩ | rfl
      apply Exists.intro; apply And.intro
      · simp only [Act.put, List.setIfInBounds_toArray, List.set_cons_zero, List.set_cons_succ]; rfl
      intro u16 g16 hb hlt
      have hp16 := hB.size
      have hB := bl_next hB hb
      have G16 := Lib.hid g16; clear g16
      have oP := G16; clear G16; (try (have oO' := Lib.hid (oO.out.below hb); clear oO; have oO := oO'; clear oO')); (try (have oG' := Lib.hid (show GMap _ b9 G from mv_below oG.out hb); clear oG; have oG := oG'; clear oG')); (try (have oN' := Lib.hid (blk_below oN.out hb); clear oN; have oN := oN'; clear oN')); have z0 := box0 oP.out; have z1 := blk_free oP.out 0
      clear hb
      refine ⟨hB, ?_⟩
      refine tl_one ?_
      refine st_res (some 11) rfl rfl (by rfl) (call_R Try.func90 (by kernel_rfl) rfl #[.map (some ob)] rfl (by simp only [List.map_toArray, List.map_cons, List.map_nil]; go_simp; try rfl) (cloneO_R _ (HCW.out.objs.below hB))) ?_
      rintro v4 u4 ⟨b4, rfl, hge4, hom, hb⟩; have hp4 := hB.size; have oO := Lib.hid hom; have hB := bl_next hB hb; (try (have oP' := Lib.hid (blk_below oP.out hb); clear oP; have oP := oP'; clear oP')); clear hom hb
      refine ⟨hB, ?_⟩
      simp only [Act.put, List.setIfInBounds_toArray, List.set_cons_zero, List.set_cons_succ]
      refine tl_one ?_
      refine st_res (some 16) rfl rfl (by rfl) (call_R Try.func91 (by kernel_rfl) rfl #[.map (some gb)] rfl (by simp only [List.map_toArray, List.map_cons, List.map_nil]; go_simp; try rfl) (cloneG_R _ (mv_below HCW.out.graves hB))) ?_
      rintro v9 u9 ⟨b9, rfl, hge9, hgm, hb⟩; have hp9 := hB.size; have HNE := Nat.ne_of_lt (Nat.lt_of_lt_of_le oO.out.lt hge9); have oG := Lib.hid hgm; have hB := bl_next hB hb; have oO' := Lib.hid (oO.out.below hb); clear oO; have oO := oO'; clear oO'; (try (have oP' := Lib.hid (blk_below oP.out hb); clear oP; have oP := oP'; clear oP')); clear hgm hb
      refine ⟨hB, ?_⟩
      simp only [Act.put, List.setIfInBounds_toArray, List.set_cons_zero, List.set_cons_succ]
      refine tl_take (v := ?_) (a' := ?_) (some 21) rfl rfl (by rfl) ?_ ?_ ?_
      rotate_left; rotate_left
      · intro w' hS; go_simp; with_reducible rfl
      · simp only [Act.put, List.setIfInBounds_toArray, List.set_cons_zero, List.set_cons_succ]; rfl
      refine tl_one ?_
      refine st_new (some 22) rfl rfl (by rfl) ?_
      apply Exists.intro; apply Exists.intro; apply And.intro
      · go_simp; first | exact ⟨rfl, rfl⟩ | rfl
      apply Exists.intro; apply And.intro
      · simp only [Act.put, List.setIfInBounds_toArray, List.set_cons_zero, List.set_cons_succ]; rfl
      intro u15 g15 hb hlt
      have hp15 := hB.size
      have hB := bl_next hB hb
      have G15 := Lib.hid g15; clear g15
      have oN := G15; clear G15; have oO' := Lib.hid (oO.out.below hb); clear oO; have oO := oO'; clear oO'; have oG' := Lib.hid (show GMap _ b9 G from mv_below oG.out hb); clear oG; have oG := oG'; clear oG'; (try (have oP' := Lib.hid (blk_below oP.out hb); clear oP; have oP := oP'; clear oP'; have z0 := box0 oP.out; have z1 := blk_free oP.out 0))
      clear hb
      refine ⟨hB, ?_⟩
      refine tl_one ?_
      refine st_last none rfl rfl (by rfl) ?_
      apply Exists.intro; apply And.intro
      · go_simp; first | exact ⟨rfl, rfl⟩ | rfl
      apply Exists.intro; apply And.intro
      · simp only [Act.put, List.setIfInBounds_toArray, List.set_cons_zero, List.set_cons_succ]; rfl
      refine tl_done ?_
      go_wp2_with fail
      go_meet
      have q := new_of (W := W) oP.out oN.out oO.out oG.out HNE (by omega) hB
      exact ⟨_, _, _, _, rfl, Lib.hid q.1, Lib.hid q.2⟩
  case rest =>
    obtain ⟨pb, np, o1, g1, rfl, HN, HBc⟩ := hcut
    obtain ⟨V, rfl⟩ : ∃ V : World, V = wc := ⟨_, rfl⟩
    have hgV := blk_below HE.out HBc.out
    have HBwV := Lib.hid (bl_from HBW.out HBc.out)
    have e0 : V.cell? ⟨w.heap.size, 0, none⟩ = some (.int .i64 kd) := blk_cell hgV 0
    have e1 : V.cell? ⟨w.heap.size, 1, none⟩ = some (.string o.key.kind) := blk_cell hgV 1
    have e2 : V.cell? ⟨w.heap.size, 2, none⟩ = some (.string o.key.space) := blk_cell hgV 2
    have e3 : V.cell? ⟨w.heap.size, 3, none⟩ = some (.string o.key.name) := blk_cell hgV 3
    have e4 : V.cell? ⟨w.heap.size, 4, none⟩ = some (.int .i64 o.ver) := blk_cell hgV 4
    have e5 : V.cell? ⟨w.heap.size, 5, none⟩ = some (.string o.cls) := blk_cell hgV 5
    have e6 : V.cell? ⟨w.heap.size, 6, none⟩ = some (.bool o.term) := blk_cell hgV 6
    have e7 : V.cell? ⟨w.heap.size, 7, none⟩ = some (.bool o.best) := blk_cell hgV 7
    have e8 : V.cell? ⟨w.heap.size, 8, none⟩ = some (.slice ao o.charge.length co) := blk_cell hgV 8
    have e9 : V.cell? ⟨w.heap.size, 9, none⟩ = some (.int .i64 ev) := blk_cell hgV 9
    have e10 : V.cell? ⟨w.heap.size, 10, none⟩ = some (.slice al xs.length cl) := blk_cell hgV 10
    clear c0 c1 c2
    go_upto_region 3 with fail
    first | with_reducible refine name_wp ?_ | with_reducible refine name_calls ?_
    intro U hU
    have gO : U.heap[V.heap.size]? = some (.cells #[.string o.key.kind, .string o.key.space, .string o.key.name, .int .i64 o.ver, .string o.cls, .bool o.term, .bool o.best, .slice ao o.charge.length co] 27) := by rw [hU]; exact blk_new V _
    have hbU : Below V.heap.size V U := by rw [hU]; exact (Below.refl _ _).alloc (Nat.le_refl _) _
    clear hU e0 e1 e2 e3 e4 e5 e6 e7 e8 e9 e10
    have hgU := blk_below hgV hbU
    have d0 : U.cell? ⟨V.heap.size, 0, none⟩ = some (.string o.key.kind) := blk_cell gO 0
    have d1 : U.cell? ⟨V.heap.size, 1, none⟩ = some (.string o.key.space) := blk_cell gO 1
    have d2 : U.cell? ⟨V.heap.size, 2, none⟩ = some (.string o.key.name) := blk_cell gO 2
    have d3 : U.cell? ⟨V.heap.size, 3, none⟩ = some (.int .i64 o.ver) := blk_cell gO 3
    have d4 : U.cell? ⟨V.heap.size, 4, none⟩ = some (.string o.cls) := blk_cell gO 4
    have d5 : U.cell? ⟨V.heap.size, 5, none⟩ = some (.bool o.term) := blk_cell gO 5
    have d6 : U.cell? ⟨V.heap.size, 6, none⟩ = some (.bool o.best) := blk_cell gO 6
    have d7 : U.cell? ⟨V.heap.size, 7, none⟩ = some (.slice ao o.charge.length co) := blk_cell gO 7
    have e0 : U.cell? ⟨w.heap.size, 0, none⟩ = some (.int .i64 kd) := blk_cell hgU 0
    have e1 : U.cell? ⟨w.heap.size, 1, none⟩ = some (.string o.key.kind) := blk_cell hgU 1
    have e2 : U.cell? ⟨w.heap.size, 2, none⟩ = some (.string o.key.space) := blk_cell hgU 2
    have e3 : U.cell? ⟨w.heap.size, 3, none⟩ = some (.string o.key.name) := blk_cell hgU 3
    have e4 : U.cell? ⟨w.heap.size, 4, none⟩ = some (.int .i64 o.ver) := blk_cell hgU 4
    have e5 : U.cell? ⟨w.heap.size, 5, none⟩ = some (.string o.cls) := blk_cell hgU 5
    have e6 : U.cell? ⟨w.heap.size, 6, none⟩ = some (.bool o.term) := blk_cell hgU 6
    have e7 : U.cell? ⟨w.heap.size, 7, none⟩ = some (.bool o.best) := blk_cell hgU 7
    have e8 : U.cell? ⟨w.heap.size, 8, none⟩ = some (.slice ao o.charge.length co) := blk_cell hgU 8
    have e9 : U.cell? ⟨w.heap.size, 9, none⟩ = some (.int .i64 ev) := blk_cell hgU 9
    have e10 : U.cell? ⟨w.heap.size, 10, none⟩ = some (.slice al xs.length cl) := blk_cell hgU 10
    have HNU := Lib.hid (HN.out.below hbU)
    have HBU := Lib.hid (bl_next HBwV.out hbU)
    have p0 : U.cell? ⟨pb, 0, none⟩ = some (.pointer (some ⟨np, 0, none⟩)) := box0 HNU.out.ptr
    have pf := blk_free HNU.out.ptr 0
    have n0 : U.cell? ⟨np, 0, none⟩ = some (.map (some o1)) := blk_cell HNU.out.box 0
    have n1 : U.cell? ⟨np, 1, none⟩ = some (.map (some g1)) := blk_cell HNU.out.box 1
    have n2 : U.cell? ⟨np, 2, none⟩ = some (.int .i64 fl) := blk_cell HNU.out.box 2
    have nf0 := blk_free HNU.out.box 0
    have nf2 := blk_free HNU.out.box 2
    have HRS := Lib.hid (show ResM U base M from fun q hq => ⟨(HC.out.resM q hq).1.below HBU.out, (HC.out.resM q hq).2⟩)
    obtain ⟨K, hK⟩ : ∃ K : KS, K = kOf o := ⟨_, rfl⟩
    have hKK : K.1 = o.key := by rw [hK]; exact kOf_key HSO.out
    have HKO := Lib.hid hK
    have HKEY := Lib.hid (show keyOf Try.prog 24 (.agg #[.string o.key.kind, .string o.key.space, .string o.key.name]) = some (kL K) by rw [← hKK]; exact kL_key K)
    have hWs : w.heap.size ≤ W.heap.size := by omega
    have hM6 : M.length ≤ 1000000 := HL.out.2.1
    have hG6 : G.length ≤ 1000000 := HL.out.2.2.1
    have HGE := Lib.hid (show base ≤ U.heap.size from Nat.le_trans HL.out.2.2.2 HBU.out.size)
    have HINT := Lib.hid HC.out.ints
    clear hgV gO hbU HN HBc HBwV hK hgU
    have hB := Below.refl U.heap.size U
    by_cases h0 : kd = 0
    · subst h0
      have HOW := Lib.hid (fun (Z : World) (hb : Below U.heap.size U Z) => ownO_calls Z ((HO.out.below HBU.out).below hb) HSO.out)
      unfold objV at HOW
      go_upto_region 6 with fail
      have hB := hB.drew
      refine region_seqM (fun w' => Below U.heap.size U w') 8 [(0, 1), (1, 1), (2, 1), (3, 1), (4, 1), (5, 1), (6, 1), (7, 0), (8, 0)] (by kernel_rfl) (by kernel_rfl) (fun _ _ _ _ h => h) hB ?_
      try generalize World.drew _ = wS at hB ⊢
      refine sm_take (v := ?_) (a' := ?_) (some 34) rfl rfl (by rfl) ?_ ?_ ?_
      rotate_left; rotate_left
      · intro w' hS; have zd0 := cb hS d0; have zd1 := cb hS d1; have zd2 := cb hS d2; have zd3 := cb hS d3; have zd4 := cb hS d4; have zd5 := cb hS d5; have zd6 := cb hS d6; have zd7 := cb hS d7; have zp := cb hS p0; have zn0 := cb hS n0; have zn1 := cb hS n1; go_simp; with_reducible rfl
      · simp only [Act.put, List.setIfInBounds_toArray, List.set_cons_zero, List.set_cons_succ]; rfl
      refine sm_take (v := ?_) (a' := ?_) (some 35) rfl rfl (by rfl) ?_ ?_ ?_
      rotate_left; rotate_left
      · intro w' hS; go_simp; with_reducible rfl
      · simp only [Act.put, List.setIfInBounds_toArray, List.set_cons_zero, List.set_cons_succ]; rfl
      refine sm_take (v := ?_) (a' := ?_) (some 36) rfl rfl (by rfl) ?_ ?_ ?_
      rotate_left; rotate_left
      · intro w' hS; go_simp; with_reducible rfl
      · simp only [Act.put, List.setIfInBounds_toArray, List.set_cons_zero, List.set_cons_succ]; rfl
      refine sm_take (v := ?_) (a' := ?_) (some 37) rfl rfl (by rfl) ?_ ?_ ?_
      rotate_left; rotate_left
      · intro w' hS; have zd0 := cb hS d0; have zd1 := cb hS d1; have zd2 := cb hS d2; have zd3 := cb hS d3; have zd4 := cb hS d4; have zd5 := cb hS d5; have zd6 := cb hS d6; have zd7 := cb hS d7; have zp := cb hS p0; have zn0 := cb hS n0; have zn1 := cb hS n1; go_simp; with_reducible rfl
      · simp only [Act.put, List.setIfInBounds_toArray, List.set_cons_zero, List.set_cons_succ]; rfl
      refine sm_take (v := ?_) (a' := ?_) (some 38) rfl rfl (by rfl) ?_ ?_ ?_
      rotate_left; rotate_left
      · intro w' hS; go_simp; with_reducible rfl
      · simp only [Act.put, List.setIfInBounds_toArray, List.set_cons_zero, List.set_cons_succ]; rfl
      refine sm_take (v := ?_) (a' := ?_) (some 39) rfl rfl (by rfl) ?_ ?_ ?_
      rotate_left; rotate_left
      · intro w' hS; have zd0 := cb hS d0; have zd1 := cb hS d1; have zd2 := cb hS d2; have zd3 := cb hS d3; have zd4 := cb hS d4; have zd5 := cb hS d5; have zd6 := cb hS d6; have zd7 := cb hS d7; have zp := cb hS p0; have zn0 := cb hS n0; have zn1 := cb hS n1; go_simp; with_reducible rfl
      · simp only [Act.put, List.setIfInBounds_toArray, List.set_cons_zero, List.set_cons_succ]; rfl
      refine sm_take (v := ?_) (a' := ?_) (some 40) rfl rfl (by rfl) ?_ ?_ ?_
      rotate_left; rotate_left
      · intro w' hS; have zd0 := cb hS d0; have zd1 := cb hS d1; have zd2 := cb hS d2; have zd3 := cb hS d3; have zd4 := cb hS d4; have zd5 := cb hS d5; have zd6 := cb hS d6; have zd7 := cb hS d7; have zp := cb hS p0; have zn0 := cb hS n0; have zn1 := cb hS n1; go_simp; with_reducible rfl
      · simp only [Act.put, List.setIfInBounds_toArray, List.set_cons_zero, List.set_cons_succ]; rfl
      refine sm_call (args := ?_) Try.func56 (by kernel_rfl) rfl (some 41) rfl rfl (by rfl) rfl rfl ?_ ?_
      rotate_left
      · simp only [List.map_toArray, List.map_cons, List.map_nil]; go_simp; rfl
      with_reducible refine ((HOW.out _ hB)).mono ?_
      rintro e w' ⟨g2, rfl, HF, hb⟩
      have HF1 := Lib.hid (HF.out.mono (b' := base) (by have := HGE.out; have := hB.size; omega))
      refine ⟨_, rfl, .inr (bl_next (by repeat (first | with_reducible exact hB | refine Below.alloc ?_ (by have := hB.size; simp; omega) _ | refine bl_dN ?_ _ | refine Below.drew ?_ | refine Below.setCell ?_ (by have := hB.size; simp; omega) _)) hb), ?_⟩
      have hB := bl_next (by repeat (first | with_reducible exact hB | refine Below.alloc ?_ (by have := hB.size; simp; omega) _ | refine bl_dN ?_ _ | refine Below.drew ?_ | refine Below.setCell ?_ (by have := hB.size; simp; omega) _)) hb; clear hb
      simp only [Act.put, List.setIfInBounds_toArray, List.set_cons_zero, List.set_cons_succ]
      refine sm_law rfl (by rfl) ?_
      refine wp_mapUpd _ (.tmp 37) (.tmp 39) (.tmp 41) 92 rfl 24 27 kS_keyed Try.underlying92 o1 M.length (dmA kL (fun p => Value.agg (objX p).toArray) M) rfl (HNU.out.om.below hB) (by unfold maxLen; omega) (.agg #[.string o.key.kind, .string o.key.space, .string o.key.name]) (.agg #[.string o.key.kind, .string o.key.space, .string o.key.name, .int .i64 o.ver, .string o.cls, .bool o.term, .bool o.best, .slice (some ⟨g2, 0, none⟩) o.charge.length o.charge.length]) (kL K) rfl rfl HKEY.out ?_
      intro w4 hown4 hgrow4
      refine ⟨.inl rfl, ?_⟩
      simp only [Act.put, List.setIfInBounds_toArray, List.set_cons_zero, List.set_cons_succ]
      refine sm_done ?_
      have HK4 := Lib.hid (show Kept (fun k => k = o1) w' w4 from (Kept.refl _ _).grown hgrow4 (fun j e => by cases e; exact .inl rfl))
      have HNB := HNU.out.below hB
      have HN4 := Lib.hid (HNB.om1 HK4.out (omap_put (p := (o, .slice (some ⟨g2, 0, none⟩) o.charge.length o.charge.length)) hown4))
      have HR4 := Lib.hid (((HRS.out.below hB).put (k := K) (p := (o, .slice (some ⟨g2, 0, none⟩) o.charge.length o.charge.length)) ⟨HF1.out, HO.out.oIn, HSO.out.1, hKK⟩).kept HK4.out (map_apart HNB.om))
      have HB4 := Lib.hid (show Below w.heap.size w w4 from (HBU.out.trans (hB.mono HBU.out.size)).trans (HK4.out.below (Nat.le_trans HBU.out.size hB.size) (fun k e => by subst e; have := HNB.ge; omega)))
      have d0 := HK4.out.cell (cb hB d0) (mv_ne (HNB.om) (cb hB d0))
      have d1 := HK4.out.cell (cb hB d1) (mv_ne (HNB.om) (cb hB d1))
      have d2 := HK4.out.cell (cb hB d2) (mv_ne (HNB.om) (cb hB d2))
      have d3 := HK4.out.cell (cb hB d3) (mv_ne (HNB.om) (cb hB d3))
      have d4 := HK4.out.cell (cb hB d4) (mv_ne (HNB.om) (cb hB d4))
      have d5 := HK4.out.cell (cb hB d5) (mv_ne (HNB.om) (cb hB d5))
      have d6 := HK4.out.cell (cb hB d6) (mv_ne (HNB.om) (cb hB d6))
      have d7 := HK4.out.cell (cb hB d7) (mv_ne (HNB.om) (cb hB d7))
      have hB := Below.refl w4.heap.size w4
      have p0 := box0 HN4.out.ptr
      have n1 : w4.cell? ⟨np, 1, none⟩ = some (.map (some g1)) := blk_cell HN4.out.box 1
      clear hown4 hgrow4 HNB
      go_upto_region 7 with fail
      have hB := hB.drew
      refine region_seqM (fun w' => Below w4.heap.size w4 w') 6 [(0, 1), (1, 1), (2, 1), (3, 1), (4, 1), (5, 1), (6, 0)] (by kernel_rfl) (by kernel_rfl) (fun _ _ _ _ h => h) hB ?_
      try generalize World.drew _ = wS at hB ⊢
      refine sm_take (v := ?_) (a' := ?_) (some 42) rfl rfl (by rfl) ?_ ?_ ?_
      rotate_left; rotate_left
      · intro w' hS; have zd0 := cb hS d0; have zd1 := cb hS d1; have zd2 := cb hS d2; have zd3 := cb hS d3; have zd4 := cb hS d4; have zd5 := cb hS d5; have zd6 := cb hS d6; have zd7 := cb hS d7; have zp := cb hS p0; have zn1 := cb hS n1; go_simp; with_reducible rfl
      · simp only [Act.put, List.setIfInBounds_toArray, List.set_cons_zero, List.set_cons_succ]; rfl
      refine sm_take (v := ?_) (a' := ?_) (some 43) rfl rfl (by rfl) ?_ ?_ ?_
      rotate_left; rotate_left
      · intro w' hS; go_simp; with_reducible rfl
      · simp only [Act.put, List.setIfInBounds_toArray, List.set_cons_zero, List.set_cons_succ]; rfl
      refine sm_take (v := ?_) (a' := ?_) (some 44) rfl rfl (by rfl) ?_ ?_ ?_
      rotate_left; rotate_left
      · intro w' hS; go_simp; with_reducible rfl
      · simp only [Act.put, List.setIfInBounds_toArray, List.set_cons_zero, List.set_cons_succ]; rfl
      refine sm_take (v := ?_) (a' := ?_) (some 45) rfl rfl (by rfl) ?_ ?_ ?_
      rotate_left; rotate_left
      · intro w' hS; have zd0 := cb hS d0; have zd1 := cb hS d1; have zd2 := cb hS d2; have zd3 := cb hS d3; have zd4 := cb hS d4; have zd5 := cb hS d5; have zd6 := cb hS d6; have zd7 := cb hS d7; have zp := cb hS p0; have zn1 := cb hS n1; go_simp; with_reducible rfl
      · simp only [Act.put, List.setIfInBounds_toArray, List.set_cons_zero, List.set_cons_succ]; rfl
      refine sm_take (v := ?_) (a' := ?_) (some 46) rfl rfl (by rfl) ?_ ?_ ?_
      rotate_left; rotate_left
      · intro w' hS; go_simp; with_reducible rfl
      · simp only [Act.put, List.setIfInBounds_toArray, List.set_cons_zero, List.set_cons_succ]; rfl
      refine sm_take (v := ?_) (a' := ?_) (some 47) rfl rfl (by rfl) ?_ ?_ ?_
      rotate_left; rotate_left
      · intro w' hS; have zd0 := cb hS d0; have zd1 := cb hS d1; have zd2 := cb hS d2; have zd3 := cb hS d3; have zd4 := cb hS d4; have zd5 := cb hS d5; have zd6 := cb hS d6; have zd7 := cb hS d7; have zp := cb hS p0; have zn1 := cb hS n1; go_simp; with_reducible rfl
      · simp only [Act.put, List.setIfInBounds_toArray, List.set_cons_zero, List.set_cons_succ]; rfl
      refine sm_law rfl (by rfl) ?_
      with_reducible refine wp_mapDel _ (.tmp 45) (.tmp 47) 96 24 ?xa 2 kS_keyed ?xb g1 G.length (dmA kL gV G) ?xc ?xd (.agg #[.string o.key.kind, .string o.key.space, .string o.key.name]) (kL K) ?xe ?xf ?_
      (case xa => rfl); (case xb => exact Try.underlying96); (case xc => first | (go_simp; done) | (go_simp; rfl)); (case xd => exact HN4.out.gm.below hB); (case xe => first | (go_simp; done) | (go_simp; rfl)); (case xf => exact HKEY.out); intro w5 hown5 hturn5
      refine ⟨.inl rfl, ?_⟩
      simp only [Act.put, List.setIfInBounds_toArray, List.set_cons_zero, List.set_cons_succ]
      refine sm_done ?_
      have HK5 := Lib.hid (kept_turned hturn5)
      have HNB := HN4.out.below hB
      have HNA := Lib.hid (HNB.gm1 HK5.out (gmap_del hown5))
      have HR5 := Lib.hid ((HR4.out.below hB).kept HK5.out (map_apart HNB.gm))
      have HB5 := Lib.hid (show Below w.heap.size w w5 from (HB4.out.trans (hB.mono HB4.out.size)).trans (HK5.out.below (Nat.le_trans HB4.out.size hB.size) (fun k e => by subst e; have := HNB.ge; omega)))
      have HFIN := Lib.hid (fun (w9 : World) hd hk => next_done (w := w) (w9 := w9) (E := ⟨0, o, ev, oxs xs⟩) (fl := fl) (M := M) (G := G) HNA.out HR5.out (rise_put strictKS HR.out.1 K _) (rise_del strictKS HR.out.2 K) (by rw [mo_put, HKO.out]; rfl) (by unfold nextG nextF; rw [if_pos rfl, if_pos (.inl rfl), ← HKO.out]) rfl (Nat.le_trans (put_le _ _ _ _) (by first | (simp; done) | (simp; omega))) (Nat.le_trans (del_le _ _) (Nat.le_succ _)) ⟨HINT.out.1, fun q hq => HINT.out.2 q (mem_del.1 hq).1⟩ HL.out.2.2.2 hWs HB5.out hd hk)
      clear hown5 hturn5 HNB hB n1 p0
      have t0 := box0 HNA.out.ptr
      have b1 : w5.cell? ⟨np, 1, none⟩ = some (.map (some g1)) := blk_cell HNA.out.box 1
      have HDG := Lib.hid (delG_calls w5 HNA.out.gm (keys_nodup strictKS (rise_del strictKS HR.out.2 K)) (pb := pb) (np := np) (fl := fl) t0 (blk_cell HNA.out.box 2))
      go_wp2_with (go_at_call 93; refine HDG.out.mono ?_; rintro e w9 ⟨rfl, hd, hk⟩; have HD := Lib.hid (And.intro hd hk); have t0 := hk.cell t0 (mv_ne HNA.out.gm t0); clear hd hk)
      go_ret
      exact HFIN.out _ HD.out.1 HD.out.2
    · have k0 : (kd == 0) = false := by simpa using h0
      by_cases h1 : kd = 1
      · subst h1
        go_upto_region 9 with fail
        have hB := hB.drew
        refine region_seqM (fun w' => Below U.heap.size U w') 6 [(0, 1), (1, 1), (2, 1), (3, 1), (4, 1), (5, 1), (6, 0)] (by kernel_rfl) (by kernel_rfl) (fun _ _ _ _ h => h) hB ?_
        try generalize World.drew _ = wS at hB ⊢
        refine sm_take (v := ?_) (a' := ?_) (some 50) rfl rfl (by rfl) ?_ ?_ ?_
        rotate_left; rotate_left
        · intro w' hS; have zd0 := cb hS d0; have zd1 := cb hS d1; have zd2 := cb hS d2; have zd3 := cb hS d3; have zd4 := cb hS d4; have zd5 := cb hS d5; have zd6 := cb hS d6; have zd7 := cb hS d7; have zp := cb hS p0; have zn0 := cb hS n0; have zn1 := cb hS n1; go_simp; with_reducible rfl
        · simp only [Act.put, List.setIfInBounds_toArray, List.set_cons_zero, List.set_cons_succ]; rfl
        refine sm_take (v := ?_) (a' := ?_) (some 51) rfl rfl (by rfl) ?_ ?_ ?_
        rotate_left; rotate_left
        · intro w' hS; go_simp; with_reducible rfl
        · simp only [Act.put, List.setIfInBounds_toArray, List.set_cons_zero, List.set_cons_succ]; rfl
        refine sm_take (v := ?_) (a' := ?_) (some 52) rfl rfl (by rfl) ?_ ?_ ?_
        rotate_left; rotate_left
        · intro w' hS; go_simp; with_reducible rfl
        · simp only [Act.put, List.setIfInBounds_toArray, List.set_cons_zero, List.set_cons_succ]; rfl
        refine sm_take (v := ?_) (a' := ?_) (some 53) rfl rfl (by rfl) ?_ ?_ ?_
        rotate_left; rotate_left
        · intro w' hS; have zd0 := cb hS d0; have zd1 := cb hS d1; have zd2 := cb hS d2; have zd3 := cb hS d3; have zd4 := cb hS d4; have zd5 := cb hS d5; have zd6 := cb hS d6; have zd7 := cb hS d7; have zp := cb hS p0; have zn0 := cb hS n0; have zn1 := cb hS n1; go_simp; with_reducible rfl
        · simp only [Act.put, List.setIfInBounds_toArray, List.set_cons_zero, List.set_cons_succ]; rfl
        refine sm_take (v := ?_) (a' := ?_) (some 54) rfl rfl (by rfl) ?_ ?_ ?_
        rotate_left; rotate_left
        · intro w' hS; go_simp; with_reducible rfl
        · simp only [Act.put, List.setIfInBounds_toArray, List.set_cons_zero, List.set_cons_succ]; rfl
        refine sm_take (v := ?_) (a' := ?_) (some 55) rfl rfl (by rfl) ?_ ?_ ?_
        rotate_left; rotate_left
        · intro w' hS; have zd0 := cb hS d0; have zd1 := cb hS d1; have zd2 := cb hS d2; have zd3 := cb hS d3; have zd4 := cb hS d4; have zd5 := cb hS d5; have zd6 := cb hS d6; have zd7 := cb hS d7; have zp := cb hS p0; have zn0 := cb hS n0; have zn1 := cb hS n1; go_simp; with_reducible rfl
        · simp only [Act.put, List.setIfInBounds_toArray, List.set_cons_zero, List.set_cons_succ]; rfl
        refine sm_law rfl (by rfl) ?_
        with_reducible refine wp_mapDel _ (.tmp 53) (.tmp 55) 92 24 ?xa 27 kS_keyed ?xb o1 M.length (dmA kL (fun p => Value.agg (objX p).toArray) M) ?xc ?xd (.agg #[.string o.key.kind, .string o.key.space, .string o.key.name]) (kL K) ?xe ?xf ?_
        (case xa => rfl); (case xb => exact Try.underlying92); (case xc => first | (go_simp; done) | (go_simp; rfl)); (case xd => exact HNU.out.om.below hB); (case xe => first | (go_simp; done) | (go_simp; rfl)); (case xf => exact HKEY.out); intro w4 hown4 hturn4
        refine ⟨.inl rfl, ?_⟩
        simp only [Act.put, List.setIfInBounds_toArray, List.set_cons_zero, List.set_cons_succ]
        refine sm_done ?_
        have HK4 := Lib.hid (kept_turned hturn4)
        have HNB := HNU.out.below hB
        have HN4 := Lib.hid (HNB.om1 HK4.out (omap_del hown4))
        have HR4 := Lib.hid (((HRS.out.below hB).kept HK4.out (map_apart HNB.om)).del (k := K))
        have HB4 := Lib.hid (show Below w.heap.size w w4 from (HBU.out.trans (hB.mono HBU.out.size)).trans (HK4.out.below (Nat.le_trans HBU.out.size hB.size) (fun k e => by subst e; have := HNB.ge; omega)))
        have d0 := HK4.out.cell (cb hB d0) (mv_ne (HNB.om) (cb hB d0))
        have d1 := HK4.out.cell (cb hB d1) (mv_ne (HNB.om) (cb hB d1))
        have d2 := HK4.out.cell (cb hB d2) (mv_ne (HNB.om) (cb hB d2))
        have d3 := HK4.out.cell (cb hB d3) (mv_ne (HNB.om) (cb hB d3))
        have d4 := HK4.out.cell (cb hB d4) (mv_ne (HNB.om) (cb hB d4))
        have d5 := HK4.out.cell (cb hB d5) (mv_ne (HNB.om) (cb hB d5))
        have d6 := HK4.out.cell (cb hB d6) (mv_ne (HNB.om) (cb hB d6))
        have d7 := HK4.out.cell (cb hB d7) (mv_ne (HNB.om) (cb hB d7))
        have hB := Below.refl w4.heap.size w4
        have p0 := box0 HN4.out.ptr
        have n1 : w4.cell? ⟨np, 1, none⟩ = some (.map (some g1)) := blk_cell HN4.out.box 1
        clear hown4 hturn4 HNB
        go_upto_region 10 with fail
        have hB := hB.drew
        refine region_seqM (fun w' => Below w4.heap.size w4 w') 8 [(0, 1), (1, 1), (2, 1), (3, 1), (4, 1), (5, 1), (6, 1), (7, 1), (8, 0)] (by kernel_rfl) (by kernel_rfl) (fun _ _ _ _ h => h) hB ?_
        try generalize World.drew _ = wS at hB ⊢
        refine sm_take (v := ?_) (a' := ?_) (some 56) rfl rfl (by rfl) ?_ ?_ ?_
        rotate_left; rotate_left
        · intro w' hS; have zd0 := cb hS d0; have zd1 := cb hS d1; have zd2 := cb hS d2; have zd3 := cb hS d3; have zd4 := cb hS d4; have zd5 := cb hS d5; have zd6 := cb hS d6; have zd7 := cb hS d7; have zp := cb hS p0; have zn1 := cb hS n1; go_simp; with_reducible rfl
        · simp only [Act.put, List.setIfInBounds_toArray, List.set_cons_zero, List.set_cons_succ]; rfl
        refine sm_take (v := ?_) (a' := ?_) (some 57) rfl rfl (by rfl) ?_ ?_ ?_
        rotate_left; rotate_left
        · intro w' hS; go_simp; with_reducible rfl
        · simp only [Act.put, List.setIfInBounds_toArray, List.set_cons_zero, List.set_cons_succ]; rfl
        refine sm_take (v := ?_) (a' := ?_) (some 58) rfl rfl (by rfl) ?_ ?_ ?_
        rotate_left; rotate_left
        · intro w' hS; go_simp; with_reducible rfl
        · simp only [Act.put, List.setIfInBounds_toArray, List.set_cons_zero, List.set_cons_succ]; rfl
        refine sm_take (v := ?_) (a' := ?_) (some 59) rfl rfl (by rfl) ?_ ?_ ?_
        rotate_left; rotate_left
        · intro w' hS; have zd0 := cb hS d0; have zd1 := cb hS d1; have zd2 := cb hS d2; have zd3 := cb hS d3; have zd4 := cb hS d4; have zd5 := cb hS d5; have zd6 := cb hS d6; have zd7 := cb hS d7; have zp := cb hS p0; have zn1 := cb hS n1; go_simp; with_reducible rfl
        · simp only [Act.put, List.setIfInBounds_toArray, List.set_cons_zero, List.set_cons_succ]; rfl
        refine sm_take (v := ?_) (a' := ?_) (some 60) rfl rfl (by rfl) ?_ ?_ ?_
        rotate_left; rotate_left
        · intro w' hS; go_simp; with_reducible rfl
        · simp only [Act.put, List.setIfInBounds_toArray, List.set_cons_zero, List.set_cons_succ]; rfl
        refine sm_take (v := ?_) (a' := ?_) (some 61) rfl rfl (by rfl) ?_ ?_ ?_
        rotate_left; rotate_left
        · intro w' hS; have zd0 := cb hS d0; have zd1 := cb hS d1; have zd2 := cb hS d2; have zd3 := cb hS d3; have zd4 := cb hS d4; have zd5 := cb hS d5; have zd6 := cb hS d6; have zd7 := cb hS d7; have zp := cb hS p0; have zn1 := cb hS n1; go_simp; with_reducible rfl
        · simp only [Act.put, List.setIfInBounds_toArray, List.set_cons_zero, List.set_cons_succ]; rfl
        refine sm_take (v := ?_) (a' := ?_) (some 62) rfl rfl (by rfl) ?_ ?_ ?_
        rotate_left; rotate_left
        · intro w' hS; go_simp; with_reducible rfl
        · simp only [Act.put, List.setIfInBounds_toArray, List.set_cons_zero, List.set_cons_succ]; rfl
        refine sm_take (v := ?_) (a' := ?_) (some 63) rfl rfl (by rfl) ?_ ?_ ?_
        rotate_left; rotate_left
        · intro w' hS; have zd0 := cb hS d0; have zd1 := cb hS d1; have zd2 := cb hS d2; have zd3 := cb hS d3; have zd4 := cb hS d4; have zd5 := cb hS d5; have zd6 := cb hS d6; have zd7 := cb hS d7; have zp := cb hS p0; have zn1 := cb hS n1; go_simp; with_reducible rfl
        · simp only [Act.put, List.setIfInBounds_toArray, List.set_cons_zero, List.set_cons_succ]; rfl
        refine sm_law rfl (by rfl) ?_
        with_reducible refine wp_mapUpd _ (.tmp 59) (.tmp 61) (.tmp 63) 96 ?xa 24 2 kS_keyed ?xb g1 G.length (dmA kL gV G) ?xc ?xd ?xn (.agg #[.string o.key.kind, .string o.key.space, .string o.key.name]) (.int .i64 o.ver) (kL K) ?xe ?xv ?xf ?_
        (case xa => rfl); (case xb => exact Try.underlying96); (case xc => first | (go_simp; done) | (go_simp; rfl)); (case xd => exact HN4.out.gm.below hB); (case xn => unfold maxLen; omega); (case xe => first | (go_simp; done) | (go_simp; rfl)); (case xv => first | (go_simp; done) | (go_simp; rfl)); (case xf => exact HKEY.out); intro w5 hown5 hgrow5
        refine ⟨.inl rfl, ?_⟩
        simp only [Act.put, List.setIfInBounds_toArray, List.set_cons_zero, List.set_cons_succ]
        refine sm_done ?_
        have HK5 := Lib.hid (show Kept (fun k => k = g1) wS w5 from (Kept.refl _ _).grown hgrow5 (fun j e => by cases e; exact .inl rfl))
        have HNB := HN4.out.below hB
        have HNA := Lib.hid (HNB.gm1 HK5.out (gmap_put hown5))
        have HR5 := Lib.hid ((HR4.out.below hB).kept HK5.out (map_apart HNB.gm))
        have HB5 := Lib.hid (show Below w.heap.size w w5 from (HB4.out.trans (hB.mono HB4.out.size)).trans (HK5.out.below (Nat.le_trans HB4.out.size hB.size) (fun k e => by subst e; have := HNB.ge; omega)))
        have HFIN := Lib.hid (fun (w9 : World) hd hk => next_done (w := w) (w9 := w9) (E := ⟨1, o, ev, oxs xs⟩) (fl := fl) (M := M) (G := G) HNA.out HR5.out (rise_del strictKS HR.out.1 K) (rise_put strictKS HR.out.2 K _) (by rw [mo_del, HKO.out]; rfl) (by unfold nextG nextF; rw [if_neg (show ¬ ((1 : Int) = 0) by decide), if_pos rfl, if_pos (.inr rfl), ← HKO.out]) rfl (Nat.le_trans (del_le _ _) (by first | (simp; done) | (simp; omega))) (put_le _ _ _ _) ⟨HINT.out.1, fun q hq => by
          rcases mem_put.1 hq with rfl | ⟨r, _⟩
          · exact HO.out.2
          · exact HINT.out.2 q r⟩ HL.out.2.2.2 hWs HB5.out hd hk)
        clear hown5 hgrow5 HNB hB n1 p0
        have t0 := box0 HNA.out.ptr
        have b1 : w5.cell? ⟨np, 1, none⟩ = some (.map (some g1)) := blk_cell HNA.out.box 1
        have HDG := Lib.hid (delG_calls w5 HNA.out.gm (keys_nodup strictKS (rise_put strictKS HR.out.2 K _)) (pb := pb) (np := np) (fl := fl) t0 (blk_cell HNA.out.box 2))
        go_wp2_with (go_at_call 93; refine HDG.out.mono ?_; rintro e w9 ⟨rfl, hd, hk⟩; have HD := Lib.hid (And.intro hd hk); have t0 := hk.cell t0 (mv_ne HNA.out.gm t0); clear hd hk)
        go_ret
        exact HFIN.out _ HD.out.1 HD.out.2
      · have k1 : (kd == 1) = false := by simpa using h1
        by_cases h2 : kd = 2
        · subst h2
          have HRC := Lib.hid (fun (Z : World) (hb : Below w.heap.size w Z) => crelist_calls Z (HC.out.below hb) HR.out.1 (Nat.le_trans HL.out.2.2.2 hb.size) 2 ev (HO.out.below hb) (HX.out.below hb) HSM.out HL.out.1 HL.out.2.1)
          unfold evV at HRC
          go_upto_region 12 with fail
          have HPN := Lib.hid (show ¬ (pb = np) from HNU.out.ptr_ne)
          have HNW := Lib.hid (show w.heap.size ≤ np by have := HNU.out.ge; omega)
          have HEN := Lib.hid (show ¬ (w.heap.size = np) by have := HNU.out.ge; omega)
          have hB : RelS U np g1 U := ⟨Kept.refl _ _, Nat.le_refl _, _, _, HNU.out.box⟩
          have hB := hB.drew
          refine region_seq (fun w' => RelS U np g1 w') [(0, true), (1, true), (2, true), (3, true), (5, true), (6, true), (4, false), (7, true), (8, true), (9, false), (10, true), (11, true), (12, false)] (by kernel_rfl) (by kernel_rfl) (fun _ _ _ _ h => h) hB ?_
          try generalize World.drew _ = wS at hB ⊢
          refine seq_take (v := ?_) (a' := ?_) (some 66) rfl rfl (by rfl) ?_ ?_ ?_
          rotate_left; rotate_left
          · intro w' hS; have zp := hS.kept.cell p0 HPN.out; have ze0 := hS.kept.cell e0 HEN.out; have ze1 := hS.kept.cell e1 HEN.out; have ze2 := hS.kept.cell e2 HEN.out; have ze3 := hS.kept.cell e3 HEN.out; have ze4 := hS.kept.cell e4 HEN.out; have ze5 := hS.kept.cell e5 HEN.out; have ze6 := hS.kept.cell e6 HEN.out; have ze7 := hS.kept.cell e7 HEN.out; have ze8 := hS.kept.cell e8 HEN.out; have ze9 := hS.kept.cell e9 HEN.out; have ze10 := hS.kept.cell e10 HEN.out; go_simp; with_reducible rfl
          · simp only [Act.put, List.setIfInBounds_toArray, List.set_cons_zero, List.set_cons_succ]; rfl
          refine seq_take (v := ?_) (a' := ?_) (some 67) rfl rfl (by rfl) ?_ ?_ ?_
          rotate_left; rotate_left
          · intro w' hS; have zp := hS.kept.cell p0 HPN.out; have ze0 := hS.kept.cell e0 HEN.out; have ze1 := hS.kept.cell e1 HEN.out; have ze2 := hS.kept.cell e2 HEN.out; have ze3 := hS.kept.cell e3 HEN.out; have ze4 := hS.kept.cell e4 HEN.out; have ze5 := hS.kept.cell e5 HEN.out; have ze6 := hS.kept.cell e6 HEN.out; have ze7 := hS.kept.cell e7 HEN.out; have ze8 := hS.kept.cell e8 HEN.out; have ze9 := hS.kept.cell e9 HEN.out; have ze10 := hS.kept.cell e10 HEN.out; go_simp; with_reducible rfl
          · simp only [Act.put, List.setIfInBounds_toArray, List.set_cons_zero, List.set_cons_succ]; rfl
          refine seq_take (v := ?_) (a' := ?_) (some 68) rfl rfl (by rfl) ?_ ?_ ?_
          rotate_left; rotate_left
          · intro w' hS; go_simp; with_reducible rfl
          · simp only [Act.put, List.setIfInBounds_toArray, List.set_cons_zero, List.set_cons_succ]; rfl
          refine seq_take (v := ?_) (a' := ?_) (some 69) rfl rfl (by rfl) ?_ ?_ ?_
          rotate_left; rotate_left
          · intro w' hS; have zp := hS.kept.cell p0 HPN.out; have ze0 := hS.kept.cell e0 HEN.out; have ze1 := hS.kept.cell e1 HEN.out; have ze2 := hS.kept.cell e2 HEN.out; have ze3 := hS.kept.cell e3 HEN.out; have ze4 := hS.kept.cell e4 HEN.out; have ze5 := hS.kept.cell e5 HEN.out; have ze6 := hS.kept.cell e6 HEN.out; have ze7 := hS.kept.cell e7 HEN.out; have ze8 := hS.kept.cell e8 HEN.out; have ze9 := hS.kept.cell e9 HEN.out; have ze10 := hS.kept.cell e10 HEN.out; go_simp; with_reducible rfl
          · simp only [Act.put, List.setIfInBounds_toArray, List.set_cons_zero, List.set_cons_succ]; rfl
          refine seq_take (v := ?_) (a' := ?_) (some 71) rfl rfl (by rfl) ?_ ?_ ?_
          rotate_left; rotate_left
          · intro w' hS; go_simp; with_reducible rfl
          · simp only [Act.put, List.setIfInBounds_toArray, List.set_cons_zero, List.set_cons_succ]; rfl
          refine seq_take (v := ?_) (a' := ?_) (some 72) rfl rfl (by rfl) ?_ ?_ ?_
          rotate_left; rotate_left
          · intro w' hS; have zp := hS.kept.cell p0 HPN.out; have ze0 := hS.kept.cell e0 HEN.out; have ze1 := hS.kept.cell e1 HEN.out; have ze2 := hS.kept.cell e2 HEN.out; have ze3 := hS.kept.cell e3 HEN.out; have ze4 := hS.kept.cell e4 HEN.out; have ze5 := hS.kept.cell e5 HEN.out; have ze6 := hS.kept.cell e6 HEN.out; have ze7 := hS.kept.cell e7 HEN.out; have ze8 := hS.kept.cell e8 HEN.out; have ze9 := hS.kept.cell e9 HEN.out; have ze10 := hS.kept.cell e10 HEN.out; go_simp; with_reducible rfl
          · simp only [Act.put, List.setIfInBounds_toArray, List.set_cons_zero, List.set_cons_succ]; rfl
          refine seq_call (args := ?_) Try.func92 (by kernel_rfl) rfl (some 70) rfl rfl (by rfl) rfl ?_ ?_
          rotate_left
          · simp only [List.map_toArray, List.map_cons, List.map_nil]; go_simp; rfl
          with_reducible refine ((HRC.out _ (hB.toW HBU.out HNW.out))).mono ?_
          rintro e w' ⟨o2, M2, rfl, hge2, hom2, hres2, hri2, hmo2, hlen2, hb⟩
          have HX2 := Lib.hid (And.intro hge2 (And.intro hom2 (And.intro hres2 (And.intro hri2 (And.intro hmo2 hlen2))))); have HSZ2 := Lib.hid hB.size; clear hge2 hom2 hres2 hri2 hmo2 hlen2
          refine ⟨_, rfl, hB.below hb, ?_⟩
          have hB := hB.below hb; clear hb
          simp only [Act.put, List.setIfInBounds_toArray, List.set_cons_zero, List.set_cons_succ]
          refine seq_take (v := ?_) (a' := ?_) (some 73) rfl rfl (by rfl) ?_ ?_ ?_
          rotate_left; rotate_left
          · intro w' hS; go_simp; with_reducible rfl
          · simp only [Act.put, List.setIfInBounds_toArray, List.set_cons_zero, List.set_cons_succ]; rfl
          refine seq_take (v := ?_) (a' := ?_) (some 74) rfl rfl (by rfl) ?_ ?_ ?_
          rotate_left; rotate_left
          · intro w' hS; go_simp; with_reducible rfl
          · simp only [Act.put, List.setIfInBounds_toArray, List.set_cons_zero, List.set_cons_succ]; rfl
          refine seq_store none rfl rfl (by rfl) ?_
          apply Exists.intro; apply And.intro
          · obtain ⟨v0, v2, hbx⟩ := hB.box; have y0 : _ = some _ := blk_cell hbx 0; have y1 : _ = some _ := blk_cell hbx 1; have y2 : _ = some _ := blk_cell hbx 2; have f0 := blk_free hbx 0; have f2 := blk_free hbx 2; go_simp; first | exact ⟨rfl, rfl⟩ | rfl
          apply Exists.intro; apply And.intro
          · simp only [Act.put, List.setIfInBounds_toArray, List.set_cons_zero, List.set_cons_succ]; rfl
          apply And.intro
          · exact (by repeat (first | with_reducible exact hB | with_reducible refine RelS.set0 ?_ _ | with_reducible refine RelS.set2 ?_ _))
          refine seq_take (v := ?_) (a' := ?_) (some 75) rfl rfl (by rfl) ?_ ?_ ?_
          rotate_left; rotate_left
          · intro w' hS; go_simp; with_reducible rfl
          · simp only [Act.put, List.setIfInBounds_toArray, List.set_cons_zero, List.set_cons_succ]; rfl
          refine seq_take (v := ?_) (a' := ?_) (some 76) rfl rfl (by rfl) ?_ ?_ ?_
          rotate_left; rotate_left
          · intro w' hS; go_simp; with_reducible rfl
          · simp only [Act.put, List.setIfInBounds_toArray, List.set_cons_zero, List.set_cons_succ]; rfl
          refine seq_store none rfl rfl (by rfl) ?_
          apply Exists.intro; apply And.intro
          · obtain ⟨v0, v2, hbx⟩ := hB.box; have y0 : _ = some _ := blk_cell hbx 0; have y1 : _ = some _ := blk_cell hbx 1; have y2 : _ = some _ := blk_cell hbx 2; have f0 := blk_free hbx 0; have f2 := blk_free hbx 2; go_simp; first | exact ⟨rfl, rfl⟩ | rfl
          apply Exists.intro; apply And.intro
          · simp only [Act.put, List.setIfInBounds_toArray, List.set_cons_zero, List.set_cons_succ]; rfl
          apply And.intro
          · exact (by repeat (first | with_reducible exact hB | with_reducible refine RelS.set0 ?_ _ | with_reducible refine RelS.set2 ?_ _))
          refine seq_done ?_
          refine name_exit ?_
          intro w5 hw5
          obtain ⟨hge2, hom2, hres2, hri2, hmo2, hlen2⟩ := HX2.out
          have hone : o2 ≠ g1 := by have := HNU.out.gm.lt; have := HSZ2.out; omega
          have hdn := hB.done (ev := ev) HNU.out hom2 (by have := HNU.out.gm.lt; have := HNU.out.ge; have := HSZ2.out; omega) hone
          rw [← hw5] at hdn
          have HNA := Lib.hid hdn.1
          have HR5 := Lib.hid (show ResM w5 base M2 from ResM.kept hres2 hdn.2 (fun k e c hc => by subst e; obtain ⟨v0, v2, q⟩ := hB.box; rw [q] at hc; cases hc))
          have HB5 := Lib.hid (show Below w.heap.size w w5 from (hB.toW HBU.out HNW.out).trans (hdn.2.below (hB.toW HBU.out HNW.out).size (fun k e => by subst e; exact HNW.out)))
          have HFIN := Lib.hid (fun (w9 : World) hd hk => next_done (w := w) (w9 := w9) (E := ⟨2, o, ev, oxs xs⟩) (fl := fl) (M := M) (G := G) HNA.out HR5.out hri2 HR.out.2 (by unfold nextM; rw [if_neg (show ¬ ((2 : Int) = 0) by decide), if_neg (show ¬ ((2 : Int) = 1) by decide), if_pos rfl]; exact hmo2) (by unfold nextG nextF; rw [if_neg (show ¬ ((2 : Int) = 0) by decide), if_neg (show ¬ ((2 : Int) = 1) by decide), if_neg (show ¬ ((2 : Int) = 0 ∨ (2 : Int) = 1) by decide)]) (by unfold nextF; rw [if_neg (show ¬ ((2 : Int) = 0 ∨ (2 : Int) = 1) by decide)]) (Nat.le_succ_of_le hlen2) (Nat.le_succ _) ⟨HEV.out, HINT.out.2⟩ HL.out.2.2.2 hWs HB5.out hd hk)
          clear hw5 hB n1 p0 n0 n2 hdn hone hge2 hom2 hres2 hri2 hmo2 hlen2
          have t0 := box0 HNA.out.ptr
          have b1 : w5.cell? ⟨np, 1, none⟩ = some (.map (some g1)) := blk_cell HNA.out.box 1
          have HDG := Lib.hid (delG_calls w5 HNA.out.gm (keys_nodup strictKS HR.out.2) (pb := pb) (np := np) (fl := ev) t0 (blk_cell HNA.out.box 2))
          go_wp2_with (go_at_call 93; refine HDG.out.mono ?_; rintro e w9 ⟨rfl, hd, hk⟩; have HD := Lib.hid (And.intro hd hk); have t0 := hk.cell t0 (mv_ne HNA.out.gm t0); clear hd hk)
          go_ret
          exact HFIN.out _ HD.out.1 HD.out.2
        · have k2 : (kd == 2) = false := by simpa using h2
          go_upto_region 13 with fail
          first | with_reducible refine name_wp ?_ | with_reducible refine name_calls ?_
          intro w5 hw5
          have HNA := Lib.hid (show NewC W w5 pb np o1 g1 ev M G by rw [hw5]; exact HNU.out.setF ev)
          have HKZ := Lib.hid (show Kept (fun k => k = np) U w5 by rw [hw5]; exact kept_cell U np 2 _)
          have HR5 := Lib.hid (HRS.out.kept HKZ.out (fun k e c hc => by subst e; rw [HNU.out.box] at hc; cases hc))
          have HB5 := Lib.hid (show Below w.heap.size w w5 from HBU.out.trans (HKZ.out.below HBU.out.size (fun k e => by subst e; have := HNU.out.ge; omega)))
          have HFIN := Lib.hid (fun (w9 : World) hd hk => next_done (w := w) (w9 := w9) (E := ⟨kd, o, ev, oxs xs⟩) (fl := fl) (M := M) (G := G) HNA.out HR5.out HR.out.1 HR.out.2 (by unfold nextM; rw [if_neg h0, if_neg h1, if_neg h2]) (by unfold nextG nextF; rw [if_neg h0, if_neg h1, if_neg (by rintro (q | q); exact h0 q; exact h1 q)]) (by unfold nextF; rw [if_neg (by rintro (q | q); exact h0 q; exact h1 q)]) (by first | (simp; done) | (simp; omega)) (Nat.le_succ _) ⟨HEV.out, HINT.out.2⟩ HL.out.2.2.2 hWs HB5.out hd hk)
          clear hw5 hB n1 p0 n0 n2
          have t0 := box0 HNA.out.ptr
          have b1 : w5.cell? ⟨np, 1, none⟩ = some (.map (some g1)) := blk_cell HNA.out.box 1
          have HDG := Lib.hid (delG_calls w5 HNA.out.gm (keys_nodup strictKS HR.out.2) (pb := pb) (np := np) (fl := ev) t0 (blk_cell HNA.out.box 2))
          go_wp2_with (go_at_call 93; refine HDG.out.mono ?_; rintro e w9 ⟨rfl, hd, hk⟩; have HD := Lib.hid (And.intro hd hk); have t0 := hk.cell t0 (mv_ne HNA.out.gm t0); clear hd hk)
          go_ret
          exact HFIN.out _ HD.out.1 HD.out.2
end Go.Proofs.Ythhfcambdmdgfaa
namespace Go.Proofs.Ythhfcambdmdgfaa
open Go.RowKit Go.Maps Srt
set_option linter.unusedVariables false
set_option linter.unusedSimpArgs false
theorem kT_inj {a b : KS} (ha : keyOk a.1 = true) (hb : keyOk b.1 = true) (h : kT a.1 = kT b.1) : a = b := by
  obtain ⟨h1, h2, h3⟩ := keyText_inj ha hb h
  exact Subtype.ext (keyD_ext h1 h2 h3)
theorem hasA_in {β : Type} {M : AM KS β} {k : KS} : hasA M k = true ↔ ∃ q ∈ M, q.1 = k := by unfold hasA; rw [List.any_eq_true]; simp
/-- The objects by the sorted keys are the objects sorted. -/
theorem objs_srt {m : AO} {ks : List KS} (hR : RiseA ltKS m) (ho : ∀ q ∈ m, keyOk q.1.1 = true ∧ q.1.1 = q.2.key) (hk : ks.Nodup ∧ ∀ x, x ∈ ks ↔ hasA m x = true) (hs : ks.Pairwise (fun a b => ltT b a = false)) : ks.map (obA m) = srtX kTO (m.map (·.2)) := by
  have hmem : ∀ k, k ∈ ks → ∃ o, (k, o) ∈ m ∧ obA m k = o := fun k h => by
    obtain ⟨q, hq, rfl⟩ := hasA_in.1 ((hk.2 k).1 h)
    refine ⟨q.2, hq, ?_⟩
    unfold obA
    rw [(get_mem strictKS hR).2 hq]; rfl
  have hp : (ks.map (obA m)).Perm (m.map (·.2)) := by
    have h1 : ks.Perm (m.map (·.1)) := by
      refine (List.perm_ext_iff_of_nodup hk.1 (keys_nodup strictKS hR)).2 fun k => ?_
      rw [hk.2 k, hasA_in]
      constructor
      · rintro ⟨q, hq, rfl⟩; exact List.mem_map.2 ⟨q, hq, rfl⟩
      · intro h; obtain ⟨q, hq, e⟩ := List.mem_map.1 h; exact ⟨q, hq, e⟩
    have h2 := h1.map (obA m)
    rw [List.map_map] at h2
    have e : m.map (obA m ∘ (·.1)) = m.map (·.2) := List.map_congr_left fun q hq => by
      show obA m q.1 = q.2
      unfold obA
      rw [(get_mem strictKS hR).2 hq]; rfl
    rwa [e] at h2
  have hkt : ∀ k ∈ ks, kTO (obA m k) = kT k.1 := fun k h => by
    obtain ⟨o, hq, e⟩ := hmem k h
    rw [e]; unfold kTO; rw [← (ho _ hq).2]
  have hnd : ((m.map (·.2)).map kTO).Nodup := by
    rw [← (hp.map kTO).nodup_iff, List.map_map]
    refine nodup_on hk.1 fun a ha b hb e => ?_
    have e' : kT a.1 = kT b.1 := by rw [← hkt a ha, ← hkt b hb]; exact e
    obtain ⟨o1, h1, _⟩ := hmem a ha
    obtain ⟨o2, h2, _⟩ := hmem b hb
    exact kT_inj (ho _ h1).1 (ho _ h2).1 e'
  rw [← srtX_perm hp hnd]
  refine (srtX_same ?_).symm
  unfold SrtL
  rw [List.pairwise_map]
  refine List.Pairwise.imp_of_mem (fun {a b} ha hb h => ?_) hs
  rw [hkt a ha, hkt b hb]; exact h
end Go.Proofs.Ythhfcambdmdgfaa
namespace Go.Proofs.Ythhfcambdmdgfaa
open Go.RowKit Go.Maps
set_option linter.unusedVariables false
set_option linter.unusedSimpArgs false
theorem entry_upd {w : World} {b n : Nat} {D : DataW Value} {t e : TypeId} (h : w.ownsMap Try.prog 24 RV b n D) (ht : Try.prog.underlying t = some (.map 24 e)) {z : Value} (hz : ∀ u : World, (zeroValue e).run Try.prog u = .ok z u) (hn : n < maxLen) {key : Value} {kl : Lit} (hkey : keyOf Try.prog 24 key = some kl) :
    ∃ (v0 : Value) (st : Nat) (w1 : World), (Instr.mapEntry t (.map (some b)) key).run Try.prog w = .ok (.tuple #[v0, .int .i64 st]) w1 ∧ Kept (fun k => k = b) w w1 ∧
      ∀ val : Value, ∃ w', (Instr.entryStore t (.map (some b)) (.int .i64 st) val).run Try.prog w1 = .ok () w' ∧ w'.ownsMap Try.prog 24 RV b (n + 1) (D.put kl (.held val)) ∧ Kept (fun k => k = b) w w' := by
  have hu := fun val => h.update kS_keyed ht hn (val := val) hkey (d := .held val) (ps := []) rfl
  obtain ⟨es, clock, hb, F, hs, rfl⟩ := h
  obtain ⟨v0, st, es1, clock1, h1, _, h2⟩ := Go.WideElems.entry_then_store kS_law ht hz hb F hkey
  refine ⟨v0, st, _, h1, ?_, fun val => ?_⟩
  · exact ⟨rfl, rfl, rfl, by simp [Go.ChangeMaps.setBlock], fun k hk hx => Go.ChangeMaps.heap_setBlock_other hb _ (fun e => hx e)⟩
  · obtain ⟨es', clock', h3, h4⟩ := h2 (Go.ChangeMaps.setBlock w b (.map es1 clock1)) val (Go.ChangeMaps.heap_setBlock_same hb _)
    obtain ⟨w', h5, h6, h7⟩ := hu val
    rw [h4] at h5
    cases h5
    have e1 : Go.ChangeMaps.setBlock (Go.ChangeMaps.setBlock w b (.map es1 clock1)) b (.map es' clock') = Go.ChangeMaps.setBlock w b (.map es' clock') := by
      unfold Go.ChangeMaps.setBlock; simp
    rw [e1] at h3
    exact ⟨_, h3, h6, (Kept.refl _ _).grown h7 (fun j e => by cases e; exact .inl rfl)⟩
/-- An entry of a map, by itself. -/
theorem wp_entry {o : Oper} {a : Act} {K : Act → World → Prop} {Q : Exit → Act → World → Prop} (w : World) (N9 : Option Tmp) (hN9 : o.dst = N9) (m x : Operand) (t e : TypeId) (hop : o.op = Op.mapEntry t m x) (ht : Try.prog.underlying t = some (.map 24 e)) {z : Value} (hz : ∀ u : World, (zeroValue e).run Try.prog u = .ok z u)
    (b n : Nat) (D : DataW Value) (hm : a.eval m = .map (some b)) (hown : w.ownsMap Try.prog 24 RV b n D) (hn : n < maxLen) (key : Value) (kl : Lit) (hx : a.eval x = key) (hkey : keyOf Try.prog 24 key = some kl)
    (hK : ∀ (v0 : Value) (st : Nat) (w1 : World), (∀ val : Value, ∃ w', (Instr.entryStore t (.map (some b)) (.int .i64 st) val).run Try.prog w1 = .ok () w' ∧ w'.ownsMap Try.prog 24 RV b (n + 1) (D.put kl (.held val)) ∧ Kept (fun k => k = b) w w') → (Instr.mapEntry t (.map (some b)) key).run Try.prog w = .ok (.tuple #[v0, .int .i64 st]) w1 → Kept (fun k => k = b) w w1 → K (a.put N9 (.tuple #[v0, .int .i64 st])) w1) : o.wp Try.prog a w K Q := by
  obtain ⟨v0, st, w1, hrun, hk1, h2⟩ := entry_upd hown ht hz hn hkey
  subst hN9
  unfold Oper.wp
  simp [execOp, hop, hm, hx, hrun, Result.andThen]
  exact hK v0 st w1 h2 hrun hk1
def nV (n : Int) : Value := .int .i64 n
theorem zero_int (w : World) : (zeroValue 3).run Try.prog w = .ok (.int .i64 0) w := by kernel_rfl
def numN (N : AM KS Int) (k : KS) : Int := (getA N k).getD 0
theorem look_num {w : World} {b n : Nat} {N : AM KS Int} (h : w.ownsMap Try.prog 24 RV b n (dmA kL nV N)) (k : KS) : (Instr.lookup 122 (.map (some b)) (.agg #[.string k.1.kind, .string k.1.space, .string k.1.name]) false).run Try.prog w = .ok (.int .i64 (numN N k)) w := by
  have q := mv_look h kS_keyed Try.underlying122 (zero_int w) (kL_key k)
  rw [val_dmA kL_lit nV N k (.int .i64 0)] at q
  unfold numN
  cases hg : getA N k with
  | none => rw [hg] at q; exact q
  | some v => rw [hg] at q; exact q
/-- Behind the entry the look-up of its key yields what it did. -/
theorem entry_look {w w1 : World} {b n : Nat} {N : AM KS Int} (h : w.ownsMap Try.prog 24 RV b n (dmA kL nV N)) (hn : n < maxLen) (k : KS) {key : Value} (hkey : keyOf Try.prog 24 key = some (kL k)) {v : Value} (hrun : (Instr.mapEntry 122 (.map (some b)) key).run Try.prog w = .ok v w1) :
    ∃ n1 N1, w1.ownsMap Try.prog 24 RV b n1 (dmA kL nV N1) ∧ numN N1 k = numN N k := by
  have ht := Try.underlying122
  have hu := h.update kS_keyed ht hn (val := .int .i64 0) hkey (d := .held (.int .i64 0)) (ps := []) rfl
  have hlk := mv_look h kS_keyed ht (zero_int w) hkey
  rw [val_dmA kL_lit nV N k (.int .i64 0)] at hlk
  obtain ⟨D, hD⟩ : ∃ D, dmA kL nV N = D := ⟨_, rfl⟩
  rw [hD] at h hu
  have h' := h
  obtain ⟨es, clock, hb, F, hs, hDe⟩ := h
  rcases kS_law.find w hkey es.toList F.keys with ⟨h1, h2⟩ | ⟨j, e0, h1, h2, h3⟩
  · obtain ⟨w', h5, h6, h7⟩ := hu
    simp [Instr.mapEntry, run_underlying ht, Go.MapKept.run_getObj_map hb, kS_law.check w false hkey, h1, zero_int, Go.MapKept.run_setObj_map _ hb, Result.andThen] at hrun
    simp [Instr.mapUpdate, run_underlying ht, Go.MapKept.run_getObj_map hb, kS_law.check w false hkey, h1, Go.MapKept.run_setObj_map _ hb, Result.andThen] at h5
    simp [Instr.lookup, run_underlying ht, Go.MapKept.run_getObj_map hb, kS_law.check w es.isEmpty hkey, h1, zero_int, Result.andThen] at hlk
    have e1 : w1 = w' := hrun.2.symm.trans h5
    subst e1
    rw [← hD, show (DataW.held (.int .i64 0) : DataW Value) = .held (nV 0) from rfl, put_dmA kL_lit] at h6
    refine ⟨_, _, h6, ?_⟩
    unfold numN
    rw [getA_put, if_pos rfl]
    cases hg : getA N k with
    | none => rfl
    | some u => rw [hg] at hlk; simp [nV] at hlk; exact hlk
  · have hj : es[j]? = some e0 := by simpa using h2
    simp [Instr.mapEntry, run_underlying ht, Go.MapKept.run_getObj_map hb, kS_law.check w false hkey, h1, hj, h3, kS_law.stays w hkey, Go.MapKept.run_setObj_map _ hb, Result.andThen] at hrun
    have hsame : (es.modify j fun e => { key := key, val := e.val, born := e.born }) = es := by
      apply Array.ext
      · simp
      · intro i h1' h2'
        rw [Array.getElem_modify]
        split
        · rename_i e
          subst e
          rw [Array.getElem?_eq_getElem h2'] at hj
          rw [Option.some.inj hj, ← h3]
        · rfl
    rw [hsame] at hrun
    refine ⟨n, N, ?_, rfl⟩
    rw [hD, ← hrun.2]
    refine ⟨es, clock, ?_, F, hs, hDe⟩
    obtain ⟨hlt, _⟩ := Array.getElem?_eq_some_iff.1 hb
    simp [hlt]
theorem wp_eStore {o : Oper} {a : Act} {K : Act → World → Prop} {Q : Exit → Act → World → Prop} {w1 w' : World} (m s v : Operand) (t : TypeId) {b : Nat} {st : Nat} {val : Value} (hop : o.op = Op.entryStore t m s v) (hm : a.eval m = .map (some b)) (hs : a.eval s = .int .i64 st) (hv : a.eval v = val)
    (hrun : (Instr.entryStore t (.map (some b)) (.int .i64 st) val).run Try.prog w1 = .ok () w') (hK : K (a.put o.dst undef) w') : o.wp Try.prog a w1 K Q := by
  unfold Oper.wp
  simp [execOp, hop, hm, hs, hv, hrun, Result.andThen]
  exact hK
structure RelN (V : World) (b : Nat) (k : KS) (nn : Int) (w' : World) : Prop where
  kept : Kept (fun j => j = b) V w'
  own : ∃ n1 N1, w'.ownsMap Try.prog 24 RV b n1 (dmA kL nV N1) ∧ numN N1 k = nn
theorem RelN.start {V w' : World} {b n : Nat} {k : KS} {nn : Int} {N : AM KS Int} (h : V.ownsMap Try.prog 24 RV b n (dmA kL nV N)) (e : numN N k = nn) (hb : Below V.heap.size V w') : RelN V b k nn w' := ⟨kept_of_below hb, n, N, mv_below h hb, e⟩
theorem RelN.look {V w' : World} {b : Nat} {k : KS} {nn : Int} (h : RelN V b k nn w') : (Instr.lookup 122 (.map (some b)) (.agg #[.string k.1.kind, .string k.1.space, .string k.1.name]) false).run Try.prog w' = .ok (.int .i64 nn) w' := by
  obtain ⟨n1, N1, h1, h2⟩ := h.own
  have := look_num h1 k
  rwa [h2] at this
theorem RelN.entry {V wS w4 : World} {b n : Nat} {k : KS} {nn : Int} {N : AM KS Int} (h : V.ownsMap Try.prog 24 RV b n (dmA kL nV N)) (e : numN N k = nn) (hb : Below V.heap.size V wS) (hn : n < maxLen) {key v : Value} (hkey : keyOf Try.prog 24 key = some (kL k)) (hrun : (Instr.mapEntry 122 (.map (some b)) key).run Try.prog wS = .ok v w4) (hk : Kept (fun j => j = b) wS w4) : RelN V b k nn w4 := by
  obtain ⟨n1, N1, h1, h2⟩ := entry_look (mv_below h hb) hn k hkey hrun
  exact ⟨(kept_of_below (X := fun j => j = b) hb).trans hk (fun _ q => .inl q), n1, N1, h1, by rw [h2, e]⟩
end Go.Proofs.Ythhfcambdmdgfaa
namespace Go.Proofs.Ythhfcambdmdgfaa
open Go.RowKit Go.Maps
set_option linter.unusedVariables false
set_option linter.unusedSimpArgs false
structure DD where
  key : KeyD
  had : Bool
  has : Bool
  old : ObjD
  new : ObjD
abbrev DX := DD × Value × Value
def dltX (p : DX) : List Value := [.string p.1.key.kind, .string p.1.key.space, .string p.1.key.name, .bool p.1.had, .bool p.1.has] ++ objX (p.1.old, p.2.1) ++ objX (p.1.new, p.2.2)
def dltC (l : List DX) : List Value := l.flatMap dltX
theorem dltC_app (l : List DX) (p : DX) : dltC (l ++ [p]) = dltC l ++ dltX p := by simp [dltC]
theorem info_delta : (Try.prog.info? 80).map (fun i => (i.zero, i.size, i.bytes)) = some (some (.agg #[.string ⟨#[]⟩, .string ⟨#[]⟩, .string ⟨#[]⟩, .bool false, .bool false, .string ⟨#[]⟩, .string ⟨#[]⟩, .string ⟨#[]⟩, .int .i64 0, .string ⟨#[]⟩, .bool false, .bool false, .slice none 0 0, .string ⟨#[]⟩, .string ⟨#[]⟩, .string ⟨#[]⟩, .int .i64 0, .string ⟨#[]⟩, .bool false, .bool false, .slice none 0 0]), 21, 264) := by kernel_rfl
theorem app_delta_at {o : Oper} {a : Act} {K : Act → World → Prop} {Q : Exit → Act → World → Prop} {w : World} (s x : Operand)
    (ho : o.op = .call { callee := .builtin .append, args := #[s, x], argTypes := #[69, 69] })
    (base : Nat) {tb : TypeId} (v : Value) (n : Nat) (l : List DX) (d : DD) (g n1 c1 h n2 c2 : Nat) (hs : a.eval s = v) (hown : w.ownsRow base 80 21 v n (dltC l)) (g0 c : Nat) (hx : a.eval x = .slice (some ⟨g0, 0, none⟩) 1 c)
    (hcells : w.heap[g0]? = some (.cells #[.string d.key.kind, .string d.key.space, .string d.key.name, .bool d.had, .bool d.has, .string d.old.key.kind, .string d.old.key.space, .string d.old.key.name, .int .i64 d.old.ver, .string d.old.cls, .bool d.old.term, .bool d.old.best, .slice (some ⟨g, 0, none⟩) n1 c1, .string d.new.key.kind, .string d.new.key.space, .string d.new.key.name, .int .i64 d.new.ver, .string d.new.cls, .bool d.new.term, .bool d.new.best, .slice (some ⟨h, 0, none⟩) n2 c2] tb)) (hbase : base ≤ w.heap.size) (hlen : n + 1 ≤ 100000000)
    (hK : ∀ g2 cap w1, w1.ownsRow base 80 21 (.slice (some ⟨g2, 0, none⟩) (n + 1) cap) (n + 1) (dltC (l ++ [(d, .slice (some ⟨g, 0, none⟩) n1 c1, .slice (some ⟨h, 0, none⟩) n2 c2)])) → Kept (fun k => v.ownBlock = some k) w w1 → K (a.put o.dst (.slice (some ⟨g2, 0, none⟩) (n + 1) cap)) w1) : o.wp Try.prog a w K Q := by
  obtain ⟨i0, hi, hz0, hz1, hz2⟩ := info_parts info_delta
  refine app_rw_at s x _ ho base _ i0 _ 21 264 Try.underlying69 hi hz0 hz1 hz2 rfl (by decide) v n (dltC l) [.string d.key.kind, .string d.key.space, .string d.key.name, .bool d.had, .bool d.has, .string d.old.key.kind, .string d.old.key.space, .string d.old.key.name, .int .i64 d.old.ver, .string d.old.cls, .bool d.old.term, .bool d.old.best, .slice (some ⟨g, 0, none⟩) n1 c1, .string d.new.key.kind, .string d.new.key.space, .string d.new.key.name, .int .i64 d.new.ver, .string d.new.cls, .bool d.new.term, .bool d.new.best, .slice (some ⟨h, 0, none⟩) n2 c2] hs hown g0 c hx hcells rfl (by simp [Value.oneCell']) hbase hlen (by decide) ?_
  intro g2 cap w1 h1 h2 h3
  refine hK g2 cap w1 ?_ h2
  rw [dltC_app]
  exact h1
/-- A list of Deltas of the call's own. -/
structure DsF (w : World) (b : Nat) (v : Value) (zs : List DX) : Prop where
  row : w.ownsRow b 80 21 v zs.length (dltC zs)
  res : ∀ p ∈ zs, ResF w b p.2.1 p.1.old.charge ∧ ResF w b p.2.2 p.1.new.charge
theorem DsF.below {w w' : World} {b : Nat} {v : Value} {zs : List DX} (h : DsF w b v zs) (hb : Below w.heap.size w w') : DsF w' b v zs := ⟨rw_below h.row hb, fun p hp => ⟨(h.res p hp).1.below hb, (h.res p hp).2.below hb⟩⟩
theorem DsF.mono {w : World} {b b' : Nat} {v : Value} {zs : List DX} (h : DsF w b v zs) (hb : b' ≤ b) : DsF w b' v zs := ⟨rw_mono h.row hb, fun p hp => ⟨(h.res p hp).1.mono hb, (h.res p hp).2.mono hb⟩⟩
theorem dsF_nil (w : World) (b : Nat) : DsF w b (.slice none 0 0) [] := ⟨⟨rfl, .inl ⟨rfl, rfl⟩⟩, by rintro p ⟨⟩⟩
theorem DsF.snoc {w w' : World} {b : Nat} {v v' : Value} {zs : List DX} {p : DX} (h : DsF w b v zs) (hp : ResF w b p.2.1 p.1.old.charge ∧ ResF w b p.2.2 p.1.new.charge) (hr : w'.ownsRow b 80 21 v' (zs ++ [p]).length (dltC (zs ++ [p]))) (hk : Kept (fun k => v.ownBlock = some k) w w') : DsF w' b v' (zs ++ [p]) := by
  have hX : ∀ k, v.ownBlock = some k → ∀ c, w.heap[k]? = some (.cells c 112) → False := fun k e c hc => rw_other h.row hc (by decide) e
  refine ⟨hr, fun q hq => ?_⟩
  rcases List.mem_append.1 hq with r | r
  · exact ⟨(h.res q r).1.kept hk hX, (h.res q r).2.kept hk hX⟩
  · obtain rfl := List.mem_singleton.1 r; exact ⟨hp.1.kept hk hX, hp.2.kept hk hX⟩
end Go.Proofs.Ythhfcambdmdgfaa

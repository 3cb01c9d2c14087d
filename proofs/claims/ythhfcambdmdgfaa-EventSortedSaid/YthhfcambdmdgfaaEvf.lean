import Derived.Test.YthhfcambdmdgfaaEve
import Derived.Test.YthhfcambdmdgfaaSrx
namespace Go.Proofs.Ythhfcambdmdgfaa
open Go.RowKit Go.Maps
set_option linter.unusedVariables false
set_option linter.unusedSimpArgs false
/-! ### Lists of objects that the call makes -/
def tObj : TypeId := 27
theorem info_obj : (Try.prog.info? 27).map (fun i => (i.zero, i.size, i.bytes)) = some (some (.agg #[.string ⟨#[]⟩, .string ⟨#[]⟩, .string ⟨#[]⟩, .int .i64 0, .string ⟨#[]⟩, .bool false, .bool false, .slice none 0 0]), 8, 104) := by kernel_rfl
theorem app_obj {ops : Array Oper} {rest : List Oper} {o : Oper} {a : Act} {Q : Exit → Act → World → Prop} {w : World} (hgd : o.guard = none) (s x : Operand)
    (ho : o.op = .call { callee := .builtin .append, args := #[s, x], argTypes := #[28, 28] })
    (base : Nat) (tb : TypeId) (v : Value) (l : List OX) (u : OX) (au : Option Addr) (nu cu : Nat) (hu : u.2 = .slice au nu cu) (hs : a.eval s = v) (hown : w.ownsRow base 27 8 v l.length (objC l)) (c : Nat) (hx : a.eval x = .slice (some ⟨w.heap.size, 0, none⟩) 1 c)
    (hbase : base ≤ w.heap.size) (hlen : l.length + 1 ≤ 100000000)
    (h : ∀ g cap w1, w1.ownsRow base 27 8 (.slice (some ⟨g, 0, none⟩) (l.length + 1) cap) (l ++ [u]).length (objC (l ++ [u])) → Kept (fun k => v.ownBlock = some k) w w1 → wpList Try.prog ops Q rest (a.put o.dst (.slice (some ⟨g, 0, none⟩) (l.length + 1) cap)) w1) :
    wpList Try.prog ops Q (o :: rest) a (w.alloc (.cells #[.string u.1.key.kind, .string u.1.key.space, .string u.1.key.name, .int .i64 u.1.ver, .string u.1.cls, .bool u.1.term, .bool u.1.best, .slice au nu cu] tb)) := by
  obtain ⟨i0, hi, hz0, hz1, hz2⟩ := info_parts info_obj
  refine app_rw hgd s x _ ho base _ i0 _ 8 104 Try.underlying28 hi hz0 hz1 hz2 rfl (by decide) tb v l.length (objC l) [.string u.1.key.kind, .string u.1.key.space, .string u.1.key.name, .int .i64 u.1.ver, .string u.1.cls, .bool u.1.term, .bool u.1.best, .slice au nu cu] hs hown c hx rfl (by simp [Value.oneCell']) hbase hlen (by decide) ?_
  intro g cap w1 h1 h2 h3
  refine h g cap w1 ?_ h2
  rw [List.length_append, objC_app]
  have e : objX u = [.string u.1.key.kind, .string u.1.key.space, .string u.1.key.name, .int .i64 u.1.ver, .string u.1.cls, .bool u.1.term, .bool u.1.best, .slice au nu cu] := by unfold objX; rw [hu]
  rw [e]; exact h1
def oIn (o : ObjD) : Prop := in64 o.ver ∧ ∀ r ∈ o.charge, in64 r.2
theorem ObjS.oIn {w : World} {v : Value} {o : ObjD} (h : ObjS w v o) : oIn o := ⟨h.2, h.1.2⟩
theorem ResF.mono {w : World} {b b' : Nat} {x : Value} {l : Res} (h : ResF w b x l) (hb : b' ≤ b) : ResF w b' x l := by
  obtain ⟨g, h1, h2, h3⟩ := h; exact ⟨g, by omega, h2, h3⟩
theorem ResF.form {w : World} {b : Nat} {x : Value} {l : Res} (h : ResF w b x l) : ∃ g, x = .slice (some ⟨g, 0, none⟩) l.length l.length := by
  obtain ⟨g, h1, h2, h3⟩ := h; exact ⟨g, h2⟩
theorem ResF.kept {X : Nat → Prop} {w w' : World} {b : Nat} {x : Value} {l : Res} (h : ResF w b x l) (hk : Kept X w w') (hX : ∀ k, X k → ∀ c, w.heap[k]? = some (.cells c 112) → False) : ResF w' b x l := by
  obtain ⟨g, h1, h2, h3⟩ := h
  exact ⟨g, h1, h2, hk.heap h3 (fun q => hX g q _ h3)⟩
theorem ResF.below {w w' : World} {b : Nat} {x : Value} {l : Res} (h : ResF w b x l) (hb : Below w.heap.size w w') : ResF w' b x l := h.kept (kept_of_below (X := fun _ => False) hb) (fun _ q => q.elim)
/-- A list of objects in a row of the call's own, each with a list of its own. -/
def ObjsF (w : World) (b : Nat) (v : Value) (ys : List OX) : Prop := w.ownsRow b 27 8 v ys.length (objC ys) ∧ ∀ p ∈ ys, ResF w b p.2 p.1.charge
theorem ObjsF.objsS {w : World} {b : Nat} {v : Value} {ys : List OX} (h : ObjsF w b v ys) (hi : ∀ p ∈ ys, oIn p.1) : ObjsS w v ys := ⟨sliS_of h.1, fun p hp => ⟨(h.2 p hp).resS (hi p hp).2, (hi p hp).1⟩⟩
theorem row_apart {w : World} {b n : Nat} {v : Value} {cs : List Value} (h : w.ownsRow b 27 8 v n cs) : ∀ k, v.ownBlock = some k → ∀ c, w.heap[k]? = some (.cells c 112) → False := fun k hk c hc => rw_other h hc (by decide) hk
theorem ObjsF.kept {X : Nat → Prop} {w w' : World} {b : Nat} {v : Value} {ys : List OX} (h : ObjsF w b v ys) (hk : Kept X w w') (h1 : ∀ k, v.ownBlock = some k → ¬ X k) (h2 : ∀ k, X k → ∀ c, w.heap[k]? = some (.cells c 112) → False) : ObjsF w' b v ys :=
  ⟨rw_kept h.1 hk h1, fun p hp => (h.2 p hp).kept hk h2⟩
theorem ObjsF.below {w w' : World} {b : Nat} {v : Value} {ys : List OX} (h : ObjsF w b v ys) (hb : Below w.heap.size w w') : ObjsF w' b v ys := h.kept (kept_of_below (X := fun _ => False) hb) (fun _ _ q => q) (fun _ q => q.elim)
theorem ObjsF.mono {w : World} {b b' : Nat} {v : Value} {ys : List OX} (h : ObjsF w b v ys) (hb : b' ≤ b) : ObjsF w b' v ys := ⟨rw_mono h.1 hb, fun p hp => (h.2 p hp).mono hb⟩
theorem objsF_nil (w : World) (b : Nat) : ObjsF w b (.slice none 0 0) [] := ⟨⟨rfl, .inl ⟨rfl, rfl⟩⟩, by rintro p ⟨⟩⟩
theorem ObjsF.form {w : World} {b : Nat} {v : Value} {ys : List OX} (h : ObjsF w b v ys) : ∃ A c, v = .slice A ys.length c := rw_form h.1
/-- One more. -/
theorem ObjsF.snoc {w w' : World} {b : Nat} {v v' : Value} {ys : List OX} {p : OX} (h : ObjsF w b v ys) (hp : ResF w b p.2 p.1.charge) (hr : w'.ownsRow b 27 8 v' (ys ++ [p]).length (objC (ys ++ [p]))) (hk : Kept (fun k => v.ownBlock = some k) w w') : ObjsF w' b v' (ys ++ [p]) :=
  ⟨hr, fun q hq => by
    rcases List.mem_append.1 hq with r | r
    · exact (h.2 q r).kept hk (row_apart h.1)
    · obtain rfl := List.mem_singleton.1 r; exact hp.kept hk (row_apart h.1)⟩
theorem row_below {w w' : World} {b n : Nat} {v : Value} {cs : List Value} (h : w.ownsRow b 27 8 v n cs) (hk : Kept (fun k => v.ownBlock = some k) w w') (hb : b ≤ w.heap.size) : Below b w w' := hk.below hb (fun k q => (rw_type h q).1)
/-- A block of cells of a type. -/
def TyB (w : World) (b : Nat) (T : TypeId) : Prop := ∃ c, w.heap[b]? = some (.cells c T)
theorem TyB.set {w : World} {b : Nat} {T : TypeId} (h : TyB w b T) (g j : Nat) (u : Value) : TyB (w.setCell ⟨g, j, none⟩ u) b T := by
  obtain ⟨c, hc⟩ := h
  by_cases e : b = g
  · subst e; exact ⟨_, heap_setCell_same w b j c T u hc⟩
  · exact ⟨c, (Below.heap_setCell w ⟨g, j, none⟩ u b e).trans hc⟩
theorem TyB.below {w w' : World} {b : Nat} {T : TypeId} (h : TyB w b T) (hb : Below w.heap.size w w') : TyB w' b T := by
  obtain ⟨c, hc⟩ := h; exact ⟨c, blk_below hc hb⟩
theorem TyB.ne {w : World} {b : Nat} {T : TypeId} (h : TyB w b T) {c : Array Value} {T' : TypeId} (hc : w.heap[b]? = some (.cells c T')) (hT : T ≠ T') : False := by
  obtain ⟨d, hd⟩ := h; rw [hc] at hd; cases hd; exact hT rfl
theorem Kept.setCell' {X : Nat → Prop} {a w : World} (h : Kept X a w) (g j : Nat) (u : Value) (hp : X g) : Kept X a (w.setCell ⟨g, j, none⟩ u) := h.setCell _ _ (.inl hp)
end Go.Proofs.Ythhfcambdmdgfaa

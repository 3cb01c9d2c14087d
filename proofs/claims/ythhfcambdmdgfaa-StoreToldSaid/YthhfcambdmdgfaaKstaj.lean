import Derived.Test.YthhfcambdmdgfaaKstai
import Derived.Test.YthhfcambdmdgfaaKstaf
import Derived.Maps.RangeWalk
import Derived.Test.YthhfcambdmdgfaaKstac
import Derived.Test.YthhfcambdmdgfaaKstad
import Derived.Shelf.SlGeneric
import Derived.Shelf.SlMaps.Clone
import Derived.Shelf.SlSortCmp.WholeK
import Derived.Shelf.Small.Bits
import Derived.Shelf.Strconv.Itoa0
import Derived.Test.YthhfcambdmdgfaaProg
import Derived.Test.YthhfcambdmdgfaaKstab
import Derived.Shelf.SlSortCmp.QuietGrown
import Derived.RangeFuncNested
import Derived.RangeFuncBound
import Derived.RangeFuncCalls
import Derived.RangeFuncLeaves
import Derived.RangeFuncBox
import Derived.Shelf.Abstract
import Derived.Shelf.RegionOpen
import Derived.WalkKit
import Derived.Sort.MapsRangeIn
import Derived.OwnWalkIn
import Derived.TacticsInMore
import Derived.LoopNIn
import Derived.LoopIn
namespace Go.Proofs.Ythhfcambdmdgfaa
open Go.RowKit Go.Maps
set_option linter.unusedVariables false
set_option linter.unusedSimpArgs false
abbrev LY := LX × Value
def yX (e : LY) : List Value := [.int .i64 e.1.1] ++ objX e.1.2 ++ [.int .i64 0, e.2]
def yC (l : List LY) : List Value := l.flatMap yX
theorem yC_app (l : List LY) (e : LY) : yC (l ++ [e]) = yC l ++ yX e := by simp [yC]
def lyOf (l : List LY) : List (Int × ObjD) := l.map fun p => (p.1.1, p.1.2.1)
def lxOf (L : List LX) : List (Int × ObjD) := L.map fun p => (p.1, p.2.1)
theorem flat_at {α : Type} (f : α → List Value) (sz : Nat) (hf : ∀ a, (f a).length = sz) : ∀ (l : List α) (k : Nat) (hk : k < l.length) (j : Nat), j < sz → (l.flatMap f)[k * sz + j]? = (f (l[k]'hk))[j]? := by
  intro l
  induction l with
  | nil => intro k hk; exact absurd hk (Nat.not_lt_zero _)
  | cons a r ih =>
    intro k hk j hj
    rw [List.flatMap_cons]
    cases k with
    | zero => rw [Nat.zero_mul, Nat.zero_add, List.getElem?_append_left (by rw [hf]; exact hj)]; rfl
    | succ k =>
      rw [List.getElem?_append_right (by rw [hf, Nat.succ_mul]; omega), hf, show (k + 1) * sz + j - sz = k * sz + j by rw [Nat.succ_mul]; omega]
      exact ih k (by simpa using hk) j hj
/-- An event's cells. -/
structure EvAt (w : World) (b off : Nat) (kd : Int) (o : ObjD) (x : Value) (vr : Int) (ov : Value) : Prop where
  c0 : w.cell? ⟨b, off, none⟩ = some (.int .i64 kd)
  c1 : w.cell? ⟨b, off + 1, none⟩ = some (.string o.key.kind)
  c2 : w.cell? ⟨b, off + 2, none⟩ = some (.string o.key.space)
  c3 : w.cell? ⟨b, off + 3, none⟩ = some (.string o.key.name)
  c4 : w.cell? ⟨b, off + 4, none⟩ = some (.int .i64 o.ver)
  c5 : w.cell? ⟨b, off + 5, none⟩ = some (.string o.cls)
  c6 : w.cell? ⟨b, off + 6, none⟩ = some (.bool o.term)
  c7 : w.cell? ⟨b, off + 7, none⟩ = some (.bool o.best)
  c8 : w.cell? ⟨b, off + 8, none⟩ = some (x)
  c9 : w.cell? ⟨b, off + 9, none⟩ = some (.int .i64 vr)
  c10 : w.cell? ⟨b, off + 10, none⟩ = some (ov)
theorem EvAt.below {w w' : World} {b off : Nat} {kd : Int} {o : ObjD} {x : Value} {vr : Int} {ov : Value} (h : EvAt w b off kd o x vr ov) (hb : Below w.heap.size w w') : EvAt w' b off kd o x vr ov :=
  ⟨cb hb h.c0, cb hb h.c1, cb hb h.c2, cb hb h.c3, cb hb h.c4, cb hb h.c5, cb hb h.c6, cb hb h.c7, cb hb h.c8, cb hb h.c9, cb hb h.c10⟩
theorem log_at {w : World} {v : Value} {L : List LX} (h : SliS w v 11 L.length (lgC L)) {k : Nat} (hk : k < L.length) : ∃ b off c, v = .slice (some ⟨b, off, none⟩) L.length c ∧ EvAt w b (off + k * 11) (L[k]'hk).1 (L[k]'hk).2.1 (L[k]'hk).2.2 0 (.slice none 0 0) := by
  obtain ⟨b, off, c, he, _, hx⟩ := h.at' hk
  have z : ∀ j u, j < 11 → (lgX (L[k]'hk))[j]? = some u → w.cell? ⟨b, off + k * 11 + j, none⟩ = some u := fun j u hj e => hx j hj u (by rw [show lgC L = L.flatMap lgX from rfl, flat_at lgX 11 (fun _ => rfl) L k hk j hj]; exact e)
  exact ⟨b, off, c, he, ⟨z 0 _ (by omega) rfl, z 1 _ (by omega) rfl, z 2 _ (by omega) rfl, z 3 _ (by omega) rfl, z 4 _ (by omega) rfl, z 5 _ (by omega) rfl, z 6 _ (by omega) rfl, z 7 _ (by omega) rfl, z 8 _ (by omega) rfl, z 9 _ (by omega) rfl, z 10 _ (by omega) rfl⟩⟩
def OwnL (w : World) (kd : Int) (o : ObjD) (e : Ending) (w' : World) : Prop := ∃ g A c, e = .returned (.agg #[.int .i64 kd, .string o.key.kind, .string o.key.space, .string o.key.name, .int .i64 o.ver, .string o.cls, .bool o.term, .bool o.best, .slice (some ⟨g, 0, none⟩) o.charge.length o.charge.length, .int .i64 0, .slice A 0 c]) ∧ Hid (ResF w' w.heap.size (.slice (some ⟨g, 0, none⟩) o.charge.length o.charge.length) o.charge ∧ ObjsF w' w.heap.size (.slice A 0 c) []) ∧ Below w.heap.size w w'
theorem evown0_calls (w : World) (kd : Int) {o : ObjD} {sl : Value} (ho : ObjS w sl o) (hs : objSmall o) : Calls Try.prog 17 #[evV kd o sl 0 (.slice none 0 0)] w (OwnL w kd o) :=
  (evown_calls w kd 0 ho hs (xs := []) ⟨sliS_nil w 8, by rintro p ⟨⟩⟩ (by rintro p ⟨⟩) (by simp)).mono fun e w' ⟨x, ov, ys, he, hx, hy, hyx, hb⟩ => by
    obtain rfl : ys = [] := by cases ys with
      | nil => rfl
      | cons p r => simp [oxs] at hyx
    obtain ⟨g, rfl⟩ := hx.form
    obtain ⟨A, c, rfl⟩ := hy.form
    exact ⟨g, A, c, he, Lib.hid ⟨hx, hy⟩, hb⟩
theorem app_ey {ops : Array Oper} {rest : List Oper} {o' : Oper} {a : Act} {Q : Exit → Act → World → Prop} {w : World} (hgd : o'.guard = none) (s x : Operand)
    (ho : o'.op = .call { callee := .builtin .append, args := #[s, x], argTypes := #[48, 48] })
    (base : Nat) (tb : TypeId) (v : Value) (l : List LY) (kd : Int) (o : ObjD) (g n1 c1 : Nat) (A : Option Addr) (c : Nat) (hs : a.eval s = v) (hown : w.ownsRow base 30 11 v l.length (yC l)) (c0 : Nat) (hx : a.eval x = .slice (some ⟨w.heap.size, 0, none⟩) 1 c0)
    (hbase : base ≤ w.heap.size) (hlen : l.length + 1 ≤ 100000000)
    (h : ∀ g2 cap w1, w1.ownsRow base 30 11 (.slice (some ⟨g2, 0, none⟩) (l.length + 1) cap) (l ++ [((kd, (o, Value.slice (some ⟨g, 0, none⟩) n1 c1)), Value.slice A 0 c)]).length (yC (l ++ [((kd, (o, Value.slice (some ⟨g, 0, none⟩) n1 c1)), Value.slice A 0 c)])) → Kept (fun k => v.ownBlock = some k) w w1 → wpList Try.prog ops Q rest (a.put o'.dst (.slice (some ⟨g2, 0, none⟩) (l.length + 1) cap)) w1) :
    wpList Try.prog ops Q (o' :: rest) a (w.alloc (.cells #[.int .i64 kd, .string o.key.kind, .string o.key.space, .string o.key.name, .int .i64 o.ver, .string o.cls, .bool o.term, .bool o.best, .slice (some ⟨g, 0, none⟩) n1 c1, .int .i64 0, .slice A 0 c] tb)) := by
  obtain ⟨i0, hi, hz0, hz1, hz2⟩ := info_parts info_ev
  refine app_rw hgd s x _ ho base _ i0 _ 11 144 Try.underlying48 hi hz0 hz1 hz2 rfl (by decide) tb v l.length (yC l) [.int .i64 kd, .string o.key.kind, .string o.key.space, .string o.key.name, .int .i64 o.ver, .string o.cls, .bool o.term, .bool o.best, .slice (some ⟨g, 0, none⟩) n1 c1, .int .i64 0, .slice A 0 c] hs hown c0 hx rfl (by simp [Value.oneCell']) hbase hlen (by decide) ?_
  intro g2 cap w1 h1 h2 h3
  refine h g2 cap w1 ?_ h2
  rw [List.length_append, yC_app]
  exact h1
/-- A list of events of the call's own. -/
structure LogF (w : World) (b : Nat) (v : Value) (ys : List LY) : Prop where
  row : w.ownsRow b 30 11 v ys.length (yC ys)
  res : ∀ p ∈ ys, ResF w b p.1.2.2 p.1.2.1.charge ∧ ObjsF w b p.2 []
theorem LogF.below {w w' : World} {b : Nat} {v : Value} {ys : List LY} (h : LogF w b v ys) (hb : Below w.heap.size w w') : LogF w' b v ys := ⟨rw_below h.row hb, fun p hp => ⟨(h.res p hp).1.below hb, (h.res p hp).2.below hb⟩⟩
theorem LogF.mono {w : World} {b b' : Nat} {v : Value} {ys : List LY} (h : LogF w b v ys) (hb : b' ≤ b) : LogF w b' v ys := ⟨rw_mono h.row hb, fun p hp => ⟨(h.res p hp).1.mono hb, (h.res p hp).2.mono hb⟩⟩
theorem LogF.snoc {w w' : World} {b : Nat} {v v' : Value} {ys : List LY} {p : LY} (h : LogF w b v ys) (hp : ResF w b p.1.2.2 p.1.2.1.charge ∧ ObjsF w b p.2 []) (hr : w'.ownsRow b 30 11 v' (ys ++ [p]).length (yC (ys ++ [p]))) (hk : Kept (fun k => v.ownBlock = some k) w w') : LogF w' b v' (ys ++ [p]) := by
  have key : ∀ q : LY, ResF w b q.1.2.2 q.1.2.1.charge ∧ ObjsF w b q.2 [] → ResF w' b q.1.2.2 q.1.2.1.charge ∧ ObjsF w' b q.2 [] := fun q hq =>
    ⟨hq.1.kept hk (fun k e c hc => rw_other h.row hc (by decide) e), hq.2.kept hk (fun k e => rw_ne h.row hq.2.1 (by decide) k e) (fun k e c hc => rw_other h.row hc (by decide) e)⟩
  refine ⟨hr, fun q hq => ?_⟩
  rcases List.mem_append.1 hq with r | r
  · exact key q (h.res q r)
  · obtain rfl := List.mem_singleton.1 r; exact key q hp
set_option maxRecDepth 100000 in
set_option maxHeartbeats 8000000 in
theorem slog_calls (w : World) {base sp mb : Nat} {ver : Int} {M : AM KS OX} {lv : Value} {L : List LX} (h : StoreAt w base sp mb ver M lv L) (hS : ∀ e ∈ L, objSmall e.2.1) (hL : L.length ≤ 1000000) :
    Calls Try.prog 38 #[.pointer (some ⟨sp, 0, none⟩)] w fun e w' => ∃ v ys, e = .returned v ∧ LogF w' w.heap.size v ys ∧ lyOf ys = lxOf L ∧ Below w.heap.size w w' := by
  have hsp := h.ptr
  obtain ⟨al, cl, rfl⟩ := rw_form h.row
  have m2 : w.cell? ⟨sp, 2, none⟩ = some (.slice al L.length cl) := blk_cell h.cell 2
  have HSL := Lib.hid (sliS_of h.row)
  have HRL := Lib.hid (fun e (he : e ∈ L) => And.intro (h.resL e he) (hS e he))
  have HL := Lib.hid hL
  clear h hS
  have HNIL := Lib.hid (show LogF w w.heap.size (.slice none 0 0) [] from ⟨⟨rfl, .inl ⟨rfl, rfl⟩⟩, by rintro p ⟨⟩⟩)
  go_enter Try.func38, Try.ntmps38
  go_wp2_with fail
  go_loopw [3, 13] (fun s i wr => ∃ (k : Nat) (A : Option Addr) (c : Nat) (ys : List LY), i = .int .i64 k ∧ k ≤ L.length ∧ s = .slice A k c ∧ Hid (ys.length = k ∧ LogF wr w.heap.size (.slice A k c) ys ∧ lyOf ys = (lxOf L).take k) ∧ Hid (Below w.heap.size w wr)) (fun _ i _ => L.length - (intOf i).toNat)
  case atStart => exact ⟨0, none, 0, [], rfl, Nat.zero_le _, rfl, Lib.hid ⟨rfl, HNIL.out, rfl⟩, Lib.hid (Below.refl _ _)⟩
  case round =>
    obtain ⟨k, av, cv, ys, rfl, hk, rfl, HY, HBr⟩ := hrel
    by_cases hkl : k < L.length
    · have hkI : (k : Int) < L.length := by omega
      obtain ⟨b, of, c9, he, hq⟩ := log_at HSL.out hkl
      cases he
      have HT := Lib.hid (show (lxOf L).take (k + 1) = (lxOf L).take k ++ [((L[k]'hkl).1, (L[k]'hkl).2.1)] by rw [List.take_succ_eq_append_getElem (by simp [lxOf]; exact hkl)]; simp [lxOf])
      have HM := Lib.hid (HRL.out _ (List.getElem_mem hkl))
      generalize L[k]'hkl = p at hq HT HM
      obtain ⟨kd, o, so⟩ := p
      obtain ⟨g0, hg0⟩ := HM.out.1.1.form
      simp only at hg0
      subst hg0
      simp only at hq HT
      obtain ⟨V, rfl⟩ : ∃ V : World, V = wr := ⟨_, rfl⟩
      have q := hq.below HBr.out
      clear hq
      have d0 := q.c0
      have d1 := q.c1
      have d2 := q.c2
      have d3 := q.c3
      have d4 := q.c4
      have d5 := q.c5
      have d6 := q.c6
      have d7 := q.c7
      have d8 := q.c8
      have d9 := q.c9
      have d10 := q.c10
      have HOS := Lib.hid (show ObjS V (.slice (some ⟨g0, 0, none⟩) o.charge.length o.charge.length) o from (ObjS.below ⟨HM.out.1.1.resS HM.out.1.2.2, HM.out.1.2.1⟩ HBr.out))
      have HSM := Lib.hid HM.out.2
      clear q HM
      go_upto_region 7 with fail
      first | with_reducible refine name_wp ?_ | with_reducible refine name_calls ?_
      intro V1 hU
      have hw9 : Below V.heap.size V V1 := by rw [hU]; exact (Below.refl V.heap.size V).alloc (Nat.le_refl _) _
      clear d0 d1 d2 d3 d4 d5 d6 d7 d8 d9 d10
      have gA : V1.heap[V.heap.size]? = some (.cells #[.int .i64 kd, .string o.key.kind, .string o.key.space, .string o.key.name, .int .i64 o.ver, .string o.cls, .bool o.term, .bool o.best, .slice (some ⟨g0, 0, none⟩) o.charge.length o.charge.length, .int .i64 0, .slice none 0 0] 30) := by rw [hU]; exact blk_new V _
      clear hU
      have a0 := blk_cell gA 0
      have a1 := blk_cell gA 1
      have a2 := blk_cell gA 2
      have a3 := blk_cell gA 3
      have a4 := blk_cell gA 4
      have a5 := blk_cell gA 5
      have a6 := blk_cell gA 6
      have a7 := blk_cell gA 7
      have a8 := blk_cell gA 8
      have a9 := blk_cell gA 9
      have a10 := blk_cell gA 10
      clear gA
      have HC2 := Lib.hid (evown0_calls V1 kd (HOS.out.below hw9) HSM.out)
      unfold evV at HC2
      have HBV := Lib.hid (bl_next HBr.out hw9)
      have HY1 := Lib.hid (HY.out.2.1.below hw9)
      have HYE := Lib.hid (And.intro HY.out.1 HY.out.2.2)
      have hyl : ys.length ≤ 1000000 := by have := HY.out.1; have := HL.out; omega
      clear hw9 HY HOS
      go_wp2_with (first | (go_at_call 17; refine HC2.out.mono ?_; rintro e w2 ⟨gx, A2, c2, rfl, HF, hb⟩; have HY2 := Lib.hid (HY1.out.below hb); have HB2 := Lib.hid (bl_next HBV.out hb); have HF2 := Lib.hid (And.intro (HF.out.1.mono HBV.out.size) (HF.out.2.mono HBV.out.size)); clear hb HF) | (at_builtin; refine app_ey rfl (.tmp 17) (.tmp 20) rfl w.heap.size _ (.slice av k cv) ys kd o gx o.charge.length o.charge.length A2 c2 rfl HY2.out.row 1 rfl HB2.out.size (by omega) ?_; intro g3 cap w3 hown' hk'; have HN := Lib.hid (LogF.snoc (p := ((kd, (o, Value.slice (some ⟨gx, 0, none⟩) o.charge.length o.charge.length)), Value.slice A2 0 c2)) HY2.out HF2.out hown' hk'); have HB3 := Lib.hid (HB2.out.trans (hk'.below HB2.out.size (fun q hq => (rw_type HY2.out.row hq).1))); clear hown' hk'))
      go_roundw
      case rel => exact ⟨k + 1, _, cap, ys ++ [_], by simp, by omega, by rw [HYE.out.1], Lib.hid ⟨by simp [HYE.out.1], by rw [HYE.out.1] at HN; exact HN.out, by rw [HT.out, ← HYE.out.2]; simp [lyOf]⟩, HB3⟩
      case measure => simp [intOf]; omega
    · obtain rfl : k = L.length := by omega
      go_wp2_with fail
      go_ret
      exact ⟨_, ys, rfl, HY.out.2.1, by rw [HY.out.2.2, show L.length = (lxOf L).length by simp [lxOf], List.take_length], HBr.out⟩
end Go.Proofs.Ythhfcambdmdgfaa
namespace Go.Proofs.Ythhfcambdmdgfaa
open Go.RowKit Go.Maps
set_option linter.unusedVariables false
set_option linter.unusedSimpArgs false
theorem slice_rows {α β : Type} [Inhabited β] {kd : Kd α} {w : World} {ok : Nat → Prop} {A : Option Addr} {c sz : Nat} {l : List α} (hsz : kd.sz = sz) (hpos : 0 < sz) (f : β → List Value) (hf : ∀ x, (f x).length = sz) (P : α → β → Prop)
    (hK : ∀ a cs, kd.K w ok a cs → ∃ x, cs = f x ∧ P a x) (hc : l.length ≤ c) (h : Row kd w ok A l) :
    ∃ xs : List β, xs.length = l.length ∧ SliS w (.slice A l.length c) sz xs.length (xs.flatMap f) ∧ ∀ i (h1 : i < l.length) (h2 : i < xs.length), P (l[i]'h1) (xs[i]'h2) := by
  rcases h with rfl | ⟨b, off, rfl, _, _, hr⟩
  · exact ⟨[], rfl, ⟨by simp, A, c, rfl, hc, .inl rfl⟩, fun i h1 => absurd h1 (Nat.not_lt_zero _)⟩
  · have hy : ∀ i, i < l.length → ∃ x : β, ∃ hi : i < l.length, cellsAt w b (off + i * sz) (f x) ∧ P (l[i]'hi) x := fun i hi => by
      obtain ⟨cs, h1, h2⟩ := hr i hi
      obtain ⟨x, rfl, h3⟩ := hK _ _ h2
      rw [hsz] at h1
      exact ⟨x, hi, h1, h3⟩
    obtain ⟨g, hg⟩ := Go.Deep.choose_lt hy
    obtain ⟨xs, hxs⟩ : ∃ xs : List β, xs = (List.range l.length).map fun i => g i := ⟨_, rfl⟩
    have hlen : xs.length = l.length := by rw [hxs]; simp
    have hget : ∀ i (hi : i < xs.length), xs[i]'hi = g i := fun i hi => by subst hxs; simp
    have hfl : (xs.flatMap f).length = xs.length * sz := by
      clear hget hlen hxs
      induction xs with
      | nil => simp
      | cons a r ih => rw [List.flatMap_cons, List.length_append, hf, ih, List.length_cons, Nat.succ_mul, Nat.add_comm]
    refine ⟨xs, hlen, ⟨hfl, _, _, by rw [hlen], by rw [hlen]; exact hc, .inr ⟨b, off, rfl, fun j u hu => ?_⟩⟩, fun i h1 h2 => ?_⟩
    · have hj : j < xs.length * sz := by have := (List.getElem?_eq_some_iff.1 hu).1; rwa [hfl] at this
      have hi : j / sz < xs.length := by rw [Nat.div_lt_iff_lt_mul hpos]; exact hj
      obtain ⟨hi2, h1, _⟩ := hg (j / sz) (by omega)
      have hm := Nat.mod_lt j hpos
      have e := flat_at f sz hf xs (j / sz) hi (j % sz) hm
      have hd : j / sz * sz + j % sz = j := by rw [Nat.mul_comm]; exact Nat.div_add_mod j sz
      rw [hd, hu, hget _ hi] at e
      have := h1 (j % sz) u e.symm
      rwa [Nat.add_assoc, hd] at this
    · rw [hget i h2]
      obtain ⟨_, _, h3⟩ := hg i h1
      exact h3
end Go.Proofs.Ythhfcambdmdgfaa
namespace Go.Proofs.Ythhfcambdmdgfaa
open Go.RowKit Go.Maps Srt
set_option linter.unusedVariables false
set_option linter.unusedSimpArgs false
set_option linter.unusedSectionVars false
theorem ranges_kept {X : Nat → Prop} {H : Type} {P : Program} {k : TypeId} {R : Value → Option (DataW H × List MemPlace)} {w w' : World} {b r n : Nat} {D : DataW H} {left : Lit → Bool} {cnt : Nat}
    (h : w.ranges P k R b r n D left cnt) (hk : Kept X w w') (hb : ¬ X b) (hr : ¬ X r) : w'.ranges P k R b r n D left cnt := by
  obtain ⟨es, clock, since, seen, c0, hb', F, hs, hD, hr', rest⟩ := h
  exact ⟨es, clock, since, seen, c0, hk.heap hb' hb, F, hs, hD, hk.heap hr' hr, rest⟩
def fO (p : OX) : Value := .agg (objX p).toArray
/-- The entry that has come is one of the map's. -/
theorem met_next {M : AM KS OX} {kl : Lit} {c : Value} {yd : DataW Value} {yp : List MemPlace} (hl : Maps.has (dmA kL fO M) kl = true) (hv : RV c = some (yd, yp)) (hat : ∀ zd, (dmA kL fO M).atKey kl zd = yd) :
    ∃ p ∈ M, kl = kL p.1 ∧ c = fO p.2 := by
  have h : (M.map (fun p : KS × OX => ((kL p.1, DataW.held (fO p.2)) : Lit × DataW Value))).any (fun p => p.1.sameKey kl) = true := hl
  rw [List.any_map, List.any_eq_true] at h
  obtain ⟨q, hq, hs⟩ := h
  have e : kL q.1 = kl := Go.WideAt.sameKey_eq hs
  subst e
  rw [has_dmA kL_lit, hasA_get] at hl
  obtain ⟨v, hg⟩ := Option.isSome_iff_exists.1 hl
  refine ⟨(q.1, v), getA_mem hg, rfl, ?_⟩
  have z := val_dmA kL_lit fO M q.1 (.int .i64 0)
  rw [hg] at z
  unfold valAt at z
  rw [hat] at z
  cases hv
  exact z
theorem fst_inj {α β : Type} : ∀ {l : List (α × β)} {p q : α × β}, (l.map (·.1)).Nodup → p ∈ l → q ∈ l → p.1 = q.1 → p = q
  | a :: r, p, q, h, hp, hq, e => by
    rw [List.map_cons, List.nodup_cons] at h
    rcases List.mem_cons.1 hp with h1 | h1
    · rcases List.mem_cons.1 hq with h2 | h2
      · rw [h1, h2]
      · exact absurd (List.mem_map.2 ⟨q, h2, by rw [← e, h1]⟩) h.1
    · rcases List.mem_cons.1 hq with h2 | h2
      · exact absurd (List.mem_map.2 ⟨p, h1, by rw [e, h2]⟩) h.1
      · exact fst_inj h.2 h1 h2 e
/-- What has been met so far of a map that is ranged over. -/
structure Met (M : AM KS OX) (left : Lit → Bool) (N : AM KS OX) : Prop where
  sub : ∀ q ∈ N, q ∈ M ∧ left (kL q.1) = false
  all : ∀ q ∈ M, q ∈ N ∨ left (kL q.1) = true
  nod : (N.map (·.1)).Nodup
  has : ∀ z, left z = true → Maps.has (dmA kL fO M) z = true
theorem Met.start (M : AM KS OX) : Met M (Maps.has (dmA kL fO M)) [] where
  sub := by rintro q ⟨⟩
  all := fun q hq => .inr (by rw [has_dmA kL_lit]; unfold hasA; rw [List.any_eq_true]; exact ⟨q, hq, by simp⟩)
  nod := List.nodup_nil
  has := fun z h => h
theorem Met.step {M N : AM KS OX} {left : Lit → Bool} (h : Met M left N) (hk : (M.map (·.1)).Nodup) {p : KS × OX} (hp : p ∈ M) (hl : left (kL p.1) = true) : Met M (fun z => left z && !z.sameKey (kL p.1)) (N ++ [p]) where
  sub := fun q hq => by
    rcases List.mem_append.1 hq with r | r
    · exact ⟨(h.sub q r).1, by simp [(h.sub q r).2]⟩
    · obtain rfl := List.mem_singleton.1 r
      exact ⟨hp, by rw [kL_lit.same]; simp⟩
  all := fun q hq => by
    by_cases e : q.1 = p.1
    · left
      have : q = p := fst_inj hk hq hp e
      rw [this]; simp
    · rcases h.all q hq with r | r
      · exact .inl (List.mem_append_left _ r)
      · right; show (left (kL q.1) && !(kL q.1).sameKey (kL p.1)) = true
        rw [r, kL_lit.same, decide_eq_false e]; rfl
  nod := by
    rw [List.map_append, List.nodup_append]
    refine ⟨h.nod, by simp, ?_⟩
    intro a ha b hb e
    obtain ⟨q, hq, rfl⟩ := List.mem_map.1 ha
    obtain rfl : b = p.1 := by simpa using hb
    have := (h.sub q hq).2
    rw [e, hl] at this; cases this
  has := fun z hz => by
    simp only [Bool.and_eq_true] at hz
    exact h.has z hz.1
theorem nodup_fst {α β : Type} : ∀ {l : List (α × β)}, (l.map (·.1)).Nodup → l.Nodup
  | [], _ => List.nodup_nil
  | a :: r, h => by
    rw [List.map_cons, List.nodup_cons] at h
    exact List.nodup_cons.2 ⟨fun e => h.1 (List.mem_map.2 ⟨a, e, rfl⟩), nodup_fst h.2⟩
theorem Met.perm {M N : AM KS OX} {left : Lit → Bool} (h : Met M left N) (hk : (M.map (·.1)).Nodup) (hl : ∀ z, left z = false) : N.Perm M :=
  (List.perm_ext_iff_of_nodup (nodup_fst h.nod) (nodup_fst hk)).2 fun q => ⟨fun r => (h.sub q r).1, fun r => (h.all q r).elim id (fun e => by rw [hl] at e; cases e)⟩
/-- Lists of the same things, whose texts differ, are sorted alike. -/
theorem srtX_perm {α : Type} {t : α → ByteArray} {l m : List α} (hp : l.Perm m) (hn : (m.map t).Nodup) : srtX t l = srtX t m := by
  refine (srtX_of (srtX_srt m) (Stab.trans (K := t) (fun c => ?_) (Stab_symm (srtX_stab m)))).symm
  have q : (l.filter (fun x => decide (t x = c))).Perm (m.filter (fun x => decide (t x = c))) := hp.filter _
  have z : ∀ m : List α, (m.map t).Nodup → (m.filter (fun x => decide (t x = c))).length ≤ 1 := by
    intro m
    induction m with
    | nil => intro _; simp
    | cons a r ih =>
      intro h
      rw [List.map_cons, List.nodup_cons] at h
      rw [List.filter_cons]
      by_cases e : t a = c
      · rw [if_pos (by simpa using e)]
        have : r.filter (fun x => decide (t x = c)) = [] := by
          rw [List.filter_eq_nil_iff]
          intro x hx
          simp only [decide_eq_true_eq]
          intro e2
          exact h.1 (List.mem_map.2 ⟨x, hx, e2.trans e.symm⟩)
        rw [this]; simp
      · rw [if_neg (by simpa using e)]; exact ih h.2
  have z := z m hn
  generalize m.filter (fun x => decide (t x = c)) = b at q z
  cases b with
  | nil => exact q.eq_nil
  | cons x r =>
    obtain rfl : r = [] := by cases r with
      | nil => rfl
      | cons y s => simp at z
    exact List.perm_singleton.1 q
end Go.Proofs.Ythhfcambdmdgfaa
namespace Go.Proofs.Ythhfcambdmdgfaa
open Go.RowKit Go.Maps Srt
set_option linter.unusedVariables false
set_option linter.unusedSimpArgs false
def SnapO (w : World) (ver : Int) (l : List ObjD) (e : Ending) (w' : World) : Prop := ∃ v zs, e = .returned (evV 2 zeroO (.slice none 0 0) ver v) ∧ ObjsF w' w.heap.size v zs ∧ oxs zs = srtX kTO l ∧ Below w.heap.size w w'
theorem ranges_ne {H : Type} {P : Program} {k : TypeId} {R : Value → Option (DataW H × List MemPlace)} {w : World} {b r n : Nat} {D : DataW H} {left : Lit → Bool} {cnt : Nat} {base : Nat} {e : TypeId} {sz m : Nat} {v : Value} {xs : List Value}
    (h : w.ranges P k R b r n D left cnt) (hr : w.ownsRow base e sz v m xs) : v.ownBlock ≠ some b ∧ v.ownBlock ≠ some r := by
  obtain ⟨es, clock, since, seen, c0, hb', F, hs, hD, hr', rest⟩ := h
  refine ⟨fun q => ?_, fun q => ?_⟩
  · obtain ⟨_, cs, hc⟩ := rw_type hr q
    rw [hb'] at hc; cases hc
  · obtain ⟨_, cs, hc⟩ := rw_type hr q
    rw [hr'] at hc; cases hc
set_option maxRecDepth 100000 in
set_option maxHeartbeats 8000000 in
theorem ssnapshot_calls (w : World) {base sp mb : Nat} {ver : Int} {M : AM KS OX} {lv : Value} {L : List LX} (h : StoreAt w base sp mb ver M lv L) (hS : ∀ q ∈ M, objSmall q.2.1) (hK : (M.map (·.1)).Nodup) (hT : ((M.map (·.2.1)).map kTO).Nodup) (hM : M.length ≤ 1000000) :
    Calls Try.prog 34 #[.pointer (some ⟨sp, 0, none⟩)] w (SnapO w ver (M.map (·.2.1))) := by
  have hsp := h.ptr
  have m0 : w.cell? ⟨sp, 0, none⟩ = some (.map (some mb)) := blk_cell h.cell 0
  have m1 : w.cell? ⟨sp, 1, none⟩ = some (.int .i64 ver) := blk_cell h.cell 1
  have HST := Lib.hid h; have HS := Lib.hid hS; have HK := Lib.hid hK; have HT := Lib.hid hT; have HM := Lib.hid hM
  clear h hS hK hT hM
  go_enter Try.func34, Try.ntmps34
  go_upto_region 4 with fail
  first | with_reducible refine name_wp ?_ | with_reducible refine name_calls ?_
  intro W hW
  have Hw := Lib.hid (show Below w.heap.size w W by rw [hW]; exact (Below.refl _ _).alloc (Nat.le_refl _) _)
  have gW : W.heap[w.heap.size]? = some (.cells #[.int .i64 0, .string ⟨#[]⟩, .string ⟨#[]⟩, .string ⟨#[]⟩, .int .i64 0, .string ⟨#[]⟩, .bool false, .bool false, .slice none 0 0, .int .i64 0, .slice none 0 0] 30) := by rw [hW]; exact blk_new w _
  have bz0 : W.cell? ⟨w.heap.size, 0, none⟩ = some (.int .i64 0) := blk_cell gW 0
  have bz1 : W.cell? ⟨w.heap.size, 1, none⟩ = some (.string ⟨#[]⟩) := blk_cell gW 1
  have bz2 : W.cell? ⟨w.heap.size, 2, none⟩ = some (.string ⟨#[]⟩) := blk_cell gW 2
  have bz3 : W.cell? ⟨w.heap.size, 3, none⟩ = some (.string ⟨#[]⟩) := blk_cell gW 3
  have bz4 : W.cell? ⟨w.heap.size, 4, none⟩ = some (.int .i64 0) := blk_cell gW 4
  have bz5 : W.cell? ⟨w.heap.size, 5, none⟩ = some (.string ⟨#[]⟩) := blk_cell gW 5
  have bz6 : W.cell? ⟨w.heap.size, 6, none⟩ = some (.bool false) := blk_cell gW 6
  have bz7 : W.cell? ⟨w.heap.size, 7, none⟩ = some (.bool false) := blk_cell gW 7
  have bz8 : W.cell? ⟨w.heap.size, 8, none⟩ = some (.slice none 0 0) := blk_cell gW 8
  have bz9 : W.cell? ⟨w.heap.size, 9, none⟩ = some (.int .i64 0) := blk_cell gW 9
  have bz10 : W.cell? ⟨w.heap.size, 10, none⟩ = some (.slice none 0 0) := blk_cell gW 10
  have UF := Lib.hid (fun j => blk_free gW j)
  have UG := Lib.hid (show TyB W w.heap.size 30 from ⟨_, gW⟩)
  clear hW gW
  have n0 := cb Hw.out m0
  have n1 := cb Hw.out m1
  have HSW := Lib.hid (HST.out.below Hw.out)
  have hmbW : mb < W.heap.size := by
    obtain ⟨es, clock, hb, _⟩ := HSW.out.map
    exact blk_lt hb
  have HNIL := Lib.hid (show W.ownsRow W.heap.size 27 8 (.slice none 0 0) 0 (objC []) from ⟨rfl, .inl ⟨rfl, rfl⟩⟩)
  clear m0 m1
  go_wp2_with (at_range; refine wpList_range_own _ rfl _ 92 rfl 24 27 kS_keyed Try.underlying92 RV mb M.length (dmA kL fO M) rfl HSW.out.map ?_; intro w0 hrg0 hg0 hs0)
  go_frame
  go_loopw [3] (fun s wr => ∃ (left : Lit → Bool) (cnt : Nat) (N : AM KS OX) (A : Option Addr) (c : Nat), s = .slice A N.length c ∧ Hid (wr.ranges Try.prog 24 RV mb W.heap.size M.length (dmA kL fO M) left cnt) ∧ Hid (Met M left N ∧ N.length + cnt ≤ M.length ∧ wr.ownsRow W.heap.size 27 8 (.slice A N.length c) N.length (objC (N.map (·.2)))) ∧ Hid (Below W.heap.size W wr)) (fun _ wr => wr.rangeLeft mb W.heap.size)
  case atStart => exact ⟨_, _, [], none, 0, rfl, Lib.hid hrg0, Lib.hid ⟨Met.start M, by rw [size_dmA kL_lit]; simp, rw_below HNIL.out ((Below.refl _ _).grown hg0 (Nat.le_refl _) (fun j hj => by cases hj))⟩, Lib.hid ((Below.refl _ _).grown hg0 (Nat.le_refl _) (fun j hj => by cases hj))⟩
  case round =>
    obtain ⟨left, cnt, N, A, c, rfl, HRG, HMT, HBr⟩ := hrel
    have hrg := HRG.out
    go_wp2_with (at_next; refine wpList_next_ranges _ rfl _ rfl 24 kS_keyed RV (fun x : Value => x) (fun x : Value => x) (fun key kl _ => ⟨key, rfl⟩) (fun v y _ => ⟨v, rfl⟩) mb W.heap.size M.length _ _ _ rfl hrg ?_ ?_)
    · intro _ hl0
      have HP := Lib.hid (HMT.out.1.perm HK.out hl0)
      have hro := ranges_ne HRG.out HMT.out.2.2
      have HNL := Lib.hid (show N.length ≤ 1000000 by have := HMT.out.2.1; have := HM.out; omega)
      obtain ⟨ys, hys⟩ : ∃ ys, ys = N.map (·.2) := ⟨_, rfl⟩
      have hyl : ys.length = N.length := by rw [hys]; simp
      have hymem : ∀ p ∈ ys, ∃ q ∈ M, q.2 = p := fun p hp => by
        rw [hys] at hp
        obtain ⟨q, hq, e⟩ := List.mem_map.1 hp
        exact ⟨q, (HMT.out.1.sub q hq).1, e⟩
      have HYX := Lib.hid (show ObjsS wr (.slice A N.length c) ys from ⟨by rw [hyl]; have q := HMT.out.2.2; rw [← hys] at q; exact sliS_of q, fun p hp => by
        obtain ⟨q, hq, rfl⟩ := hymem p hp
        have z := HSW.out.resM q hq
        exact ObjS.below ⟨z.1.resS z.2.1.2, z.2.1.1⟩ HBr.out⟩)
      have HYSM := Lib.hid (show OSmall (oxs ys) from fun o ho => by
        obtain ⟨p, hp, rfl⟩ := List.mem_map.1 ho
        obtain ⟨q, hq, rfl⟩ := hymem p hp
        exact HS.out q hq)
      have HSRT := Lib.hid (show srtX kTO (oxs ys) = srtX kTO (M.map (·.2.1)) by
        refine srtX_perm ?_ HT.out
        have q := HP.out.map (fun p : KS × OX => p.2.1)
        rw [hys]; unfold oxs; rw [List.map_map]; exact q)
      have HSC := Lib.hid (fun (U : World) (hb : Below wr.heap.size wr U) => evsorted_calls U (HYX.out.below hb) HYSM.out (by rw [hyl]; exact HNL.out))
      have HWW := Lib.hid (show w.heap.size < W.heap.size from lt_of_cell bz0)
      have o1 := cb HBr.out n1
      have e0 := cb HBr.out bz0
      have e1 := cb HBr.out bz1
      have e2 := cb HBr.out bz2
      have e3 := cb HBr.out bz3
      have e4 := cb HBr.out bz4
      have e5 := cb HBr.out bz5
      have e6 := cb HBr.out bz6
      have e7 := cb HBr.out bz7
      have e8 := cb HBr.out bz8
      have e9 := cb HBr.out bz9
      have e10 := cb HBr.out bz10
      have HUF := Lib.hid (fun j => fb HBr.out (a := ⟨w.heap.size, j, none⟩) HWW.out (UF.out j))
      have HTY := Lib.hid (TyB.below UG.out HBr.out)
      have HBw := Lib.hid (bl_from Hw.out HBr.out)
      clear hrg hys hyl hymem hro n0 n1 hl0 hmbW hrg0 hg0 hs0 bz0 bz1 bz2 bz3 bz4 bz5 bz6 bz7 bz8 bz9 bz10
      go_upto_region 8 with fail
      have hB := Below.refl wr.heap.size wr
      have hB := hB.drew
      refine region_seqM (fun w' => Below wr.heap.size wr w') 7 [(0, 1), (1, 1), (2, 1), (3, 1), (4, 1), (5, 0), (6, 1), (7, 0)] (by kernel_rfl) (by kernel_rfl) (fun _ _ _ _ h => h) hB ?_
      try generalize World.drew _ = wS at hB ⊢
      refine sm_take (v := ?_) (a' := ?_) (some 22) rfl rfl (by rfl) ?_ ?_ ?_
      rotate_left; rotate_left
      · intro w' hS; go_simp; with_reducible rfl
      · simp only [Act.put, List.setIfInBounds_toArray, List.set_cons_zero, List.set_cons_succ]; rfl
      refine sm_take (v := ?_) (a' := ?_) (some 23) rfl rfl (by rfl) ?_ ?_ ?_
      rotate_left; rotate_left
      · intro w' hS; go_simp; with_reducible rfl
      · simp only [Act.put, List.setIfInBounds_toArray, List.set_cons_zero, List.set_cons_succ]; rfl
      refine sm_take (v := ?_) (a' := ?_) (some 24) rfl rfl (by rfl) ?_ ?_ ?_
      rotate_left; rotate_left
      · intro w' hS; go_simp; with_reducible rfl
      · simp only [Act.put, List.setIfInBounds_toArray, List.set_cons_zero, List.set_cons_succ]; rfl
      refine sm_take (v := ?_) (a' := ?_) (some 25) rfl rfl (by rfl) ?_ ?_ ?_
      rotate_left; rotate_left
      · intro w' hS; have p0 := cb hS o1; go_simp; with_reducible rfl
      · simp only [Act.put, List.setIfInBounds_toArray, List.set_cons_zero, List.set_cons_succ]; rfl
      refine sm_take (v := ?_) (a' := ?_) (some 26) rfl rfl (by rfl) ?_ ?_ ?_
      rotate_left; rotate_left
      · intro w' hS; go_simp; with_reducible rfl
      · simp only [Act.put, List.setIfInBounds_toArray, List.set_cons_zero, List.set_cons_succ]; rfl
      refine sm_call (args := ?_) Try.func19 (by kernel_rfl) rfl (some 27) rfl rfl (by rfl) rfl rfl ?_ ?_
      rotate_left
      · simp only [List.map_toArray, List.map_cons, List.map_nil]; go_simp; rfl
      with_reducible refine ((HSC.out _ hB)).mono ?_
      rintro e w' ⟨v2, zs, rfl, HZ, hzo, hb⟩
      obtain ⟨A2, c2, rfl⟩ := HZ.form; have HZ2 := Lib.hid (HZ.mono (b' := wr.heap.size) hB.size); have HZO := Lib.hid hzo; clear HZ hzo
      refine ⟨_, rfl, .inr (bl_next (by repeat (first | with_reducible exact hB | refine Below.alloc ?_ (by have := hB.size; simp; omega) _ | refine bl_dN ?_ _ | refine Below.drew ?_ | refine Below.setCell ?_ (by have := hB.size; simp; omega) _)) hb), ?_⟩
      have hB := bl_next (by repeat (first | with_reducible exact hB | refine Below.alloc ?_ (by have := hB.size; simp; omega) _ | refine bl_dN ?_ _ | refine Below.drew ?_ | refine Below.setCell ?_ (by have := hB.size; simp; omega) _)) hb; clear hb
      simp only [Act.put, List.setIfInBounds_toArray, List.set_cons_zero, List.set_cons_succ]
      refine sm_take (v := ?_) (a' := ?_) (some 28) rfl rfl (by rfl) ?_ ?_ ?_
      rotate_left; rotate_left
      · intro w' hS; go_simp; with_reducible rfl
      · simp only [Act.put, List.setIfInBounds_toArray, List.set_cons_zero, List.set_cons_succ]; rfl
      refine sm_store none rfl rfl (by rfl) ?_
      apply Exists.intro; apply And.intro
      · have k0 := cb hB e0; have kf0 := fb hB (lt_of_cell e0) (HUF.out 0); have k1 := cb hB e1; have kf1 := fb hB (lt_of_cell e1) (HUF.out 1); have k2 := cb hB e2; have kf2 := fb hB (lt_of_cell e2) (HUF.out 2); have k3 := cb hB e3; have kf3 := fb hB (lt_of_cell e3) (HUF.out 3); have k4 := cb hB e4; have kf4 := fb hB (lt_of_cell e4) (HUF.out 4); have k5 := cb hB e5; have kf5 := fb hB (lt_of_cell e5) (HUF.out 5); have k6 := cb hB e6; have kf6 := fb hB (lt_of_cell e6) (HUF.out 6); have k7 := cb hB e7; have kf7 := fb hB (lt_of_cell e7) (HUF.out 7); have k8 := cb hB e8; have kf8 := fb hB (lt_of_cell e8) (HUF.out 8); have k9 := cb hB e9; have kf9 := fb hB (lt_of_cell e9) (HUF.out 9); have k10 := cb hB e10; have kf10 := fb hB (lt_of_cell e10) (HUF.out 10); go_simp; first | exact ⟨rfl, rfl⟩ | rfl
      apply Exists.intro; apply And.intro
      · simp only [Act.put, List.setIfInBounds_toArray, List.set_cons_zero, List.set_cons_succ]; rfl
      apply And.intro
      · exact .inl rfl
      refine sm_done ?_
      have k0 := cb hB e0
      have k1 := cb hB e1
      have k2 := cb hB e2
      have k3 := cb hB e3
      have k4 := cb hB e4
      have k5 := cb hB e5
      have k6 := cb hB e6
      have k7 := cb hB e7
      have k8 := cb hB e8
      have k9 := cb hB e9
      have k10 := cb hB e10
      go_wp2_with fail
      refine name_body ?_
      intro Z hZ
      have hkZ : Kept (fun k => k = w.heap.size) w' Z := by
        rw [hZ]
        iterate 11 (refine Kept.setCell ?_ _ _ (.inl rfl))
        exact Kept.refl _ _
      have r0 : Z.cell? ⟨w.heap.size, 0, none⟩ = some (.int .i64 2) := by rw [hZ]; go_simp
      have r1 : Z.cell? ⟨w.heap.size, 1, none⟩ = some (.string ⟨#[]⟩) := by rw [hZ]; go_simp
      have r2 : Z.cell? ⟨w.heap.size, 2, none⟩ = some (.string ⟨#[]⟩) := by rw [hZ]; go_simp
      have r3 : Z.cell? ⟨w.heap.size, 3, none⟩ = some (.string ⟨#[]⟩) := by rw [hZ]; go_simp
      have r4 : Z.cell? ⟨w.heap.size, 4, none⟩ = some (.int .i64 0) := by rw [hZ]; go_simp
      have r5 : Z.cell? ⟨w.heap.size, 5, none⟩ = some (.string ⟨#[]⟩) := by rw [hZ]; go_simp
      have r6 : Z.cell? ⟨w.heap.size, 6, none⟩ = some (.bool false) := by rw [hZ]; go_simp
      have r7 : Z.cell? ⟨w.heap.size, 7, none⟩ = some (.bool false) := by rw [hZ]; go_simp
      have r8 : Z.cell? ⟨w.heap.size, 8, none⟩ = some (.slice none 0 0) := by rw [hZ]; go_simp
      have r9 : Z.cell? ⟨w.heap.size, 9, none⟩ = some (.int .i64 ver) := by rw [hZ]; go_simp
      have r10 : Z.cell? ⟨w.heap.size, 10, none⟩ = some (.slice A2 zs.length c2) := by rw [hZ]; go_simp
      clear hZ
      have hty := TyB.below HTY.out hB
      have hsz := hB.size
      have hww := HBw.out.size
      refine bodyPost_ret (v := .agg #[.int .i64 2, .string ⟨#[]⟩, .string ⟨#[]⟩, .string ⟨#[]⟩, .int .i64 0, .string ⟨#[]⟩, .bool false, .bool false, .slice none 0 0, .int .i64 ver, .slice A2 zs.length c2]) (by simp [results, Try.results34, go_sem, r0, r1, r2, r3, r4, r5, r6, r7, r8, r9, r10]) rfl ?_
      refine ⟨.slice A2 zs.length c2, zs, rfl, ?_, by rw [HZO.out, HSRT.out], (HBw.out.trans (hB.mono hww)).trans (hkZ.below (by omega) (fun j e => by omega))⟩
      refine (HZ2.out.mono (by omega)).kept hkZ (fun q e1 e2 => ?_) (fun q e cs hc => ?_)
      · subst e2
        obtain ⟨cs, hc⟩ := hty
        exact rw_other HZ2.out.1 hc (by decide) e1
      · subst e
        exact TyB.ne hty hc (by decide)
    · intro x cv kl yd yp w1 cnt1 hkx hlk hcy hat hrg1 hlt hg1 hs1 hen
      obtain ⟨p, hp, hkl, hcv⟩ := met_next (HMT.out.1.has kl hlk) hcy hat
      obtain ⟨k, o, so⟩ := p
      obtain ⟨g, hg⟩ := (HSW.out.resM _ hp).1.form
      simp only at hg hcv hkl
      subst hg
      subst hkl
      subst hcv
      have HM1 := Lib.hid (HMT.out.1.step HK.out hp hlk)
      have HB1 := Lib.hid (HBr.out.grown hg1 HBr.out.size (fun j hj => by cases hj; exact Nat.le_refl _))
      have HRG1 := Lib.hid hrg1
      have hro := ranges_ne HRG.out HMT.out.2.2
      have HO1 := Lib.hid (rw_kept (w' := w1) (X := fun q => q = W.heap.size) HMT.out.2.2 ((Kept.refl _ _).grown hg1 (fun j hj => by cases hj; exact .inl rfl)) (fun q e1 e2 => by subst e2; exact hro.2 e1))
      clear hro
      have HLE := Lib.hid (show N.length + 1 + cnt1 ≤ M.length by have := HMT.out.2.1; omega)
      have hen2 : (Instr.entry (.pointer (some ⟨W.heap.size, 0, none⟩))).run Try.prog w1 = .ok (.tuple #[x, .agg #[.string o.key.kind, .string o.key.space, .string o.key.name, .int .i64 o.ver, .string o.cls, .bool o.term, .bool o.best, .slice (some ⟨g, 0, none⟩) o.charge.length o.charge.length]]) w1 := hen
      have HLT := Lib.hid hlt
      have HLEFT := Lib.hid hrg.left_eq
      clear hrg hkx hlk hcy hat hrg1 hlt hg1 hs1 hen hp
      go_upto_region 7 with fail
      first | with_reducible refine name_wp ?_ | with_reducible refine name_calls ?_
      intro V1 hU
      have hw9 : Below w1.heap.size w1 V1 := by rw [hU]; exact (Below.refl w1.heap.size w1).alloc (Nat.le_refl _) _
      have gA : V1.heap[w1.heap.size]? = some (.cells #[.string o.key.kind, .string o.key.space, .string o.key.name, .int .i64 o.ver, .string o.cls, .bool o.term, .bool o.best, .slice (some ⟨g, 0, none⟩) o.charge.length o.charge.length] 27) := by rw [hU]; exact blk_new w1 _
      clear hU
      have a0 := blk_cell gA 0
      have a1 := blk_cell gA 1
      have a2 := blk_cell gA 2
      have a3 := blk_cell gA 3
      have a4 := blk_cell gA 4
      have a5 := blk_cell gA 5
      have a6 := blk_cell gA 6
      have a7 := blk_cell gA 7
      have HBV := Lib.hid (bl_next HB1.out hw9)
      have HRG2 := Lib.hid (ranges_kept HRG1.out (kept_of_below (X := fun _ => False) hw9) (fun q => q) (fun q => q))
      obtain ⟨ys, hys⟩ : ∃ ys, ys = N.map (·.2) := ⟨_, rfl⟩
      have hyl : ys.length = N.length := by rw [hys]; simp
      have HY1 := Lib.hid (show V1.ownsRow W.heap.size 27 8 (.slice A N.length c) ys.length (objC ys) by rw [hyl, hys]; exact rw_below HO1.out hw9)
      have HYL := Lib.hid hyl; have HYS := Lib.hid hys
      have hyb : ys.length ≤ 1000000 := by have := HLE.out; have := HM.out; omega
      clear gA hw9 hyl hys HO1 HRG1
      go_wp2_with (at_builtin; refine app_obj rfl (.tmp 18) (.tmp 20) rfl W.heap.size _ (.slice A N.length c) ys (o, Value.slice (some ⟨g, 0, none⟩) o.charge.length o.charge.length) _ _ _ rfl rfl HY1.out 1 rfl HBV.out.size (by omega) ?_; intro g3 cap w3 hown' hk'; have HN := Lib.hid hown'; have HB3 := Lib.hid (HBV.out.trans (row_below HY1.out hk' HBV.out.size)); have hro := ranges_ne HRG2.out HY1.out; have HRG3 := Lib.hid (ranges_kept HRG2.out hk' hro.1 hro.2); clear hown' hk' hro)
      go_roundw
      case rel => exact ⟨_, cnt1, N ++ [(k, (o, Value.slice (some ⟨g, 0, none⟩) o.charge.length o.charge.length))], some ⟨g3, 0, none⟩, cap, by rw [HYL.out]; simp, HRG3, Lib.hid ⟨HM1.out, by simp; have := HLE.out; omega, by
        have q := HN.out
        rw [HYL.out] at q
        rw [HYS.out] at q
        simpa using q⟩, HB3⟩
      case measure => rw [HRG3.out.left_eq, HRG.out.left_eq]; exact HLT.out
end Go.Proofs.Ythhfcambdmdgfaa
namespace Go.Proofs.Ythhfcambdmdgfaa
open Go.RowKit Go.Maps
set_option linter.unusedVariables false
set_option linter.unusedSimpArgs false
abbrev WX := Bool × OX
def wX (p : WX) : List Value := .bool p.1 :: objX p.2
def wC (xs : List WX) : List Value := xs.flatMap wX
def WrS (w : World) (v : Value) (xs : List WX) : Prop := SliS w v 9 xs.length (wC xs) ∧ ∀ p ∈ xs, ObjS w p.2.2 p.2.1
structure WrAt (w : World) (b off : Nat) (p : WX) : Prop where
  c0 : w.cell? ⟨b, off, none⟩ = some (.bool p.1)
  c1 : w.cell? ⟨b, off + 1, none⟩ = some (.string p.2.1.key.kind)
  c2 : w.cell? ⟨b, off + 2, none⟩ = some (.string p.2.1.key.space)
  c3 : w.cell? ⟨b, off + 3, none⟩ = some (.string p.2.1.key.name)
  c4 : w.cell? ⟨b, off + 4, none⟩ = some (.int .i64 p.2.1.ver)
  c5 : w.cell? ⟨b, off + 5, none⟩ = some (.string p.2.1.cls)
  c6 : w.cell? ⟨b, off + 6, none⟩ = some (.bool p.2.1.term)
  c7 : w.cell? ⟨b, off + 7, none⟩ = some (.bool p.2.1.best)
  c8 : w.cell? ⟨b, off + 8, none⟩ = some (p.2.2)
theorem WrS.form {w : World} {v : Value} {xs : List WX} (h : WrS w v xs) : ∃ A c, v = .slice A xs.length c := h.1.form
theorem WrS.below {w w' : World} {v : Value} {xs : List WX} (h : WrS w v xs) (hb : Below w.heap.size w w') : WrS w' v xs := ⟨h.1.below hb, fun p hp => (h.2 p hp).below hb⟩
theorem WrAt.below {w w' : World} {b off : Nat} {p : WX} (h : WrAt w b off p) (hb : Below w.heap.size w w') : WrAt w' b off p := ⟨cb hb h.c0, cb hb h.c1, cb hb h.c2, cb hb h.c3, cb hb h.c4, cb hb h.c5, cb hb h.c6, cb hb h.c7, cb hb h.c8⟩
theorem WrS.at' {w : World} {v : Value} {xs : List WX} (h : WrS w v xs) {k : Nat} (hk : k < xs.length) : ∃ b off c, v = .slice (some ⟨b, off, none⟩) xs.length c ∧ WrAt w b (off + k * 9) (xs[k]'hk) ∧ ObjS w (xs[k]'hk).2.2 (xs[k]'hk).2.1 := by
  obtain ⟨b, off, c, hv, _, hx⟩ := h.1.at' hk
  refine ⟨b, off, c, hv, ?_, h.2 _ (List.getElem_mem hk)⟩
  have z : ∀ j, j < 9 → ∀ u, (wX (xs[k]'hk))[j]? = some u → w.cell? ⟨b, off + k * 9 + j, none⟩ = some u := fun j hj u e => hx j hj u (by rw [show wC xs = xs.flatMap wX from rfl, flat_at wX 9 (fun _ => rfl) xs k hk j hj]; exact e)
  exact ⟨z 0 (by omega) _ rfl, z 1 (by omega) _ rfl, z 2 (by omega) _ rfl, z 3 (by omega) _ rfl, z 4 (by omega) _ rfl, z 5 (by omega) _ rfl, z 6 (by omega) _ rfl, z 7 (by omega) _ rfl, z 8 (by omega) _ rfl⟩
def WSmall (xs : List WX) : Prop := ∀ p ∈ xs, objSmall p.2.1
theorem wSmall_snoc {xs : List WX} {k : Nat} (hk : k < xs.length) (h : WSmall (xs.take k)) (q : objSmall (xs[k]'hk).2.1) : WSmall (xs.take (k + 1)) := by
  intro p hp
  rw [List.take_succ_eq_append_getElem hk] at hp
  rcases List.mem_append.1 hp with r | r
  · exact h p r
  · obtain rfl := List.mem_singleton.1 r; exact q
def FitW (w : World) (xs : List WX) (e : Ending) (w' : World) : Prop := ∃ f, e = .returned (.bool f) ∧ (f = true → WSmall xs ∧ xs.length ≤ 60) ∧ Below w.heap.size w w'
theorem fitW_no {w w' : World} {xs : List WX} (h : Below w.heap.size w w') : FitW w xs (.returned (.bool false)) w' := ⟨false, rfl, (fun h => by cases h), h⟩
theorem fitW_yes {w w' : World} {xs : List WX} (h : Below w.heap.size w w') (q : WSmall xs ∧ xs.length ≤ 60) : FitW w xs (.returned (.bool true)) w' := ⟨true, rfl, (fun _ => q), h⟩
set_option maxRecDepth 100000 in
set_option maxHeartbeats 8000000 in
theorem fits9_calls (w : World) {v : Value} {xs : List WX} (h : WrS w v xs) : Calls Try.prog 26 #[v] w (FitW w xs) := by
  have HX := Lib.hid h
  obtain ⟨al, cl, rfl⟩ := h.form
  clear h
  have hB := Below.refl w.heap.size w
  go_enter Try.func26, Try.ntmps26
  by_cases h60 : xs.length ≤ 60
  · have i60 : ¬ (60 : Int) < xs.length := by omega
    have H60 := Lib.hid h60
    go_wp2_with fail
    go_loopw [3] (fun i wr => ∃ k : Nat, i = .int .i64 k ∧ k ≤ xs.length ∧ Hid (WSmall (xs.take k)) ∧ Below w.heap.size w wr) (fun i _ => xs.length - (intOf i).toNat)
    case atStart => exact ⟨0, rfl, Nat.zero_le _, Lib.hid (by intro p hp; cases hp), hB⟩
    case round =>
      clear hB
      obtain ⟨k, rfl, hk, HT, hB⟩ := hrel
      by_cases hkl : k < xs.length
      · have hkI : (k : Int) < xs.length := by omega
        obtain ⟨b, of, c, he, q, s⟩ := HX.out.at' hkl
        cases he
        have HST := Lib.hid (wSmall_snoc hkl HT.out)
        generalize xs[k]'hkl = x at q s HST
        obtain ⟨gone, o, so⟩ := x
        simp only at s HST
        obtain ⟨ao, co, rfl⟩ := s.1.form
        have q := q.below hB
        have d0 := q.c0
        have d1 := q.c1
        have d2 := q.c2
        have d3 := q.c3
        have d4 := q.c4
        have d5 := q.c5
        have d6 := q.c6
        have d7 := q.c7
        have d8 := q.c8
        have HF := Lib.hid (fits5_calls _ (s.below hB))
        unfold objV at HF
        clear q s
        go_upto_region 7 with (go_at_call 55; ((with_reducible refine HF.out.mono ?_); rintro e w' ⟨f, rfl, hf, hb⟩; have HFF := Lib.hid hf; clear hf; have hB := bl_next hB hb; clear hb))
        cases f with
        | false =>
          go_wp2_with fail
          go_ret
          exact fitW_no hB
        | true =>
          have HOK := Lib.hid (HST.out (fit_small' (o := o) (HFF.out rfl)))
          go_wp2_with fail
          go_roundw
          case rel => exact ⟨k + 1, by simp, by omega, HOK, hB⟩
          case measure => simp [intOf]; omega
      · obtain rfl : k = xs.length := by omega
        have hT := HT.out
        rw [List.take_length] at hT
        go_wp2_with fail
        go_ret
        exact fitW_yes hB ⟨hT, H60.out⟩
  · have i60 : (60 : Int) < xs.length := by omega
    go_wp2_with fail
    go_ret
    exact fitW_no hB
theorem act9_form {w : World} {base sp mb : Nat} {ver : Int} {M1 : Value → AM KS OX} {lv : Value} {L : List LX} {kd : Int} {o : ObjD} {er : Int} {e : Ending} {w' : World} (h : Act9 w base sp mb ver M1 lv L kd o er e w') : ∃ vv : Int, e = .returned (.tuple #[.int .i64 vv, .int .i64 er]) ∧ Act9 w base sp mb ver M1 lv L kd o er (.returned (.tuple #[.int .i64 vv, .int .i64 er])) w' := by
  have h' := h
  rcases h with ⟨_, rfl, _⟩ | ⟨he, lv', x, y, rfl, _⟩
  · exact ⟨0, rfl, h'⟩
  · subst he; exact ⟨ver + 1, rfl, h'⟩
theorem act9_from {w W : World} {base sp mb : Nat} {ver : Int} {M1 : Value → AM KS OX} {lv : Value} {L : List LX} {kd : Int} {o : ObjD} {er : Int} {e : Ending} {w' : World} (hb : Below w.heap.size w W) (h : Act9 W base sp mb ver M1 lv L kd o er e w') : Act9 w base sp mb ver M1 lv L kd o er e w' := by
  rcases h with ⟨h1, h2, h3⟩ | ⟨h1, lv', x, y, h2, h3, h4⟩
  · exact .inl ⟨h1, h2, bl_from hb h3⟩
  · exact .inr ⟨h1, lv', x, y, h2, h3, (kept_of_below (X := fun b => b = sp ∨ b = mb ∨ lv.ownBlock = some b) hb).trans h4 (fun _ q => .inl q)⟩
/-- What a write answers. -/
def wErr (M : AM KS OX) (k : KS) (gone : Bool) (o : ObjD) : Int := if gone then delErr M k else putErr M k o
noncomputable def wMap (M : AM KS OX) (k : KS) (gone : Bool) (o : ObjD) (ver : Int) (y : Value) : AM KS OX := if gone then delA M k else putA ltKS M k ({ o with ver := ver + 1 }, y)
def wObj (gone : Bool) (o : ObjD) : ObjD := if gone then goneO o.key else o
def wKind (gone : Bool) : Int := if gone then 1 else 0
set_option maxRecDepth 100000 in
set_option maxHeartbeats 8000000 in
theorem do_calls (w : World) {base sp mb : Nat} {ver : Int} {M : AM KS OX} {lv : Value} {L : List LX} (h : StoreAt w base sp mb ver M lv L) (gone : Bool) {o : ObjD} {k : KS} {sl : Value} (hk : k.1 = o.key)
    (hO : ∀ U, Kept (fun b => b = sp ∨ b = mb ∨ lv.ownBlock = some b) w U → ObjS U sl o) (hs : objSmall o) (hv : 0 ≤ ver ∧ ver ≤ 1000000000) (hM : M.length ≤ 1000000) (hL : L.length ≤ 1000000) :
    Calls Try.prog 29 #[.pointer (some ⟨sp, 0, none⟩), .agg #[.bool gone, .string o.key.kind, .string o.key.space, .string o.key.name, .int .i64 o.ver, .string o.cls, .bool o.term, .bool o.best, sl]] w (Act9 w base sp mb ver (wMap M k gone o ver) lv L (wKind gone) (wObj gone o) (wErr M k gone o)) := by
  obtain ⟨ao, co, rfl⟩ := (hO w (Kept.refl _ _)).1.form
  have HP := Lib.hid (fun (U : World) (hb : Below w.heap.size w U) => sput_calls U (h.below hb) (k := k) hk (fun X hX => hO X ((kept_of_below (X := fun b => b = sp ∨ b = mb ∨ lv.ownBlock = some b) hb).trans hX (fun _ q => .inl q))) hs hv hM hL)
  have HD := Lib.hid (fun (U : World) (hb : Below w.heap.size w U) => sdelete_calls U (h.below hb) k hv hM hL)
  unfold objV at HP
  rw [hk] at HD
  clear h hO hs hv hM hL
  go_enter Try.func29, Try.ntmps29
  go_upto_region 1 with fail
  first | with_reducible refine name_wp ?_ | with_reducible refine name_calls ?_
  intro W hW
  have Hw := Lib.hid (show Below w.heap.size w W by rw [hW]; exact (Below.refl _ _).alloc (Nat.le_refl _) _)
  have b0 : W.cell? ⟨w.heap.size, 0, none⟩ = some (.bool gone) := by rw [hW]; exact blk_cell (blk_new w _) 0
  have b1 : W.cell? ⟨w.heap.size, 1, none⟩ = some (.string o.key.kind) := by rw [hW]; exact blk_cell (blk_new w _) 1
  have b2 : W.cell? ⟨w.heap.size, 2, none⟩ = some (.string o.key.space) := by rw [hW]; exact blk_cell (blk_new w _) 2
  have b3 : W.cell? ⟨w.heap.size, 3, none⟩ = some (.string o.key.name) := by rw [hW]; exact blk_cell (blk_new w _) 3
  have b4 : W.cell? ⟨w.heap.size, 4, none⟩ = some (.int .i64 o.ver) := by rw [hW]; exact blk_cell (blk_new w _) 4
  have b5 : W.cell? ⟨w.heap.size, 5, none⟩ = some (.string o.cls) := by rw [hW]; exact blk_cell (blk_new w _) 5
  have b6 : W.cell? ⟨w.heap.size, 6, none⟩ = some (.bool o.term) := by rw [hW]; exact blk_cell (blk_new w _) 6
  have b7 : W.cell? ⟨w.heap.size, 7, none⟩ = some (.bool o.best) := by rw [hW]; exact blk_cell (blk_new w _) 7
  have b8 : W.cell? ⟨w.heap.size, 8, none⟩ = some (.slice ao o.charge.length co) := by rw [hW]; exact blk_cell (blk_new w _) 8
  clear hW
  cases gone with
  | true =>
    have HC := Lib.hid (HD.out W Hw.out)
    skip
    go_wp2_with (go_at_call 40; refine HC.out.mono ?_; rintro e w1 hA; obtain ⟨vv, rfl, hA2⟩ := act9_form hA; have HA := Lib.hid hA2; clear hA hA2)
    refine bodyPost_ret (v := .tuple #[.int .i64 vv, .int .i64 (delErr M k)]) (by simp [results, Try.results29, go_sem]) rfl ?_
    exact act9_from Hw.out HA.out
  | false =>
    have HC := Lib.hid (HP.out W Hw.out)
    skip
    go_wp2_with (go_at_call 39; refine HC.out.mono ?_; rintro e w1 hA; obtain ⟨vv, rfl, hA2⟩ := act9_form hA; have HA := Lib.hid hA2; clear hA hA2)
    refine bodyPost_ret (v := .tuple #[.int .i64 vv, .int .i64 (putErr M k o)]) (by simp [results, Try.results29, go_sem]) rfl ?_
    exact act9_from Hw.out HA.out
end Go.Proofs.Ythhfcambdmdgfaa
namespace Go.Proofs.Ythhfcambdmdgfaa
open Go.RowKit Go.Maps
set_option linter.unusedVariables false
set_option linter.unusedSimpArgs false
def kWr : Kd (Bool × ObjD) := kPair kBool kObj
theorem opWr : Opens Try.prog 53 kWr := by
  refine opens_struct Try.underlying53 (by kernel_rfl) ?_
  exact (by refine opensF_cons ?_ ?_ ?_; rfl; exact opBool; refine opensF_one ?_ ?_; rfl; exact opObj)
theorem opWrL : Opens Try.prog 43 (kSlice kWr) := opens_slice Try.underlying43 (by kernel_rfl) (by decide) opWr
theorem wr_of {w : World} {ok : Nat → Prop} {l : List (Bool × ObjD)} {v : Value} (h : (kSlice kWr).K w ok l [v]) : ∃ xs : List WX, WrS w v xs := by
  obtain ⟨A, c, hv, hc, hr⟩ := h
  obtain rfl : v = .slice A l.length c := by simpa using hv
  have : Inhabited WX := ⟨(false, (zeroO, .nilFunc))⟩
  obtain ⟨xs, h1, h2, h3⟩ := slice_rows (kd := kWr) (sz := 9) rfl (by omega) wX (fun _ => rfl) (fun a x => ObjS w x.2.2 x.2.1) (fun a cs hk => by
    obtain ⟨c0, c1, rfl, h0, h1⟩ := hk
    obtain ⟨sl, rfl, hs⟩ := obj_cells h1
    exact ⟨(a.1, (a.2, sl)), by rw [show c0 = _ from h0]; rfl, hs⟩) hc hr
  refine ⟨xs, h2, fun p hp => ?_⟩
  obtain ⟨i, hi, rfl⟩ := List.mem_iff_getElem.1 hp
  exact h3 i (by omega) hi
end Go.Proofs.Ythhfcambdmdgfaa
namespace Go.Proofs
open Go.Shelf
def Try.sortKey_ren : Go.Shelf.Ren := ⟨fun | 6 => 101 | 15 => 115 | 14 => 114 | 28 => 125 | 29 => 126 | 20 => 117 | 21 => 118 | 22 => 119 | 23 => 120 | 24 => 121 | 25 => 122 | 26 => 123 | 27 => 124 | 46 => 128 | 47 => 129 | 48 => 130 | 49 => 131 | 50 => 132 | 57 => 133 | n => n, fun | 22 => 75 | 24 => 24 | 25 => 107 | 3 => 3 | 39 => 141 | 0 => 0 | 53 => 151 | 55 => 153 | 4 => 4 | 46 => 144 | 45 => 143 | 50 => 148 | 5 => 5 | 9 => 9 | 66 => 154 | 70 => 158 | 76 => 160 | 77 => 161 | n => n, fun | n => n⟩
theorem Try.sortKey : Go.Proofs.SlLaysF0.n6 Try.prog Try.sortKey_ren := {
  mixed := by kernel_rfl
  f6 := ⟨Try.f101.name, by decide, Try.func101.trans (congrArg some (by kernel_rfl))⟩
  f14 := ⟨Try.f114.name, by decide, Try.func114.trans (congrArg some (by kernel_rfl))⟩
  f15 := Try.func115.trans (congrArg some (by kernel_rfl))
  f20 := ⟨Try.f117.name, by decide, Try.func117.trans (congrArg some (by kernel_rfl))⟩
  f21 := ⟨Try.f118.name, by decide, Try.func118.trans (congrArg some (by kernel_rfl))⟩
  f22 := ⟨Try.f119.name, by decide, Try.func119.trans (congrArg some (by kernel_rfl))⟩
  f23 := ⟨Try.f120.name, by decide, Try.func120.trans (congrArg some (by kernel_rfl))⟩
  f24 := ⟨Try.f121.name, by decide, Try.func121.trans (congrArg some (by kernel_rfl))⟩
  f25 := ⟨Try.f122.name, by decide, Try.func122.trans (congrArg some (by kernel_rfl))⟩
  f26 := ⟨Try.f123.name, by decide, Try.func123.trans (congrArg some (by kernel_rfl))⟩
  f27 := ⟨Try.f124.name, by decide, Try.func124.trans (congrArg some (by kernel_rfl))⟩
  f28 := Try.func125.trans (congrArg some (by kernel_rfl))
  f29 := Try.func126.trans (congrArg some (by kernel_rfl))
  f46 := ⟨Try.f128.name, by decide, Try.func128.trans (congrArg some (by kernel_rfl))⟩
  f47 := Try.func129.trans (congrArg some (by kernel_rfl))
  f48 := Try.func130.trans (congrArg some (by kernel_rfl))
  f49 := ⟨Try.f131.name, by decide, Try.func131.trans (congrArg some (by kernel_rfl))⟩
  f50 := ⟨Try.f132.name, by decide, Try.func132.trans (congrArg some (by kernel_rfl))⟩
  f57 := ⟨Try.f133.name, by decide, Try.func133.trans (congrArg some (by kernel_rfl))⟩
  t0 := Try.underlying0
  a0 := Try.isAgg0
  z0 := Try.sizeOf0
  v0 := Try.zeroValue0
  t3 := Try.underlying3
  a3 := Try.isAgg3
  z3 := Try.sizeOf3
  v3 := Try.zeroValue3
  t4 := Try.underlying4
  a4 := Try.isAgg4
  z4 := Try.sizeOf4
  v4 := Try.zeroValue4
  t5 := Try.underlying5
  a5 := Try.isAgg5
  z5 := Try.sizeOf5
  v5 := Try.zeroValue5
  t9 := Try.underlying9
  a9 := Try.isAgg9
  z9 := Try.sizeOf9
  v9 := Try.zeroValue9
  t22 := Try.underlying75
  a22 := Try.isAgg75
  z22 := Try.sizeOf75
  v22 := Try.zeroValue75
  t25 := Try.underlying107
  a25 := Try.isAgg107
  z25 := Try.sizeOf107
  v25 := Try.zeroValue107
  t39 := Try.underlying141
  a39 := Try.isAgg141
  z39 := Try.sizeOf141
  v39 := Try.zeroValue141
  t45 := Try.underlying143
  a45 := Try.isAgg143
  z45 := Try.sizeOf143
  v45 := Try.zeroValue143
  t46 := Try.underlying144
  a46 := Try.isAgg144
  z46 := Try.sizeOf144
  v46 := Try.zeroValue144
  t50 := Try.underlying148
  a50 := Try.isAgg148
  z50 := Try.sizeOf148
  v50 := Try.zeroValue148
  t53 := Try.underlying151
  a53 := Try.isAgg151
  z53 := Try.sizeOf151
  v53 := Try.zeroValue151
  t55 := Try.underlying153
  a55 := Try.isAgg153
  z55 := Try.sizeOf153
  v55 := Try.zeroValue153
  t66 := Try.underlying154
  a66 := Try.isAgg154
  z66 := Try.sizeOf154
  v66 := Try.zeroValue154
  t70 := Try.underlying158
  a70 := Try.isAgg158
  z70 := Try.sizeOf158
  v70 := Try.zeroValue158
  t76 := Try.underlying160
  a76 := Try.isAgg160
  z76 := Try.sizeOf160
  v76 := Try.zeroValue160
  t77 := Try.underlying161
  a77 := Try.isAgg161
  z77 := Try.sizeOf161
  v77 := Try.zeroValue161 }
def Try.cloneO_ren : Go.Shelf.Ren := ⟨fun | 5 => 90 | 7 => 108 | n => n, fun | 23 => 92 | 25 => 24 | 3 => 27 | 4 => 4 | 20 => 20 | n => n, fun | n => n⟩
theorem Try.cloneO : Go.Proofs.SlLaysW.n5 Try.prog Try.cloneO_ren := {
  mixed := by kernel_rfl
  f5 := ⟨Try.f90.name, by decide, Try.func90.trans (congrArg some (by kernel_rfl))⟩
  f7 := Try.func108.trans (congrArg some (by kernel_rfl))
  t4 := Try.underlying4
  a4 := Try.isAgg4
  z4 := Try.sizeOf4
  v4 := Try.zeroValue4
  t20 := Try.underlying20
  a20 := Try.isAgg20
  z20 := Try.sizeOf20
  v20 := Try.zeroValue20
  t23 := Try.underlying92
  a23 := Try.isAgg92
  z23 := Try.sizeOf92
  v23 := Try.zeroValue92 }
def Try.cloneG_ren : Go.Shelf.Ren := ⟨fun | 5 => 91 | 7 => 108 | n => n, fun | 23 => 96 | 25 => 24 | 3 => 2 | 4 => 4 | 20 => 20 | n => n, fun | n => n⟩
theorem Try.cloneG : Go.Proofs.SlLaysW.n5 Try.prog Try.cloneG_ren := {
  mixed := by kernel_rfl
  f5 := ⟨Try.f91.name, by decide, Try.func91.trans (congrArg some (by kernel_rfl))⟩
  f7 := Try.func108.trans (congrArg some (by kernel_rfl))
  t4 := Try.underlying4
  a4 := Try.isAgg4
  z4 := Try.sizeOf4
  v4 := Try.zeroValue4
  t20 := Try.underlying20
  a20 := Try.isAgg20
  z20 := Try.sizeOf20
  v20 := Try.zeroValue20
  t23 := Try.underlying96
  a23 := Try.isAgg96
  z23 := Try.sizeOf96
  v23 := Try.zeroValue96 }
end Go.Proofs
namespace Go.Proofs.Ythhfcambdmdgfaa
open Go.RowKit Go.Maps
set_option linter.unusedVariables false
set_option linter.unusedSimpArgs false
theorem gr_alloc (w : World) (o : Obj) (n : Nat) (os : Array Obj) : Go.Sort.grow ((w.alloc o).drewN n) os = Go.Sort.grow (w.drewN n) (#[o] ++ os) := by
  rw [Go.Sort.alloc_eq_grow]
  show Go.Sort.grow (Go.Sort.grow (w.drewN n) #[o]) os = _
  rw [Go.Sort.grow_grow]
theorem gr2 (w : World) (a b : Obj) (n : Nat) (os : Array Obj) : Go.Sort.grow (((w.alloc a).alloc b).drewN n) os = Go.Sort.grow (w.drewN n) (#[a] ++ (#[b] ++ os)) := by rw [gr_alloc, gr_alloc]
def GrO (w : World) (w' : World) : Prop := ∃ q os', w' = Go.Sort.grow (w.drewN q) os'
theorem text_gr (k s n : ByteArray) (w : World) (h : k.size + s.size + n.size ≤ 140737488355328) :
    Calls Try.prog 66 #[.agg #[.string k, .string s, .string n]] w fun e w' => e = .returned (.string (keyText k s n)) ∧ ∃ q os', w' = Go.Sort.grow (w.drewN q) os' := by
  go_enter Try.func66, Try.ntmps66
  go_wp2
  go_ret
  exact ⟨rfl, 0, #[_], by rw [Go.Sort.alloc_eq_grow]; rfl⟩
set_option maxRecDepth 100000 in
set_option maxHeartbeats 4000000 in
theorem less_gr (k s n k' s' n' : ByteArray) (w : World) (h : k.size + s.size + n.size ≤ 140737488355328) (h' : k'.size + s'.size + n'.size ≤ 140737488355328) :
    Calls Try.prog 25 #[.agg #[.string k, .string s, .string n], .agg #[.string k', .string s', .string n']] w fun e w' => e = .returned (.bool (Op.bytesLess (keyText k s n).toList (keyText k' s' n').toList)) ∧ GrO w w' := by
  have mixed : Try.prog.follows .mixedOrders = true := by kernel_rfl
  have H1 := Lib.hid h; have H2 := Lib.hid h'
  clear h h'
  go_enter Try.func25, Try.ntmps25
  go_wp2_with fail
  first | with_reducible refine name_wp ?_ | with_reducible refine name_calls ?_
  intro W hW
  have HW := Lib.hid hW
  have c0 := cell_grown (w := W) (a := ⟨w.heap.size, 0, none⟩) (v := .string k) (by rw [hW]; simp; omega) (by rw [hW]; exact blk_cell (blk_old (blk_new w _) _) 0)
  have c1 := cell_grown (w := W) (a := ⟨w.heap.size, 1, none⟩) (v := .string s) (by rw [hW]; simp; omega) (by rw [hW]; exact blk_cell (blk_old (blk_new w _) _) 1)
  have c2 := cell_grown (w := W) (a := ⟨w.heap.size, 2, none⟩) (v := .string n) (by rw [hW]; simp; omega) (by rw [hW]; exact blk_cell (blk_old (blk_new w _) _) 2)
  have d0 := cell_grown (w := W) (a := ⟨w.heap.size + 1, 0, none⟩) (v := .string k') (by rw [hW]; simp) (by rw [hW]; exact blk_cell (blk_new1 w _ _) 0)
  have d1 := cell_grown (w := W) (a := ⟨w.heap.size + 1, 1, none⟩) (v := .string s') (by rw [hW]; simp) (by rw [hW]; exact blk_cell (blk_new1 w _ _) 1)
  have d2 := cell_grown (w := W) (a := ⟨w.heap.size + 1, 2, none⟩) (v := .string n') (by rw [hW]; simp) (by rw [hW]; exact blk_cell (blk_new1 w _ _) 2)
  have hc1 := fun (m : Nat) (os : Array Obj) => text_gr k s n (Go.Sort.grow (W.drewN m) os) H1.out
  have hc2 := fun (m : Nat) (os : Array Obj) => text_gr k' s' n' (Go.Sort.grow (W.drewN m) os) H2.out
  clear hW
  go_quiet_grown (first | (go_at_call 66; (with_reducible refine Go.Calls.grown_of (hc1 _ _))) | (go_at_call 66; (with_reducible refine Go.Calls.grown_of (hc2 _ _))))
  go_wp2
  go_ret
  rw [HW.out]
  exact ⟨rfl, _, _, gr2 w _ _ nq osq⟩
abbrev ltT (a b : KS) : Bool := Op.bytesLess (keyText a.1.kind a.1.space a.1.name).toList (keyText b.1.kind b.1.space b.1.name).toList
def cfK (a b : KS) : Int := if ltT a b then -1 else if ltT b a then 1 else 0
def encK (k : KS) : List Value := [.string k.1.kind, .string k.1.space, .string k.1.name]
set_option maxRecDepth 100000 in
set_option maxHeartbeats 4000000 in
theorem order_gr (a b : KS) (w : World) :
    Calls Try.prog 78 #[.agg (encK a).toArray, .agg (encK b).toArray] w fun e w' => e = .returned (.int .i64 (cfK a b)) ∧ ∃ q os', w' = Go.Sort.grow (w.drewN q) os' := by
  have ha := a.2; have hb := b.2
  have HA := Lib.hid (show a.1.kind.size + a.1.space.size + a.1.name.size ≤ 140737488355328 by have := ha.1; have := ha.2.1; have := ha.2.2; omega)
  have HB := Lib.hid (show b.1.kind.size + b.1.space.size + b.1.name.size ≤ 140737488355328 by have := hb.1; have := hb.2.1; have := hb.2.2; omega)
  have HF := Lib.hid (show cfK a b = if ltT a b then -1 else if ltT b a then 1 else 0 from rfl)
  generalize cfK a b = r at HF ⊢
  obtain ⟨x, hx⟩ : ∃ x, ltT a b = x := ⟨_, rfl⟩
  obtain ⟨y, hy⟩ : ∃ y, ltT b a = y := ⟨_, rfl⟩
  rw [hx, hy] at HF
  have HC1 := Lib.hid (fun (W : World) => less_gr _ _ _ _ _ _ W HA.out HB.out)
  have HC2 := Lib.hid (fun (W : World) => less_gr _ _ _ _ _ _ W HB.out HA.out)
  unfold ltT at hx hy
  rw [hx] at HC1; rw [hy] at HC2
  clear hx hy ha hb
  unfold encK
  go_enter Try.func78, Try.ntmps78
  cases x with
  | true =>
    have HR := Lib.hid (show r = -1 from HF.out)
    go_wp2_with (go_at_call 25; refine (HC1.out _).mono ?_; rintro e w' ⟨rfl, hg⟩; have HG := Lib.hid hg; clear hg)
    go_ret
    obtain ⟨q, os, rfl⟩ := HG.out
    exact ⟨by rw [HR.out]; rfl, _, _, gr2 w _ _ q os⟩
  | false =>
    have HR := Lib.hid (show r = if y then 1 else 0 from HF.out)
    go_upto_region 3 with (go_at_call 25; refine (HC1.out _).mono ?_; rintro e w1 ⟨rfl, hg⟩; have HG := Lib.hid hg; clear hg)
    obtain ⟨q, os, rfl⟩ := HG.out
    first | with_reducible refine name_wp ?_ | with_reducible refine name_calls ?_
    intro W hW
    have HW : Hid (∃ os', W = Go.Sort.grow (w.drewN q) os') := Lib.hid ⟨_, by rw [hW]; exact gr2 w _ _ q os⟩
    have hb : Below w.heap.size w ((w.alloc (.cells #[.string a.1.kind, .string a.1.space, .string a.1.name] 24)).alloc (.cells #[.string b.1.kind, .string b.1.space, .string b.1.name] 24)) := ((Below.refl _ _).alloc (Nat.le_refl _) _).alloc (by simp) _
    have c0 : W.cell? ⟨w.heap.size, 0, none⟩ = some (.string a.1.kind) := by rw [hW]; exact cell_grown (by simp; omega) (blk_cell (blk_old (blk_new w _) _) 0) _ _
    have c1 : W.cell? ⟨w.heap.size, 1, none⟩ = some (.string a.1.space) := by rw [hW]; exact cell_grown (by simp; omega) (blk_cell (blk_old (blk_new w _) _) 1) _ _
    have c2 : W.cell? ⟨w.heap.size, 2, none⟩ = some (.string a.1.name) := by rw [hW]; exact cell_grown (by simp; omega) (blk_cell (blk_old (blk_new w _) _) 2) _ _
    have d0 : W.cell? ⟨w.heap.size + 1, 0, none⟩ = some (.string b.1.kind) := by rw [hW]; exact cell_grown (by simp) (blk_cell (blk_new1 w _ _) 0) _ _
    have d1 : W.cell? ⟨w.heap.size + 1, 1, none⟩ = some (.string b.1.space) := by rw [hW]; exact cell_grown (by simp) (blk_cell (blk_new1 w _ _) 1) _ _
    have d2 : W.cell? ⟨w.heap.size + 1, 2, none⟩ = some (.string b.1.name) := by rw [hW]; exact cell_grown (by simp) (blk_cell (blk_new1 w _ _) 2) _ _
    clear hW hb HG
    cases y with
    | true =>
      have HR2 := Lib.hid (show r = 1 from HR.out)
      go_wp2_with (go_at_call 25; refine (HC2.out _).mono ?_; rintro e w' ⟨rfl, hg⟩; have HG := Lib.hid hg; clear hg)
      go_ret
      obtain ⟨q2, os2, rfl⟩ := HG.out
      obtain ⟨os3, rfl⟩ := HW.out
      exact ⟨by rw [HR2.out]; rfl, q + q2, os3 ++ os2, by show Go.Sort.grow (Go.Sort.grow ((w.drewN q).drewN q2) os3) os2 = _; rw [Go.Sort.grow_grow, World.drewN_drewN]⟩
    | false =>
      have HR2 := Lib.hid (show r = 0 from HR.out)
      go_wp2_with (go_at_call 25; refine (HC2.out _).mono ?_; rintro e w' ⟨rfl, hg⟩; have HG := Lib.hid hg; clear hg)
      go_ret
      obtain ⟨q2, os2, rfl⟩ := HG.out
      obtain ⟨os3, rfl⟩ := HW.out
      exact ⟨by rw [HR2.out]; rfl, q + q2, os3 ++ os2, by show Go.Sort.grow (Go.Sort.grow ((w.drewN q).drewN q2) os3) os2 = _; rw [Go.Sort.grow_grow, World.drewN_drewN]⟩
end Go.Proofs.Ythhfcambdmdgfaa
namespace Go.Proofs.Ythhfcambdmdgfaa
open Go.RowKit Go.Shelf Go.Maps
set_option linter.unusedVariables false
set_option linter.unusedSimpArgs false
set_option linter.unusedSectionVars false
attribute [local go_sem] Oper.semAt_some
/-- What has come so far of a map's keys. -/
structure CollS {β : Type} (M : AM KS β) (f : β → Value) (left : Lit → Bool) (ss : List KS) : Prop where
  nod : ss.Nodup
  iff : ∀ x, x ∈ ss ↔ (hasA M x = true ∧ left (kL x) = false)
  has : ∀ z, left z = true → Maps.has (dmA kL f M) z = true
section
variable {β : Type} {M : AM KS β} {f : β → Value} {left : Lit → Bool} {ss : List KS}
theorem CollS.start (M : AM KS β) (f : β → Value) : CollS M f (Maps.has (dmA kL f M)) [] where
  nod := List.nodup_nil
  iff := fun x => ⟨(fun h => by cases h), (fun h => by obtain ⟨h1, h2⟩ := h; rw [has_dmA kL_lit, h1] at h2; cases h2)⟩
  has := fun z h => h
/-- An entry that has come is one of the map's. -/
theorem entry_key {kl : Lit} (h : Maps.has (dmA kL f M) kl = true) : ∃ q ∈ M, kl = kL q.1 := by
  have h : (M.map (fun p : KS × β => ((kL p.1, DataW.held (f p.2)) : Lit × DataW Value))).any (fun p => p.1.sameKey kl) = true := h
  rw [List.any_map, List.any_eq_true] at h
  obtain ⟨q, hq, hs⟩ := h
  exact ⟨q, hq, (Go.WideAt.sameKey_eq hs).symm⟩
theorem CollS.step (h : CollS M f left ss) {p : KS} (hp : hasA M p = true) (hl : left (kL p) = true) : CollS M f (fun z => left z && !z.sameKey (kL p)) (ss ++ [p]) where
  nod := by
    rw [List.nodup_append]
    refine ⟨h.nod, by simp, ?_⟩
    intro a ha b hb e
    obtain rfl : b = p := by simpa using hb
    have := ((h.iff a).1 ha).2
    rw [e, hl] at this; cases this
  iff := fun x => by
    rw [List.mem_append, List.mem_singleton, h.iff x]
    show _ ↔ _ ∧ (left (kL x) && !(kL x).sameKey (kL p)) = false
    rw [kL_lit.same]
    by_cases e : x = p
    · subst e; simp [hp, hl]
    · rw [decide_eq_false e]; simp [e]
  has := fun z hz => by
    simp only [Bool.and_eq_true] at hz
    exact h.has z hz.1
end
theorem key_of {key : Value} {k : KS} (h : keyOf Try.prog 24 key = some (kL k)) : key = keyV k.1 := kS_keyed.inj h (kL_key k)
def encKV (k : KS) : Array Value := #[.agg #[.string k.1.kind, .string k.1.space, .string k.1.name]]
def AllK {β : Type} (M : AM KS β) (ss : List KS) : Prop := ss.Nodup ∧ ∀ x, x ∈ ss ↔ hasA M x = true
set_option maxRecDepth 100000 in
set_option maxHeartbeats 4000000 in
theorem keysO_in {β : Type} (n : Nat) (hn : 1 ≤ n) (l Bm b nn : Nat) (M : AM KS β) (f : β → Value) (J Jx : List KS → World → Prop)
    (hY : ∀ pre x W, J pre W → pre.length < M.length → YieldAt Fence.wide (n - 1) Try.prog l (encKV x) W fun e W' =>
      (e = .returned (.bool true) ∧ J (pre ++ [x]) W' ∧ KeepsWalks W W') ∨ (e = .returned (.bool false) ∧ Jx (pre ++ [x]) W'))
    (W : World) (hJ : AbidesFrom W.heap.size J) (hm : W.cell? ⟨Bm, 0, none⟩ = some (.map (some b))) (hown : W.ownsMap Try.prog 24 RV b nn (dmA kL f M)) (h0 : J [] W) :
    CallsIn Fence.wide n Try.prog 102 #[.func (.yield l) #[] #[], .pointer (some ⟨Bm, 0, none⟩)] W fun e W' => (∃ v, e = .returned v) ∧
      ((∃ ss : List KS, AllK M ss ∧ J ss W') ∨ (∃ pre : List KS, True ∧ Jx pre W')) := by
  have hBmW := lt_of_cell hm
  refine callsIn_of_wp Try.func102 rfl trivial ?_ rfl
  simp only [Try.ntmps102, List.size_toArray, List.length_cons, List.length_nil, Nat.reduceAdd, Nat.reduceSub, Array.replicate_succ, Array.replicate_zero, List.push_toArray, List.append_toArray, List.nil_append, List.cons_append]
  gi_wp2_with (first | (gi_at_range; refine wpListIn_range_own _ rfl _ 92 rfl 24 _ kS_keyed Try.underlying92 RV b nn _ rfl hown ?_; intro w0 hrg0 hg0 hs0) | gi_in)
  try go_frame
  gi_loopw [3] (fun _ wr => ∃ (left : Lit → Bool) (cnt : Nat) (ss : List KS), wr.ranges Try.prog 24 RV b W.heap.size nn (dmA kL f M) left cnt ∧ ss.length + cnt ≤ M.length ∧ CollS M f left ss ∧ J ss wr)
    (fun _ wr => wr.rangeLeft b W.heap.size)
  case atStart => exact ⟨_, _, [], hrg0, by rw [size_dmA kL_lit]; simp, CollS.start M f, hJ [] W w0 none h0 hg0 (fun r e => by cases e)⟩
  case round =>
    obtain ⟨left, cnt, ss, hrg, hcs, hC, hJs⟩ := hrel
    gi_wp2_with (first | (gi_at_next; refine wpListIn_next_ranges _ rfl _ rfl 24 kS_keyed RV (fun x : Value => x) (fun x : Value => x) (fun key kl _ => ⟨key, rfl⟩) (fun v y _ => ⟨v, rfl⟩) b W.heap.size nn _ _ _ rfl hrg ?_ ?_) | gi_in)
    · intro hc0 hl0
      gi_wp2
      go_end0
      exact ⟨⟨_, rfl⟩, .inl ⟨ss, ⟨hC.nod, fun x => by rw [hC.iff x, hl0]; simp⟩, hJs⟩⟩
    · intro x c kl yd yp w2 cnt2 hkey hlk hv hat hrg2 hlt hg2 hs2 hen
      obtain ⟨q, hq, rfl⟩ := entry_key (hC.has _ hlk)
      have hhas : hasA M q.1 = true := by unfold hasA; rw [List.any_eq_true]; exact ⟨q, hq, by simp⟩
      generalize q.1 = k at hkey hlk hhas hat hrg2 hen
      obtain rfl := key_of hkey
      have hJ2 : J ss w2 := hJ ss wr w2 (some W.heap.size) hJs hg2 (fun r e => by cases e; exact ⟨Nat.le_refl _, hrg.iter_walk⟩)
      have HC2 := Lib.hid (hC.step hhas hlk)
      have HLT := Lib.hid hlt; have HLE := Lib.hid hrg.left_eq; have HLN := Lib.hid (show ss.length < M.length by omega); have HLN2 := Lib.hid (show ss.length + 1 + cnt2 ≤ M.length by omega)
      have HRG2 := Lib.hid hrg2; have HJ2 := Lib.hid hJ2
      unfold keyV at hen
      clear hs2 hC hcs hlt hrg hkey hat hv hhas hJs hJ2 hrg2 hq hlk hg2
      gi_wp2_with fail
      have hJV : J ss (w2.alloc (.cells #[.string k.1.kind, .string k.1.space, .string k.1.name] 24)) := hJ ss w2 _ none HJ2.out (World.grownBy_alloc w2 _ none) (fun r e => by cases e)
      have hrV := HRG2.out.kept (World.grownBy_alloc w2 (.cells #[.string k.1.kind, .string k.1.space, .string k.1.name] 24) none) (by simp) (by simp)
      obtain ⟨V, hV⟩ : ∃ V, w2.alloc (.cells #[.string k.1.kind, .string k.1.space, .string k.1.name] 24) = V := ⟨_, rfl⟩
      have d0 : V.cell? ⟨w2.heap.size, 0, none⟩ = some (.string k.1.kind) := by rw [← hV]; exact blk_cell (blk_new w2 _) 0
      have d1 : V.cell? ⟨w2.heap.size, 1, none⟩ = some (.string k.1.space) := by rw [← hV]; exact blk_cell (blk_new w2 _) 1
      have d2 : V.cell? ⟨w2.heap.size, 2, none⟩ = some (.string k.1.name) := by rw [← hV]; exact blk_cell (blk_new w2 _) 2
      rw [hV] at hJV hrV ⊢
      have HRV := Lib.hid hrV
      clear hV hen hrV
      obtain ⟨fn, tmps, assign, body, hy, hR⟩ := hY ss k V hJV HLN.out
      unfold encKV at hy
      gi_wp2
      rw [hy]
      gi_wp2
      refine hR.mono ?_
      rintro e W3 (⟨rfl, hJ3, hk3⟩ | ⟨rfl, hJx3⟩)
      · gi_wp2
        have hrg3 := HRV.out.of_walks hk3
        go_roundw
        case rel => exact ⟨_, cnt2, ss ++ [k], hrg3, by have := HLN2.out; simp; omega, HC2.out, hJ3⟩
        case measure => rw [hrg3.left_eq, HLE.out]; exact HLT.out
      · gi_wp2
        refine bodyPost_ret (results_none rfl _ _ _) rfl ?_
        exact ⟨⟨_, rfl⟩, .inr ⟨ss ++ [k], trivial, hJx3⟩⟩
theorem keysO_stops {β : Type} (n : Nat) (hn : 1 ≤ n) (Bm b nn : Nat) (M : AM KS β) (f : β → Value) (w : World) (hm : w.cell? ⟨Bm, 0, none⟩ = some (.map (some b))) (hown : w.ownsMap Try.prog 24 RV b nn (dmA kL f M)) :
    SeqStopsK Fence.wide n Try.prog 102 #[.pointer (some ⟨Bm, 0, none⟩)] encKV KeepsWalks (AllK M) (fun _ => True) M.length w :=
  fun l J Jx W hW hJ _ hY h0 => keysO_in n hn l Bm b nn M f J Jx hY W hJ (cb hW hm) (mv_below hown hW) h0
theorem keysO_calls (w : World) (m : Option Nat) : Calls Try.prog 77 #[.map m] w fun e w' => e = .returned (.func (.func 102) #[] #[.pointer (some ⟨w.heap.size, 0, none⟩)]) ∧ w'.cell? ⟨w.heap.size, 0, none⟩ = some (.map m) ∧ Below w.heap.size w w' := by
  go_enter Try.func77, Try.ntmps77
  go_wp2
  go_ret
  exact ⟨rfl, blk_cell (blk_new w _) 0, (Below.refl _ _).alloc (Nat.le_refl _) _⟩
set_option maxRecDepth 100000 in
set_option maxHeartbeats 4000000 in
theorem keysN_in {β : Type} (n : Nat) (hn : 1 ≤ n) (l Bm b nn : Nat) (M : AM KS β) (f : β → Value) (J Jx : List KS → World → Prop)
    (hY : ∀ pre x W, J pre W → pre.length < M.length → YieldAt Fence.wide (n - 1) Try.prog l (encKV x) W fun e W' =>
      (e = .returned (.bool true) ∧ J (pre ++ [x]) W' ∧ KeepsWalks W W') ∨ (e = .returned (.bool false) ∧ Jx (pre ++ [x]) W'))
    (W : World) (hJ : AbidesFrom W.heap.size J) (hm : W.cell? ⟨Bm, 0, none⟩ = some (.map (some b))) (hown : W.ownsMap Try.prog 24 RV b nn (dmA kL f M)) (h0 : J [] W) :
    CallsIn Fence.wide n Try.prog 111 #[.func (.yield l) #[] #[], .pointer (some ⟨Bm, 0, none⟩)] W fun e W' => (∃ v, e = .returned v) ∧
      ((∃ ss : List KS, AllK M ss ∧ J ss W') ∨ (∃ pre : List KS, True ∧ Jx pre W')) := by
  have hBmW := lt_of_cell hm
  refine callsIn_of_wp Try.func111 rfl trivial ?_ rfl
  simp only [Try.ntmps111, List.size_toArray, List.length_cons, List.length_nil, Nat.reduceAdd, Nat.reduceSub, Array.replicate_succ, Array.replicate_zero, List.push_toArray, List.append_toArray, List.nil_append, List.cons_append]
  gi_wp2_with (first | (gi_at_range; refine wpListIn_range_own _ rfl _ 122 rfl 24 _ kS_keyed Try.underlying122 RV b nn _ rfl hown ?_; intro w0 hrg0 hg0 hs0) | gi_in)
  try go_frame
  gi_loopw [3] (fun _ wr => ∃ (left : Lit → Bool) (cnt : Nat) (ss : List KS), wr.ranges Try.prog 24 RV b W.heap.size nn (dmA kL f M) left cnt ∧ ss.length + cnt ≤ M.length ∧ CollS M f left ss ∧ J ss wr)
    (fun _ wr => wr.rangeLeft b W.heap.size)
  case atStart => exact ⟨_, _, [], hrg0, by rw [size_dmA kL_lit]; simp, CollS.start M f, hJ [] W w0 none h0 hg0 (fun r e => by cases e)⟩
  case round =>
    obtain ⟨left, cnt, ss, hrg, hcs, hC, hJs⟩ := hrel
    gi_wp2_with (first | (gi_at_next; refine wpListIn_next_ranges _ rfl _ rfl 24 kS_keyed RV (fun x : Value => x) (fun x : Value => x) (fun key kl _ => ⟨key, rfl⟩) (fun v y _ => ⟨v, rfl⟩) b W.heap.size nn _ _ _ rfl hrg ?_ ?_) | gi_in)
    · intro hc0 hl0
      gi_wp2
      go_end0
      exact ⟨⟨_, rfl⟩, .inl ⟨ss, ⟨hC.nod, fun x => by rw [hC.iff x, hl0]; simp⟩, hJs⟩⟩
    · intro x c kl yd yp w2 cnt2 hkey hlk hv hat hrg2 hlt hg2 hs2 hen
      obtain ⟨q, hq, rfl⟩ := entry_key (hC.has _ hlk)
      have hhas : hasA M q.1 = true := by unfold hasA; rw [List.any_eq_true]; exact ⟨q, hq, by simp⟩
      generalize q.1 = k at hkey hlk hhas hat hrg2 hen
      obtain rfl := key_of hkey
      have hJ2 : J ss w2 := hJ ss wr w2 (some W.heap.size) hJs hg2 (fun r e => by cases e; exact ⟨Nat.le_refl _, hrg.iter_walk⟩)
      have HC2 := Lib.hid (hC.step hhas hlk)
      have HLT := Lib.hid hlt; have HLE := Lib.hid hrg.left_eq; have HLN := Lib.hid (show ss.length < M.length by omega); have HLN2 := Lib.hid (show ss.length + 1 + cnt2 ≤ M.length by omega)
      have HRG2 := Lib.hid hrg2; have HJ2 := Lib.hid hJ2
      unfold keyV at hen
      clear hs2 hC hcs hlt hrg hkey hat hv hhas hJs hJ2 hrg2 hq hlk hg2
      gi_wp2_with fail
      have hJV : J ss (w2.alloc (.cells #[.string k.1.kind, .string k.1.space, .string k.1.name] 24)) := hJ ss w2 _ none HJ2.out (World.grownBy_alloc w2 _ none) (fun r e => by cases e)
      have hrV := HRG2.out.kept (World.grownBy_alloc w2 (.cells #[.string k.1.kind, .string k.1.space, .string k.1.name] 24) none) (by simp) (by simp)
      obtain ⟨V, hV⟩ : ∃ V, w2.alloc (.cells #[.string k.1.kind, .string k.1.space, .string k.1.name] 24) = V := ⟨_, rfl⟩
      have d0 : V.cell? ⟨w2.heap.size, 0, none⟩ = some (.string k.1.kind) := by rw [← hV]; exact blk_cell (blk_new w2 _) 0
      have d1 : V.cell? ⟨w2.heap.size, 1, none⟩ = some (.string k.1.space) := by rw [← hV]; exact blk_cell (blk_new w2 _) 1
      have d2 : V.cell? ⟨w2.heap.size, 2, none⟩ = some (.string k.1.name) := by rw [← hV]; exact blk_cell (blk_new w2 _) 2
      rw [hV] at hJV hrV ⊢
      have HRV := Lib.hid hrV
      clear hV hen hrV
      obtain ⟨fn, tmps, assign, body, hy, hR⟩ := hY ss k V hJV HLN.out
      unfold encKV at hy
      gi_wp2
      rw [hy]
      gi_wp2
      refine hR.mono ?_
      rintro e W3 (⟨rfl, hJ3, hk3⟩ | ⟨rfl, hJx3⟩)
      · gi_wp2
        have hrg3 := HRV.out.of_walks hk3
        go_roundw
        case rel => exact ⟨_, cnt2, ss ++ [k], hrg3, by have := HLN2.out; simp; omega, HC2.out, hJ3⟩
        case measure => rw [hrg3.left_eq, HLE.out]; exact HLT.out
      · gi_wp2
        refine bodyPost_ret (results_none rfl _ _ _) rfl ?_
        exact ⟨⟨_, rfl⟩, .inr ⟨ss ++ [k], trivial, hJx3⟩⟩
theorem keysN_stops {β : Type} (n : Nat) (hn : 1 ≤ n) (Bm b nn : Nat) (M : AM KS β) (f : β → Value) (w : World) (hm : w.cell? ⟨Bm, 0, none⟩ = some (.map (some b))) (hown : w.ownsMap Try.prog 24 RV b nn (dmA kL f M)) :
    SeqStopsK Fence.wide n Try.prog 111 #[.pointer (some ⟨Bm, 0, none⟩)] encKV KeepsWalks (AllK M) (fun _ => True) M.length w :=
  fun l J Jx W hW hJ _ hY h0 => keysN_in n hn l Bm b nn M f J Jx hY W hJ (cb hW hm) (mv_below hown hW) h0
theorem keysN_calls (w : World) (m : Option Nat) : Calls Try.prog 95 #[.map m] w fun e w' => e = .returned (.func (.func 111) #[] #[.pointer (some ⟨w.heap.size, 0, none⟩)]) ∧ w'.cell? ⟨w.heap.size, 0, none⟩ = some (.map m) ∧ Below w.heap.size w w' := by
  go_enter Try.func95, Try.ntmps95
  go_wp2
  go_ret
  exact ⟨rfl, blk_cell (blk_new w _) 0, (Below.refl _ _).alloc (Nat.le_refl _) _⟩
end Go.Proofs.Ythhfcambdmdgfaa

import Derived.Test.YthhfcambdmdgfaaKsrah
import Derived.Test.YthhfcambdmdgfaaKsrae
import Derived.Maps.RangeWalk
import Derived.Test.YthhfcambdmdgfaaKsrac
namespace Go.Proofs.Ythhfcambdmdgfaa
open Go.RowKit Go.Maps
set_option linter.unusedVariables false
set_option linter.unusedSimpArgs false
theorem store_look {w : World} {base sp mb : Nat} {ver : Int} {M : AM KS OX} {lv : Value} {L : List LX} (h : StoreAt w base sp mb ver M lv L) (k : KS) {kk : KeyD} (hk : k.1 = kk) :
    ∃ (q : ObjD) (A : Option Addr) (n c : Nat), ∀ U, Below w.heap.size w U → (Instr.lookup 92 (.map (some mb)) (.agg #[.string kk.kind, .string kk.space, .string kk.name]) true).run Try.prog U = .ok (.tuple #[.agg #[.string q.key.kind, .string q.key.space, .string q.key.name, .int .i64 q.ver, .string q.cls, .bool q.term, .bool q.best, .slice A n c], .bool (hasA M k)]) U := by
  subst hk
  cases hg : getA M k with
  | none =>
    refine ⟨zeroO, none, 0, 0, fun U hb => ?_⟩
    have q := omap_look (h.map.below hb) k
    rw [hg] at q; exact q
  | some p =>
    obtain ⟨o, so⟩ := p
    obtain ⟨g, hso⟩ := (h.resM _ (getA_mem hg)).1.form
    simp only at hso
    subst hso
    refine ⟨o, some ⟨g, 0, none⟩, o.charge.length, o.charge.length, fun U hb => ?_⟩
    have q := omap_look (h.map.below hb) k
    rw [hg] at q; exact q
/-- What an act of the store yields: an error, or a version more. -/
def Act9 (w : World) (base sp mb : Nat) (ver : Int) (M1 : Value → AM KS OX) (lv : Value) (L : List LX) (kd : Int) (o : ObjD) (er : Int) (e : Ending) (w' : World) : Prop :=
  (er ≠ 0 ∧ e = .returned (.tuple #[.int .i64 0, .int .i64 er]) ∧ Below w.heap.size w w') ∨
  (er = 0 ∧ ∃ lv' x y, e = .returned (.tuple #[.int .i64 (ver + 1), .int .i64 0]) ∧ StoreAt w' base sp mb (ver + 1) (M1 y) lv' (L ++ [(kd, ({ o with ver := ver + 1 }, x))]) ∧ Kept (fun b => b = sp ∨ b = mb ∨ lv.ownBlock = some b) w w')
def putErr (M : AM KS OX) (k : KS) (o : ObjD) : Int := if rightO { o with ver := 1 } then if hasA M k || decide (M.length < 1000) then 0 else 3 else 1
set_option maxRecDepth 100000 in
set_option maxHeartbeats 8000000 in
theorem sput_calls (w : World) {base sp mb : Nat} {ver : Int} {M : AM KS OX} {lv : Value} {L : List LX} (h : StoreAt w base sp mb ver M lv L) {o : ObjD} {k : KS} {sl : Value} (hk : k.1 = o.key)
    (hO : ∀ U, Kept (fun b => b = sp ∨ b = mb ∨ lv.ownBlock = some b) w U → ObjS U sl o) (hs : objSmall o) (hv : 0 ≤ ver ∧ ver ≤ 1000000000) (hM : M.length ≤ 1000000) (hL : L.length ≤ 1000000) :
    Calls Try.prog 39 #[.pointer (some ⟨sp, 0, none⟩), objV o sl] w (Act9 w base sp mb ver (fun y => putA ltKS M k ({ o with ver := ver + 1 }, y)) lv L 0 o (putErr M k o)) := by
  have hsp := h.ptr
  obtain ⟨al, cl, rfl⟩ := rw_form h.row
  have HST := Lib.hid h
  obtain ⟨ao, co, rfl⟩ := (hO w (Kept.refl _ _)).1.form
  have HO1 := Lib.hid (fun U (hq : Kept (fun b => b = sp ∨ b = mb ∨ (Value.slice al L.length cl).ownBlock = some b) w U) => show ObjS U (.slice ao o.charge.length co) { o with ver := 1 } from ⟨(hO U hq).1, (show in64 1 by unfold in64; omega)⟩)
  have HS := Lib.hid (show objSmall { o with ver := 1 } from hs)
  have HR := Lib.hid (fun (U : World) (hb : Below w.heap.size w U) => oright_calls U (HO1.out U (kept_of_below hb)) HS.out)
  have HWR := Lib.hid (fun (U : World) (hb : Below w.heap.size w U) => written_calls U (h.below hb) 0 (o := { o with ver := 1 }) (k := k) hk (fun X hX => HO1.out X ((kept_of_below (X := fun b => b = sp ∨ b = mb ∨ (Value.slice al L.length cl).ownBlock = some b) hb).trans hX (fun _ q => .inl q))) HS.out hv hM hL)
  unfold objV at HR HWR
  simp only at HR HWR
  obtain ⟨q, A, n, c, HLK⟩ := store_look h k hk
  have m0 : w.cell? ⟨sp, 0, none⟩ = some (.map (some mb)) := blk_cell h.cell 0
  have HLK2 := Lib.hid HLK
  have HPE := Lib.hid (show putErr M k o = if rightO { o with ver := 1 } then if hasA M k || decide (M.length < 1000) then 0 else 3 else 1 from rfl)
  generalize putErr M k o = pe at HPE ⊢
  clear h hO hs hv hM hL hk HLK
  unfold objV
  go_enter Try.func39, Try.ntmps39
  go_upto_region 2 with fail
  first | with_reducible refine name_wp ?_ | with_reducible refine name_calls ?_
  intro W hW
  have Hw := Lib.hid (show Below w.heap.size w W by rw [hW]; exact (Below.refl _ _).alloc (Nat.le_refl _) _)
  have c0_0 : W.cell? ⟨w.heap.size, 0, none⟩ = some (.string o.key.kind) := by rw [hW]; exact blk_cell (blk_new w _) 0
  have c0_1 : W.cell? ⟨w.heap.size, 1, none⟩ = some (.string o.key.space) := by rw [hW]; exact blk_cell (blk_new w _) 1
  have c0_2 : W.cell? ⟨w.heap.size, 2, none⟩ = some (.string o.key.name) := by rw [hW]; exact blk_cell (blk_new w _) 2
  have c0_3 : W.cell? ⟨w.heap.size, 3, none⟩ = some (.int .i64 1) := by rw [hW]; exact blk_cell (blk_new w _) 3
  have c0_4 : W.cell? ⟨w.heap.size, 4, none⟩ = some (.string o.cls) := by rw [hW]; exact blk_cell (blk_new w _) 4
  have c0_5 : W.cell? ⟨w.heap.size, 5, none⟩ = some (.bool o.term) := by rw [hW]; exact blk_cell (blk_new w _) 5
  have c0_6 : W.cell? ⟨w.heap.size, 6, none⟩ = some (.bool o.best) := by rw [hW]; exact blk_cell (blk_new w _) 6
  have c0_7 : W.cell? ⟨w.heap.size, 7, none⟩ = some (.slice ao o.charge.length co) := by rw [hW]; exact blk_cell (blk_new w _) 7
  clear hW
  cases hr : rightO { o with ver := 1 } with
  | false =>
    have HRR := Lib.hid hr
    have HE := Lib.hid (show pe = 1 by rw [HPE.out, hr]; rfl)
    clear hr
    go_wp2_with (go_at_call 68; refine (HR.out _ Hw.out).mono ?_; rintro e w1 ⟨rfl, hb⟩; rw [HRR.out]; have k0 := cb hb c0_0; have k1 := cb hb c0_1; have k2 := cb hb c0_2; have k3 := cb hb c0_3; have k4 := cb hb c0_4; have k5 := cb hb c0_5; have k6 := cb hb c0_6; have k7 := cb hb c0_7; have HB1 := Lib.hid hb; have n0 := cb (bl_from Hw.out hb) m0; clear hb)
    refine bodyPost_ret (v := .tuple #[.int .i64 0, .int .i64 1]) (by simp [results, Try.results39, go_sem]) rfl ?_
    exact .inl ⟨by rw [HE.out]; decide, by rw [HE.out], bl_from Hw.out HB1.out⟩
  | true =>
    have HRR := Lib.hid hr
    have HE := Lib.hid (show pe = if hasA M k || decide (M.length < 1000) then 0 else 3 by rw [HPE.out, hr]; rfl)
    clear hr
    go_upto_region 4 with (go_at_call 68; refine (HR.out _ Hw.out).mono ?_; rintro e w1 ⟨rfl, hb⟩; rw [HRR.out]; have k0 := cb hb c0_0; have k1 := cb hb c0_1; have k2 := cb hb c0_2; have k3 := cb hb c0_3; have k4 := cb hb c0_4; have k5 := cb hb c0_5; have k6 := cb hb c0_6; have k7 := cb hb c0_7; have HB1 := Lib.hid hb; have n0 := cb (bl_from Hw.out hb) m0; clear hb)
    have HBW := Lib.hid (bl_from Hw.out HB1.out)
    have hB := Below.refl w1.heap.size w1
    clear c0_0 c0_1 c0_2 c0_3 c0_4 c0_5 c0_6 c0_7
    have hB := hB.drew
    refine region_seq (fun w' => Below w1.heap.size w1 w') [(0, true), (1, true), (2, true), (3, true), (4, true), (5, true), (6, true), (7, true), (8, true), (9, true), (10, false), (11, false), (12, true)] (by kernel_rfl) (by kernel_rfl) (fun _ _ _ _ h => h) hB ?_
    try generalize World.drew _ = wS at hB ⊢
    refine seq_take (v := ?_) (a' := ?_) (some 17) rfl rfl (by rfl) ?_ ?_ ?_
    rotate_left; rotate_left
    · intro w' hS; go_simp; with_reducible rfl
    · simp only [Act.put, List.setIfInBounds_toArray, List.set_cons_zero, List.set_cons_succ]; rfl
    refine seq_take (v := ?_) (a' := ?_) (some 18) rfl rfl (by rfl) ?_ ?_ ?_
    rotate_left; rotate_left
    · intro w' hS; go_simp; with_reducible rfl
    · simp only [Act.put, List.setIfInBounds_toArray, List.set_cons_zero, List.set_cons_succ]; rfl
    refine seq_take (v := ?_) (a' := ?_) (some 19) rfl rfl (by rfl) ?_ ?_ ?_
    rotate_left; rotate_left
    · intro w' hS; go_simp; with_reducible rfl
    · simp only [Act.put, List.setIfInBounds_toArray, List.set_cons_zero, List.set_cons_succ]; rfl
    refine seq_take (v := ?_) (a' := ?_) (some 20) rfl rfl (by rfl) ?_ ?_ ?_
    rotate_left; rotate_left
    · intro w' hS; have z := cb hS n0; have q0 := cb hS k0; have q1 := cb hS k1; have q2 := cb hS k2; have q3 := cb hS k3; have q4 := cb hS k4; have q5 := cb hS k5; have q6 := cb hS k6; have q7 := cb hS k7; have hl := HLK2.out _ (bl_from HBW.out hS); go_simp; with_reducible rfl
    · simp only [Act.put, List.setIfInBounds_toArray, List.set_cons_zero, List.set_cons_succ]; rfl
    refine seq_take (v := ?_) (a' := ?_) (some 21) rfl rfl (by rfl) ?_ ?_ ?_
    rotate_left; rotate_left
    · intro w' hS; go_simp; with_reducible rfl
    · simp only [Act.put, List.setIfInBounds_toArray, List.set_cons_zero, List.set_cons_succ]; rfl
    refine seq_take (v := ?_) (a' := ?_) (some 22) rfl rfl (by rfl) ?_ ?_ ?_
    rotate_left; rotate_left
    · intro w' hS; have z := cb hS n0; have q0 := cb hS k0; have q1 := cb hS k1; have q2 := cb hS k2; have q3 := cb hS k3; have q4 := cb hS k4; have q5 := cb hS k5; have q6 := cb hS k6; have q7 := cb hS k7; have hl := HLK2.out _ (bl_from HBW.out hS); go_simp; with_reducible rfl
    · simp only [Act.put, List.setIfInBounds_toArray, List.set_cons_zero, List.set_cons_succ]; rfl
    refine seq_take (v := ?_) (a' := ?_) (some 23) rfl rfl (by rfl) ?_ ?_ ?_
    rotate_left; rotate_left
    · intro w' hS; have z := cb hS n0; have q0 := cb hS k0; have q1 := cb hS k1; have q2 := cb hS k2; have q3 := cb hS k3; have q4 := cb hS k4; have q5 := cb hS k5; have q6 := cb hS k6; have q7 := cb hS k7; have hl := HLK2.out _ (bl_from HBW.out hS); go_simp; with_reducible rfl
    · simp only [Act.put, List.setIfInBounds_toArray, List.set_cons_zero, List.set_cons_succ]; rfl
    refine seq_take (v := ?_) (a' := ?_) (some 16) rfl rfl (by rfl) ?_ ?_ ?_
    rotate_left; rotate_left
    · intro w' hS; go_simp; with_reducible rfl
    · simp only [Act.put, List.setIfInBounds_toArray, List.set_cons_zero, List.set_cons_succ]; rfl
    refine seq_take (v := ?_) (a' := ?_) (some 24) rfl rfl (by rfl) ?_ ?_ ?_
    rotate_left; rotate_left
    · intro w' hS; go_simp; with_reducible rfl
    · simp only [Act.put, List.setIfInBounds_toArray, List.set_cons_zero, List.set_cons_succ]; rfl
    refine seq_take (v := ?_) (a' := ?_) (some 25) rfl rfl (by rfl) ?_ ?_ ?_
    rotate_left; rotate_left
    · intro w' hS; go_simp; with_reducible rfl
    · simp only [Act.put, List.setIfInBounds_toArray, List.set_cons_zero, List.set_cons_succ]; rfl
    refine seq_op (some 6) rfl rfl (by rfl) ?_
    apply Exists.intro; apply Exists.intro; apply And.intro
    · go_simp; first | exact ⟨rfl, rfl⟩ | rfl
    apply Exists.intro; apply And.intro
    · simp only [Act.put, List.setIfInBounds_toArray, List.set_cons_zero, List.set_cons_succ]; rfl
    apply And.intro
    · exact (by repeat (first | with_reducible exact hB | refine Below.alloc ?_ (by have := hB.size; simp; omega) _ | refine bl_dN ?_ _ | refine Below.drew ?_ | refine Below.setCell ?_ (by have := hB.size; simp; omega) _))
    refine seq_store none rfl rfl (by rfl) ?_
    apply Exists.intro; apply And.intro
    · go_simp; first | exact ⟨rfl, rfl⟩ | rfl
    apply Exists.intro; apply And.intro
    · simp only [Act.put, List.setIfInBounds_toArray, List.set_cons_zero, List.set_cons_succ]; rfl
    apply And.intro
    · exact (by repeat (first | with_reducible exact hB | refine Below.alloc ?_ (by have := hB.size; simp; omega) _ | refine bl_dN ?_ _ | refine Below.drew ?_ | refine Below.setCell ?_ (by have := hB.size; simp; omega) _))
    refine seq_take (v := ?_) (a' := ?_) (some 7) rfl rfl (by rfl) ?_ ?_ ?_
    rotate_left; rotate_left
    · intro w' hS; go_simp; with_reducible rfl
    · simp only [Act.put, List.setIfInBounds_toArray, List.set_cons_zero, List.set_cons_succ]; rfl
    refine seq_done ?_
    refine name_exit ?_
    intro U hU
    have hbU : Below w1.heap.size w1 U := by rw [hU]; exact hB.alloc hB.size _
    have HBU := Lib.hid (bl_from HBW.out hbU)
    have z0 := cb hbU n0
    have e0 := cb hbU k0
    have e1 := cb hbU k1
    have e2 := cb hbU k2
    have e3 := cb hbU k3
    have e4 := cb hbU k4
    have e5 := cb hbU k5
    have e6 := cb hbU k6
    have e7 := cb hbU k7
    have HSU := Lib.hid (HST.out.below HBU.out)
    have hln := omap_len HSU.out.map 3
    clear hU hB hbU n0 k0 k1 k2 k3 k4 k5 k6 k7
    cases hh : hasA M k with
    | true =>
      have HE2 := Lib.hid (show pe = 0 by rw [HE.out, hh]; rfl)
      clear hh
      go_wp2_with (go_at_call 69; refine (HWR.out _ HBU.out).mono ?_; rintro e w' ⟨lv', x, y, rfl, hst, hkp⟩; have HF := Lib.hid hst; have HK := Lib.hid hkp; clear hst hkp)
      refine bodyPost_ret (v := .tuple #[.int .i64 (ver + 1), .int .i64 0]) (by simp [results, Try.results39, go_sem]) rfl ?_
      have q1 := HF.out
      first | rw [if_pos rfl] at q1 | rw [if_pos trivial] at q1
      exact .inr ⟨HE2.out, lv', x, y, rfl, q1, (kept_of_below (X := fun b => b = sp ∨ b = mb ∨ (Value.slice al L.length cl).ownBlock = some b) HBU.out).trans HK.out (fun _ q => .inl q)⟩
    | false =>
      by_cases hc : M.length < 1000
      · have HE2 := Lib.hid (show pe = 0 by rw [HE.out, hh, if_pos (by simpa using hc)])
        have hI : ¬ (1000 : Int) ≤ M.length := by omega
        clear hh hc
        go_wp2_with (go_at_call 69; refine (HWR.out _ HBU.out).mono ?_; rintro e w' ⟨lv', x, y, rfl, hst, hkp⟩; have HF := Lib.hid hst; have HK := Lib.hid hkp; clear hst hkp)
        refine bodyPost_ret (v := .tuple #[.int .i64 (ver + 1), .int .i64 0]) (by simp [results, Try.results39, go_sem]) rfl ?_
        have q1 := HF.out
        first | rw [if_pos rfl] at q1 | rw [if_pos trivial] at q1
        exact .inr ⟨HE2.out, lv', x, y, rfl, q1, (kept_of_below (X := fun b => b = sp ∨ b = mb ∨ (Value.slice al L.length cl).ownBlock = some b) HBU.out).trans HK.out (fun _ q => .inl q)⟩
      · have HE2 := Lib.hid (show pe = 3 by rw [HE.out, hh, if_neg (by simpa using hc)])
        have hI : (1000 : Int) ≤ M.length := by omega
        clear hh hc
        go_wp2_with fail
        refine bodyPost_ret (v := .tuple #[.int .i64 0, .int .i64 3]) (by simp [results, Try.results39, go_sem]) rfl ?_
        exact .inl ⟨by rw [HE2.out]; decide, by rw [HE2.out], HBU.out⟩
end Go.Proofs.Ythhfcambdmdgfaa
namespace Go.Proofs.Ythhfcambdmdgfaa
open Go.RowKit Go.Maps
set_option linter.unusedVariables false
set_option linter.unusedSimpArgs false
def goneO (k : KeyD) : ObjD := ⟨k, 0, ⟨#[]⟩, false, false, []⟩
def delErr (M : AM KS OX) (k : KS) : Int := if keyOk k.1 then if hasA M k then 0 else 4 else 1
theorem StoreAt.del {w w1 : World} {base sp mb : Nat} {ver : Int} {M : AM KS OX} {lv : Value} {L : List LX} {k : KS} (h : StoreAt w base sp mb ver M lv L) (hg : w.mapTurned w1 mb) (hm : w1.ownsMap Try.prog 24 RV mb M.length ((dmA kL (fun p => Value.agg (objX p).toArray) M).del (kL k))) :
    StoreAt w1 base sp mb ver (delA M k) lv L ∧ Kept (fun q => q = mb) w w1 := by
  have hkk : Kept (fun q => q = mb) w w1 := kept_turned hg
  have h4 : ∀ q, q = mb → ∀ c, w.heap[q]? = some (.cells c 112) → False := fun q e c hc' => mv_other h.map hc' e
  refine ⟨⟨hkk.heap h.cell h.ne_map, ?_, rw_kept h.row hkk (fun q e r => by subst r; exact h.ne_log_map e), fun q hq => ?_, fun e he => ⟨(h.resL e he).1.kept hkk h4, (h.resL e he).2⟩, h.ge⟩, hkk⟩
  · rw [del_dmA kL_lit] at hm
    have := mv_tight hm
    rw [size_dmA kL_lit] at this
    exact this
  · have r := (mem_del.1 hq).1
    exact ⟨(h.resM q r).1.kept hkk h4, (h.resM q r).2⟩
def WroteD (w : World) (base sp mb : Nat) (ver : Int) (M : AM KS OX) (lv : Value) (L : List LX) (kd : Int) (o : ObjD) (e : Ending) (w' : World) : Prop :=
  ∃ lv' x, e = .returned (.int .i64 (ver + 1)) ∧ StoreAt w' base sp mb (ver + 1) M lv' (L ++ [(kd, ({ o with ver := ver + 1 }, x))]) ∧ Kept (fun b => b = sp ∨ b = mb ∨ lv.ownBlock = some b) w w'
theorem wrote_ne {w : World} {base sp mb : Nat} {ver : Int} {M : AM KS OX} {lv : Value} {L : List LX} {kd : Int} {k : KS} {o : ObjD} {e : Ending} {w' : World} (h : Wrote w base sp mb ver M lv L kd k o e w') (hk : kd ≠ 0) : WroteD w base sp mb ver M lv L kd o e w' := by
  obtain ⟨lv', x, y, h1, h2, h3⟩ := h
  rw [if_neg hk] at h2
  exact ⟨lv', x, h1, h2, h3⟩
set_option maxRecDepth 100000 in
set_option maxHeartbeats 8000000 in
theorem sdelete_calls (w : World) {base sp mb : Nat} {ver : Int} {M : AM KS OX} {lv : Value} {L : List LX} (h : StoreAt w base sp mb ver M lv L) (k : KS)
    (hv : 0 ≤ ver ∧ ver ≤ 1000000000) (hM : M.length ≤ 1000000) (hL : L.length ≤ 1000000) :
    Calls Try.prog 40 #[.pointer (some ⟨sp, 0, none⟩), .agg #[.string k.1.kind, .string k.1.space, .string k.1.name]] w (Act9 w base sp mb ver (fun _ => delA M k) lv L 1 (goneO k.1) (delErr M k)) := by
  have hsp := h.ptr
  obtain ⟨al, cl, rfl⟩ := rw_form h.row
  have HST := Lib.hid h
  have HKS := Lib.hid k.2
  have HWR := Lib.hid (fun (U : World) (hu : StoreAt U base sp mb ver (delA M k) (.slice al L.length cl) L) => written_calls U hu 1 (o := goneO k.1) (k := k) (sl := .slice none 0 0) rfl (fun X hX => ⟨⟨sliS_nil X 2, by rintro p ⟨⟩⟩, (show in64 0 by unfold in64; omega)⟩) ⟨k.2, (show (ByteArray.mk #[]).size ≤ 1000 by decide), (show (0:Nat) ≤ 300 by omega), by rintro p ⟨⟩⟩ hv (Nat.le_trans (del_le M k) hM) hL |>.mono fun e w' q => wrote_ne q (by decide))
  unfold objV goneO at HWR
  simp only at HWR
  obtain ⟨q, A, n, c, HLK⟩ := store_look h k rfl
  have m0 : w.cell? ⟨sp, 0, none⟩ = some (.map (some mb)) := blk_cell h.cell 0
  have HLK2 := Lib.hid HLK
  have HM := Lib.hid hM
  have HKEY := Lib.hid (show keyOf Try.prog 24 (.agg #[.string k.1.kind, .string k.1.space, .string k.1.name]) = some (kL k) from kL_key k)
  have HPE := Lib.hid (show delErr M k = if keyOk k.1 then if hasA M k then 0 else 4 else 1 from rfl)
  generalize delErr M k = pe at HPE ⊢
  clear h hv hM hL HLK
  go_enter Try.func40, Try.ntmps40
  go_upto_region 1 with fail
  first | with_reducible refine name_wp ?_ | with_reducible refine name_calls ?_
  intro W hW
  have Hw := Lib.hid (show Below w.heap.size w W by rw [hW]; exact (Below.refl _ _).alloc (Nat.le_refl _) _)
  have c0_0 : W.cell? ⟨w.heap.size, 0, none⟩ = some (.string k.1.kind) := by rw [hW]; exact blk_cell (blk_new w _) 0
  have c0_1 : W.cell? ⟨w.heap.size, 1, none⟩ = some (.string k.1.space) := by rw [hW]; exact blk_cell (blk_new w _) 1
  have c0_2 : W.cell? ⟨w.heap.size, 2, none⟩ = some (.string k.1.name) := by rw [hW]; exact blk_cell (blk_new w _) 2
  clear hW
  cases hr : keyB k.1.kind k.1.space k.1.name with
  | false =>
    have HRR := Lib.hid hr
    have HE := Lib.hid (show pe = 1 by rw [HPE.out]; unfold keyOk; rw [hr]; rfl)
    clear hr
    go_wp2_with (go_at_call 70; refine (key_calls _ _ _ _ (by have := HKS.out; unfold keySmall at this; omega) (by have := HKS.out; unfold keySmall at this; omega) (by have := HKS.out; unfold keySmall at this; omega)).mono ?_; rintro e w1 ⟨rfl, hb⟩; rw [HRR.out]; have k0 := cb hb c0_0; have k1 := cb hb c0_1; have k2 := cb hb c0_2; have HB1 := Lib.hid hb; have n0 := cb (bl_from Hw.out hb) m0; clear hb)
    refine bodyPost_ret (v := .tuple #[.int .i64 0, .int .i64 1]) (by simp [results, Try.results40, go_sem]) rfl ?_
    exact .inl ⟨by rw [HE.out]; decide, by rw [HE.out], bl_from Hw.out HB1.out⟩
  | true =>
    have HRR := Lib.hid hr
    have HE := Lib.hid (show pe = if hasA M k then 0 else 4 by rw [HPE.out]; unfold keyOk; rw [hr]; rfl)
    clear hr
    go_upto_region 3 with (go_at_call 70; refine (key_calls _ _ _ _ (by have := HKS.out; unfold keySmall at this; omega) (by have := HKS.out; unfold keySmall at this; omega) (by have := HKS.out; unfold keySmall at this; omega)).mono ?_; rintro e w1 ⟨rfl, hb⟩; rw [HRR.out]; have k0 := cb hb c0_0; have k1 := cb hb c0_1; have k2 := cb hb c0_2; have HB1 := Lib.hid hb; have n0 := cb (bl_from Hw.out hb) m0; clear hb)
    have HBW := Lib.hid (bl_from Hw.out HB1.out)
    have hB := Below.refl w1.heap.size w1
    clear c0_0 c0_1 c0_2
    have hB := hB.drew
    refine region_seq (fun w' => Below w1.heap.size w1 w') [(0, true), (1, true), (2, true), (3, true), (4, true), (5, true), (6, true), (7, true), (8, true), (9, false), (10, false), (11, true)] (by kernel_rfl) (by kernel_rfl) (fun _ _ _ _ h => h) hB ?_
    try generalize World.drew _ = wS at hB ⊢
    refine seq_take (v := ?_) (a' := ?_) (some 16) rfl rfl (by rfl) ?_ ?_ ?_
    rotate_left; rotate_left
    · intro w' hS; go_simp; with_reducible rfl
    · simp only [Act.put, List.setIfInBounds_toArray, List.set_cons_zero, List.set_cons_succ]; rfl
    refine seq_take (v := ?_) (a' := ?_) (some 17) rfl rfl (by rfl) ?_ ?_ ?_
    rotate_left; rotate_left
    · intro w' hS; go_simp; with_reducible rfl
    · simp only [Act.put, List.setIfInBounds_toArray, List.set_cons_zero, List.set_cons_succ]; rfl
    refine seq_take (v := ?_) (a' := ?_) (some 18) rfl rfl (by rfl) ?_ ?_ ?_
    rotate_left; rotate_left
    · intro w' hS; go_simp; with_reducible rfl
    · simp only [Act.put, List.setIfInBounds_toArray, List.set_cons_zero, List.set_cons_succ]; rfl
    refine seq_take (v := ?_) (a' := ?_) (some 19) rfl rfl (by rfl) ?_ ?_ ?_
    rotate_left; rotate_left
    · intro w' hS; have z := cb hS n0; have q0 := cb hS k0; have q1 := cb hS k1; have q2 := cb hS k2; have hl := HLK2.out _ (bl_from HBW.out hS); go_simp; with_reducible rfl
    · simp only [Act.put, List.setIfInBounds_toArray, List.set_cons_zero, List.set_cons_succ]; rfl
    refine seq_take (v := ?_) (a' := ?_) (some 20) rfl rfl (by rfl) ?_ ?_ ?_
    rotate_left; rotate_left
    · intro w' hS; have z := cb hS n0; have q0 := cb hS k0; have q1 := cb hS k1; have q2 := cb hS k2; have hl := HLK2.out _ (bl_from HBW.out hS); go_simp; with_reducible rfl
    · simp only [Act.put, List.setIfInBounds_toArray, List.set_cons_zero, List.set_cons_succ]; rfl
    refine seq_take (v := ?_) (a' := ?_) (some 21) rfl rfl (by rfl) ?_ ?_ ?_
    rotate_left; rotate_left
    · intro w' hS; have z := cb hS n0; have q0 := cb hS k0; have q1 := cb hS k1; have q2 := cb hS k2; have hl := HLK2.out _ (bl_from HBW.out hS); go_simp; with_reducible rfl
    · simp only [Act.put, List.setIfInBounds_toArray, List.set_cons_zero, List.set_cons_succ]; rfl
    refine seq_take (v := ?_) (a' := ?_) (some 15) rfl rfl (by rfl) ?_ ?_ ?_
    rotate_left; rotate_left
    · intro w' hS; go_simp; with_reducible rfl
    · simp only [Act.put, List.setIfInBounds_toArray, List.set_cons_zero, List.set_cons_succ]; rfl
    refine seq_take (v := ?_) (a' := ?_) (some 22) rfl rfl (by rfl) ?_ ?_ ?_
    rotate_left; rotate_left
    · intro w' hS; go_simp; with_reducible rfl
    · simp only [Act.put, List.setIfInBounds_toArray, List.set_cons_zero, List.set_cons_succ]; rfl
    refine seq_take (v := ?_) (a' := ?_) (some 23) rfl rfl (by rfl) ?_ ?_ ?_
    rotate_left; rotate_left
    · intro w' hS; go_simp; with_reducible rfl
    · simp only [Act.put, List.setIfInBounds_toArray, List.set_cons_zero, List.set_cons_succ]; rfl
    refine seq_op (some 6) rfl rfl (by rfl) ?_
    apply Exists.intro; apply Exists.intro; apply And.intro
    · go_simp; first | exact ⟨rfl, rfl⟩ | rfl
    apply Exists.intro; apply And.intro
    · simp only [Act.put, List.setIfInBounds_toArray, List.set_cons_zero, List.set_cons_succ]; rfl
    apply And.intro
    · exact (by repeat (first | with_reducible exact hB | refine Below.alloc ?_ (by have := hB.size; simp; omega) _ | refine bl_dN ?_ _ | refine Below.drew ?_ | refine Below.setCell ?_ (by have := hB.size; simp; omega) _))
    refine seq_store none rfl rfl (by rfl) ?_
    apply Exists.intro; apply And.intro
    · go_simp; first | exact ⟨rfl, rfl⟩ | rfl
    apply Exists.intro; apply And.intro
    · simp only [Act.put, List.setIfInBounds_toArray, List.set_cons_zero, List.set_cons_succ]; rfl
    apply And.intro
    · exact (by repeat (first | with_reducible exact hB | refine Below.alloc ?_ (by have := hB.size; simp; omega) _ | refine bl_dN ?_ _ | refine Below.drew ?_ | refine Below.setCell ?_ (by have := hB.size; simp; omega) _))
    refine seq_take (v := ?_) (a' := ?_) (some 7) rfl rfl (by rfl) ?_ ?_ ?_
    rotate_left; rotate_left
    · intro w' hS; go_simp; with_reducible rfl
    · simp only [Act.put, List.setIfInBounds_toArray, List.set_cons_zero, List.set_cons_succ]; rfl
    refine seq_done ?_
    refine name_exit ?_
    intro U hU
    have hbU : Below w1.heap.size w1 U := by rw [hU]; exact hB.alloc hB.size _
    have HBU := Lib.hid (bl_from HBW.out hbU)
    have z0 := cb hbU n0
    have e0 := cb hbU k0
    have e1 := cb hbU k1
    have e2 := cb hbU k2
    have HSU := Lib.hid (HST.out.below HBU.out)
    clear hU hB hbU n0 k0 k1 k2
    cases hh : hasA M k with
    | false =>
      have HE2 := Lib.hid (show pe = 4 by rw [HE.out, hh]; rfl)
      clear hh
      go_wp2_with fail
      refine bodyPost_ret (v := .tuple #[.int .i64 0, .int .i64 4]) (by simp [results, Try.results40, go_sem]) rfl ?_
      exact .inl ⟨by rw [HE2.out]; decide, by rw [HE2.out], HBU.out⟩
    | true =>
      have HE2 := Lib.hid (show pe = 0 by rw [HE.out, hh]; rfl)
      clear hh
      go_upto_region 6 with fail
      have hB := Below.refl U.heap.size U
      have hB := hB.drew
      refine region_seqM (fun w' => Below U.heap.size U w') 5 [(0, 1), (1, 1), (2, 1), (3, 1), (4, 1), (5, 0)] (by kernel_rfl) (by kernel_rfl) (fun _ _ _ _ h => h) hB ?_
      try generalize World.drew _ = wS at hB ⊢
      refine sm_take (v := ?_) (a' := ?_) (some 26) rfl rfl (by rfl) ?_ ?_ ?_
      rotate_left; rotate_left
      · intro w' hS; go_simp; with_reducible rfl
      · simp only [Act.put, List.setIfInBounds_toArray, List.set_cons_zero, List.set_cons_succ]; rfl
      refine sm_take (v := ?_) (a' := ?_) (some 27) rfl rfl (by rfl) ?_ ?_ ?_
      rotate_left; rotate_left
      · intro w' hS; go_simp; with_reducible rfl
      · simp only [Act.put, List.setIfInBounds_toArray, List.set_cons_zero, List.set_cons_succ]; rfl
      refine sm_take (v := ?_) (a' := ?_) (some 28) rfl rfl (by rfl) ?_ ?_ ?_
      rotate_left; rotate_left
      · intro w' hS; go_simp; with_reducible rfl
      · simp only [Act.put, List.setIfInBounds_toArray, List.set_cons_zero, List.set_cons_succ]; rfl
      refine sm_take (v := ?_) (a' := ?_) (some 29) rfl rfl (by rfl) ?_ ?_ ?_
      rotate_left; rotate_left
      · intro w' hS; have p0 := cb hS z0; have q0 := cb hS e0; have q1 := cb hS e1; have q2 := cb hS e2; go_simp; with_reducible rfl
      · simp only [Act.put, List.setIfInBounds_toArray, List.set_cons_zero, List.set_cons_succ]; rfl
      refine sm_take (v := ?_) (a' := ?_) (some 30) rfl rfl (by rfl) ?_ ?_ ?_
      rotate_left; rotate_left
      · intro w' hS; have p0 := cb hS z0; have q0 := cb hS e0; have q1 := cb hS e1; have q2 := cb hS e2; go_simp; with_reducible rfl
      · simp only [Act.put, List.setIfInBounds_toArray, List.set_cons_zero, List.set_cons_succ]; rfl
      refine sm_law rfl (by rfl) ?_
      refine wp_mapDel _ (.tmp 29) (.tmp 30) 92 24 rfl 27 kS_keyed Try.underlying92 mb M.length (dmA kL (fun p => Value.agg (objX p).toArray) M) rfl (HSU.out.map.below hB) (.agg #[.string k.1.kind, .string k.1.space, .string k.1.name]) (kL k) rfl HKEY.out ?_
      intro w4 hown4 hturn4
      refine ⟨.inl rfl, ?_⟩
      simp only [Act.put, List.setIfInBounds_toArray, List.set_cons_zero, List.set_cons_succ]
      refine sm_done ?_
      have HD := Lib.hid ((HSU.out.below hB).del hturn4 hown4)
      have HKF := Lib.hid (show Kept (fun b => b = sp ∨ b = mb ∨ (Value.slice al L.length cl).ownBlock = some b) w w4 from (kept_of_below (X := fun b => b = sp ∨ b = mb ∨ (Value.slice al L.length cl).ownBlock = some b) (bl_from HBU.out hB)).trans HD.out.2 (fun _ q => .inl (.inr (.inl q))))
      have hNB : ¬ (w.heap.size = mb) := by
        obtain ⟨es, clock, hb, _⟩ := HST.out.map
        have := blk_lt hb; omega
      have f0 := HD.out.2.cell (cb hB e0) hNB
      have f1 := HD.out.2.cell (cb hB e1) hNB
      have f2 := HD.out.2.cell (cb hB e2) hNB
      clear hown4 hturn4 hB e0 e1 e2 z0 hNB
      go_wp2_with (go_at_call 69; refine (HWR.out _ HD.out.1).mono ?_; rintro e w' ⟨lv', x, rfl, hst, hkp⟩; have HF := Lib.hid hst; have HK := Lib.hid hkp; clear hst hkp)
      refine bodyPost_ret (v := .tuple #[.int .i64 (ver + 1), .int .i64 0]) (by simp [results, Try.results40, go_sem]) rfl ?_
      exact .inr ⟨HE2.out, lv', x, undef, rfl, HF.out, HKF.out.trans HK.out (fun _ q => .inl q)⟩
end Go.Proofs.Ythhfcambdmdgfaa
namespace Go.Proofs.Ythhfcambdmdgfaa
open Go.RowKit Go.Maps
set_option linter.unusedVariables false
set_option linter.unusedSimpArgs false
abbrev LY := LX × Value
def yX (e : LY) : List Value := [.int .i64 e.1.1] ++ objX e.1.2 ++ [.int .i64 0, e.2]
def yC (l : List LY) : List Value := l.flatMap yX
theorem yC_app (l : List LY) (e : LY) : yC (l ++ [e]) = yC l ++ yX e := by simp [yC]
def lyOf (l : List LY) : List (Int × ObjD) := l.map fun p => (p.1.1, p.1.2.1)
def lxOf (L : List LX) : List (Int × ObjD) := L.map fun p => (p.1, p.2.1)
theorem flat_at {α : Type} (f : α → List Value) (sz : Nat) (hf : ∀ a, (f a).length = sz) : ∀ (l : List α) (k : Nat) (hk : k < l.length) (j : Nat), j < sz → (l.flatMap f)[k * sz + j]? = (f (l[k]'hk))[j]? := by
  intro l
  induction l with
  | nil => intro k hk; exact absurd hk (Nat.not_lt_zero _)
  | cons a r ih =>
    intro k hk j hj
    rw [List.flatMap_cons]
    cases k with
    | zero => rw [Nat.zero_mul, Nat.zero_add, List.getElem?_append_left (by rw [hf]; exact hj)]; rfl
    | succ k =>
      rw [List.getElem?_append_right (by rw [hf, Nat.succ_mul]; omega), hf, show (k + 1) * sz + j - sz = k * sz + j by rw [Nat.succ_mul]; omega]
      exact ih k (by simpa using hk) j hj
/-- An event's cells. -/
structure EvAt (w : World) (b off : Nat) (kd : Int) (o : ObjD) (x : Value) (vr : Int) (ov : Value) : Prop where
  c0 : w.cell? ⟨b, off, none⟩ = some (.int .i64 kd)
  c1 : w.cell? ⟨b, off + 1, none⟩ = some (.string o.key.kind)
  c2 : w.cell? ⟨b, off + 2, none⟩ = some (.string o.key.space)
  c3 : w.cell? ⟨b, off + 3, none⟩ = some (.string o.key.name)
  c4 : w.cell? ⟨b, off + 4, none⟩ = some (.int .i64 o.ver)
  c5 : w.cell? ⟨b, off + 5, none⟩ = some (.string o.cls)
  c6 : w.cell? ⟨b, off + 6, none⟩ = some (.bool o.term)
  c7 : w.cell? ⟨b, off + 7, none⟩ = some (.bool o.best)
  c8 : w.cell? ⟨b, off + 8, none⟩ = some (x)
  c9 : w.cell? ⟨b, off + 9, none⟩ = some (.int .i64 vr)
  c10 : w.cell? ⟨b, off + 10, none⟩ = some (ov)
theorem EvAt.below {w w' : World} {b off : Nat} {kd : Int} {o : ObjD} {x : Value} {vr : Int} {ov : Value} (h : EvAt w b off kd o x vr ov) (hb : Below w.heap.size w w') : EvAt w' b off kd o x vr ov :=
  ⟨cb hb h.c0, cb hb h.c1, cb hb h.c2, cb hb h.c3, cb hb h.c4, cb hb h.c5, cb hb h.c6, cb hb h.c7, cb hb h.c8, cb hb h.c9, cb hb h.c10⟩
theorem log_at {w : World} {v : Value} {L : List LX} (h : SliS w v 11 L.length (lgC L)) {k : Nat} (hk : k < L.length) : ∃ b off c, v = .slice (some ⟨b, off, none⟩) L.length c ∧ EvAt w b (off + k * 11) (L[k]'hk).1 (L[k]'hk).2.1 (L[k]'hk).2.2 0 (.slice none 0 0) := by
  obtain ⟨b, off, c, he, _, hx⟩ := h.at' hk
  have z : ∀ j u, j < 11 → (lgX (L[k]'hk))[j]? = some u → w.cell? ⟨b, off + k * 11 + j, none⟩ = some u := fun j u hj e => hx j hj u (by rw [show lgC L = L.flatMap lgX from rfl, flat_at lgX 11 (fun _ => rfl) L k hk j hj]; exact e)
  exact ⟨b, off, c, he, ⟨z 0 _ (by omega) rfl, z 1 _ (by omega) rfl, z 2 _ (by omega) rfl, z 3 _ (by omega) rfl, z 4 _ (by omega) rfl, z 5 _ (by omega) rfl, z 6 _ (by omega) rfl, z 7 _ (by omega) rfl, z 8 _ (by omega) rfl, z 9 _ (by omega) rfl, z 10 _ (by omega) rfl⟩⟩
def OwnL (w : World) (kd : Int) (o : ObjD) (e : Ending) (w' : World) : Prop := ∃ g A c, e = .returned (.agg #[.int .i64 kd, .string o.key.kind, .string o.key.space, .string o.key.name, .int .i64 o.ver, .string o.cls, .bool o.term, .bool o.best, .slice (some ⟨g, 0, none⟩) o.charge.length o.charge.length, .int .i64 0, .slice A 0 c]) ∧ Hid (ResF w' w.heap.size (.slice (some ⟨g, 0, none⟩) o.charge.length o.charge.length) o.charge ∧ ObjsF w' w.heap.size (.slice A 0 c) []) ∧ Below w.heap.size w w'
theorem evown0_calls (w : World) (kd : Int) {o : ObjD} {sl : Value} (ho : ObjS w sl o) (hs : objSmall o) : Calls Try.prog 17 #[evV kd o sl 0 (.slice none 0 0)] w (OwnL w kd o) :=
  (evown_calls w kd 0 ho hs (xs := []) ⟨sliS_nil w 8, by rintro p ⟨⟩⟩ (by rintro p ⟨⟩) (by simp)).mono fun e w' ⟨x, ov, ys, he, hx, hy, hyx, hb⟩ => by
    obtain rfl : ys = [] := by cases ys with
      | nil => rfl
      | cons p r => simp [oxs] at hyx
    obtain ⟨g, rfl⟩ := hx.form
    obtain ⟨A, c, rfl⟩ := hy.form
    exact ⟨g, A, c, he, Lib.hid ⟨hx, hy⟩, hb⟩
theorem app_ey {ops : Array Oper} {rest : List Oper} {o' : Oper} {a : Act} {Q : Exit → Act → World → Prop} {w : World} (hgd : o'.guard = none) (s x : Operand)
    (ho : o'.op = .call { callee := .builtin .append, args := #[s, x], argTypes := #[48, 48] })
    (base : Nat) (tb : TypeId) (v : Value) (l : List LY) (kd : Int) (o : ObjD) (g n1 c1 : Nat) (A : Option Addr) (c : Nat) (hs : a.eval s = v) (hown : w.ownsRow base 30 11 v l.length (yC l)) (c0 : Nat) (hx : a.eval x = .slice (some ⟨w.heap.size, 0, none⟩) 1 c0)
    (hbase : base ≤ w.heap.size) (hlen : l.length + 1 ≤ 100000000)
    (h : ∀ g2 cap w1, w1.ownsRow base 30 11 (.slice (some ⟨g2, 0, none⟩) (l.length + 1) cap) (l ++ [((kd, (o, Value.slice (some ⟨g, 0, none⟩) n1 c1)), Value.slice A 0 c)]).length (yC (l ++ [((kd, (o, Value.slice (some ⟨g, 0, none⟩) n1 c1)), Value.slice A 0 c)])) → Kept (fun k => v.ownBlock = some k) w w1 → wpList Try.prog ops Q rest (a.put o'.dst (.slice (some ⟨g2, 0, none⟩) (l.length + 1) cap)) w1) :
    wpList Try.prog ops Q (o' :: rest) a (w.alloc (.cells #[.int .i64 kd, .string o.key.kind, .string o.key.space, .string o.key.name, .int .i64 o.ver, .string o.cls, .bool o.term, .bool o.best, .slice (some ⟨g, 0, none⟩) n1 c1, .int .i64 0, .slice A 0 c] tb)) := by
  obtain ⟨i0, hi, hz0, hz1, hz2⟩ := info_parts info_ev
  refine app_rw hgd s x _ ho base _ i0 _ 11 144 Try.underlying48 hi hz0 hz1 hz2 rfl (by decide) tb v l.length (yC l) [.int .i64 kd, .string o.key.kind, .string o.key.space, .string o.key.name, .int .i64 o.ver, .string o.cls, .bool o.term, .bool o.best, .slice (some ⟨g, 0, none⟩) n1 c1, .int .i64 0, .slice A 0 c] hs hown c0 hx rfl (by simp [Value.oneCell']) hbase hlen (by decide) ?_
  intro g2 cap w1 h1 h2 h3
  refine h g2 cap w1 ?_ h2
  rw [List.length_append, yC_app]
  exact h1
/-- A list of events of the call's own. -/
structure LogF (w : World) (b : Nat) (v : Value) (ys : List LY) : Prop where
  row : w.ownsRow b 30 11 v ys.length (yC ys)
  res : ∀ p ∈ ys, ResF w b p.1.2.2 p.1.2.1.charge ∧ ObjsF w b p.2 []
theorem LogF.below {w w' : World} {b : Nat} {v : Value} {ys : List LY} (h : LogF w b v ys) (hb : Below w.heap.size w w') : LogF w' b v ys := ⟨rw_below h.row hb, fun p hp => ⟨(h.res p hp).1.below hb, (h.res p hp).2.below hb⟩⟩
theorem LogF.mono {w : World} {b b' : Nat} {v : Value} {ys : List LY} (h : LogF w b v ys) (hb : b' ≤ b) : LogF w b' v ys := ⟨rw_mono h.row hb, fun p hp => ⟨(h.res p hp).1.mono hb, (h.res p hp).2.mono hb⟩⟩
theorem LogF.snoc {w w' : World} {b : Nat} {v v' : Value} {ys : List LY} {p : LY} (h : LogF w b v ys) (hp : ResF w b p.1.2.2 p.1.2.1.charge ∧ ObjsF w b p.2 []) (hr : w'.ownsRow b 30 11 v' (ys ++ [p]).length (yC (ys ++ [p]))) (hk : Kept (fun k => v.ownBlock = some k) w w') : LogF w' b v' (ys ++ [p]) := by
  have key : ∀ q : LY, ResF w b q.1.2.2 q.1.2.1.charge ∧ ObjsF w b q.2 [] → ResF w' b q.1.2.2 q.1.2.1.charge ∧ ObjsF w' b q.2 [] := fun q hq =>
    ⟨hq.1.kept hk (fun k e c hc => rw_other h.row hc (by decide) e), hq.2.kept hk (fun k e => rw_ne h.row hq.2.1 (by decide) k e) (fun k e c hc => rw_other h.row hc (by decide) e)⟩
  refine ⟨hr, fun q hq => ?_⟩
  rcases List.mem_append.1 hq with r | r
  · exact key q (h.res q r)
  · obtain rfl := List.mem_singleton.1 r; exact key q hp
set_option maxRecDepth 100000 in
set_option maxHeartbeats 8000000 in
theorem slog_calls (w : World) {base sp mb : Nat} {ver : Int} {M : AM KS OX} {lv : Value} {L : List LX} (h : StoreAt w base sp mb ver M lv L) (hS : ∀ e ∈ L, objSmall e.2.1) (hL : L.length ≤ 1000000) :
    Calls Try.prog 38 #[.pointer (some ⟨sp, 0, none⟩)] w fun e w' => ∃ v ys, e = .returned v ∧ LogF w' w.heap.size v ys ∧ lyOf ys = lxOf L ∧ Below w.heap.size w w' := by
  have hsp := h.ptr
  obtain ⟨al, cl, rfl⟩ := rw_form h.row
  have m2 : w.cell? ⟨sp, 2, none⟩ = some (.slice al L.length cl) := blk_cell h.cell 2
  have HSL := Lib.hid (sliS_of h.row)
  have HRL := Lib.hid (fun e (he : e ∈ L) => And.intro (h.resL e he) (hS e he))
  have HL := Lib.hid hL
  clear h hS
  have HNIL := Lib.hid (show LogF w w.heap.size (.slice none 0 0) [] from ⟨⟨rfl, .inl ⟨rfl, rfl⟩⟩, by rintro p ⟨⟩⟩)
  go_enter Try.func38, Try.ntmps38
  go_wp2_with fail
  go_loopw [3, 13] (fun s i wr => ∃ (k : Nat) (A : Option Addr) (c : Nat) (ys : List LY), i = .int .i64 k ∧ k ≤ L.length ∧ s = .slice A k c ∧ Hid (ys.length = k ∧ LogF wr w.heap.size (.slice A k c) ys ∧ lyOf ys = (lxOf L).take k) ∧ Hid (Below w.heap.size w wr)) (fun _ i _ => L.length - (intOf i).toNat)
  case atStart => exact ⟨0, none, 0, [], rfl, Nat.zero_le _, rfl, Lib.hid ⟨rfl, HNIL.out, rfl⟩, Lib.hid (Below.refl _ _)⟩
  case round =>
    obtain ⟨k, av, cv, ys, rfl, hk, rfl, HY, HBr⟩ := hrel
    by_cases hkl : k < L.length
    · have hkI : (k : Int) < L.length := by omega
      obtain ⟨b, of, c9, he, hq⟩ := log_at HSL.out hkl
      cases he
      have HT := Lib.hid (show (lxOf L).take (k + 1) = (lxOf L).take k ++ [((L[k]'hkl).1, (L[k]'hkl).2.1)] by rw [List.take_succ_eq_append_getElem (by simp [lxOf]; exact hkl)]; simp [lxOf])
      have HM := Lib.hid (HRL.out _ (List.getElem_mem hkl))
      generalize L[k]'hkl = p at hq HT HM
      obtain ⟨kd, o, so⟩ := p
      obtain ⟨g0, hg0⟩ := HM.out.1.1.form
      simp only at hg0
      subst hg0
      simp only at hq HT
      obtain ⟨V, rfl⟩ : ∃ V : World, V = wr := ⟨_, rfl⟩
      have q := hq.below HBr.out
      clear hq
      have d0 := q.c0
      have d1 := q.c1
      have d2 := q.c2
      have d3 := q.c3
      have d4 := q.c4
      have d5 := q.c5
      have d6 := q.c6
      have d7 := q.c7
      have d8 := q.c8
      have d9 := q.c9
      have d10 := q.c10
      have HOS := Lib.hid (show ObjS V (.slice (some ⟨g0, 0, none⟩) o.charge.length o.charge.length) o from (ObjS.below ⟨HM.out.1.1.resS HM.out.1.2.2, HM.out.1.2.1⟩ HBr.out))
      have HSM := Lib.hid HM.out.2
      clear q HM
      go_upto_region 7 with fail
      first | with_reducible refine name_wp ?_ | with_reducible refine name_calls ?_
      intro V1 hU
      have hw9 : Below V.heap.size V V1 := by rw [hU]; exact (Below.refl V.heap.size V).alloc (Nat.le_refl _) _
      clear d0 d1 d2 d3 d4 d5 d6 d7 d8 d9 d10
      have gA : V1.heap[V.heap.size]? = some (.cells #[.int .i64 kd, .string o.key.kind, .string o.key.space, .string o.key.name, .int .i64 o.ver, .string o.cls, .bool o.term, .bool o.best, .slice (some ⟨g0, 0, none⟩) o.charge.length o.charge.length, .int .i64 0, .slice none 0 0] 30) := by rw [hU]; exact blk_new V _
      clear hU
      have a0 := blk_cell gA 0
      have a1 := blk_cell gA 1
      have a2 := blk_cell gA 2
      have a3 := blk_cell gA 3
      have a4 := blk_cell gA 4
      have a5 := blk_cell gA 5
      have a6 := blk_cell gA 6
      have a7 := blk_cell gA 7
      have a8 := blk_cell gA 8
      have a9 := blk_cell gA 9
      have a10 := blk_cell gA 10
      clear gA
      have HC2 := Lib.hid (evown0_calls V1 kd (HOS.out.below hw9) HSM.out)
      unfold evV at HC2
      have HBV := Lib.hid (bl_next HBr.out hw9)
      have HY1 := Lib.hid (HY.out.2.1.below hw9)
      have HYE := Lib.hid (And.intro HY.out.1 HY.out.2.2)
      have hyl : ys.length ≤ 1000000 := by have := HY.out.1; have := HL.out; omega
      clear hw9 HY HOS
      go_wp2_with (first | (go_at_call 17; refine HC2.out.mono ?_; rintro e w2 ⟨gx, A2, c2, rfl, HF, hb⟩; have HY2 := Lib.hid (HY1.out.below hb); have HB2 := Lib.hid (bl_next HBV.out hb); have HF2 := Lib.hid (And.intro (HF.out.1.mono HBV.out.size) (HF.out.2.mono HBV.out.size)); clear hb HF) | (at_builtin; refine app_ey rfl (.tmp 17) (.tmp 20) rfl w.heap.size _ (.slice av k cv) ys kd o gx o.charge.length o.charge.length A2 c2 rfl HY2.out.row 1 rfl HB2.out.size (by omega) ?_; intro g3 cap w3 hown' hk'; have HN := Lib.hid (LogF.snoc (p := ((kd, (o, Value.slice (some ⟨gx, 0, none⟩) o.charge.length o.charge.length)), Value.slice A2 0 c2)) HY2.out HF2.out hown' hk'); have HB3 := Lib.hid (HB2.out.trans (hk'.below HB2.out.size (fun q hq => (rw_type HY2.out.row hq).1))); clear hown' hk'))
      go_roundw
      case rel => exact ⟨k + 1, _, cap, ys ++ [_], by simp, by omega, by rw [HYE.out.1], Lib.hid ⟨by simp [HYE.out.1], by rw [HYE.out.1] at HN; exact HN.out, by rw [HT.out, ← HYE.out.2]; simp [lyOf]⟩, HB3⟩
      case measure => simp [intOf]; omega
    · obtain rfl : k = L.length := by omega
      go_wp2_with fail
      go_ret
      exact ⟨_, ys, rfl, HY.out.2.1, by rw [HY.out.2.2, show L.length = (lxOf L).length by simp [lxOf], List.take_length], HBr.out⟩
end Go.Proofs.Ythhfcambdmdgfaa
namespace Go.Proofs.Ythhfcambdmdgfaa
open Go.RowKit Go.Maps
set_option linter.unusedVariables false
set_option linter.unusedSimpArgs false
theorem slice_rows {α β : Type} [Inhabited β] {kd : Kd α} {w : World} {ok : Nat → Prop} {A : Option Addr} {c sz : Nat} {l : List α} (hsz : kd.sz = sz) (hpos : 0 < sz) (f : β → List Value) (hf : ∀ x, (f x).length = sz) (P : α → β → Prop)
    (hK : ∀ a cs, kd.K w ok a cs → ∃ x, cs = f x ∧ P a x) (hc : l.length ≤ c) (h : Row kd w ok A l) :
    ∃ xs : List β, xs.length = l.length ∧ SliS w (.slice A l.length c) sz xs.length (xs.flatMap f) ∧ ∀ i (h1 : i < l.length) (h2 : i < xs.length), P (l[i]'h1) (xs[i]'h2) := by
  rcases h with rfl | ⟨b, off, rfl, _, _, hr⟩
  · exact ⟨[], rfl, ⟨by simp, A, c, rfl, hc, .inl rfl⟩, fun i h1 => absurd h1 (Nat.not_lt_zero _)⟩
  · have hy : ∀ i, i < l.length → ∃ x : β, ∃ hi : i < l.length, cellsAt w b (off + i * sz) (f x) ∧ P (l[i]'hi) x := fun i hi => by
      obtain ⟨cs, h1, h2⟩ := hr i hi
      obtain ⟨x, rfl, h3⟩ := hK _ _ h2
      rw [hsz] at h1
      exact ⟨x, hi, h1, h3⟩
    obtain ⟨g, hg⟩ := Go.Deep.choose_lt hy
    obtain ⟨xs, hxs⟩ : ∃ xs : List β, xs = (List.range l.length).map fun i => g i := ⟨_, rfl⟩
    have hlen : xs.length = l.length := by rw [hxs]; simp
    have hget : ∀ i (hi : i < xs.length), xs[i]'hi = g i := fun i hi => by subst hxs; simp
    have hfl : (xs.flatMap f).length = xs.length * sz := by
      clear hget hlen hxs
      induction xs with
      | nil => simp
      | cons a r ih => rw [List.flatMap_cons, List.length_append, hf, ih, List.length_cons, Nat.succ_mul, Nat.add_comm]
    refine ⟨xs, hlen, ⟨hfl, _, _, by rw [hlen], by rw [hlen]; exact hc, .inr ⟨b, off, rfl, fun j u hu => ?_⟩⟩, fun i h1 h2 => ?_⟩
    · have hj : j < xs.length * sz := by have := (List.getElem?_eq_some_iff.1 hu).1; rwa [hfl] at this
      have hi : j / sz < xs.length := by rw [Nat.div_lt_iff_lt_mul hpos]; exact hj
      obtain ⟨hi2, h1, _⟩ := hg (j / sz) (by omega)
      have hm := Nat.mod_lt j hpos
      have e := flat_at f sz hf xs (j / sz) hi (j % sz) hm
      have hd : j / sz * sz + j % sz = j := by rw [Nat.mul_comm]; exact Nat.div_add_mod j sz
      rw [hd, hu, hget _ hi] at e
      have := h1 (j % sz) u e.symm
      rwa [Nat.add_assoc, hd] at this
    · rw [hget i h2]
      obtain ⟨_, _, h3⟩ := hg i h1
      exact h3
end Go.Proofs.Ythhfcambdmdgfaa
namespace Go.Proofs.Ythhfcambdmdgfaa
open Go.RowKit Go.Maps Srt
set_option linter.unusedVariables false
set_option linter.unusedSimpArgs false
set_option linter.unusedSectionVars false
theorem ranges_kept {X : Nat → Prop} {H : Type} {P : Program} {k : TypeId} {R : Value → Option (DataW H × List MemPlace)} {w w' : World} {b r n : Nat} {D : DataW H} {left : Lit → Bool} {cnt : Nat}
    (h : w.ranges P k R b r n D left cnt) (hk : Kept X w w') (hb : ¬ X b) (hr : ¬ X r) : w'.ranges P k R b r n D left cnt := by
  obtain ⟨es, clock, since, seen, c0, hb', F, hs, hD, hr', rest⟩ := h
  exact ⟨es, clock, since, seen, c0, hk.heap hb' hb, F, hs, hD, hk.heap hr' hr, rest⟩
def fO (p : OX) : Value := .agg (objX p).toArray
/-- The entry that has come is one of the map's. -/
theorem met_next {M : AM KS OX} {kl : Lit} {c : Value} {yd : DataW Value} {yp : List MemPlace} (hl : Maps.has (dmA kL fO M) kl = true) (hv : RV c = some (yd, yp)) (hat : ∀ zd, (dmA kL fO M).atKey kl zd = yd) :
    ∃ p ∈ M, kl = kL p.1 ∧ c = fO p.2 := by
  have h : (M.map (fun p : KS × OX => ((kL p.1, DataW.held (fO p.2)) : Lit × DataW Value))).any (fun p => p.1.sameKey kl) = true := hl
  rw [List.any_map, List.any_eq_true] at h
  obtain ⟨q, hq, hs⟩ := h
  have e : kL q.1 = kl := Go.WideAt.sameKey_eq hs
  subst e
  rw [has_dmA kL_lit, hasA_get] at hl
  obtain ⟨v, hg⟩ := Option.isSome_iff_exists.1 hl
  refine ⟨(q.1, v), getA_mem hg, rfl, ?_⟩
  have z := val_dmA kL_lit fO M q.1 (.int .i64 0)
  rw [hg] at z
  unfold valAt at z
  rw [hat] at z
  cases hv
  exact z
theorem fst_inj {α β : Type} : ∀ {l : List (α × β)} {p q : α × β}, (l.map (·.1)).Nodup → p ∈ l → q ∈ l → p.1 = q.1 → p = q
  | a :: r, p, q, h, hp, hq, e => by
    rw [List.map_cons, List.nodup_cons] at h
    rcases List.mem_cons.1 hp with h1 | h1
    · rcases List.mem_cons.1 hq with h2 | h2
      · rw [h1, h2]
      · exact absurd (List.mem_map.2 ⟨q, h2, by rw [← e, h1]⟩) h.1
    · rcases List.mem_cons.1 hq with h2 | h2
      · exact absurd (List.mem_map.2 ⟨p, h1, by rw [e, h2]⟩) h.1
      · exact fst_inj h.2 h1 h2 e
/-- What has been met so far of a map that is ranged over. -/
structure Met (M : AM KS OX) (left : Lit → Bool) (N : AM KS OX) : Prop where
  sub : ∀ q ∈ N, q ∈ M ∧ left (kL q.1) = false
  all : ∀ q ∈ M, q ∈ N ∨ left (kL q.1) = true
  nod : (N.map (·.1)).Nodup
  has : ∀ z, left z = true → Maps.has (dmA kL fO M) z = true
theorem Met.start (M : AM KS OX) : Met M (Maps.has (dmA kL fO M)) [] where
  sub := by rintro q ⟨⟩
  all := fun q hq => .inr (by rw [has_dmA kL_lit]; unfold hasA; rw [List.any_eq_true]; exact ⟨q, hq, by simp⟩)
  nod := List.nodup_nil
  has := fun z h => h
theorem Met.step {M N : AM KS OX} {left : Lit → Bool} (h : Met M left N) (hk : (M.map (·.1)).Nodup) {p : KS × OX} (hp : p ∈ M) (hl : left (kL p.1) = true) : Met M (fun z => left z && !z.sameKey (kL p.1)) (N ++ [p]) where
  sub := fun q hq => by
    rcases List.mem_append.1 hq with r | r
    · exact ⟨(h.sub q r).1, by simp [(h.sub q r).2]⟩
    · obtain rfl := List.mem_singleton.1 r
      exact ⟨hp, by rw [kL_lit.same]; simp⟩
  all := fun q hq => by
    by_cases e : q.1 = p.1
    · left
      have : q = p := fst_inj hk hq hp e
      rw [this]; simp
    · rcases h.all q hq with r | r
      · exact .inl (List.mem_append_left _ r)
      · right; show (left (kL q.1) && !(kL q.1).sameKey (kL p.1)) = true
        rw [r, kL_lit.same, decide_eq_false e]; rfl
  nod := by
    rw [List.map_append, List.nodup_append]
    refine ⟨h.nod, by simp, ?_⟩
    intro a ha b hb e
    obtain ⟨q, hq, rfl⟩ := List.mem_map.1 ha
    obtain rfl : b = p.1 := by simpa using hb
    have := (h.sub q hq).2
    rw [e, hl] at this; cases this
  has := fun z hz => by
    simp only [Bool.and_eq_true] at hz
    exact h.has z hz.1
theorem nodup_fst {α β : Type} : ∀ {l : List (α × β)}, (l.map (·.1)).Nodup → l.Nodup
  | [], _ => List.nodup_nil
  | a :: r, h => by
    rw [List.map_cons, List.nodup_cons] at h
    exact List.nodup_cons.2 ⟨fun e => h.1 (List.mem_map.2 ⟨a, e, rfl⟩), nodup_fst h.2⟩
theorem Met.perm {M N : AM KS OX} {left : Lit → Bool} (h : Met M left N) (hk : (M.map (·.1)).Nodup) (hl : ∀ z, left z = false) : N.Perm M :=
  (List.perm_ext_iff_of_nodup (nodup_fst h.nod) (nodup_fst hk)).2 fun q => ⟨fun r => (h.sub q r).1, fun r => (h.all q r).elim id (fun e => by rw [hl] at e; cases e)⟩
/-- Lists of the same things, whose texts differ, are sorted alike. -/
theorem srtX_perm {α : Type} {t : α → ByteArray} {l m : List α} (hp : l.Perm m) (hn : (m.map t).Nodup) : srtX t l = srtX t m := by
  refine (srtX_of (srtX_srt m) (Stab.trans (K := t) (fun c => ?_) (Stab_symm (srtX_stab m)))).symm
  have q : (l.filter (fun x => decide (t x = c))).Perm (m.filter (fun x => decide (t x = c))) := hp.filter _
  have z : ∀ m : List α, (m.map t).Nodup → (m.filter (fun x => decide (t x = c))).length ≤ 1 := by
    intro m
    induction m with
    | nil => intro _; simp
    | cons a r ih =>
      intro h
      rw [List.map_cons, List.nodup_cons] at h
      rw [List.filter_cons]
      by_cases e : t a = c
      · rw [if_pos (by simpa using e)]
        have : r.filter (fun x => decide (t x = c)) = [] := by
          rw [List.filter_eq_nil_iff]
          intro x hx
          simp only [decide_eq_true_eq]
          intro e2
          exact h.1 (List.mem_map.2 ⟨x, hx, e2.trans e.symm⟩)
        rw [this]; simp
      · rw [if_neg (by simpa using e)]; exact ih h.2
  have z := z m hn
  generalize m.filter (fun x => decide (t x = c)) = b at q z
  cases b with
  | nil => exact q.eq_nil
  | cons x r =>
    obtain rfl : r = [] := by cases r with
      | nil => rfl
      | cons y s => simp at z
    exact List.perm_singleton.1 q
end Go.Proofs.Ythhfcambdmdgfaa
namespace Go.Proofs.Ythhfcambdmdgfaa
open Go.RowKit Go.Maps Srt
set_option linter.unusedVariables false
set_option linter.unusedSimpArgs false
def SnapO (w : World) (ver : Int) (l : List ObjD) (e : Ending) (w' : World) : Prop := ∃ v zs, e = .returned (evV 2 zeroO (.slice none 0 0) ver v) ∧ ObjsF w' w.heap.size v zs ∧ oxs zs = srtX kTO l ∧ Below w.heap.size w w'
theorem ranges_ne {H : Type} {P : Program} {k : TypeId} {R : Value → Option (DataW H × List MemPlace)} {w : World} {b r n : Nat} {D : DataW H} {left : Lit → Bool} {cnt : Nat} {base : Nat} {e : TypeId} {sz m : Nat} {v : Value} {xs : List Value}
    (h : w.ranges P k R b r n D left cnt) (hr : w.ownsRow base e sz v m xs) : v.ownBlock ≠ some b ∧ v.ownBlock ≠ some r := by
  obtain ⟨es, clock, since, seen, c0, hb', F, hs, hD, hr', rest⟩ := h
  refine ⟨fun q => ?_, fun q => ?_⟩
  · obtain ⟨_, cs, hc⟩ := rw_type hr q
    rw [hb'] at hc; cases hc
  · obtain ⟨_, cs, hc⟩ := rw_type hr q
    rw [hr'] at hc; cases hc
set_option maxRecDepth 100000 in
set_option maxHeartbeats 8000000 in
theorem ssnapshot_calls (w : World) {base sp mb : Nat} {ver : Int} {M : AM KS OX} {lv : Value} {L : List LX} (h : StoreAt w base sp mb ver M lv L) (hS : ∀ q ∈ M, objSmall q.2.1) (hK : (M.map (·.1)).Nodup) (hT : ((M.map (·.2.1)).map kTO).Nodup) (hM : M.length ≤ 1000000) :
    Calls Try.prog 34 #[.pointer (some ⟨sp, 0, none⟩)] w (SnapO w ver (M.map (·.2.1))) := by
  have hsp := h.ptr
  have m0 : w.cell? ⟨sp, 0, none⟩ = some (.map (some mb)) := blk_cell h.cell 0
  have m1 : w.cell? ⟨sp, 1, none⟩ = some (.int .i64 ver) := blk_cell h.cell 1
  have HST := Lib.hid h; have HS := Lib.hid hS; have HK := Lib.hid hK; have HT := Lib.hid hT; have HM := Lib.hid hM
  clear h hS hK hT hM
  go_enter Try.func34, Try.ntmps34
  go_upto_region 4 with fail
  first | with_reducible refine name_wp ?_ | with_reducible refine name_calls ?_
  intro W hW
  have Hw := Lib.hid (show Below w.heap.size w W by rw [hW]; exact (Below.refl _ _).alloc (Nat.le_refl _) _)
  have gW : W.heap[w.heap.size]? = some (.cells #[.int .i64 0, .string ⟨#[]⟩, .string ⟨#[]⟩, .string ⟨#[]⟩, .int .i64 0, .string ⟨#[]⟩, .bool false, .bool false, .slice none 0 0, .int .i64 0, .slice none 0 0] 30) := by rw [hW]; exact blk_new w _
  have bz0 : W.cell? ⟨w.heap.size, 0, none⟩ = some (.int .i64 0) := blk_cell gW 0
  have bz1 : W.cell? ⟨w.heap.size, 1, none⟩ = some (.string ⟨#[]⟩) := blk_cell gW 1
  have bz2 : W.cell? ⟨w.heap.size, 2, none⟩ = some (.string ⟨#[]⟩) := blk_cell gW 2
  have bz3 : W.cell? ⟨w.heap.size, 3, none⟩ = some (.string ⟨#[]⟩) := blk_cell gW 3
  have bz4 : W.cell? ⟨w.heap.size, 4, none⟩ = some (.int .i64 0) := blk_cell gW 4
  have bz5 : W.cell? ⟨w.heap.size, 5, none⟩ = some (.string ⟨#[]⟩) := blk_cell gW 5
  have bz6 : W.cell? ⟨w.heap.size, 6, none⟩ = some (.bool false) := blk_cell gW 6
  have bz7 : W.cell? ⟨w.heap.size, 7, none⟩ = some (.bool false) := blk_cell gW 7
  have bz8 : W.cell? ⟨w.heap.size, 8, none⟩ = some (.slice none 0 0) := blk_cell gW 8
  have bz9 : W.cell? ⟨w.heap.size, 9, none⟩ = some (.int .i64 0) := blk_cell gW 9
  have bz10 : W.cell? ⟨w.heap.size, 10, none⟩ = some (.slice none 0 0) := blk_cell gW 10
  have UF := Lib.hid (fun j => blk_free gW j)
  have UG := Lib.hid (show TyB W w.heap.size 30 from ⟨_, gW⟩)
  clear hW gW
  have n0 := cb Hw.out m0
  have n1 := cb Hw.out m1
  have HSW := Lib.hid (HST.out.below Hw.out)
  have hmbW : mb < W.heap.size := by
    obtain ⟨es, clock, hb, _⟩ := HSW.out.map
    exact blk_lt hb
  have HNIL := Lib.hid (show W.ownsRow W.heap.size 27 8 (.slice none 0 0) 0 (objC []) from ⟨rfl, .inl ⟨rfl, rfl⟩⟩)
  clear m0 m1
  go_wp2_with (at_range; refine wpList_range_own _ rfl _ 92 rfl 24 27 kS_keyed Try.underlying92 RV mb M.length (dmA kL fO M) rfl HSW.out.map ?_; intro w0 hrg0 hg0 hs0)
  go_frame
  go_loopw [3] (fun s wr => ∃ (left : Lit → Bool) (cnt : Nat) (N : AM KS OX) (A : Option Addr) (c : Nat), s = .slice A N.length c ∧ Hid (wr.ranges Try.prog 24 RV mb W.heap.size M.length (dmA kL fO M) left cnt) ∧ Hid (Met M left N ∧ N.length + cnt ≤ M.length ∧ wr.ownsRow W.heap.size 27 8 (.slice A N.length c) N.length (objC (N.map (·.2)))) ∧ Hid (Below W.heap.size W wr)) (fun _ wr => wr.rangeLeft mb W.heap.size)
  case atStart => exact ⟨_, _, [], none, 0, rfl, Lib.hid hrg0, Lib.hid ⟨Met.start M, by rw [size_dmA kL_lit]; simp, rw_below HNIL.out ((Below.refl _ _).grown hg0 (Nat.le_refl _) (fun j hj => by cases hj))⟩, Lib.hid ((Below.refl _ _).grown hg0 (Nat.le_refl _) (fun j hj => by cases hj))⟩
  case round =>
    obtain ⟨left, cnt, N, A, c, rfl, HRG, HMT, HBr⟩ := hrel
    have hrg := HRG.out
    go_wp2_with (at_next; refine wpList_next_ranges _ rfl _ rfl 24 kS_keyed RV (fun x : Value => x) (fun x : Value => x) (fun key kl _ => ⟨key, rfl⟩) (fun v y _ => ⟨v, rfl⟩) mb W.heap.size M.length _ _ _ rfl hrg ?_ ?_)
    · intro _ hl0
      have HP := Lib.hid (HMT.out.1.perm HK.out hl0)
      have hro := ranges_ne HRG.out HMT.out.2.2
      have HNL := Lib.hid (show N.length ≤ 1000000 by have := HMT.out.2.1; have := HM.out; omega)
      obtain ⟨ys, hys⟩ : ∃ ys, ys = N.map (·.2) := ⟨_, rfl⟩
      have hyl : ys.length = N.length := by rw [hys]; simp
      have hymem : ∀ p ∈ ys, ∃ q ∈ M, q.2 = p := fun p hp => by
        rw [hys] at hp
        obtain ⟨q, hq, e⟩ := List.mem_map.1 hp
        exact ⟨q, (HMT.out.1.sub q hq).1, e⟩
      have HYX := Lib.hid (show ObjsS wr (.slice A N.length c) ys from ⟨by rw [hyl]; have q := HMT.out.2.2; rw [← hys] at q; exact sliS_of q, fun p hp => by
        obtain ⟨q, hq, rfl⟩ := hymem p hp
        have z := HSW.out.resM q hq
        exact ObjS.below ⟨z.1.resS z.2.1.2, z.2.1.1⟩ HBr.out⟩)
      have HYSM := Lib.hid (show OSmall (oxs ys) from fun o ho => by
        obtain ⟨p, hp, rfl⟩ := List.mem_map.1 ho
        obtain ⟨q, hq, rfl⟩ := hymem p hp
        exact HS.out q hq)
      have HSRT := Lib.hid (show srtX kTO (oxs ys) = srtX kTO (M.map (·.2.1)) by
        refine srtX_perm ?_ HT.out
        have q := HP.out.map (fun p : KS × OX => p.2.1)
        rw [hys]; unfold oxs; rw [List.map_map]; exact q)
      have HSC := Lib.hid (fun (U : World) (hb : Below wr.heap.size wr U) => evsorted_calls U (HYX.out.below hb) HYSM.out (by rw [hyl]; exact HNL.out))
      have HWW := Lib.hid (show w.heap.size < W.heap.size from lt_of_cell bz0)
      have o1 := cb HBr.out n1
      have e0 := cb HBr.out bz0
      have e1 := cb HBr.out bz1
      have e2 := cb HBr.out bz2
      have e3 := cb HBr.out bz3
      have e4 := cb HBr.out bz4
      have e5 := cb HBr.out bz5
      have e6 := cb HBr.out bz6
      have e7 := cb HBr.out bz7
      have e8 := cb HBr.out bz8
      have e9 := cb HBr.out bz9
      have e10 := cb HBr.out bz10
      have HUF := Lib.hid (fun j => fb HBr.out (a := ⟨w.heap.size, j, none⟩) HWW.out (UF.out j))
      have HTY := Lib.hid (TyB.below UG.out HBr.out)
      have HBw := Lib.hid (bl_from Hw.out HBr.out)
      clear hrg hys hyl hymem hro n0 n1 hl0 hmbW hrg0 hg0 hs0 bz0 bz1 bz2 bz3 bz4 bz5 bz6 bz7 bz8 bz9 bz10
      go_upto_region 8 with fail
      have hB := Below.refl wr.heap.size wr
      have hB := hB.drew
      refine region_seqM (fun w' => Below wr.heap.size wr w') 7 [(0, 1), (1, 1), (2, 1), (3, 1), (4, 1), (5, 0), (6, 1), (7, 0)] (by kernel_rfl) (by kernel_rfl) (fun _ _ _ _ h => h) hB ?_
      try generalize World.drew _ = wS at hB ⊢
      refine sm_take (v := ?_) (a' := ?_) (some 22) rfl rfl (by rfl) ?_ ?_ ?_
      rotate_left; rotate_left
      · intro w' hS; go_simp; with_reducible rfl
      · simp only [Act.put, List.setIfInBounds_toArray, List.set_cons_zero, List.set_cons_succ]; rfl
      refine sm_take (v := ?_) (a' := ?_) (some 23) rfl rfl (by rfl) ?_ ?_ ?_
      rotate_left; rotate_left
      · intro w' hS; go_simp; with_reducible rfl
      · simp only [Act.put, List.setIfInBounds_toArray, List.set_cons_zero, List.set_cons_succ]; rfl
      refine sm_take (v := ?_) (a' := ?_) (some 24) rfl rfl (by rfl) ?_ ?_ ?_
      rotate_left; rotate_left
      · intro w' hS; go_simp; with_reducible rfl
      · simp only [Act.put, List.setIfInBounds_toArray, List.set_cons_zero, List.set_cons_succ]; rfl
      refine sm_take (v := ?_) (a' := ?_) (some 25) rfl rfl (by rfl) ?_ ?_ ?_
      rotate_left; rotate_left
      · intro w' hS; have p0 := cb hS o1; go_simp; with_reducible rfl
      · simp only [Act.put, List.setIfInBounds_toArray, List.set_cons_zero, List.set_cons_succ]; rfl
      refine sm_take (v := ?_) (a' := ?_) (some 26) rfl rfl (by rfl) ?_ ?_ ?_
      rotate_left; rotate_left
      · intro w' hS; go_simp; with_reducible rfl
      · simp only [Act.put, List.setIfInBounds_toArray, List.set_cons_zero, List.set_cons_succ]; rfl
      refine sm_call (args := ?_) Try.func19 (by kernel_rfl) rfl (some 27) rfl rfl (by rfl) rfl rfl ?_ ?_
      rotate_left
      · simp only [List.map_toArray, List.map_cons, List.map_nil]; go_simp; rfl
      with_reducible refine ((HSC.out _ hB)).mono ?_
      rintro e w' ⟨v2, zs, rfl, HZ, hzo, hb⟩
      obtain ⟨A2, c2, rfl⟩ := HZ.form; have HZ2 := Lib.hid (HZ.mono (b' := wr.heap.size) hB.size); have HZO := Lib.hid hzo; clear HZ hzo
      refine ⟨_, rfl, .inr (bl_next (by repeat (first | with_reducible exact hB | refine Below.alloc ?_ (by have := hB.size; simp; omega) _ | refine bl_dN ?_ _ | refine Below.drew ?_ | refine Below.setCell ?_ (by have := hB.size; simp; omega) _)) hb), ?_⟩
      have hB := bl_next (by repeat (first | with_reducible exact hB | refine Below.alloc ?_ (by have := hB.size; simp; omega) _ | refine bl_dN ?_ _ | refine Below.drew ?_ | refine Below.setCell ?_ (by have := hB.size; simp; omega) _)) hb; clear hb
      simp only [Act.put, List.setIfInBounds_toArray, List.set_cons_zero, List.set_cons_succ]
      refine sm_take (v := ?_) (a' := ?_) (some 28) rfl rfl (by rfl) ?_ ?_ ?_
      rotate_left; rotate_left
      · intro w' hS; go_simp; with_reducible rfl
      · simp only [Act.put, List.setIfInBounds_toArray, List.set_cons_zero, List.set_cons_succ]; rfl
      refine sm_store none rfl rfl (by rfl) ?_
      apply Exists.intro; apply And.intro
      · have k0 := cb hB e0; have kf0 := fb hB (lt_of_cell e0) (HUF.out 0); have k1 := cb hB e1; have kf1 := fb hB (lt_of_cell e1) (HUF.out 1); have k2 := cb hB e2; have kf2 := fb hB (lt_of_cell e2) (HUF.out 2); have k3 := cb hB e3; have kf3 := fb hB (lt_of_cell e3) (HUF.out 3); have k4 := cb hB e4; have kf4 := fb hB (lt_of_cell e4) (HUF.out 4); have k5 := cb hB e5; have kf5 := fb hB (lt_of_cell e5) (HUF.out 5); have k6 := cb hB e6; have kf6 := fb hB (lt_of_cell e6) (HUF.out 6); have k7 := cb hB e7; have kf7 := fb hB (lt_of_cell e7) (HUF.out 7); have k8 := cb hB e8; have kf8 := fb hB (lt_of_cell e8) (HUF.out 8); have k9 := cb hB e9; have kf9 := fb hB (lt_of_cell e9) (HUF.out 9); have k10 := cb hB e10; have kf10 := fb hB (lt_of_cell e10) (HUF.out 10); go_simp; first | exact ⟨rfl, rfl⟩ | rfl
      apply Exists.intro; apply And.intro
      · simp only [Act.put, List.setIfInBounds_toArray, List.set_cons_zero, List.set_cons_succ]; rfl
      apply And.intro
      · exact .inl rfl
      refine sm_done ?_
      have k0 := cb hB e0
      have k1 := cb hB e1
      have k2 := cb hB e2
      have k3 := cb hB e3
      have k4 := cb hB e4
      have k5 := cb hB e5
      have k6 := cb hB e6
      have k7 := cb hB e7
      have k8 := cb hB e8
      have k9 := cb hB e9
      have k10 := cb hB e10
      go_wp2_with fail
      refine name_body ?_
      intro Z hZ
      have hkZ : Kept (fun k => k = w.heap.size) w' Z := by
        rw [hZ]
        iterate 11 (refine Kept.setCell ?_ _ _ (.inl rfl))
        exact Kept.refl _ _
      have r0 : Z.cell? ⟨w.heap.size, 0, none⟩ = some (.int .i64 2) := by rw [hZ]; go_simp
      have r1 : Z.cell? ⟨w.heap.size, 1, none⟩ = some (.string ⟨#[]⟩) := by rw [hZ]; go_simp
      have r2 : Z.cell? ⟨w.heap.size, 2, none⟩ = some (.string ⟨#[]⟩) := by rw [hZ]; go_simp
      have r3 : Z.cell? ⟨w.heap.size, 3, none⟩ = some (.string ⟨#[]⟩) := by rw [hZ]; go_simp
      have r4 : Z.cell? ⟨w.heap.size, 4, none⟩ = some (.int .i64 0) := by rw [hZ]; go_simp
      have r5 : Z.cell? ⟨w.heap.size, 5, none⟩ = some (.string ⟨#[]⟩) := by rw [hZ]; go_simp
      have r6 : Z.cell? ⟨w.heap.size, 6, none⟩ = some (.bool false) := by rw [hZ]; go_simp
      have r7 : Z.cell? ⟨w.heap.size, 7, none⟩ = some (.bool false) := by rw [hZ]; go_simp
      have r8 : Z.cell? ⟨w.heap.size, 8, none⟩ = some (.slice none 0 0) := by rw [hZ]; go_simp
      have r9 : Z.cell? ⟨w.heap.size, 9, none⟩ = some (.int .i64 ver) := by rw [hZ]; go_simp
      have r10 : Z.cell? ⟨w.heap.size, 10, none⟩ = some (.slice A2 zs.length c2) := by rw [hZ]; go_simp
      clear hZ
      have hty := TyB.below HTY.out hB
      have hsz := hB.size
      have hww := HBw.out.size
      refine bodyPost_ret (v := .agg #[.int .i64 2, .string ⟨#[]⟩, .string ⟨#[]⟩, .string ⟨#[]⟩, .int .i64 0, .string ⟨#[]⟩, .bool false, .bool false, .slice none 0 0, .int .i64 ver, .slice A2 zs.length c2]) (by simp [results, Try.results34, go_sem, r0, r1, r2, r3, r4, r5, r6, r7, r8, r9, r10]) rfl ?_
      refine ⟨.slice A2 zs.length c2, zs, rfl, ?_, by rw [HZO.out, HSRT.out], (HBw.out.trans (hB.mono hww)).trans (hkZ.below (by omega) (fun j e => by omega))⟩
      refine (HZ2.out.mono (by omega)).kept hkZ (fun q e1 e2 => ?_) (fun q e cs hc => ?_)
      · subst e2
        obtain ⟨cs, hc⟩ := hty
        exact rw_other HZ2.out.1 hc (by decide) e1
      · subst e
        exact TyB.ne hty hc (by decide)
    · intro x cv kl yd yp w1 cnt1 hkx hlk hcy hat hrg1 hlt hg1 hs1 hen
      obtain ⟨p, hp, hkl, hcv⟩ := met_next (HMT.out.1.has kl hlk) hcy hat
      obtain ⟨k, o, so⟩ := p
      obtain ⟨g, hg⟩ := (HSW.out.resM _ hp).1.form
      simp only at hg hcv hkl
      subst hg
      subst hkl
      subst hcv
      have HM1 := Lib.hid (HMT.out.1.step HK.out hp hlk)
      have HB1 := Lib.hid (HBr.out.grown hg1 HBr.out.size (fun j hj => by cases hj; exact Nat.le_refl _))
      have HRG1 := Lib.hid hrg1
      have hro := ranges_ne HRG.out HMT.out.2.2
      have HO1 := Lib.hid (rw_kept (w' := w1) (X := fun q => q = W.heap.size) HMT.out.2.2 ((Kept.refl _ _).grown hg1 (fun j hj => by cases hj; exact .inl rfl)) (fun q e1 e2 => by subst e2; exact hro.2 e1))
      clear hro
      have HLE := Lib.hid (show N.length + 1 + cnt1 ≤ M.length by have := HMT.out.2.1; omega)
      have hen2 : (Instr.entry (.pointer (some ⟨W.heap.size, 0, none⟩))).run Try.prog w1 = .ok (.tuple #[x, .agg #[.string o.key.kind, .string o.key.space, .string o.key.name, .int .i64 o.ver, .string o.cls, .bool o.term, .bool o.best, .slice (some ⟨g, 0, none⟩) o.charge.length o.charge.length]]) w1 := hen
      have HLT := Lib.hid hlt
      have HLEFT := Lib.hid hrg.left_eq
      clear hrg hkx hlk hcy hat hrg1 hlt hg1 hs1 hen hp
      go_upto_region 7 with fail
      first | with_reducible refine name_wp ?_ | with_reducible refine name_calls ?_
      intro V1 hU
      have hw9 : Below w1.heap.size w1 V1 := by rw [hU]; exact (Below.refl w1.heap.size w1).alloc (Nat.le_refl _) _
      have gA : V1.heap[w1.heap.size]? = some (.cells #[.string o.key.kind, .string o.key.space, .string o.key.name, .int .i64 o.ver, .string o.cls, .bool o.term, .bool o.best, .slice (some ⟨g, 0, none⟩) o.charge.length o.charge.length] 27) := by rw [hU]; exact blk_new w1 _
      clear hU
      have a0 := blk_cell gA 0
      have a1 := blk_cell gA 1
      have a2 := blk_cell gA 2
      have a3 := blk_cell gA 3
      have a4 := blk_cell gA 4
      have a5 := blk_cell gA 5
      have a6 := blk_cell gA 6
      have a7 := blk_cell gA 7
      have HBV := Lib.hid (bl_next HB1.out hw9)
      have HRG2 := Lib.hid (ranges_kept HRG1.out (kept_of_below (X := fun _ => False) hw9) (fun q => q) (fun q => q))
      obtain ⟨ys, hys⟩ : ∃ ys, ys = N.map (·.2) := ⟨_, rfl⟩
      have hyl : ys.length = N.length := by rw [hys]; simp
      have HY1 := Lib.hid (show V1.ownsRow W.heap.size 27 8 (.slice A N.length c) ys.length (objC ys) by rw [hyl, hys]; exact rw_below HO1.out hw9)
      have HYL := Lib.hid hyl; have HYS := Lib.hid hys
      have hyb : ys.length ≤ 1000000 := by have := HLE.out; have := HM.out; omega
      clear gA hw9 hyl hys HO1 HRG1
      go_wp2_with (at_builtin; refine app_obj rfl (.tmp 18) (.tmp 20) rfl W.heap.size _ (.slice A N.length c) ys (o, Value.slice (some ⟨g, 0, none⟩) o.charge.length o.charge.length) _ _ _ rfl rfl HY1.out 1 rfl HBV.out.size (by omega) ?_; intro g3 cap w3 hown' hk'; have HN := Lib.hid hown'; have HB3 := Lib.hid (HBV.out.trans (row_below HY1.out hk' HBV.out.size)); have hro := ranges_ne HRG2.out HY1.out; have HRG3 := Lib.hid (ranges_kept HRG2.out hk' hro.1 hro.2); clear hown' hk' hro)
      go_roundw
      case rel => exact ⟨_, cnt1, N ++ [(k, (o, Value.slice (some ⟨g, 0, none⟩) o.charge.length o.charge.length))], some ⟨g3, 0, none⟩, cap, by rw [HYL.out]; simp, HRG3, Lib.hid ⟨HM1.out, by simp; have := HLE.out; omega, by
        have q := HN.out
        rw [HYL.out] at q
        rw [HYS.out] at q
        simpa using q⟩, HB3⟩
      case measure => rw [HRG3.out.left_eq, HRG.out.left_eq]; exact HLT.out
end Go.Proofs.Ythhfcambdmdgfaa
namespace Go.Proofs.Ythhfcambdmdgfaa
open Go.RowKit Go.Maps
set_option linter.unusedVariables false
set_option linter.unusedSimpArgs false
abbrev WX := Bool × OX
def wX (p : WX) : List Value := .bool p.1 :: objX p.2
def wC (xs : List WX) : List Value := xs.flatMap wX
def WrS (w : World) (v : Value) (xs : List WX) : Prop := SliS w v 9 xs.length (wC xs) ∧ ∀ p ∈ xs, ObjS w p.2.2 p.2.1
structure WrAt (w : World) (b off : Nat) (p : WX) : Prop where
  c0 : w.cell? ⟨b, off, none⟩ = some (.bool p.1)
  c1 : w.cell? ⟨b, off + 1, none⟩ = some (.string p.2.1.key.kind)
  c2 : w.cell? ⟨b, off + 2, none⟩ = some (.string p.2.1.key.space)
  c3 : w.cell? ⟨b, off + 3, none⟩ = some (.string p.2.1.key.name)
  c4 : w.cell? ⟨b, off + 4, none⟩ = some (.int .i64 p.2.1.ver)
  c5 : w.cell? ⟨b, off + 5, none⟩ = some (.string p.2.1.cls)
  c6 : w.cell? ⟨b, off + 6, none⟩ = some (.bool p.2.1.term)
  c7 : w.cell? ⟨b, off + 7, none⟩ = some (.bool p.2.1.best)
  c8 : w.cell? ⟨b, off + 8, none⟩ = some (p.2.2)
theorem WrS.form {w : World} {v : Value} {xs : List WX} (h : WrS w v xs) : ∃ A c, v = .slice A xs.length c := h.1.form
theorem WrS.below {w w' : World} {v : Value} {xs : List WX} (h : WrS w v xs) (hb : Below w.heap.size w w') : WrS w' v xs := ⟨h.1.below hb, fun p hp => (h.2 p hp).below hb⟩
theorem WrAt.below {w w' : World} {b off : Nat} {p : WX} (h : WrAt w b off p) (hb : Below w.heap.size w w') : WrAt w' b off p := ⟨cb hb h.c0, cb hb h.c1, cb hb h.c2, cb hb h.c3, cb hb h.c4, cb hb h.c5, cb hb h.c6, cb hb h.c7, cb hb h.c8⟩
theorem WrS.at' {w : World} {v : Value} {xs : List WX} (h : WrS w v xs) {k : Nat} (hk : k < xs.length) : ∃ b off c, v = .slice (some ⟨b, off, none⟩) xs.length c ∧ WrAt w b (off + k * 9) (xs[k]'hk) ∧ ObjS w (xs[k]'hk).2.2 (xs[k]'hk).2.1 := by
  obtain ⟨b, off, c, hv, _, hx⟩ := h.1.at' hk
  refine ⟨b, off, c, hv, ?_, h.2 _ (List.getElem_mem hk)⟩
  have z : ∀ j, j < 9 → ∀ u, (wX (xs[k]'hk))[j]? = some u → w.cell? ⟨b, off + k * 9 + j, none⟩ = some u := fun j hj u e => hx j hj u (by rw [show wC xs = xs.flatMap wX from rfl, flat_at wX 9 (fun _ => rfl) xs k hk j hj]; exact e)
  exact ⟨z 0 (by omega) _ rfl, z 1 (by omega) _ rfl, z 2 (by omega) _ rfl, z 3 (by omega) _ rfl, z 4 (by omega) _ rfl, z 5 (by omega) _ rfl, z 6 (by omega) _ rfl, z 7 (by omega) _ rfl, z 8 (by omega) _ rfl⟩
def WSmall (xs : List WX) : Prop := ∀ p ∈ xs, objSmall p.2.1
theorem wSmall_snoc {xs : List WX} {k : Nat} (hk : k < xs.length) (h : WSmall (xs.take k)) (q : objSmall (xs[k]'hk).2.1) : WSmall (xs.take (k + 1)) := by
  intro p hp
  rw [List.take_succ_eq_append_getElem hk] at hp
  rcases List.mem_append.1 hp with r | r
  · exact h p r
  · obtain rfl := List.mem_singleton.1 r; exact q
def FitW (w : World) (xs : List WX) (e : Ending) (w' : World) : Prop := ∃ f, e = .returned (.bool f) ∧ (f = true → WSmall xs ∧ xs.length ≤ 60) ∧ Below w.heap.size w w'
theorem fitW_no {w w' : World} {xs : List WX} (h : Below w.heap.size w w') : FitW w xs (.returned (.bool false)) w' := ⟨false, rfl, (fun h => by cases h), h⟩
theorem fitW_yes {w w' : World} {xs : List WX} (h : Below w.heap.size w w') (q : WSmall xs ∧ xs.length ≤ 60) : FitW w xs (.returned (.bool true)) w' := ⟨true, rfl, (fun _ => q), h⟩
set_option maxRecDepth 100000 in
set_option maxHeartbeats 8000000 in
theorem fits9_calls (w : World) {v : Value} {xs : List WX} (h : WrS w v xs) : Calls Try.prog 26 #[v] w (FitW w xs) := by
  have HX := Lib.hid h
  obtain ⟨al, cl, rfl⟩ := h.form
  clear h
  have hB := Below.refl w.heap.size w
  go_enter Try.func26, Try.ntmps26
  by_cases h60 : xs.length ≤ 60
  · have i60 : ¬ (60 : Int) < xs.length := by omega
    have H60 := Lib.hid h60
    go_wp2_with fail
    go_loopw [3] (fun i wr => ∃ k : Nat, i = .int .i64 k ∧ k ≤ xs.length ∧ Hid (WSmall (xs.take k)) ∧ Below w.heap.size w wr) (fun i _ => xs.length - (intOf i).toNat)
    case atStart => exact ⟨0, rfl, Nat.zero_le _, Lib.hid (by intro p hp; cases hp), hB⟩
    case round =>
      clear hB
      obtain ⟨k, rfl, hk, HT, hB⟩ := hrel
      by_cases hkl : k < xs.length
      · have hkI : (k : Int) < xs.length := by omega
        obtain ⟨b, of, c, he, q, s⟩ := HX.out.at' hkl
        cases he
        have HST := Lib.hid (wSmall_snoc hkl HT.out)
        generalize xs[k]'hkl = x at q s HST
        obtain ⟨gone, o, so⟩ := x
        simp only at s HST
        obtain ⟨ao, co, rfl⟩ := s.1.form
        have q := q.below hB
        have d0 := q.c0
        have d1 := q.c1
        have d2 := q.c2
        have d3 := q.c3
        have d4 := q.c4
        have d5 := q.c5
        have d6 := q.c6
        have d7 := q.c7
        have d8 := q.c8
        have HF := Lib.hid (fits5_calls _ (s.below hB))
        unfold objV at HF
        clear q s
        go_upto_region 7 with (go_at_call 55; ((with_reducible refine HF.out.mono ?_); rintro e w' ⟨f, rfl, hf, hb⟩; have HFF := Lib.hid hf; clear hf; have hB := bl_next hB hb; clear hb))
        cases f with
        | false =>
          go_wp2_with fail
          go_ret
          exact fitW_no hB
        | true =>
          have HOK := Lib.hid (HST.out (fit_small' (o := o) (HFF.out rfl)))
          go_wp2_with fail
          go_roundw
          case rel => exact ⟨k + 1, by simp, by omega, HOK, hB⟩
          case measure => simp [intOf]; omega
      · obtain rfl : k = xs.length := by omega
        have hT := HT.out
        rw [List.take_length] at hT
        go_wp2_with fail
        go_ret
        exact fitW_yes hB ⟨hT, H60.out⟩
  · have i60 : (60 : Int) < xs.length := by omega
    go_wp2_with fail
    go_ret
    exact fitW_no hB
theorem act9_form {w : World} {base sp mb : Nat} {ver : Int} {M1 : Value → AM KS OX} {lv : Value} {L : List LX} {kd : Int} {o : ObjD} {er : Int} {e : Ending} {w' : World} (h : Act9 w base sp mb ver M1 lv L kd o er e w') : ∃ vv : Int, e = .returned (.tuple #[.int .i64 vv, .int .i64 er]) ∧ Act9 w base sp mb ver M1 lv L kd o er (.returned (.tuple #[.int .i64 vv, .int .i64 er])) w' := by
  have h' := h
  rcases h with ⟨_, rfl, _⟩ | ⟨he, lv', x, y, rfl, _⟩
  · exact ⟨0, rfl, h'⟩
  · subst he; exact ⟨ver + 1, rfl, h'⟩
theorem act9_from {w W : World} {base sp mb : Nat} {ver : Int} {M1 : Value → AM KS OX} {lv : Value} {L : List LX} {kd : Int} {o : ObjD} {er : Int} {e : Ending} {w' : World} (hb : Below w.heap.size w W) (h : Act9 W base sp mb ver M1 lv L kd o er e w') : Act9 w base sp mb ver M1 lv L kd o er e w' := by
  rcases h with ⟨h1, h2, h3⟩ | ⟨h1, lv', x, y, h2, h3, h4⟩
  · exact .inl ⟨h1, h2, bl_from hb h3⟩
  · exact .inr ⟨h1, lv', x, y, h2, h3, (kept_of_below (X := fun b => b = sp ∨ b = mb ∨ lv.ownBlock = some b) hb).trans h4 (fun _ q => .inl q)⟩
/-- What a write answers. -/
def wErr (M : AM KS OX) (k : KS) (gone : Bool) (o : ObjD) : Int := if gone then delErr M k else putErr M k o
noncomputable def wMap (M : AM KS OX) (k : KS) (gone : Bool) (o : ObjD) (ver : Int) (y : Value) : AM KS OX := if gone then delA M k else putA ltKS M k ({ o with ver := ver + 1 }, y)
def wObj (gone : Bool) (o : ObjD) : ObjD := if gone then goneO o.key else o
def wKind (gone : Bool) : Int := if gone then 1 else 0
set_option maxRecDepth 100000 in
set_option maxHeartbeats 8000000 in
theorem do_calls (w : World) {base sp mb : Nat} {ver : Int} {M : AM KS OX} {lv : Value} {L : List LX} (h : StoreAt w base sp mb ver M lv L) (gone : Bool) {o : ObjD} {k : KS} {sl : Value} (hk : k.1 = o.key)
    (hO : ∀ U, Kept (fun b => b = sp ∨ b = mb ∨ lv.ownBlock = some b) w U → ObjS U sl o) (hs : objSmall o) (hv : 0 ≤ ver ∧ ver ≤ 1000000000) (hM : M.length ≤ 1000000) (hL : L.length ≤ 1000000) :
    Calls Try.prog 29 #[.pointer (some ⟨sp, 0, none⟩), .agg #[.bool gone, .string o.key.kind, .string o.key.space, .string o.key.name, .int .i64 o.ver, .string o.cls, .bool o.term, .bool o.best, sl]] w (Act9 w base sp mb ver (wMap M k gone o ver) lv L (wKind gone) (wObj gone o) (wErr M k gone o)) := by
  obtain ⟨ao, co, rfl⟩ := (hO w (Kept.refl _ _)).1.form
  have HP := Lib.hid (fun (U : World) (hb : Below w.heap.size w U) => sput_calls U (h.below hb) (k := k) hk (fun X hX => hO X ((kept_of_below (X := fun b => b = sp ∨ b = mb ∨ lv.ownBlock = some b) hb).trans hX (fun _ q => .inl q))) hs hv hM hL)
  have HD := Lib.hid (fun (U : World) (hb : Below w.heap.size w U) => sdelete_calls U (h.below hb) k hv hM hL)
  unfold objV at HP
  rw [hk] at HD
  clear h hO hs hv hM hL
  go_enter Try.func29, Try.ntmps29
  go_upto_region 1 with fail
  first | with_reducible refine name_wp ?_ | with_reducible refine name_calls ?_
  intro W hW
  have Hw := Lib.hid (show Below w.heap.size w W by rw [hW]; exact (Below.refl _ _).alloc (Nat.le_refl _) _)
  have b0 : W.cell? ⟨w.heap.size, 0, none⟩ = some (.bool gone) := by rw [hW]; exact blk_cell (blk_new w _) 0
  have b1 : W.cell? ⟨w.heap.size, 1, none⟩ = some (.string o.key.kind) := by rw [hW]; exact blk_cell (blk_new w _) 1
  have b2 : W.cell? ⟨w.heap.size, 2, none⟩ = some (.string o.key.space) := by rw [hW]; exact blk_cell (blk_new w _) 2
  have b3 : W.cell? ⟨w.heap.size, 3, none⟩ = some (.string o.key.name) := by rw [hW]; exact blk_cell (blk_new w _) 3
  have b4 : W.cell? ⟨w.heap.size, 4, none⟩ = some (.int .i64 o.ver) := by rw [hW]; exact blk_cell (blk_new w _) 4
  have b5 : W.cell? ⟨w.heap.size, 5, none⟩ = some (.string o.cls) := by rw [hW]; exact blk_cell (blk_new w _) 5
  have b6 : W.cell? ⟨w.heap.size, 6, none⟩ = some (.bool o.term) := by rw [hW]; exact blk_cell (blk_new w _) 6
  have b7 : W.cell? ⟨w.heap.size, 7, none⟩ = some (.bool o.best) := by rw [hW]; exact blk_cell (blk_new w _) 7
  have b8 : W.cell? ⟨w.heap.size, 8, none⟩ = some (.slice ao o.charge.length co) := by rw [hW]; exact blk_cell (blk_new w _) 8
  clear hW
  cases gone with
  | true =>
    have HC := Lib.hid (HD.out W Hw.out)
    skip
    go_wp2_with (go_at_call 40; refine HC.out.mono ?_; rintro e w1 hA; obtain ⟨vv, rfl, hA2⟩ := act9_form hA; have HA := Lib.hid hA2; clear hA hA2)
    refine bodyPost_ret (v := .tuple #[.int .i64 vv, .int .i64 (delErr M k)]) (by simp [results, Try.results29, go_sem]) rfl ?_
    exact act9_from Hw.out HA.out
  | false =>
    have HC := Lib.hid (HP.out W Hw.out)
    skip
    go_wp2_with (go_at_call 39; refine HC.out.mono ?_; rintro e w1 hA; obtain ⟨vv, rfl, hA2⟩ := act9_form hA; have HA := Lib.hid hA2; clear hA hA2)
    refine bodyPost_ret (v := .tuple #[.int .i64 vv, .int .i64 (putErr M k o)]) (by simp [results, Try.results29, go_sem]) rfl ?_
    exact act9_from Hw.out HA.out
end Go.Proofs.Ythhfcambdmdgfaa
namespace Go.Proofs.Ythhfcambdmdgfaa
open Go.RowKit Go.Maps
set_option linter.unusedVariables false
set_option linter.unusedSimpArgs false
def kWr : Kd (Bool × ObjD) := kPair kBool kObj
theorem opWr : Opens Try.prog 53 kWr := by
  refine opens_struct Try.underlying53 (by kernel_rfl) ?_
  exact (by refine opensF_cons ?_ ?_ ?_; rfl; exact opBool; refine opensF_one ?_ ?_; rfl; exact opObj)
theorem opWrL : Opens Try.prog 43 (kSlice kWr) := opens_slice Try.underlying43 (by kernel_rfl) (by decide) opWr
theorem wr_of {w : World} {ok : Nat → Prop} {l : List (Bool × ObjD)} {v : Value} (h : (kSlice kWr).K w ok l [v]) : ∃ xs : List WX, WrS w v xs := by
  obtain ⟨A, c, hv, hc, hr⟩ := h
  obtain rfl : v = .slice A l.length c := by simpa using hv
  have : Inhabited WX := ⟨(false, (zeroO, .nilFunc))⟩
  obtain ⟨xs, h1, h2, h3⟩ := slice_rows (kd := kWr) (sz := 9) rfl (by omega) wX (fun _ => rfl) (fun a x => ObjS w x.2.2 x.2.1) (fun a cs hk => by
    obtain ⟨c0, c1, rfl, h0, h1⟩ := hk
    obtain ⟨sl, rfl, hs⟩ := obj_cells h1
    exact ⟨(a.1, (a.2, sl)), by rw [show c0 = _ from h0]; rfl, hs⟩) hc hr
  refine ⟨xs, h2, fun p hp => ?_⟩
  obtain ⟨i, hi, rfl⟩ := List.mem_iff_getElem.1 hp
  exact h3 i (by omega) hi
end Go.Proofs.Ythhfcambdmdgfaa
namespace Go.Proofs.Ythhfcambdmdgfaa
open Go.RowKit Go.Maps
set_option linter.unusedVariables false
set_option linter.unusedSimpArgs false
set_option linter.unusedSectionVars false
def keyA : KeyD := ⟨⟨#[112, 111, 100]⟩, ⟨#[97]⟩, ⟨#[120]⟩⟩
def kA : KS := ⟨keyA, by decide, by decide, by decide⟩
def oA : ObjD := ⟨keyA, -7, ⟨#[104, 105, 103, 104]⟩, false, false, []⟩
theorem oA_right : rightO { oA with ver := 1 } = true := by kernel_rfl
theorem kA_ok : keyOk kA.1 = true := by kernel_rfl
theorem zero_wrong : rightO { zeroO with ver := 1 } = false := by kernel_rfl
theorem oA_S (U : World) : ObjS U (.slice none 0 0) oA := ⟨⟨sliS_nil U 2, by rintro p ⟨⟩⟩, (show in64 (-7) by unfold in64; omega)⟩
theorem oA_small : objSmall oA := ⟨kA.2, (show (ByteArray.mk #[104, 105, 103, 104]).size ≤ 1000 by decide), (show (0 : Nat) ≤ 300 by omega), by rintro p ⟨⟩⟩
section
variable {w w' : World} {base sp mb : Nat} {ver : Int} {M : AM KS OX} {lv : Value} {L : List LX}
/-- A box of an object outlives the store's writes. -/
theorem StoreAt.box {b : Nat} {cs : Array Value} (h : StoreAt w base sp mb ver M lv L) (hb : w.heap[b]? = some (.cells cs 27)) (hk : Kept (fun b => b = sp ∨ b = mb ∨ lv.ownBlock = some b) w w') : w'.heap[b]? = some (.cells cs 27) := by
  refine hk.heap hb ?_
  rintro (q | q | q)
  · subst q; rw [h.cell] at hb; cases hb
  · exact mv_other h.map hb q
  · exact rw_other h.row hb (by decide) q
def AOut (w : World) (base sp mb : Nat) (ver : Int) (M1 : Value → AM KS OX) (lv : Value) (L : List LX) (kd : Int) (o : ObjD) (e : Ending) (w' : World) : Prop :=
  ∃ lv' x y, e = .returned (.tuple #[.int .i64 (ver + 1), .int .i64 0]) ∧ Hid (StoreAt w' base sp mb (ver + 1) (M1 y) lv' (L ++ [(kd, ({ o with ver := ver + 1 }, x))])) ∧ Hid (Kept (fun b => b = sp ∨ b = mb ∨ lv.ownBlock = some b) w w')
theorem act9_ok {M1 : Value → AM KS OX} {kd : Int} {o : ObjD} {er : Int} {e : Ending} (h : Act9 w base sp mb ver M1 lv L kd o er e w') (he : er = 0) : AOut w base sp mb ver M1 lv L kd o e w' := by
  rcases h with ⟨h1, _⟩ | ⟨_, lv', x, y, h2, h3, h4⟩
  · exact absurd he h1
  · exact ⟨lv', x, y, h2, Lib.hid h3, Lib.hid h4⟩
theorem act9_no {M1 : Value → AM KS OX} {kd : Int} {o : ObjD} {er : Int} {e : Ending} (h : Act9 w base sp mb ver M1 lv L kd o er e w') (he : er ≠ 0) : e = .returned (.tuple #[.int .i64 0, .int .i64 er]) ∧ Below w.heap.size w w' := by
  rcases h with ⟨_, h2, h3⟩ | ⟨h1, _⟩
  · exact ⟨h2, h3⟩
  · exact absurd h1 he
theorem putA_calls (h : StoreAt w base sp mb ver M lv L) (hv : 0 ≤ ver ∧ ver ≤ 1000) (hM : M.length ≤ 100) (hL : L.length ≤ 100) :
    Calls Try.prog 39 #[.pointer (some ⟨sp, 0, none⟩), .agg #[.string ⟨#[112, 111, 100]⟩, .string ⟨#[97]⟩, .string ⟨#[120]⟩, .int .i64 (-7), .string ⟨#[104, 105, 103, 104]⟩, .bool false, .bool false, .slice none 0 0]] w (AOut w base sp mb ver (fun y => putA ltKS M kA ({ oA with ver := ver + 1 }, y)) lv L 0 oA) :=
  (sput_calls w h (o := oA) (k := kA) (sl := .slice none 0 0) rfl (fun U _ => oA_S U) oA_small ⟨hv.1, by omega⟩ (by omega) (by omega)).mono fun e w' q => act9_ok q (by
    unfold putErr
    rw [oA_right, if_pos rfl, if_pos (by simp; right; omega)])
theorem delA_calls (h : StoreAt w base sp mb ver M lv L) (hh : hasA M kA = true) (hv : 0 ≤ ver ∧ ver ≤ 1000) (hM : M.length ≤ 100) (hL : L.length ≤ 100) :
    Calls Try.prog 40 #[.pointer (some ⟨sp, 0, none⟩), .agg #[.string ⟨#[112, 111, 100]⟩, .string ⟨#[97]⟩, .string ⟨#[120]⟩]] w (AOut w base sp mb ver (fun _ => delA M kA) lv L 1 (goneO keyA)) :=
  (sdelete_calls w h kA ⟨hv.1, by omega⟩ (by omega) (by omega)).mono fun e w' q => act9_ok q (by unfold delErr; rw [kA_ok, if_pos rfl, hh, if_pos rfl])
theorem delNo_calls (h : StoreAt w base sp mb ver M lv L) (hh : hasA M kA = false) (hv : 0 ≤ ver ∧ ver ≤ 1000) (hM : M.length ≤ 100) (hL : L.length ≤ 100) :
    Calls Try.prog 40 #[.pointer (some ⟨sp, 0, none⟩), .agg #[.string ⟨#[112, 111, 100]⟩, .string ⟨#[97]⟩, .string ⟨#[120]⟩]] w fun e w' => e = .returned (.tuple #[.int .i64 0, .int .i64 4]) ∧ Below w.heap.size w w' :=
  (sdelete_calls w h kA ⟨hv.1, by omega⟩ (by omega) (by omega)).mono fun e w' q => by
    have e4 : delErr M kA = 4 := by unfold delErr; rw [kA_ok, if_pos rfl, hh]; rfl
    rw [e4] at q
    exact act9_no q (by decide)
theorem putNo_calls (h : StoreAt w base sp mb ver M lv L) (hv : 0 ≤ ver ∧ ver ≤ 1000) (hM : M.length ≤ 100) (hL : L.length ≤ 100) :
    Calls Try.prog 39 #[.pointer (some ⟨sp, 0, none⟩), .agg #[.string ⟨#[]⟩, .string ⟨#[]⟩, .string ⟨#[]⟩, .int .i64 0, .string ⟨#[]⟩, .bool false, .bool false, .slice none 0 0]] w fun e w' => e = .returned (.tuple #[.int .i64 0, .int .i64 1]) ∧ Below w.heap.size w w' :=
  (sput_calls w h (o := zeroO) (k := ⟨zeroO.key, zeroO_small.1⟩) (sl := .slice none 0 0) rfl (fun U _ => zeroO_S U) zeroO_small ⟨hv.1, by omega⟩ (by omega) (by omega)).mono fun e w' q => by
    have e1 : putErr M ⟨zeroO.key, zeroO_small.1⟩ zeroO = 1 := by unfold putErr; rw [zero_wrong]; rfl
    rw [e1] at q
    exact act9_no q (by decide)
end
end Go.Proofs.Ythhfcambdmdgfaa

import Derived.Test.YthhfcambdmdgfaaKcbae
import Derived.Test.YthhfcambdmdgfaaKcbaf
import Derived.Test.YthhfcambdmdgfaaKcbaa
namespace Go.Proofs.Ythhfcambdmdgfaa
open Go.RowKit Go.Maps
set_option linter.unusedVariables false
set_option linter.unusedSimpArgs false
theorem opEvL : Opens Try.prog 48 (kSlice kEv) := opens_slice Try.underlying48 (by kernel_rfl) (by decide) opEv
theorem ex_of {w : World} {ok : Nat → Prop} {l : List (Int × ObjD × Int × List ObjD)} {v : Value} (h : (kSlice kEv).K w ok l [v]) : ∃ xs : List EX, ExS w v xs := by
  obtain ⟨A, c, hv, hc, hr⟩ := h
  obtain rfl : v = .slice A l.length c := by simpa using hv
  obtain ⟨xs, h1, h2, h3⟩ := slice_rows (kd := kEv) (sz := 11) rfl (by omega) exX (fun _ => rfl) (fun a x => EvS w x) (fun a cs hk => by
    obtain ⟨sl, ol, zs, rfl, s1, s2, _, s3, s4⟩ := ev_cells hk
    exact ⟨⟨a.1, a.2.1, sl, a.2.2.1, ol, zs⟩, rfl, ⟨s1, s2, s3, s4⟩⟩) hc hr
  refine ⟨xs, h2, fun p hp => ?_⟩
  obtain ⟨i, hi, rfl⟩ := List.mem_iff_getElem.1 hp
  exact h3 i (by omega) hi
/-- A text, no longer than any can be. -/
def kTxt : Kd ByteArray where
  sz := 1
  K := fun _ _ x cs => cs = [.string x] ∧ x.size ≤ maxLen
  len := fun h => by rw [h.1]; rfl
  bound := fun h => h
  move := fun _ h => h
  mono := fun _ h => h
theorem opTxt : Opens Try.prog 9 kTxt :=
  ⟨by kernel_rfl, fun enc w base spare held fuel cs x h => by obtain ⟨s, rfl, hs⟩ := DataW.trod_string Try.underlying9 h; exact ⟨s, rfl, by first | exact hs.1 | exact hs | exact hs.2⟩⟩
def kKeyW : Kd KeyD := kIso (kPair kTxt (kPair kTxt kTxt)) fun x => (x.kind, x.space, x.name)
theorem opKeyW : Opens Try.prog 24 kKeyW := by
  refine opens_iso (fun x => ⟨x.1, x.2.1, x.2.2⟩) (fun _ => rfl) ?_
  refine opens_struct Try.underlying24 (by kernel_rfl) ?_
  exact (by refine opensF_cons ?_ ?_ ?_; rfl; exact opTxt; refine opensF_cons ?_ ?_ ?_; rfl; exact opTxt; refine opensF_one ?_ ?_; rfl; exact opTxt)
theorem keyW_of {w : World} {ok : Nat → Prop} {k : KeyD} {cs : List Value} (h : kKeyW.K w ok k cs) : Value.agg cs.toArray = .agg #[.string k.kind, .string k.space, .string k.name] ∧ keyWide k := by
  obtain ⟨c0, c1, rfl, h0, c2, c3, rfl, h2, h3⟩ := h
  obtain ⟨e0, m0⟩ := h0; obtain ⟨e2, m2⟩ := h2; obtain ⟨e3, m3⟩ := h3
  subst e0; subst e2; subst e3
  exact ⟨rfl, m0, m2, m3⟩
end Go.Proofs.Ythhfcambdmdgfaa
namespace Go.Proofs.Ythhfcambdmdgfaa
open Go.RowKit Go.Maps
set_option linter.unusedVariables false
set_option linter.unusedSimpArgs false
/-- Is an event that may be stale? -/
def staleC (e : EvD) (fl : Int) (M : AM KS OX) (G : AM KS Int) (k : KS) : Bool := decide ((verE e).1 ≤ if e.kind = 0 ∨ e.kind = 1 then knownC fl M G k else fl)
set_option maxRecDepth 100000 in
set_option maxHeartbeats 8000000 in
theorem cstale_calls (w : World) {base cp ob gb : Nat} {fl : Int} {M : AM KS OX} {G : AM KS Int} (h : CacheAt w base cp ob gb fl M G) (kd : Int) {o : ObjD} {sl : Value} (ev : Int) {ol : Value} {xs : List OX} (k : KS) (hk : k.1 = o.key) (ho : ObjS w sl o) (hs : objSmall o) (hx : ObjsS w ol xs) (hxs : OSmall (oxs xs)) (hkd : in64 kd) (hl : xs.length ≤ 1000000) :
    Calls Try.prog 71 #[.pointer (some ⟨cp, 0, none⟩), evV kd o sl ev ol] w fun e w' => e = .returned (.bool (staleC ⟨kd, o, ev, oxs xs⟩ fl M G k)) ∧ Below w.heap.size w w' := by
  have HC := Lib.hid h
  have HV := Lib.hid (fun (U : World) (hb : Below w.heap.size w U) => evver_calls U kd ev (ho.below hb) hs (hx.below hb) hxs hkd hl)
  obtain ⟨ao, co, rfl⟩ := ho.1.form
  obtain ⟨al, cl, rfl⟩ := hx.form
  have HKN := Lib.hid (fun (U : World) (hb : Below w.heap.size w U) => cknown_calls U (h.below hb) k hk)
  have m2 : w.cell? ⟨cp, 2, none⟩ = some (.int .i64 fl) := blk_cell h.cell 2
  obtain ⟨vv, hvv⟩ : ∃ v, (verE ⟨kd, o, ev, oxs xs⟩).1 = v := ⟨_, rfl⟩
  obtain ⟨ve, hve⟩ : ∃ v, (verE ⟨kd, o, ev, oxs xs⟩).2 = v := ⟨_, rfl⟩
  obtain ⟨kn, hkn⟩ : ∃ v, knownC fl M G k = v := ⟨_, rfl⟩
  have HST := Lib.hid (show staleC ⟨kd, o, ev, oxs xs⟩ fl M G k = decide (vv ≤ if kd = 0 ∨ kd = 1 then kn else fl) by unfold staleC; rw [hvv, hkn])
  rw [hvv, hve] at HV
  rw [hkn] at HKN
  unfold evV at HV ⊢
  generalize staleC ⟨kd, o, ev, oxs xs⟩ fl M G k = st at HST ⊢
  clear h ho hx hxs hvv hve hkn
  go_enter Try.func71, Try.ntmps71
  go_upto_region 1 with fail
  first | with_reducible refine name_wp ?_ | with_reducible refine name_calls ?_
  intro W hW
  have gE : W.heap[w.heap.size]? = some (.cells #[.int .i64 kd, .string o.key.kind, .string o.key.space, .string o.key.name, .int .i64 o.ver, .string o.cls, .bool o.term, .bool o.best, .slice ao o.charge.length co, .int .i64 ev, .slice al xs.length cl] 30) := by rw [hW]; exact blk_new w _
  have hbW : Below w.heap.size w W := by rw [hW]; exact (Below.refl _ _).alloc (Nat.le_refl _) _
  clear hW
  have HBW := Lib.hid hbW
  have HE := Lib.hid gE
  have c0 : W.cell? ⟨w.heap.size, 0, none⟩ = some (.int .i64 kd) := blk_cell gE 0
  have c1 : W.cell? ⟨w.heap.size, 1, none⟩ = some (.string o.key.kind) := blk_cell gE 1
  have c2 : W.cell? ⟨w.heap.size, 2, none⟩ = some (.string o.key.space) := blk_cell gE 2
  have c3 : W.cell? ⟨w.heap.size, 3, none⟩ = some (.string o.key.name) := blk_cell gE 3
  have c4 : W.cell? ⟨w.heap.size, 4, none⟩ = some (.int .i64 o.ver) := blk_cell gE 4
  have c5 : W.cell? ⟨w.heap.size, 5, none⟩ = some (.string o.cls) := blk_cell gE 5
  have c6 : W.cell? ⟨w.heap.size, 6, none⟩ = some (.bool o.term) := blk_cell gE 6
  have c7 : W.cell? ⟨w.heap.size, 7, none⟩ = some (.bool o.best) := blk_cell gE 7
  have c8 : W.cell? ⟨w.heap.size, 8, none⟩ = some (.slice ao o.charge.length co) := blk_cell gE 8
  have c9 : W.cell? ⟨w.heap.size, 9, none⟩ = some (.int .i64 ev) := blk_cell gE 9
  have c10 : W.cell? ⟨w.heap.size, 10, none⟩ = some (.slice al xs.length cl) := blk_cell gE 10
  go_upto_region 2 with (go_at_call 14; refine (HV.out W HBW.out).mono ?_; rintro e w1 ⟨rfl, hb⟩; have HB1 := Lib.hid hb; clear hb)
  clear c0 c1 c2 c3 c4 c5 c6 c7 c8 c9 c10
  have g1 := blk_below HE.out HB1.out
  have d0 : w1.cell? ⟨w.heap.size, 0, none⟩ = some (.int .i64 kd) := blk_cell g1 0
  have d1 : w1.cell? ⟨w.heap.size, 1, none⟩ = some (.string o.key.kind) := blk_cell g1 1
  have d2 : w1.cell? ⟨w.heap.size, 2, none⟩ = some (.string o.key.space) := blk_cell g1 2
  have d3 : w1.cell? ⟨w.heap.size, 3, none⟩ = some (.string o.key.name) := blk_cell g1 3
  have HBw := Lib.hid (bl_from HBW.out HB1.out)
  have n2 := cb HBw.out m2
  clear g1 gE hbW
  by_cases h01 : kd = 0 ∨ kd = 1
  · have HS2 := Lib.hid (show st = decide (vv ≤ kn) by rw [HST.out, if_pos h01])
    rcases h01 with h0 | h1
    · subst h0
      go_wp2_with (go_at_call 53; refine (HKN.out _ HBw.out).mono ?_; rintro e w2 ⟨rfl, hb⟩; have HB2 := Lib.hid (bl_next HBw.out hb); clear hb)
      all_goals go_ret
      all_goals exact ⟨ret_bool (by first | (rw [HS2.out]; done) | (rw [HS2.out]; simp [*]; done) | (rw [HS2.out]; simp; omega)), HB2.out⟩
    · subst h1
      go_wp2_with (go_at_call 53; refine (HKN.out _ HBw.out).mono ?_; rintro e w2 ⟨rfl, hb⟩; have HB2 := Lib.hid (bl_next HBw.out hb); clear hb)
      all_goals go_ret
      all_goals exact ⟨ret_bool (by first | (rw [HS2.out]; done) | (rw [HS2.out]; simp [*]; done) | (rw [HS2.out]; simp; omega)), HB2.out⟩
  · have HS2 := Lib.hid (show st = decide (vv ≤ fl) by rw [HST.out, if_neg h01])
    have k0 : (kd == 0) = false := by simp; exact fun e => h01 (.inl e)
    have k1 : (kd == 1) = false := by simp; exact fun e => h01 (.inr e)
    clear h01
    go_wp2_with fail
    all_goals go_ret
    all_goals exact ⟨ret_bool (by first | (rw [HS2.out]; done) | (rw [HS2.out]; simp [*]; done) | (rw [HS2.out]; simp; omega)), HBw.out⟩
end Go.Proofs.Ythhfcambdmdgfaa
namespace Go.Proofs.Ythhfcambdmdgfaa
open Go.RowKit Go.Maps Srt
set_option linter.unusedVariables false
set_option linter.unusedSimpArgs false
theorem app_obj_at {o : Oper} {a : Act} {K : Act → World → Prop} {Q : Exit → Act → World → Prop} {w : World} (s x : Operand)
    (ho : o.op = .call { callee := .builtin .append, args := #[s, x], argTypes := #[28, 28] })
    (base : Nat) {tb : TypeId} (v : Value) (n : Nat) (l : List OX) (u : ObjD) (g n1 c1 : Nat) (hs : a.eval s = v) (hown : w.ownsRow base 27 8 v n (objC l)) (g0 c : Nat) (hx : a.eval x = .slice (some ⟨g0, 0, none⟩) 1 c)
    (hcells : w.heap[g0]? = some (.cells #[.string u.key.kind, .string u.key.space, .string u.key.name, .int .i64 u.ver, .string u.cls, .bool u.term, .bool u.best, .slice (some ⟨g, 0, none⟩) n1 c1] tb)) (hbase : base ≤ w.heap.size) (hlen : n + 1 ≤ 100000000)
    (h : ∀ g2 cap w1, w1.ownsRow base 27 8 (.slice (some ⟨g2, 0, none⟩) (n + 1) cap) (n + 1) (objC (l ++ [(u, .slice (some ⟨g, 0, none⟩) n1 c1)])) → Kept (fun k => v.ownBlock = some k) w w1 → K (a.put o.dst (.slice (some ⟨g2, 0, none⟩) (n + 1) cap)) w1) : o.wp Try.prog a w K Q := by
  obtain ⟨i0, hi, hz0, hz1, hz2⟩ := info_parts info_obj
  refine app_rw_at s x _ ho base _ i0 _ 8 104 Try.underlying28 hi hz0 hz1 hz2 rfl (by decide) v n (objC l) [.string u.key.kind, .string u.key.space, .string u.key.name, .int .i64 u.ver, .string u.cls, .bool u.term, .bool u.best, .slice (some ⟨g, 0, none⟩) n1 c1] hs hown g0 c hx hcells rfl (by simp [Value.oneCell']) hbase hlen (by decide) ?_
  intro g2 cap w1 h1 h2 h3
  refine h g2 cap w1 ?_ h2
  rw [objC_app]
  exact h1
structure KeyAt (w : World) (b off : Nat) (k : KS) : Prop where
  c0 : w.cell? ⟨b, off, none⟩ = some (.string k.1.kind)
  c1 : w.cell? ⟨b, off + 1, none⟩ = some (.string k.1.space)
  c2 : w.cell? ⟨b, off + 2, none⟩ = some (.string k.1.name)
theorem KeyAt.below {w w' : World} {b off : Nat} {k : KS} (h : KeyAt w b off k) (hb : Below w.heap.size w w') : KeyAt w' b off k := ⟨cb hb h.c0, cb hb h.c1, cb hb h.c2⟩
theorem key_at {w : World} {v : Value} {ks : List KS} (h : SliS w v 3 ks.length (keyC ks)) {k : Nat} (hk : k < ks.length) : ∃ b off c, v = .slice (some ⟨b, off, none⟩) ks.length c ∧ KeyAt w b (off + k * 3) (ks[k]'hk) := by
  obtain ⟨b, off, c, he, _, hx⟩ := h.at' hk
  have z : ∀ j u, j < 3 → (encK (ks[k]'hk))[j]? = some u → w.cell? ⟨b, off + k * 3 + j, none⟩ = some u := fun j u hj e => hx j hj u (by rw [show keyC ks = ks.flatMap encK from rfl, flat_at encK 3 (fun _ => rfl) ks k hk j hj]; exact e)
  exact ⟨b, off, c, he, z 0 _ (by omega) rfl, z 1 _ (by omega) rfl, z 2 _ (by omega) rfl⟩
theorem getA_has {β : Type} {M : AM KS β} {k : KS} (h : hasA M k = true) : ∃ v, getA M k = some v := by
  rw [hasA_get] at h; exact Option.isSome_iff_exists.1 h
/-- What Objects yields. -/
def ObjsO (w : World) (M : AM KS OX) (e : Ending) (w' : World) : Prop := ∃ A c zs ks, e = .returned (.slice A zs.length c) ∧ ObjsF w' w.heap.size (.slice A zs.length c) zs ∧ oxs zs = ks.map (objOf M) ∧ AllK M ks ∧ ks.Pairwise (fun a b => ltT b a = false) ∧ Below w.heap.size w w'
set_option maxRecDepth 100000 in
set_option maxHeartbeats 8000000 in
theorem cobjects_calls (w : World) {base cp ob gb : Nat} {fl : Int} {M : AM KS OX} {G : AM KS Int} (h : CacheAt w base cp ob gb fl M G) (hS : ∀ q ∈ M, objSmall q.2.1) (hM : M.length ≤ 1000000) :
    Calls Try.prog 47 #[.pointer (some ⟨cp, 0, none⟩)] w (ObjsO w M) := by
  have m0 : w.cell? ⟨cp, 0, none⟩ = some (.map (some ob)) := blk_cell h.cell 0
  have HC := Lib.hid h; have HS := Lib.hid hS
  have HGR := Lib.hid (fun (U : World) (hb : Below w.heap.size w U) => h.objs.below hb)
  have HL := Lib.hid hM
  clear h hM hS
  go_enter Try.func47, Try.ntmps47
  go_wp2_with (first | (go_at_call 77; refine (keysO_calls w (some ob)).mono ?_; rintro e w1 ⟨rfl, hc, hb⟩; have HST := Lib.hid (keysO_stops 4 (by decide) w.heap.size ob _ M fO w1 hc (HGR.out w1 hb)); have HB1 := Lib.hid hb; clear hc hb) | (go_at_call 76; refine (sortedFunc_calls w1 trivial (enters_of Try.func102 (by kernel_rfl) rfl) HST.out HL.out).mono ?_; rintro e w2 ⟨A, c, ks, rfl, hr, ha, hs, hb⟩; have HF := Lib.hid (And.intro hr (And.intro ha hs)); have HB2 := Lib.hid (bl_from HB1.out hb); clear hr ha hs hb))
  have HKS := Lib.hid (sliS_of HF.out.1)
  have HNIL := Lib.hid (objsF_nil w2 w2.heap.size)
  have HKL := Lib.hid (Nat.le_trans (allK_len HF.out.2.1) HL.out)
  obtain ⟨V, rfl⟩ : ∃ V : World, V = w2 := ⟨_, rfl⟩
  go_loopw [3, 15] (fun s i wr => ∃ (j : Nat) (B : Option Addr) (d : Nat) (ys : List OX), i = .int .i64 (j : Int) ∧ j ≤ ks.length ∧ s = .slice B j d ∧ Hid (ys.length = j ∧ ObjsF wr V.heap.size (.slice B j d) ys ∧ oxs ys = (ks.take j).map (objOf M)) ∧ Hid (Below V.heap.size V wr)) (fun _ i _ => ks.length - (intOf i).toNat)
  case atStart => exact ⟨0, none, 0, [], rfl, Nat.zero_le _, rfl, Lib.hid ⟨rfl, HNIL.out, rfl⟩, Lib.hid (Below.refl _ _)⟩
  case round =>
    obtain ⟨j, B, d, ys, rfl, hj, rfl, HY, HBr⟩ := hrel
    by_cases hjl : j < ks.length
    · have hjI : (j : Int) < ks.length := by omega
      obtain ⟨b, of, c9, he, hq⟩ := key_at HKS.out hjl
      cases he
      have HT := Lib.hid (show (ks.take (j + 1)).map (objOf M) = (ks.take j).map (objOf M) ++ [objOf M (ks[j]'hjl)] by rw [List.take_succ_eq_append_getElem hjl, List.map_append]; rfl)
      have hhas := (HF.out.2.1.2 _).1 (List.getElem_mem hjl)
      generalize ks[j]'hjl = k at hq HT hhas
      obtain ⟨⟨o, so⟩, hg⟩ := getA_has hhas
      have hmem := getA_mem hg
      have hob : objOf M k = o := by unfold objOf; rw [hg]; rfl
      rw [hob] at HT
      obtain ⟨hrf, hoi, _, _⟩ := HC.out.resM _ hmem
      obtain ⟨g0, hg0⟩ := hrf.form
      simp only at hg0 hrf hoi
      subst hg0
      have HSM := Lib.hid (show objSmall o from HS.out _ hmem)
      obtain ⟨U, rfl⟩ : ∃ U : World, U = wr := ⟨_, rfl⟩
      have q := hq.below HBr.out
      have d0 := q.c0
      have d1 := q.c1
      have d2 := q.c2
      have HBU := Lib.hid (bl_from HB2.out HBr.out)
      have m0 := cb HBU.out m0
      have HLK : Hid (∀ X, Below U.heap.size U X → (Instr.lookup 92 (.map (some ob)) (.agg #[.string k.1.kind, .string k.1.space, .string k.1.name]) false).run Try.prog X = .ok (.agg #[.string o.key.kind, .string o.key.space, .string o.key.name, .int .i64 o.ver, .string o.cls, .bool o.term, .bool o.best, .slice (some ⟨g0, 0, none⟩) o.charge.length o.charge.length]) X) := Lib.hid fun X hX => by
        have q := mv_look (HC.out.objs.below (bl_next HBU.out hX)) kS_keyed Try.underlying92 (zero_obj X) (kL_key k)
        rw [val_dmA kL_lit (fun p : OX => Value.agg (objX p).toArray) M k, hg] at q; exact q
      have HOS := Lib.hid (show ObjS U (.slice (some ⟨g0, 0, none⟩) o.charge.length o.charge.length) o from ObjS.below ⟨hrf.resS hoi.2, hoi.1⟩ HBU.out)
      clear q hq hhas hg hmem hob hrf hoi
      go_upto_region 7 with fail
      first | with_reducible refine name_wp ?_ | with_reducible refine name_calls ?_
      intro W hW
      have hw9 : Below U.heap.size U W := by rw [hW]; exact (Below.refl U.heap.size U).alloc (Nat.le_refl _) _
      have e0 : W.cell? ⟨U.heap.size, 0, none⟩ = some (.string k.1.kind) := by rw [hW]; exact blk_cell (blk_new U _) 0
      have e1 : W.cell? ⟨U.heap.size, 1, none⟩ = some (.string k.1.space) := by rw [hW]; exact blk_cell (blk_new U _) 1
      have e2 : W.cell? ⟨U.heap.size, 2, none⟩ = some (.string k.1.name) := by rw [hW]; exact blk_cell (blk_new U _) 2
      have m0 := cb hw9 m0
      clear hW d0 d1 d2
      have HO := Lib.hid (fun (X : World) (hb : Below W.heap.size W X) => ownO_calls X (HOS.out.below (bl_next hw9 hb)) HSM.out)
      unfold objV at HO
      have HLK2 := Lib.hid (fun (X : World) (hb : Below W.heap.size W X) => HLK.out X (bl_next hw9 hb))
      have HYW := Lib.hid (HY.out.2.1.below hw9)
      have HYE := Lib.hid (And.intro HY.out.1 HY.out.2.2)
      have HBW := Lib.hid (bl_next HBr.out hw9)
      have hGE : V.heap.size ≤ W.heap.size := HBW.out.size
      have hjb : j ≤ 1000000 := Nat.le_trans hj HKL.out
      clear hw9 HY HBr HOS HLK
      have hB := Below.refl W.heap.size W
      have hB := hB.drew
      refine region_seqM (fun w' => Below W.heap.size W w') 9 [(0, 1), (1, 1), (2, 1), (3, 1), (4, 1), (5, 1), (6, 1), (7, 0), (8, 0), (9, 0), (10, 2)] (by kernel_rfl) (by kernel_rfl) (fun _ _ _ _ h => h) hB ?_
      try generalize World.drew _ = wS at hB ⊢
      refine sm_take (v := ?_) (a' := ?_) (some 19) rfl rfl (by rfl) ?_ ?_ ?_
      rotate_left; rotate_left
      · intro w' hS; go_simp; with_reducible rfl
      · simp only [Act.put, List.setIfInBounds_toArray, List.set_cons_zero, List.set_cons_succ]; rfl
      refine sm_take (v := ?_) (a' := ?_) (some 20) rfl rfl (by rfl) ?_ ?_ ?_
      rotate_left; rotate_left
      · intro w' hS; go_simp; with_reducible rfl
      · simp only [Act.put, List.setIfInBounds_toArray, List.set_cons_zero, List.set_cons_succ]; rfl
      refine sm_take (v := ?_) (a' := ?_) (some 21) rfl rfl (by rfl) ?_ ?_ ?_
      rotate_left; rotate_left
      · intro w' hS; go_simp; with_reducible rfl
      · simp only [Act.put, List.setIfInBounds_toArray, List.set_cons_zero, List.set_cons_succ]; rfl
      refine sm_take (v := ?_) (a' := ?_) (some 22) rfl rfl (by rfl) ?_ ?_ ?_
      rotate_left; rotate_left
      · intro w' hS; go_simp; with_reducible rfl
      · simp only [Act.put, List.setIfInBounds_toArray, List.set_cons_zero, List.set_cons_succ]; rfl
      refine sm_take (v := ?_) (a' := ?_) (some 23) rfl rfl (by rfl) ?_ ?_ ?_
      rotate_left; rotate_left
      · intro w' hS; have p0 := cb hS m0; have p1 := cb hS e0; have p2 := cb hS e1; have p3 := cb hS e2; have hl := HLK2.out _ hS; go_simp; with_reducible rfl
      · simp only [Act.put, List.setIfInBounds_toArray, List.set_cons_zero, List.set_cons_succ]; rfl
      refine sm_take (v := ?_) (a' := ?_) (some 24) rfl rfl (by rfl) ?_ ?_ ?_
      rotate_left; rotate_left
      · intro w' hS; have p0 := cb hS m0; have p1 := cb hS e0; have p2 := cb hS e1; have p3 := cb hS e2; have hl := HLK2.out _ hS; go_simp; with_reducible rfl
      · simp only [Act.put, List.setIfInBounds_toArray, List.set_cons_zero, List.set_cons_succ]; rfl
      refine sm_take (v := ?_) (a' := ?_) (some 25) rfl rfl (by rfl) ?_ ?_ ?_
      rotate_left; rotate_left
      · intro w' hS; have p0 := cb hS m0; have p1 := cb hS e0; have p2 := cb hS e1; have p3 := cb hS e2; have hl := HLK2.out _ hS; go_simp; with_reducible rfl
      · simp only [Act.put, List.setIfInBounds_toArray, List.set_cons_zero, List.set_cons_succ]; rfl
      refine sm_call (args := ?_) Try.func56 (by kernel_rfl) rfl (some 26) rfl rfl (by rfl) rfl rfl ?_ ?_
      rotate_left
      · simp only [List.map_toArray, List.map_cons, List.map_nil]; go_simp; rfl
      with_reducible refine ((HO.out _ hB)).mono ?_
      rintro e w' ⟨g, rfl, HF9, hb⟩
      have HF1 := Lib.hid (HF9.out.mono (b' := V.heap.size) (by have := hB.size; omega))
      refine ⟨_, rfl, .inr (bl_next (by repeat (first | with_reducible exact hB | refine Below.alloc ?_ (by have := hB.size; simp; omega) _ | refine bl_dN ?_ _ | refine Below.drew ?_ | refine Below.setCell ?_ (by have := hB.size; simp; omega) _)) hb), ?_⟩
      have hB := bl_next (by repeat (first | with_reducible exact hB | refine Below.alloc ?_ (by have := hB.size; simp; omega) _ | refine bl_dN ?_ _ | refine Below.drew ?_ | refine Below.setCell ?_ (by have := hB.size; simp; omega) _)) hb; clear hb
      simp only [Act.put, List.setIfInBounds_toArray, List.set_cons_zero, List.set_cons_succ]
      refine sm_op (some 27) rfl rfl (by rfl) ?_
      apply Exists.intro; apply Exists.intro; apply And.intro
      · go_simp; first | exact ⟨rfl, rfl⟩ | rfl
      apply Exists.intro; apply And.intro
      · simp only [Act.put, List.setIfInBounds_toArray, List.set_cons_zero, List.set_cons_succ]; rfl
      apply And.intro
      · exact .inr (by repeat (first | with_reducible exact hB | refine Below.alloc ?_ (by have := hB.size; simp; omega) _ | refine bl_dN ?_ _ | refine Below.drew ?_ | refine Below.setCell ?_ (by have := hB.size; simp; omega) _))
      refine sm_law rfl (by rfl) ?_
      refine app_obj_at (.tmp 19) (.tmp 27) rfl V.heap.size (.slice B j d) j ys o g _ _ rfl (World.ownsRow.alloc (rw_below (by have q := HYW.out.1; rw [HYE.out.1] at q; exact q) hB) _) _ 1 rfl (blk_new _ _) (by have := hB.size; simp; omega) (by omega) ?_
      intro g3 cap3 w3 hown3 hk3; have HZ := Lib.hid (ObjsF.snoc (p := (o, Value.slice (some ⟨g, 0, none⟩) o.charge.length o.charge.length)) ((HYW.out.below hB).below ((Below.refl _ _).alloc (Nat.le_refl _) _)) (HF1.out.below ((Below.refl _ _).alloc (Nat.le_refl _) _)) (by rw [List.length_append, HYE.out.1]; exact hown3) hk3); have HB3 := Lib.hid (show Below V.heap.size V w3 from ((bl_next HBW.out hB).alloc (by have := hB.size; omega) _).trans (hk3.below (by have := hB.size; simp; omega) (fun k q => (rw_type HYW.out.1 q).1)))
      refine ⟨.inl rfl, ?_⟩
      simp only [Act.put, List.setIfInBounds_toArray, List.set_cons_zero, List.set_cons_succ]
      refine sm_free (v := ?_) (a' := ?_) (some 3) rfl rfl (by rfl) ?_ ?_ ?_
      rotate_left; rotate_left
      · intro w'; go_simp; with_reducible rfl
      · simp only [Act.put, List.setIfInBounds_toArray, List.set_cons_zero, List.set_cons_succ]; rfl
      refine sm_done ?_
      go_wp2_with fail
      go_roundw
      case rel => exact ⟨j + 1, _, cap3, ys ++ [_], by simp, by omega, rfl, Lib.hid ⟨by simp [HYE.out.1], HZ.out, by rw [HT.out, ← HYE.out.2]; simp [oxs]⟩, HB3⟩
      case measure => simp [intOf]; omega
    · obtain rfl : j = ks.length := by omega
      go_wp2_with fail
      go_ret
      refine ⟨B, d, ys, ks, by rw [HY.out.1]; rfl, ?_, by rw [HY.out.2.2, List.take_length], HF.out.2.1, HF.out.2.2, bl_from HB2.out HBr.out⟩
      rw [HY.out.1]
      exact HY.out.2.1.mono HB2.out.size
end Go.Proofs.Ythhfcambdmdgfaa
namespace Go.Proofs.Ythhfcambdmdgfaa
open Go.RowKit Go.Shelf Go.Maps
set_option linter.unusedVariables false
set_option linter.unusedSimpArgs false
theorem cloneO_calls (w : World) {ob : Nat} {M : AM KS OX} (h : OMap w ob M) : Calls Try.prog 90 #[.map (some ob)] w fun e w' => e = .returned (.map (some w.heap.size)) ∧ OMap w' w.heap.size M ∧ Below w.heap.size w w' := by
  have hcon : Calls Try.prog 90 #[.map (some ob)] w _ := AnyW.maps_Clone_owns Try.cloneO 24 RV ob M.length _ w h
  exact hcon.mono fun e w' ⟨h1, h2, _, h3⟩ => ⟨h1, h2, h3⟩
theorem cloneG_calls (w : World) {gb : Nat} {G : AM KS Int} (h : GMap w gb G) : Calls Try.prog 91 #[.map (some gb)] w fun e w' => e = .returned (.map (some w.heap.size)) ∧ GMap w' w.heap.size G ∧ Below w.heap.size w w' := by
  have hcon : Calls Try.prog 91 #[.map (some gb)] w _ := AnyW.maps_Clone_owns Try.cloneG 24 RV gb G.length _ w h
  exact hcon.mono fun e w' ⟨h1, h2, _, h3⟩ => ⟨h1, h2, h3⟩
noncomputable def keepD {β : Type} (G : AM KS β) (pd : KS → β → Bool) (left : Lit → Bool) : AM KS β := G.filter fun q => left (kL q.1) || !pd q.1 q.2
def dropG {β : Type} (G : AM KS β) (pd : KS → β → Bool) : AM KS β := G.filter fun q => !pd q.1 q.2
section
variable {β : Type} {G : AM KS β} {pd : KS → β → Bool} {left : Lit → Bool} {f : β → Value}
theorem keep_start : keepD G pd (Maps.has (dmA kL f G)) = G := by
  unfold keepD
  rw [List.filter_eq_self]
  intro q hq
  rw [has_dmA kL_lit]
  have : hasA G q.1 = true := by unfold hasA; rw [List.any_eq_true]; exact ⟨q, hq, by simp⟩
  rw [this]; rfl
theorem keep_end (h : ∀ z, left z = false) : keepD G pd left = dropG G pd := by
  unfold keepD dropG
  congr 1; funext q; rw [h]; rfl
theorem keep_del (hk : (G.map (·.1)).Nodup) {p : KS × β} (hp : p ∈ G) (h : pd p.1 p.2 = true) : keepD G pd (fun z => left z && !z.sameKey (kL p.1)) = delA (keepD G pd left) p.1 := by
  unfold keepD delA
  rw [List.filter_filter]
  apply List.filter_congr
  intro q hq
  show (left (kL q.1) && !(kL q.1).sameKey (kL p.1) || !pd q.1 q.2) = _
  rw [kL_lit.same]
  by_cases e : q.1 = p.1
  · obtain rfl : q = p := fst_inj hk hq hp e
    simp [h]
  · simp [e]
theorem keep_stay (hk : (G.map (·.1)).Nodup) {p : KS × β} (hp : p ∈ G) (h : pd p.1 p.2 = false) : keepD G pd (fun z => left z && !z.sameKey (kL p.1)) = keepD G pd left := by
  unfold keepD
  apply List.filter_congr
  intro q hq
  show (left (kL q.1) && !(kL q.1).sameKey (kL p.1) || !pd q.1 q.2) = _
  rw [kL_lit.same]
  by_cases e : q.1 = p.1
  · obtain rfl : q = p := fst_inj hk hq hp e
    simp [h]
  · simp [e]
theorem keep_mem {p : KS × β} : p ∈ keepD G pd left ↔ p ∈ G ∧ (left (kL p.1) = true ∨ pd p.1 p.2 = false) := by unfold keepD; simp
theorem entry_in {M : AM KS β} {kl : Lit} {c : Value} {yd : DataW Value} {yp : List MemPlace} (hl : Maps.has (dmA kL f M) kl = true) (hv : RV c = some (yd, yp)) (hat : ∀ zd, (dmA kL f M).atKey kl zd = yd) :
    ∃ p ∈ M, kl = kL p.1 ∧ c = f p.2 := by
  obtain ⟨q, hq, rfl⟩ := entry_key hl
  rw [has_dmA kL_lit, hasA_get] at hl
  obtain ⟨v, hg⟩ := Option.isSome_iff_exists.1 hl
  refine ⟨(q.1, v), getA_mem hg, rfl, ?_⟩
  have z := val_dmA kL_lit f M q.1 (.int .i64 0)
  rw [hg] at z
  unfold valAt at z
  rw [hat] at z
  cases hv
  exact z
theorem has_keep {z : Lit} (hl : Maps.has (dmA kL f G) z = true) (h : left z = true) : Maps.has (dmA kL f (keepD G pd left)) z = true := by
  obtain ⟨q, hq, rfl⟩ := entry_key hl
  rw [has_dmA kL_lit]
  unfold hasA; rw [List.any_eq_true]
  exact ⟨q, keep_mem.2 ⟨hq, .inl h⟩, by simp⟩
end
set_option maxRecDepth 100000 in
set_option maxHeartbeats 4000000 in
theorem next1_calls (w : World) (k : KS) (v fl : Int) {pb np : Nat} (hp : w.cell? ⟨pb, 0, none⟩ = some (.pointer (some ⟨np, 0, none⟩))) (hf : w.cell? ⟨np, 2, none⟩ = some (.int .i64 fl)) :
    Calls Try.prog 94 #[.agg #[.string k.1.kind, .string k.1.space, .string k.1.name], .int .i64 v, .pointer (some ⟨pb, 0, none⟩)] w fun e w' => e = .returned (.bool (decide (v ≤ fl))) ∧ Below w.heap.size w w' := by
  have hp' := lt_of_cell hp
  have hf' := lt_of_cell hf
  obtain ⟨b, hb⟩ : ∃ b, decide (v ≤ fl) = b := ⟨_, rfl⟩
  have HE := Lib.hid hb
  go_enter Try.func94, Try.ntmps94
  go_wp2_with fail
  all_goals go_ret
  all_goals exact ⟨ret_bool (by first | rfl | simp [*] | (simp; omega)), (Below.refl _ _).alloc (Nat.le_refl _) _⟩
theorem mv_ne {w : World} {b n : Nat} {D : DataW Value} {K : TypeId} (h : w.ownsMap Try.prog K RV b n D) {g j : Nat} {v : Value} (hc : w.cell? ⟨g, j, none⟩ = some v) : g ≠ b := by
  rintro rfl
  obtain ⟨es, clock, hb, _⟩ := h
  simp [World.cell?, hb] at hc
set_option maxRecDepth 100000 in
set_option maxHeartbeats 8000000 in
theorem delG_calls (w : World) {b : Nat} {G : AM KS Int} (h : w.ownsMap Try.prog 24 RV b G.length (dmA kL gV G)) (hK : (G.map (·.1)).Nodup) {pb np : Nat} {fl : Int} (hp : w.cell? ⟨pb, 0, none⟩ = some (.pointer (some ⟨np, 0, none⟩))) (hf : w.cell? ⟨np, 2, none⟩ = some (.int .i64 fl)) :
    Calls Try.prog 93 #[.map (some b), .func (.func 94) #[] #[.pointer (some ⟨pb, 0, none⟩)]] w fun e w' => e = .returned (.tuple #[]) ∧ w'.ownsMap Try.prog 24 RV b (dropG G (fun _ v => decide (v ≤ fl))).length (dmA kL gV (dropG G (fun _ v => decide (v ≤ fl)))) ∧ Kept (fun k => k = b) w w' := by
  have HK := Lib.hid hK
  have hpb : pb ≠ b := mv_ne h hp
  have hnb : np ≠ b := mv_ne h hf
  have HX := Lib.hid (And.intro hp (And.intro hf (And.intro hpb hnb)))
  clear hp hf hK hpb hnb
  go_enter Try.func93, Try.ntmps93
  go_wp2_with (at_range; refine wpList_range_own _ rfl _ 96 rfl 24 2 kS_keyed Try.underlying96 RV b G.length (dmA kL gV G) rfl h ?_; intro w0 hrg0 hg0 hs0)
  try go_frame
  have HLT := Lib.hid h.lt
  clear h
  go_loopw [8] (fun _ wr => ∃ (left : Lit → Bool) (cnt : Nat), Hid (wr.ranges Try.prog 24 RV b w.heap.size G.length (dmA kL gV (keepD G (fun _ v => decide (v ≤ fl)) left)) left cnt) ∧ Hid ((∀ z, left z = true → Maps.has (dmA kL gV G) z = true) ∧ Kept (fun k => k = b) w wr)) (fun _ wr => wr.rangeLeft b w.heap.size)
  case atStart => exact ⟨_, _, Lib.hid (by rw [keep_start]; exact hrg0), Lib.hid ⟨fun z h => h, (Kept.refl _ _).grown hg0 (fun j hj => by cases hj)⟩⟩
  case round =>
    clear hrg0 hg0 hs0
    obtain ⟨left, cnt, HRG, HI⟩ := hrel
    have hrg := HRG.out
    go_wp2_with (at_next; refine wpList_next_ranges _ rfl _ rfl 24 kS_keyed RV (fun x : Value => x) (fun x : Value => x) (fun key kl _ => ⟨key, rfl⟩) (fun v y _ => ⟨v, rfl⟩) b w.heap.size G.length _ _ _ rfl hrg ?_ ?_)
    · intro _ hl0
      have HO := Lib.hid (show wr.ownsMap Try.prog 24 RV b G.length (dmA kL gV (dropG G (fun _ v => decide (v ≤ fl)))) by have q := hrg.owns; rw [keep_end hl0] at q; exact q)
      clear hrg
      go_wp2_with fail
      go_end0
      refine ⟨rfl, ?_, HI.out.2⟩
      have q := mv_tight HO.out
      rw [size_dmA kL_lit] at q
      exact q
    · intro x c kl yd yp w1 cnt1 hkx hlk hcy hat hrg1 hlt hg1 hs1 hen
      obtain ⟨p, hp, rfl, rfl⟩ := entry_in (has_keep (HI.out.1 _ hlk) hlk) hcy hat
      obtain rfl := key_of hkx
      have HP := Lib.hid (keep_mem.1 hp).1
      have HRG1 := Lib.hid hrg1
      have HKW := Lib.hid (HI.out.2.grown hg1 (fun j hj => by cases hj; exact .inr (Nat.le_refl _)))
      have HLT2 := Lib.hid hlt; have HLE := Lib.hid hrg.left_eq; have HKX := Lib.hid hkx
      have HLL := Lib.hid (show ∀ z, (left z && !z.sameKey (kL p.1)) = true → Maps.has (dmA kL gV G) z = true from fun z hz => by
        simp only [Bool.and_eq_true] at hz
        exact HI.out.1 z hz.1)
      unfold keyV at hen
      obtain ⟨k, v⟩ := p
      simp only [gV] at hen
      have q0 := HKW.out.cell HX.out.1 HX.out.2.2.1
      have q1 := HKW.out.cell HX.out.2.1 HX.out.2.2.2
      clear hrg hkx hlk hcy hat hrg1 hlt hg1 hs1 hp
      have hkx2 : keyOf Try.prog 24 (.agg #[.string k.1.kind, .string k.1.space, .string k.1.name]) = some (kL k) := HKX.out
      go_upto_region 3 with fail
      first | with_reducible refine name_wp ?_ | with_reducible refine name_calls ?_
      intro V hV
      have hbV : Below w1.heap.size w1 V := by rw [hV]; exact (Below.refl _ _).alloc (Nat.le_refl _) _
      have d0 : V.cell? ⟨w1.heap.size, 0, none⟩ = some (.string k.1.kind) := by rw [hV]; exact blk_cell (blk_new w1 _) 0
      have d1 : V.cell? ⟨w1.heap.size, 1, none⟩ = some (.string k.1.space) := by rw [hV]; exact blk_cell (blk_new w1 _) 1
      have d2 : V.cell? ⟨w1.heap.size, 2, none⟩ = some (.string k.1.name) := by rw [hV]; exact blk_cell (blk_new w1 _) 2
      have HRV := Lib.hid (ranges_kept HRG1.out (kept_of_below (X := fun _ => False) hbV) (fun q => q) (fun q => q))
      have HKV := Lib.hid (HKW.out.trans (kept_of_below (X := fun _ => False) hbV) (fun _ q => q.elim))
      have q0 := cb hbV q0
      have q1 := cb hbV q1
      clear hV hbV hen
      obtain ⟨pv, hpd⟩ : ∃ pv, (decide (v ≤ fl)) = pv := ⟨_, rfl⟩
      have HPD := Lib.hid hpd
      cases pv with
      | true =>
        have HD := Lib.hid (keep_del (left := left) (pd := (fun _ v => decide (v ≤ fl))) HK.out HP.out hpd)
        clear hpd
        go_wp2_with (first | (go_at_call 94; refine (next1_calls _ k v fl q0 q1).mono ?_; rintro e w2 ⟨rfl, hb⟩; rw [HPD.out]; have hrg2 := ranges_kept HRV.out (kept_of_below (X := fun _ => False) hb) (fun q => q) (fun q => q); have d0 := cb hb d0; have d1 := cb hb d1; have d2 := cb hb d2; have HK2 := Lib.hid (HKV.out.trans (kept_of_below (X := fun _ => False) hb) (fun _ q => q.elim)); clear hb) | (at_delete; refine wpList_delete_ranges _ rfl _ _ 96 24 rfl 2 kS_keyed Try.underlying96 RV b w.heap.size G.length _ _ _ rfl hrg2 _ _ rfl hkx2 ?_; intro w3 cnt3 hrg3 hle hturn; try go_frame))
        rw [Maps.strike_twice, del_dmA kL_lit] at hrg3
        have HR3 := Lib.hid hrg3
        have HK3 := Lib.hid (HK2.out.trans (kept_turned hturn) (fun _ q => .inl q))
        clear hrg3 hturn hrg2
        go_roundw
        case rel => exact ⟨_, cnt3, Lib.hid (by rw [HD.out]; exact HR3.out), Lib.hid ⟨HLL.out, HK3.out⟩⟩
        case measure => rw [HR3.out.left_eq, HLE.out]; have := HLT2.out; omega
      | false =>
        have HD := Lib.hid (keep_stay (left := left) (pd := (fun _ v => decide (v ≤ fl))) HK.out HP.out hpd)
        clear hpd
        go_wp2_with (go_at_call 94; refine (next1_calls _ k v fl q0 q1).mono ?_; rintro e w2 ⟨rfl, hb⟩; rw [HPD.out]; have HR2 := Lib.hid (ranges_kept HRV.out (kept_of_below (X := fun _ => False) hb) (fun q => q) (fun q => q)); have HK2 := Lib.hid (HKV.out.trans (kept_of_below (X := fun _ => False) hb) (fun _ q => q.elim)); clear hb)
        go_roundw
        case rel => exact ⟨_, cnt1, Lib.hid (by rw [HD.out]; exact HR2.out), Lib.hid ⟨HLL.out, HK2.out⟩⟩
        case measure => rw [HR2.out.left_eq, HLE.out]; exact HLT2.out
def bV (b : Bool) : Value := .bool b
def inLB (B : AM KS Bool) (k : KS) : Bool := (getA B k).getD false
theorem zero_bool (w : World) : (zeroValue 4).run Try.prog w = .ok (.bool false) w := by kernel_rfl
theorem look_bool {w : World} {lb n : Nat} {B : AM KS Bool} (h : w.ownsMap Try.prog 24 RV lb n (dmA kL bV B)) (k : KS) : (Instr.lookup 134 (.map (some lb)) (.agg #[.string k.1.kind, .string k.1.space, .string k.1.name]) false).run Try.prog w = .ok (.bool (inLB B k)) w := by
  have q := mv_look h kS_keyed Try.underlying134 (zero_bool w) (kL_key k)
  rw [val_dmA kL_lit bV B k (.bool false)] at q
  unfold inLB
  cases hg : getA B k with
  | none => rw [hg] at q; exact q
  | some v => rw [hg] at q; exact q
set_option maxRecDepth 100000 in
set_option maxHeartbeats 4000000 in
theorem relist1_calls (w : World) (k : KS) (o : ObjD) (A : Option Addr) (n c : Nat) {lb m pb eb : Nat} {B : AM KS Bool} {ev : Int} (hl : w.ownsMap Try.prog 24 RV lb m (dmA kL bV B)) (hp : w.cell? ⟨pb, 0, none⟩ = some (.map (some lb))) (he : w.cell? ⟨eb, 9, none⟩ = some (.int .i64 ev)) :
    Calls Try.prog 110 #[.agg #[.string k.1.kind, .string k.1.space, .string k.1.name], .agg #[.string o.key.kind, .string o.key.space, .string o.key.name, .int .i64 o.ver, .string o.cls, .bool o.term, .bool o.best, .slice A n c], .pointer (some ⟨pb, 0, none⟩), .pointer (some ⟨eb, 0, none⟩)] w fun e w' => e = .returned (.bool (!inLB B k && decide (o.ver ≤ ev))) ∧ Below w.heap.size w w' := by
  have hp' := lt_of_cell hp
  have he' := lt_of_cell he
  have hlb := look_bool (mv_below hl (((Below.refl w.heap.size w).alloc (Nat.le_refl _) (.cells #[.string k.1.kind, .string k.1.space, .string k.1.name] 24)).alloc (by simp) (.cells #[.string o.key.kind, .string o.key.space, .string o.key.name, .int .i64 o.ver, .string o.cls, .bool o.term, .bool o.best, .slice A n c] 27))) k
  clear hl
  cases hi : inLB B k with
  | true =>
    rw [hi] at hlb
    clear hi
    go_enter Try.func110, Try.ntmps110
    go_wp2_with fail
    go_ret
    exact ⟨rfl, ((Below.refl _ _).alloc (Nat.le_refl _) _).alloc (by simp) _⟩
  | false =>
    rw [hi] at hlb
    clear hi
    go_enter Try.func110, Try.ntmps110
    go_wp2_with fail
    all_goals go_ret
    all_goals exact ⟨ret_bool (by first | rfl | simp [*] | (simp; omega)), ((Below.refl _ _).alloc (Nat.le_refl _) _).alloc (by simp) _⟩
set_option maxRecDepth 100000 in
set_option maxHeartbeats 8000000 in
theorem delO_calls (w : World) {b : Nat} {G : AM KS OX} (h : w.ownsMap Try.prog 24 RV b G.length (dmA kL fO G)) (hK : (G.map (·.1)).Nodup) (hform : ∀ q ∈ G, ∃ A n c, q.2.2 = .slice A n c) {lb m pb eb : Nat} {B : AM KS Bool} {ev : Int} (hl : w.ownsMap Try.prog 24 RV lb m (dmA kL bV B)) (hne : lb ≠ b) (hp : w.cell? ⟨pb, 0, none⟩ = some (.map (some lb))) (he : w.cell? ⟨eb, 9, none⟩ = some (.int .i64 ev)) :
    Calls Try.prog 109 #[.map (some b), .func (.func 110) #[] #[.pointer (some ⟨pb, 0, none⟩), .pointer (some ⟨eb, 0, none⟩)]] w fun e w' => e = .returned (.tuple #[]) ∧ w'.ownsMap Try.prog 24 RV b (dropG G (fun k (v : OX) => !inLB B k && decide (v.1.ver ≤ ev))).length (dmA kL fO (dropG G (fun k (v : OX) => !inLB B k && decide (v.1.ver ≤ ev)))) ∧ Kept (fun k => k = b) w w' := by
  have HK := Lib.hid hK
  have hpb : pb ≠ b := mv_ne h hp
  have heb : eb ≠ b := mv_ne h he
  have HX := Lib.hid (And.intro hp (And.intro he (And.intro hpb heb)))
  have HLB := Lib.hid (And.intro hl hne)
  have HF := Lib.hid hform
  clear hp he hK hpb heb hl hne hform
  go_enter Try.func109, Try.ntmps109
  go_wp2_with (at_range; refine wpList_range_own _ rfl _ 92 rfl 24 27 kS_keyed Try.underlying92 RV b G.length (dmA kL fO G) rfl h ?_; intro w0 hrg0 hg0 hs0)
  try go_frame
  have HLT := Lib.hid h.lt
  clear h
  go_loopw [8] (fun _ wr => ∃ (left : Lit → Bool) (cnt : Nat), Hid (wr.ranges Try.prog 24 RV b w.heap.size G.length (dmA kL fO (keepD G (fun k (v : OX) => !inLB B k && decide (v.1.ver ≤ ev)) left)) left cnt) ∧ Hid ((∀ z, left z = true → Maps.has (dmA kL fO G) z = true) ∧ Kept (fun k => k = b) w wr)) (fun _ wr => wr.rangeLeft b w.heap.size)
  case atStart => exact ⟨_, _, Lib.hid (by rw [keep_start]; exact hrg0), Lib.hid ⟨fun z h => h, (Kept.refl _ _).grown hg0 (fun j hj => by cases hj)⟩⟩
  case round =>
    clear hrg0 hg0 hs0
    obtain ⟨left, cnt, HRG, HI⟩ := hrel
    have hrg := HRG.out
    go_wp2_with (at_next; refine wpList_next_ranges _ rfl _ rfl 24 kS_keyed RV (fun x : Value => x) (fun x : Value => x) (fun key kl _ => ⟨key, rfl⟩) (fun v y _ => ⟨v, rfl⟩) b w.heap.size G.length _ _ _ rfl hrg ?_ ?_)
    · intro _ hl0
      have HO := Lib.hid (show wr.ownsMap Try.prog 24 RV b G.length (dmA kL fO (dropG G (fun k (v : OX) => !inLB B k && decide (v.1.ver ≤ ev)))) by have q := hrg.owns; rw [keep_end hl0] at q; exact q)
      clear hrg
      go_wp2_with fail
      go_end0
      refine ⟨rfl, ?_, HI.out.2⟩
      have q := mv_tight HO.out
      rw [size_dmA kL_lit] at q
      exact q
    · intro x c kl yd yp w1 cnt1 hkx hlk hcy hat hrg1 hlt hg1 hs1 hen
      obtain ⟨p, hp, rfl, rfl⟩ := entry_in (has_keep (HI.out.1 _ hlk) hlk) hcy hat
      obtain rfl := key_of hkx
      have HP := Lib.hid (keep_mem.1 hp).1
      have HRG1 := Lib.hid hrg1
      have HKW := Lib.hid (HI.out.2.grown hg1 (fun j hj => by cases hj; exact .inr (Nat.le_refl _)))
      have HLT2 := Lib.hid hlt; have HLE := Lib.hid hrg.left_eq; have HKX := Lib.hid hkx
      have HLL := Lib.hid (show ∀ z, (left z && !z.sameKey (kL p.1)) = true → Maps.has (dmA kL fO G) z = true from fun z hz => by
        simp only [Bool.and_eq_true] at hz
        exact HI.out.1 z hz.1)
      unfold keyV at hen
      obtain ⟨k, v⟩ := p
      obtain ⟨o, so⟩ := v
      obtain ⟨A, n9, c9, hso⟩ := HF.out _ HP.out
      simp only at hso
      subst hso
      have hen2 : (Instr.entry (.pointer (some ⟨w.heap.size, 0, none⟩))).run Try.prog w1 = .ok (.tuple #[.agg #[.string k.1.kind, .string k.1.space, .string k.1.name], .agg #[.string o.key.kind, .string o.key.space, .string o.key.name, .int .i64 o.ver, .string o.cls, .bool o.term, .bool o.best, .slice A n9 c9]]) w1 := hen
      clear hen
      have hen := hen2
      clear hen2
      have q0 := HKW.out.cell HX.out.1 HX.out.2.2.1
      have q1 := HKW.out.cell HX.out.2.1 HX.out.2.2.2
      have HL1 := Lib.hid (mv_kept HLB.out.1 HKW.out HLB.out.2)
      clear hrg hkx hlk hcy hat hrg1 hlt hg1 hs1 hp
      have hkx2 : keyOf Try.prog 24 (.agg #[.string k.1.kind, .string k.1.space, .string k.1.name]) = some (kL k) := HKX.out
      go_upto_region 3 with fail
      first | with_reducible refine name_wp ?_ | with_reducible refine name_calls ?_
      intro V hV
      have hbV : Below w1.heap.size w1 V := by rw [hV]; exact ((Below.refl _ _).alloc (Nat.le_refl _) _).alloc (by simp) _
      have d0 : V.cell? ⟨w1.heap.size, 0, none⟩ = some (.string k.1.kind) := by rw [hV]; exact blk_cell (blk_old (blk_new w1 _) _) 0
      have d1 : V.cell? ⟨w1.heap.size, 1, none⟩ = some (.string k.1.space) := by rw [hV]; exact blk_cell (blk_old (blk_new w1 _) _) 1
      have d2 : V.cell? ⟨w1.heap.size, 2, none⟩ = some (.string k.1.name) := by rw [hV]; exact blk_cell (blk_old (blk_new w1 _) _) 2
      have o0 : V.cell? ⟨w1.heap.size + 1, 0, none⟩ = some (.string o.key.kind) := by rw [hV]; exact blk_cell (blk_new1 w1 _ _) 0
      have o1 : V.cell? ⟨w1.heap.size + 1, 1, none⟩ = some (.string o.key.space) := by rw [hV]; exact blk_cell (blk_new1 w1 _ _) 1
      have o2 : V.cell? ⟨w1.heap.size + 1, 2, none⟩ = some (.string o.key.name) := by rw [hV]; exact blk_cell (blk_new1 w1 _ _) 2
      have o3 : V.cell? ⟨w1.heap.size + 1, 3, none⟩ = some (.int .i64 o.ver) := by rw [hV]; exact blk_cell (blk_new1 w1 _ _) 3
      have o4 : V.cell? ⟨w1.heap.size + 1, 4, none⟩ = some (.string o.cls) := by rw [hV]; exact blk_cell (blk_new1 w1 _ _) 4
      have o5 : V.cell? ⟨w1.heap.size + 1, 5, none⟩ = some (.bool o.term) := by rw [hV]; exact blk_cell (blk_new1 w1 _ _) 5
      have o6 : V.cell? ⟨w1.heap.size + 1, 6, none⟩ = some (.bool o.best) := by rw [hV]; exact blk_cell (blk_new1 w1 _ _) 6
      have o7 : V.cell? ⟨w1.heap.size + 1, 7, none⟩ = some (.slice A n9 c9) := by rw [hV]; exact blk_cell (blk_new1 w1 _ _) 7
      have HRV := Lib.hid (ranges_kept HRG1.out (kept_of_below (X := fun _ => False) hbV) (fun q => q) (fun q => q))
      have HKV := Lib.hid (HKW.out.trans (kept_of_below (X := fun _ => False) hbV) (fun _ q => q.elim))
      have q0 := cb hbV q0
      have q1 := cb hbV q1
      have HL2 := Lib.hid (mv_below HL1.out hbV)
      clear hV hbV hen
      obtain ⟨pv, hpd⟩ : ∃ pv, (!inLB B k && decide (o.ver ≤ ev)) = pv := ⟨_, rfl⟩
      have HPD := Lib.hid hpd
      cases pv with
      | true =>
        have HD := Lib.hid (keep_del (left := left) (pd := (fun k (v : OX) => !inLB B k && decide (v.1.ver ≤ ev))) HK.out HP.out hpd)
        clear hpd
        go_wp2_with (first | (go_at_call 110; refine (relist1_calls _ k o A n9 c9 HL2.out q0 q1).mono ?_; rintro e w2 ⟨rfl, hb⟩; rw [HPD.out]; have hrg2 := ranges_kept HRV.out (kept_of_below (X := fun _ => False) hb) (fun q => q) (fun q => q); have d0 := cb hb d0; have d1 := cb hb d1; have d2 := cb hb d2; have HK2 := Lib.hid (HKV.out.trans (kept_of_below (X := fun _ => False) hb) (fun _ q => q.elim)); clear hb) | (at_delete; refine wpList_delete_ranges _ rfl _ _ 92 24 rfl 27 kS_keyed Try.underlying92 RV b w.heap.size G.length _ _ _ rfl hrg2 _ _ rfl hkx2 ?_; intro w3 cnt3 hrg3 hle hturn; try go_frame))
        rw [Maps.strike_twice, del_dmA kL_lit] at hrg3
        have HR3 := Lib.hid hrg3
        have HK3 := Lib.hid (HK2.out.trans (kept_turned hturn) (fun _ q => .inl q))
        clear hrg3 hturn hrg2
        go_roundw
        case rel => exact ⟨_, cnt3, Lib.hid (by rw [HD.out]; exact HR3.out), Lib.hid ⟨HLL.out, HK3.out⟩⟩
        case measure => rw [HR3.out.left_eq, HLE.out]; have := HLT2.out; omega
      | false =>
        have HD := Lib.hid (keep_stay (left := left) (pd := (fun k (v : OX) => !inLB B k && decide (v.1.ver ≤ ev))) HK.out HP.out hpd)
        clear hpd
        go_wp2_with (go_at_call 110; refine (relist1_calls _ k o A n9 c9 HL2.out q0 q1).mono ?_; rintro e w2 ⟨rfl, hb⟩; rw [HPD.out]; have HR2 := Lib.hid (ranges_kept HRV.out (kept_of_below (X := fun _ => False) hb) (fun q => q) (fun q => q)); have HK2 := Lib.hid (HKV.out.trans (kept_of_below (X := fun _ => False) hb) (fun _ q => q.elim)); clear hb)
        go_roundw
        case rel => exact ⟨_, cnt1, Lib.hid (by rw [HD.out]; exact HR2.out), Lib.hid ⟨HLL.out, HK2.out⟩⟩
        case measure => rw [HR2.out.left_eq, HLE.out]; exact HLT2.out
end Go.Proofs.Ythhfcambdmdgfaa
namespace Go.Proofs.Ythhfcambdmdgfaa
open Go.RowKit Go.Maps
set_option linter.unusedVariables false
set_option linter.unusedSimpArgs false
abbrev AO := AM KS ObjD
def mo (M : AM KS OX) : AO := M.map fun q => (q.1, q.2.1)
section
variable {M : AM KS OX} {k : KS}
theorem getA_mo (M : AM KS OX) (k : KS) : getA (mo M) k = (getA M k).map (·.1) := by
  induction M with
  | nil => rfl
  | cons p r ih =>
    show getA ((p.1, p.2.1) :: mo r) k = _
    rw [getA_cons, getA_cons, ih]
    by_cases h : p.1 = k <;> simp [h]
theorem hasA_mo (M : AM KS OX) (k : KS) : hasA (mo M) k = hasA M k := by rw [hasA_get, hasA_get, getA_mo]; cases getA M k <;> rfl
theorem mo_len (M : AM KS OX) : (mo M).length = M.length := by simp [mo]
theorem mo_del (M : AM KS OX) (k : KS) : mo (delA M k) = delA (mo M) k := by
  unfold mo delA
  rw [List.filter_map]; rfl
theorem mo_ins (M : AM KS OX) (k : KS) (v : OX) : mo (insA ltKS M k v) = insA ltKS (mo M) k v.1 := by
  induction M with
  | nil => rfl
  | cons p r ih =>
    show mo (if ltKS k p.1 then (k, v) :: p :: r else p :: insA ltKS r k v) = if ltKS k p.1 then (k, v.1) :: (p.1, p.2.1) :: mo r else (p.1, p.2.1) :: insA ltKS (mo r) k v.1
    by_cases h : ltKS k p.1 = true
    · rw [if_pos h, if_pos h]; rfl
    · rw [if_neg h, if_neg h, ← ih]; rfl
theorem mo_put (M : AM KS OX) (k : KS) (v : OX) : mo (putA ltKS M k v) = putA ltKS (mo M) k v.1 := by unfold putA; rw [mo_ins, mo_del]
theorem mo_drop (M : AM KS OX) (pd : KS → ObjD → Bool) : mo (dropG M (fun k v => pd k v.1)) = dropG (mo M) pd := by
  unfold mo dropG
  rw [List.filter_map]; rfl
theorem mo_rise {M : AM KS OX} : RiseA ltKS (mo M) ↔ RiseA ltKS M := by unfold RiseA mo; rw [List.pairwise_map]
theorem rise_drop {β : Type} {M : AM KS β} (h : RiseA ltKS M) (pd : KS → β → Bool) : RiseA ltKS (dropG M pd) := List.Pairwise.filter _ h
theorem drop_le {β : Type} (M : AM KS β) (pd : KS → β → Bool) : (dropG M pd).length ≤ M.length := List.length_filter_le _ _
end
def obA (m : AO) (k : KS) : ObjD := (getA m k).getD zeroO
theorem obA_mo (M : AM KS OX) (k : KS) : obA (mo M) k = objOf M k := by unfold obA objOf; rw [getA_mo]
def knownP (fl : Int) (m : AO) (G : AM KS Int) (k : KS) : Int := max (max fl (obA m k).ver) (verG G k)
theorem knownP_mo (fl : Int) (M : AM KS OX) (G : AM KS Int) (k : KS) : knownP fl (mo M) G k = knownC fl M G k := by unfold knownP knownC; rw [obA_mo]
instance keySmall_dec (k : KeyD) : Decidable (keySmall k) := by unfold keySmall; infer_instance
/-- An object's key, as one of a map's. -/
def kOf (o : ObjD) : KS := if h : keySmall o.key then ⟨o.key, h⟩ else default
theorem kOf_key {o : ObjD} (h : objSmall o) : (kOf o).1 = o.key := by unfold kOf; rw [dif_pos h.1]
noncomputable def stepR (fl : Int) (m : AO) (G : AM KS Int) (out : AO) (o : ObjD) : AO := if knownP fl m G (kOf o) < o.ver ∨ o.ver = (obA m (kOf o)).ver then putA ltKS out (kOf o) o else out
def inXs (xs : List ObjD) (k : KS) : Bool := xs.any fun x => decide (x.key = k.1)
noncomputable def relistP (fl : Int) (m : AO) (G : AM KS Int) (xs : List ObjD) (ev : Int) : AO := dropG (xs.foldl (stepR fl m G) m) fun k o => !inXs xs k && decide (o.ver ≤ ev)
theorem inXs_snoc (xs : List ObjD) (o : ObjD) (k : KS) : inXs (xs ++ [o]) k = (inXs xs k || decide (o.key = k.1)) := by simp [inXs]
theorem inLB_put (B : AM KS Bool) (k x : KS) : inLB (putA ltKS B k true) x = (inLB B x || decide (k.1 = x.1)) := by
  unfold inLB
  rw [getA_put]
  by_cases h : x = k
  · subst h; simp
  · rw [if_neg h]
    have : ¬ k.1 = x.1 := fun e => h (Subtype.ext e.symm)
    simp [this]
/-- The maps of a Relist under way. -/
structure RelAt (W : World) (base o1 lb : Nat) (M1 : AM KS OX) (B : AM KS Bool) : Prop where
  om : OMap W o1 M1
  bm : W.ownsMap Try.prog 24 RV lb B.length (dmA kL bV B)
  res : ∀ q ∈ M1, ResF W base q.2.2 q.2.1.charge ∧ oIn q.2.1 ∧ keySmall q.2.1.key ∧ q.1.1 = q.2.1.key
  rise : RiseA ltKS M1
section
variable {W W' : World} {base o1 lb : Nat} {M1 : AM KS OX} {B : AM KS Bool}
theorem RelAt.below (h : RelAt W base o1 lb M1 B) (hb : Below W.heap.size W W') : RelAt W' base o1 lb M1 B :=
  ⟨h.om.below hb, mv_below h.bm hb, fun q hq => ⟨(h.res q hq).1.below hb, (h.res q hq).2⟩, h.rise⟩
theorem map_apart {b n : Nat} {D : DataW Value} (h : W.ownsMap Try.prog 24 RV b n D) : ∀ k, k = b → ∀ c, W.heap[k]? = some (.cells c 112) → False := fun k e c hc => mv_other h hc e
theorem RelAt.listed (h : RelAt W base o1 lb M1 B) (hne : o1 ≠ lb) {k : KS} (hm : W'.ownsMap Try.prog 24 RV lb (B.length + 1) ((dmA kL bV B).put (kL k) (.held (.bool true)))) (hg : W.grownBy W' (some lb)) :
    RelAt W' base o1 lb M1 (putA ltKS B k true) ∧ Kept (fun k => k = lb) W W' := by
  have hk : Kept (fun k => k = lb) W W' := (Kept.refl _ _).grown hg (fun j e => by cases e; exact .inl rfl)
  refine ⟨⟨h.om.kept hk hne, ?_, fun q hq => ⟨(h.res q hq).1.kept hk (map_apart h.bm), (h.res q hq).2⟩, h.rise⟩, hk⟩
  have q := mv_tight hm
  rw [show (DataW.held (.bool true) : DataW Value) = .held (bV true) from rfl, put_dmA kL_lit, size_dmA kL_lit] at q
  exact q
theorem RelAt.put (h : RelAt W base o1 lb M1 B) (hne : o1 ≠ lb) {k : KS} {p : OX} (hm : W'.ownsMap Try.prog 24 RV o1 (M1.length + 1) ((dmA kL (fun p => Value.agg (objX p).toArray) M1).put (kL k) (.held (.agg (objX p).toArray)))) (hg : W.grownBy W' (some o1))
    (hp : ResF W base p.2 p.1.charge) (hi : oIn p.1 ∧ keySmall p.1.key) (hk1 : k.1 = p.1.key) :
    RelAt W' base o1 lb (putA ltKS M1 k p) B ∧ Kept (fun k => k = o1) W W' := by
  have hk : Kept (fun k => k = o1) W W' := (Kept.refl _ _).grown hg (fun j e => by cases e; exact .inl rfl)
  refine ⟨⟨omap_put hm, mv_kept h.bm hk (fun e => hne e.symm), fun q hq => ?_, rise_put strictKS h.rise _ _⟩, hk⟩
  rcases mem_put.1 hq with rfl | ⟨r, _⟩
  · exact ⟨hp.kept hk (map_apart h.om), hi.1, hi.2, hk1⟩
  · exact ⟨(h.res q r).1.kept hk (map_apart h.om), (h.res q r).2⟩
end
theorem ObjS.keptMap {W W' : World} {sl : Value} {o : ObjD} {lb n : Nat} {D : DataW Value} (h : ObjS W sl o) (hm : W.ownsMap Try.prog 24 RV lb n D) (hk : Kept (fun k => k = lb) W W') : ObjS W' sl o := by
  obtain ⟨⟨⟨hl, A, c, rfl, hc, hr⟩, h2⟩, h3⟩ := h
  refine ⟨⟨⟨hl, A, c, rfl, hc, ?_⟩, h2⟩, h3⟩
  rcases hr with e | ⟨b, off, e, hx⟩
  · exact .inl e
  · refine .inr ⟨b, off, e, fun j u hu => ?_⟩
    have q := hx j u hu
    exact hk.cell q (mv_ne hm q)
end Go.Proofs.Ythhfcambdmdgfaa

import Derived.Test.YthhfcambdmdgfaaKstam
import Derived.Test.YthhfcambdmdgfaaKstak
import Derived.Test.YthhfcambdmdgfaaKstai
import Derived.Test.YthhfcambdmdgfaaKstaj
import Derived.Test.YthhfcambdmdgfaaKstad
namespace Go.Proofs.Ythhfcambdmdgfaa
open Go.RowKit Go.Maps
set_option linter.unusedVariables false
set_option linter.unusedSimpArgs false
theorem has_put2 {β : Type} (M : AM KS β) (k : KS) (v : β) (x : KS) : hasA (putA ltKS M k v) x = (hasA M x || decide (x = k)) := by
  rw [hasA_get, hasA_get, getA_put]
  by_cases h : x = k <;> simp [h]
theorem gmN_put {w : World} {b : Nat} {N : AM KS Int} {k : KS} {v : Int} (h : w.ownsMap Try.prog 24 RV b (N.length + 1) ((dmA kL nV N).put (kL k) (.held (.int .i64 v)))) : w.ownsMap Try.prog 24 RV b (putA ltKS N k v).length (dmA kL nV (putA ltKS N k v)) := by
  have q := mv_tight h
  rw [show (DataW.held (.int .i64 v) : DataW Value) = .held (nV v) from rfl, put_dmA kL_lit, size_dmA kL_lit] at q
  exact q
def dOfK (A B : AM KS OX) (k : KS) : DD := ⟨k.1, hasA A k, hasA B k, objOf A k, objOf B k⟩
def difK (A B : AM KS OX) (k : KS) : Bool := (hasA A k != hasA B k) || !sameO (objOf A k) (objOf B k)
def dsP (ks : List KS) (A B : AM KS OX) : List DD := (ks.filter (difK A B)).map (dOfK A B)
theorem dsP_snoc (ks : List KS) (k : KS) (A B : AM KS OX) : dsP (ks ++ [k]) A B = dsP ks A B ++ (if difK A B k then [dOfK A B k] else []) := by
  unfold dsP
  rw [List.filter_append, List.map_append]
  congr 1
  by_cases h : difK A B k = true <;> simp [h]
theorem look2 {w : World} {base mb : Nat} {M : AM KS OX} (h : OMap w mb M) (hr : ResM w base M) (hs : ∀ q ∈ M, objSmall q.2.1) (k : KS) :
    ∃ (q : ObjD) (C : Option Addr) (c : Nat), q = objOf M k ∧ (∀ U, Below w.heap.size w U → (Instr.lookup 92 (.map (some mb)) (.agg #[.string k.1.kind, .string k.1.space, .string k.1.name]) true).run Try.prog U = .ok (.tuple #[.agg #[.string q.key.kind, .string q.key.space, .string q.key.name, .int .i64 q.ver, .string q.cls, .bool q.term, .bool q.best, .slice C q.charge.length c], .bool (hasA M k)]) U) ∧ ObjS w (.slice C q.charge.length c) q ∧ objSmall q := by
  cases hg : getA M k with
  | none =>
    refine ⟨zeroO, none, 0, by unfold objOf; rw [hg]; rfl, fun U hb => ?_, zeroO_S w, zeroO_small⟩
    have q := omap_look (h.below hb) k
    rw [hg] at q; exact q
  | some p =>
    obtain ⟨o, so⟩ := p
    obtain ⟨h1, h2, _, _⟩ := hr _ (getA_mem hg)
    obtain ⟨g, hso⟩ := h1.form
    simp only at hso h1 h2
    subst hso
    refine ⟨o, some ⟨g, 0, none⟩, o.charge.length, by unfold objOf; rw [hg]; rfl, fun U hb => ?_, ⟨h1.resS h2.2, h2.1⟩, hs _ (getA_mem hg)⟩
    have q := omap_look (h.below hb) k
    rw [hg] at q; exact q
def ChgO (w : World) (A B : AM KS OX) (e : Ending) (w' : World) : Prop := ∃ C c zs ks, e = .returned (.slice C zs.length c) ∧ DsF w' w.heap.size (.slice C zs.length c) zs ∧ zs.map (·.1) = dsP ks A B ∧ ks.Nodup ∧ (∀ k, k ∈ ks ↔ (hasA A k || hasA B k) = true) ∧ ks.Pairwise (fun a b => ltT b a = false) ∧ Below w.heap.size w w'
set_option maxRecDepth 100000 in
set_option maxHeartbeats 8000000 in
theorem cchanged_calls (w : World) {oa ob : Nat} {A B : AM KS OX} (hA : OMap w oa A) (hB0 : OMap w ob B) (hlA : A.length ≤ 400000) (hlB : B.length ≤ 400000) {base : Nat} (hRA : ResM w base A) (hRB : ResM w base B) (hSA : ∀ q ∈ A, objSmall q.2.1) (hSB : ∀ q ∈ B, objSmall q.2.1) :
    Calls Try.prog 73 #[.map (some oa), .map (some ob)] w (ChgO w A B) := by
  have hmm := @run_makeMap Try.prog
  have HMK := Lib.hid (World.ownsMap_made w Try.prog 24 RV)
  have HA := Lib.hid hA; have HB := Lib.hid hB0; have HL := Lib.hid (And.intro hlA hlB)
  have HLA := Lib.hid (fun k => look2 hA hRA hSA k); have HLB := Lib.hid (fun k => look2 hB0 hRB hSB k)
  clear hA hB0 hlA hlB hRA hRB hSA hSB
  go_enter Try.func73, Try.ntmps73
  go_upto_region 2 with fail
  first | with_reducible refine name_wp ?_ | with_reducible refine name_calls ?_
  intro W hW
  have HN : Hid (W.ownsMap Try.prog 24 RV w.heap.size ([] : AM KS Int).length (dmA kL nV [])) := Lib.hid (by rw [hW]; exact mv_tight HMK.out)
  have hbW : Below w.heap.size w W := by rw [hW]; exact (Below.refl _ _).alloc (Nat.le_refl _) _
  have hzW : W.heap.size = w.heap.size + 1 := by rw [hW]; simp
  have HZW := Lib.hid hzW
  clear hW hmm HMK hzW
  have HBW := Lib.hid hbW
  have HAW := Lib.hid (HA.out.below hbW)
  have hla : oa < w.heap.size := HA.out.lt
  clear hbW
  go_wp2_with (at_range; refine wpList_range_own _ rfl _ 92 rfl 24 27 kS_keyed Try.underlying92 RV oa A.length (dmA kL fO A) rfl HAW.out ?_; intro w0 hrg0 hg0 hs0)
  try go_frame
  go_loopw [18] (fun _ wr => ∃ (left : Lit → Bool) (cnt : Nat) (N : AM KS Int) (ss : List KS), Hid (wr.ranges Try.prog 24 RV oa W.heap.size A.length (dmA kL fO A) left cnt) ∧ Hid (CollS A fO left ss ∧ wr.ownsMap Try.prog 24 RV w.heap.size N.length (dmA kL nV N) ∧ (∀ k, hasA N k = (false || decide (k ∈ ss))) ∧ N.length ≤ 0 + ss.length ∧ ss.length + cnt ≤ A.length) ∧ Hid (Kept (fun k => k = w.heap.size) W wr)) (fun _ wr => wr.rangeLeft oa W.heap.size)
  case atStart => exact ⟨_, _, [], [], Lib.hid hrg0, Lib.hid ⟨CollS.start A fO, mv_kept (HN.out) ((Kept.refl (fun _ => False) _).grown hg0 (fun j hj => by cases hj)) (fun q => q), (fun k => rfl), Nat.le_refl _, by rw [size_dmA kL_lit]; simp⟩, Lib.hid ((Kept.refl _ _).grown hg0 (fun j hj => by cases hj))⟩
  case round =>
    clear hrg0 hg0 hs0
    obtain ⟨left, cnt, N, ss, HRG, HS, HK⟩ := hrel
    have hrg := HRG.out
    go_wp2_with (at_next; refine wpList_next_ranges _ rfl _ rfl 24 kS_keyed RV (fun x : Value => x) (fun x : Value => x) (fun key kl _ => ⟨key, rfl⟩) (fun v y _ => ⟨v, rfl⟩) oa W.heap.size A.length _ _ _ rfl hrg ?_ ?_)
    · intro _ hl0
      have HN1 := Lib.hid (show wr.ownsMap Try.prog 24 RV w.heap.size N.length (dmA kL nV N) ∧ (∀ k, hasA N k = hasA A k) ∧ N.length ≤ A.length from ⟨HS.out.2.1, (fun k => by
        rw [HS.out.2.2.1 k]
        have h := HS.out.1.iff k
        rw [hl0] at h
        cases q : hasA A k with
        | true => simp [h.2 ⟨q, rfl⟩]
        | false => simp; intro hk; have := (h.1 hk).1; rw [q] at this; cases this), by have := HS.out.2.2.2.1; have := HS.out.2.2.2.2; omega⟩)
      obtain ⟨N1, rfl⟩ : ∃ N1, N1 = N := ⟨_, rfl⟩
      obtain ⟨X, rfl⟩ : ∃ X : World, X = wr := ⟨_, rfl⟩
      have HKW2 := HK
      have HBX := Lib.hid (HB.out.below (HBW.out.trans (HK.out.below HBW.out.size (fun k e => by subst e; exact Nat.le_refl _))))
      have HZX := Lib.hid (show w.heap.size < X.heap.size by have := HK.out.size; have := HZW.out; omega)
      have hlb : ob < w.heap.size := HB.out.lt
      clear hrg HRG HS hl0
      go_wp2_with (at_range; refine wpList_range_own _ rfl _ 92 rfl 24 27 kS_keyed Try.underlying92 RV ob B.length (dmA kL fO B) rfl HBX.out ?_; intro w0 hrg0 hg0 hs0)
      try go_frame
      go_loopw [30] (fun _ wr => ∃ (left : Lit → Bool) (cnt : Nat) (N : AM KS Int) (ss : List KS), Hid (wr.ranges Try.prog 24 RV ob X.heap.size B.length (dmA kL fO B) left cnt) ∧ Hid (CollS B fO left ss ∧ wr.ownsMap Try.prog 24 RV w.heap.size N.length (dmA kL nV N) ∧ (∀ k, hasA N k = (hasA A k || decide (k ∈ ss))) ∧ N.length ≤ A.length + ss.length ∧ ss.length + cnt ≤ B.length) ∧ Hid (Kept (fun k => k = w.heap.size) X wr)) (fun _ wr => wr.rangeLeft ob X.heap.size)
      case atStart => exact ⟨_, _, N1, [], Lib.hid hrg0, Lib.hid ⟨CollS.start B fO, mv_kept (HN1.out.1) ((Kept.refl (fun _ => False) _).grown hg0 (fun j hj => by cases hj)) (fun q => q), (fun k => by rw [HN1.out.2.1 k]; simp), HN1.out.2.2, by rw [size_dmA kL_lit]; simp⟩, Lib.hid ((Kept.refl _ _).grown hg0 (fun j hj => by cases hj))⟩
      case round =>
        clear hrg0 hg0 hs0
        obtain ⟨left, cnt, N, ss, HRG, HS, HK⟩ := hrel
        have hrg := HRG.out
        go_wp2_with (at_next; refine wpList_next_ranges _ rfl _ rfl 24 kS_keyed RV (fun x : Value => x) (fun x : Value => x) (fun key kl _ => ⟨key, rfl⟩) (fun v y _ => ⟨v, rfl⟩) ob X.heap.size B.length _ _ _ rfl hrg ?_ ?_)
        · intro _ hl0
          have HN2 := Lib.hid (show wr.ownsMap Try.prog 24 RV w.heap.size N.length (dmA kL nV N) ∧ (∀ k, hasA N k = (hasA A k || hasA B k)) ∧ N.length ≤ A.length + B.length from ⟨HS.out.2.1, (fun k => by
            rw [HS.out.2.2.1 k]
            have h := HS.out.1.iff k
            rw [hl0] at h
            cases q : hasA B k with
            | true => simp [h.2 ⟨q, rfl⟩]
            | false =>
              have : ¬ k ∈ ss := fun hk => by have := (h.1 hk).1; rw [q] at this; cases this
              simp [this]), by have := HS.out.2.2.2.1; have := HS.out.2.2.2.2; omega⟩)
          obtain ⟨Y, rfl⟩ : ∃ Y : World, Y = wr := ⟨_, rfl⟩
          have HBwY := Lib.hid (show Below w.heap.size w Y from (HBW.out.trans (HKW2.out.below HBW.out.size (fun k e => by subst e; exact Nat.le_refl _))).trans (HK.out.below (Nat.le_of_lt HZX.out) (fun k e => by subst e; exact Nat.le_refl _)))
          have hNl : N.length ≤ 1000000 := by have := HN2.out.2.2; have := HL.out; omega
          clear hrg HRG HS hl0 HBX hlb
          go_wp2_with (first | (go_at_call 95; refine (keysN_calls Y (some w.heap.size)).mono ?_; rintro e w8 ⟨rfl, hc, hb⟩; have HST := Lib.hid (keysN_stops 4 (by decide) Y.heap.size w.heap.size _ N nV w8 hc (mv_below HN2.out.1 hb)); have HB8 := Lib.hid hb; clear hc hb) | (go_at_call 76; refine (sortedFunc_calls w8 trivial (enters_of Try.func111 (by kernel_rfl) rfl) HST.out hNl).mono ?_; rintro e w9 ⟨C, c9, ks, rfl, hr, ha, hs, hb⟩; have HKS := Lib.hid (And.intro hr (And.intro ha hs)); have HB9 := Lib.hid (bl_from HB8.out hb); clear hr ha hs hb))
          have HSK := Lib.hid (sliS_of HKS.out.1)
          have HKL := Lib.hid (show ks.length ≤ 1000000 from Nat.le_trans (allK_len HKS.out.2.1) hNl)
          have HB9w := Lib.hid (bl_next HBwY.out HB9.out)
          have HNIL := Lib.hid (dsF_nil w9 w9.heap.size)
          obtain ⟨V, rfl⟩ : ∃ V : World, V = w9 := ⟨_, rfl⟩
          go_loopw [8, 44] (fun s i wr => ∃ (j m : Nat) (C2 : Option Addr) (d2 : Nat) (zs : List DX), i = .int .i64 (j : Int) ∧ j ≤ ks.length ∧ s = .slice C2 m d2 ∧ m ≤ j ∧ Hid (zs.length = m ∧ DsF wr V.heap.size (.slice C2 m d2) zs ∧ zs.map (·.1) = dsP (ks.take j) A B) ∧ Hid (Below V.heap.size V wr)) (fun _ i _ => ks.length - (intOf i).toNat)
          case atStart => exact ⟨0, 0, none, 0, [], rfl, Nat.zero_le _, rfl, Nat.le_refl _, Lib.hid ⟨rfl, HNIL.out, rfl⟩, Lib.hid (Below.refl _ _)⟩
          case round =>
            obtain ⟨j, m, C2, d2, zs, rfl, hj, rfl, hm, HY, HBr⟩ := hrel
            by_cases hjl : j < ks.length
            · have hjI : (j : Int) < ks.length := by omega
              obtain ⟨b, of, c7, he, hq⟩ := key_at HSK.out hjl
              cases he
              have HT := Lib.hid (show dsP (ks.take (j + 1)) A B = dsP (ks.take j) A B ++ (if difK A B (ks[j]'hjl) then [dOfK A B (ks[j]'hjl)] else []) by rw [List.take_succ_eq_append_getElem hjl, dsP_snoc])
              generalize ks[j]'hjl = k at hq HT
              obtain ⟨p, C3, c3, hp, hlp, hps, hpm⟩ := HLA.out k
              obtain ⟨q, C4, c4, hq', hlq, hqs, hqm⟩ := HLB.out k
              obtain ⟨hv, hhv⟩ : ∃ x, hasA A k = x := ⟨_, rfl⟩
              obtain ⟨hs, hhs⟩ : ∃ x, hasA B k = x := ⟨_, rfl⟩
              rw [hhv] at hlp; rw [hhs] at hlq
              have HDF := Lib.hid (show difK A B k = ((hv != hs) || !sameO p q) ∧ dOfK A B k = ⟨k.1, hv, hs, p, q⟩ from ⟨by unfold difK; rw [hhv, hhs, ← hp, ← hq'], by unfold dOfK; rw [hhv, hhs, ← hp, ← hq']⟩)
              obtain ⟨U, rfl⟩ : ∃ U : World, U = wr := ⟨_, rfl⟩
              have HBU := Lib.hid (bl_next HB9w.out HBr.out)
              have kq := hq.below HBr.out
              have d0 := kq.c0
              have d1 := kq.c1
              have d2' := kq.c2
              have HLP := Lib.hid hlp; have HLQ := Lib.hid hlq; have HPS := Lib.hid (And.intro hps hpm); have HQS := Lib.hid (And.intro hqs hqm)
              clear kq hq hhv hhs hp hq' hlp hlq hps hqs hpm hqm
              go_upto_region 14 with fail
              first | with_reducible refine name_wp ?_ | with_reducible refine name_calls ?_
              intro W3 hW3
              have hb3 : Below U.heap.size U W3 := by rw [hW3]; exact (Below.refl _ _).alloc (Nat.le_refl _) _
              have e0 : W3.cell? ⟨U.heap.size, 0, none⟩ = some (.string k.1.kind) := by rw [hW3]; exact blk_cell (blk_new U _) 0
              have e1 : W3.cell? ⟨U.heap.size, 1, none⟩ = some (.string k.1.space) := by rw [hW3]; exact blk_cell (blk_new U _) 1
              have e2 : W3.cell? ⟨U.heap.size, 2, none⟩ = some (.string k.1.name) := by rw [hW3]; exact blk_cell (blk_new U _) 2
              have hlk := HLP.out W3 (bl_next HBU.out hb3)
              have HB3 := Lib.hid hb3
              clear hW3 hb3 d0 d1 d2'
              go_upto_region 15 with fail
              first | with_reducible refine name_wp ?_ | with_reducible refine name_calls ?_
              intro W4 hW4
              have hb4 : Below W3.heap.size W3 W4 := by rw [hW4]; exact (Below.refl _ _).alloc (Nat.le_refl _) _
              have a0 : W4.cell? ⟨W3.heap.size, 0, none⟩ = some (.string p.key.kind) := by rw [hW4]; exact blk_cell (blk_new W3 _) 0
              have a1 : W4.cell? ⟨W3.heap.size, 1, none⟩ = some (.string p.key.space) := by rw [hW4]; exact blk_cell (blk_new W3 _) 1
              have a2 : W4.cell? ⟨W3.heap.size, 2, none⟩ = some (.string p.key.name) := by rw [hW4]; exact blk_cell (blk_new W3 _) 2
              have a3 : W4.cell? ⟨W3.heap.size, 3, none⟩ = some (.int .i64 p.ver) := by rw [hW4]; exact blk_cell (blk_new W3 _) 3
              have a4 : W4.cell? ⟨W3.heap.size, 4, none⟩ = some (.string p.cls) := by rw [hW4]; exact blk_cell (blk_new W3 _) 4
              have a5 : W4.cell? ⟨W3.heap.size, 5, none⟩ = some (.bool p.term) := by rw [hW4]; exact blk_cell (blk_new W3 _) 5
              have a6 : W4.cell? ⟨W3.heap.size, 6, none⟩ = some (.bool p.best) := by rw [hW4]; exact blk_cell (blk_new W3 _) 6
              have a7 : W4.cell? ⟨W3.heap.size, 7, none⟩ = some (.slice C3 p.charge.length c3) := by rw [hW4]; exact blk_cell (blk_new W3 _) 7
              have e0 := cb hb4 e0
              have e1 := cb hb4 e1
              have e2 := cb hb4 e2
              have HB4 := Lib.hid (bl_next HB3.out hb4)
              clear hlk
              have hlk := HLQ.out W4 (bl_next HBU.out HB4.out)
              clear hW4 hb4
              go_upto_region 16 with fail
              first | with_reducible refine name_wp ?_ | with_reducible refine name_calls ?_
              intro W5 hW5
              have hb5 : Below W4.heap.size W4 W5 := by rw [hW5]; exact (Below.refl _ _).alloc (Nat.le_refl _) _
              have b0 : W5.cell? ⟨W4.heap.size, 0, none⟩ = some (.string q.key.kind) := by rw [hW5]; exact blk_cell (blk_new W4 _) 0
              have b1 : W5.cell? ⟨W4.heap.size, 1, none⟩ = some (.string q.key.space) := by rw [hW5]; exact blk_cell (blk_new W4 _) 1
              have b2 : W5.cell? ⟨W4.heap.size, 2, none⟩ = some (.string q.key.name) := by rw [hW5]; exact blk_cell (blk_new W4 _) 2
              have b3 : W5.cell? ⟨W4.heap.size, 3, none⟩ = some (.int .i64 q.ver) := by rw [hW5]; exact blk_cell (blk_new W4 _) 3
              have b4 : W5.cell? ⟨W4.heap.size, 4, none⟩ = some (.string q.cls) := by rw [hW5]; exact blk_cell (blk_new W4 _) 4
              have b5 : W5.cell? ⟨W4.heap.size, 5, none⟩ = some (.bool q.term) := by rw [hW5]; exact blk_cell (blk_new W4 _) 5
              have b6 : W5.cell? ⟨W4.heap.size, 6, none⟩ = some (.bool q.best) := by rw [hW5]; exact blk_cell (blk_new W4 _) 6
              have b7 : W5.cell? ⟨W4.heap.size, 7, none⟩ = some (.slice C4 q.charge.length c4) := by rw [hW5]; exact blk_cell (blk_new W4 _) 7
              have e0 := cb hb5 e0
              have e1 := cb hb5 e1
              have e2 := cb hb5 e2
              have a0 := cb hb5 a0
              have a1 := cb hb5 a1
              have a2 := cb hb5 a2
              have a3 := cb hb5 a3
              have a4 := cb hb5 a4
              have a5 := cb hb5 a5
              have a6 := cb hb5 a6
              have a7 := cb hb5 a7
              have HB5 := Lib.hid (bl_next HB4.out hb5)
              have HB5w := Lib.hid (bl_next HBU.out HB5.out)
              clear hW5 hb5 hlk HB3 HB4
              have HSA := Lib.hid (osame_calls W5 (HPS.out.1.below HB5w.out) (HQS.out.1.below HB5w.out) ⟨by have := HPS.out.2.2.2.1; omega, by have := HQS.out.2.2.2.1; omega⟩)
              obtain ⟨sm, hsm⟩ : ∃ x, sameO p q = x := ⟨_, rfl⟩
              rw [hsm] at HSA HDF
              unfold objV at HSA
              have HB5V := Lib.hid (bl_next HBr.out HB5.out)
              have HYW := Lib.hid (HY.out.2.1.below HB5.out)
              have HYE := Lib.hid (And.intro HY.out.1 HY.out.2.2)
              have hmb : m ≤ 1000000 := by have := HKL.out; omega
              have hjb : j ≤ 1000000 := by have := HKL.out; omega
              clear hsm HY HBr
              cases hne : (hv != hs) with
              | true =>
                obtain rfl : hs = !hv := by cases hv <;> cases hs <;> simp at hne ⊢
                clear hne
                go_upto_region 17 with fail
                obtain ⟨Z, rfl⟩ : ∃ Z : World, Z = W5 := ⟨_, rfl⟩
                have HYZ := Lib.hid (HYW.out.below (Below.refl _ _))
                have HBZV := Lib.hid (bl_next HB5V.out (Below.refl _ _))
                have HOA := Lib.hid (fun (X : World) (hb : Below Z.heap.size Z X) => ownO_calls X ((HPS.out.1.below HB5w.out).below (bl_next (Below.refl _ _) hb)) HPS.out.2)
                have HOB := Lib.hid (fun (X : World) (hb : Below Z.heap.size Z X) => ownO_calls X ((HQS.out.1.below HB5w.out).below (bl_next (Below.refl _ _) hb)) HQS.out.2)
                unfold objV at HOA HOB
                have hGE : V.heap.size ≤ Z.heap.size := HBZV.out.size
                have hB := Below.refl Z.heap.size Z
                have hB := hB.drew
                refine region_seqM (fun w' => Below Z.heap.size Z w') 10 [(0, 1), (1, 1), (2, 1), (3, 1), (4, 1), (6, 1), (5, 0), (7, 0), (8, 1), (9, 0), (10, 0), (11, 2)] (by kernel_rfl) (by kernel_rfl) (fun _ _ _ _ h => h) hB ?_
                try generalize World.drew _ = wS at hB ⊢
                refine sm_take (v := ?_) (a' := ?_) (some 69) rfl rfl (by rfl) ?_ ?_ ?_
                rotate_left; rotate_left
                · intro w' hS; go_simp; with_reducible rfl
                · simp only [Act.put, List.setIfInBounds_toArray, List.set_cons_zero, List.set_cons_succ]; rfl
                refine sm_take (v := ?_) (a' := ?_) (some 70) rfl rfl (by rfl) ?_ ?_ ?_
                rotate_left; rotate_left
                · intro w' hS; have x0 := cb hS (id e0); have x1 := cb hS (id e1); have x2 := cb hS (id e2); have y0 := cb hS (id a0); have y1 := cb hS (id a1); have y2 := cb hS (id a2); have y3 := cb hS (id a3); have y4 := cb hS (id a4); have y5 := cb hS (id a5); have y6 := cb hS (id a6); have y7 := cb hS (id a7); have z0 := cb hS (id b0); have z1 := cb hS (id b1); have z2 := cb hS (id b2); have z3 := cb hS (id b3); have z4 := cb hS (id b4); have z5 := cb hS (id b5); have z6 := cb hS (id b6); have z7 := cb hS (id b7); go_simp; with_reducible rfl
                · simp only [Act.put, List.setIfInBounds_toArray, List.set_cons_zero, List.set_cons_succ]; rfl
                refine sm_take (v := ?_) (a' := ?_) (some 71) rfl rfl (by rfl) ?_ ?_ ?_
                rotate_left; rotate_left
                · intro w' hS; go_simp; with_reducible rfl
                · simp only [Act.put, List.setIfInBounds_toArray, List.set_cons_zero, List.set_cons_succ]; rfl
                refine sm_take (v := ?_) (a' := ?_) (some 72) rfl rfl (by rfl) ?_ ?_ ?_
                rotate_left; rotate_left
                · intro w' hS; go_simp; with_reducible rfl
                · simp only [Act.put, List.setIfInBounds_toArray, List.set_cons_zero, List.set_cons_succ]; rfl
                refine sm_take (v := ?_) (a' := ?_) (some 73) rfl rfl (by rfl) ?_ ?_ ?_
                rotate_left; rotate_left
                · intro w' hS; have x0 := cb hS (id e0); have x1 := cb hS (id e1); have x2 := cb hS (id e2); have y0 := cb hS (id a0); have y1 := cb hS (id a1); have y2 := cb hS (id a2); have y3 := cb hS (id a3); have y4 := cb hS (id a4); have y5 := cb hS (id a5); have y6 := cb hS (id a6); have y7 := cb hS (id a7); have z0 := cb hS (id b0); have z1 := cb hS (id b1); have z2 := cb hS (id b2); have z3 := cb hS (id b3); have z4 := cb hS (id b4); have z5 := cb hS (id b5); have z6 := cb hS (id b6); have z7 := cb hS (id b7); go_simp; with_reducible rfl
                · simp only [Act.put, List.setIfInBounds_toArray, List.set_cons_zero, List.set_cons_succ]; rfl
                refine sm_take (v := ?_) (a' := ?_) (some 75) rfl rfl (by rfl) ?_ ?_ ?_
                rotate_left; rotate_left
                · intro w' hS; have x0 := cb hS (id e0); have x1 := cb hS (id e1); have x2 := cb hS (id e2); have y0 := cb hS (id a0); have y1 := cb hS (id a1); have y2 := cb hS (id a2); have y3 := cb hS (id a3); have y4 := cb hS (id a4); have y5 := cb hS (id a5); have y6 := cb hS (id a6); have y7 := cb hS (id a7); have z0 := cb hS (id b0); have z1 := cb hS (id b1); have z2 := cb hS (id b2); have z3 := cb hS (id b3); have z4 := cb hS (id b4); have z5 := cb hS (id b5); have z6 := cb hS (id b6); have z7 := cb hS (id b7); go_simp; with_reducible rfl
                · simp only [Act.put, List.setIfInBounds_toArray, List.set_cons_zero, List.set_cons_succ]; rfl
                refine sm_call (args := ?_) Try.func56 (by kernel_rfl) rfl (some 74) rfl rfl (by rfl) rfl rfl ?_ ?_
                rotate_left
                · simp only [List.map_toArray, List.map_cons, List.map_nil]; go_simp; rfl
                with_reducible refine ((HOA.out _ hB)).mono ?_
                rintro e w' ⟨g5, rfl, HF5, hb⟩
                have HR5 := Lib.hid (HF5.out.mono (b' := V.heap.size) (by have := hB.size; omega))
                refine ⟨_, rfl, .inr (bl_next (by repeat (first | with_reducible exact hB | refine Below.alloc ?_ (by have := hB.size; simp; omega) _ | refine bl_dN ?_ _ | refine Below.drew ?_ | refine Below.setCell ?_ (by have := hB.size; simp; omega) _)) hb), ?_⟩
                have hB := bl_next (by repeat (first | with_reducible exact hB | refine Below.alloc ?_ (by have := hB.size; simp; omega) _ | refine bl_dN ?_ _ | refine Below.drew ?_ | refine Below.setCell ?_ (by have := hB.size; simp; omega) _)) hb; clear hb
                simp only [Act.put, List.setIfInBounds_toArray, List.set_cons_zero, List.set_cons_succ]
                refine sm_call (args := ?_) Try.func56 (by kernel_rfl) rfl (some 76) rfl rfl (by rfl) rfl rfl ?_ ?_
                rotate_left
                · simp only [List.map_toArray, List.map_cons, List.map_nil]; go_simp; rfl
                with_reducible refine ((HOB.out _ hB)).mono ?_
                rintro e w' ⟨g6, rfl, HF6, hb⟩
                have HR6 := Lib.hid (HF6.out.mono (b' := V.heap.size) (by have := hB.size; omega)); have HR5' := Lib.hid (HR5.out.below hb)
                refine ⟨_, rfl, .inr (bl_next (by repeat (first | with_reducible exact hB | refine Below.alloc ?_ (by have := hB.size; simp; omega) _ | refine bl_dN ?_ _ | refine Below.drew ?_ | refine Below.setCell ?_ (by have := hB.size; simp; omega) _)) hb), ?_⟩
                have hB := bl_next (by repeat (first | with_reducible exact hB | refine Below.alloc ?_ (by have := hB.size; simp; omega) _ | refine bl_dN ?_ _ | refine Below.drew ?_ | refine Below.setCell ?_ (by have := hB.size; simp; omega) _)) hb; clear hb
                simp only [Act.put, List.setIfInBounds_toArray, List.set_cons_zero, List.set_cons_succ]
                refine sm_take (v := ?_) (a' := ?_) (some 77) rfl rfl (by rfl) ?_ ?_ ?_
                rotate_left; rotate_left
                · intro w' hS; go_simp; with_reducible rfl
                · simp only [Act.put, List.setIfInBounds_toArray, List.set_cons_zero, List.set_cons_succ]; rfl
                refine sm_op (some 78) rfl rfl (by rfl) ?_
                apply Exists.intro; apply Exists.intro; apply And.intro
                · go_simp; first | exact ⟨rfl, rfl⟩ | rfl
                apply Exists.intro; apply And.intro
                · simp only [Act.put, List.setIfInBounds_toArray, List.set_cons_zero, List.set_cons_succ]; rfl
                apply And.intro
                · exact .inr (by repeat (first | with_reducible exact hB | refine Below.alloc ?_ (by have := hB.size; simp; omega) _ | refine bl_dN ?_ _ | refine Below.drew ?_ | refine Below.setCell ?_ (by have := hB.size; simp; omega) _))
                refine sm_law rfl (by rfl) ?_
                refine app_delta_at (.tmp 69) (.tmp 78) rfl V.heap.size (.slice C2 m d2) m zs ⟨k.1, hv, !hv, p, q⟩ g5 _ _ g6 _ _ rfl (World.ownsRow.alloc (rw_below (by have q := HYZ.out.row; rw [HYE.out.1] at q; exact q) hB) _) _ 1 rfl (blk_new _ _) (by have := hB.size; simp; omega) (by omega) ?_
                intro g3 cap3 w3 hown3 hk3; have HZ := Lib.hid (DsF.snoc (p := (⟨k.1, hv, !hv, p, q⟩, .slice (some ⟨g5, 0, none⟩) p.charge.length p.charge.length, .slice (some ⟨g6, 0, none⟩) q.charge.length q.charge.length)) ((HYZ.out.below hB).below ((Below.refl _ _).alloc (Nat.le_refl _) _)) ⟨HR5'.out.below ((Below.refl _ _).alloc (Nat.le_refl _) _), HR6.out.below ((Below.refl _ _).alloc (Nat.le_refl _) _)⟩ (by rw [List.length_append, HYE.out.1]; exact hown3) hk3); have HB3 := Lib.hid (show Below V.heap.size V w3 from ((bl_next HBZV.out hB).alloc (by have := hB.size; omega) _).trans (hk3.below (by have := hB.size; simp; omega) (fun k q => (rw_type HYZ.out.row q).1)))
                refine ⟨.inl rfl, ?_⟩
                simp only [Act.put, List.setIfInBounds_toArray, List.set_cons_zero, List.set_cons_succ]
                refine sm_free (v := ?_) (a' := ?_) (some 8) rfl rfl (by rfl) ?_ ?_ ?_
                rotate_left; rotate_left
                · intro w'; go_simp; with_reducible rfl
                · simp only [Act.put, List.setIfInBounds_toArray, List.set_cons_zero, List.set_cons_succ]; rfl
                refine sm_done ?_
                go_wp2_with fail
                go_roundw
                case rel => exact ⟨j + 1, m + 1, _, cap3, zs ++ [_], by simp, by omega, rfl, by omega, Lib.hid ⟨by simp [HYE.out.1], HZ.out, by rw [HT.out, HDF.out.1, HDF.out.2, show ((hv != !hv) || !sm) = true by cases hv <;> rfl, if_pos rfl, ← HYE.out.2]; simp⟩, HB3⟩
                case measure => simp [intOf]; omega
              | false =>
                obtain rfl : hv = hs := by simpa using hne
                clear hne
                cases sm with
                  | false =>
                    go_upto_region 17 with (go_at_call 63; refine HSA.out.mono ?_; rintro e w8 ⟨rfl, hb⟩; have HB8 := Lib.hid hb; clear hb)
                    obtain ⟨Z, rfl⟩ : ∃ Z : World, Z = w8 := ⟨_, rfl⟩
                    have HYZ := Lib.hid (HYW.out.below HB8.out)
                    have HBZV := Lib.hid (bl_next HB5V.out HB8.out)
                    have HOA := Lib.hid (fun (X : World) (hb : Below Z.heap.size Z X) => ownO_calls X ((HPS.out.1.below HB5w.out).below (bl_next HB8.out hb)) HPS.out.2)
                    have HOB := Lib.hid (fun (X : World) (hb : Below Z.heap.size Z X) => ownO_calls X ((HQS.out.1.below HB5w.out).below (bl_next HB8.out hb)) HQS.out.2)
                    unfold objV at HOA HOB
                    have hGE : V.heap.size ≤ Z.heap.size := HBZV.out.size
                    have hB := Below.refl Z.heap.size Z
                    have hB := hB.drew
                    refine region_seqM (fun w' => Below Z.heap.size Z w') 10 [(0, 1), (1, 1), (2, 1), (3, 1), (4, 1), (6, 1), (5, 0), (7, 0), (8, 1), (9, 0), (10, 0), (11, 2)] (by kernel_rfl) (by kernel_rfl) (fun _ _ _ _ h => h) hB ?_
                    try generalize World.drew _ = wS at hB ⊢
                    refine sm_take (v := ?_) (a' := ?_) (some 69) rfl rfl (by rfl) ?_ ?_ ?_
                    rotate_left; rotate_left
                    · intro w' hS; go_simp; with_reducible rfl
                    · simp only [Act.put, List.setIfInBounds_toArray, List.set_cons_zero, List.set_cons_succ]; rfl
                    refine sm_take (v := ?_) (a' := ?_) (some 70) rfl rfl (by rfl) ?_ ?_ ?_
                    rotate_left; rotate_left
                    · intro w' hS; have x0 := cb hS (cb HB8.out e0); have x1 := cb hS (cb HB8.out e1); have x2 := cb hS (cb HB8.out e2); have y0 := cb hS (cb HB8.out a0); have y1 := cb hS (cb HB8.out a1); have y2 := cb hS (cb HB8.out a2); have y3 := cb hS (cb HB8.out a3); have y4 := cb hS (cb HB8.out a4); have y5 := cb hS (cb HB8.out a5); have y6 := cb hS (cb HB8.out a6); have y7 := cb hS (cb HB8.out a7); have z0 := cb hS (cb HB8.out b0); have z1 := cb hS (cb HB8.out b1); have z2 := cb hS (cb HB8.out b2); have z3 := cb hS (cb HB8.out b3); have z4 := cb hS (cb HB8.out b4); have z5 := cb hS (cb HB8.out b5); have z6 := cb hS (cb HB8.out b6); have z7 := cb hS (cb HB8.out b7); go_simp; with_reducible rfl
                    · simp only [Act.put, List.setIfInBounds_toArray, List.set_cons_zero, List.set_cons_succ]; rfl
                    refine sm_take (v := ?_) (a' := ?_) (some 71) rfl rfl (by rfl) ?_ ?_ ?_
                    rotate_left; rotate_left
                    · intro w' hS; go_simp; with_reducible rfl
                    · simp only [Act.put, List.setIfInBounds_toArray, List.set_cons_zero, List.set_cons_succ]; rfl
                    refine sm_take (v := ?_) (a' := ?_) (some 72) rfl rfl (by rfl) ?_ ?_ ?_
                    rotate_left; rotate_left
                    · intro w' hS; go_simp; with_reducible rfl
                    · simp only [Act.put, List.setIfInBounds_toArray, List.set_cons_zero, List.set_cons_succ]; rfl
                    refine sm_take (v := ?_) (a' := ?_) (some 73) rfl rfl (by rfl) ?_ ?_ ?_
                    rotate_left; rotate_left
                    · intro w' hS; have x0 := cb hS (cb HB8.out e0); have x1 := cb hS (cb HB8.out e1); have x2 := cb hS (cb HB8.out e2); have y0 := cb hS (cb HB8.out a0); have y1 := cb hS (cb HB8.out a1); have y2 := cb hS (cb HB8.out a2); have y3 := cb hS (cb HB8.out a3); have y4 := cb hS (cb HB8.out a4); have y5 := cb hS (cb HB8.out a5); have y6 := cb hS (cb HB8.out a6); have y7 := cb hS (cb HB8.out a7); have z0 := cb hS (cb HB8.out b0); have z1 := cb hS (cb HB8.out b1); have z2 := cb hS (cb HB8.out b2); have z3 := cb hS (cb HB8.out b3); have z4 := cb hS (cb HB8.out b4); have z5 := cb hS (cb HB8.out b5); have z6 := cb hS (cb HB8.out b6); have z7 := cb hS (cb HB8.out b7); go_simp; with_reducible rfl
                    · simp only [Act.put, List.setIfInBounds_toArray, List.set_cons_zero, List.set_cons_succ]; rfl
                    refine sm_take (v := ?_) (a' := ?_) (some 75) rfl rfl (by rfl) ?_ ?_ ?_
                    rotate_left; rotate_left
                    · intro w' hS; have x0 := cb hS (cb HB8.out e0); have x1 := cb hS (cb HB8.out e1); have x2 := cb hS (cb HB8.out e2); have y0 := cb hS (cb HB8.out a0); have y1 := cb hS (cb HB8.out a1); have y2 := cb hS (cb HB8.out a2); have y3 := cb hS (cb HB8.out a3); have y4 := cb hS (cb HB8.out a4); have y5 := cb hS (cb HB8.out a5); have y6 := cb hS (cb HB8.out a6); have y7 := cb hS (cb HB8.out a7); have z0 := cb hS (cb HB8.out b0); have z1 := cb hS (cb HB8.out b1); have z2 := cb hS (cb HB8.out b2); have z3 := cb hS (cb HB8.out b3); have z4 := cb hS (cb HB8.out b4); have z5 := cb hS (cb HB8.out b5); have z6 := cb hS (cb HB8.out b6); have z7 := cb hS (cb HB8.out b7); go_simp; with_reducible rfl
                    · simp only [Act.put, List.setIfInBounds_toArray, List.set_cons_zero, List.set_cons_succ]; rfl
                    refine sm_call (args := ?_) Try.func56 (by kernel_rfl) rfl (some 74) rfl rfl (by rfl) rfl rfl ?_ ?_
                    rotate_left
                    · simp only [List.map_toArray, List.map_cons, List.map_nil]; go_simp; rfl
                    with_reducible refine ((HOA.out _ hB)).mono ?_
                    rintro e w' ⟨g5, rfl, HF5, hb⟩
                    have HR5 := Lib.hid (HF5.out.mono (b' := V.heap.size) (by have := hB.size; omega))
                    refine ⟨_, rfl, .inr (bl_next (by repeat (first | with_reducible exact hB | refine Below.alloc ?_ (by have := hB.size; simp; omega) _ | refine bl_dN ?_ _ | refine Below.drew ?_ | refine Below.setCell ?_ (by have := hB.size; simp; omega) _)) hb), ?_⟩
                    have hB := bl_next (by repeat (first | with_reducible exact hB | refine Below.alloc ?_ (by have := hB.size; simp; omega) _ | refine bl_dN ?_ _ | refine Below.drew ?_ | refine Below.setCell ?_ (by have := hB.size; simp; omega) _)) hb; clear hb
                    simp only [Act.put, List.setIfInBounds_toArray, List.set_cons_zero, List.set_cons_succ]
                    refine sm_call (args := ?_) Try.func56 (by kernel_rfl) rfl (some 76) rfl rfl (by rfl) rfl rfl ?_ ?_
                    rotate_left
                    · simp only [List.map_toArray, List.map_cons, List.map_nil]; go_simp; rfl
                    with_reducible refine ((HOB.out _ hB)).mono ?_
                    rintro e w' ⟨g6, rfl, HF6, hb⟩
                    have HR6 := Lib.hid (HF6.out.mono (b' := V.heap.size) (by have := hB.size; omega)); have HR5' := Lib.hid (HR5.out.below hb)
                    refine ⟨_, rfl, .inr (bl_next (by repeat (first | with_reducible exact hB | refine Below.alloc ?_ (by have := hB.size; simp; omega) _ | refine bl_dN ?_ _ | refine Below.drew ?_ | refine Below.setCell ?_ (by have := hB.size; simp; omega) _)) hb), ?_⟩
                    have hB := bl_next (by repeat (first | with_reducible exact hB | refine Below.alloc ?_ (by have := hB.size; simp; omega) _ | refine bl_dN ?_ _ | refine Below.drew ?_ | refine Below.setCell ?_ (by have := hB.size; simp; omega) _)) hb; clear hb
                    simp only [Act.put, List.setIfInBounds_toArray, List.set_cons_zero, List.set_cons_succ]
                    refine sm_take (v := ?_) (a' := ?_) (some 77) rfl rfl (by rfl) ?_ ?_ ?_
                    rotate_left; rotate_left
                    · intro w' hS; go_simp; with_reducible rfl
                    · simp only [Act.put, List.setIfInBounds_toArray, List.set_cons_zero, List.set_cons_succ]; rfl
                    refine sm_op (some 78) rfl rfl (by rfl) ?_
                    apply Exists.intro; apply Exists.intro; apply And.intro
                    · go_simp; first | exact ⟨rfl, rfl⟩ | rfl
                    apply Exists.intro; apply And.intro
                    · simp only [Act.put, List.setIfInBounds_toArray, List.set_cons_zero, List.set_cons_succ]; rfl
                    apply And.intro
                    · exact .inr (by repeat (first | with_reducible exact hB | refine Below.alloc ?_ (by have := hB.size; simp; omega) _ | refine bl_dN ?_ _ | refine Below.drew ?_ | refine Below.setCell ?_ (by have := hB.size; simp; omega) _))
                    refine sm_law rfl (by rfl) ?_
                    refine app_delta_at (.tmp 69) (.tmp 78) rfl V.heap.size (.slice C2 m d2) m zs ⟨k.1, hv, hv, p, q⟩ g5 _ _ g6 _ _ rfl (World.ownsRow.alloc (rw_below (by have q := HYZ.out.row; rw [HYE.out.1] at q; exact q) hB) _) _ 1 rfl (blk_new _ _) (by have := hB.size; simp; omega) (by omega) ?_
                    intro g3 cap3 w3 hown3 hk3; have HZ := Lib.hid (DsF.snoc (p := (⟨k.1, hv, hv, p, q⟩, .slice (some ⟨g5, 0, none⟩) p.charge.length p.charge.length, .slice (some ⟨g6, 0, none⟩) q.charge.length q.charge.length)) ((HYZ.out.below hB).below ((Below.refl _ _).alloc (Nat.le_refl _) _)) ⟨HR5'.out.below ((Below.refl _ _).alloc (Nat.le_refl _) _), HR6.out.below ((Below.refl _ _).alloc (Nat.le_refl _) _)⟩ (by rw [List.length_append, HYE.out.1]; exact hown3) hk3); have HB3 := Lib.hid (show Below V.heap.size V w3 from ((bl_next HBZV.out hB).alloc (by have := hB.size; omega) _).trans (hk3.below (by have := hB.size; simp; omega) (fun k q => (rw_type HYZ.out.row q).1)))
                    refine ⟨.inl rfl, ?_⟩
                    simp only [Act.put, List.setIfInBounds_toArray, List.set_cons_zero, List.set_cons_succ]
                    refine sm_free (v := ?_) (a' := ?_) (some 8) rfl rfl (by rfl) ?_ ?_ ?_
                    rotate_left; rotate_left
                    · intro w'; go_simp; with_reducible rfl
                    · simp only [Act.put, List.setIfInBounds_toArray, List.set_cons_zero, List.set_cons_succ]; rfl
                    refine sm_done ?_
                    go_wp2_with fail
                    go_roundw
                    case rel => exact ⟨j + 1, m + 1, _, cap3, zs ++ [_], by simp, by omega, rfl, by omega, Lib.hid ⟨by simp [HYE.out.1], HZ.out, by rw [HT.out, HDF.out.1, HDF.out.2, show ((hv != hv) || !false) = true by simp, if_pos rfl, ← HYE.out.2]; simp⟩, HB3⟩
                    case measure => simp [intOf]; omega
                  | true =>
                    go_wp2_with (go_at_call 63; refine HSA.out.mono ?_; rintro e w8 ⟨rfl, hb⟩; have HB8 := Lib.hid hb; clear hb)
                    go_roundw
                    case rel => exact ⟨j + 1, m, C2, d2, zs, by simp, by omega, rfl, by omega, Lib.hid ⟨HYE.out.1, HYW.out.below HB8.out, by rw [HT.out, HDF.out.1, show ((hv != hv) || !true) = false by simp, if_neg (by decide), List.append_nil]; exact HYE.out.2⟩, Lib.hid (bl_next HB5V.out HB8.out)⟩
                    case measure => simp [intOf]; omega
            · obtain rfl : j = ks.length := by omega
              go_wp2_with fail
              go_ret
              refine ⟨C2, d2, zs, ks, by rw [HY.out.1]; rfl, ?_, by rw [HY.out.2.2, List.take_length], HKS.out.2.1.1, fun k => by rw [HKS.out.2.1.2 k, HN2.out.2.1 k], HKS.out.2.2, bl_next HB9w.out HBr.out⟩
              rw [HY.out.1]
              exact HY.out.2.1.mono HB9w.out.size
        · intro x c kl yd yp w1 cnt1 hkx hlk hcy hat hrg1 hlt hg1 hs1 hen
          obtain ⟨q, hq, rfl⟩ := entry_key (HS.out.1.has _ hlk)
          have hhas : hasA B q.1 = true := by unfold hasA; rw [List.any_eq_true]; exact ⟨q, hq, by simp⟩
          generalize q.1 = k at hkx hlk hhas hat hrg1 hen
          obtain rfl := key_of hkx
          have HC1 := Lib.hid (HS.out.1.step hhas hlk)
          have HRG1 := Lib.hid hrg1
          have HKW := Lib.hid (HK.out.grown hg1 (fun j hj => by cases hj; exact .inr (Nat.le_refl _)))
          have HN1 := Lib.hid (mv_kept HS.out.2.1 ((Kept.refl (fun k => k = X.heap.size) _).grown hg1 (fun j hj => by cases hj; exact .inl rfl)) (by have := HZX.out; omega))
          have HLT2 := Lib.hid hlt; have HLE := Lib.hid hrg.left_eq
          have HS2 := Lib.hid (And.intro HS.out.2.2.1 (And.intro HS.out.2.2.2.1 (show ss.length + 1 + cnt1 ≤ B.length by have := HS.out.2.2.2.2; omega)))
          have HNI := Lib.hid (show k ∉ ss from fun h => by have := ((HS.out.1.iff k).1 h).2; rw [hlk] at this; cases this)
          have hnl : N.length ≤ 2000000 := by have := HS.out.2.2.2.1; have := HS.out.2.2.2.2; have := HL.out.1; have := HL.out.2; omega
          have HKX := Lib.hid (show keyOf Try.prog 24 (.agg #[.string k.1.kind, .string k.1.space, .string k.1.name]) = some (kL k) from hkx)
          unfold keyV at hen
          clear hrg hkx hlk hcy hat hrg1 hlt hg1 hs1 hhas hq HS HK
          go_upto_region 9 with fail
          first | with_reducible refine name_wp ?_ | with_reducible refine name_calls ?_
          intro V hV
          have hbV : Below w1.heap.size w1 V := by rw [hV]; exact (Below.refl _ _).alloc (Nat.le_refl _) _
          have d0 : V.cell? ⟨w1.heap.size, 0, none⟩ = some (.string k.1.kind) := by rw [hV]; exact blk_cell (blk_new w1 _) 0
          have d1 : V.cell? ⟨w1.heap.size, 1, none⟩ = some (.string k.1.space) := by rw [hV]; exact blk_cell (blk_new w1 _) 1
          have d2 : V.cell? ⟨w1.heap.size, 2, none⟩ = some (.string k.1.name) := by rw [hV]; exact blk_cell (blk_new w1 _) 2
          have HRV := Lib.hid (ranges_kept HRG1.out (kept_of_below (X := fun _ => False) hbV) (fun q => q) (fun q => q))
          have HKV := Lib.hid (HKW.out.trans (kept_of_below (X := fun _ => False) hbV) (fun _ q => q.elim))
          have HNV := Lib.hid (mv_below HN1.out hbV)
          have HLK := Lib.hid (fun (U : World) (hb : Below V.heap.size V U) => look_num (mv_below HNV.out hb) k)
          obtain ⟨nn, hnn⟩ : ∃ n, numN N k = n := ⟨_, rfl⟩
          rw [hnn] at HLK
          have HNN := Lib.hid hnn
          have HW1 := Lib.hid (show ¬ (w1.heap.size = w.heap.size) by have := HKW.out.size; have := HZX.out; omega)
          clear hV hbV hen hnn
          have hB := Below.refl V.heap.size V
          have hB := hB.drew
          refine region_seqM (fun w' => RelN V w.heap.size k nn w') 6 [(0, 1), (1, 1), (2, 1), (3, 1), (4, 0), (5, 1), (6, 0)] (by kernel_rfl) (by kernel_rfl) (fun _ _ _ _ h => h) (RelN.start HNV.out HNN.out hB) ?_
          try generalize World.drew _ = wS at hB ⊢
          refine sm_take (v := ?_) (a' := ?_) (some 34) rfl rfl (by rfl) ?_ ?_ ?_
          rotate_left; rotate_left
          · intro w' hS; go_simp; with_reducible rfl
          · simp only [Act.put, List.setIfInBounds_toArray, List.set_cons_zero, List.set_cons_succ]; rfl
          refine sm_take (v := ?_) (a' := ?_) (some 35) rfl rfl (by rfl) ?_ ?_ ?_
          rotate_left; rotate_left
          · intro w' hS; have z0 := hS.kept.cell d0 HW1.out; have z1 := hS.kept.cell d1 HW1.out; have z2 := hS.kept.cell d2 HW1.out; have zl := hS.look; go_simp; with_reducible rfl
          · simp only [Act.put, List.setIfInBounds_toArray, List.set_cons_zero, List.set_cons_succ]; rfl
          refine sm_take (v := ?_) (a' := ?_) (some 36) rfl rfl (by rfl) ?_ ?_ ?_
          rotate_left; rotate_left
          · intro w' hS; have z0 := hS.kept.cell d0 HW1.out; have z1 := hS.kept.cell d1 HW1.out; have z2 := hS.kept.cell d2 HW1.out; have zl := hS.look; go_simp; with_reducible rfl
          · simp only [Act.put, List.setIfInBounds_toArray, List.set_cons_zero, List.set_cons_succ]; rfl
          refine sm_take (v := ?_) (a' := ?_) (some 37) rfl rfl (by rfl) ?_ ?_ ?_
          rotate_left; rotate_left
          · intro w' hS; go_simp; with_reducible rfl
          · simp only [Act.put, List.setIfInBounds_toArray, List.set_cons_zero, List.set_cons_succ]; rfl
          refine sm_law rfl (by rfl) ?_
          with_reducible refine wp_entry _ (some 38) ?xN (.tmp 34) (.tmp 35) 122 3 ?xa ?xb zero_int w.heap.size N.length (dmA kL nV N) ?xc ?xd ?xn (.agg #[.string k.1.kind, .string k.1.space, .string k.1.name]) (kL k) ?xe ?xf ?_
          (case xN => rfl); (case xa => rfl); (case xb => exact Try.underlying122); (case xc => first | (go_simp; done) | (go_simp; rfl)); (case xd => exact mv_below HNV.out hB); (case xn => unfold maxLen; omega); (case xe => first | (go_simp; done) | (go_simp; rfl)); (case xf => exact HKX.out); intro v0 st w4 hst hrun4 hk4; have hS4 := RelN.entry HNV.out HNN.out hB (by unfold maxLen; omega) HKX.out hrun4 hk4; obtain ⟨w5, hst5, hown5, hk5⟩ := hst (.int .i64 (IntKind.i64.wrap (nn + 1))); have HST5 := Lib.hid hst5; clear hst hrun4 hk4 hst5
          refine ⟨.inr hS4, ?_⟩
          simp only [Act.put, List.setIfInBounds_toArray, List.set_cons_zero, List.set_cons_succ]
          refine sm_take (v := ?_) (a' := ?_) (some 39) rfl rfl (by rfl) ?_ ?_ ?_
          rotate_left; rotate_left
          · intro w' hS; go_simp; with_reducible rfl
          · simp only [Act.put, List.setIfInBounds_toArray, List.set_cons_zero, List.set_cons_succ]; rfl
          refine sm_law rfl (by rfl) ?_
          with_reducible refine wp_eStore (.tmp 34) (.tmp 39) (.tmp 37) 122 ?xa ?xc ?xe ?xv HST5.out ?_
          (case xa => rfl); (case xc => first | (go_simp; done) | (go_simp; rfl)); (case xe => first | (go_simp; done) | (go_simp; rfl)); (case xv => first | (go_simp; done) | (go_simp; rfl))
          refine ⟨.inl rfl, ?_⟩
          simp only [Act.put, List.setIfInBounds_toArray, List.set_cons_zero, List.set_cons_succ]
          refine sm_done ?_
          have HN5 := Lib.hid (gmN_put hown5)
          have HR5 := Lib.hid (ranges_kept (ranges_kept HRV.out (kept_of_below (X := fun _ => False) hB) (fun q => q) (fun q => q)) hk5 (show ¬ (ob = w.heap.size) by omega) (show ¬ (X.heap.size = w.heap.size) by have := HZX.out; omega))
          have HK5 := Lib.hid ((HKV.out.trans (kept_of_below (X := fun _ => False) hB) (fun _ q => q.elim)).trans hk5 (fun _ q => .inl q))
          clear hown5 hk5 hS4
          go_wp2_with fail
          go_roundw
          case rel => exact ⟨_, cnt1, _, ss ++ [k], HR5, Lib.hid ⟨HC1.out, HN5.out, fun x => by rw [has_put2, HS2.out.1 x]; by_cases hx : x = k <;> simp [hx], Nat.le_trans (put_le _ _ _ _) (by have := HS2.out.2.1; simp; omega), by have := HS2.out.2.2; simp; omega⟩, HK5⟩
          case measure => rw [HR5.out.left_eq, HLE.out]; exact HLT2.out
    · intro x c kl yd yp w1 cnt1 hkx hlk hcy hat hrg1 hlt hg1 hs1 hen
      obtain ⟨q, hq, rfl⟩ := entry_key (HS.out.1.has _ hlk)
      have hhas : hasA A q.1 = true := by unfold hasA; rw [List.any_eq_true]; exact ⟨q, hq, by simp⟩
      generalize q.1 = k at hkx hlk hhas hat hrg1 hen
      obtain rfl := key_of hkx
      have HC1 := Lib.hid (HS.out.1.step hhas hlk)
      have HRG1 := Lib.hid hrg1
      have HKW := Lib.hid (HK.out.grown hg1 (fun j hj => by cases hj; exact .inr (Nat.le_refl _)))
      have HN1 := Lib.hid (mv_kept HS.out.2.1 ((Kept.refl (fun k => k = W.heap.size) _).grown hg1 (fun j hj => by cases hj; exact .inl rfl)) (by have := HZW.out; omega))
      have HLT2 := Lib.hid hlt; have HLE := Lib.hid hrg.left_eq
      have HS2 := Lib.hid (And.intro HS.out.2.2.1 (And.intro HS.out.2.2.2.1 (show ss.length + 1 + cnt1 ≤ A.length by have := HS.out.2.2.2.2; omega)))
      have HNI := Lib.hid (show k ∉ ss from fun h => by have := ((HS.out.1.iff k).1 h).2; rw [hlk] at this; cases this)
      have hnl : N.length ≤ 2000000 := by have := HS.out.2.2.2.1; have := HS.out.2.2.2.2; have := HL.out.1; have := HL.out.2; omega
      have HKX := Lib.hid (show keyOf Try.prog 24 (.agg #[.string k.1.kind, .string k.1.space, .string k.1.name]) = some (kL k) from hkx)
      unfold keyV at hen
      clear hrg hkx hlk hcy hat hrg1 hlt hg1 hs1 hhas hq HS HK
      go_upto_region 5 with fail
      first | with_reducible refine name_wp ?_ | with_reducible refine name_calls ?_
      intro V hV
      have hbV : Below w1.heap.size w1 V := by rw [hV]; exact (Below.refl _ _).alloc (Nat.le_refl _) _
      have d0 : V.cell? ⟨w1.heap.size, 0, none⟩ = some (.string k.1.kind) := by rw [hV]; exact blk_cell (blk_new w1 _) 0
      have d1 : V.cell? ⟨w1.heap.size, 1, none⟩ = some (.string k.1.space) := by rw [hV]; exact blk_cell (blk_new w1 _) 1
      have d2 : V.cell? ⟨w1.heap.size, 2, none⟩ = some (.string k.1.name) := by rw [hV]; exact blk_cell (blk_new w1 _) 2
      have HRV := Lib.hid (ranges_kept HRG1.out (kept_of_below (X := fun _ => False) hbV) (fun q => q) (fun q => q))
      have HKV := Lib.hid (HKW.out.trans (kept_of_below (X := fun _ => False) hbV) (fun _ q => q.elim))
      have HNV := Lib.hid (mv_below HN1.out hbV)
      have HLK := Lib.hid (fun (U : World) (hb : Below V.heap.size V U) => look_num (mv_below HNV.out hb) k)
      obtain ⟨nn, hnn⟩ : ∃ n, numN N k = n := ⟨_, rfl⟩
      rw [hnn] at HLK
      have HNN := Lib.hid hnn
      have HW1 := Lib.hid (show ¬ (w1.heap.size = w.heap.size) by have := HKW.out.size; have := HZW.out; omega)
      clear hV hbV hen hnn
      have hB := Below.refl V.heap.size V
      have hB := hB.drew
      refine region_seqM (fun w' => RelN V w.heap.size k nn w') 6 [(0, 1), (1, 1), (2, 1), (3, 1), (4, 0), (5, 1), (6, 0)] (by kernel_rfl) (by kernel_rfl) (fun _ _ _ _ h => h) (RelN.start HNV.out HNN.out hB) ?_
      try generalize World.drew _ = wS at hB ⊢
      refine sm_take (v := ?_) (a' := ?_) (some 22) rfl rfl (by rfl) ?_ ?_ ?_
      rotate_left; rotate_left
      · intro w' hS; go_simp; with_reducible rfl
      · simp only [Act.put, List.setIfInBounds_toArray, List.set_cons_zero, List.set_cons_succ]; rfl
      refine sm_take (v := ?_) (a' := ?_) (some 23) rfl rfl (by rfl) ?_ ?_ ?_
      rotate_left; rotate_left
      · intro w' hS; have z0 := hS.kept.cell d0 HW1.out; have z1 := hS.kept.cell d1 HW1.out; have z2 := hS.kept.cell d2 HW1.out; have zl := hS.look; go_simp; with_reducible rfl
      · simp only [Act.put, List.setIfInBounds_toArray, List.set_cons_zero, List.set_cons_succ]; rfl
      refine sm_take (v := ?_) (a' := ?_) (some 24) rfl rfl (by rfl) ?_ ?_ ?_
      rotate_left; rotate_left
      · intro w' hS; have z0 := hS.kept.cell d0 HW1.out; have z1 := hS.kept.cell d1 HW1.out; have z2 := hS.kept.cell d2 HW1.out; have zl := hS.look; go_simp; with_reducible rfl
      · simp only [Act.put, List.setIfInBounds_toArray, List.set_cons_zero, List.set_cons_succ]; rfl
      refine sm_take (v := ?_) (a' := ?_) (some 25) rfl rfl (by rfl) ?_ ?_ ?_
      rotate_left; rotate_left
      · intro w' hS; go_simp; with_reducible rfl
      · simp only [Act.put, List.setIfInBounds_toArray, List.set_cons_zero, List.set_cons_succ]; rfl
      refine sm_law rfl (by rfl) ?_
      with_reducible refine wp_entry _ (some 26) ?xN (.tmp 22) (.tmp 23) 122 3 ?xa ?xb zero_int w.heap.size N.length (dmA kL nV N) ?xc ?xd ?xn (.agg #[.string k.1.kind, .string k.1.space, .string k.1.name]) (kL k) ?xe ?xf ?_
      (case xN => rfl); (case xa => rfl); (case xb => exact Try.underlying122); (case xc => first | (go_simp; done) | (go_simp; rfl)); (case xd => exact mv_below HNV.out hB); (case xn => unfold maxLen; omega); (case xe => first | (go_simp; done) | (go_simp; rfl)); (case xf => exact HKX.out); intro v0 st w4 hst hrun4 hk4; have hS4 := RelN.entry HNV.out HNN.out hB (by unfold maxLen; omega) HKX.out hrun4 hk4; obtain ⟨w5, hst5, hown5, hk5⟩ := hst (.int .i64 (IntKind.i64.wrap (nn + 1))); have HST5 := Lib.hid hst5; clear hst hrun4 hk4 hst5
      refine ⟨.inr hS4, ?_⟩
      simp only [Act.put, List.setIfInBounds_toArray, List.set_cons_zero, List.set_cons_succ]
      refine sm_take (v := ?_) (a' := ?_) (some 27) rfl rfl (by rfl) ?_ ?_ ?_
      rotate_left; rotate_left
      · intro w' hS; go_simp; with_reducible rfl
      · simp only [Act.put, List.setIfInBounds_toArray, List.set_cons_zero, List.set_cons_succ]; rfl
      refine sm_law rfl (by rfl) ?_
      with_reducible refine wp_eStore (.tmp 22) (.tmp 27) (.tmp 25) 122 ?xa ?xc ?xe ?xv HST5.out ?_
      (case xa => rfl); (case xc => first | (go_simp; done) | (go_simp; rfl)); (case xe => first | (go_simp; done) | (go_simp; rfl)); (case xv => first | (go_simp; done) | (go_simp; rfl))
      refine ⟨.inl rfl, ?_⟩
      simp only [Act.put, List.setIfInBounds_toArray, List.set_cons_zero, List.set_cons_succ]
      refine sm_done ?_
      have HN5 := Lib.hid (gmN_put hown5)
      have HR5 := Lib.hid (ranges_kept (ranges_kept HRV.out (kept_of_below (X := fun _ => False) hB) (fun q => q) (fun q => q)) hk5 (show ¬ (oa = w.heap.size) by omega) (show ¬ (W.heap.size = w.heap.size) by have := HZW.out; omega))
      have HK5 := Lib.hid ((HKV.out.trans (kept_of_below (X := fun _ => False) hB) (fun _ q => q.elim)).trans hk5 (fun _ q => .inl q))
      clear hown5 hk5 hS4
      go_wp2_with fail
      go_roundw
      case rel => exact ⟨_, cnt1, _, ss ++ [k], HR5, Lib.hid ⟨HC1.out, HN5.out, fun x => by rw [has_put2, HS2.out.1 x]; by_cases hx : x = k <;> simp [hx], Nat.le_trans (put_le _ _ _ _) (by have := HS2.out.2.1; simp; omega), by have := HS2.out.2.2; simp; omega⟩, HK5⟩
      case measure => rw [HR5.out.left_eq, HLE.out]; exact HLT2.out
end Go.Proofs.Ythhfcambdmdgfaa
namespace Go.Proofs.Ythhfcambdmdgfaa
open Go.RowKit Go.Maps
set_option linter.unusedVariables false
set_option linter.unusedSimpArgs false
set_option maxRecDepth 100000 in
set_option maxHeartbeats 8000000 in
theorem capply_no (w : World) {base cp ob gb : Nat} {fl : Int} {M : AM KS OX} {G : AM KS Int} (h : CacheAt w base cp ob gb fl M G) (kd : Int) {o : ObjD} {sl : Value} (ev : Int) {ol : Value} {xs : List OX} (k : KS) (hk : k.1 = o.key) (ho : ObjS w sl o) (hs : objSmall o) (hx : ObjsS w ol xs) (hxs : OSmall (oxs xs)) (hkd : in64 kd) (hl : xs.length ≤ 1000000)
    (hno : rightE ⟨kd, o, ev, oxs xs⟩ = false ∨ staleC ⟨kd, o, ev, oxs xs⟩ fl M G k = true) :
    Calls Try.prog 44 #[.pointer (some ⟨cp, 0, none⟩), evV kd o sl ev ol] w fun e w' => e = .returned (.tuple #[.slice none 0 0, .int .i64 (if rightE ⟨kd, o, ev, oxs xs⟩ then 6 else 1)]) ∧ Below w.heap.size w w' := by
  have HR := Lib.hid (fun (U : World) (hb : Below w.heap.size w U) => evright_calls U kd ev (ho.below hb) hs (hx.below hb) hxs hkd hl)
  have HST := Lib.hid (fun (U : World) (hb : Below w.heap.size w U) => cstale_calls U (h.below hb) kd ev k hk (ho.below hb) hs (hx.below hb) hxs hkd hl)
  obtain ⟨ao, co, rfl⟩ := ho.1.form
  obtain ⟨al, cl, rfl⟩ := hx.form
  obtain ⟨rb, hrb⟩ : ∃ b, rightE ⟨kd, o, ev, oxs xs⟩ = b := ⟨_, rfl⟩
  obtain ⟨sb, hsb⟩ : ∃ b, staleC ⟨kd, o, ev, oxs xs⟩ fl M G k = b := ⟨_, rfl⟩
  rw [hrb] at HR hno ⊢
  rw [hsb] at HST hno
  unfold evV at HR HST ⊢
  clear h ho hx hxs hrb hsb
  go_enter Try.func44, Try.ntmps44
  go_upto_region 1 with fail
  first | with_reducible refine name_wp ?_ | with_reducible refine name_calls ?_
  intro W hW
  have gE : W.heap[w.heap.size]? = some (.cells #[.int .i64 kd, .string o.key.kind, .string o.key.space, .string o.key.name, .int .i64 o.ver, .string o.cls, .bool o.term, .bool o.best, .slice ao o.charge.length co, .int .i64 ev, .slice al xs.length cl] 30) := by rw [hW]; exact blk_new w _
  have hbW : Below w.heap.size w W := by rw [hW]; exact (Below.refl _ _).alloc (Nat.le_refl _) _
  clear hW
  have HBW := Lib.hid hbW
  have HE := Lib.hid gE
  have HEB := Lib.hid (fun (U : World) (hb : Below W.heap.size W U) => blk_below HE.out hb)
  have c0 : W.cell? ⟨w.heap.size, 0, none⟩ = some (.int .i64 kd) := blk_cell gE 0
  have c1 : W.cell? ⟨w.heap.size, 1, none⟩ = some (.string o.key.kind) := blk_cell gE 1
  have c2 : W.cell? ⟨w.heap.size, 2, none⟩ = some (.string o.key.space) := blk_cell gE 2
  have c3 : W.cell? ⟨w.heap.size, 3, none⟩ = some (.string o.key.name) := blk_cell gE 3
  have c4 : W.cell? ⟨w.heap.size, 4, none⟩ = some (.int .i64 o.ver) := blk_cell gE 4
  have c5 : W.cell? ⟨w.heap.size, 5, none⟩ = some (.string o.cls) := blk_cell gE 5
  have c6 : W.cell? ⟨w.heap.size, 6, none⟩ = some (.bool o.term) := blk_cell gE 6
  have c7 : W.cell? ⟨w.heap.size, 7, none⟩ = some (.bool o.best) := blk_cell gE 7
  have c8 : W.cell? ⟨w.heap.size, 8, none⟩ = some (.slice ao o.charge.length co) := blk_cell gE 8
  have c9 : W.cell? ⟨w.heap.size, 9, none⟩ = some (.int .i64 ev) := blk_cell gE 9
  have c10 : W.cell? ⟨w.heap.size, 10, none⟩ = some (.slice al xs.length cl) := blk_cell gE 10
  cases rb with
  | false =>
    go_wp2_with (go_at_call 21; refine (HR.out W HBW.out).mono ?_; rintro e w1 ⟨rfl, hb⟩; have HB1 := Lib.hid hb; clear hb)
    exact bodyPost_ret (v := .tuple #[.slice none 0 0, .int .i64 1]) (by simp [results, Try.results44, go_sem]) rfl ⟨rfl, bl_from HBW.out HB1.out⟩
  | true =>
    obtain rfl : sb = true := by rcases hno with q | q; cases q; exact q
    go_wp2_with (first | (go_at_call 21; refine (HR.out W HBW.out).mono ?_; rintro e w1 ⟨rfl, hb⟩; have HB1 := Lib.hid hb; have c0 := cb hb c0; have c1 := cb hb c1; have c2 := cb hb c2; have c3 := cb hb c3; have c4 := cb hb c4; have c5 := cb hb c5; have c6 := cb hb c6; have c7 := cb hb c7; have c8 := cb hb c8; have c9 := cb hb c9; have c10 := cb hb c10; clear hb) | (go_at_call 71; refine (HST.out w1 (bl_from HBW.out HB1.out)).mono ?_; rintro e w2 ⟨rfl, hb⟩; have HB2 := Lib.hid (bl_next (bl_from HBW.out HB1.out) hb); clear hb))
    exact bodyPost_ret (v := .tuple #[.slice none 0 0, .int .i64 6]) (by simp [results, Try.results44, go_sem]) rfl ⟨rfl, HB2.out⟩
end Go.Proofs.Ythhfcambdmdgfaa
namespace Go.Proofs.Ythhfcambdmdgfaa
open Go.RowKit Go.Maps Srt
set_option linter.unusedVariables false
set_option linter.unusedSimpArgs false
theorem getA_drop {β : Type} {pd : KS → β → Bool} : ∀ {M : AM KS β}, (M.map (·.1)).Nodup → ∀ k, getA (dropG M pd) k = match getA M k with
    | some v => if pd k v then none else some v
    | none => none
  | [], _, k => rfl
  | p :: r, h, k => by
    have hn : p.1 ∉ r.map (·.1) ∧ (r.map (·.1)).Nodup := by simpa using h
    have ih := getA_drop (pd := pd) hn.2 k
    have hnone : p.1 = k → getA r k = none := fun e => by
      cases q : getA r k with
      | none => rfl
      | some v => exact absurd (List.mem_map.2 ⟨_, getA_mem q, e.symm⟩) hn.1
    rw [getA_cons]
    by_cases hk : p.1 = k
    · rw [if_pos hk]
      by_cases hp : pd p.1 p.2 = true
      · have e : dropG (p :: r) pd = dropG r pd := by unfold dropG; simp [hp]
        rw [e, ih, hnone hk]
        subst hk; simp [hp]
      · have e : dropG (p :: r) pd = p :: dropG r pd := by unfold dropG; simp [hp]
        rw [e, getA_cons, if_pos hk]
        subst hk; simp [hp]
    · rw [if_neg hk]
      by_cases hp : pd p.1 p.2 = true
      · have e : dropG (p :: r) pd = dropG r pd := by unfold dropG; simp [hp]
        rw [e, ih]
      · have e : dropG (p :: r) pd = p :: dropG r pd := by unfold dropG; simp [hp]
        rw [e, getA_cons, if_neg hk, ih]
theorem obA_put (m : AO) (k x : KS) (o : ObjD) : obA (putA ltKS m k o) x = if x = k then o else obA m x := by
  unfold obA; rw [getA_put]; by_cases h : x = k <;> simp [h]
theorem obA_del (m : AO) (k x : KS) : obA (delA m k) x = if x = k then zeroO else obA m x := by
  unfold obA; rw [getA_del]; by_cases h : x = k <;> simp [h]
theorem verG_put (G : AM KS Int) (k x : KS) (v : Int) : verG (putA ltKS G k v) x = if x = k then v else verG G x := by
  unfold verG; rw [getA_put]; by_cases h : x = k <;> simp [h]
theorem verG_del (G : AM KS Int) (k x : KS) : verG (delA G k) x = if x = k then 0 else verG G x := by
  unfold verG; rw [getA_del]; by_cases h : x = k <;> simp [h]
theorem zeroO_ver : zeroO.ver = 0 := rfl
def staleP (e : EvD) (fl : Int) (m : AO) (G : AM KS Int) : Bool := decide ((verE e).1 ≤ if e.kind = 0 ∨ e.kind = 1 then knownP fl m G (kOf e.obj) else fl)
theorem staleP_mo {e : EvD} (hs : objSmall e.obj) (fl : Int) (M : AM KS OX) (G : AM KS Int) {k : KS} (hk : k.1 = e.obj.key) : staleP e fl (mo M) G = staleC e fl M G k := by
  unfold staleP staleC
  rw [knownP_mo, show kOf e.obj = k from Subtype.ext (by rw [kOf_key hs, hk])]
theorem verE_ok {e : EvD} (h : rightE e = true) : (verE e).1 = if e.kind = 0 ∨ e.kind = 1 then e.obj.ver else e.ver := by unfold verE; rw [if_pos h]
theorem fl_le {e : EvD} {fl : Int} {m : AO} {G : AM KS Int} (hr : rightE e = true) (hs : staleP e fl m G = false) : fl ≤ nextF e fl := by
  unfold nextF
  by_cases h : e.kind = 0 ∨ e.kind = 1
  · rw [if_pos h]; omega
  · unfold staleP at hs
    rw [verE_ok hr, if_neg h, if_neg h] at hs
    rw [if_neg h]
    have := of_decide_eq_false hs
    omega
theorem fold_rise (fl : Int) (m : AO) (G : AM KS Int) : ∀ (l : List ObjD) (out : AO), RiseA ltKS out → RiseA ltKS (l.foldl (stepR fl m G) out)
  | [], out, h => h
  | o :: r, out, h => by
    refine fold_rise fl m G r _ ?_
    unfold stepR
    by_cases hc : knownP fl m G (kOf o) < o.ver ∨ o.ver = (obA m (kOf o)).ver
    · rw [if_pos hc]; exact rise_put strictKS h _ _
    · rw [if_neg hc]; exact h
theorem fold_all (fl : Int) (m : AO) (G : AM KS Int) (P : KS × ObjD → Prop) : ∀ (l : List ObjD) (out : AO), (∀ q ∈ out, P q) → (∀ o ∈ l, P (kOf o, o)) → ∀ q ∈ l.foldl (stepR fl m G) out, P q
  | [], out, h, _ => h
  | o :: r, out, h, hl => by
    refine fold_all fl m G P r _ ?_ (fun x hx => hl x (List.mem_cons_of_mem _ hx))
    unfold stepR
    by_cases hc : knownP fl m G (kOf o) < o.ver ∨ o.ver = (obA m (kOf o)).ver
    · rw [if_pos hc]
      intro q hq
      rcases mem_put.1 hq with rfl | ⟨q1, _⟩
      · exact hl o List.mem_cons_self
      · exact h q q1
    · rw [if_neg hc]; exact h
/-- What holds of the cache's maps. -/
structure CIn (m : AO) (G : AM KS Int) (fl : Int) : Prop where
  rise : RiseA ltKS m
  riseG : RiseA ltKS G
  objs : ∀ q ∈ m, keyOk q.1.1 = true ∧ q.1.1 = q.2.key ∧ rightO q.2 = true ∧ objSmall q.2
  graves : ∀ q ∈ G, keyOk q.1.1 = true ∧ fl < q.2
theorem CIn.nil : CIn [] [] 0 := ⟨List.Pairwise.nil, List.Pairwise.nil, by rintro q ⟨⟩, by rintro q ⟨⟩⟩
theorem mem_drop {β : Type} {M : AM KS β} {pd : KS → β → Bool} {q : KS × β} : q ∈ dropG M pd ↔ q ∈ M ∧ pd q.1 q.2 = false := by unfold dropG; simp
theorem rel_objs {v : Int} {l : List ObjD} (h : relB v l = true) : (∀ o ∈ l, rightO o = true ∧ o.ver ≤ v) ∧ 0 ≤ v := by
  unfold relB at h
  rw [Bool.and_eq_true, Bool.and_eq_true, okL_iff] at h
  refine ⟨fun o ho => ?_, of_decide_eq_true h.1.2⟩
  have := h.1.1.1 o ho
  unfold relP at this
  rw [Bool.and_eq_true] at this
  exact ⟨this.1, of_decide_eq_true this.2⟩
theorem CIn.next {m : AO} {G : AM KS Int} {fl : Int} (h : CIn m G fl) {e : EvD} (hr : rightE e = true) (hst : staleP e fl m G = false) (hs : objSmall e.obj) (hxs : OSmall e.objs) : CIn (nextM e fl m G) (nextG e fl G) (nextF e fl) := by
  have hfl := fl_le hr hst
  have hko : ∀ {o : ObjD}, rightO o = true → objSmall o → keyOk (kOf o).1 = true ∧ (kOf o).1 = o.key ∧ rightO o = true ∧ objSmall o := fun {o} a b => ⟨by rw [kOf_key b]; exact rightO_key a, kOf_key b, a, b⟩
  refine ⟨?_, ?_, ?_, ?_⟩
  · unfold nextM
    by_cases h0 : e.kind = 0
    · rw [if_pos h0]; exact rise_put strictKS h.rise _ _
    · rw [if_neg h0]
      by_cases h1 : e.kind = 1
      · rw [if_pos h1]; exact rise_del strictKS h.rise _
      · rw [if_neg h1]
        by_cases h2 : e.kind = 2
        · rw [if_pos h2]; exact rise_drop (fold_rise _ _ _ _ _ h.rise) _
        · rw [if_neg h2]; exact h.rise
  · unfold nextG
    refine rise_drop ?_ _
    by_cases h0 : e.kind = 0
    · rw [if_pos h0]; exact rise_del strictKS h.riseG _
    · rw [if_neg h0]
      by_cases h1 : e.kind = 1
      · rw [if_pos h1]; exact rise_put strictKS h.riseG _ _
      · rw [if_neg h1]; exact h.riseG
  · unfold nextM
    by_cases h0 : e.kind = 0
    · rw [if_pos h0]
      have r : rightO e.obj = true := by unfold rightE at hr; rwa [if_pos h0] at hr
      intro q hq
      rcases mem_put.1 hq with rfl | ⟨q1, _⟩
      · exact hko r hs
      · exact h.objs q q1
    · rw [if_neg h0]
      by_cases h1 : e.kind = 1
      · rw [if_pos h1]; exact fun q hq => h.objs q (mem_del.1 hq).1
      · rw [if_neg h1]
        by_cases h2 : e.kind = 2
        · rw [if_pos h2]
          have r : relB e.ver e.objs = true := by unfold rightE at hr; rwa [if_neg h0, if_neg h1, if_pos h2] at hr
          intro q hq
          exact fold_all fl m G (fun q => keyOk q.1.1 = true ∧ q.1.1 = q.2.key ∧ rightO q.2 = true ∧ objSmall q.2) e.objs m h.objs (fun o ho => hko ((rel_objs r).1 o ho).1 (hxs o ho)) q (mem_drop.1 hq).1
        · rw [if_neg h2]; exact h.objs
  · intro q hq
    unfold nextG at hq
    obtain ⟨h1, h2⟩ := mem_drop.1 hq
    have hlt := of_decide_eq_false h2
    refine ⟨?_, by omega⟩
    by_cases k0 : e.kind = 0
    · rw [if_pos k0] at h1; exact (h.graves q (mem_del.1 h1).1).1
    · rw [if_neg k0] at h1
      by_cases k1 : e.kind = 1
      · rw [if_pos k1] at h1
        have r : keyOk e.obj.key = true := by unfold rightE at hr; rw [if_neg k0, if_pos k1, Bool.and_eq_true] at hr; exact hr.1
        rcases mem_put.1 h1 with rfl | ⟨q1, _⟩
        · rw [kOf_key hs]; exact r
        · exact (h.graves q q1).1
      · rw [if_neg k1] at h1; exact (h.graves q h1).1
end Go.Proofs.Ythhfcambdmdgfaa
namespace Go.Proofs.Ythhfcambdmdgfaa
open Go.RowKit Go.Maps
set_option linter.unusedVariables false
set_option linter.unusedSimpArgs false
noncomputable def appErr (e : EvD) (fl : Int) (m : AO) (G : AM KS Int) : Int := if rightE e = false then 1 else if staleP e fl m G = true then 6 else if 1000 < (nextM e fl m G).length then 3 else 0
def ApplyO (w : World) (base cp : Nat) (fl : Int) (M : AM KS OX) (G : AM KS Int) (E : EvD) (e : Ending) (w' : World) : Prop :=
  (appErr E fl (mo M) G ≠ 0 ∧ e = .returned (.tuple #[.slice none 0 0, .int .i64 (appErr E fl (mo M) G)]) ∧ Below w.heap.size w w') ∨
  (appErr E fl (mo M) G = 0 ∧ ∃ ob gb M' G' C c zs ks, e = .returned (.tuple #[.slice C zs.length c, .int .i64 0]) ∧ CacheAt w' base cp ob gb (nextF E fl) M' G' ∧ mo M' = nextM E fl (mo M) G ∧ G' = nextG E fl G ∧ M'.length ≤ 1000 ∧ G'.length ≤ G.length + 1 ∧ DsF w' w.heap.size (.slice C zs.length c) zs ∧ zs.map (·.1) = dsP ks M M' ∧ ks.Nodup ∧ (∀ k, k ∈ ks ↔ (hasA M k || hasA M' k) = true) ∧ ks.Pairwise (fun a b => ltT b a = false) ∧ Kept (fun k => k = cp) w w')
theorem small_mo {M : AM KS OX} {G : AM KS Int} {fl : Int} (h : CIn (mo M) G fl) : ∀ q ∈ M, objSmall q.2.1 := fun q hq => (h.objs (q.1, q.2.1) (List.mem_map.2 ⟨q, hq, rfl⟩)).2.2.2
theorem set3 {w : World} {b : Nat} {t : TypeId} {u0 u1 u2 v0 v1 v2 : Value} (h : w.heap[b]? = some (.cells #[u0, u1, u2] t)) :
    (((w.setCell ⟨b, 0, none⟩ v0).setCell ⟨b, 1, none⟩ v1).setCell ⟨b, 2, none⟩ v2).heap[b]? = some (.cells #[v0, v1, v2] t) :=
  heap_setCell_same _ b 2 _ _ _ (heap_setCell_same _ b 1 _ _ _ (heap_setCell_same _ b 0 _ _ _ h))
set_option maxRecDepth 100000 in
set_option maxHeartbeats 16000000 in
theorem capply_calls (w : World) {base cp ob gb : Nat} {fl : Int} {M : AM KS OX} {G : AM KS Int} (h : CacheAt w base cp ob gb fl M G) (hI : CIn (mo M) G fl) (hbase : base ≤ w.heap.size) (kd : Int) {o : ObjD} {sl : Value} (ev : Int) {ol : Value} {xs : List OX} (ho : ObjS w sl o) (hs : objSmall o) (hx : ObjsS w ol xs) (hxs : OSmall (oxs xs)) (hkd : in64 kd) (hev : in64 ev) (hl : xs.length ≤ 10000) (hM : M.length ≤ 1000) (hG : G.length ≤ 100000) :
    Calls Try.prog 44 #[.pointer (some ⟨cp, 0, none⟩), evV kd o sl ev ol] w (ApplyO w base cp fl M G ⟨kd, o, ev, oxs xs⟩) := by
  have hkk := kOf_key hs
  cases hr : rightE ⟨kd, o, ev, oxs xs⟩ with
  | false =>
    refine (capply_no w h kd ev (kOf o) hkk ho hs hx hxs hkd (by omega) (.inl hr)).mono ?_
    rintro e w' ⟨rfl, hb⟩
    refine .inl ?_
    have e1 : appErr ⟨kd, o, ev, oxs xs⟩ fl (mo M) G = 1 := by unfold appErr; rw [if_pos hr]
    rw [e1, hr]
    exact ⟨by decide, rfl, hb⟩
  | true =>
  cases hst : staleP ⟨kd, o, ev, oxs xs⟩ fl (mo M) G with
  | true =>
    have hst2 := hst
    rw [staleP_mo (e := ⟨kd, o, ev, oxs xs⟩) hs fl M G hkk] at hst2
    refine (capply_no w h kd ev (kOf o) hkk ho hs hx hxs hkd (by omega) (.inr hst2)).mono ?_
    rintro e w' ⟨rfl, hb⟩
    refine .inl ?_
    have e1 : appErr ⟨kd, o, ev, oxs xs⟩ fl (mo M) G = 6 := by unfold appErr; rw [if_neg (by rw [hr]; decide), if_pos hst]
    rw [e1, hr]
    exact ⟨by decide, rfl, hb⟩
  | false =>
  have HER := Lib.hid (show appErr ⟨kd, o, ev, oxs xs⟩ fl (mo M) G = if 1000 < (nextM ⟨kd, o, ev, oxs xs⟩ fl (mo M) G).length then 3 else 0 by unfold appErr; rw [if_neg (by rw [hr]; decide), if_neg (by rw [hst]; decide)])
  have hst2 := hst
  rw [staleP_mo (e := ⟨kd, o, ev, oxs xs⟩) hs fl M G hkk] at hst2
  have HRT := Lib.hid (fun (U : World) (hb : Below w.heap.size w U) => evright_calls U kd ev (ho.below hb) hs (hx.below hb) hxs hkd (by omega))
  have HST := Lib.hid (fun (U : World) (hb : Below w.heap.size w U) => cstale_calls U (h.below hb) kd ev (kOf o) hkk (ho.below hb) hs (hx.below hb) hxs hkd (by omega))
  have HNX := Lib.hid (fun (U : World) (hb : Below w.heap.size w U) => cnext_calls U (h.below hb) (mo_rise.1 hI.rise) hI.riseG (Nat.le_trans hbase hb.size) kd ev (ho.below hb) hs (hx.below hb) hxs hev (by omega) (by omega) (by omega))
  rw [hr] at HRT
  rw [hst2] at HST
  have HC := Lib.hid h
  have HI := Lib.hid hI
  have HIN := Lib.hid (hI.next hr hst hs hxs)
  have HL := Lib.hid (And.intro hl (And.intro hM (And.intro hG hbase)))
  obtain ⟨ao, co, rfl⟩ := ho.1.form
  obtain ⟨al, cl, rfl⟩ := hx.form
  obtain ⟨xl, hxl⟩ : ∃ l, oxs xs = l := ⟨_, rfl⟩
  have HXL := Lib.hid (show xl.length ≤ 10000 by rw [← hxl, oxs_len]; exact hl)
  rw [hxl] at HER HNX HIN ⊢
  unfold evV at HRT HST HNX ⊢
  have hcp : cp < w.heap.size := h.ptr
  have m0 : w.cell? ⟨cp, 0, none⟩ = some (.map (some ob)) := blk_cell h.cell 0
  clear h hI ho hx hxs hl hM hG hbase hr hst hst2 hkk hxl hs hkd hev
  go_enter Try.func44, Try.ntmps44
  go_upto_region 1 with fail
  first | with_reducible refine name_wp ?_ | with_reducible refine name_calls ?_
  intro W hW
  have gE : W.heap[w.heap.size]? = some (.cells #[.int .i64 kd, .string o.key.kind, .string o.key.space, .string o.key.name, .int .i64 o.ver, .string o.cls, .bool o.term, .bool o.best, .slice ao o.charge.length co, .int .i64 ev, .slice al xs.length cl] 30) := by rw [hW]; exact blk_new w _
  have hbW : Below w.heap.size w W := by rw [hW]; exact (Below.refl _ _).alloc (Nat.le_refl _) _
  clear hW
  have HBW := Lib.hid hbW
  have m0 := cb hbW m0
  have c0 : W.cell? ⟨w.heap.size, 0, none⟩ = some (.int .i64 kd) := blk_cell gE 0
  have c1 : W.cell? ⟨w.heap.size, 1, none⟩ = some (.string o.key.kind) := blk_cell gE 1
  have c2 : W.cell? ⟨w.heap.size, 2, none⟩ = some (.string o.key.space) := blk_cell gE 2
  have c3 : W.cell? ⟨w.heap.size, 3, none⟩ = some (.string o.key.name) := blk_cell gE 3
  have c4 : W.cell? ⟨w.heap.size, 4, none⟩ = some (.int .i64 o.ver) := blk_cell gE 4
  have c5 : W.cell? ⟨w.heap.size, 5, none⟩ = some (.string o.cls) := blk_cell gE 5
  have c6 : W.cell? ⟨w.heap.size, 6, none⟩ = some (.bool o.term) := blk_cell gE 6
  have c7 : W.cell? ⟨w.heap.size, 7, none⟩ = some (.bool o.best) := blk_cell gE 7
  have c8 : W.cell? ⟨w.heap.size, 8, none⟩ = some (.slice ao o.charge.length co) := blk_cell gE 8
  have c9 : W.cell? ⟨w.heap.size, 9, none⟩ = some (.int .i64 ev) := blk_cell gE 9
  have c10 : W.cell? ⟨w.heap.size, 10, none⟩ = some (.slice al xs.length cl) := blk_cell gE 10
  clear hbW gE
  go_upto_region 6 with (first
    | (go_at_call 21; refine (HRT.out W HBW.out).mono ?_; rintro e w1 ⟨rfl, hb⟩; have HB1 := Lib.hid (bl_from HBW.out hb); have m0 := cb hb m0; have c0 := cb hb c0; have c1 := cb hb c1; have c2 := cb hb c2; have c3 := cb hb c3; have c4 := cb hb c4; have c5 := cb hb c5; have c6 := cb hb c6; have c7 := cb hb c7; have c8 := cb hb c8; have c9 := cb hb c9; have c10 := cb hb c10; clear hb)
    | (go_at_call 71; refine (HST.out w1 HB1.out).mono ?_; rintro e w2 ⟨rfl, hb⟩; have HB2 := Lib.hid (bl_next HB1.out hb); have m0 := cb hb m0; have c0 := cb hb c0; have c1 := cb hb c1; have c2 := cb hb c2; have c3 := cb hb c3; have c4 := cb hb c4; have c5 := cb hb c5; have c6 := cb hb c6; have c7 := cb hb c7; have c8 := cb hb c8; have c9 := cb hb c9; have c10 := cb hb c10; clear hb)
    | (go_at_call 72; refine (HNX.out w2 HB2.out).mono ?_; rintro e w3 ⟨np, o1, g1, M1, G1, rfl, hge, hca, hri, hrg, hmo, hg1, hlm, hlg, hb⟩; have HB3 := Lib.hid (bl_next HB2.out hb); have m0 := cb hb m0; have HN := Lib.hid (And.intro hge (And.intro hca (And.intro hri (And.intro hrg (And.intro hmo (And.intro hg1 (And.intro hlm hlg))))))); clear hge hca hri hrg hmo hg1 hlm hlg hb))
  clear c0 c1 c2 c3 c4 c5 c6 c7 c8 c9 c10
  have HCN := Lib.hid HN.out.2.1
  have n0 : w3.cell? ⟨np, 0, none⟩ = some (.map (some o1)) := blk_cell HCN.out.cell 0
  have n1 : w3.cell? ⟨np, 1, none⟩ = some (.map (some g1)) := blk_cell HCN.out.cell 1
  have n2 : w3.cell? ⟨np, 2, none⟩ = some (.int .i64 (nextF ⟨kd, o, ev, xl⟩ fl)) := blk_cell HCN.out.cell 2
  have hln := omap_len HCN.out.objs 3
  have HML := Lib.hid (show M1.length = (nextM ⟨kd, o, ev, xl⟩ fl (mo M) G).length by rw [← HN.out.2.2.2.2.1, mo_len])
  obtain ⟨f1, hf1⟩ : ∃ z, nextF ⟨kd, o, ev, xl⟩ fl = z := ⟨_, rfl⟩
  rw [hf1] at HN HCN n2
  have HF1 := Lib.hid hf1
  clear hf1
  by_cases h1000 : M1.length ≤ 1000
  · have i1000 : ¬ (1000 : Int) < M1.length := by omega
    have hE0 : appErr ⟨kd, o, ev, xl⟩ fl (mo M) G = 0 := by rw [HER.out, ← HML.out, if_neg (by omega)]
    have HE0 := Lib.hid hE0
    have H1000 := Lib.hid h1000
    clear hE0
    go_upto_region 8 with fail
    obtain ⟨U, rfl⟩ : ∃ U : World, U = w3 := ⟨_, rfl⟩
    have HCU := Lib.hid (HC.out.below HB3.out)
    have HSN := Lib.hid (show ∀ q ∈ M1, objSmall q.2.1 from fun q hq => (HIN.out.objs (q.1, q.2.1) (by rw [← HN.out.2.2.2.2.1]; exact List.mem_map.2 ⟨q, hq, rfl⟩)).2.2.2)
    have HCH := Lib.hid (fun (V : World) (hb : Below U.heap.size U V) => cchanged_calls V (HCU.out.objs.below hb) (HCN.out.objs.below hb) (by have := HL.out.2.1; omega) (by have := H1000.out; omega) (base := base) (ResM.below (HCU.out.resM) hb) (ResM.below (HCN.out.resM) hb) (small_mo HI.out) HSN.out)
    clear hln
    have hB := Below.refl U.heap.size U
    have hB := hB.drew
    refine region_seq (fun w' => Below U.heap.size U w') [(0, true), (1, true), (2, true), (3, true), (4, true), (5, true), (6, true), (7, true), (8, false), (9, true)] (by kernel_rfl) (by kernel_rfl) (fun _ _ _ _ h => h) hB ?_
    try generalize World.drew _ = wS at hB ⊢
    refine seq_take (v := ?_) (a' := ?_) (some 29) rfl rfl (by rfl) ?_ ?_ ?_
    rotate_left; rotate_left
    · intro w' hS; go_simp; with_reducible rfl
    · simp only [Act.put, List.setIfInBounds_toArray, List.set_cons_zero, List.set_cons_succ]; rfl
    refine seq_take (v := ?_) (a' := ?_) (some 30) rfl rfl (by rfl) ?_ ?_ ?_
    rotate_left; rotate_left
    · intro w' hS; go_simp; with_reducible rfl
    · simp only [Act.put, List.setIfInBounds_toArray, List.set_cons_zero, List.set_cons_succ]; rfl
    refine seq_take (v := ?_) (a' := ?_) (some 31) rfl rfl (by rfl) ?_ ?_ ?_
    rotate_left; rotate_left
    · intro w' hS; go_simp; with_reducible rfl
    · simp only [Act.put, List.setIfInBounds_toArray, List.set_cons_zero, List.set_cons_succ]; rfl
    refine seq_take (v := ?_) (a' := ?_) (some 32) rfl rfl (by rfl) ?_ ?_ ?_
    rotate_left; rotate_left
    · intro w' hS; have q0 := cb hS m0; have q1 := cb hS n0; go_simp; with_reducible rfl
    · simp only [Act.put, List.setIfInBounds_toArray, List.set_cons_zero, List.set_cons_succ]; rfl
    refine seq_take (v := ?_) (a' := ?_) (some 33) rfl rfl (by rfl) ?_ ?_ ?_
    rotate_left; rotate_left
    · intro w' hS; go_simp; with_reducible rfl
    · simp only [Act.put, List.setIfInBounds_toArray, List.set_cons_zero, List.set_cons_succ]; rfl
    refine seq_take (v := ?_) (a' := ?_) (some 34) rfl rfl (by rfl) ?_ ?_ ?_
    rotate_left; rotate_left
    · intro w' hS; go_simp; with_reducible rfl
    · simp only [Act.put, List.setIfInBounds_toArray, List.set_cons_zero, List.set_cons_succ]; rfl
    refine seq_take (v := ?_) (a' := ?_) (some 35) rfl rfl (by rfl) ?_ ?_ ?_
    rotate_left; rotate_left
    · intro w' hS; go_simp; with_reducible rfl
    · simp only [Act.put, List.setIfInBounds_toArray, List.set_cons_zero, List.set_cons_succ]; rfl
    refine seq_take (v := ?_) (a' := ?_) (some 36) rfl rfl (by rfl) ?_ ?_ ?_
    rotate_left; rotate_left
    · intro w' hS; have q0 := cb hS m0; have q1 := cb hS n0; go_simp; with_reducible rfl
    · simp only [Act.put, List.setIfInBounds_toArray, List.set_cons_zero, List.set_cons_succ]; rfl
    refine seq_call (args := ?_) Try.func73 (by kernel_rfl) rfl (some 37) rfl rfl (by rfl) rfl ?_ ?_
    rotate_left
    · simp only [List.map_toArray, List.map_cons, List.map_nil]; go_simp; rfl
    with_reducible refine ((HCH.out _ hB)).mono ?_
    rintro e w' ⟨C, c, zs, ks, rfl, hds, hze, hkn, hkm, hks, hb⟩
    have hgeS := Nat.le_trans HB3.out.size hB.size; have HD := Lib.hid (And.intro (hds.mono hgeS) (And.intro hze (And.intro hkn (And.intro hkm hks)))); clear hds hze hkn hkm hks hgeS
    refine ⟨_, rfl, bl_next (by repeat (first | with_reducible exact hB | refine Below.alloc ?_ (by have := hB.size; simp; omega) _ | refine bl_dN ?_ _ | refine Below.drew ?_ | refine Below.setCell ?_ (by have := hB.size; simp; omega) _)) hb, ?_⟩
    have hB := bl_next (by repeat (first | with_reducible exact hB | refine Below.alloc ?_ (by have := hB.size; simp; omega) _ | refine bl_dN ?_ _ | refine Below.drew ?_ | refine Below.setCell ?_ (by have := hB.size; simp; omega) _)) hb; clear hb
    simp only [Act.put, List.setIfInBounds_toArray, List.set_cons_zero, List.set_cons_succ]
    refine seq_take (v := ?_) (a' := ?_) (some 7) rfl rfl (by rfl) ?_ ?_ ?_
    rotate_left; rotate_left
    · intro w' hS; go_simp; with_reducible rfl
    · simp only [Act.put, List.setIfInBounds_toArray, List.set_cons_zero, List.set_cons_succ]; rfl
    refine seq_done ?_
    refine name_exit ?_
    intro Z hZ
    have HD1 := Lib.hid (show DsF Z w.heap.size (.slice C zs.length c) zs by rw [hZ]; exact HD.out.1)
    have hB : Below U.heap.size U Z := by rw [hZ]; exact hB
    have HBZ := Lib.hid hB
    have z0 := cb hB n0
    have z1 := cb hB n1
    have z2 := cb hB n2
    have zm : Z.heap[cp]? = some (.cells #[.map (some ob), .map (some gb), .int .i64 fl] 98) := blk_below HCU.out.cell hB
    have HZM := Lib.hid zm
    have y0 : Z.cell? ⟨cp, 0, none⟩ = some (.map (some ob)) := blk_cell zm 0
    have y1 : Z.cell? ⟨cp, 1, none⟩ = some (.map (some gb)) := blk_cell zm 1
    have y2 : Z.cell? ⟨cp, 2, none⟩ = some (.int .i64 fl) := blk_cell zm 2
    have f0 := blk_free zm 0
    have f1' := blk_free zm 1
    have f2 := blk_free zm 2
    clear hZ hB m0 n0 n1 n2 zm
    go_upto_region 10 with fail
    first | with_reducible refine name_wp ?_ | with_reducible refine name_calls ?_
    intro X hX
    have HXC := Lib.hid (show X.heap[cp]? = some (.cells #[.map (some o1), .map (some g1), .int .i64 f1] 98) by rw [hX]; exact set3 HZM.out)
    have HK := Lib.hid (show Kept (fun k => k = cp) Z X by rw [hX]; exact (((Kept.refl (fun k => k = cp) Z).setCell' cp 0 _ rfl).setCell' cp 1 _ rfl).setCell' cp 2 _ rfl)
    clear hX z0 z1 z2 y0 y1 y2 f0 f1' f2
    go_wp2_with fail
    refine name_body ?_
    intro Y hY
    subst hY
    refine bodyPost_ret (v := .tuple #[.slice C zs.length c, .int .i64 0]) (by simp [results, Try.results44, go_sem]) rfl ?_
    refine .inr ⟨HE0.out, o1, g1, M1, G1, C, c, zs, ks, rfl, ?_, HN.out.2.2.2.2.1, HN.out.2.2.2.2.2.1, H1000.out, HN.out.2.2.2.2.2.2.2, ?_, HD.out.2.1, HD.out.2.2.1, HD.out.2.2.2.1, HD.out.2.2.2.2, ?_⟩
    · rw [HF1.out]
      have hCZ := HCN.out.below HBZ.out
      have hZC := HZM.out
      refine ⟨HXC.out, hCZ.objs.kept HK.out (fun e => mv_other hCZ.objs hZC e.symm), mv_kept hCZ.graves HK.out (fun e => mv_other hCZ.graves hZC e.symm), ResM.kept hCZ.resM HK.out (fun k e c hc => by subst e; rw [hZC] at hc; cases hc), hCZ.ints, ⟨HC.out.ge.1, hCZ.ge.2.1, hCZ.ge.2.2⟩, hCZ.ne⟩
    · have hk := HK.out
      have hd := HD1.out
      exact ⟨rw_kept hd.row hk (fun b e q => by have := (rw_type hd.row e).1; omega), fun p hp => ⟨(hd.res p hp).1.kept hk (fun k e c hc => by subst e; rw [HZM.out] at hc; cases hc), (hd.res p hp).2.kept hk (fun k e c hc => by subst e; rw [HZM.out] at hc; cases hc)⟩⟩
    · exact (kept_of_below (X := fun k => k = cp) (bl_next HB3.out HBZ.out)).trans HK.out (fun _ q => .inl q)
  · have i1000 : (1000 : Int) < M1.length := by omega
    have hE0 : appErr ⟨kd, o, ev, xl⟩ fl (mo M) G = 3 := by rw [HER.out, ← HML.out, if_pos (by omega)]
    have HE0 := Lib.hid hE0
    clear hE0
    go_wp2_with fail
    refine bodyPost_ret (v := .tuple #[.slice none 0 0, .int .i64 3]) (by simp [results, Try.results44, go_sem]) rfl ?_
    refine .inl ?_
    rw [HE0.out]
    exact ⟨by decide, rfl, HB3.out⟩
end Go.Proofs.Ythhfcambdmdgfaa
namespace Go.Proofs.Ythhfcambdmdgfaa
open Go.RowKit Go.Maps
set_option linter.unusedVariables false
set_option linter.unusedSimpArgs false
theorem app_right {e : EvD} {fl : Int} {m : AO} {G : AM KS Int} (h : appErr e fl m G = 0) : rightE e = true ∧ staleP e fl m G = false ∧ (nextM e fl m G).length ≤ 1000 := by
  unfold appErr at h
  cases hr : rightE e with
  | false => rw [if_pos hr] at h; cases h
  | true =>
    rw [if_neg (by rw [hr]; decide)] at h
    cases hs : staleP e fl m G with
    | true => rw [if_pos hs] at h; cases h
    | false =>
      rw [if_neg (by rw [hs]; decide)] at h
      by_cases hl : 1000 < (nextM e fl m G).length
      · rw [if_pos hl] at h; cases h
      · exact ⟨rfl, rfl, by omega⟩
def kx8 : KS := ⟨⟨⟨#[112, 111, 100]⟩, ⟨#[97]⟩, ⟨#[120]⟩⟩, by decide, by decide, by decide⟩
def d8 : ObjD := ⟨kx8.1, 6, ⟨#[]⟩, false, false, []⟩
end Go.Proofs.Ythhfcambdmdgfaa
namespace Go.Proofs.Ythhfcambdmdgfaa
open Go.RowKit Go.Maps
set_option linter.unusedVariables false
set_option linter.unusedSimpArgs false
theorem CacheAt.toB {w w' : World} {base cp ob gb : Nat} {fl : Int} {M : AM KS OX} {G : AM KS Int} {B : Nat} (h : CacheAt w base cp ob gb fl M G) (hk : Kept (fun k => k = cp) w w') (hb : B ≤ w.heap.size) (hB : B ≤ base) : Below B w w' := hk.below hb (fun k e => by subst e; exact Nat.le_trans hB h.ge.1)
end Go.Proofs.Ythhfcambdmdgfaa
namespace Go.Proofs.Ythhfcambdmdgfaa
open Go.RowKit Go.Maps
set_option linter.unusedVariables false
set_option linter.unusedSimpArgs false
structure EX where
  kd : Int
  ob : ObjD
  sl : Value
  vr : Int
  ol : Value
  xs : List OX
instance : Inhabited EX := ⟨⟨0, zeroO, .nilFunc, 0, .nilFunc, []⟩⟩
def EX.ev (p : EX) : EvD := ⟨p.kd, p.ob, p.vr, oxs p.xs⟩
structure EvS (w : World) (p : EX) : Prop where
  obj : ObjS w p.sl p.ob
  objs : ObjsS w p.ol p.xs
  kin : in64 p.kd
  vin : in64 p.vr
theorem EvS.below {w w' : World} {p : EX} (h : EvS w p) (hb : Below w.heap.size w w') : EvS w' p := ⟨h.obj.below hb, h.objs.below hb, h.kin, h.vin⟩
end Go.Proofs.Ythhfcambdmdgfaa
namespace Go.Proofs.Ythhfcambdmdgfaa
open Go.RowKit Go.Maps Srt
set_option linter.unusedVariables false
set_option linter.unusedSimpArgs false
/-- A cache whose maps are as they must be. -/
structure CacheI (w : World) (base cp : Nat) (k : Nat) (ob gb : Nat) (fl : Int) (M : AM KS OX) (G : AM KS Int) : Prop where
  at_ : CacheAt w base cp ob gb fl M G
  inv : CIn (mo M) G fl
  len : M.length ≤ 1000
  lenG : G.length ≤ k
theorem CacheI.below {w w' : World} {base cp k ob gb : Nat} {fl : Int} {M : AM KS OX} {G : AM KS Int} (h : CacheI w base cp k ob gb fl M G) (hb : Below w.heap.size w w') : CacheI w' base cp k ob gb fl M G := ⟨h.at_.below hb, h.inv, h.len, h.lenG⟩
theorem CacheI.up {w : World} {base cp k k' ob gb : Nat} {fl : Int} {M : AM KS OX} {G : AM KS Int} (h : CacheI w base cp k ob gb fl M G) (hk : k ≤ k') : CacheI w base cp k' ob gb fl M G := ⟨h.at_, h.inv, h.len, Nat.le_trans h.lenG hk⟩
theorem CacheI.sm {w : World} {base cp k ob gb : Nat} {fl : Int} {M : AM KS OX} {G : AM KS Int} (h : CacheI w base cp k ob gb fl M G) : ∀ q ∈ M, objSmall q.2.1 := small_mo h.inv
/-- The objects of a cache, in their order. -/
noncomputable def sortM (m : AO) : List ObjD := srtX kTO (m.map (·.2))
theorem sortM_small {m : AO} {G : AM KS Int} {fl : Int} (h : CIn m G fl) : OSmall (sortM m) := fun o ho => by
  obtain ⟨q, hq, rfl⟩ := List.mem_map.1 (srtX_mem.1 ho)
  exact (h.objs q hq).2.2.2
theorem sortM_len (m : AO) : (sortM m).length = m.length := by unfold sortM; rw [srtX_len, List.length_map]
theorem cobjI_calls (w : World) {base cp k ob gb : Nat} {fl : Int} {M : AM KS OX} {G : AM KS Int} (h : CacheI w base cp k ob gb fl M G) {n : Nat} (hn : M.length = n) :
    Calls Try.prog 47 #[.pointer (some ⟨cp, 0, none⟩)] w fun e w' => ∃ A c, e = .returned (.slice A n c) ∧ Hid (∃ zs, ObjsS w' (.slice A n c) zs ∧ ObjsF w' w.heap.size (.slice A n c) zs ∧ oxs zs = sortM (mo M) ∧ zs.length = n) ∧ Below w.heap.size w w' :=
  (cobjects_calls w h.at_ h.sm (by have := h.len; omega)).mono fun e w' ⟨A, c, zs, ks, h1, h2, h3, h4, h5, h6⟩ => by
    have e1 : oxs zs = sortM (mo M) := by
      rw [h3]
      have e : objOf M = obA (mo M) := by funext x; rw [obA_mo]
      rw [e]
      exact objs_srt h.inv.rise (fun q hq => ⟨(h.inv.objs q hq).1, (h.inv.objs q hq).2.1⟩) ⟨h4.1, fun x => by rw [h4.2 x, hasA_mo]⟩ h5
    have e2 : zs.length = n := by rw [← oxs_len, e1, sortM_len, mo_len, hn]
    subst e2
    refine ⟨A, c, h1, Lib.hid ⟨zs, ?_, h2, e1, rfl⟩, h6⟩
    refine h2.objsS (fun p hp => ?_)
    have hm : p.1 ∈ oxs zs := List.mem_map.2 ⟨p, hp, rfl⟩
    rw [e1] at hm
    obtain ⟨q, hq, hqe⟩ := List.mem_map.1 (srtX_mem.1 hm)
    obtain ⟨r, hr, rfl⟩ := List.mem_map.1 hq
    rw [← hqe]
    exact (h.at_.resM r hr).2.1
/-- What an event leaves, in one form. -/
def AppI (w : World) (base cp k : Nat) (fl : Int) (m : AO) (G : AM KS Int) (E : EvD) (er : Int) (w' : World) : Prop :=
  (er ≠ 0 ∧ Below w.heap.size w w') ∨ (er = 0 ∧ ∃ ob gb M' G', CacheI w' base cp (k + 1) ob gb (nextF E fl) M' G' ∧ mo M' = nextM E fl m G ∧ G' = nextG E fl G ∧ Kept (fun k => k = cp) w w')
theorem cappI_calls (w : World) {base cp k ob gb : Nat} {fl : Int} {M : AM KS OX} {G : AM KS Int} (h : CacheI w base cp k ob gb fl M G) (hbase : base ≤ w.heap.size) (hk : k ≤ 1000) {p : EX} (hp : EvS w p) (hs : objSmall p.ob ∧ OSmall (oxs p.xs) ∧ p.xs.length ≤ 60) {er : Int} (he : appErr p.ev fl (mo M) G = er) :
    Calls Try.prog 44 #[.pointer (some ⟨cp, 0, none⟩), evV p.kd p.ob p.sl p.vr p.ol] w fun e w' => ∃ A n c, e = .returned (.tuple #[.slice A n c, .int .i64 er]) ∧ AppI w base cp k fl (mo M) G p.ev er w' := by
  subst he
  refine (capply_calls w h.at_ h.inv hbase p.kd p.vr hp.obj hs.1 hp.objs hs.2.1 hp.kin hp.vin (by have := hs.2.2; omega) h.len (by have := h.lenG; omega)).mono ?_
  rintro e w' (⟨h1, h2, h3⟩ | ⟨h1, ob', gb', M', G', C, c, zs, ks, h2, h3, h4, h5, h6, h7, h8, h9, h10, h11, h12, h13⟩)
  · exact ⟨_, _, _, h2, .inl ⟨h1, h3⟩⟩
  · refine ⟨C, zs.length, c, ?_, .inr ⟨h1, ob', gb', M', G', ⟨h3, ?_, h6, by have := h.lenG; omega⟩, h4, h5, h13⟩⟩
    · rw [h2, show appErr p.ev fl (mo M) G = 0 from h1]
    · rw [h4, h5]
      exact h.inv.next (app_right h1).1 (app_right h1).2.1 hs.1 hs.2.1
theorem objsE_below {w w' : World} {v : Value} {l : List ObjD} {n : Nat} (h : ∃ zs, ObjsS w v zs ∧ oxs zs = l ∧ zs.length = n) (hb : Below w.heap.size w w') : ∃ zs, ObjsS w' v zs ∧ oxs zs = l ∧ zs.length = n := by
  obtain ⟨zs, h1, h2⟩ := h
  exact ⟨zs, h1.below hb, h2⟩
theorem robjI_calls (w : World) {A B : Option Addr} {n c m d : Nat} {l l' : List ObjD} (h1 : ∃ zs, ObjsS w (.slice A n c) zs ∧ oxs zs = l ∧ zs.length = n) (h2 : ∃ zs, ObjsS w (.slice B m d) zs ∧ oxs zs = l' ∧ zs.length = m) (hl : OSmall l ∧ OSmall l' ∧ n ≤ 1000 ∧ m ≤ 1000) :
    Calls Try.prog 18 #[.slice A n c, .slice B m d] w fun e w' => e = .returned (.bool (decide (l = l'))) ∧ Below w.heap.size w w' := by
  obtain ⟨xs, a1, rfl, a3⟩ := h1
  obtain ⟨ys, b1, rfl, b3⟩ := h2
  exact robjs_calls w a1 b1 (by have := hl.2.2.1; omega) (by have := hl.2.2.2; omega) hl.1 hl.2.1
theorem CacheAt.keptX {X : Nat → Prop} {w w' : World} {base cp ob gb : Nat} {fl : Int} {M : AM KS OX} {G : AM KS Int} (h : CacheAt w base cp ob gb fl M G) (hk : Kept X w w') (h1 : ¬ X cp) (h2 : ¬ X ob) (h3 : ¬ X gb) (h4 : ∀ k, X k → ∀ c, w.heap[k]? = some (.cells c 112) → False) : CacheAt w' base cp ob gb fl M G :=
  ⟨hk.heap h.cell h1, h.objs.kept hk h2, mv_kept h.graves hk h3, ResM.kept h.resM hk h4, h.ints, h.ge, h.ne⟩
theorem CacheI.row {w w' : World} {base cp k ob gb : Nat} {fl : Int} {M : AM KS OX} {G : AM KS Int} {b n : Nat} {v : Value} {cs : List Value} (h : CacheI w base cp k ob gb fl M G) (hr : w.ownsRow b 30 11 v n cs) (hk : Kept (fun k => v.ownBlock = some k) w w') : CacheI w' base cp k ob gb fl M G :=
  ⟨h.at_.keptX hk (rw_other hr h.at_.cell (by decide)) (fun e => by
    obtain ⟨_, cs, hc⟩ := rw_type hr e
    exact mv_other h.at_.objs hc rfl) (fun e => by
    obtain ⟨_, cs, hc⟩ := rw_type hr e
    exact mv_other h.at_.graves hc rfl) (fun k e c hc => rw_other hr hc (by decide) e), h.inv, h.len, h.lenG⟩
end Go.Proofs.Ythhfcambdmdgfaa

import Derived.Test.YthhfcambdmdgfaaKcbak
namespace Go.Proofs.Ythhfcambdmdgfaa
open Go.RowKit Go.Maps Srt
set_option linter.unusedVariables false
set_option linter.unusedSimpArgs false
theorem knownK_mo {fl : Int} {M : AM KS OX} {G : AM KS Int} {fl' : Int} {M' : AM KS OX} {G' : AM KS Int} (h : ∀ x, knownP fl (mo M) G x ≤ knownP fl' (mo M') G' x) (hf : fl ≤ fl') (kk : KeyD) : knownK fl M G kk ≤ knownK fl' M' G' kk := by
  unfold knownK
  by_cases hs : keySmall kk
  · rw [dif_pos hs, dif_pos hs, ← knownP_mo, ← knownP_mo]; exact h _
  · rw [dif_neg hs, dif_neg hs]; omega
theorem known_fl (fl : Int) (M : AM KS OX) (G : AM KS Int) (kk : KeyD) : fl ≤ knownK fl M G kk ∧ (objK M kk).ver ≤ knownK fl M G kk := by
  unfold knownK objK
  by_cases hs : keySmall kk
  · rw [dif_pos hs, dif_pos hs]; unfold knownC; omega
  · rw [dif_neg hs, dif_neg hs, zeroO_ver]; omega
def DoneS (w : World) (base : Nat) (v : Value) (n k : Nat) (dn xs : List EX) (fl : Int) (m : AO) (G : AM KS Int) : Prop :=
  w.ownsRow base 30 11 v n (exC dn) ∧ dn.length = n ∧ n ≤ k ∧ ∀ p ∈ dn, p ∈ xs ∧ rightE p.ev = true ∧ staleP p.ev fl m G = true
/-- One act's doing. -/
structure StepI (w w' : World) (base cp k : Nat) (fl : Int) (M : AM KS OX) (G : AM KS Int) (p : EX) (er : Int) (dn : List EX) (kk : KeyD) (fl1 : Int) (ob1 gb1 : Nat) (M1 : AM KS OX) (G1 : AM KS Int) : Prop where
  st : CacheI w' base cp (k + 1) ob1 gb1 fl1 M1 G1
  kn : knownK fl M G kk ≤ knownK fl1 M1 G1 kk
  fl_ : fl ≤ fl1
  no : er ≠ 0 → mo M1 = mo M ∧ knownK fl1 M1 G1 kk = knownK fl M G kk
  dn_ : ∀ q ∈ dn, staleP q.ev fl (mo M) G = true → staleP q.ev fl1 (mo M1) G1 = true
  yes : er = 0 → rightE p.ev = true ∧ staleP p.ev fl1 (mo M1) G1 = true
  kept : Kept (fun k => k = cp) w w'
theorem step_of {w w' : World} {base cp k ob gb : Nat} {fl : Int} {M : AM KS OX} {G : AM KS Int} {p : EX} {er : Int} (dn : List EX) (kk : KeyD) (h : CacheI w base cp k ob gb fl M G) (he : appErr p.ev fl (mo M) G = er) (ha : AppI w base cp k fl (mo M) G p.ev er w') : ∃ fl1 ob1 gb1 M1 G1, StepI w w' base cp k fl M G p er dn kk fl1 ob1 gb1 M1 G1 := by
  rcases ha with ⟨h1, h2⟩ | ⟨h1, ob1, gb1, M1, G1, h2, h3, h4, h5⟩
  · exact ⟨fl, ob, gb, M, G, ⟨(h.below h2).up (by omega), Int.le_refl _, Int.le_refl _, fun _ => ⟨rfl, rfl⟩, fun _ _ q => q, fun e => absurd e h1, kept_of_below h2⟩⟩
  · rw [h1] at he
    obtain ⟨hr, hs, _⟩ := app_right he
    subst h4
    refine ⟨_, ob1, gb1, M1, _, ⟨h2, knownK_mo (fun x => ?_) (fl_le hr hs) kk, fl_le hr hs, fun e => absurd h1 e, fun q _ hq => ?_, fun _ => ⟨hr, ?_⟩, h5⟩⟩
    · rw [h3]; exact known_le h.inv hr hs x
    · rw [h3]; exact stale_stays h.inv hr hs hq
    · rw [h3]; exact known_applied h.inv hr hs
theorem DoneS.step {w w' : World} {base : Nat} {A : Option Addr} {n c k : Nat} {dn xs : List EX} {fl fl1 : Int} {m m1 : AO} {G G1 : AM KS Int} {cp : Nat} {cs : Array Value} (h : DoneS w base (.slice A n c) n k dn xs fl m G) (hk : Kept (fun k => k = cp) w w') (hc : w.heap[cp]? = some (.cells cs 98)) (hd : ∀ q ∈ dn, staleP q.ev fl m G = true → staleP q.ev fl1 m1 G1 = true) : DoneS w' base (.slice A n c) n (k + 1) dn xs fl1 m1 G1 :=
  ⟨rw_kept h.1 hk (fun b e q => by subst q; exact rw_other h.1 hc (by decide) e), h.2.1, by have := h.2.2.1; omega, fun p hp => ⟨(h.2.2.2 p hp).1, (h.2.2.2 p hp).2.1, hd p hp (h.2.2.2 p hp).2.2⟩⟩
theorem DoneS.below {w w' : World} {base : Nat} {v : Value} {n k : Nat} {dn xs : List EX} {fl : Int} {m : AO} {G : AM KS Int} (h : DoneS w base v n k dn xs fl m G) (hb : Below w.heap.size w w') : DoneS w' base v n k dn xs fl m G := ⟨rw_below h.1 hb, h.2⟩
set_option maxRecDepth 100000 in
set_option maxHeartbeats 16000000 in
theorem cacheBack_law (w : World) {v : Value} {xs : List EX} (hx : ExS w v xs) (kk : KeyD) (hkw : keyWide kk) :
    Calls Try.prog 8 #[v, .agg #[.string kk.kind, .string kk.space, .string kk.name]] w fun e w' => e = .returned (.bool true) ∧ Below w.heap.size w w' := by
  have HX := Lib.hid hx
  obtain ⟨al, cl, rfl⟩ := hx.form
  have HKW := Lib.hid hkw
  have HFA := Lib.hid (fun (U : World) (hb : Below w.heap.size w U) => fits8_calls U (hx.below hb))
  clear hx hkw
  go_enter Try.func8, Try.ntmps8
  go_upto_region 1 with fail
  first | with_reducible refine name_wp ?_ | with_reducible refine name_calls ?_
  intro W0 hW
  have gK : W0.heap[w.heap.size]? = some (.cells #[.string kk.kind, .string kk.space, .string kk.name] 24) := by rw [hW]; exact blk_new w _
  have hbW : Below w.heap.size w W0 := by rw [hW]; exact (Below.refl _ _).alloc (Nat.le_refl _) _
  clear hW
  have HBW := Lib.hid hbW
  have HGK := Lib.hid gK
  clear gK hbW
  go_upto_region 2 with (go_at_call 41; ((with_reducible refine (HFA.out _ HBW.out).mono ?_); rintro e W ⟨f1, rfl, hf1, hb⟩; have HF1 := Lib.hid hf1; have HBw := Lib.hid (bl_from HBW.out hb); have HKB := Lib.hid (blk_below HGK.out hb); clear hf1 hb))
  cases f1 with
  | false =>
    go_wp2_with (go_at_call 42; refine (alive8_calls _).mono ?_; rintro e w' ⟨rfl, hb⟩; have HB2 := Lib.hid (bl_from HBw.out hb); clear hb)
    go_ret
    exact ⟨rfl, HB2.out⟩
  | true =>
  obtain ⟨hsm, hl60⟩ := HF1.out rfl
  have HSM := Lib.hid hsm
  clear HF1 HFA hsm HGK HBW
  have HXW := Lib.hid (HX.out.below HBw.out)
  clear HX
  go_wp2_with (go_at_call 43; refine (cnew_calls _).mono ?_; rintro e w1 ⟨cp, ob, gb, rfl, hst, hb⟩; have H1 := Lib.hid (show CacheI w1 W.heap.size cp 0 ob gb 0 [] [] from ⟨hst, CIn.nil, by simp, by simp⟩); have HB1 := Lib.hid hb; clear hst hb)
  have HD1 := Lib.hid (show DoneS w1 W.heap.size (.slice none 0 0) 0 0 [] xs 0 [] [] from ⟨⟨rfl, .inl ⟨rfl, rfl⟩⟩, rfl, Nat.le_refl _, by rintro p ⟨⟩⟩)
  go_loopw [7, 8] (fun s7 s8 wr => ∃ (k n c : Nat) (A : Option Addr) (fl : Int) (ob gb : Nat) (M : AM KS OX) (G : AM KS Int) (dn : List EX), s8 = .int .i64 (k : Int) ∧ s7 = .slice A n c ∧ k ≤ xs.length ∧ Hid (CacheI wr W.heap.size cp k ob gb fl M G) ∧ Hid (DoneS wr W.heap.size (.slice A n c) n k dn xs fl (mo M) G) ∧ Hid (Below W.heap.size W wr)) (fun _ s8 _ => xs.length - (intOf s8).toNat)
  case atStart => exact ⟨0, 0, 0, none, 0, ob, gb, [], [], [], rfl, rfl, Nat.zero_le _, H1, HD1, HB1⟩
  case round =>
    clear H1 HD1 HB1
    obtain ⟨k, n, c, A, fl, ob, gb, M, G, dn, rfl, rfl, hk, HC, HD, HBr⟩ := hrel
    by_cases hkl : k < xs.length
    · have hkI : (k : Int) < xs.length := by omega
      obtain ⟨b, of, c9, he, q, s⟩ := HXW.out.at' hkl
      cases he
      have hsmo := HSM.out _ (List.getElem_mem hkl)
      have HIN := Lib.hid (List.getElem_mem hkl)
      generalize xs[k]'hkl = x at q s hsmo HIN
      have HXE := Lib.hid (show x = ⟨x.kd, x.ob, x.sl, x.vr, x.ol, x.xs⟩ from rfl)
      have HSO := Lib.hid hsmo
      have HES := Lib.hid s
      obtain ⟨ao, co, hao⟩ := s.obj.1.form
      obtain ⟨az, cz, haz⟩ := s.objs.form
      obtain ⟨kd, o, so, vr, ol, zs⟩ := x
      simp only at hao haz q
      subst hao; subst haz
      have QX := Lib.hid q
      clear q s hsmo HXE
      obtain ⟨V, rfl⟩ : ∃ U : World, U = wr := ⟨_, rfl⟩
      have hgk := blk_below HKB.out HBr.out
      have k0 : V.cell? ⟨w.heap.size, 0, none⟩ = some (.string kk.kind) := blk_cell hgk 0
      have k1 : V.cell? ⟨w.heap.size, 1, none⟩ = some (.string kk.space) := blk_cell hgk 1
      have k2 : V.cell? ⟨w.heap.size, 2, none⟩ = some (.string kk.name) := blk_cell hgk 2
      clear hgk
      obtain ⟨kn0, hkn0⟩ : ∃ z, knownK fl M G kk = z := ⟨_, rfl⟩
      have HKN := Lib.hid (fun (U : World) (hb : Below V.heap.size V U) => cknownK_calls U (HC.out.at_.below hb) HKW.out)
      rw [hkn0] at HKN
      have HKE := Lib.hid hkn0
      clear hkn0
      obtain ⟨nM, hnM⟩ : ∃ z, M.length = z := ⟨_, rfl⟩
      have HNM := Lib.hid hnM
      clear hnM
      go_upto_region 12 with (first
        | (go_at_call 53; refine (HKN.out V (Below.refl _ _)).mono ?_; rintro e w1 ⟨rfl, hb⟩; have HB1 := Lib.hid hb; clear hb)
        | (go_at_call 52; refine (cfloor_calls _ (HC.out.at_.below HB1.out)).mono ?_; rintro e w2 ⟨rfl, hb⟩; have HB2 := Lib.hid (bl_next HB1.out hb); clear hb)
        | (go_at_call 47; refine (cobjI_calls _ (HC.out.below HB2.out) HNM.out).mono ?_; rintro e w3 ⟨A3, c3, rfl, hz3, hb⟩; have HZ3 := Lib.hid hz3.out; have HB23 := Lib.hid hb; have HB3 := Lib.hid (bl_next HB2.out hb); clear hb hz3))
      clear k0 k1 k2
      have HC3 := Lib.hid (HC.out.below HB3.out)
      have HN0 := Lib.hid (show n ≤ k from HD.out.2.2.1)
      have HIM := Lib.hid (And.intro (sortM_small HC.out.inv) (show nM ≤ 1000 by rw [← HNM.out]; exact HC.out.len))
      have HD3 := Lib.hid (HD.out.below HB3.out)
      have HBW3 := Lib.hid (bl_next HBr.out HB3.out)
      obtain ⟨er, her⟩ : ∃ z, appErr (EX.ev ⟨kd, o, .slice ao o.charge.length co, vr, .slice az zs.length cz, zs⟩) fl (mo M) G = z := ⟨_, rfl⟩
      have HER := Lib.hid her
      have HAP := Lib.hid (cappI_calls w3 HC3.out HBW3.out.size (by omega) (HES.out.below HBW3.out) HSO.out her)
      unfold evV at HAP
      clear her HC HD HB1 HB2 HKN
      have d0 := (QX.out.below HBW3.out).c0
      have d1 := (QX.out.below HBW3.out).c1
      have d2 := (QX.out.below HBW3.out).c2
      have d3 := (QX.out.below HBW3.out).c3
      have d4 := (QX.out.below HBW3.out).c4
      have d5 := (QX.out.below HBW3.out).c5
      have d6 := (QX.out.below HBW3.out).c6
      have d7 := (QX.out.below HBW3.out).c7
      have d8 := (QX.out.below HBW3.out).c8
      have d9 := (QX.out.below HBW3.out).c9
      have d10 := (QX.out.below HBW3.out).c10
      go_upto_region 13 with (go_at_call 44; refine HAP.out.mono ?_; rintro e w4 ⟨A4, n4, c4, rfl, ha⟩; have HA := Lib.hid ha; clear ha)
      clear d0 d1 d2 d3 d4 d5 d6 d7 d8 d9 d10
      obtain ⟨fl1, ob1, gb1, M1, G1, hst⟩ := step_of dn kk HC3.out HER.out HA.out
      have HST := Lib.hid hst
      have HC4 := Lib.hid hst.st
      have HD4 := Lib.hid (HD3.out.step hst.kept HC3.out.at_.cell hst.dn_)
      have HBW4 := Lib.hid (HBW3.out.trans (HC3.out.at_.toB hst.kept HBW3.out.size (Nat.le_refl _)))
      have HO3 : Hid (∃ zs, ObjsS w4 (.slice A3 nM c3) zs ∧ oxs zs = sortM (mo M) ∧ zs.length = nM) := Lib.hid (by
        obtain ⟨ys, y1, y2, y3, y4⟩ := HZ3.out
        have hcell := HC3.out.at_.cell
        have f := ObjsF.kept y2 hst.kept (fun k q e => by subst e; exact rw_other y2.1 hcell (by decide) q) (fun k e cs hc => by subst e; rw [hcell] at hc; injection hc with hc; injection hc with _ ht; exact absurd ht (by decide))
        exact ⟨ys, f.objsS (fun p hp => by
          have hm : p.1 ∈ oxs ys := List.mem_map.2 ⟨p, hp, rfl⟩
          exact (y1.2 p hp).oIn), y3, y4⟩)
      have hk01 := hst.kn
      have hf01 := hst.fl_
      have hno : er ≠ 0 → knownK fl1 M1 G1 kk = knownK fl M G kk := fun e => (hst.no e).2
      have hkf := known_fl fl1 M1 G1 kk
      rw [HKE.out] at hk01 hno
      obtain ⟨kn1, hkn1⟩ : ∃ z, knownK fl1 M1 G1 kk = z := ⟨_, rfl⟩
      have HKN := Lib.hid (fun (U : World) (hb : Below w4.heap.size w4 U) => cknownK_calls U (HC4.out.at_.below hb) HKW.out)
      have HGT := Lib.hid (fun (U : World) (hb : Below w4.heap.size w4 U) => cgetK_calls U (HC4.out.at_.below hb) HC4.out.sm HKW.out)
      obtain ⟨og, hog⟩ : ∃ z, objK M1 kk = z := ⟨_, rfl⟩
      obtain ⟨ig, hig⟩ : ∃ z, hasK M1 kk = z := ⟨_, rfl⟩
      rw [hkn1] at HKN hk01 hno hkf
      rw [hog] at HGT hkf
      rw [hig] at HGT
      clear hst hkn1 hog hig HKE HA HAP HD3 HC3 HB3 HB23 HZ3
      obtain ⟨nN, hnN⟩ : ∃ z, M1.length = z := ⟨_, rfl⟩
      have HNN := Lib.hid hnN
      clear hnN
      have HSRT := Lib.hid (show er ≠ 0 → sortM (mo M) = sortM (mo M1) from fun e => by rw [(HST.out.no e).1])
      have HL0 := Lib.hid (show OSmall (sortM (mo M)) ∧ OSmall (sortM (mo M1)) ∧ nM ≤ 1000 ∧ nN ≤ 1000 from ⟨HIM.out.1, sortM_small HC4.out.inv, HIM.out.2, by rw [← HNN.out]; exact HC4.out.len⟩)
      have HYS := Lib.hid HST.out.yes
      clear HIM HNM HST
      obtain ⟨lM, hlM⟩ : ∃ z, sortM (mo M) = z := ⟨_, rfl⟩
      obtain ⟨lN, hlN⟩ : ∃ z, sortM (mo M1) = z := ⟨_, rfl⟩
      have HLN := Lib.hid hlN
      rw [hlM] at HO3 HSRT HL0; rw [hlN] at HSRT HL0
      clear hlM hlN
      obtain ⟨sm, hsm⟩ : ∃ z, decide (lM = lN) = z := ⟨_, rfl⟩
      have HSE := Lib.hid (show er ≠ 0 → sm = true from fun e => by rw [← hsm, decide_eq_true_eq]; exact HSRT.out e)
      have HR5 := Lib.hid (fun (U : World) (A : Option Addr) (c : Nat) h1 h2 => robjI_calls (l := lM) (l' := lN) (A := A3) (n := nM) (c := c3) (B := A) (m := nN) (d := c) U h1 h2 HL0.out)
      rw [hsm] at HR5
      clear hsm HSRT HL0
      have hgk := blk_below HKB.out HBW4.out
      have k0 : w4.cell? ⟨w.heap.size, 0, none⟩ = some (.string kk.kind) := blk_cell hgk 0
      have k1 : w4.cell? ⟨w.heap.size, 1, none⟩ = some (.string kk.space) := blk_cell hgk 1
      have k2 : w4.cell? ⟨w.heap.size, 2, none⟩ = some (.string kk.name) := blk_cell hgk 2
      clear hgk
      go_upto_region 15 with (first
        | (go_at_call 47; refine (cobjI_calls _ HC4.out HNN.out).mono ?_; rintro e w5 ⟨A5, c5, rfl, hz5, hb⟩; have HZ5 := Lib.hid (show ∃ zs, ObjsS w5 (.slice A5 nN c5) zs ∧ oxs zs = lN ∧ zs.length = nN from by obtain ⟨ys, y1, _, y3, y4⟩ := hz5.out; exact ⟨ys, y1, by rw [y3]; exact HLN.out, y4⟩); have HO5 := Lib.hid (objsE_below HO3.out hb); have HB5 := Lib.hid hb; have k0 := cb hb k0; have k1 := cb hb k1; have k2 := cb hb k2; clear hb hz5)
        | (go_at_call 18; refine (HR5.out w5 A5 c5 HO5.out HZ5.out).mono ?_; rintro e w6 ⟨rfl, hb⟩; have HB6 := Lib.hid (bl_next HB5.out hb); have k0 := cb hb k0; have k1 := cb hb k1; have k2 := cb hb k2; clear hb)
        | (go_at_call 50; refine (HGT.out w6 HB6.out).mono ?_; rintro e w7 ⟨x7, rfl, hrf7, hb⟩; obtain ⟨g7, rfl⟩ := hrf7.form; have HB7 := Lib.hid (bl_next HB6.out hb); have k0 := cb hb k0; have k1 := cb hb k1; have k2 := cb hb k2; clear hb hrf7; unfold objV))
      first | with_reducible refine name_wp ?_ | with_reducible refine name_calls ?_
      intro Z hZ
      have gO : Z.heap[w7.heap.size]? = some (.cells #[.string og.key.kind, .string og.key.space, .string og.key.name, .int .i64 og.ver, .string og.cls, .bool og.term, .bool og.best, .slice (some ⟨g7, 0, none⟩) og.charge.length og.charge.length] 27) := by rw [hZ]; exact blk_new w7 _
      have hbZ : Below w7.heap.size w7 Z := by rw [hZ]; exact (Below.refl _ _).alloc (Nat.le_refl _) _
      clear hZ
      have k0 := cb hbZ k0; have k1 := cb hbZ k1; have k2 := cb hbZ k2
      have o3 : Z.cell? ⟨w7.heap.size, 3, none⟩ = some (.int .i64 og.ver) := blk_cell gO 3
      have HB4Z := Lib.hid (bl_next HB7.out hbZ)
      have HKZ := Lib.hid (fun (U : World) (hb : Below Z.heap.size Z U) => HKN.out U (bl_next HB4Z.out hb))
      have HFZ := Lib.hid (fun (U : World) (hb : Below Z.heap.size Z U) => cfloor_calls U (HC4.out.at_.below (bl_next HB4Z.out hb)))
      have HCZ := Lib.hid (HC4.out.below HB4Z.out)
      have HDZ := Lib.hid (HD4.out.below HB4Z.out)
      have HND := Lib.hid (show n + 1 ≤ k + 1 by have := HN0.out; omega)
      have HBZ := Lib.hid (bl_next HBW4.out HB4Z.out)
      have HGO := Lib.hid gO
      clear gO hbZ HC4 HD4 HGT HKN HO3 HR5 HZ5 HO5 HB5 HB6 HB7 HB4Z HBW4 HLN
      have i2 : ¬ fl1 < fl := by omega
      have i3 : ¬ kn1 < fl1 := by omega
      have i4 : ¬ kn1 < og.ver := by omega
      have HEV := Lib.hid (fun (U : World) (hb : Below W.heap.size W U) => evright_calls U kd vr (HES.out.obj.below hb) HSO.out.1 (HES.out.objs.below hb) HSO.out.2.1 HES.out.kin (Nat.le_trans HSO.out.2.2 (by omega)))
      unfold evV at HEV
      have hB := Below.refl Z.heap.size Z
      by_cases he0 : er = 0
      · subst he0
        have i1 : ¬ kn1 < kn0 := by omega
        have HRE := Lib.hid (show rightE ⟨kd, o, vr, oxs zs⟩ = true from (HYS.out rfl).1)
        rw [HRE.out] at HEV
        clear hno HSE
        cases ig with
        | true =>
          have hB := hB.drew
          refine region_seq (fun w' => Below Z.heap.size Z w') [(0, true), (1, true), (3, true), (2, false), (4, true), (5, true), (6, true), (8, true), (7, false), (9, true), (10, true), (11, true), (12, true), (13, true), (15, true), (14, false), (16, false), (17, true), (18, true), (19, true), (20, true), (21, true), (22, true), (23, true), (25, true), (26, true), (24, false), (27, true), (28, true), (29, true), (30, true), (31, true), (32, true), (33, true), (34, true), (35, true), (36, true), (37, true), (38, true), (40, true), (39, false), (41, true), (42, true), (43, true), (44, true)] (by kernel_rfl) (by kernel_rfl) (fun _ _ _ _ h => h) hB ?_
          try generalize World.drew _ = wS at hB ⊢
          refine seq_take (v := ?_) (a' := ?_) (some 58) rfl rfl (by rfl) ?_ ?_ ?_
          rotate_left; rotate_left
          · intro w' hS; go_simp; with_reducible rfl
          · simp only [Act.put, List.setIfInBounds_toArray, List.set_cons_zero, List.set_cons_succ]; rfl
          refine seq_take (v := ?_) (a' := ?_) (some 59) rfl rfl (by rfl) ?_ ?_ ?_
          rotate_left; rotate_left
          · intro w' hS; have q0 := cb hS k0; have q1 := cb hS k1; have q2 := cb hS k2; have q3 := cb hS o3; go_simp; with_reducible rfl
          · simp only [Act.put, List.setIfInBounds_toArray, List.set_cons_zero, List.set_cons_succ]; rfl
          refine seq_take (v := ?_) (a' := ?_) (some 61) rfl rfl (by rfl) ?_ ?_ ?_
          rotate_left; rotate_left
          · intro w' hS; go_simp; with_reducible rfl
          · simp only [Act.put, List.setIfInBounds_toArray, List.set_cons_zero, List.set_cons_succ]; rfl
          refine seq_call (args := ?_) Try.func53 (by kernel_rfl) rfl (some 60) rfl rfl (by rfl) rfl ?_ ?_
          rotate_left
          · simp only [List.map_toArray, List.map_cons, List.map_nil]; go_simp; rfl
          with_reducible refine (HKZ.out _ hB).mono ?_
          rintro e w' ⟨rfl, hb⟩
          refine ⟨_, rfl, bl_next (by repeat (first | with_reducible exact hB | refine Below.alloc ?_ (by have := hB.size; simp; omega) _ | refine bl_dN ?_ _ | refine Below.drew ?_ | refine Below.setCell ?_ (by have := hB.size; simp; omega) _)) hb, ?_⟩
          have hB := bl_next (by repeat (first | with_reducible exact hB | refine Below.alloc ?_ (by have := hB.size; simp; omega) _ | refine bl_dN ?_ _ | refine Below.drew ?_ | refine Below.setCell ?_ (by have := hB.size; simp; omega) _)) hb; clear hb
          simp only [Act.put, List.setIfInBounds_toArray, List.set_cons_zero, List.set_cons_succ]
          refine seq_take (v := ?_) (a' := ?_) (some 62) rfl rfl (by rfl) ?_ ?_ ?_
          rotate_left; rotate_left
          · intro w' hS; go_simp; with_reducible rfl
          · simp only [Act.put, List.setIfInBounds_toArray, List.set_cons_zero, List.set_cons_succ]; rfl
          refine seq_take (v := ?_) (a' := ?_) (some 63) rfl rfl (by rfl) ?_ ?_ ?_
          rotate_left; rotate_left
          · intro w' hS; go_simp; with_reducible rfl
          · simp only [Act.put, List.setIfInBounds_toArray, List.set_cons_zero, List.set_cons_succ]; rfl
          refine seq_take (v := ?_) (a' := ?_) (some 64) rfl rfl (by rfl) ?_ ?_ ?_
          rotate_left; rotate_left
          · intro w' hS; go_simp; with_reducible rfl
          · simp only [Act.put, List.setIfInBounds_toArray, List.set_cons_zero, List.set_cons_succ]; rfl
          refine seq_take (v := ?_) (a' := ?_) (some 66) rfl rfl (by rfl) ?_ ?_ ?_
          rotate_left; rotate_left
          · intro w' hS; go_simp; with_reducible rfl
          · simp only [Act.put, List.setIfInBounds_toArray, List.set_cons_zero, List.set_cons_succ]; rfl
          refine seq_call (args := ?_) Try.func52 (by kernel_rfl) rfl (some 65) rfl rfl (by rfl) rfl ?_ ?_
          rotate_left
          · simp only [List.map_toArray, List.map_cons, List.map_nil]; go_simp; rfl
          with_reducible refine (HFZ.out _ hB).mono ?_
          rintro e w' ⟨rfl, hb⟩
          refine ⟨_, rfl, bl_next (by repeat (first | with_reducible exact hB | refine Below.alloc ?_ (by have := hB.size; simp; omega) _ | refine bl_dN ?_ _ | refine Below.drew ?_ | refine Below.setCell ?_ (by have := hB.size; simp; omega) _)) hb, ?_⟩
          have hB := bl_next (by repeat (first | with_reducible exact hB | refine Below.alloc ?_ (by have := hB.size; simp; omega) _ | refine bl_dN ?_ _ | refine Below.drew ?_ | refine Below.setCell ?_ (by have := hB.size; simp; omega) _)) hb; clear hb
          simp only [Act.put, List.setIfInBounds_toArray, List.set_cons_zero, List.set_cons_succ]
          refine seq_take (v := ?_) (a' := ?_) (some 67) rfl rfl (by rfl) ?_ ?_ ?_
          rotate_left; rotate_left
          · intro w' hS; go_simp; with_reducible rfl
          · simp only [Act.put, List.setIfInBounds_toArray, List.set_cons_zero, List.set_cons_succ]; rfl
          refine seq_take (v := ?_) (a' := ?_) (some 68) rfl rfl (by rfl) ?_ ?_ ?_
          rotate_left; rotate_left
          · intro w' hS; go_simp; with_reducible rfl
          · simp only [Act.put, List.setIfInBounds_toArray, List.set_cons_zero, List.set_cons_succ]; rfl
          refine seq_take (v := ?_) (a' := ?_) (some 69) rfl rfl (by rfl) ?_ ?_ ?_
          rotate_left; rotate_left
          · intro w' hS; go_simp; with_reducible rfl
          · simp only [Act.put, List.setIfInBounds_toArray, List.set_cons_zero, List.set_cons_succ]; rfl
          refine seq_take (v := ?_) (a' := ?_) (some 70) rfl rfl (by rfl) ?_ ?_ ?_
          rotate_left; rotate_left
          · intro w' hS; go_simp; with_reducible rfl
          · simp only [Act.put, List.setIfInBounds_toArray, List.set_cons_zero, List.set_cons_succ]; rfl
          refine seq_take (v := ?_) (a' := ?_) (some 71) rfl rfl (by rfl) ?_ ?_ ?_
          rotate_left; rotate_left
          · intro w' hS; have q0 := cb hS k0; have q1 := cb hS k1; have q2 := cb hS k2; have q3 := cb hS o3; go_simp; with_reducible rfl
          · simp only [Act.put, List.setIfInBounds_toArray, List.set_cons_zero, List.set_cons_succ]; rfl
          refine seq_take (v := ?_) (a' := ?_) (some 73) rfl rfl (by rfl) ?_ ?_ ?_
          rotate_left; rotate_left
          · intro w' hS; go_simp; with_reducible rfl
          · simp only [Act.put, List.setIfInBounds_toArray, List.set_cons_zero, List.set_cons_succ]; rfl
          refine seq_call (args := ?_) Try.func53 (by kernel_rfl) rfl (some 72) rfl rfl (by rfl) rfl ?_ ?_
          rotate_left
          · simp only [List.map_toArray, List.map_cons, List.map_nil]; go_simp; rfl
          with_reducible refine (HKZ.out _ hB).mono ?_
          rintro e w' ⟨rfl, hb⟩
          refine ⟨_, rfl, bl_next (by repeat (first | with_reducible exact hB | refine Below.alloc ?_ (by have := hB.size; simp; omega) _ | refine bl_dN ?_ _ | refine Below.drew ?_ | refine Below.setCell ?_ (by have := hB.size; simp; omega) _)) hb, ?_⟩
          have hB := bl_next (by repeat (first | with_reducible exact hB | refine Below.alloc ?_ (by have := hB.size; simp; omega) _ | refine bl_dN ?_ _ | refine Below.drew ?_ | refine Below.setCell ?_ (by have := hB.size; simp; omega) _)) hb; clear hb
          simp only [Act.put, List.setIfInBounds_toArray, List.set_cons_zero, List.set_cons_succ]
          refine seq_call (args := ?_) Try.func52 (by kernel_rfl) rfl (some 74) rfl rfl (by rfl) rfl ?_ ?_
          rotate_left
          · simp only [List.map_toArray, List.map_cons, List.map_nil]; go_simp; rfl
          with_reducible refine (HFZ.out _ hB).mono ?_
          rintro e w' ⟨rfl, hb⟩
          refine ⟨_, rfl, bl_next (by repeat (first | with_reducible exact hB | refine Below.alloc ?_ (by have := hB.size; simp; omega) _ | refine bl_dN ?_ _ | refine Below.drew ?_ | refine Below.setCell ?_ (by have := hB.size; simp; omega) _)) hb, ?_⟩
          have hB := bl_next (by repeat (first | with_reducible exact hB | refine Below.alloc ?_ (by have := hB.size; simp; omega) _ | refine bl_dN ?_ _ | refine Below.drew ?_ | refine Below.setCell ?_ (by have := hB.size; simp; omega) _)) hb; clear hb
          simp only [Act.put, List.setIfInBounds_toArray, List.set_cons_zero, List.set_cons_succ]
          refine seq_take (v := ?_) (a' := ?_) (some 75) rfl rfl (by rfl) ?_ ?_ ?_
          rotate_left; rotate_left
          · intro w' hS; go_simp; with_reducible rfl
          · simp only [Act.put, List.setIfInBounds_toArray, List.set_cons_zero, List.set_cons_succ]; rfl
          refine seq_take (v := ?_) (a' := ?_) (some 76) rfl rfl (by rfl) ?_ ?_ ?_
          rotate_left; rotate_left
          · intro w' hS; go_simp; with_reducible rfl
          · simp only [Act.put, List.setIfInBounds_toArray, List.set_cons_zero, List.set_cons_succ]; rfl
          refine seq_take (v := ?_) (a' := ?_) (some 77) rfl rfl (by rfl) ?_ ?_ ?_
          rotate_left; rotate_left
          · intro w' hS; go_simp; with_reducible rfl
          · simp only [Act.put, List.setIfInBounds_toArray, List.set_cons_zero, List.set_cons_succ]; rfl
          refine seq_take (v := ?_) (a' := ?_) (some 78) rfl rfl (by rfl) ?_ ?_ ?_
          rotate_left; rotate_left
          · intro w' hS; go_simp; with_reducible rfl
          · simp only [Act.put, List.setIfInBounds_toArray, List.set_cons_zero, List.set_cons_succ]; rfl
          refine seq_take (v := ?_) (a' := ?_) (some 79) rfl rfl (by rfl) ?_ ?_ ?_
          rotate_left; rotate_left
          · intro w' hS; go_simp; with_reducible rfl
          · simp only [Act.put, List.setIfInBounds_toArray, List.set_cons_zero, List.set_cons_succ]; rfl
          refine seq_take (v := ?_) (a' := ?_) (some 80) rfl rfl (by rfl) ?_ ?_ ?_
          rotate_left; rotate_left
          · intro w' hS; go_simp; with_reducible rfl
          · simp only [Act.put, List.setIfInBounds_toArray, List.set_cons_zero, List.set_cons_succ]; rfl
          refine seq_take (v := ?_) (a' := ?_) (some 81) rfl rfl (by rfl) ?_ ?_ ?_
          rotate_left; rotate_left
          · intro w' hS; have q0 := cb hS k0; have q1 := cb hS k1; have q2 := cb hS k2; have q3 := cb hS o3; go_simp; with_reducible rfl
          · simp only [Act.put, List.setIfInBounds_toArray, List.set_cons_zero, List.set_cons_succ]; rfl
          refine seq_take (v := ?_) (a' := ?_) (some 83) rfl rfl (by rfl) ?_ ?_ ?_
          rotate_left; rotate_left
          · intro w' hS; go_simp; with_reducible rfl
          · simp only [Act.put, List.setIfInBounds_toArray, List.set_cons_zero, List.set_cons_succ]; rfl
          refine seq_take (v := ?_) (a' := ?_) (some 84) rfl rfl (by rfl) ?_ ?_ ?_
          rotate_left; rotate_left
          · intro w' hS; have q0 := cb hS k0; have q1 := cb hS k1; have q2 := cb hS k2; have q3 := cb hS o3; go_simp; with_reducible rfl
          · simp only [Act.put, List.setIfInBounds_toArray, List.set_cons_zero, List.set_cons_succ]; rfl
          refine seq_call (args := ?_) Try.func53 (by kernel_rfl) rfl (some 82) rfl rfl (by rfl) rfl ?_ ?_
          rotate_left
          · simp only [List.map_toArray, List.map_cons, List.map_nil]; go_simp; rfl
          with_reducible refine (HKZ.out _ hB).mono ?_
          rintro e w' ⟨rfl, hb⟩
          refine ⟨_, rfl, bl_next (by repeat (first | with_reducible exact hB | refine Below.alloc ?_ (by have := hB.size; simp; omega) _ | refine bl_dN ?_ _ | refine Below.drew ?_ | refine Below.setCell ?_ (by have := hB.size; simp; omega) _)) hb, ?_⟩
          have hB := bl_next (by repeat (first | with_reducible exact hB | refine Below.alloc ?_ (by have := hB.size; simp; omega) _ | refine bl_dN ?_ _ | refine Below.drew ?_ | refine Below.setCell ?_ (by have := hB.size; simp; omega) _)) hb; clear hb
          simp only [Act.put, List.setIfInBounds_toArray, List.set_cons_zero, List.set_cons_succ]
          refine seq_take (v := ?_) (a' := ?_) (some 85) rfl rfl (by rfl) ?_ ?_ ?_
          rotate_left; rotate_left
          · intro w' hS; go_simp; with_reducible rfl
          · simp only [Act.put, List.setIfInBounds_toArray, List.set_cons_zero, List.set_cons_succ]; rfl
          refine seq_take (v := ?_) (a' := ?_) (some 86) rfl rfl (by rfl) ?_ ?_ ?_
          rotate_left; rotate_left
          · intro w' hS; go_simp; with_reducible rfl
          · simp only [Act.put, List.setIfInBounds_toArray, List.set_cons_zero, List.set_cons_succ]; rfl
          refine seq_take (v := ?_) (a' := ?_) (some 87) rfl rfl (by rfl) ?_ ?_ ?_
          rotate_left; rotate_left
          · intro w' hS; go_simp; with_reducible rfl
          · simp only [Act.put, List.setIfInBounds_toArray, List.set_cons_zero, List.set_cons_succ]; rfl
          refine seq_take (v := ?_) (a' := ?_) (some 88) rfl rfl (by rfl) ?_ ?_ ?_
          rotate_left; rotate_left
          · intro w' hS; go_simp; with_reducible rfl
          · simp only [Act.put, List.setIfInBounds_toArray, List.set_cons_zero, List.set_cons_succ]; rfl
          refine seq_take (v := ?_) (a' := ?_) (some 89) rfl rfl (by rfl) ?_ ?_ ?_
          rotate_left; rotate_left
          · intro w' hS; go_simp; with_reducible rfl
          · simp only [Act.put, List.setIfInBounds_toArray, List.set_cons_zero, List.set_cons_succ]; rfl
          refine seq_take (v := ?_) (a' := ?_) (some 90) rfl rfl (by rfl) ?_ ?_ ?_
          rotate_left; rotate_left
          · intro w' hS; go_simp; with_reducible rfl
          · simp only [Act.put, List.setIfInBounds_toArray, List.set_cons_zero, List.set_cons_succ]; rfl
          refine seq_take (v := ?_) (a' := ?_) (some 91) rfl rfl (by rfl) ?_ ?_ ?_
          rotate_left; rotate_left
          · intro w' hS; go_simp; with_reducible rfl
          · simp only [Act.put, List.setIfInBounds_toArray, List.set_cons_zero, List.set_cons_succ]; rfl
          refine seq_skip (a' := ?_) (some 92) rfl rfl (by rfl) ?_ ?_
          rotate_left
          · simp only [Act.put, List.setIfInBounds_toArray, List.set_cons_zero, List.set_cons_succ]; rfl
          refine seq_skip (a' := ?_) (some 93) rfl rfl (by rfl) ?_ ?_
          rotate_left
          · simp only [Act.put, List.setIfInBounds_toArray, List.set_cons_zero, List.set_cons_succ]; rfl
          refine seq_skip (a' := ?_) (some 94) rfl rfl (by rfl) ?_ ?_
          rotate_left
          · simp only [Act.put, List.setIfInBounds_toArray, List.set_cons_zero, List.set_cons_succ]; rfl
          refine seq_skip (a' := ?_) (some 95) rfl rfl (by rfl) ?_ ?_
          rotate_left
          · simp only [Act.put, List.setIfInBounds_toArray, List.set_cons_zero, List.set_cons_succ]; rfl
          refine seq_skip (a' := ?_) (some 96) rfl rfl (by rfl) ?_ ?_
          rotate_left
          · simp only [Act.put, List.setIfInBounds_toArray, List.set_cons_zero, List.set_cons_succ]; rfl
          refine seq_skip (a' := ?_) (some 98) rfl rfl (by rfl) ?_ ?_
          rotate_left
          · simp only [Act.put, List.setIfInBounds_toArray, List.set_cons_zero, List.set_cons_succ]; rfl
          refine seq_skip1 (a' := ?_) (some 97) rfl rfl (by rfl) ?_ hB ?_
          rotate_left
          · simp only [Act.put, List.setIfInBounds_toArray, List.set_cons_zero, List.set_cons_succ]; rfl
          refine seq_skip (a' := ?_) (some 99) rfl rfl (by rfl) ?_ ?_
          rotate_left
          · simp only [Act.put, List.setIfInBounds_toArray, List.set_cons_zero, List.set_cons_succ]; rfl
          refine seq_skip (a' := ?_) (some 100) rfl rfl (by rfl) ?_ ?_
          rotate_left
          · simp only [Act.put, List.setIfInBounds_toArray, List.set_cons_zero, List.set_cons_succ]; rfl
          refine seq_take (v := ?_) (a' := ?_) (some 101) rfl rfl (by rfl) ?_ ?_ ?_
          rotate_left; rotate_left
          · intro w' hS; go_simp; with_reducible rfl
          · simp only [Act.put, List.setIfInBounds_toArray, List.set_cons_zero, List.set_cons_succ]; rfl
          refine seq_take (v := ?_) (a' := ?_) (some 102) rfl rfl (by rfl) ?_ ?_ ?_
          rotate_left; rotate_left
          · intro w' hS; go_simp; with_reducible rfl
          · simp only [Act.put, List.setIfInBounds_toArray, List.set_cons_zero, List.set_cons_succ]; rfl
          refine seq_done ?_
          refine name_exit ?_
          intro S hS
          have hB : Below Z.heap.size Z S := by rw [hS]; exact hB
          clear hS
          have HBS := Lib.hid (bl_next HBZ.out hB)
          have HCS := Lib.hid (HCZ.out.below hB)
          have HDS := Lib.hid (HDZ.out.below hB)
          have d0 := (QX.out.below HBS.out).c0
          have d1 := (QX.out.below HBS.out).c1
          have d2 := (QX.out.below HBS.out).c2
          have d3 := (QX.out.below HBS.out).c3
          have d4 := (QX.out.below HBS.out).c4
          have d5 := (QX.out.below HBS.out).c5
          have d6 := (QX.out.below HBS.out).c6
          have d7 := (QX.out.below HBS.out).c7
          have d8 := (QX.out.below HBS.out).c8
          have d9 := (QX.out.below HBS.out).c9
          have d10 := (QX.out.below HBS.out).c10
          clear hB k0 k1 k2 o3 HCZ HDZ HBZ HKZ HFZ
          go_upto_region 19 with (at_builtin; refine app_exl rfl (.tmp 105) (.tmp 110) rfl W.heap.size _ (.slice A n c) n dn kd o vr zs ao az _ co _ cz rfl HDS.out.1 1 rfl HBS.out.size (by have := HDS.out.2.2.1; omega) ?_; intro g6 cap6 w6 hown6 hk6 hat6; have HBZ := Lib.hid (show Below W.heap.size W w6 from HBS.out.trans (hk6.below HBS.out.size (fun q hq => (rw_type HDS.out.1 hq).1))); have HC6 := Lib.hid (CacheI.row HCS.out HDS.out.1 hk6); have HD6 := Lib.hid (show DoneS w6 W.heap.size (.slice (some ⟨g6, 0, none⟩) (n + 1) cap6) (n + 1) (k + 1) (dn ++ [⟨kd, o, .slice ao o.charge.length co, vr, .slice az zs.length cz, zs⟩]) xs fl1 (mo M1) G1 from ⟨hown6, by rw [List.length_append, HDS.out.2.1]; rfl, HND.out, fun p hp => by
            rcases List.mem_append.1 hp with r | r
            · exact HDS.out.2.2.2 p r
            · obtain rfl := List.mem_singleton.1 r; exact ⟨HIN.out, (HYS.out rfl).1, (HYS.out rfl).2⟩⟩); clear hown6 hk6 hat6; clear d0; clear d1; clear d2; clear d3; clear d4; clear d5; clear d6; clear d7; clear d8; clear d9; clear d10)
          have d0 := (QX.out.below HBZ.out).c0
          have d1 := (QX.out.below HBZ.out).c1
          have d2 := (QX.out.below HBZ.out).c2
          have d3 := (QX.out.below HBZ.out).c3
          have d4 := (QX.out.below HBZ.out).c4
          have d5 := (QX.out.below HBZ.out).c5
          have d6 := (QX.out.below HBZ.out).c6
          have d7 := (QX.out.below HBZ.out).c7
          have d8 := (QX.out.below HBZ.out).c8
          have d9 := (QX.out.below HBZ.out).c9
          have d10 := (QX.out.below HBZ.out).c10
          go_wp2_with (go_at_call 21; refine (HEV.out _ HBZ.out).mono ?_; rintro e w8 ⟨rfl, hb⟩; have HC8 := Lib.hid (HC6.out.below hb); have HD8 := Lib.hid (HD6.out.below hb); have HB8 := Lib.hid (bl_next HBZ.out hb); clear hb)
          go_roundw
          case rel => exact ⟨k + 1, n + 1, cap6, _, fl1, ob1, gb1, M1, G1, _, by simp, rfl, by omega, HC8, HD8, HB8⟩
          case measure => simp [intOf]; omega
        | false =>
          have hB := hB.drew
          refine region_seq (fun w' => Below Z.heap.size Z w') [(0, true), (1, true), (3, true), (2, false), (4, true), (5, true), (6, true), (8, true), (7, false), (9, true), (10, true), (11, true), (12, true), (13, true), (15, true), (14, false), (16, false), (17, true), (18, true), (19, true), (20, true), (21, true), (22, true), (23, true), (25, true), (26, true), (24, false), (27, true), (28, true), (29, true), (30, true), (31, true), (32, true), (33, true), (34, true), (35, true), (36, true), (37, true), (38, true), (40, true), (39, false), (41, true), (42, true), (43, true), (44, true)] (by kernel_rfl) (by kernel_rfl) (fun _ _ _ _ h => h) hB ?_
          try generalize World.drew _ = wS at hB ⊢
          refine seq_take (v := ?_) (a' := ?_) (some 58) rfl rfl (by rfl) ?_ ?_ ?_
          rotate_left; rotate_left
          · intro w' hS; go_simp; with_reducible rfl
          · simp only [Act.put, List.setIfInBounds_toArray, List.set_cons_zero, List.set_cons_succ]; rfl
          refine seq_take (v := ?_) (a' := ?_) (some 59) rfl rfl (by rfl) ?_ ?_ ?_
          rotate_left; rotate_left
          · intro w' hS; have q0 := cb hS k0; have q1 := cb hS k1; have q2 := cb hS k2; have q3 := cb hS o3; go_simp; with_reducible rfl
          · simp only [Act.put, List.setIfInBounds_toArray, List.set_cons_zero, List.set_cons_succ]; rfl
          refine seq_take (v := ?_) (a' := ?_) (some 61) rfl rfl (by rfl) ?_ ?_ ?_
          rotate_left; rotate_left
          · intro w' hS; go_simp; with_reducible rfl
          · simp only [Act.put, List.setIfInBounds_toArray, List.set_cons_zero, List.set_cons_succ]; rfl
          refine seq_call (args := ?_) Try.func53 (by kernel_rfl) rfl (some 60) rfl rfl (by rfl) rfl ?_ ?_
          rotate_left
          · simp only [List.map_toArray, List.map_cons, List.map_nil]; go_simp; rfl
          with_reducible refine (HKZ.out _ hB).mono ?_
          rintro e w' ⟨rfl, hb⟩
          refine ⟨_, rfl, bl_next (by repeat (first | with_reducible exact hB | refine Below.alloc ?_ (by have := hB.size; simp; omega) _ | refine bl_dN ?_ _ | refine Below.drew ?_ | refine Below.setCell ?_ (by have := hB.size; simp; omega) _)) hb, ?_⟩
          have hB := bl_next (by repeat (first | with_reducible exact hB | refine Below.alloc ?_ (by have := hB.size; simp; omega) _ | refine bl_dN ?_ _ | refine Below.drew ?_ | refine Below.setCell ?_ (by have := hB.size; simp; omega) _)) hb; clear hb
          simp only [Act.put, List.setIfInBounds_toArray, List.set_cons_zero, List.set_cons_succ]
          refine seq_take (v := ?_) (a' := ?_) (some 62) rfl rfl (by rfl) ?_ ?_ ?_
          rotate_left; rotate_left
          · intro w' hS; go_simp; with_reducible rfl
          · simp only [Act.put, List.setIfInBounds_toArray, List.set_cons_zero, List.set_cons_succ]; rfl
          refine seq_take (v := ?_) (a' := ?_) (some 63) rfl rfl (by rfl) ?_ ?_ ?_
          rotate_left; rotate_left
          · intro w' hS; go_simp; with_reducible rfl
          · simp only [Act.put, List.setIfInBounds_toArray, List.set_cons_zero, List.set_cons_succ]; rfl
          refine seq_take (v := ?_) (a' := ?_) (some 64) rfl rfl (by rfl) ?_ ?_ ?_
          rotate_left; rotate_left
          · intro w' hS; go_simp; with_reducible rfl
          · simp only [Act.put, List.setIfInBounds_toArray, List.set_cons_zero, List.set_cons_succ]; rfl
          refine seq_take (v := ?_) (a' := ?_) (some 66) rfl rfl (by rfl) ?_ ?_ ?_
          rotate_left; rotate_left
          · intro w' hS; go_simp; with_reducible rfl
          · simp only [Act.put, List.setIfInBounds_toArray, List.set_cons_zero, List.set_cons_succ]; rfl
          refine seq_call (args := ?_) Try.func52 (by kernel_rfl) rfl (some 65) rfl rfl (by rfl) rfl ?_ ?_
          rotate_left
          · simp only [List.map_toArray, List.map_cons, List.map_nil]; go_simp; rfl
          with_reducible refine (HFZ.out _ hB).mono ?_
          rintro e w' ⟨rfl, hb⟩
          refine ⟨_, rfl, bl_next (by repeat (first | with_reducible exact hB | refine Below.alloc ?_ (by have := hB.size; simp; omega) _ | refine bl_dN ?_ _ | refine Below.drew ?_ | refine Below.setCell ?_ (by have := hB.size; simp; omega) _)) hb, ?_⟩
          have hB := bl_next (by repeat (first | with_reducible exact hB | refine Below.alloc ?_ (by have := hB.size; simp; omega) _ | refine bl_dN ?_ _ | refine Below.drew ?_ | refine Below.setCell ?_ (by have := hB.size; simp; omega) _)) hb; clear hb
          simp only [Act.put, List.setIfInBounds_toArray, List.set_cons_zero, List.set_cons_succ]
          refine seq_take (v := ?_) (a' := ?_) (some 67) rfl rfl (by rfl) ?_ ?_ ?_
          rotate_left; rotate_left
          · intro w' hS; go_simp; with_reducible rfl
          · simp only [Act.put, List.setIfInBounds_toArray, List.set_cons_zero, List.set_cons_succ]; rfl
          refine seq_take (v := ?_) (a' := ?_) (some 68) rfl rfl (by rfl) ?_ ?_ ?_
          rotate_left; rotate_left
          · intro w' hS; go_simp; with_reducible rfl
          · simp only [Act.put, List.setIfInBounds_toArray, List.set_cons_zero, List.set_cons_succ]; rfl
          refine seq_take (v := ?_) (a' := ?_) (some 69) rfl rfl (by rfl) ?_ ?_ ?_
          rotate_left; rotate_left
          · intro w' hS; go_simp; with_reducible rfl
          · simp only [Act.put, List.setIfInBounds_toArray, List.set_cons_zero, List.set_cons_succ]; rfl
          refine seq_take (v := ?_) (a' := ?_) (some 70) rfl rfl (by rfl) ?_ ?_ ?_
          rotate_left; rotate_left
          · intro w' hS; go_simp; with_reducible rfl
          · simp only [Act.put, List.setIfInBounds_toArray, List.set_cons_zero, List.set_cons_succ]; rfl
          refine seq_take (v := ?_) (a' := ?_) (some 71) rfl rfl (by rfl) ?_ ?_ ?_
          rotate_left; rotate_left
          · intro w' hS; have q0 := cb hS k0; have q1 := cb hS k1; have q2 := cb hS k2; have q3 := cb hS o3; go_simp; with_reducible rfl
          · simp only [Act.put, List.setIfInBounds_toArray, List.set_cons_zero, List.set_cons_succ]; rfl
          refine seq_take (v := ?_) (a' := ?_) (some 73) rfl rfl (by rfl) ?_ ?_ ?_
          rotate_left; rotate_left
          · intro w' hS; go_simp; with_reducible rfl
          · simp only [Act.put, List.setIfInBounds_toArray, List.set_cons_zero, List.set_cons_succ]; rfl
          refine seq_call (args := ?_) Try.func53 (by kernel_rfl) rfl (some 72) rfl rfl (by rfl) rfl ?_ ?_
          rotate_left
          · simp only [List.map_toArray, List.map_cons, List.map_nil]; go_simp; rfl
          with_reducible refine (HKZ.out _ hB).mono ?_
          rintro e w' ⟨rfl, hb⟩
          refine ⟨_, rfl, bl_next (by repeat (first | with_reducible exact hB | refine Below.alloc ?_ (by have := hB.size; simp; omega) _ | refine bl_dN ?_ _ | refine Below.drew ?_ | refine Below.setCell ?_ (by have := hB.size; simp; omega) _)) hb, ?_⟩
          have hB := bl_next (by repeat (first | with_reducible exact hB | refine Below.alloc ?_ (by have := hB.size; simp; omega) _ | refine bl_dN ?_ _ | refine Below.drew ?_ | refine Below.setCell ?_ (by have := hB.size; simp; omega) _)) hb; clear hb
          simp only [Act.put, List.setIfInBounds_toArray, List.set_cons_zero, List.set_cons_succ]
          refine seq_call (args := ?_) Try.func52 (by kernel_rfl) rfl (some 74) rfl rfl (by rfl) rfl ?_ ?_
          rotate_left
          · simp only [List.map_toArray, List.map_cons, List.map_nil]; go_simp; rfl
          with_reducible refine (HFZ.out _ hB).mono ?_
          rintro e w' ⟨rfl, hb⟩
          refine ⟨_, rfl, bl_next (by repeat (first | with_reducible exact hB | refine Below.alloc ?_ (by have := hB.size; simp; omega) _ | refine bl_dN ?_ _ | refine Below.drew ?_ | refine Below.setCell ?_ (by have := hB.size; simp; omega) _)) hb, ?_⟩
          have hB := bl_next (by repeat (first | with_reducible exact hB | refine Below.alloc ?_ (by have := hB.size; simp; omega) _ | refine bl_dN ?_ _ | refine Below.drew ?_ | refine Below.setCell ?_ (by have := hB.size; simp; omega) _)) hb; clear hb
          simp only [Act.put, List.setIfInBounds_toArray, List.set_cons_zero, List.set_cons_succ]
          refine seq_take (v := ?_) (a' := ?_) (some 75) rfl rfl (by rfl) ?_ ?_ ?_
          rotate_left; rotate_left
          · intro w' hS; go_simp; with_reducible rfl
          · simp only [Act.put, List.setIfInBounds_toArray, List.set_cons_zero, List.set_cons_succ]; rfl
          refine seq_take (v := ?_) (a' := ?_) (some 76) rfl rfl (by rfl) ?_ ?_ ?_
          rotate_left; rotate_left
          · intro w' hS; go_simp; with_reducible rfl
          · simp only [Act.put, List.setIfInBounds_toArray, List.set_cons_zero, List.set_cons_succ]; rfl
          refine seq_take (v := ?_) (a' := ?_) (some 77) rfl rfl (by rfl) ?_ ?_ ?_
          rotate_left; rotate_left
          · intro w' hS; go_simp; with_reducible rfl
          · simp only [Act.put, List.setIfInBounds_toArray, List.set_cons_zero, List.set_cons_succ]; rfl
          refine seq_take (v := ?_) (a' := ?_) (some 78) rfl rfl (by rfl) ?_ ?_ ?_
          rotate_left; rotate_left
          · intro w' hS; go_simp; with_reducible rfl
          · simp only [Act.put, List.setIfInBounds_toArray, List.set_cons_zero, List.set_cons_succ]; rfl
          refine seq_take (v := ?_) (a' := ?_) (some 79) rfl rfl (by rfl) ?_ ?_ ?_
          rotate_left; rotate_left
          · intro w' hS; go_simp; with_reducible rfl
          · simp only [Act.put, List.setIfInBounds_toArray, List.set_cons_zero, List.set_cons_succ]; rfl
          refine seq_skip (a' := ?_) (some 80) rfl rfl (by rfl) ?_ ?_
          rotate_left
          · simp only [Act.put, List.setIfInBounds_toArray, List.set_cons_zero, List.set_cons_succ]; rfl
          refine seq_skip (a' := ?_) (some 81) rfl rfl (by rfl) ?_ ?_
          rotate_left
          · simp only [Act.put, List.setIfInBounds_toArray, List.set_cons_zero, List.set_cons_succ]; rfl
          refine seq_skip (a' := ?_) (some 83) rfl rfl (by rfl) ?_ ?_
          rotate_left
          · simp only [Act.put, List.setIfInBounds_toArray, List.set_cons_zero, List.set_cons_succ]; rfl
          refine seq_skip (a' := ?_) (some 84) rfl rfl (by rfl) ?_ ?_
          rotate_left
          · simp only [Act.put, List.setIfInBounds_toArray, List.set_cons_zero, List.set_cons_succ]; rfl
          refine seq_skip1 (a' := ?_) (some 82) rfl rfl (by rfl) ?_ hB ?_
          rotate_left
          · simp only [Act.put, List.setIfInBounds_toArray, List.set_cons_zero, List.set_cons_succ]; rfl
          refine seq_skip (a' := ?_) (some 85) rfl rfl (by rfl) ?_ ?_
          rotate_left
          · simp only [Act.put, List.setIfInBounds_toArray, List.set_cons_zero, List.set_cons_succ]; rfl
          refine seq_take (v := ?_) (a' := ?_) (some 86) rfl rfl (by rfl) ?_ ?_ ?_
          rotate_left; rotate_left
          · intro w' hS; go_simp; with_reducible rfl
          · simp only [Act.put, List.setIfInBounds_toArray, List.set_cons_zero, List.set_cons_succ]; rfl
          refine seq_take (v := ?_) (a' := ?_) (some 87) rfl rfl (by rfl) ?_ ?_ ?_
          rotate_left; rotate_left
          · intro w' hS; go_simp; with_reducible rfl
          · simp only [Act.put, List.setIfInBounds_toArray, List.set_cons_zero, List.set_cons_succ]; rfl
          refine seq_take (v := ?_) (a' := ?_) (some 88) rfl rfl (by rfl) ?_ ?_ ?_
          rotate_left; rotate_left
          · intro w' hS; go_simp; with_reducible rfl
          · simp only [Act.put, List.setIfInBounds_toArray, List.set_cons_zero, List.set_cons_succ]; rfl
          refine seq_take (v := ?_) (a' := ?_) (some 89) rfl rfl (by rfl) ?_ ?_ ?_
          rotate_left; rotate_left
          · intro w' hS; go_simp; with_reducible rfl
          · simp only [Act.put, List.setIfInBounds_toArray, List.set_cons_zero, List.set_cons_succ]; rfl
          refine seq_take (v := ?_) (a' := ?_) (some 90) rfl rfl (by rfl) ?_ ?_ ?_
          rotate_left; rotate_left
          · intro w' hS; go_simp; with_reducible rfl
          · simp only [Act.put, List.setIfInBounds_toArray, List.set_cons_zero, List.set_cons_succ]; rfl
          refine seq_take (v := ?_) (a' := ?_) (some 91) rfl rfl (by rfl) ?_ ?_ ?_
          rotate_left; rotate_left
          · intro w' hS; go_simp; with_reducible rfl
          · simp only [Act.put, List.setIfInBounds_toArray, List.set_cons_zero, List.set_cons_succ]; rfl
          refine seq_skip (a' := ?_) (some 92) rfl rfl (by rfl) ?_ ?_
          rotate_left
          · simp only [Act.put, List.setIfInBounds_toArray, List.set_cons_zero, List.set_cons_succ]; rfl
          refine seq_skip (a' := ?_) (some 93) rfl rfl (by rfl) ?_ ?_
          rotate_left
          · simp only [Act.put, List.setIfInBounds_toArray, List.set_cons_zero, List.set_cons_succ]; rfl
          refine seq_skip (a' := ?_) (some 94) rfl rfl (by rfl) ?_ ?_
          rotate_left
          · simp only [Act.put, List.setIfInBounds_toArray, List.set_cons_zero, List.set_cons_succ]; rfl
          refine seq_skip (a' := ?_) (some 95) rfl rfl (by rfl) ?_ ?_
          rotate_left
          · simp only [Act.put, List.setIfInBounds_toArray, List.set_cons_zero, List.set_cons_succ]; rfl
          refine seq_skip (a' := ?_) (some 96) rfl rfl (by rfl) ?_ ?_
          rotate_left
          · simp only [Act.put, List.setIfInBounds_toArray, List.set_cons_zero, List.set_cons_succ]; rfl
          refine seq_skip (a' := ?_) (some 98) rfl rfl (by rfl) ?_ ?_
          rotate_left
          · simp only [Act.put, List.setIfInBounds_toArray, List.set_cons_zero, List.set_cons_succ]; rfl
          refine seq_skip1 (a' := ?_) (some 97) rfl rfl (by rfl) ?_ hB ?_
          rotate_left
          · simp only [Act.put, List.setIfInBounds_toArray, List.set_cons_zero, List.set_cons_succ]; rfl
          refine seq_skip (a' := ?_) (some 99) rfl rfl (by rfl) ?_ ?_
          rotate_left
          · simp only [Act.put, List.setIfInBounds_toArray, List.set_cons_zero, List.set_cons_succ]; rfl
          refine seq_skip (a' := ?_) (some 100) rfl rfl (by rfl) ?_ ?_
          rotate_left
          · simp only [Act.put, List.setIfInBounds_toArray, List.set_cons_zero, List.set_cons_succ]; rfl
          refine seq_take (v := ?_) (a' := ?_) (some 101) rfl rfl (by rfl) ?_ ?_ ?_
          rotate_left; rotate_left
          · intro w' hS; go_simp; with_reducible rfl
          · simp only [Act.put, List.setIfInBounds_toArray, List.set_cons_zero, List.set_cons_succ]; rfl
          refine seq_take (v := ?_) (a' := ?_) (some 102) rfl rfl (by rfl) ?_ ?_ ?_
          rotate_left; rotate_left
          · intro w' hS; go_simp; with_reducible rfl
          · simp only [Act.put, List.setIfInBounds_toArray, List.set_cons_zero, List.set_cons_succ]; rfl
          refine seq_done ?_
          refine name_exit ?_
          intro S hS
          have hB : Below Z.heap.size Z S := by rw [hS]; exact hB
          clear hS
          have HBS := Lib.hid (bl_next HBZ.out hB)
          have HCS := Lib.hid (HCZ.out.below hB)
          have HDS := Lib.hid (HDZ.out.below hB)
          have d0 := (QX.out.below HBS.out).c0
          have d1 := (QX.out.below HBS.out).c1
          have d2 := (QX.out.below HBS.out).c2
          have d3 := (QX.out.below HBS.out).c3
          have d4 := (QX.out.below HBS.out).c4
          have d5 := (QX.out.below HBS.out).c5
          have d6 := (QX.out.below HBS.out).c6
          have d7 := (QX.out.below HBS.out).c7
          have d8 := (QX.out.below HBS.out).c8
          have d9 := (QX.out.below HBS.out).c9
          have d10 := (QX.out.below HBS.out).c10
          clear hB k0 k1 k2 o3 HCZ HDZ HBZ HKZ HFZ
          go_upto_region 19 with (at_builtin; refine app_exl rfl (.tmp 105) (.tmp 110) rfl W.heap.size _ (.slice A n c) n dn kd o vr zs ao az _ co _ cz rfl HDS.out.1 1 rfl HBS.out.size (by have := HDS.out.2.2.1; omega) ?_; intro g6 cap6 w6 hown6 hk6 hat6; have HBZ := Lib.hid (show Below W.heap.size W w6 from HBS.out.trans (hk6.below HBS.out.size (fun q hq => (rw_type HDS.out.1 hq).1))); have HC6 := Lib.hid (CacheI.row HCS.out HDS.out.1 hk6); have HD6 := Lib.hid (show DoneS w6 W.heap.size (.slice (some ⟨g6, 0, none⟩) (n + 1) cap6) (n + 1) (k + 1) (dn ++ [⟨kd, o, .slice ao o.charge.length co, vr, .slice az zs.length cz, zs⟩]) xs fl1 (mo M1) G1 from ⟨hown6, by rw [List.length_append, HDS.out.2.1]; rfl, HND.out, fun p hp => by
            rcases List.mem_append.1 hp with r | r
            · exact HDS.out.2.2.2 p r
            · obtain rfl := List.mem_singleton.1 r; exact ⟨HIN.out, (HYS.out rfl).1, (HYS.out rfl).2⟩⟩); clear hown6 hk6 hat6; clear d0; clear d1; clear d2; clear d3; clear d4; clear d5; clear d6; clear d7; clear d8; clear d9; clear d10)
          have d0 := (QX.out.below HBZ.out).c0
          have d1 := (QX.out.below HBZ.out).c1
          have d2 := (QX.out.below HBZ.out).c2
          have d3 := (QX.out.below HBZ.out).c3
          have d4 := (QX.out.below HBZ.out).c4
          have d5 := (QX.out.below HBZ.out).c5
          have d6 := (QX.out.below HBZ.out).c6
          have d7 := (QX.out.below HBZ.out).c7
          have d8 := (QX.out.below HBZ.out).c8
          have d9 := (QX.out.below HBZ.out).c9
          have d10 := (QX.out.below HBZ.out).c10
          go_wp2_with (go_at_call 21; refine (HEV.out _ HBZ.out).mono ?_; rintro e w8 ⟨rfl, hb⟩; have HC8 := Lib.hid (HC6.out.below hb); have HD8 := Lib.hid (HD6.out.below hb); have HB8 := Lib.hid (bl_next HBZ.out hb); clear hb)
          go_roundw
          case rel => exact ⟨k + 1, n + 1, cap6, _, fl1, ob1, gb1, M1, G1, _, by simp, rfl, by omega, HC8, HD8, HB8⟩
          case measure => simp [intOf]; omega
      · have i0 : (er == 0) = false := by simpa using he0
        have i0' : (er != 0) = true := by simpa using he0
        have hkk := hno he0
        subst hkk
        have hsm := HSE.out he0
        subst hsm
        have i1 : ¬ kn1 < kn1 := by omega
        obtain ⟨rr, hrr⟩ : ∃ z, rightE ⟨kd, o, vr, oxs zs⟩ = z := ⟨_, rfl⟩
        have i5 : (er == 1) = !rr := by
          have h := @app_one (EX.ev ⟨kd, o, .slice ao o.charge.length co, vr, .slice az zs.length cz, zs⟩) fl (mo M) G
          rw [HER.out] at h
          have h2 : (er = 1) ↔ rr = false := by rw [← hrr]; exact h
          cases rr with
          | false => have := h2.2 rfl; subst this; rfl
          | true =>
            have : er ≠ 1 := fun e => by have := h2.1 e; cases this
            simpa using this
        rw [hrr] at HEV
        clear hno HSE hrr
        cases ig with
        | true =>
          have hB := hB.drew
          refine region_seq (fun w' => Below Z.heap.size Z w') [(0, true), (1, true), (3, true), (2, false), (4, true), (5, true), (6, true), (8, true), (7, false), (9, true), (10, true), (11, true), (12, true), (13, true), (15, true), (14, false), (16, false), (17, true), (18, true), (19, true), (20, true), (21, true), (22, true), (23, true), (25, true), (26, true), (24, false), (27, true), (28, true), (29, true), (30, true), (31, true), (32, true), (33, true), (34, true), (35, true), (36, true), (37, true), (38, true), (40, true), (39, false), (41, true), (42, true), (43, true), (44, true)] (by kernel_rfl) (by kernel_rfl) (fun _ _ _ _ h => h) hB ?_
          try generalize World.drew _ = wS at hB ⊢
          refine seq_take (v := ?_) (a' := ?_) (some 58) rfl rfl (by rfl) ?_ ?_ ?_
          rotate_left; rotate_left
          · intro w' hS; go_simp; with_reducible rfl
          · simp only [Act.put, List.setIfInBounds_toArray, List.set_cons_zero, List.set_cons_succ]; rfl
          refine seq_take (v := ?_) (a' := ?_) (some 59) rfl rfl (by rfl) ?_ ?_ ?_
          rotate_left; rotate_left
          · intro w' hS; have q0 := cb hS k0; have q1 := cb hS k1; have q2 := cb hS k2; have q3 := cb hS o3; go_simp; with_reducible rfl
          · simp only [Act.put, List.setIfInBounds_toArray, List.set_cons_zero, List.set_cons_succ]; rfl
          refine seq_take (v := ?_) (a' := ?_) (some 61) rfl rfl (by rfl) ?_ ?_ ?_
          rotate_left; rotate_left
          · intro w' hS; go_simp; with_reducible rfl
          · simp only [Act.put, List.setIfInBounds_toArray, List.set_cons_zero, List.set_cons_succ]; rfl
          refine seq_call (args := ?_) Try.func53 (by kernel_rfl) rfl (some 60) rfl rfl (by rfl) rfl ?_ ?_
          rotate_left
          · simp only [List.map_toArray, List.map_cons, List.map_nil]; go_simp; rfl
          with_reducible refine (HKZ.out _ hB).mono ?_
          rintro e w' ⟨rfl, hb⟩
          refine ⟨_, rfl, bl_next (by repeat (first | with_reducible exact hB | refine Below.alloc ?_ (by have := hB.size; simp; omega) _ | refine bl_dN ?_ _ | refine Below.drew ?_ | refine Below.setCell ?_ (by have := hB.size; simp; omega) _)) hb, ?_⟩
          have hB := bl_next (by repeat (first | with_reducible exact hB | refine Below.alloc ?_ (by have := hB.size; simp; omega) _ | refine bl_dN ?_ _ | refine Below.drew ?_ | refine Below.setCell ?_ (by have := hB.size; simp; omega) _)) hb; clear hb
          simp only [Act.put, List.setIfInBounds_toArray, List.set_cons_zero, List.set_cons_succ]
          refine seq_take (v := ?_) (a' := ?_) (some 62) rfl rfl (by rfl) ?_ ?_ ?_
          rotate_left; rotate_left
          · intro w' hS; go_simp; with_reducible rfl
          · simp only [Act.put, List.setIfInBounds_toArray, List.set_cons_zero, List.set_cons_succ]; rfl
          refine seq_take (v := ?_) (a' := ?_) (some 63) rfl rfl (by rfl) ?_ ?_ ?_
          rotate_left; rotate_left
          · intro w' hS; go_simp; with_reducible rfl
          · simp only [Act.put, List.setIfInBounds_toArray, List.set_cons_zero, List.set_cons_succ]; rfl
          refine seq_take (v := ?_) (a' := ?_) (some 64) rfl rfl (by rfl) ?_ ?_ ?_
          rotate_left; rotate_left
          · intro w' hS; go_simp; with_reducible rfl
          · simp only [Act.put, List.setIfInBounds_toArray, List.set_cons_zero, List.set_cons_succ]; rfl
          refine seq_take (v := ?_) (a' := ?_) (some 66) rfl rfl (by rfl) ?_ ?_ ?_
          rotate_left; rotate_left
          · intro w' hS; go_simp; with_reducible rfl
          · simp only [Act.put, List.setIfInBounds_toArray, List.set_cons_zero, List.set_cons_succ]; rfl
          refine seq_call (args := ?_) Try.func52 (by kernel_rfl) rfl (some 65) rfl rfl (by rfl) rfl ?_ ?_
          rotate_left
          · simp only [List.map_toArray, List.map_cons, List.map_nil]; go_simp; rfl
          with_reducible refine (HFZ.out _ hB).mono ?_
          rintro e w' ⟨rfl, hb⟩
          refine ⟨_, rfl, bl_next (by repeat (first | with_reducible exact hB | refine Below.alloc ?_ (by have := hB.size; simp; omega) _ | refine bl_dN ?_ _ | refine Below.drew ?_ | refine Below.setCell ?_ (by have := hB.size; simp; omega) _)) hb, ?_⟩
          have hB := bl_next (by repeat (first | with_reducible exact hB | refine Below.alloc ?_ (by have := hB.size; simp; omega) _ | refine bl_dN ?_ _ | refine Below.drew ?_ | refine Below.setCell ?_ (by have := hB.size; simp; omega) _)) hb; clear hb
          simp only [Act.put, List.setIfInBounds_toArray, List.set_cons_zero, List.set_cons_succ]
          refine seq_take (v := ?_) (a' := ?_) (some 67) rfl rfl (by rfl) ?_ ?_ ?_
          rotate_left; rotate_left
          · intro w' hS; go_simp; with_reducible rfl
          · simp only [Act.put, List.setIfInBounds_toArray, List.set_cons_zero, List.set_cons_succ]; rfl
          refine seq_take (v := ?_) (a' := ?_) (some 68) rfl rfl (by rfl) ?_ ?_ ?_
          rotate_left; rotate_left
          · intro w' hS; go_simp; with_reducible rfl
          · simp only [Act.put, List.setIfInBounds_toArray, List.set_cons_zero, List.set_cons_succ]; rfl
          refine seq_take (v := ?_) (a' := ?_) (some 69) rfl rfl (by rfl) ?_ ?_ ?_
          rotate_left; rotate_left
          · intro w' hS; go_simp; with_reducible rfl
          · simp only [Act.put, List.setIfInBounds_toArray, List.set_cons_zero, List.set_cons_succ]; rfl
          refine seq_take (v := ?_) (a' := ?_) (some 70) rfl rfl (by rfl) ?_ ?_ ?_
          rotate_left; rotate_left
          · intro w' hS; go_simp; with_reducible rfl
          · simp only [Act.put, List.setIfInBounds_toArray, List.set_cons_zero, List.set_cons_succ]; rfl
          refine seq_take (v := ?_) (a' := ?_) (some 71) rfl rfl (by rfl) ?_ ?_ ?_
          rotate_left; rotate_left
          · intro w' hS; have q0 := cb hS k0; have q1 := cb hS k1; have q2 := cb hS k2; have q3 := cb hS o3; go_simp; with_reducible rfl
          · simp only [Act.put, List.setIfInBounds_toArray, List.set_cons_zero, List.set_cons_succ]; rfl
          refine seq_take (v := ?_) (a' := ?_) (some 73) rfl rfl (by rfl) ?_ ?_ ?_
          rotate_left; rotate_left
          · intro w' hS; go_simp; with_reducible rfl
          · simp only [Act.put, List.setIfInBounds_toArray, List.set_cons_zero, List.set_cons_succ]; rfl
          refine seq_call (args := ?_) Try.func53 (by kernel_rfl) rfl (some 72) rfl rfl (by rfl) rfl ?_ ?_
          rotate_left
          · simp only [List.map_toArray, List.map_cons, List.map_nil]; go_simp; rfl
          with_reducible refine (HKZ.out _ hB).mono ?_
          rintro e w' ⟨rfl, hb⟩
          refine ⟨_, rfl, bl_next (by repeat (first | with_reducible exact hB | refine Below.alloc ?_ (by have := hB.size; simp; omega) _ | refine bl_dN ?_ _ | refine Below.drew ?_ | refine Below.setCell ?_ (by have := hB.size; simp; omega) _)) hb, ?_⟩
          have hB := bl_next (by repeat (first | with_reducible exact hB | refine Below.alloc ?_ (by have := hB.size; simp; omega) _ | refine bl_dN ?_ _ | refine Below.drew ?_ | refine Below.setCell ?_ (by have := hB.size; simp; omega) _)) hb; clear hb
          simp only [Act.put, List.setIfInBounds_toArray, List.set_cons_zero, List.set_cons_succ]
          refine seq_call (args := ?_) Try.func52 (by kernel_rfl) rfl (some 74) rfl rfl (by rfl) rfl ?_ ?_
          rotate_left
          · simp only [List.map_toArray, List.map_cons, List.map_nil]; go_simp; rfl
          with_reducible refine (HFZ.out _ hB).mono ?_
          rintro e w' ⟨rfl, hb⟩
          refine ⟨_, rfl, bl_next (by repeat (first | with_reducible exact hB | refine Below.alloc ?_ (by have := hB.size; simp; omega) _ | refine bl_dN ?_ _ | refine Below.drew ?_ | refine Below.setCell ?_ (by have := hB.size; simp; omega) _)) hb, ?_⟩
          have hB := bl_next (by repeat (first | with_reducible exact hB | refine Below.alloc ?_ (by have := hB.size; simp; omega) _ | refine bl_dN ?_ _ | refine Below.drew ?_ | refine Below.setCell ?_ (by have := hB.size; simp; omega) _)) hb; clear hb
          simp only [Act.put, List.setIfInBounds_toArray, List.set_cons_zero, List.set_cons_succ]
          refine seq_take (v := ?_) (a' := ?_) (some 75) rfl rfl (by rfl) ?_ ?_ ?_
          rotate_left; rotate_left
          · intro w' hS; go_simp; with_reducible rfl
          · simp only [Act.put, List.setIfInBounds_toArray, List.set_cons_zero, List.set_cons_succ]; rfl
          refine seq_take (v := ?_) (a' := ?_) (some 76) rfl rfl (by rfl) ?_ ?_ ?_
          rotate_left; rotate_left
          · intro w' hS; go_simp; with_reducible rfl
          · simp only [Act.put, List.setIfInBounds_toArray, List.set_cons_zero, List.set_cons_succ]; rfl
          refine seq_take (v := ?_) (a' := ?_) (some 77) rfl rfl (by rfl) ?_ ?_ ?_
          rotate_left; rotate_left
          · intro w' hS; go_simp; with_reducible rfl
          · simp only [Act.put, List.setIfInBounds_toArray, List.set_cons_zero, List.set_cons_succ]; rfl
          refine seq_take (v := ?_) (a' := ?_) (some 78) rfl rfl (by rfl) ?_ ?_ ?_
          rotate_left; rotate_left
          · intro w' hS; go_simp; with_reducible rfl
          · simp only [Act.put, List.setIfInBounds_toArray, List.set_cons_zero, List.set_cons_succ]; rfl
          refine seq_take (v := ?_) (a' := ?_) (some 79) rfl rfl (by rfl) ?_ ?_ ?_
          rotate_left; rotate_left
          · intro w' hS; go_simp; with_reducible rfl
          · simp only [Act.put, List.setIfInBounds_toArray, List.set_cons_zero, List.set_cons_succ]; rfl
          refine seq_take (v := ?_) (a' := ?_) (some 80) rfl rfl (by rfl) ?_ ?_ ?_
          rotate_left; rotate_left
          · intro w' hS; go_simp; with_reducible rfl
          · simp only [Act.put, List.setIfInBounds_toArray, List.set_cons_zero, List.set_cons_succ]; rfl
          refine seq_take (v := ?_) (a' := ?_) (some 81) rfl rfl (by rfl) ?_ ?_ ?_
          rotate_left; rotate_left
          · intro w' hS; have q0 := cb hS k0; have q1 := cb hS k1; have q2 := cb hS k2; have q3 := cb hS o3; go_simp; with_reducible rfl
          · simp only [Act.put, List.setIfInBounds_toArray, List.set_cons_zero, List.set_cons_succ]; rfl
          refine seq_take (v := ?_) (a' := ?_) (some 83) rfl rfl (by rfl) ?_ ?_ ?_
          rotate_left; rotate_left
          · intro w' hS; go_simp; with_reducible rfl
          · simp only [Act.put, List.setIfInBounds_toArray, List.set_cons_zero, List.set_cons_succ]; rfl
          refine seq_take (v := ?_) (a' := ?_) (some 84) rfl rfl (by rfl) ?_ ?_ ?_
          rotate_left; rotate_left
          · intro w' hS; have q0 := cb hS k0; have q1 := cb hS k1; have q2 := cb hS k2; have q3 := cb hS o3; go_simp; with_reducible rfl
          · simp only [Act.put, List.setIfInBounds_toArray, List.set_cons_zero, List.set_cons_succ]; rfl
          refine seq_call (args := ?_) Try.func53 (by kernel_rfl) rfl (some 82) rfl rfl (by rfl) rfl ?_ ?_
          rotate_left
          · simp only [List.map_toArray, List.map_cons, List.map_nil]; go_simp; rfl
          with_reducible refine (HKZ.out _ hB).mono ?_
          rintro e w' ⟨rfl, hb⟩
          refine ⟨_, rfl, bl_next (by repeat (first | with_reducible exact hB | refine Below.alloc ?_ (by have := hB.size; simp; omega) _ | refine bl_dN ?_ _ | refine Below.drew ?_ | refine Below.setCell ?_ (by have := hB.size; simp; omega) _)) hb, ?_⟩
          have hB := bl_next (by repeat (first | with_reducible exact hB | refine Below.alloc ?_ (by have := hB.size; simp; omega) _ | refine bl_dN ?_ _ | refine Below.drew ?_ | refine Below.setCell ?_ (by have := hB.size; simp; omega) _)) hb; clear hb
          simp only [Act.put, List.setIfInBounds_toArray, List.set_cons_zero, List.set_cons_succ]
          refine seq_take (v := ?_) (a' := ?_) (some 85) rfl rfl (by rfl) ?_ ?_ ?_
          rotate_left; rotate_left
          · intro w' hS; go_simp; with_reducible rfl
          · simp only [Act.put, List.setIfInBounds_toArray, List.set_cons_zero, List.set_cons_succ]; rfl
          refine seq_take (v := ?_) (a' := ?_) (some 86) rfl rfl (by rfl) ?_ ?_ ?_
          rotate_left; rotate_left
          · intro w' hS; go_simp; with_reducible rfl
          · simp only [Act.put, List.setIfInBounds_toArray, List.set_cons_zero, List.set_cons_succ]; rfl
          refine seq_take (v := ?_) (a' := ?_) (some 87) rfl rfl (by rfl) ?_ ?_ ?_
          rotate_left; rotate_left
          · intro w' hS; go_simp; with_reducible rfl
          · simp only [Act.put, List.setIfInBounds_toArray, List.set_cons_zero, List.set_cons_succ]; rfl
          refine seq_take (v := ?_) (a' := ?_) (some 88) rfl rfl (by rfl) ?_ ?_ ?_
          rotate_left; rotate_left
          · intro w' hS; go_simp; with_reducible rfl
          · simp only [Act.put, List.setIfInBounds_toArray, List.set_cons_zero, List.set_cons_succ]; rfl
          refine seq_take (v := ?_) (a' := ?_) (some 89) rfl rfl (by rfl) ?_ ?_ ?_
          rotate_left; rotate_left
          · intro w' hS; go_simp; with_reducible rfl
          · simp only [Act.put, List.setIfInBounds_toArray, List.set_cons_zero, List.set_cons_succ]; rfl
          refine seq_take (v := ?_) (a' := ?_) (some 90) rfl rfl (by rfl) ?_ ?_ ?_
          rotate_left; rotate_left
          · intro w' hS; go_simp; with_reducible rfl
          · simp only [Act.put, List.setIfInBounds_toArray, List.set_cons_zero, List.set_cons_succ]; rfl
          refine seq_take (v := ?_) (a' := ?_) (some 91) rfl rfl (by rfl) ?_ ?_ ?_
          rotate_left; rotate_left
          · intro w' hS; go_simp; with_reducible rfl
          · simp only [Act.put, List.setIfInBounds_toArray, List.set_cons_zero, List.set_cons_succ]; rfl
          refine seq_take (v := ?_) (a' := ?_) (some 92) rfl rfl (by rfl) ?_ ?_ ?_
          rotate_left; rotate_left
          · intro w' hS; go_simp; with_reducible rfl
          · simp only [Act.put, List.setIfInBounds_toArray, List.set_cons_zero, List.set_cons_succ]; rfl
          refine seq_take (v := ?_) (a' := ?_) (some 93) rfl rfl (by rfl) ?_ ?_ ?_
          rotate_left; rotate_left
          · intro w' hS; go_simp; with_reducible rfl
          · simp only [Act.put, List.setIfInBounds_toArray, List.set_cons_zero, List.set_cons_succ]; rfl
          refine seq_take (v := ?_) (a' := ?_) (some 94) rfl rfl (by rfl) ?_ ?_ ?_
          rotate_left; rotate_left
          · intro w' hS; go_simp; with_reducible rfl
          · simp only [Act.put, List.setIfInBounds_toArray, List.set_cons_zero, List.set_cons_succ]; rfl
          refine seq_take (v := ?_) (a' := ?_) (some 95) rfl rfl (by rfl) ?_ ?_ ?_
          rotate_left; rotate_left
          · intro w' hS; go_simp; with_reducible rfl
          · simp only [Act.put, List.setIfInBounds_toArray, List.set_cons_zero, List.set_cons_succ]; rfl
          refine seq_take (v := ?_) (a' := ?_) (some 96) rfl rfl (by rfl) ?_ ?_ ?_
          rotate_left; rotate_left
          · intro w' hS; have q0 := cb hS k0; have q1 := cb hS k1; have q2 := cb hS k2; have q3 := cb hS o3; go_simp; with_reducible rfl
          · simp only [Act.put, List.setIfInBounds_toArray, List.set_cons_zero, List.set_cons_succ]; rfl
          refine seq_take (v := ?_) (a' := ?_) (some 98) rfl rfl (by rfl) ?_ ?_ ?_
          rotate_left; rotate_left
          · intro w' hS; go_simp; with_reducible rfl
          · simp only [Act.put, List.setIfInBounds_toArray, List.set_cons_zero, List.set_cons_succ]; rfl
          refine seq_call (args := ?_) Try.func53 (by kernel_rfl) rfl (some 97) rfl rfl (by rfl) rfl ?_ ?_
          rotate_left
          · simp only [List.map_toArray, List.map_cons, List.map_nil]; go_simp; rfl
          with_reducible refine (HKZ.out _ hB).mono ?_
          rintro e w' ⟨rfl, hb⟩
          refine ⟨_, rfl, bl_next (by repeat (first | with_reducible exact hB | refine Below.alloc ?_ (by have := hB.size; simp; omega) _ | refine bl_dN ?_ _ | refine Below.drew ?_ | refine Below.setCell ?_ (by have := hB.size; simp; omega) _)) hb, ?_⟩
          have hB := bl_next (by repeat (first | with_reducible exact hB | refine Below.alloc ?_ (by have := hB.size; simp; omega) _ | refine bl_dN ?_ _ | refine Below.drew ?_ | refine Below.setCell ?_ (by have := hB.size; simp; omega) _)) hb; clear hb
          simp only [Act.put, List.setIfInBounds_toArray, List.set_cons_zero, List.set_cons_succ]
          refine seq_take (v := ?_) (a' := ?_) (some 99) rfl rfl (by rfl) ?_ ?_ ?_
          rotate_left; rotate_left
          · intro w' hS; go_simp; with_reducible rfl
          · simp only [Act.put, List.setIfInBounds_toArray, List.set_cons_zero, List.set_cons_succ]; rfl
          refine seq_take (v := ?_) (a' := ?_) (some 100) rfl rfl (by rfl) ?_ ?_ ?_
          rotate_left; rotate_left
          · intro w' hS; go_simp; with_reducible rfl
          · simp only [Act.put, List.setIfInBounds_toArray, List.set_cons_zero, List.set_cons_succ]; rfl
          refine seq_take (v := ?_) (a' := ?_) (some 101) rfl rfl (by rfl) ?_ ?_ ?_
          rotate_left; rotate_left
          · intro w' hS; go_simp; with_reducible rfl
          · simp only [Act.put, List.setIfInBounds_toArray, List.set_cons_zero, List.set_cons_succ]; rfl
          refine seq_take (v := ?_) (a' := ?_) (some 102) rfl rfl (by rfl) ?_ ?_ ?_
          rotate_left; rotate_left
          · intro w' hS; go_simp; with_reducible rfl
          · simp only [Act.put, List.setIfInBounds_toArray, List.set_cons_zero, List.set_cons_succ]; rfl
          refine seq_done ?_
          refine name_exit ?_
          intro S hS
          have hB : Below Z.heap.size Z S := by rw [hS]; exact hB
          clear hS
          have HBS := Lib.hid (bl_next HBZ.out hB)
          have HCS := Lib.hid (HCZ.out.below hB)
          have HDS := Lib.hid (HDZ.out.below hB)
          have d0 := (QX.out.below HBS.out).c0
          have d1 := (QX.out.below HBS.out).c1
          have d2 := (QX.out.below HBS.out).c2
          have d3 := (QX.out.below HBS.out).c3
          have d4 := (QX.out.below HBS.out).c4
          have d5 := (QX.out.below HBS.out).c5
          have d6 := (QX.out.below HBS.out).c6
          have d7 := (QX.out.below HBS.out).c7
          have d8 := (QX.out.below HBS.out).c8
          have d9 := (QX.out.below HBS.out).c9
          have d10 := (QX.out.below HBS.out).c10
          clear hB k0 k1 k2 o3 HCZ HDZ HBZ HKZ HFZ
          cases rr
          all_goals go_wp2_with (go_at_call 21; refine (HEV.out _ HBS.out).mono ?_; rintro e w8 ⟨rfl, hb⟩; have HC8 := Lib.hid (HCS.out.below hb); have HD8 := Lib.hid (HDS.out.below hb); have HB8 := Lib.hid (bl_next HBS.out hb); clear hb)
          all_goals go_roundw
          case rel => exact ⟨k + 1, n, c, A, fl1, ob1, gb1, M1, G1, dn, by simp, rfl, by omega, HC8, HD8, HB8⟩
          case measure => simp [intOf]; omega
          case rel => exact ⟨k + 1, n, c, A, fl1, ob1, gb1, M1, G1, dn, by simp, rfl, by omega, HC8, HD8, HB8⟩
          case measure => simp [intOf]; omega
        | false =>
          have hB := hB.drew
          refine region_seq (fun w' => Below Z.heap.size Z w') [(0, true), (1, true), (3, true), (2, false), (4, true), (5, true), (6, true), (8, true), (7, false), (9, true), (10, true), (11, true), (12, true), (13, true), (15, true), (14, false), (16, false), (17, true), (18, true), (19, true), (20, true), (21, true), (22, true), (23, true), (25, true), (26, true), (24, false), (27, true), (28, true), (29, true), (30, true), (31, true), (32, true), (33, true), (34, true), (35, true), (36, true), (37, true), (38, true), (40, true), (39, false), (41, true), (42, true), (43, true), (44, true)] (by kernel_rfl) (by kernel_rfl) (fun _ _ _ _ h => h) hB ?_
          try generalize World.drew _ = wS at hB ⊢
          refine seq_take (v := ?_) (a' := ?_) (some 58) rfl rfl (by rfl) ?_ ?_ ?_
          rotate_left; rotate_left
          · intro w' hS; go_simp; with_reducible rfl
          · simp only [Act.put, List.setIfInBounds_toArray, List.set_cons_zero, List.set_cons_succ]; rfl
          refine seq_take (v := ?_) (a' := ?_) (some 59) rfl rfl (by rfl) ?_ ?_ ?_
          rotate_left; rotate_left
          · intro w' hS; have q0 := cb hS k0; have q1 := cb hS k1; have q2 := cb hS k2; have q3 := cb hS o3; go_simp; with_reducible rfl
          · simp only [Act.put, List.setIfInBounds_toArray, List.set_cons_zero, List.set_cons_succ]; rfl
          refine seq_take (v := ?_) (a' := ?_) (some 61) rfl rfl (by rfl) ?_ ?_ ?_
          rotate_left; rotate_left
          · intro w' hS; go_simp; with_reducible rfl
          · simp only [Act.put, List.setIfInBounds_toArray, List.set_cons_zero, List.set_cons_succ]; rfl
          refine seq_call (args := ?_) Try.func53 (by kernel_rfl) rfl (some 60) rfl rfl (by rfl) rfl ?_ ?_
          rotate_left
          · simp only [List.map_toArray, List.map_cons, List.map_nil]; go_simp; rfl
          with_reducible refine (HKZ.out _ hB).mono ?_
          rintro e w' ⟨rfl, hb⟩
          refine ⟨_, rfl, bl_next (by repeat (first | with_reducible exact hB | refine Below.alloc ?_ (by have := hB.size; simp; omega) _ | refine bl_dN ?_ _ | refine Below.drew ?_ | refine Below.setCell ?_ (by have := hB.size; simp; omega) _)) hb, ?_⟩
          have hB := bl_next (by repeat (first | with_reducible exact hB | refine Below.alloc ?_ (by have := hB.size; simp; omega) _ | refine bl_dN ?_ _ | refine Below.drew ?_ | refine Below.setCell ?_ (by have := hB.size; simp; omega) _)) hb; clear hb
          simp only [Act.put, List.setIfInBounds_toArray, List.set_cons_zero, List.set_cons_succ]
          refine seq_take (v := ?_) (a' := ?_) (some 62) rfl rfl (by rfl) ?_ ?_ ?_
          rotate_left; rotate_left
          · intro w' hS; go_simp; with_reducible rfl
          · simp only [Act.put, List.setIfInBounds_toArray, List.set_cons_zero, List.set_cons_succ]; rfl
          refine seq_take (v := ?_) (a' := ?_) (some 63) rfl rfl (by rfl) ?_ ?_ ?_
          rotate_left; rotate_left
          · intro w' hS; go_simp; with_reducible rfl
          · simp only [Act.put, List.setIfInBounds_toArray, List.set_cons_zero, List.set_cons_succ]; rfl
          refine seq_take (v := ?_) (a' := ?_) (some 64) rfl rfl (by rfl) ?_ ?_ ?_
          rotate_left; rotate_left
          · intro w' hS; go_simp; with_reducible rfl
          · simp only [Act.put, List.setIfInBounds_toArray, List.set_cons_zero, List.set_cons_succ]; rfl
          refine seq_take (v := ?_) (a' := ?_) (some 66) rfl rfl (by rfl) ?_ ?_ ?_
          rotate_left; rotate_left
          · intro w' hS; go_simp; with_reducible rfl
          · simp only [Act.put, List.setIfInBounds_toArray, List.set_cons_zero, List.set_cons_succ]; rfl
          refine seq_call (args := ?_) Try.func52 (by kernel_rfl) rfl (some 65) rfl rfl (by rfl) rfl ?_ ?_
          rotate_left
          · simp only [List.map_toArray, List.map_cons, List.map_nil]; go_simp; rfl
          with_reducible refine (HFZ.out _ hB).mono ?_
          rintro e w' ⟨rfl, hb⟩
          refine ⟨_, rfl, bl_next (by repeat (first | with_reducible exact hB | refine Below.alloc ?_ (by have := hB.size; simp; omega) _ | refine bl_dN ?_ _ | refine Below.drew ?_ | refine Below.setCell ?_ (by have := hB.size; simp; omega) _)) hb, ?_⟩
          have hB := bl_next (by repeat (first | with_reducible exact hB | refine Below.alloc ?_ (by have := hB.size; simp; omega) _ | refine bl_dN ?_ _ | refine Below.drew ?_ | refine Below.setCell ?_ (by have := hB.size; simp; omega) _)) hb; clear hb
          simp only [Act.put, List.setIfInBounds_toArray, List.set_cons_zero, List.set_cons_succ]
          refine seq_take (v := ?_) (a' := ?_) (some 67) rfl rfl (by rfl) ?_ ?_ ?_
          rotate_left; rotate_left
          · intro w' hS; go_simp; with_reducible rfl
          · simp only [Act.put, List.setIfInBounds_toArray, List.set_cons_zero, List.set_cons_succ]; rfl
          refine seq_take (v := ?_) (a' := ?_) (some 68) rfl rfl (by rfl) ?_ ?_ ?_
          rotate_left; rotate_left
          · intro w' hS; go_simp; with_reducible rfl
          · simp only [Act.put, List.setIfInBounds_toArray, List.set_cons_zero, List.set_cons_succ]; rfl
          refine seq_take (v := ?_) (a' := ?_) (some 69) rfl rfl (by rfl) ?_ ?_ ?_
          rotate_left; rotate_left
          · intro w' hS; go_simp; with_reducible rfl
          · simp only [Act.put, List.setIfInBounds_toArray, List.set_cons_zero, List.set_cons_succ]; rfl
          refine seq_take (v := ?_) (a' := ?_) (some 70) rfl rfl (by rfl) ?_ ?_ ?_
          rotate_left; rotate_left
          · intro w' hS; go_simp; with_reducible rfl
          · simp only [Act.put, List.setIfInBounds_toArray, List.set_cons_zero, List.set_cons_succ]; rfl
          refine seq_take (v := ?_) (a' := ?_) (some 71) rfl rfl (by rfl) ?_ ?_ ?_
          rotate_left; rotate_left
          · intro w' hS; have q0 := cb hS k0; have q1 := cb hS k1; have q2 := cb hS k2; have q3 := cb hS o3; go_simp; with_reducible rfl
          · simp only [Act.put, List.setIfInBounds_toArray, List.set_cons_zero, List.set_cons_succ]; rfl
          refine seq_take (v := ?_) (a' := ?_) (some 73) rfl rfl (by rfl) ?_ ?_ ?_
          rotate_left; rotate_left
          · intro w' hS; go_simp; with_reducible rfl
          · simp only [Act.put, List.setIfInBounds_toArray, List.set_cons_zero, List.set_cons_succ]; rfl
          refine seq_call (args := ?_) Try.func53 (by kernel_rfl) rfl (some 72) rfl rfl (by rfl) rfl ?_ ?_
          rotate_left
          · simp only [List.map_toArray, List.map_cons, List.map_nil]; go_simp; rfl
          with_reducible refine (HKZ.out _ hB).mono ?_
          rintro e w' ⟨rfl, hb⟩
          refine ⟨_, rfl, bl_next (by repeat (first | with_reducible exact hB | refine Below.alloc ?_ (by have := hB.size; simp; omega) _ | refine bl_dN ?_ _ | refine Below.drew ?_ | refine Below.setCell ?_ (by have := hB.size; simp; omega) _)) hb, ?_⟩
          have hB := bl_next (by repeat (first | with_reducible exact hB | refine Below.alloc ?_ (by have := hB.size; simp; omega) _ | refine bl_dN ?_ _ | refine Below.drew ?_ | refine Below.setCell ?_ (by have := hB.size; simp; omega) _)) hb; clear hb
          simp only [Act.put, List.setIfInBounds_toArray, List.set_cons_zero, List.set_cons_succ]
          refine seq_call (args := ?_) Try.func52 (by kernel_rfl) rfl (some 74) rfl rfl (by rfl) rfl ?_ ?_
          rotate_left
          · simp only [List.map_toArray, List.map_cons, List.map_nil]; go_simp; rfl
          with_reducible refine (HFZ.out _ hB).mono ?_
          rintro e w' ⟨rfl, hb⟩
          refine ⟨_, rfl, bl_next (by repeat (first | with_reducible exact hB | refine Below.alloc ?_ (by have := hB.size; simp; omega) _ | refine bl_dN ?_ _ | refine Below.drew ?_ | refine Below.setCell ?_ (by have := hB.size; simp; omega) _)) hb, ?_⟩
          have hB := bl_next (by repeat (first | with_reducible exact hB | refine Below.alloc ?_ (by have := hB.size; simp; omega) _ | refine bl_dN ?_ _ | refine Below.drew ?_ | refine Below.setCell ?_ (by have := hB.size; simp; omega) _)) hb; clear hb
          simp only [Act.put, List.setIfInBounds_toArray, List.set_cons_zero, List.set_cons_succ]
          refine seq_take (v := ?_) (a' := ?_) (some 75) rfl rfl (by rfl) ?_ ?_ ?_
          rotate_left; rotate_left
          · intro w' hS; go_simp; with_reducible rfl
          · simp only [Act.put, List.setIfInBounds_toArray, List.set_cons_zero, List.set_cons_succ]; rfl
          refine seq_take (v := ?_) (a' := ?_) (some 76) rfl rfl (by rfl) ?_ ?_ ?_
          rotate_left; rotate_left
          · intro w' hS; go_simp; with_reducible rfl
          · simp only [Act.put, List.setIfInBounds_toArray, List.set_cons_zero, List.set_cons_succ]; rfl
          refine seq_take (v := ?_) (a' := ?_) (some 77) rfl rfl (by rfl) ?_ ?_ ?_
          rotate_left; rotate_left
          · intro w' hS; go_simp; with_reducible rfl
          · simp only [Act.put, List.setIfInBounds_toArray, List.set_cons_zero, List.set_cons_succ]; rfl
          refine seq_take (v := ?_) (a' := ?_) (some 78) rfl rfl (by rfl) ?_ ?_ ?_
          rotate_left; rotate_left
          · intro w' hS; go_simp; with_reducible rfl
          · simp only [Act.put, List.setIfInBounds_toArray, List.set_cons_zero, List.set_cons_succ]; rfl
          refine seq_take (v := ?_) (a' := ?_) (some 79) rfl rfl (by rfl) ?_ ?_ ?_
          rotate_left; rotate_left
          · intro w' hS; go_simp; with_reducible rfl
          · simp only [Act.put, List.setIfInBounds_toArray, List.set_cons_zero, List.set_cons_succ]; rfl
          refine seq_skip (a' := ?_) (some 80) rfl rfl (by rfl) ?_ ?_
          rotate_left
          · simp only [Act.put, List.setIfInBounds_toArray, List.set_cons_zero, List.set_cons_succ]; rfl
          refine seq_skip (a' := ?_) (some 81) rfl rfl (by rfl) ?_ ?_
          rotate_left
          · simp only [Act.put, List.setIfInBounds_toArray, List.set_cons_zero, List.set_cons_succ]; rfl
          refine seq_skip (a' := ?_) (some 83) rfl rfl (by rfl) ?_ ?_
          rotate_left
          · simp only [Act.put, List.setIfInBounds_toArray, List.set_cons_zero, List.set_cons_succ]; rfl
          refine seq_skip (a' := ?_) (some 84) rfl rfl (by rfl) ?_ ?_
          rotate_left
          · simp only [Act.put, List.setIfInBounds_toArray, List.set_cons_zero, List.set_cons_succ]; rfl
          refine seq_skip1 (a' := ?_) (some 82) rfl rfl (by rfl) ?_ hB ?_
          rotate_left
          · simp only [Act.put, List.setIfInBounds_toArray, List.set_cons_zero, List.set_cons_succ]; rfl
          refine seq_skip (a' := ?_) (some 85) rfl rfl (by rfl) ?_ ?_
          rotate_left
          · simp only [Act.put, List.setIfInBounds_toArray, List.set_cons_zero, List.set_cons_succ]; rfl
          refine seq_take (v := ?_) (a' := ?_) (some 86) rfl rfl (by rfl) ?_ ?_ ?_
          rotate_left; rotate_left
          · intro w' hS; go_simp; with_reducible rfl
          · simp only [Act.put, List.setIfInBounds_toArray, List.set_cons_zero, List.set_cons_succ]; rfl
          refine seq_take (v := ?_) (a' := ?_) (some 87) rfl rfl (by rfl) ?_ ?_ ?_
          rotate_left; rotate_left
          · intro w' hS; go_simp; with_reducible rfl
          · simp only [Act.put, List.setIfInBounds_toArray, List.set_cons_zero, List.set_cons_succ]; rfl
          refine seq_take (v := ?_) (a' := ?_) (some 88) rfl rfl (by rfl) ?_ ?_ ?_
          rotate_left; rotate_left
          · intro w' hS; go_simp; with_reducible rfl
          · simp only [Act.put, List.setIfInBounds_toArray, List.set_cons_zero, List.set_cons_succ]; rfl
          refine seq_take (v := ?_) (a' := ?_) (some 89) rfl rfl (by rfl) ?_ ?_ ?_
          rotate_left; rotate_left
          · intro w' hS; go_simp; with_reducible rfl
          · simp only [Act.put, List.setIfInBounds_toArray, List.set_cons_zero, List.set_cons_succ]; rfl
          refine seq_take (v := ?_) (a' := ?_) (some 90) rfl rfl (by rfl) ?_ ?_ ?_
          rotate_left; rotate_left
          · intro w' hS; go_simp; with_reducible rfl
          · simp only [Act.put, List.setIfInBounds_toArray, List.set_cons_zero, List.set_cons_succ]; rfl
          refine seq_take (v := ?_) (a' := ?_) (some 91) rfl rfl (by rfl) ?_ ?_ ?_
          rotate_left; rotate_left
          · intro w' hS; go_simp; with_reducible rfl
          · simp only [Act.put, List.setIfInBounds_toArray, List.set_cons_zero, List.set_cons_succ]; rfl
          refine seq_take (v := ?_) (a' := ?_) (some 92) rfl rfl (by rfl) ?_ ?_ ?_
          rotate_left; rotate_left
          · intro w' hS; go_simp; with_reducible rfl
          · simp only [Act.put, List.setIfInBounds_toArray, List.set_cons_zero, List.set_cons_succ]; rfl
          refine seq_take (v := ?_) (a' := ?_) (some 93) rfl rfl (by rfl) ?_ ?_ ?_
          rotate_left; rotate_left
          · intro w' hS; go_simp; with_reducible rfl
          · simp only [Act.put, List.setIfInBounds_toArray, List.set_cons_zero, List.set_cons_succ]; rfl
          refine seq_take (v := ?_) (a' := ?_) (some 94) rfl rfl (by rfl) ?_ ?_ ?_
          rotate_left; rotate_left
          · intro w' hS; go_simp; with_reducible rfl
          · simp only [Act.put, List.setIfInBounds_toArray, List.set_cons_zero, List.set_cons_succ]; rfl
          refine seq_take (v := ?_) (a' := ?_) (some 95) rfl rfl (by rfl) ?_ ?_ ?_
          rotate_left; rotate_left
          · intro w' hS; go_simp; with_reducible rfl
          · simp only [Act.put, List.setIfInBounds_toArray, List.set_cons_zero, List.set_cons_succ]; rfl
          refine seq_take (v := ?_) (a' := ?_) (some 96) rfl rfl (by rfl) ?_ ?_ ?_
          rotate_left; rotate_left
          · intro w' hS; have q0 := cb hS k0; have q1 := cb hS k1; have q2 := cb hS k2; have q3 := cb hS o3; go_simp; with_reducible rfl
          · simp only [Act.put, List.setIfInBounds_toArray, List.set_cons_zero, List.set_cons_succ]; rfl
          refine seq_take (v := ?_) (a' := ?_) (some 98) rfl rfl (by rfl) ?_ ?_ ?_
          rotate_left; rotate_left
          · intro w' hS; go_simp; with_reducible rfl
          · simp only [Act.put, List.setIfInBounds_toArray, List.set_cons_zero, List.set_cons_succ]; rfl
          refine seq_call (args := ?_) Try.func53 (by kernel_rfl) rfl (some 97) rfl rfl (by rfl) rfl ?_ ?_
          rotate_left
          · simp only [List.map_toArray, List.map_cons, List.map_nil]; go_simp; rfl
          with_reducible refine (HKZ.out _ hB).mono ?_
          rintro e w' ⟨rfl, hb⟩
          refine ⟨_, rfl, bl_next (by repeat (first | with_reducible exact hB | refine Below.alloc ?_ (by have := hB.size; simp; omega) _ | refine bl_dN ?_ _ | refine Below.drew ?_ | refine Below.setCell ?_ (by have := hB.size; simp; omega) _)) hb, ?_⟩
          have hB := bl_next (by repeat (first | with_reducible exact hB | refine Below.alloc ?_ (by have := hB.size; simp; omega) _ | refine bl_dN ?_ _ | refine Below.drew ?_ | refine Below.setCell ?_ (by have := hB.size; simp; omega) _)) hb; clear hb
          simp only [Act.put, List.setIfInBounds_toArray, List.set_cons_zero, List.set_cons_succ]
          refine seq_take (v := ?_) (a' := ?_) (some 99) rfl rfl (by rfl) ?_ ?_ ?_
          rotate_left; rotate_left
          · intro w' hS; go_simp; with_reducible rfl
          · simp only [Act.put, List.setIfInBounds_toArray, List.set_cons_zero, List.set_cons_succ]; rfl
          refine seq_take (v := ?_) (a' := ?_) (some 100) rfl rfl (by rfl) ?_ ?_ ?_
          rotate_left; rotate_left
          · intro w' hS; go_simp; with_reducible rfl
          · simp only [Act.put, List.setIfInBounds_toArray, List.set_cons_zero, List.set_cons_succ]; rfl
          refine seq_take (v := ?_) (a' := ?_) (some 101) rfl rfl (by rfl) ?_ ?_ ?_
          rotate_left; rotate_left
          · intro w' hS; go_simp; with_reducible rfl
          · simp only [Act.put, List.setIfInBounds_toArray, List.set_cons_zero, List.set_cons_succ]; rfl
          refine seq_take (v := ?_) (a' := ?_) (some 102) rfl rfl (by rfl) ?_ ?_ ?_
          rotate_left; rotate_left
          · intro w' hS; go_simp; with_reducible rfl
          · simp only [Act.put, List.setIfInBounds_toArray, List.set_cons_zero, List.set_cons_succ]; rfl
          refine seq_done ?_
          refine name_exit ?_
          intro S hS
          have hB : Below Z.heap.size Z S := by rw [hS]; exact hB
          clear hS
          have HBS := Lib.hid (bl_next HBZ.out hB)
          have HCS := Lib.hid (HCZ.out.below hB)
          have HDS := Lib.hid (HDZ.out.below hB)
          have d0 := (QX.out.below HBS.out).c0
          have d1 := (QX.out.below HBS.out).c1
          have d2 := (QX.out.below HBS.out).c2
          have d3 := (QX.out.below HBS.out).c3
          have d4 := (QX.out.below HBS.out).c4
          have d5 := (QX.out.below HBS.out).c5
          have d6 := (QX.out.below HBS.out).c6
          have d7 := (QX.out.below HBS.out).c7
          have d8 := (QX.out.below HBS.out).c8
          have d9 := (QX.out.below HBS.out).c9
          have d10 := (QX.out.below HBS.out).c10
          clear hB k0 k1 k2 o3 HCZ HDZ HBZ HKZ HFZ
          cases rr
          all_goals go_wp2_with (go_at_call 21; refine (HEV.out _ HBS.out).mono ?_; rintro e w8 ⟨rfl, hb⟩; have HC8 := Lib.hid (HCS.out.below hb); have HD8 := Lib.hid (HDS.out.below hb); have HB8 := Lib.hid (bl_next HBS.out hb); clear hb)
          all_goals go_roundw
          case rel => exact ⟨k + 1, n, c, A, fl1, ob1, gb1, M1, G1, dn, by simp, rfl, by omega, HC8, HD8, HB8⟩
          case measure => simp [intOf]; omega
          case rel => exact ⟨k + 1, n, c, A, fl1, ob1, gb1, M1, G1, dn, by simp, rfl, by omega, HC8, HD8, HB8⟩
          case measure => simp [intOf]; omega
    · obtain rfl : k = xs.length := by omega
      have HCI := Lib.hid (fun (U : World) (hb : Below wr.heap.size wr U) => HC.out.below hb)
      have HDI := Lib.hid (fun (U : World) (hb : Below wr.heap.size wr U) => HD.out.below hb)
      have hnl : n ≤ xs.length := HD.out.2.2.1
      have hdl : dn.length = n := HD.out.2.1
      obtain ⟨V, rfl⟩ : ∃ U : World, U = wr := ⟨_, rfl⟩
      clear hkl
      go_wp2_with fail
      go_loopw [17] (fun s17 wr => ∃ (j : Nat), s17 = .int .i64 (j : Int) ∧ j ≤ n ∧ Hid (Below V.heap.size V wr)) (fun s17 _ => n - (intOf s17).toNat)
      case atStart => exact ⟨0, rfl, Nat.zero_le _, Lib.hid (Below.refl _ _)⟩
      case round =>
        obtain ⟨j, rfl, hj, HBj⟩ := hrel
        by_cases hjl : j < n
        · have hjI : (j : Int) < n := by omega
          have hjd : j < dn.length := by omega
          have hin := HD.out.2.2.2 _ (List.getElem_mem hjd)
          obtain ⟨b, of, c9, he, q⟩ := ex_at (v := .slice A n c) (by have h := sliS_of HD.out.1; rw [hdl]; exact h) hjd
          rw [hdl] at he
          cases he
          generalize dn[j]'hjd = x at q hin
          have s := HXW.out.2 x hin.1
          have hsmo := HSM.out x hin.1
          have he6 : appErr x.ev fl (mo M) G = 6 := by unfold appErr; rw [if_neg (by rw [hin.2.1]; decide), if_pos hin.2.2]
          have HBWj := Lib.hid (bl_next HBr.out HBj.out)
          have HAP := Lib.hid (cappI_calls wr (HCI.out wr HBj.out) HBWj.out.size (by omega) (s.below HBWj.out) hsmo he6)
          obtain ⟨ao, co, hao⟩ := s.obj.1.form
          obtain ⟨az, cz, haz⟩ := s.objs.form
          obtain ⟨kd, o, so, vr, ol, zs⟩ := x
          simp only at hao haz q
          subst hao; subst haz
          unfold evV at HAP
          have q := q.below HBj.out
          have d0 := q.c0
          have d1 := q.c1
          have d2 := q.c2
          have d3 := q.c3
          have d4 := q.c4
          have d5 := q.c5
          have d6 := q.c6
          have d7 := q.c7
          have d8 := q.c8
          have d9 := q.c9
          have d10 := q.c10
          clear q s hsmo he6 hin hjd HBWj
          go_upto_region 25 with (go_at_call 44; refine HAP.out.mono ?_; rintro e w4 ⟨A4, n4, c4, rfl, ha⟩; have HA := Lib.hid ha; clear ha)
          have HB4 := Lib.hid (show Below wr.heap.size wr w4 by
            rcases HA.out with ⟨_, h⟩ | ⟨h, _⟩
            · exact h
            · exact absurd h (by decide))
          clear d0 d1 d2 d3 d4 d5 d6 d7 d8 d9 d10 HAP HA
          go_wp2_with fail
          go_roundw
          case rel => exact ⟨j + 1, by simp, by omega, Lib.hid (bl_next HBj.out HB4.out)⟩
          case measure => simp [intOf]; omega
        · obtain rfl : j = n := by omega
          go_wp2_with (go_at_call 42; refine (alive8_calls _).mono ?_; rintro e w' ⟨rfl, hb⟩; have HB2 := Lib.hid (bl_next HBj.out hb); clear hb)
          go_ret
          exact ⟨rfl, bl_from HBw.out (bl_next HBr.out HB2.out)⟩
end Go.Proofs.Ythhfcambdmdgfaa

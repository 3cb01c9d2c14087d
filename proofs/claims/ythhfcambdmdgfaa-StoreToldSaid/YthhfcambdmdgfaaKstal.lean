import Derived.Test.YthhfcambdmdgfaaKstak
import Derived.Test.YthhfcambdmdgfaaKstaa
import Derived.OrdersHeld
import Derived.OrdersIn
import Derived.RangeFuncCalls
namespace Go.Proofs.Ythhfcambdmdgfaa
open Go.RowKit Go.Shelf Go.Maps
set_option linter.unusedVariables false
set_option linter.unusedSimpArgs false
theorem cloneO_calls (w : World) {ob : Nat} {M : AM KS OX} (h : OMap w ob M) : Calls Try.prog 90 #[.map (some ob)] w fun e w' => e = .returned (.map (some w.heap.size)) ∧ OMap w' w.heap.size M ∧ Below w.heap.size w w' := by
  have hcon : Calls Try.prog 90 #[.map (some ob)] w _ := AnyW.maps_Clone_owns Try.cloneO 24 RV ob M.length _ w h
  exact hcon.mono fun e w' ⟨h1, h2, _, h3⟩ => ⟨h1, h2, h3⟩
theorem cloneG_calls (w : World) {gb : Nat} {G : AM KS Int} (h : GMap w gb G) : Calls Try.prog 91 #[.map (some gb)] w fun e w' => e = .returned (.map (some w.heap.size)) ∧ GMap w' w.heap.size G ∧ Below w.heap.size w w' := by
  have hcon : Calls Try.prog 91 #[.map (some gb)] w _ := AnyW.maps_Clone_owns Try.cloneG 24 RV gb G.length _ w h
  exact hcon.mono fun e w' ⟨h1, h2, _, h3⟩ => ⟨h1, h2, h3⟩
noncomputable def keepD {β : Type} (G : AM KS β) (pd : KS → β → Bool) (left : Lit → Bool) : AM KS β := G.filter fun q => left (kL q.1) || !pd q.1 q.2
def dropG {β : Type} (G : AM KS β) (pd : KS → β → Bool) : AM KS β := G.filter fun q => !pd q.1 q.2
section
variable {β : Type} {G : AM KS β} {pd : KS → β → Bool} {left : Lit → Bool} {f : β → Value}
theorem keep_start : keepD G pd (Maps.has (dmA kL f G)) = G := by
  unfold keepD
  rw [List.filter_eq_self]
  intro q hq
  rw [has_dmA kL_lit]
  have : hasA G q.1 = true := by unfold hasA; rw [List.any_eq_true]; exact ⟨q, hq, by simp⟩
  rw [this]; rfl
theorem keep_end (h : ∀ z, left z = false) : keepD G pd left = dropG G pd := by
  unfold keepD dropG
  congr 1; funext q; rw [h]; rfl
theorem keep_del (hk : (G.map (·.1)).Nodup) {p : KS × β} (hp : p ∈ G) (h : pd p.1 p.2 = true) : keepD G pd (fun z => left z && !z.sameKey (kL p.1)) = delA (keepD G pd left) p.1 := by
  unfold keepD delA
  rw [List.filter_filter]
  apply List.filter_congr
  intro q hq
  show (left (kL q.1) && !(kL q.1).sameKey (kL p.1) || !pd q.1 q.2) = _
  rw [kL_lit.same]
  by_cases e : q.1 = p.1
  · obtain rfl : q = p := fst_inj hk hq hp e
    simp [h]
  · simp [e]
theorem keep_stay (hk : (G.map (·.1)).Nodup) {p : KS × β} (hp : p ∈ G) (h : pd p.1 p.2 = false) : keepD G pd (fun z => left z && !z.sameKey (kL p.1)) = keepD G pd left := by
  unfold keepD
  apply List.filter_congr
  intro q hq
  show (left (kL q.1) && !(kL q.1).sameKey (kL p.1) || !pd q.1 q.2) = _
  rw [kL_lit.same]
  by_cases e : q.1 = p.1
  · obtain rfl : q = p := fst_inj hk hq hp e
    simp [h]
  · simp [e]
theorem keep_mem {p : KS × β} : p ∈ keepD G pd left ↔ p ∈ G ∧ (left (kL p.1) = true ∨ pd p.1 p.2 = false) := by unfold keepD; simp
theorem entry_in {M : AM KS β} {kl : Lit} {c : Value} {yd : DataW Value} {yp : List MemPlace} (hl : Maps.has (dmA kL f M) kl = true) (hv : RV c = some (yd, yp)) (hat : ∀ zd, (dmA kL f M).atKey kl zd = yd) :
    ∃ p ∈ M, kl = kL p.1 ∧ c = f p.2 := by
  obtain ⟨q, hq, rfl⟩ := entry_key hl
  rw [has_dmA kL_lit, hasA_get] at hl
  obtain ⟨v, hg⟩ := Option.isSome_iff_exists.1 hl
  refine ⟨(q.1, v), getA_mem hg, rfl, ?_⟩
  have z := val_dmA kL_lit f M q.1 (.int .i64 0)
  rw [hg] at z
  unfold valAt at z
  rw [hat] at z
  cases hv
  exact z
theorem has_keep {z : Lit} (hl : Maps.has (dmA kL f G) z = true) (h : left z = true) : Maps.has (dmA kL f (keepD G pd left)) z = true := by
  obtain ⟨q, hq, rfl⟩ := entry_key hl
  rw [has_dmA kL_lit]
  unfold hasA; rw [List.any_eq_true]
  exact ⟨q, keep_mem.2 ⟨hq, .inl h⟩, by simp⟩
end
set_option maxRecDepth 100000 in
set_option maxHeartbeats 4000000 in
theorem next1_calls (w : World) (k : KS) (v fl : Int) {pb np : Nat} (hp : w.cell? ⟨pb, 0, none⟩ = some (.pointer (some ⟨np, 0, none⟩))) (hf : w.cell? ⟨np, 2, none⟩ = some (.int .i64 fl)) :
    Calls Try.prog 94 #[.agg #[.string k.1.kind, .string k.1.space, .string k.1.name], .int .i64 v, .pointer (some ⟨pb, 0, none⟩)] w fun e w' => e = .returned (.bool (decide (v ≤ fl))) ∧ Below w.heap.size w w' := by
  have hp' := lt_of_cell hp
  have hf' := lt_of_cell hf
  obtain ⟨b, hb⟩ : ∃ b, decide (v ≤ fl) = b := ⟨_, rfl⟩
  have HE := Lib.hid hb
  go_enter Try.func94, Try.ntmps94
  go_wp2_with fail
  all_goals go_ret
  all_goals exact ⟨ret_bool (by first | rfl | simp [*] | (simp; omega)), (Below.refl _ _).alloc (Nat.le_refl _) _⟩
theorem mv_ne {w : World} {b n : Nat} {D : DataW Value} {K : TypeId} (h : w.ownsMap Try.prog K RV b n D) {g j : Nat} {v : Value} (hc : w.cell? ⟨g, j, none⟩ = some v) : g ≠ b := by
  rintro rfl
  obtain ⟨es, clock, hb, _⟩ := h
  simp [World.cell?, hb] at hc
set_option maxRecDepth 100000 in
set_option maxHeartbeats 8000000 in
theorem delG_calls (w : World) {b : Nat} {G : AM KS Int} (h : w.ownsMap Try.prog 24 RV b G.length (dmA kL gV G)) (hK : (G.map (·.1)).Nodup) {pb np : Nat} {fl : Int} (hp : w.cell? ⟨pb, 0, none⟩ = some (.pointer (some ⟨np, 0, none⟩))) (hf : w.cell? ⟨np, 2, none⟩ = some (.int .i64 fl)) :
    Calls Try.prog 93 #[.map (some b), .func (.func 94) #[] #[.pointer (some ⟨pb, 0, none⟩)]] w fun e w' => e = .returned (.tuple #[]) ∧ w'.ownsMap Try.prog 24 RV b (dropG G (fun _ v => decide (v ≤ fl))).length (dmA kL gV (dropG G (fun _ v => decide (v ≤ fl)))) ∧ Kept (fun k => k = b) w w' := by
  have HK := Lib.hid hK
  have hpb : pb ≠ b := mv_ne h hp
  have hnb : np ≠ b := mv_ne h hf
  have HX := Lib.hid (And.intro hp (And.intro hf (And.intro hpb hnb)))
  clear hp hf hK hpb hnb
  go_enter Try.func93, Try.ntmps93
  go_wp2_with (at_range; refine wpList_range_own _ rfl _ 96 rfl 24 2 kS_keyed Try.underlying96 RV b G.length (dmA kL gV G) rfl h ?_; intro w0 hrg0 hg0 hs0)
  try go_frame
  have HLT := Lib.hid h.lt
  clear h
  go_loopw [8] (fun _ wr => ∃ (left : Lit → Bool) (cnt : Nat), Hid (wr.ranges Try.prog 24 RV b w.heap.size G.length (dmA kL gV (keepD G (fun _ v => decide (v ≤ fl)) left)) left cnt) ∧ Hid ((∀ z, left z = true → Maps.has (dmA kL gV G) z = true) ∧ Kept (fun k => k = b) w wr)) (fun _ wr => wr.rangeLeft b w.heap.size)
  case atStart => exact ⟨_, _, Lib.hid (by rw [keep_start]; exact hrg0), Lib.hid ⟨fun z h => h, (Kept.refl _ _).grown hg0 (fun j hj => by cases hj)⟩⟩
  case round =>
    clear hrg0 hg0 hs0
    obtain ⟨left, cnt, HRG, HI⟩ := hrel
    have hrg := HRG.out
    go_wp2_with (at_next; refine wpList_next_ranges _ rfl _ rfl 24 kS_keyed RV (fun x : Value => x) (fun x : Value => x) (fun key kl _ => ⟨key, rfl⟩) (fun v y _ => ⟨v, rfl⟩) b w.heap.size G.length _ _ _ rfl hrg ?_ ?_)
    · intro _ hl0
      have HO := Lib.hid (show wr.ownsMap Try.prog 24 RV b G.length (dmA kL gV (dropG G (fun _ v => decide (v ≤ fl)))) by have q := hrg.owns; rw [keep_end hl0] at q; exact q)
      clear hrg
      go_wp2_with fail
      go_end0
      refine ⟨rfl, ?_, HI.out.2⟩
      have q := mv_tight HO.out
      rw [size_dmA kL_lit] at q
      exact q
    · intro x c kl yd yp w1 cnt1 hkx hlk hcy hat hrg1 hlt hg1 hs1 hen
      obtain ⟨p, hp, rfl, rfl⟩ := entry_in (has_keep (HI.out.1 _ hlk) hlk) hcy hat
      obtain rfl := key_of hkx
      have HP := Lib.hid (keep_mem.1 hp).1
      have HRG1 := Lib.hid hrg1
      have HKW := Lib.hid (HI.out.2.grown hg1 (fun j hj => by cases hj; exact .inr (Nat.le_refl _)))
      have HLT2 := Lib.hid hlt; have HLE := Lib.hid hrg.left_eq; have HKX := Lib.hid hkx
      have HLL := Lib.hid (show ∀ z, (left z && !z.sameKey (kL p.1)) = true → Maps.has (dmA kL gV G) z = true from fun z hz => by
        simp only [Bool.and_eq_true] at hz
        exact HI.out.1 z hz.1)
      unfold keyV at hen
      obtain ⟨k, v⟩ := p
      simp only [gV] at hen
      have q0 := HKW.out.cell HX.out.1 HX.out.2.2.1
      have q1 := HKW.out.cell HX.out.2.1 HX.out.2.2.2
      clear hrg hkx hlk hcy hat hrg1 hlt hg1 hs1 hp
      have hkx2 : keyOf Try.prog 24 (.agg #[.string k.1.kind, .string k.1.space, .string k.1.name]) = some (kL k) := HKX.out
      go_upto_region 3 with fail
      first | with_reducible refine name_wp ?_ | with_reducible refine name_calls ?_
      intro V hV
      have hbV : Below w1.heap.size w1 V := by rw [hV]; exact (Below.refl _ _).alloc (Nat.le_refl _) _
      have d0 : V.cell? ⟨w1.heap.size, 0, none⟩ = some (.string k.1.kind) := by rw [hV]; exact blk_cell (blk_new w1 _) 0
      have d1 : V.cell? ⟨w1.heap.size, 1, none⟩ = some (.string k.1.space) := by rw [hV]; exact blk_cell (blk_new w1 _) 1
      have d2 : V.cell? ⟨w1.heap.size, 2, none⟩ = some (.string k.1.name) := by rw [hV]; exact blk_cell (blk_new w1 _) 2
      have HRV := Lib.hid (ranges_kept HRG1.out (kept_of_below (X := fun _ => False) hbV) (fun q => q) (fun q => q))
      have HKV := Lib.hid (HKW.out.trans (kept_of_below (X := fun _ => False) hbV) (fun _ q => q.elim))
      have q0 := cb hbV q0
      have q1 := cb hbV q1
      clear hV hbV hen
      obtain ⟨pv, hpd⟩ : ∃ pv, (decide (v ≤ fl)) = pv := ⟨_, rfl⟩
      have HPD := Lib.hid hpd
      cases pv with
      | true =>
        have HD := Lib.hid (keep_del (left := left) (pd := (fun _ v => decide (v ≤ fl))) HK.out HP.out hpd)
        clear hpd
        go_wp2_with (first | (go_at_call 94; refine (next1_calls _ k v fl q0 q1).mono ?_; rintro e w2 ⟨rfl, hb⟩; rw [HPD.out]; have hrg2 := ranges_kept HRV.out (kept_of_below (X := fun _ => False) hb) (fun q => q) (fun q => q); have d0 := cb hb d0; have d1 := cb hb d1; have d2 := cb hb d2; have HK2 := Lib.hid (HKV.out.trans (kept_of_below (X := fun _ => False) hb) (fun _ q => q.elim)); clear hb) | (at_delete; refine wpList_delete_ranges _ rfl _ _ 96 24 rfl 2 kS_keyed Try.underlying96 RV b w.heap.size G.length _ _ _ rfl hrg2 _ _ rfl hkx2 ?_; intro w3 cnt3 hrg3 hle hturn; try go_frame))
        rw [Maps.strike_twice, del_dmA kL_lit] at hrg3
        have HR3 := Lib.hid hrg3
        have HK3 := Lib.hid (HK2.out.trans (kept_turned hturn) (fun _ q => .inl q))
        clear hrg3 hturn hrg2
        go_roundw
        case rel => exact ⟨_, cnt3, Lib.hid (by rw [HD.out]; exact HR3.out), Lib.hid ⟨HLL.out, HK3.out⟩⟩
        case measure => rw [HR3.out.left_eq, HLE.out]; have := HLT2.out; omega
      | false =>
        have HD := Lib.hid (keep_stay (left := left) (pd := (fun _ v => decide (v ≤ fl))) HK.out HP.out hpd)
        clear hpd
        go_wp2_with (go_at_call 94; refine (next1_calls _ k v fl q0 q1).mono ?_; rintro e w2 ⟨rfl, hb⟩; rw [HPD.out]; have HR2 := Lib.hid (ranges_kept HRV.out (kept_of_below (X := fun _ => False) hb) (fun q => q) (fun q => q)); have HK2 := Lib.hid (HKV.out.trans (kept_of_below (X := fun _ => False) hb) (fun _ q => q.elim)); clear hb)
        go_roundw
        case rel => exact ⟨_, cnt1, Lib.hid (by rw [HD.out]; exact HR2.out), Lib.hid ⟨HLL.out, HK2.out⟩⟩
        case measure => rw [HR2.out.left_eq, HLE.out]; exact HLT2.out
def bV (b : Bool) : Value := .bool b
def inLB (B : AM KS Bool) (k : KS) : Bool := (getA B k).getD false
theorem zero_bool (w : World) : (zeroValue 4).run Try.prog w = .ok (.bool false) w := by kernel_rfl
theorem look_bool {w : World} {lb n : Nat} {B : AM KS Bool} (h : w.ownsMap Try.prog 24 RV lb n (dmA kL bV B)) (k : KS) : (Instr.lookup 134 (.map (some lb)) (.agg #[.string k.1.kind, .string k.1.space, .string k.1.name]) false).run Try.prog w = .ok (.bool (inLB B k)) w := by
  have q := mv_look h kS_keyed Try.underlying134 (zero_bool w) (kL_key k)
  rw [val_dmA kL_lit bV B k (.bool false)] at q
  unfold inLB
  cases hg : getA B k with
  | none => rw [hg] at q; exact q
  | some v => rw [hg] at q; exact q
set_option maxRecDepth 100000 in
set_option maxHeartbeats 4000000 in
theorem relist1_calls (w : World) (k : KS) (o : ObjD) (A : Option Addr) (n c : Nat) {lb m pb eb : Nat} {B : AM KS Bool} {ev : Int} (hl : w.ownsMap Try.prog 24 RV lb m (dmA kL bV B)) (hp : w.cell? ⟨pb, 0, none⟩ = some (.map (some lb))) (he : w.cell? ⟨eb, 9, none⟩ = some (.int .i64 ev)) :
    Calls Try.prog 110 #[.agg #[.string k.1.kind, .string k.1.space, .string k.1.name], .agg #[.string o.key.kind, .string o.key.space, .string o.key.name, .int .i64 o.ver, .string o.cls, .bool o.term, .bool o.best, .slice A n c], .pointer (some ⟨pb, 0, none⟩), .pointer (some ⟨eb, 0, none⟩)] w fun e w' => e = .returned (.bool (!inLB B k && decide (o.ver ≤ ev))) ∧ Below w.heap.size w w' := by
  have hp' := lt_of_cell hp
  have he' := lt_of_cell he
  have hlb := look_bool (mv_below hl (((Below.refl w.heap.size w).alloc (Nat.le_refl _) (.cells #[.string k.1.kind, .string k.1.space, .string k.1.name] 24)).alloc (by simp) (.cells #[.string o.key.kind, .string o.key.space, .string o.key.name, .int .i64 o.ver, .string o.cls, .bool o.term, .bool o.best, .slice A n c] 27))) k
  clear hl
  cases hi : inLB B k with
  | true =>
    rw [hi] at hlb
    clear hi
    go_enter Try.func110, Try.ntmps110
    go_wp2_with fail
    go_ret
    exact ⟨rfl, ((Below.refl _ _).alloc (Nat.le_refl _) _).alloc (by simp) _⟩
  | false =>
    rw [hi] at hlb
    clear hi
    go_enter Try.func110, Try.ntmps110
    go_wp2_with fail
    all_goals go_ret
    all_goals exact ⟨ret_bool (by first | rfl | simp [*] | (simp; omega)), ((Below.refl _ _).alloc (Nat.le_refl _) _).alloc (by simp) _⟩
set_option maxRecDepth 100000 in
set_option maxHeartbeats 8000000 in
theorem delO_calls (w : World) {b : Nat} {G : AM KS OX} (h : w.ownsMap Try.prog 24 RV b G.length (dmA kL fO G)) (hK : (G.map (·.1)).Nodup) (hform : ∀ q ∈ G, ∃ A n c, q.2.2 = .slice A n c) {lb m pb eb : Nat} {B : AM KS Bool} {ev : Int} (hl : w.ownsMap Try.prog 24 RV lb m (dmA kL bV B)) (hne : lb ≠ b) (hp : w.cell? ⟨pb, 0, none⟩ = some (.map (some lb))) (he : w.cell? ⟨eb, 9, none⟩ = some (.int .i64 ev)) :
    Calls Try.prog 109 #[.map (some b), .func (.func 110) #[] #[.pointer (some ⟨pb, 0, none⟩), .pointer (some ⟨eb, 0, none⟩)]] w fun e w' => e = .returned (.tuple #[]) ∧ w'.ownsMap Try.prog 24 RV b (dropG G (fun k (v : OX) => !inLB B k && decide (v.1.ver ≤ ev))).length (dmA kL fO (dropG G (fun k (v : OX) => !inLB B k && decide (v.1.ver ≤ ev)))) ∧ Kept (fun k => k = b) w w' := by
  have HK := Lib.hid hK
  have hpb : pb ≠ b := mv_ne h hp
  have heb : eb ≠ b := mv_ne h he
  have HX := Lib.hid (And.intro hp (And.intro he (And.intro hpb heb)))
  have HLB := Lib.hid (And.intro hl hne)
  have HF := Lib.hid hform
  clear hp he hK hpb heb hl hne hform
  go_enter Try.func109, Try.ntmps109
  go_wp2_with (at_range; refine wpList_range_own _ rfl _ 92 rfl 24 27 kS_keyed Try.underlying92 RV b G.length (dmA kL fO G) rfl h ?_; intro w0 hrg0 hg0 hs0)
  try go_frame
  have HLT := Lib.hid h.lt
  clear h
  go_loopw [8] (fun _ wr => ∃ (left : Lit → Bool) (cnt : Nat), Hid (wr.ranges Try.prog 24 RV b w.heap.size G.length (dmA kL fO (keepD G (fun k (v : OX) => !inLB B k && decide (v.1.ver ≤ ev)) left)) left cnt) ∧ Hid ((∀ z, left z = true → Maps.has (dmA kL fO G) z = true) ∧ Kept (fun k => k = b) w wr)) (fun _ wr => wr.rangeLeft b w.heap.size)
  case atStart => exact ⟨_, _, Lib.hid (by rw [keep_start]; exact hrg0), Lib.hid ⟨fun z h => h, (Kept.refl _ _).grown hg0 (fun j hj => by cases hj)⟩⟩
  case round =>
    clear hrg0 hg0 hs0
    obtain ⟨left, cnt, HRG, HI⟩ := hrel
    have hrg := HRG.out
    go_wp2_with (at_next; refine wpList_next_ranges _ rfl _ rfl 24 kS_keyed RV (fun x : Value => x) (fun x : Value => x) (fun key kl _ => ⟨key, rfl⟩) (fun v y _ => ⟨v, rfl⟩) b w.heap.size G.length _ _ _ rfl hrg ?_ ?_)
    · intro _ hl0
      have HO := Lib.hid (show wr.ownsMap Try.prog 24 RV b G.length (dmA kL fO (dropG G (fun k (v : OX) => !inLB B k && decide (v.1.ver ≤ ev)))) by have q := hrg.owns; rw [keep_end hl0] at q; exact q)
      clear hrg
      go_wp2_with fail
      go_end0
      refine ⟨rfl, ?_, HI.out.2⟩
      have q := mv_tight HO.out
      rw [size_dmA kL_lit] at q
      exact q
    · intro x c kl yd yp w1 cnt1 hkx hlk hcy hat hrg1 hlt hg1 hs1 hen
      obtain ⟨p, hp, rfl, rfl⟩ := entry_in (has_keep (HI.out.1 _ hlk) hlk) hcy hat
      obtain rfl := key_of hkx
      have HP := Lib.hid (keep_mem.1 hp).1
      have HRG1 := Lib.hid hrg1
      have HKW := Lib.hid (HI.out.2.grown hg1 (fun j hj => by cases hj; exact .inr (Nat.le_refl _)))
      have HLT2 := Lib.hid hlt; have HLE := Lib.hid hrg.left_eq; have HKX := Lib.hid hkx
      have HLL := Lib.hid (show ∀ z, (left z && !z.sameKey (kL p.1)) = true → Maps.has (dmA kL fO G) z = true from fun z hz => by
        simp only [Bool.and_eq_true] at hz
        exact HI.out.1 z hz.1)
      unfold keyV at hen
      obtain ⟨k, v⟩ := p
      obtain ⟨o, so⟩ := v
      obtain ⟨A, n9, c9, hso⟩ := HF.out _ HP.out
      simp only at hso
      subst hso
      have hen2 : (Instr.entry (.pointer (some ⟨w.heap.size, 0, none⟩))).run Try.prog w1 = .ok (.tuple #[.agg #[.string k.1.kind, .string k.1.space, .string k.1.name], .agg #[.string o.key.kind, .string o.key.space, .string o.key.name, .int .i64 o.ver, .string o.cls, .bool o.term, .bool o.best, .slice A n9 c9]]) w1 := hen
      clear hen
      have hen := hen2
      clear hen2
      have q0 := HKW.out.cell HX.out.1 HX.out.2.2.1
      have q1 := HKW.out.cell HX.out.2.1 HX.out.2.2.2
      have HL1 := Lib.hid (mv_kept HLB.out.1 HKW.out HLB.out.2)
      clear hrg hkx hlk hcy hat hrg1 hlt hg1 hs1 hp
      have hkx2 : keyOf Try.prog 24 (.agg #[.string k.1.kind, .string k.1.space, .string k.1.name]) = some (kL k) := HKX.out
      go_upto_region 3 with fail
      first | with_reducible refine name_wp ?_ | with_reducible refine name_calls ?_
      intro V hV
      have hbV : Below w1.heap.size w1 V := by rw [hV]; exact ((Below.refl _ _).alloc (Nat.le_refl _) _).alloc (by simp) _
      have d0 : V.cell? ⟨w1.heap.size, 0, none⟩ = some (.string k.1.kind) := by rw [hV]; exact blk_cell (blk_old (blk_new w1 _) _) 0
      have d1 : V.cell? ⟨w1.heap.size, 1, none⟩ = some (.string k.1.space) := by rw [hV]; exact blk_cell (blk_old (blk_new w1 _) _) 1
      have d2 : V.cell? ⟨w1.heap.size, 2, none⟩ = some (.string k.1.name) := by rw [hV]; exact blk_cell (blk_old (blk_new w1 _) _) 2
      have o0 : V.cell? ⟨w1.heap.size + 1, 0, none⟩ = some (.string o.key.kind) := by rw [hV]; exact blk_cell (blk_new1 w1 _ _) 0
      have o1 : V.cell? ⟨w1.heap.size + 1, 1, none⟩ = some (.string o.key.space) := by rw [hV]; exact blk_cell (blk_new1 w1 _ _) 1
      have o2 : V.cell? ⟨w1.heap.size + 1, 2, none⟩ = some (.string o.key.name) := by rw [hV]; exact blk_cell (blk_new1 w1 _ _) 2
      have o3 : V.cell? ⟨w1.heap.size + 1, 3, none⟩ = some (.int .i64 o.ver) := by rw [hV]; exact blk_cell (blk_new1 w1 _ _) 3
      have o4 : V.cell? ⟨w1.heap.size + 1, 4, none⟩ = some (.string o.cls) := by rw [hV]; exact blk_cell (blk_new1 w1 _ _) 4
      have o5 : V.cell? ⟨w1.heap.size + 1, 5, none⟩ = some (.bool o.term) := by rw [hV]; exact blk_cell (blk_new1 w1 _ _) 5
      have o6 : V.cell? ⟨w1.heap.size + 1, 6, none⟩ = some (.bool o.best) := by rw [hV]; exact blk_cell (blk_new1 w1 _ _) 6
      have o7 : V.cell? ⟨w1.heap.size + 1, 7, none⟩ = some (.slice A n9 c9) := by rw [hV]; exact blk_cell (blk_new1 w1 _ _) 7
      have HRV := Lib.hid (ranges_kept HRG1.out (kept_of_below (X := fun _ => False) hbV) (fun q => q) (fun q => q))
      have HKV := Lib.hid (HKW.out.trans (kept_of_below (X := fun _ => False) hbV) (fun _ q => q.elim))
      have q0 := cb hbV q0
      have q1 := cb hbV q1
      have HL2 := Lib.hid (mv_below HL1.out hbV)
      clear hV hbV hen
      obtain ⟨pv, hpd⟩ : ∃ pv, (!inLB B k && decide (o.ver ≤ ev)) = pv := ⟨_, rfl⟩
      have HPD := Lib.hid hpd
      cases pv with
      | true =>
        have HD := Lib.hid (keep_del (left := left) (pd := (fun k (v : OX) => !inLB B k && decide (v.1.ver ≤ ev))) HK.out HP.out hpd)
        clear hpd
        go_wp2_with (first | (go_at_call 110; refine (relist1_calls _ k o A n9 c9 HL2.out q0 q1).mono ?_; rintro e w2 ⟨rfl, hb⟩; rw [HPD.out]; have hrg2 := ranges_kept HRV.out (kept_of_below (X := fun _ => False) hb) (fun q => q) (fun q => q); have d0 := cb hb d0; have d1 := cb hb d1; have d2 := cb hb d2; have HK2 := Lib.hid (HKV.out.trans (kept_of_below (X := fun _ => False) hb) (fun _ q => q.elim)); clear hb) | (at_delete; refine wpList_delete_ranges _ rfl _ _ 92 24 rfl 27 kS_keyed Try.underlying92 RV b w.heap.size G.length _ _ _ rfl hrg2 _ _ rfl hkx2 ?_; intro w3 cnt3 hrg3 hle hturn; try go_frame))
        rw [Maps.strike_twice, del_dmA kL_lit] at hrg3
        have HR3 := Lib.hid hrg3
        have HK3 := Lib.hid (HK2.out.trans (kept_turned hturn) (fun _ q => .inl q))
        clear hrg3 hturn hrg2
        go_roundw
        case rel => exact ⟨_, cnt3, Lib.hid (by rw [HD.out]; exact HR3.out), Lib.hid ⟨HLL.out, HK3.out⟩⟩
        case measure => rw [HR3.out.left_eq, HLE.out]; have := HLT2.out; omega
      | false =>
        have HD := Lib.hid (keep_stay (left := left) (pd := (fun k (v : OX) => !inLB B k && decide (v.1.ver ≤ ev))) HK.out HP.out hpd)
        clear hpd
        go_wp2_with (go_at_call 110; refine (relist1_calls _ k o A n9 c9 HL2.out q0 q1).mono ?_; rintro e w2 ⟨rfl, hb⟩; rw [HPD.out]; have HR2 := Lib.hid (ranges_kept HRV.out (kept_of_below (X := fun _ => False) hb) (fun q => q) (fun q => q)); have HK2 := Lib.hid (HKV.out.trans (kept_of_below (X := fun _ => False) hb) (fun _ q => q.elim)); clear hb)
        go_roundw
        case rel => exact ⟨_, cnt1, Lib.hid (by rw [HD.out]; exact HR2.out), Lib.hid ⟨HLL.out, HK2.out⟩⟩
        case measure => rw [HR2.out.left_eq, HLE.out]; exact HLT2.out
end Go.Proofs.Ythhfcambdmdgfaa
namespace Go.Proofs.Ythhfcambdmdgfaa
open Go.RowKit Go.Maps
set_option linter.unusedVariables false
set_option linter.unusedSimpArgs false
abbrev AO := AM KS ObjD
def mo (M : AM KS OX) : AO := M.map fun q => (q.1, q.2.1)
section
variable {M : AM KS OX} {k : KS}
theorem getA_mo (M : AM KS OX) (k : KS) : getA (mo M) k = (getA M k).map (·.1) := by
  induction M with
  | nil => rfl
  | cons p r ih =>
    show getA ((p.1, p.2.1) :: mo r) k = _
    rw [getA_cons, getA_cons, ih]
    by_cases h : p.1 = k <;> simp [h]
theorem hasA_mo (M : AM KS OX) (k : KS) : hasA (mo M) k = hasA M k := by rw [hasA_get, hasA_get, getA_mo]; cases getA M k <;> rfl
theorem mo_len (M : AM KS OX) : (mo M).length = M.length := by simp [mo]
theorem mo_del (M : AM KS OX) (k : KS) : mo (delA M k) = delA (mo M) k := by
  unfold mo delA
  rw [List.filter_map]; rfl
theorem mo_ins (M : AM KS OX) (k : KS) (v : OX) : mo (insA ltKS M k v) = insA ltKS (mo M) k v.1 := by
  induction M with
  | nil => rfl
  | cons p r ih =>
    show mo (if ltKS k p.1 then (k, v) :: p :: r else p :: insA ltKS r k v) = if ltKS k p.1 then (k, v.1) :: (p.1, p.2.1) :: mo r else (p.1, p.2.1) :: insA ltKS (mo r) k v.1
    by_cases h : ltKS k p.1 = true
    · rw [if_pos h, if_pos h]; rfl
    · rw [if_neg h, if_neg h, ← ih]; rfl
theorem mo_put (M : AM KS OX) (k : KS) (v : OX) : mo (putA ltKS M k v) = putA ltKS (mo M) k v.1 := by unfold putA; rw [mo_ins, mo_del]
theorem mo_drop (M : AM KS OX) (pd : KS → ObjD → Bool) : mo (dropG M (fun k v => pd k v.1)) = dropG (mo M) pd := by
  unfold mo dropG
  rw [List.filter_map]; rfl
theorem mo_rise {M : AM KS OX} : RiseA ltKS (mo M) ↔ RiseA ltKS M := by unfold RiseA mo; rw [List.pairwise_map]
theorem rise_drop {β : Type} {M : AM KS β} (h : RiseA ltKS M) (pd : KS → β → Bool) : RiseA ltKS (dropG M pd) := List.Pairwise.filter _ h
theorem drop_le {β : Type} (M : AM KS β) (pd : KS → β → Bool) : (dropG M pd).length ≤ M.length := List.length_filter_le _ _
end
def obA (m : AO) (k : KS) : ObjD := (getA m k).getD zeroO
theorem obA_mo (M : AM KS OX) (k : KS) : obA (mo M) k = objOf M k := by unfold obA objOf; rw [getA_mo]
def knownP (fl : Int) (m : AO) (G : AM KS Int) (k : KS) : Int := max (max fl (obA m k).ver) (verG G k)
theorem knownP_mo (fl : Int) (M : AM KS OX) (G : AM KS Int) (k : KS) : knownP fl (mo M) G k = knownC fl M G k := by unfold knownP knownC; rw [obA_mo]
instance keySmall_dec (k : KeyD) : Decidable (keySmall k) := by unfold keySmall; infer_instance
/-- An object's key, as one of a map's. -/
def kOf (o : ObjD) : KS := if h : keySmall o.key then ⟨o.key, h⟩ else default
theorem kOf_key {o : ObjD} (h : objSmall o) : (kOf o).1 = o.key := by unfold kOf; rw [dif_pos h.1]
noncomputable def stepR (fl : Int) (m : AO) (G : AM KS Int) (out : AO) (o : ObjD) : AO := if knownP fl m G (kOf o) < o.ver ∨ o.ver = (obA m (kOf o)).ver then putA ltKS out (kOf o) o else out
def inXs (xs : List ObjD) (k : KS) : Bool := xs.any fun x => decide (x.key = k.1)
noncomputable def relistP (fl : Int) (m : AO) (G : AM KS Int) (xs : List ObjD) (ev : Int) : AO := dropG (xs.foldl (stepR fl m G) m) fun k o => !inXs xs k && decide (o.ver ≤ ev)
theorem inXs_snoc (xs : List ObjD) (o : ObjD) (k : KS) : inXs (xs ++ [o]) k = (inXs xs k || decide (o.key = k.1)) := by simp [inXs]
theorem inLB_put (B : AM KS Bool) (k x : KS) : inLB (putA ltKS B k true) x = (inLB B x || decide (k.1 = x.1)) := by
  unfold inLB
  rw [getA_put]
  by_cases h : x = k
  · subst h; simp
  · rw [if_neg h]
    have : ¬ k.1 = x.1 := fun e => h (Subtype.ext e.symm)
    simp [this]
/-- The maps of a Relist under way. -/
structure RelAt (W : World) (base o1 lb : Nat) (M1 : AM KS OX) (B : AM KS Bool) : Prop where
  om : OMap W o1 M1
  bm : W.ownsMap Try.prog 24 RV lb B.length (dmA kL bV B)
  res : ∀ q ∈ M1, ResF W base q.2.2 q.2.1.charge ∧ oIn q.2.1 ∧ keySmall q.2.1.key ∧ q.1.1 = q.2.1.key
  rise : RiseA ltKS M1
section
variable {W W' : World} {base o1 lb : Nat} {M1 : AM KS OX} {B : AM KS Bool}
theorem RelAt.below (h : RelAt W base o1 lb M1 B) (hb : Below W.heap.size W W') : RelAt W' base o1 lb M1 B :=
  ⟨h.om.below hb, mv_below h.bm hb, fun q hq => ⟨(h.res q hq).1.below hb, (h.res q hq).2⟩, h.rise⟩
theorem map_apart {b n : Nat} {D : DataW Value} (h : W.ownsMap Try.prog 24 RV b n D) : ∀ k, k = b → ∀ c, W.heap[k]? = some (.cells c 112) → False := fun k e c hc => mv_other h hc e
theorem RelAt.listed (h : RelAt W base o1 lb M1 B) (hne : o1 ≠ lb) {k : KS} (hm : W'.ownsMap Try.prog 24 RV lb (B.length + 1) ((dmA kL bV B).put (kL k) (.held (.bool true)))) (hg : W.grownBy W' (some lb)) :
    RelAt W' base o1 lb M1 (putA ltKS B k true) ∧ Kept (fun k => k = lb) W W' := by
  have hk : Kept (fun k => k = lb) W W' := (Kept.refl _ _).grown hg (fun j e => by cases e; exact .inl rfl)
  refine ⟨⟨h.om.kept hk hne, ?_, fun q hq => ⟨(h.res q hq).1.kept hk (map_apart h.bm), (h.res q hq).2⟩, h.rise⟩, hk⟩
  have q := mv_tight hm
  rw [show (DataW.held (.bool true) : DataW Value) = .held (bV true) from rfl, put_dmA kL_lit, size_dmA kL_lit] at q
  exact q
theorem RelAt.put (h : RelAt W base o1 lb M1 B) (hne : o1 ≠ lb) {k : KS} {p : OX} (hm : W'.ownsMap Try.prog 24 RV o1 (M1.length + 1) ((dmA kL (fun p => Value.agg (objX p).toArray) M1).put (kL k) (.held (.agg (objX p).toArray)))) (hg : W.grownBy W' (some o1))
    (hp : ResF W base p.2 p.1.charge) (hi : oIn p.1 ∧ keySmall p.1.key) (hk1 : k.1 = p.1.key) :
    RelAt W' base o1 lb (putA ltKS M1 k p) B ∧ Kept (fun k => k = o1) W W' := by
  have hk : Kept (fun k => k = o1) W W' := (Kept.refl _ _).grown hg (fun j e => by cases e; exact .inl rfl)
  refine ⟨⟨omap_put hm, mv_kept h.bm hk (fun e => hne e.symm), fun q hq => ?_, rise_put strictKS h.rise _ _⟩, hk⟩
  rcases mem_put.1 hq with rfl | ⟨r, _⟩
  · exact ⟨hp.kept hk (map_apart h.om), hi.1, hi.2, hk1⟩
  · exact ⟨(h.res q r).1.kept hk (map_apart h.om), (h.res q r).2⟩
end
theorem ObjS.keptMap {W W' : World} {sl : Value} {o : ObjD} {lb n : Nat} {D : DataW Value} (h : ObjS W sl o) (hm : W.ownsMap Try.prog 24 RV lb n D) (hk : Kept (fun k => k = lb) W W') : ObjS W' sl o := by
  obtain ⟨⟨⟨hl, A, c, rfl, hc, hr⟩, h2⟩, h3⟩ := h
  refine ⟨⟨⟨hl, A, c, rfl, hc, ?_⟩, h2⟩, h3⟩
  rcases hr with e | ⟨b, off, e, hx⟩
  · exact .inl e
  · refine .inr ⟨b, off, e, fun j u hu => ?_⟩
    have q := hx j u hu
    exact hk.cell q (mv_ne hm q)
end Go.Proofs.Ythhfcambdmdgfaa
namespace Go.Proofs.Ythhfcambdmdgfaa
open Go.RowKit Go.Maps
set_option linter.unusedVariables false
set_option linter.unusedSimpArgs false
def RelO (w : World) (base : Nat) (fl : Int) (M : AM KS OX) (G : AM KS Int) (l : List ObjD) (ev : Int) (e : Ending) (w' : World) : Prop :=
  ∃ o1 M', e = .returned (.map (some o1)) ∧ w.heap.size ≤ o1 ∧ OMap w' o1 M' ∧ (∀ q ∈ M', ResF w' base q.2.2 q.2.1.charge ∧ oIn q.2.1 ∧ keySmall q.2.1.key ∧ q.1.1 = q.2.1.key) ∧ RiseA ltKS M' ∧ mo M' = relistP fl (mo M) G l ev ∧ M'.length ≤ M.length + l.length ∧ Below w.heap.size w w'
set_option maxRecDepth 100000 in
set_option maxHeartbeats 16000000 in
theorem crelist_calls (w : World) {base cp ob gb : Nat} {fl : Int} {M : AM KS OX} {G : AM KS Int} (h : CacheAt w base cp ob gb fl M G) (hR : RiseA ltKS M) (hbase : base ≤ w.heap.size) (kd : Int) {o : ObjD} {sl : Value} (ev : Int) {ol : Value} {xs : List OX} (ho : ObjS w sl o) (hx : ObjsS w ol xs) (hxs : OSmall (oxs xs)) (hl : xs.length ≤ 1000000) (hM : M.length ≤ 1000000) :
    Calls Try.prog 92 #[.pointer (some ⟨cp, 0, none⟩), evV kd o sl ev ol] w (RelO w base fl M G (oxs xs) ev) := by
  have hmm := @run_makeMap Try.prog
  have HMK := Lib.hid (fun (U : World) => World.ownsMap_made U Try.prog 24 RV)
  have HC := Lib.hid h; have HX := Lib.hid hx; have HSM := Lib.hid hxs; have HR := Lib.hid hR
  have HL := Lib.hid (And.intro hl (And.intro hM hbase))
  obtain ⟨ao, co, rfl⟩ := ho.1.form
  obtain ⟨al, cl, rfl⟩ := hx.form
  have m0 : w.cell? ⟨cp, 0, none⟩ = some (.map (some ob)) := blk_cell h.cell 0
  clear h hR hx hxs hl hM ho hbase
  unfold evV
  go_enter Try.func92, Try.ntmps92
  go_upto_region 1 with fail
  first | with_reducible refine name_wp ?_ | with_reducible refine name_calls ?_
  intro W hW
  have gE : W.heap[w.heap.size]? = some (.cells #[.int .i64 kd, .string o.key.kind, .string o.key.space, .string o.key.name, .int .i64 o.ver, .string o.cls, .bool o.term, .bool o.best, .slice ao o.charge.length co, .int .i64 ev, .slice al xs.length cl] 30) := by rw [hW]; exact blk_new w _
  have hbW : Below w.heap.size w W := by rw [hW]; exact (Below.refl _ _).alloc (Nat.le_refl _) _
  have hzW : w.heap.size + 1 = W.heap.size := by rw [hW]; simp
  clear hW
  have m0 := cb hbW m0
  have HCW := Lib.hid (HC.out.below hbW)
  go_upto_region 3 with (go_at_call 90; refine (cloneO_calls W HCW.out.objs).mono ?_; rintro e w1 ⟨rfl, hom, hb⟩; have HOM := Lib.hid hom; have HB1 := Lib.hid hb; clear hom hb)
  first | with_reducible refine name_wp ?_ | with_reducible refine name_calls ?_
  intro V hV
  have hbV : Below w1.heap.size w1 V := by rw [hV]; exact ((Below.refl _ _).alloc (Nat.le_refl _) _).alloc (by simp) _
  have hlt1 : W.heap.size < w1.heap.size := HOM.out.lt
  have HPB := Lib.hid (show V.cell? ⟨w1.heap.size + 1, 0, none⟩ = some (.map (some w1.heap.size)) by rw [hV]; exact blk_cell (blk_new1 w1 _ _) 0)
  have HLB : Hid (V.ownsMap Try.prog 24 RV w1.heap.size ([] : AM KS Bool).length (dmA kL bV [])) := Lib.hid (by rw [hV]; exact mv_below (mv_tight (HMK.out w1)) ((Below.refl _ _).alloc (Nat.le_refl _) _))
  have hzV : V.heap.size = w1.heap.size + 2 := by rw [hV]; simp
  clear hV
  have HBV := Lib.hid (bl_next HB1.out hbV)
  have HBw := Lib.hid (bl_from hbW HBV.out)
  have HRA := Lib.hid (show RelAt V base W.heap.size w1.heap.size M [] from ⟨HOM.out.below hbV, HLB.out, fun q hq => ⟨(HC.out.resM q hq).1.below HBw.out, (HC.out.resM q hq).2⟩, HR.out⟩)
  have gE := blk_below gE HBV.out
  have HE := Lib.hid gE
  have e9 : V.cell? ⟨w.heap.size, 9, none⟩ = some (.int .i64 ev) := blk_cell gE 9
  have e10 : V.cell? ⟨w.heap.size, 10, none⟩ = some (.slice al xs.length cl) := blk_cell gE 10
  have HCV := Lib.hid (HC.out.below HBw.out)
  have HNE := Lib.hid (show W.heap.size ≠ w1.heap.size by omega)
  clear gE m0 hbW hbV HLB HMK HOM HCW hmm
  go_wp2_with fail
  go_loopw [18] (fun i wr => ∃ (j : Nat) (M1 : AM KS OX) (B : AM KS Bool), i = .int .i64 (j : Int) ∧ j ≤ xs.length ∧ Hid (RelAt wr base W.heap.size w1.heap.size M1 B ∧ mo M1 = ((oxs xs).take j).foldl (stepR fl (mo M) G) (mo M) ∧ (∀ k, inLB B k = inXs ((oxs xs).take j) k) ∧ M1.length ≤ M.length + j ∧ B.length ≤ j) ∧ Hid (Kept (fun k => k = W.heap.size ∨ k = w1.heap.size) V wr)) (fun i _ => xs.length - (intOf i).toNat)
  case atStart => exact ⟨0, M, [], rfl, Nat.zero_le _, Lib.hid ⟨HRA.out, rfl, (fun k => rfl), Nat.le_refl _, Nat.le_refl _⟩, Lib.hid (Kept.refl _ _)⟩
  case round =>
    clear HRA e9 e10
    obtain ⟨j, M1, B, rfl, hj, HS, HKP⟩ := hrel
    by_cases hjl : j < xs.length
    · have hjI : (j : Int) < xs.length := by omega
      obtain ⟨b, of, c9, he, q, s⟩ := HX.out.at' hjl
      cases he
      have hsmx := small_at HSM.out hjl
      have HTK := Lib.hid (show (oxs xs).take (j + 1) = (oxs xs).take j ++ [(xs[j]'hjl).1] by rw [List.take_succ_eq_append_getElem (by rw [oxs_len]; exact hjl)]; simp [oxs])
      generalize xs[j]'hjl = xx at q s hsmx HTK
      obtain ⟨x, sx⟩ := xx
      simp only at s hsmx HTK
      obtain ⟨ax, cx, rfl⟩ := s.1.form
      have HBr := Lib.hid (show Below w.heap.size w wr from HBw.out.trans (HKP.out.below HBw.out.size (fun k q => by rcases q with q | q <;> omega)))
      have hjb : j ≤ 1000000 := by have := HL.out.1; omega
      have hms : base ≤ wr.heap.size := Nat.le_trans HL.out.2.2 HBr.out.size
      have q := q.below HBr.out
      have x0 := q.c0
      have x1 := q.c1
      have x2 := q.c2
      have x3 := q.c3
      have x4 := q.c4
      have x5 := q.c5
      have x6 := q.c6
      have x7 := q.c7
      have HSX := Lib.hid (s.below HBr.out)
      have HPBr := HKP.out.cell HPB.out (show ¬ (w1.heap.size + 1 = W.heap.size ∨ w1.heap.size + 1 = w1.heap.size) by omega)
      have HCr := Lib.hid (HC.out.below HBr.out)
      obtain ⟨K, hK⟩ : ∃ K : KS, K = kOf x := ⟨_, rfl⟩
      have hKK : K.1 = x.key := by rw [hK]; exact kOf_key hsmx
      have HKO := Lib.hid hK
      have HSZ := Lib.hid HKP.out.size
      have HSMX := Lib.hid hsmx
      clear q s hsmx hK
      go_upto_region 6 with fail
      first | with_reducible refine name_wp ?_ | with_reducible refine name_calls ?_
      intro U hU
      have gX : U.heap[wr.heap.size]? = some (.cells #[.string x.key.kind, .string x.key.space, .string x.key.name, .int .i64 x.ver, .string x.cls, .bool x.term, .bool x.best, .slice ax x.charge.length cx] 27) := by rw [hU]; exact blk_new wr _
      have hbU : Below wr.heap.size wr U := by rw [hU]; exact (Below.refl _ _).alloc (Nat.le_refl _) _
      clear hU
      have HGX := Lib.hid gX
      have d0 : U.cell? ⟨wr.heap.size, 0, none⟩ = some (.string x.key.kind) := blk_cell gX 0
      have d1 : U.cell? ⟨wr.heap.size, 1, none⟩ = some (.string x.key.space) := blk_cell gX 1
      have d2 : U.cell? ⟨wr.heap.size, 2, none⟩ = some (.string x.key.name) := blk_cell gX 2
      have d3 : U.cell? ⟨wr.heap.size, 3, none⟩ = some (.int .i64 x.ver) := blk_cell gX 3
      have d4 : U.cell? ⟨wr.heap.size, 4, none⟩ = some (.string x.cls) := blk_cell gX 4
      have d5 : U.cell? ⟨wr.heap.size, 5, none⟩ = some (.bool x.term) := blk_cell gX 5
      have d6 : U.cell? ⟨wr.heap.size, 6, none⟩ = some (.bool x.best) := blk_cell gX 6
      have d7 : U.cell? ⟨wr.heap.size, 7, none⟩ = some (.slice ax x.charge.length cx) := blk_cell gX 7
      have hpb := cb hbU HPBr
      have HRU := Lib.hid (HS.out.1.below hbU)
      have HSB := Lib.hid HS.out.2
      have hkey : keyOf Try.prog 24 (.agg #[.string x.key.kind, .string x.key.space, .string x.key.name]) = some (kL K) := by rw [← hKK]; exact kL_key K
      have HKEY := Lib.hid hkey
      have HBU := Lib.hid (bl_next HBr.out hbU)
      have HSXU := Lib.hid (HSX.out.below hbU)
      have HKPU := Lib.hid (HKP.out.trans (kept_of_below (X := fun _ => False) hbU) (fun _ q => q.elim))
      have hBl : B.length ≤ 1000000 := by have := HS.out.2.2.2.2; have := HL.out.1; omega
      clear x0 x1 x2 x3 x4 x5 x6 x7 gX hbU HPBr HCr HKP HBr HS HSX
      go_upto_region 7 with (at_mapUpdate; refine wpList_mapUpdate_own _ rfl _ _ _ 134 rfl 24 4 kS_keyed Try.underlying134 _ w1.heap.size B.length (dmA kL bV B) rfl HRU.out.bm (by unfold maxLen; omega) _ _ _ rfl rfl hkey (.held (.bool true)) [] rfl ?_; intro w5 hown5 hgrow5)
      have HRL := Lib.hid (HRU.out.listed HNE.out hown5 hgrow5)
      obtain ⟨Y, rfl⟩ : ∃ Y : World, Y = w5 := ⟨_, rfl⟩
      clear hown5 hgrow5 hkey
      have hwx : ¬ (wr.heap.size = w1.heap.size) := by have := HSZ.out; omega
      have y0 := HRL.out.2.cell d0 hwx
      have y1 := HRL.out.2.cell d1 hwx
      have y2 := HRL.out.2.cell d2 hwx
      have y3 := HRL.out.2.cell d3 hwx
      have y4 := HRL.out.2.cell d4 hwx
      have y5 := HRL.out.2.cell d5 hwx
      have y6 := HRL.out.2.cell d6 hwx
      have y7 := HRL.out.2.cell d7 hwx
      have hpb := HRL.out.2.cell hpb (show ¬ (w1.heap.size + 1 = w1.heap.size) by omega)
      have HBY := Lib.hid (show Below w.heap.size w Y from HBU.out.trans (HRL.out.2.below HBU.out.size (fun k q => by subst q; omega)))
      have HKPY := Lib.hid (show Kept (fun k => k = W.heap.size ∨ k = w1.heap.size) V Y from HKPU.out.trans HRL.out.2 (fun _ q => .inl (.inr q)))
      have HSXY := Lib.hid (show ObjS Y (.slice ax x.charge.length cx) x from ObjS.keptMap HSXU.out HRU.out.bm HRL.out.2)
      have HCY := Lib.hid (HC.out.below HBY.out)
      obtain ⟨q, A9, n9, c9, hqe, hlk⟩ := HCY.out.look K hKK
      have HLK := Lib.hid hlk
      obtain ⟨kn, hkn⟩ : ∃ n, knownC fl M G K = n := ⟨_, rfl⟩
      have HKN := Lib.hid (fun (Z : World) (hb : Below Y.heap.size Y Z) => cknown_calls Z (HCY.out.below hb) K hKK)
      rw [hkn] at HKN
      have HFD := Lib.hid (show ((oxs xs).take (j + 1)).foldl (stepR fl (mo M) G) (mo M) = if kn < x.ver ∨ x.ver = q.ver then putA ltKS (mo M1) K x else mo M1 by
        rw [HTK.out, List.foldl_append, ← HSB.out.1]
        show stepR fl (mo M) G (mo M1) x = _
        unfold stepR
        rw [← HKO.out, knownP_mo, hkn, obA_mo, ← hqe])
      have HBD := Lib.hid (show (∀ k, inLB (putA ltKS B K true) k = inXs ((oxs xs).take (j + 1)) k) ∧ (putA ltKS B K true).length ≤ j + 1 from ⟨fun k => by rw [inLB_put, HTK.out, inXs_snoc, HSB.out.2.1 k, hKK], Nat.le_trans (put_le _ _ _ _) (by have := HSB.out.2.2.2; omega)⟩)
      have HRY := Lib.hid HRL.out.1
      have HM1 := Lib.hid HSB.out.2.2.1
      have hM1l : M1.length ≤ 2000000 := by have := HSB.out.2.2.1; have := HL.out; omega
      have hfv := fun (Z : World) => field_ver Z (.string q.key.kind) (.string q.key.space) (.string q.key.name) (.int .i64 q.ver) (.string q.cls) (.bool q.term) (.bool q.best) (.slice A9 n9 c9)
      have HOW := Lib.hid (fun (Z : World) (hb : Below Y.heap.size Y Z) => ownO_calls Z (HSXY.out.below hb) HSMX.out)
      unfold objV at HOW
      have mc0 : Y.cell? ⟨cp, 0, none⟩ = some (.map (some ob)) := blk_cell HCY.out.cell 0
      have HGEb := Lib.hid (show base ≤ Y.heap.size from Nat.le_trans HL.out.2.2 HBY.out.size)
      clear hlk hqe hkn d0 d1 d2 d3 d4 d5 d6 d7 HRL HSXU HKPU HBU HRU hBl HGX
      have hB := Below.refl Y.heap.size Y
      by_cases hgt : kn < x.ver
      · have HFE := Lib.hid (show ((oxs xs).take (j + 1)).foldl (stepR fl (mo M) G) (mo M) = putA ltKS (mo M1) K x by rw [HFD.out, if_pos (.inl hgt)])
        have hB := hB.drew
        refine region_seq (fun w' => Below Y.heap.size Y w') [(0, true), (1, true), (2, true), (3, true), (4, true), (5, false), (6, true), (7, true), (8, true), (9, true), (10, true), (11, true), (12, true), (13, true), (14, true), (15, true), (16, true), (17, true), (18, true), (19, true)] (by kernel_rfl) (by kernel_rfl) (fun _ _ _ _ h => h) hB ?_
        try generalize World.drew _ = wS at hB ⊢
        refine seq_take (v := ?_) (a' := ?_) (some 25) rfl rfl (by rfl) ?_ ?_ ?_
        rotate_left; rotate_left
        · intro w' hS; go_simp; with_reducible rfl
        · simp only [Act.put, List.setIfInBounds_toArray, List.set_cons_zero, List.set_cons_succ]; rfl
        refine seq_take (v := ?_) (a' := ?_) (some 26) rfl rfl (by rfl) ?_ ?_ ?_
        rotate_left; rotate_left
        · intro w' hS; have z0 := cb hS y0; have z1 := cb hS y1; have z2 := cb hS y2; have z3 := cb hS y3; have z4 := cb hS y4; have z5 := cb hS y5; have z6 := cb hS y6; have z7 := cb hS y7; have zc := cb hS mc0; have zp := cb hS hpb; have zl := HLK.out _ hS; go_simp; with_reducible rfl
        · simp only [Act.put, List.setIfInBounds_toArray, List.set_cons_zero, List.set_cons_succ]; rfl
        refine seq_take (v := ?_) (a' := ?_) (some 27) rfl rfl (by rfl) ?_ ?_ ?_
        rotate_left; rotate_left
        · intro w' hS; go_simp; with_reducible rfl
        · simp only [Act.put, List.setIfInBounds_toArray, List.set_cons_zero, List.set_cons_succ]; rfl
        refine seq_take (v := ?_) (a' := ?_) (some 28) rfl rfl (by rfl) ?_ ?_ ?_
        rotate_left; rotate_left
        · intro w' hS; go_simp; with_reducible rfl
        · simp only [Act.put, List.setIfInBounds_toArray, List.set_cons_zero, List.set_cons_succ]; rfl
        refine seq_take (v := ?_) (a' := ?_) (some 29) rfl rfl (by rfl) ?_ ?_ ?_
        rotate_left; rotate_left
        · intro w' hS; have z0 := cb hS y0; have z1 := cb hS y1; have z2 := cb hS y2; have z3 := cb hS y3; have z4 := cb hS y4; have z5 := cb hS y5; have z6 := cb hS y6; have z7 := cb hS y7; have zc := cb hS mc0; have zp := cb hS hpb; have zl := HLK.out _ hS; go_simp; with_reducible rfl
        · simp only [Act.put, List.setIfInBounds_toArray, List.set_cons_zero, List.set_cons_succ]; rfl
        refine seq_call (args := ?_) Try.func53 (by kernel_rfl) rfl (some 30) rfl rfl (by rfl) rfl ?_ ?_
        rotate_left
        · simp only [List.map_toArray, List.map_cons, List.map_nil]; go_simp; rfl
        with_reducible refine (HKN.out _ hB).mono ?_
        rintro e w' ⟨rfl, hb⟩
        refine ⟨_, rfl, bl_next (by repeat (first | with_reducible exact hB | refine Below.alloc ?_ (by have := hB.size; simp; omega) _ | refine bl_dN ?_ _ | refine Below.drew ?_ | refine Below.setCell ?_ (by have := hB.size; simp; omega) _)) hb, ?_⟩
        have hB := bl_next (by repeat (first | with_reducible exact hB | refine Below.alloc ?_ (by have := hB.size; simp; omega) _ | refine bl_dN ?_ _ | refine Below.drew ?_ | refine Below.setCell ?_ (by have := hB.size; simp; omega) _)) hb; clear hb
        simp only [Act.put, List.setIfInBounds_toArray, List.set_cons_zero, List.set_cons_succ]
        refine seq_take (v := ?_) (a' := ?_) (some 31) rfl rfl (by rfl) ?_ ?_ ?_
        rotate_left; rotate_left
        · intro w' hS; go_simp; with_reducible rfl
        · simp only [Act.put, List.setIfInBounds_toArray, List.set_cons_zero, List.set_cons_succ]; rfl
        refine seq_take (v := ?_) (a' := ?_) (some 32) rfl rfl (by rfl) ?_ ?_ ?_
        rotate_left; rotate_left
        · intro w' hS; go_simp; with_reducible rfl
        · simp only [Act.put, List.setIfInBounds_toArray, List.set_cons_zero, List.set_cons_succ]; rfl
        refine seq_skip (a' := ?_) (some 33) rfl rfl (by rfl) ?_ ?_
        rotate_left
        · simp only [Act.put, List.setIfInBounds_toArray, List.set_cons_zero, List.set_cons_succ]; rfl
        refine seq_skip (a' := ?_) (some 34) rfl rfl (by rfl) ?_ ?_
        rotate_left
        · simp only [Act.put, List.setIfInBounds_toArray, List.set_cons_zero, List.set_cons_succ]; rfl
        refine seq_skip (a' := ?_) (some 35) rfl rfl (by rfl) ?_ ?_
        rotate_left
        · simp only [Act.put, List.setIfInBounds_toArray, List.set_cons_zero, List.set_cons_succ]; rfl
        refine seq_skip (a' := ?_) (some 36) rfl rfl (by rfl) ?_ ?_
        rotate_left
        · simp only [Act.put, List.setIfInBounds_toArray, List.set_cons_zero, List.set_cons_succ]; rfl
        refine seq_skip (a' := ?_) (some 37) rfl rfl (by rfl) ?_ ?_
        rotate_left
        · simp only [Act.put, List.setIfInBounds_toArray, List.set_cons_zero, List.set_cons_succ]; rfl
        refine seq_skip (a' := ?_) (some 38) rfl rfl (by rfl) ?_ ?_
        rotate_left
        · simp only [Act.put, List.setIfInBounds_toArray, List.set_cons_zero, List.set_cons_succ]; rfl
        refine seq_skip (a' := ?_) (some 39) rfl rfl (by rfl) ?_ ?_
        rotate_left
        · simp only [Act.put, List.setIfInBounds_toArray, List.set_cons_zero, List.set_cons_succ]; rfl
        refine seq_skip (a' := ?_) (some 40) rfl rfl (by rfl) ?_ ?_
        rotate_left
        · simp only [Act.put, List.setIfInBounds_toArray, List.set_cons_zero, List.set_cons_succ]; rfl
        refine seq_skip (a' := ?_) (some 41) rfl rfl (by rfl) ?_ ?_
        rotate_left
        · simp only [Act.put, List.setIfInBounds_toArray, List.set_cons_zero, List.set_cons_succ]; rfl
        refine seq_skip (a' := ?_) (some 42) rfl rfl (by rfl) ?_ ?_
        rotate_left
        · simp only [Act.put, List.setIfInBounds_toArray, List.set_cons_zero, List.set_cons_succ]; rfl
        refine seq_skip (a' := ?_) (some 43) rfl rfl (by rfl) ?_ ?_
        rotate_left
        · simp only [Act.put, List.setIfInBounds_toArray, List.set_cons_zero, List.set_cons_succ]; rfl
        refine seq_take (v := ?_) (a' := ?_) (some 44) rfl rfl (by rfl) ?_ ?_ ?_
        rotate_left; rotate_left
        · intro w' hS; go_simp; with_reducible rfl
        · simp only [Act.put, List.setIfInBounds_toArray, List.set_cons_zero, List.set_cons_succ]; rfl
        refine seq_done ?_
        have HOW2 := Lib.hid (fun (Z : World) (hb : Below Y.heap.size Y Z) => HOW.out Z hb)
        go_upto_region 8 with fail
        have hB := hB.drew
        refine region_seqM (fun w' => Below Y.heap.size Y w') 5 [(0, 1), (1, 1), (2, 1), (3, 1), (4, 0), (5, 0)] (by kernel_rfl) (by kernel_rfl) (fun _ _ _ _ h => h) hB ?_
        try generalize World.drew _ = wS at hB ⊢
        refine sm_take (v := ?_) (a' := ?_) (some 45) rfl rfl (by rfl) ?_ ?_ ?_
        rotate_left; rotate_left
        · intro w' hS; go_simp; with_reducible rfl
        · simp only [Act.put, List.setIfInBounds_toArray, List.set_cons_zero, List.set_cons_succ]; rfl
        refine sm_take (v := ?_) (a' := ?_) (some 46) rfl rfl (by rfl) ?_ ?_ ?_
        rotate_left; rotate_left
        · intro w' hS; go_simp; with_reducible rfl
        · simp only [Act.put, List.setIfInBounds_toArray, List.set_cons_zero, List.set_cons_succ]; rfl
        refine sm_take (v := ?_) (a' := ?_) (some 47) rfl rfl (by rfl) ?_ ?_ ?_
        rotate_left; rotate_left
        · intro w' hS; have z0 := cb hS y0; have z1 := cb hS y1; have z2 := cb hS y2; have z3 := cb hS y3; have z4 := cb hS y4; have z5 := cb hS y5; have z6 := cb hS y6; have z7 := cb hS y7; have zc := cb hS mc0; have zp := cb hS hpb; have zl := HLK.out _ hS; go_simp; with_reducible rfl
        · simp only [Act.put, List.setIfInBounds_toArray, List.set_cons_zero, List.set_cons_succ]; rfl
        refine sm_take (v := ?_) (a' := ?_) (some 48) rfl rfl (by rfl) ?_ ?_ ?_
        rotate_left; rotate_left
        · intro w' hS; have z0 := cb hS y0; have z1 := cb hS y1; have z2 := cb hS y2; have z3 := cb hS y3; have z4 := cb hS y4; have z5 := cb hS y5; have z6 := cb hS y6; have z7 := cb hS y7; have zc := cb hS mc0; have zp := cb hS hpb; have zl := HLK.out _ hS; go_simp; with_reducible rfl
        · simp only [Act.put, List.setIfInBounds_toArray, List.set_cons_zero, List.set_cons_succ]; rfl
        refine sm_call (args := ?_) Try.func56 (by kernel_rfl) rfl (some 49) rfl rfl (by rfl) rfl rfl ?_ ?_
        rotate_left
        · simp only [List.map_toArray, List.map_cons, List.map_nil]; go_simp; rfl
        with_reducible refine ((HOW2.out _ hB)).mono ?_
        rintro e w' ⟨g2, rfl, HF, hb⟩
        have HF1 := Lib.hid (HF.out.mono (b' := base) (by have := HGEb.out; have := hB.size; omega))
        refine ⟨_, rfl, .inr (bl_next (by repeat (first | with_reducible exact hB | refine Below.alloc ?_ (by have := hB.size; simp; omega) _ | refine bl_dN ?_ _ | refine Below.drew ?_ | refine Below.setCell ?_ (by have := hB.size; simp; omega) _)) hb), ?_⟩
        have hB := bl_next (by repeat (first | with_reducible exact hB | refine Below.alloc ?_ (by have := hB.size; simp; omega) _ | refine bl_dN ?_ _ | refine Below.drew ?_ | refine Below.setCell ?_ (by have := hB.size; simp; omega) _)) hb; clear hb
        simp only [Act.put, List.setIfInBounds_toArray, List.set_cons_zero, List.set_cons_succ]
        refine sm_law rfl (by rfl) ?_
        refine wp_mapUpd _ (.tmp 45) (.tmp 47) (.tmp 49) 92 rfl 24 27 kS_keyed Try.underlying92 W.heap.size M1.length (dmA kL (fun p => Value.agg (objX p).toArray) M1) rfl (HRY.out.om.below hB) (by unfold maxLen; omega) (.agg #[.string x.key.kind, .string x.key.space, .string x.key.name]) (.agg #[.string x.key.kind, .string x.key.space, .string x.key.name, .int .i64 x.ver, .string x.cls, .bool x.term, .bool x.best, .slice (some ⟨g2, 0, none⟩) x.charge.length x.charge.length]) (kL K) rfl rfl HKEY.out ?_
        intro w6 hown6 hgrow6
        refine ⟨.inl rfl, ?_⟩
        simp only [Act.put, List.setIfInBounds_toArray, List.set_cons_zero, List.set_cons_succ]
        refine sm_done ?_
        have HPT := Lib.hid ((HRY.out.below hB).put HNE.out (k := K) (p := (x, .slice (some ⟨g2, 0, none⟩) x.charge.length x.charge.length)) hown6 hgrow6 HF1.out ⟨HSXY.out.oIn, HSMX.out.1⟩ hKK)
        have HK6 := Lib.hid (show Kept (fun k => k = W.heap.size ∨ k = w1.heap.size) V w6 from (HKPY.out.trans (kept_of_below (X := fun _ => False) hB) (fun _ q => q.elim)).trans HPT.out.2 (fun _ q => .inl (.inl q)))
        clear hown6 hgrow6
        go_wp2_with fail
        go_roundw
        case rel => exact ⟨j + 1, _, putA ltKS B K true, by simp, by omega, Lib.hid ⟨HPT.out.1, by rw [mo_put, HFE.out], HBD.out.1, by have := HM1.out; exact Nat.le_trans (put_le _ _ _ _) (by omega), HBD.out.2⟩, HK6⟩
        case measure => simp [intOf]; omega
      · by_cases heq : x.ver = q.ver
        · have HFE := Lib.hid (show ((oxs xs).take (j + 1)).foldl (stepR fl (mo M) G) (mo M) = putA ltKS (mo M1) K x by rw [HFD.out, if_pos (.inr heq)])
          have hee : (x.ver == q.ver) = true := by simpa using heq
          clear heq
          have hB := hB.drew
          refine region_seq (fun w' => Below Y.heap.size Y w') [(0, true), (1, true), (2, true), (3, true), (4, true), (5, false), (6, true), (7, true), (8, true), (9, true), (10, true), (11, true), (12, true), (13, true), (14, true), (15, true), (16, true), (17, true), (18, true), (19, true)] (by kernel_rfl) (by kernel_rfl) (fun _ _ _ _ h => h) hB ?_
          try generalize World.drew _ = wS at hB ⊢
          refine seq_take (v := ?_) (a' := ?_) (some 25) rfl rfl (by rfl) ?_ ?_ ?_
          rotate_left; rotate_left
          · intro w' hS; go_simp; with_reducible rfl
          · simp only [Act.put, List.setIfInBounds_toArray, List.set_cons_zero, List.set_cons_succ]; rfl
          refine seq_take (v := ?_) (a' := ?_) (some 26) rfl rfl (by rfl) ?_ ?_ ?_
          rotate_left; rotate_left
          · intro w' hS; have z0 := cb hS y0; have z1 := cb hS y1; have z2 := cb hS y2; have z3 := cb hS y3; have z4 := cb hS y4; have z5 := cb hS y5; have z6 := cb hS y6; have z7 := cb hS y7; have zc := cb hS mc0; have zp := cb hS hpb; have zl := HLK.out _ hS; go_simp; with_reducible rfl
          · simp only [Act.put, List.setIfInBounds_toArray, List.set_cons_zero, List.set_cons_succ]; rfl
          refine seq_take (v := ?_) (a' := ?_) (some 27) rfl rfl (by rfl) ?_ ?_ ?_
          rotate_left; rotate_left
          · intro w' hS; go_simp; with_reducible rfl
          · simp only [Act.put, List.setIfInBounds_toArray, List.set_cons_zero, List.set_cons_succ]; rfl
          refine seq_take (v := ?_) (a' := ?_) (some 28) rfl rfl (by rfl) ?_ ?_ ?_
          rotate_left; rotate_left
          · intro w' hS; go_simp; with_reducible rfl
          · simp only [Act.put, List.setIfInBounds_toArray, List.set_cons_zero, List.set_cons_succ]; rfl
          refine seq_take (v := ?_) (a' := ?_) (some 29) rfl rfl (by rfl) ?_ ?_ ?_
          rotate_left; rotate_left
          · intro w' hS; have z0 := cb hS y0; have z1 := cb hS y1; have z2 := cb hS y2; have z3 := cb hS y3; have z4 := cb hS y4; have z5 := cb hS y5; have z6 := cb hS y6; have z7 := cb hS y7; have zc := cb hS mc0; have zp := cb hS hpb; have zl := HLK.out _ hS; go_simp; with_reducible rfl
          · simp only [Act.put, List.setIfInBounds_toArray, List.set_cons_zero, List.set_cons_succ]; rfl
          refine seq_call (args := ?_) Try.func53 (by kernel_rfl) rfl (some 30) rfl rfl (by rfl) rfl ?_ ?_
          rotate_left
          · simp only [List.map_toArray, List.map_cons, List.map_nil]; go_simp; rfl
          with_reducible refine (HKN.out _ hB).mono ?_
          rintro e w' ⟨rfl, hb⟩
          refine ⟨_, rfl, bl_next (by repeat (first | with_reducible exact hB | refine Below.alloc ?_ (by have := hB.size; simp; omega) _ | refine bl_dN ?_ _ | refine Below.drew ?_ | refine Below.setCell ?_ (by have := hB.size; simp; omega) _)) hb, ?_⟩
          have hB := bl_next (by repeat (first | with_reducible exact hB | refine Below.alloc ?_ (by have := hB.size; simp; omega) _ | refine bl_dN ?_ _ | refine Below.drew ?_ | refine Below.setCell ?_ (by have := hB.size; simp; omega) _)) hb; clear hb
          simp only [Act.put, List.setIfInBounds_toArray, List.set_cons_zero, List.set_cons_succ]
          refine seq_take (v := ?_) (a' := ?_) (some 31) rfl rfl (by rfl) ?_ ?_ ?_
          rotate_left; rotate_left
          · intro w' hS; go_simp; with_reducible rfl
          · simp only [Act.put, List.setIfInBounds_toArray, List.set_cons_zero, List.set_cons_succ]; rfl
          refine seq_take (v := ?_) (a' := ?_) (some 32) rfl rfl (by rfl) ?_ ?_ ?_
          rotate_left; rotate_left
          · intro w' hS; go_simp; with_reducible rfl
          · simp only [Act.put, List.setIfInBounds_toArray, List.set_cons_zero, List.set_cons_succ]; rfl
          refine seq_take (v := ?_) (a' := ?_) (some 33) rfl rfl (by rfl) ?_ ?_ ?_
          rotate_left; rotate_left
          · intro w' hS; go_simp; with_reducible rfl
          · simp only [Act.put, List.setIfInBounds_toArray, List.set_cons_zero, List.set_cons_succ]; rfl
          refine seq_take (v := ?_) (a' := ?_) (some 34) rfl rfl (by rfl) ?_ ?_ ?_
          rotate_left; rotate_left
          · intro w' hS; have z0 := cb hS y0; have z1 := cb hS y1; have z2 := cb hS y2; have z3 := cb hS y3; have z4 := cb hS y4; have z5 := cb hS y5; have z6 := cb hS y6; have z7 := cb hS y7; have zc := cb hS mc0; have zp := cb hS hpb; have zl := HLK.out _ hS; go_simp; with_reducible rfl
          · simp only [Act.put, List.setIfInBounds_toArray, List.set_cons_zero, List.set_cons_succ]; rfl
          refine seq_take (v := ?_) (a' := ?_) (some 35) rfl rfl (by rfl) ?_ ?_ ?_
          rotate_left; rotate_left
          · intro w' hS; go_simp; with_reducible rfl
          · simp only [Act.put, List.setIfInBounds_toArray, List.set_cons_zero, List.set_cons_succ]; rfl
          refine seq_take (v := ?_) (a' := ?_) (some 36) rfl rfl (by rfl) ?_ ?_ ?_
          rotate_left; rotate_left
          · intro w' hS; go_simp; with_reducible rfl
          · simp only [Act.put, List.setIfInBounds_toArray, List.set_cons_zero, List.set_cons_succ]; rfl
          refine seq_take (v := ?_) (a' := ?_) (some 37) rfl rfl (by rfl) ?_ ?_ ?_
          rotate_left; rotate_left
          · intro w' hS; go_simp; with_reducible rfl
          · simp only [Act.put, List.setIfInBounds_toArray, List.set_cons_zero, List.set_cons_succ]; rfl
          refine seq_take (v := ?_) (a' := ?_) (some 38) rfl rfl (by rfl) ?_ ?_ ?_
          rotate_left; rotate_left
          · intro w' hS; have z0 := cb hS y0; have z1 := cb hS y1; have z2 := cb hS y2; have z3 := cb hS y3; have z4 := cb hS y4; have z5 := cb hS y5; have z6 := cb hS y6; have z7 := cb hS y7; have zc := cb hS mc0; have zp := cb hS hpb; have zl := HLK.out _ hS; go_simp; with_reducible rfl
          · simp only [Act.put, List.setIfInBounds_toArray, List.set_cons_zero, List.set_cons_succ]; rfl
          refine seq_take (v := ?_) (a' := ?_) (some 39) rfl rfl (by rfl) ?_ ?_ ?_
          rotate_left; rotate_left
          · intro w' hS; go_simp; with_reducible rfl
          · simp only [Act.put, List.setIfInBounds_toArray, List.set_cons_zero, List.set_cons_succ]; rfl
          refine seq_take (v := ?_) (a' := ?_) (some 40) rfl rfl (by rfl) ?_ ?_ ?_
          rotate_left; rotate_left
          · intro w' hS; have z0 := cb hS y0; have z1 := cb hS y1; have z2 := cb hS y2; have z3 := cb hS y3; have z4 := cb hS y4; have z5 := cb hS y5; have z6 := cb hS y6; have z7 := cb hS y7; have zc := cb hS mc0; have zp := cb hS hpb; have zl := HLK.out _ hS; go_simp; with_reducible rfl
          · simp only [Act.put, List.setIfInBounds_toArray, List.set_cons_zero, List.set_cons_succ]; rfl
          refine seq_take (v := ?_) (a' := ?_) (some 41) rfl rfl (by rfl) ?_ ?_ ?_
          rotate_left; rotate_left
          · intro w' hS; have z0 := cb hS y0; have z1 := cb hS y1; have z2 := cb hS y2; have z3 := cb hS y3; have z4 := cb hS y4; have z5 := cb hS y5; have z6 := cb hS y6; have z7 := cb hS y7; have zc := cb hS mc0; have zp := cb hS hpb; have zl := HLK.out _ hS; go_simp; with_reducible rfl
          · simp only [Act.put, List.setIfInBounds_toArray, List.set_cons_zero, List.set_cons_succ]; rfl
          refine seq_take (v := ?_) (a' := ?_) (some 42) rfl rfl (by rfl) ?_ ?_ ?_
          rotate_left; rotate_left
          · intro w' hS; go_simp; with_reducible rfl
          · simp only [Act.put, List.setIfInBounds_toArray, List.set_cons_zero, List.set_cons_succ]; rfl
          refine seq_take (v := ?_) (a' := ?_) (some 43) rfl rfl (by rfl) ?_ ?_ ?_
          rotate_left; rotate_left
          · intro w' hS; go_simp; with_reducible rfl
          · simp only [Act.put, List.setIfInBounds_toArray, List.set_cons_zero, List.set_cons_succ]; rfl
          refine seq_take (v := ?_) (a' := ?_) (some 44) rfl rfl (by rfl) ?_ ?_ ?_
          rotate_left; rotate_left
          · intro w' hS; go_simp; with_reducible rfl
          · simp only [Act.put, List.setIfInBounds_toArray, List.set_cons_zero, List.set_cons_succ]; rfl
          refine seq_done ?_
          have HOW2 := Lib.hid (fun (Z : World) (hb : Below Y.heap.size Y Z) => HOW.out Z hb)
          go_upto_region 8 with fail
          have hB := hB.drew
          refine region_seqM (fun w' => Below Y.heap.size Y w') 5 [(0, 1), (1, 1), (2, 1), (3, 1), (4, 0), (5, 0)] (by kernel_rfl) (by kernel_rfl) (fun _ _ _ _ h => h) hB ?_
          try generalize World.drew _ = wS at hB ⊢
          refine sm_take (v := ?_) (a' := ?_) (some 45) rfl rfl (by rfl) ?_ ?_ ?_
          rotate_left; rotate_left
          · intro w' hS; go_simp; with_reducible rfl
          · simp only [Act.put, List.setIfInBounds_toArray, List.set_cons_zero, List.set_cons_succ]; rfl
          refine sm_take (v := ?_) (a' := ?_) (some 46) rfl rfl (by rfl) ?_ ?_ ?_
          rotate_left; rotate_left
          · intro w' hS; go_simp; with_reducible rfl
          · simp only [Act.put, List.setIfInBounds_toArray, List.set_cons_zero, List.set_cons_succ]; rfl
          refine sm_take (v := ?_) (a' := ?_) (some 47) rfl rfl (by rfl) ?_ ?_ ?_
          rotate_left; rotate_left
          · intro w' hS; have z0 := cb hS y0; have z1 := cb hS y1; have z2 := cb hS y2; have z3 := cb hS y3; have z4 := cb hS y4; have z5 := cb hS y5; have z6 := cb hS y6; have z7 := cb hS y7; have zc := cb hS mc0; have zp := cb hS hpb; have zl := HLK.out _ hS; go_simp; with_reducible rfl
          · simp only [Act.put, List.setIfInBounds_toArray, List.set_cons_zero, List.set_cons_succ]; rfl
          refine sm_take (v := ?_) (a' := ?_) (some 48) rfl rfl (by rfl) ?_ ?_ ?_
          rotate_left; rotate_left
          · intro w' hS; have z0 := cb hS y0; have z1 := cb hS y1; have z2 := cb hS y2; have z3 := cb hS y3; have z4 := cb hS y4; have z5 := cb hS y5; have z6 := cb hS y6; have z7 := cb hS y7; have zc := cb hS mc0; have zp := cb hS hpb; have zl := HLK.out _ hS; go_simp; with_reducible rfl
          · simp only [Act.put, List.setIfInBounds_toArray, List.set_cons_zero, List.set_cons_succ]; rfl
          refine sm_call (args := ?_) Try.func56 (by kernel_rfl) rfl (some 49) rfl rfl (by rfl) rfl rfl ?_ ?_
          rotate_left
          · simp only [List.map_toArray, List.map_cons, List.map_nil]; go_simp; rfl
          with_reducible refine ((HOW2.out _ hB)).mono ?_
          rintro e w' ⟨g2, rfl, HF, hb⟩
          have HF1 := Lib.hid (HF.out.mono (b' := base) (by have := HGEb.out; have := hB.size; omega))
          refine ⟨_, rfl, .inr (bl_next (by repeat (first | with_reducible exact hB | refine Below.alloc ?_ (by have := hB.size; simp; omega) _ | refine bl_dN ?_ _ | refine Below.drew ?_ | refine Below.setCell ?_ (by have := hB.size; simp; omega) _)) hb), ?_⟩
          have hB := bl_next (by repeat (first | with_reducible exact hB | refine Below.alloc ?_ (by have := hB.size; simp; omega) _ | refine bl_dN ?_ _ | refine Below.drew ?_ | refine Below.setCell ?_ (by have := hB.size; simp; omega) _)) hb; clear hb
          simp only [Act.put, List.setIfInBounds_toArray, List.set_cons_zero, List.set_cons_succ]
          refine sm_law rfl (by rfl) ?_
          refine wp_mapUpd _ (.tmp 45) (.tmp 47) (.tmp 49) 92 rfl 24 27 kS_keyed Try.underlying92 W.heap.size M1.length (dmA kL (fun p => Value.agg (objX p).toArray) M1) rfl (HRY.out.om.below hB) (by unfold maxLen; omega) (.agg #[.string x.key.kind, .string x.key.space, .string x.key.name]) (.agg #[.string x.key.kind, .string x.key.space, .string x.key.name, .int .i64 x.ver, .string x.cls, .bool x.term, .bool x.best, .slice (some ⟨g2, 0, none⟩) x.charge.length x.charge.length]) (kL K) rfl rfl HKEY.out ?_
          intro w6 hown6 hgrow6
          refine ⟨.inl rfl, ?_⟩
          simp only [Act.put, List.setIfInBounds_toArray, List.set_cons_zero, List.set_cons_succ]
          refine sm_done ?_
          have HPT := Lib.hid ((HRY.out.below hB).put HNE.out (k := K) (p := (x, .slice (some ⟨g2, 0, none⟩) x.charge.length x.charge.length)) hown6 hgrow6 HF1.out ⟨HSXY.out.oIn, HSMX.out.1⟩ hKK)
          have HK6 := Lib.hid (show Kept (fun k => k = W.heap.size ∨ k = w1.heap.size) V w6 from (HKPY.out.trans (kept_of_below (X := fun _ => False) hB) (fun _ q => q.elim)).trans HPT.out.2 (fun _ q => .inl (.inl q)))
          clear hown6 hgrow6
          go_wp2_with fail
          go_roundw
          case rel => exact ⟨j + 1, _, putA ltKS B K true, by simp, by omega, Lib.hid ⟨HPT.out.1, by rw [mo_put, HFE.out], HBD.out.1, by have := HM1.out; exact Nat.le_trans (put_le _ _ _ _) (by omega), HBD.out.2⟩, HK6⟩
          case measure => simp [intOf]; omega
        · have HFE := Lib.hid (show ((oxs xs).take (j + 1)).foldl (stepR fl (mo M) G) (mo M) = mo M1 by rw [HFD.out, if_neg (by rintro (q | q); exact hgt q; exact heq q)])
          have hee : (x.ver == q.ver) = false := by simpa using heq
          clear heq
          have hB := hB.drew
          refine region_seq (fun w' => Below Y.heap.size Y w') [(0, true), (1, true), (2, true), (3, true), (4, true), (5, false), (6, true), (7, true), (8, true), (9, true), (10, true), (11, true), (12, true), (13, true), (14, true), (15, true), (16, true), (17, true), (18, true), (19, true)] (by kernel_rfl) (by kernel_rfl) (fun _ _ _ _ h => h) hB ?_
          try generalize World.drew _ = wS at hB ⊢
          refine seq_take (v := ?_) (a' := ?_) (some 25) rfl rfl (by rfl) ?_ ?_ ?_
          rotate_left; rotate_left
          · intro w' hS; go_simp; with_reducible rfl
          · simp only [Act.put, List.setIfInBounds_toArray, List.set_cons_zero, List.set_cons_succ]; rfl
          refine seq_take (v := ?_) (a' := ?_) (some 26) rfl rfl (by rfl) ?_ ?_ ?_
          rotate_left; rotate_left
          · intro w' hS; have z0 := cb hS y0; have z1 := cb hS y1; have z2 := cb hS y2; have z3 := cb hS y3; have z4 := cb hS y4; have z5 := cb hS y5; have z6 := cb hS y6; have z7 := cb hS y7; have zc := cb hS mc0; have zp := cb hS hpb; have zl := HLK.out _ hS; go_simp; with_reducible rfl
          · simp only [Act.put, List.setIfInBounds_toArray, List.set_cons_zero, List.set_cons_succ]; rfl
          refine seq_take (v := ?_) (a' := ?_) (some 27) rfl rfl (by rfl) ?_ ?_ ?_
          rotate_left; rotate_left
          · intro w' hS; go_simp; with_reducible rfl
          · simp only [Act.put, List.setIfInBounds_toArray, List.set_cons_zero, List.set_cons_succ]; rfl
          refine seq_take (v := ?_) (a' := ?_) (some 28) rfl rfl (by rfl) ?_ ?_ ?_
          rotate_left; rotate_left
          · intro w' hS; go_simp; with_reducible rfl
          · simp only [Act.put, List.setIfInBounds_toArray, List.set_cons_zero, List.set_cons_succ]; rfl
          refine seq_take (v := ?_) (a' := ?_) (some 29) rfl rfl (by rfl) ?_ ?_ ?_
          rotate_left; rotate_left
          · intro w' hS; have z0 := cb hS y0; have z1 := cb hS y1; have z2 := cb hS y2; have z3 := cb hS y3; have z4 := cb hS y4; have z5 := cb hS y5; have z6 := cb hS y6; have z7 := cb hS y7; have zc := cb hS mc0; have zp := cb hS hpb; have zl := HLK.out _ hS; go_simp; with_reducible rfl
          · simp only [Act.put, List.setIfInBounds_toArray, List.set_cons_zero, List.set_cons_succ]; rfl
          refine seq_call (args := ?_) Try.func53 (by kernel_rfl) rfl (some 30) rfl rfl (by rfl) rfl ?_ ?_
          rotate_left
          · simp only [List.map_toArray, List.map_cons, List.map_nil]; go_simp; rfl
          with_reducible refine (HKN.out _ hB).mono ?_
          rintro e w' ⟨rfl, hb⟩
          refine ⟨_, rfl, bl_next (by repeat (first | with_reducible exact hB | refine Below.alloc ?_ (by have := hB.size; simp; omega) _ | refine bl_dN ?_ _ | refine Below.drew ?_ | refine Below.setCell ?_ (by have := hB.size; simp; omega) _)) hb, ?_⟩
          have hB := bl_next (by repeat (first | with_reducible exact hB | refine Below.alloc ?_ (by have := hB.size; simp; omega) _ | refine bl_dN ?_ _ | refine Below.drew ?_ | refine Below.setCell ?_ (by have := hB.size; simp; omega) _)) hb; clear hb
          simp only [Act.put, List.setIfInBounds_toArray, List.set_cons_zero, List.set_cons_succ]
          refine seq_take (v := ?_) (a' := ?_) (some 31) rfl rfl (by rfl) ?_ ?_ ?_
          rotate_left; rotate_left
          · intro w' hS; go_simp; with_reducible rfl
          · simp only [Act.put, List.setIfInBounds_toArray, List.set_cons_zero, List.set_cons_succ]; rfl
          refine seq_take (v := ?_) (a' := ?_) (some 32) rfl rfl (by rfl) ?_ ?_ ?_
          rotate_left; rotate_left
          · intro w' hS; go_simp; with_reducible rfl
          · simp only [Act.put, List.setIfInBounds_toArray, List.set_cons_zero, List.set_cons_succ]; rfl
          refine seq_take (v := ?_) (a' := ?_) (some 33) rfl rfl (by rfl) ?_ ?_ ?_
          rotate_left; rotate_left
          · intro w' hS; go_simp; with_reducible rfl
          · simp only [Act.put, List.setIfInBounds_toArray, List.set_cons_zero, List.set_cons_succ]; rfl
          refine seq_take (v := ?_) (a' := ?_) (some 34) rfl rfl (by rfl) ?_ ?_ ?_
          rotate_left; rotate_left
          · intro w' hS; have z0 := cb hS y0; have z1 := cb hS y1; have z2 := cb hS y2; have z3 := cb hS y3; have z4 := cb hS y4; have z5 := cb hS y5; have z6 := cb hS y6; have z7 := cb hS y7; have zc := cb hS mc0; have zp := cb hS hpb; have zl := HLK.out _ hS; go_simp; with_reducible rfl
          · simp only [Act.put, List.setIfInBounds_toArray, List.set_cons_zero, List.set_cons_succ]; rfl
          refine seq_take (v := ?_) (a' := ?_) (some 35) rfl rfl (by rfl) ?_ ?_ ?_
          rotate_left; rotate_left
          · intro w' hS; go_simp; with_reducible rfl
          · simp only [Act.put, List.setIfInBounds_toArray, List.set_cons_zero, List.set_cons_succ]; rfl
          refine seq_take (v := ?_) (a' := ?_) (some 36) rfl rfl (by rfl) ?_ ?_ ?_
          rotate_left; rotate_left
          · intro w' hS; go_simp; with_reducible rfl
          · simp only [Act.put, List.setIfInBounds_toArray, List.set_cons_zero, List.set_cons_succ]; rfl
          refine seq_take (v := ?_) (a' := ?_) (some 37) rfl rfl (by rfl) ?_ ?_ ?_
          rotate_left; rotate_left
          · intro w' hS; go_simp; with_reducible rfl
          · simp only [Act.put, List.setIfInBounds_toArray, List.set_cons_zero, List.set_cons_succ]; rfl
          refine seq_take (v := ?_) (a' := ?_) (some 38) rfl rfl (by rfl) ?_ ?_ ?_
          rotate_left; rotate_left
          · intro w' hS; have z0 := cb hS y0; have z1 := cb hS y1; have z2 := cb hS y2; have z3 := cb hS y3; have z4 := cb hS y4; have z5 := cb hS y5; have z6 := cb hS y6; have z7 := cb hS y7; have zc := cb hS mc0; have zp := cb hS hpb; have zl := HLK.out _ hS; go_simp; with_reducible rfl
          · simp only [Act.put, List.setIfInBounds_toArray, List.set_cons_zero, List.set_cons_succ]; rfl
          refine seq_take (v := ?_) (a' := ?_) (some 39) rfl rfl (by rfl) ?_ ?_ ?_
          rotate_left; rotate_left
          · intro w' hS; go_simp; with_reducible rfl
          · simp only [Act.put, List.setIfInBounds_toArray, List.set_cons_zero, List.set_cons_succ]; rfl
          refine seq_take (v := ?_) (a' := ?_) (some 40) rfl rfl (by rfl) ?_ ?_ ?_
          rotate_left; rotate_left
          · intro w' hS; have z0 := cb hS y0; have z1 := cb hS y1; have z2 := cb hS y2; have z3 := cb hS y3; have z4 := cb hS y4; have z5 := cb hS y5; have z6 := cb hS y6; have z7 := cb hS y7; have zc := cb hS mc0; have zp := cb hS hpb; have zl := HLK.out _ hS; go_simp; with_reducible rfl
          · simp only [Act.put, List.setIfInBounds_toArray, List.set_cons_zero, List.set_cons_succ]; rfl
          refine seq_take (v := ?_) (a' := ?_) (some 41) rfl rfl (by rfl) ?_ ?_ ?_
          rotate_left; rotate_left
          · intro w' hS; have z0 := cb hS y0; have z1 := cb hS y1; have z2 := cb hS y2; have z3 := cb hS y3; have z4 := cb hS y4; have z5 := cb hS y5; have z6 := cb hS y6; have z7 := cb hS y7; have zc := cb hS mc0; have zp := cb hS hpb; have zl := HLK.out _ hS; go_simp; with_reducible rfl
          · simp only [Act.put, List.setIfInBounds_toArray, List.set_cons_zero, List.set_cons_succ]; rfl
          refine seq_take (v := ?_) (a' := ?_) (some 42) rfl rfl (by rfl) ?_ ?_ ?_
          rotate_left; rotate_left
          · intro w' hS; go_simp; with_reducible rfl
          · simp only [Act.put, List.setIfInBounds_toArray, List.set_cons_zero, List.set_cons_succ]; rfl
          refine seq_take (v := ?_) (a' := ?_) (some 43) rfl rfl (by rfl) ?_ ?_ ?_
          rotate_left; rotate_left
          · intro w' hS; go_simp; with_reducible rfl
          · simp only [Act.put, List.setIfInBounds_toArray, List.set_cons_zero, List.set_cons_succ]; rfl
          refine seq_take (v := ?_) (a' := ?_) (some 44) rfl rfl (by rfl) ?_ ?_ ?_
          rotate_left; rotate_left
          · intro w' hS; go_simp; with_reducible rfl
          · simp only [Act.put, List.setIfInBounds_toArray, List.set_cons_zero, List.set_cons_succ]; rfl
          refine seq_done ?_
          go_wp2_with fail
          go_roundw
          case rel => exact ⟨j + 1, M1, putA ltKS B K true, by simp, by omega, Lib.hid ⟨HRY.out.below hB, HFE.out.symm, HBD.out.1, by have := HM1.out; omega, HBD.out.2⟩, Lib.hid (HKPY.out.trans (kept_of_below (X := fun _ => False) hB) (fun _ q => q.elim))⟩
          case measure => simp [intOf]; omega
    · obtain rfl : j = xs.length := by omega
      have hml : (oxs xs).take xs.length = oxs xs := by rw [← oxs_len, List.take_length]
      have HS2 := Lib.hid (show mo M1 = (oxs xs).foldl (stepR fl (mo M) G) (mo M) ∧ (∀ k, inLB B k = inXs (oxs xs) k) from ⟨by rw [HS.out.2.1, hml], fun k => by rw [HS.out.2.2.1 k, hml]⟩)
      have HBr := Lib.hid (show Below w.heap.size w wr from HBw.out.trans (HKP.out.below HBw.out.size (fun k q => by rcases q with q | q <;> omega)))
      have HPBr := Lib.hid (HKP.out.cell HPB.out (show ¬ (w1.heap.size + 1 = W.heap.size ∨ w1.heap.size + 1 = w1.heap.size) by omega))
      have HE9 := Lib.hid (HKP.out.cell (show V.cell? ⟨w.heap.size, 9, none⟩ = some (.int .i64 ev) from blk_cell HE.out 9) (show ¬ (w.heap.size = W.heap.size ∨ w.heap.size = w1.heap.size) by omega))
      have HDL := Lib.hid (delO_calls wr HS.out.1.om (keys_nodup strictKS HS.out.1.rise) (fun q hq => by obtain ⟨g, hg⟩ := (HS.out.1.res q hq).1.form; exact ⟨_, _, _, hg⟩) HS.out.1.bm (fun e => HNE.out e.symm) HPBr.out HE9.out)
      clear hml
      go_wp2_with (go_at_call 109; refine HDL.out.mono ?_; rintro e w9 ⟨rfl, hd, hk⟩; have HD := Lib.hid (And.intro hd hk); clear hd hk)
      go_ret
      have hsub : ∀ q ∈ dropG M1 (fun k (v : OX) => !inLB B k && decide (v.1.ver ≤ ev)), q ∈ M1 := fun q hq => (List.mem_filter.1 hq).1
      refine ⟨W.heap.size, dropG M1 (fun k (v : OX) => !inLB B k && decide (v.1.ver ≤ ev)), rfl, by omega, HD.out.1, fun q hq => ⟨(HS.out.1.res q (hsub q hq)).1.kept HD.out.2 (map_apart HS.out.1.om), (HS.out.1.res q (hsub q hq)).2⟩, rise_drop HS.out.1.rise _, ?_, ?_, HBr.out.trans (HD.out.2.below HBr.out.size (fun k q => by subst q; omega))⟩
      · rw [mo_drop M1 (fun k o => !inLB B k && decide (o.ver ≤ ev)), HS2.out.1]
        unfold relistP
        congr 1
        funext k o
        rw [HS2.out.2 k]
      · have h1 := drop_le M1 (fun k (v : OX) => !inLB B k && decide (v.1.ver ≤ ev))
        have h2 := HS.out.2.2.2.1
        rw [oxs_len]; omega
end Go.Proofs.Ythhfcambdmdgfaa
namespace Go.Proofs.Ythhfcambdmdgfaa
open Go.RowKit
section
variable {P : Program} {ops : Array Oper} {Q : Exit → Act → World → Prop} {S : World → Prop} {md : Region.Mode} {l n : Nat}
/-- Nothing but the region's end. -/
def onlyN (Q : Exit → Act → World → Prop) : Exit → Act → World → Prop := fun e a w => e = .normal ∧ Q e a w
theorem onlyN_panic (c) (a : Act) (t) (w : World) (h : onlyN Q (.panic c) { a with tmps := t } w) : onlyN Q (.panic c) a w := by cases h.1
end
end Go.Proofs.Ythhfcambdmdgfaa
namespace Go.Proofs.Ythhfcambdmdgfaa
open Go.RowKit
set_option linter.unusedVariables false
inductive Tr where
  | done
  | take (i : Nat) (t : Tr)
  | one (i : Nat) (t : Tr)
  | two (i : Nat) (t : Tr) (j : Nat) (u : Tr)
  | tri (i : Nat) (t : Tr) (j : Nat) (u : Tr) (k : Nat) (v : Tr)
section
variable {P : Program} {ops : Array Oper} {Q : Exit → Act → World → Prop} {S : World → Prop} {md : Region.Mode} {L : Nat}
def linT (md : Region.Mode) (ops : Array Oper) (L : Nat) : Nat → Array Bool → Tr → Bool
  | 0, listed, .done => Region.ready md ops listed == []
  | f + 1, listed, .take i t => Region.noSelect ops && Region.free md ops listed i && (Region.ready md ops listed).contains i && reachL md ops ops.size L i && !(listed.getD L true) && linT md ops L f (listed.setIfInBounds i true) t
  | f + 1, listed, .one i t => (Region.ready md ops listed == [i]) && linT md ops L f (listed.setIfInBounds i true) t
  | f + 1, listed, .two i t j u => (Region.ready md ops listed == [i, j]) && linT md ops L f (listed.setIfInBounds i true) t && linT md ops L f (listed.setIfInBounds j true) u
  | f + 1, listed, .tri i t j u k v => (Region.ready md ops listed == [i, j, k]) && linT md ops L f (listed.setIfInBounds i true) t && linT md ops L f (listed.setIfInBounds j true) u && linT md ops L f (listed.setIfInBounds k true) v
  | _, _, _ => false
def treeL (P : Program) (ops : Array Oper) (Q : Exit → Act → World → Prop) (S : World → Prop) (L : Nat) : Tr → Act → World → Prop
  | .done, a, w => Q .normal a w
  | .take i t, a, w => ∃ oi v, ops[i]? = some oi ∧ YieldsIf P ops S oi v a ∧ treeL P ops Q S L t (a.put oi.dst v) w
  | .one i t, a, w => wpOp P ops Q i (fun a' w' => (i = L ∨ S w') ∧ treeL P ops Q S L t a' w') a w
  | .two i t j u, a, w => wpOp P ops Q i (fun a' w' => (i = L ∨ S w') ∧ treeL P ops Q S L t a' w') a w ∧ wpOp P ops Q j (fun a' w' => (j = L ∨ S w') ∧ treeL P ops Q S L u a' w') a w
  | .tri i t j u k v, a, w => wpOp P ops Q i (fun a' w' => (i = L ∨ S w') ∧ treeL P ops Q S L t a' w') a w ∧ wpOp P ops Q j (fun a' w' => (j = L ∨ S w') ∧ treeL P ops Q S L u a' w') a w ∧ wpOp P ops Q k (fun a' w' => (k = L ∨ S w') ∧ treeL P ops Q S L v a' w') a w
theorem listed_L {listed : Array Bool} {j : Nat} {p : Prop} {S : Prop} (h : j = L ∨ S) : (listed.setIfInBounds j true).getD L true = false → S := fun hq => by
  rcases h with rfl | q
  · exfalso
    rcases Nat.lt_or_ge j listed.size with h9 | h9
    · simp [Array.getD, h9] at hq
    · simp [Array.getD, Nat.not_lt.2 h9] at hq
  · exact q
theorem treeL_any (hQ : ∀ c (a : Act) t w, Q (.panic c) { a with tmps := t } w → Q (.panic c) a w) : ∀ (f : Nat) (T : Tr) (listed : Array Bool) (a : Act) (w : World),
    linT md ops L f listed T = true → closedL md ops listed → (listed.getD L true = false → S w) → treeL P ops Q S L T a w → wpAnyL P md ops Q S L f listed a w
  | 0, .done, listed, a, w, hl, _, _, h => ⟨by simpa [linT] using hl, h⟩
  | f + 1, .done, listed, a, w, hl, _, _, h => by simp [linT] at hl
  | 0, .take _ _, _, _, _, hl, _, _, _ => by simp [linT] at hl
  | 0, .one _ _, _, _, _, hl, _, _, _ => by simp [linT] at hl
  | 0, .two _ _ _ _, _, _, _, hl, _, _, _ => by simp [linT] at hl
  | 0, .tri _ _ _ _ _ _, _, _, _, hl, _, _, _ => by simp [linT] at hl
  | f + 1, .take i t, listed, a, w, hl, hcl, hS, h => by
    simp only [linT, Bool.and_eq_true, Bool.not_eq_true'] at hl
    obtain ⟨oi, v, hi, hy, h⟩ := h
    obtain ⟨⟨⟨⟨⟨h1, h2⟩, h3⟩, h4⟩, h5⟩, h6⟩ := hl
    exact wpAnyL_first hi (Region.noSelect_spec h1) (put_panic hQ oi.dst v) h4 _ _ _ _ (Region.free_spec hi h2) (by simpa using h3) hy (hS h5) h5 hcl (treeL_any hQ f t _ _ _ h6 (closed_set hcl (by simpa using h3)) (fun _ => hS h5) h)
  | f + 1, .one i t, listed, a, w, hl, hcl, hS, h => by
    simp only [linT, Bool.and_eq_true, beq_iff_eq] at hl
    refine ⟨fun h0 => (by rw [hl.1] at h0; cases h0), fun j hj => ?_⟩
    have hjr : j ∈ Region.ready md ops listed := hj
    rw [hl.1] at hj
    obtain rfl : j = i := by simpa using hj
    have h' : wpOp P ops Q j (fun a' w' => (j = L ∨ S w') ∧ treeL P ops Q S L t a' w') a w := h
    refine wpOp_mono (K := fun a' w' => (j = L ∨ S w') ∧ treeL P ops Q S L t a' w') ?_ h'
    intro a' w' ⟨hS', h''⟩
    have hs := listed_L (listed := listed) (p := True) hS'
    exact ⟨hs, treeL_any hQ f t _ _ _ hl.2 (closed_set hcl hjr) hs h''⟩
  | f + 1, .two i t k u, listed, a, w, hl, hcl, hS, h => by
    simp only [linT, Bool.and_eq_true, beq_iff_eq] at hl
    refine ⟨fun h0 => (by rw [hl.1.1] at h0; cases h0), fun j hj => ?_⟩
    have hjr : j ∈ Region.ready md ops listed := hj
    rw [hl.1.1] at hj
    rcases List.mem_cons.1 hj with rfl | hj
    · refine wpOp_mono (K := fun a' w' => (j = L ∨ S w') ∧ treeL P ops Q S L t a' w') ?_ h.1
      intro a' w' ⟨hS', h''⟩
      have hs := listed_L (listed := listed) (p := True) hS'
      exact ⟨hs, treeL_any hQ f t _ _ _ hl.1.2 (closed_set hcl hjr) hs h''⟩
    · obtain rfl : j = k := by simpa using hj
      refine wpOp_mono (K := fun a' w' => (j = L ∨ S w') ∧ treeL P ops Q S L u a' w') ?_ h.2
      intro a' w' ⟨hS', h''⟩
      have hs := listed_L (listed := listed) (p := True) hS'
      exact ⟨hs, treeL_any hQ f u _ _ _ hl.2 (closed_set hcl hjr) hs h''⟩
  | f + 1, .tri i t k u m v, listed, a, w, hl, hcl, hS, h => by
    simp only [linT, Bool.and_eq_true, beq_iff_eq] at hl
    refine ⟨fun h0 => (by rw [hl.1.1.1] at h0; cases h0), fun j hj => ?_⟩
    have hjr : j ∈ Region.ready md ops listed := hj
    rw [hl.1.1.1] at hj
    rcases List.mem_cons.1 hj with rfl | hj
    · refine wpOp_mono (K := fun a' w' => (j = L ∨ S w') ∧ treeL P ops Q S L t a' w') ?_ h.1
      intro a' w' ⟨hS', h''⟩
      have hs := listed_L (listed := listed) (p := True) hS'
      exact ⟨hs, treeL_any hQ f t _ _ _ hl.1.1.2 (closed_set hcl hjr) hs h''⟩
    rcases List.mem_cons.1 hj with rfl | hj
    · refine wpOp_mono (K := fun a' w' => (j = L ∨ S w') ∧ treeL P ops Q S L u a' w') ?_ h.2.1
      intro a' w' ⟨hS', h''⟩
      have hs := listed_L (listed := listed) (p := True) hS'
      exact ⟨hs, treeL_any hQ f u _ _ _ hl.1.2 (closed_set hcl hjr) hs h''⟩
    · obtain rfl : j = m := by simpa using hj
      refine wpOp_mono (K := fun a' w' => (j = L ∨ S w') ∧ treeL P ops Q S L v a' w') ?_ h.2.2
      intro a' w' ⟨hS', h''⟩
      have hs := listed_L (listed := listed) (p := True) hS'
      exact ⟨hs, treeL_any hQ f v _ _ _ hl.2 (closed_set hcl hjr) hs h''⟩
theorem region_tree0 {id : Nat} {a : Act} {w : World} (S : World → Prop) (L : Nat) (T : Tr) (hm : P.follows .mixedOrders = true) (hl : linT .any ops L ops.size (Array.replicate ops.size false) T = true)
    (hQ : ∀ c (a : Act) t w, Q (.panic c) { a with tmps := t } w → Q (.panic c) a w) (hS : S w.drew) (h : treeL P ops Q S L T a w.drew) : (Code.region id ops true).wp P Q a w := by
  refine wp_region_any hm ?_
  exact wpAny_of_L _ _ _ _ (treeL_any hQ _ T _ _ _ hl (fun j o _ hj => by
    exfalso
    have e : (Array.replicate ops.size false).getD j false = false := by
      rw [Array.getD_eq_getD_getElem?, Array.getElem?_replicate]; split <;> rfl
    rw [e] at hj; cases hj) (fun _ => hS) h)
theorem region_tree {id : Nat} {a : Act} {w : World} (S : World → Prop) (L : Nat) (T : Tr) (hm : P.follows .mixedOrders = true) (hl : linT .any ops L ops.size (Array.replicate ops.size false) T = true)
    (hS : S w.drew) (h : treeL P ops (onlyN Q) S L T a w.drew) : (Code.region id ops true).wp P Q a w :=
  Code.wp_mono (fun _ _ _ h => h.2) (region_tree0 (Q := onlyN Q) S L T hm hl onlyN_panic hS h)
theorem tl_done {a : Act} {w : World} (h : Q .normal a w) : treeL P ops (onlyN Q) S L .done a w := ⟨rfl, h⟩
theorem tl_take {t : Tr} {i : Nat} {a a' : Act} {w : World} {oi : Oper} {v : Value} (N : Option Tmp) (hi : ops[i]? = some oi) (hN : oi.dst = N) (hw : Region.wanted oi (yielded ops a.tmps) = true)
    (hv : ∀ w', S w' → (execOp a.eval oi).run P w' = .ok (.value v) w') (ha : a.put N v = a') (h : treeL P ops Q S L t a' w) : treeL P ops Q S L (.take i t) a w :=
  ⟨oi, v, hi, .inl ⟨hw, hv⟩, by rw [hN, ha]; exact h⟩
/-- One step that may come up: what it leaves, S, and how it goes on. -/
def stepL (P : Program) (ops : Array Oper) (Q : Exit → Act → World → Prop) (S : World → Prop) (L i : Nat) (t : Tr) (a : Act) (w : World) : Prop :=
  wpOp P ops Q i (fun a' w' => (i = L ∨ S w') ∧ treeL P ops Q S L t a' w') a w
theorem tl_one {t : Tr} {i : Nat} {a : Act} {w : World} (h : stepL P ops Q S L i t a w) : treeL P ops Q S L (.one i t) a w := h
theorem tl_two {t u : Tr} {i j : Nat} {a : Act} {w : World} (h : stepL P ops Q S L i t a w) (k : stepL P ops Q S L j u a w) : treeL P ops Q S L (.two i t j u) a w := ⟨h, k⟩
/-- An operation that lays a block of its own. -/
theorem st_new {t : Tr} {i : Nat} {a : Act} {w : World} {oi : Oper} (N : Option Tmp) (hi : ops[i]? = some oi) (hN : oi.dst = N) (hw : Region.wanted oi (yielded ops a.tmps) = true)
    (h : ∃ v o, (execOp a.eval oi).run P w = .ok (.value v) (w.alloc o) ∧ ∃ a', a.put N v = a' ∧ ∀ u, u.heap[w.heap.size]? = some o → Below w.heap.size w u → w.heap.size < u.heap.size → S u ∧ treeL P ops Q S L t a' u) : stepL P ops Q S L i t a w := by
  obtain ⟨v, o, hrun, a', ha, h⟩ := h
  obtain ⟨hS, h⟩ := h (w.alloc o) (blk_new w o) ((Below.refl _ _).alloc (Nat.le_refl _) _) (by simp)
  show wpOp P ops Q i _ a w
  unfold wpOp
  rw [hi]
  simp only [hw, if_true]
  refine .inl ?_
  unfold Oper.wp
  rw [hrun, Oper.upon_value, hN, ha]
  exact ⟨.inr hS, h⟩
/-- An operation by a law of its own. -/
theorem st_law {t : Tr} {i : Nat} {a : Act} {w : World} {oi : Oper} (hi : ops[i]? = some oi) (hw : Region.wanted oi (yielded ops a.tmps) = true)
    (h : oi.wp P a w (fun a' w' => (i = L ∨ S w') ∧ treeL P ops Q S L t a' w') Q) : stepL P ops Q S L i t a w := by
  show wpOp P ops Q i _ a w
  unfold wpOp
  rw [hi]
  simp only [hw, if_true]
  exact .inl h
theorem st_res {t : Tr} {i : Nat} {a : Act} {w : World} {oi : Oper} (N : Option Tmp) (hi : ops[i]? = some oi) (hN : oi.dst = N) (hw : Region.wanted oi (yielded ops a.tmps) = true) {R : Value → World → Prop}
    (hl : ∀ K : Act → World → Prop, (∀ v w1, R v w1 → K (a.put oi.dst v) w1) → oi.wp P a w K Q) (h : ∀ v w1, R v w1 → S w1 ∧ treeL P ops Q S L t (a.put N v) w1) : stepL P ops Q S L i t a w :=
  st_law hi hw (hl _ fun v w1 hR => by rw [hN]; exact ⟨.inr (h v w1 hR).1, (h v w1 hR).2⟩)
/-- A store that comes last. -/
theorem st_last {t : Tr} {a : Act} {w : World} {oi : Oper} (N : Option Tmp) (hi : ops[L]? = some oi) (hN : oi.dst = N) (hw : Region.wanted oi (yielded ops a.tmps) = true)
    (h : ∃ w1, (execOp a.eval oi).run P w = .ok .skip w1 ∧ ∃ a', a.put N undef = a' ∧ treeL P ops Q S L t a' w1) : stepL P ops Q S L L t a w := by
  obtain ⟨w1, hrun, a', ha, h⟩ := h
  show wpOp P ops Q L _ a w
  unfold wpOp
  rw [hi]
  simp only [hw, if_true]
  refine .inl ?_
  unfold Oper.wp
  rw [hrun, Oper.upon_skip, hN, ha]
  exact ⟨by simp, h⟩
end
end Go.Proofs.Ythhfcambdmdgfaa

import Derived.Test.YthaipgbjnigkhaaTra
import Derived.Test.YthaipgbjnigkhaaLb1
namespace Go.Proofs.Ythaipgbjnigkhaa
set_option linter.unusedVariables false
set_option linter.unusedSimpArgs false
set_option linter.unusedSectionVars false
/-! ### What acts on a tree leave -/
def createR (N : Nodes) (s p : ByteArray) : Int × Nodes :=
  if !rightB s then (1, N) else if hasN N s then (5, N) else if !hasN N p then (4, N) else if 8 ≤ (pathT N p).length then (9, N) else if 200 ≤ N.length then (3, N) else (0, insN N s p)
def removeR (N : Nodes) (s : ByteArray) : Int × Nodes :=
  if !hasN N s then (4, N) else if s = rootB then (1, N) else if !(childN N s).isEmpty then (10, N) else (0, delN N s)
def deepN (N : Nodes) (s : ByteArray) : Nat := (belowN N s).foldl (fun n x => max n ((pathT N x).findIdx (fun y => decide (y = s)) + 1)) 0
def moveR (N : Nodes) (s p : ByteArray) : Int × Nodes :=
  if !hasN N s || !hasN N p then (4, N) else if s = rootB then (1, N) else if inL (pathT N p) s then (8, N) else if 8 < (pathT N p).length + deepN N s then (9, N) else (0, setN N s p)
theorem right_pos {s : ByteArray} (h : rightB s = true) : s ≠ ⟨#[]⟩ ∧ s.size ≤ 24 := by
  unfold rightB at h
  simp only [Bool.and_eq_true, decide_eq_true_eq] at h
  refine ⟨?_, h.1.1.2⟩
  rintro rfl
  have := h.1.1.1.2
  exact absurd this (by decide)
theorem pathN_head {f : Nat} {N : Nodes} {s : ByteArray} (h : hasN N s = false) : pathN f N s = [] := by
  cases f with
  | zero => rfl
  | succ f => unfold pathN; rw [h]; rfl
theorem pathT_has {f : Nat} {N : Nodes} {s x : ByteArray} (h : x ∈ pathN f N s) : hasN N x = true := by
  induction f generalizing s with
  | zero => cases h
  | succ f ih =>
    unfold pathN at h
    split at h
    · rename_i k
      rcases List.mem_cons.1 h with rfl | h
      · exact k
      · exact ih h
    · cases h
section
variable {N : Nodes} (G : Good11 N)
include G
theorem Good11.hasRoot : hasN N rootB = true := hasN_iff.2 ⟨_, G.root⟩
theorem Good11.par_root : parN N rootB = ⟨#[]⟩ := parN_some G.rise G.root
theorem Good11.par_has {s : ByteArray} (h : hasN N s = true) (hs : s ≠ rootB) : hasN N (parN N s) = true := G.up _ _ (parN_mem h) hs
/-! Create -/
theorem create_path {s p x : ByteArray} (hs : hasN N s = false) (hp : hasN N p = true) (h8 : (pathT N p).length < 8) (he : s ≠ ⟨#[]⟩) : pathT (insN N s p) x = if x = s then s :: pathT N p else pathT N x := by
  have key : ∀ (f : Nat) (y : ByteArray), y ≠ s → pathN f (insN N s p) y = pathN f N y := pathN_congr (A := fun y => y ≠ s) (fun y hy => by
    refine ⟨by rw [hasN_ins]; simp; exact fun e => absurd e.symm hy, fun hk => ?_⟩
    rw [parN_ins G.rise hs, if_neg hy]
    refine ⟨rfl, ?_⟩
    by_cases hr : y = rootB
    · subst hr; rw [G.par_root]; exact he.symm
    · have := G.par_has hk hr
      intro e; rw [e, hs] at this; cases this)
  have hps : p ≠ s := fun e => by rw [e, hs] at hp; cases hp
  split
  · rename_i e; subst e
    have e1 : pathT (insN N x p) x = if hasN (insN N x p) x then x :: pathN 19 (insN N x p) (parN (insN N x p) x) else [] := rfl
    rw [e1, if_pos (by rw [hasN_ins]; simp), parN_ins G.rise hs, if_pos rfl, key _ _ hps]
    have h3 := pathN_take 19 N p 20 (by omega)
    have h4 : pathN 20 N p = pathT N p := rfl
    rw [← h4] at h8
    rw [← h4, pathN_stay (f := 19) (g := 20) (by omega) (by omega)]
  · rename_i e; exact key 20 x e
theorem good_create {s p : ByteArray} (hr : rightB s = true) (hs : hasN N s = false) (hp : hasN N p = true) (h8 : (pathT N p).length < 8) (h200 : N.length < 200) : Good11 (insN N s p) := by
  obtain ⟨he, h24⟩ := right_pos hr
  refine ⟨rising_insN G.rise hs, mem_insN.2 (.inr G.root), ?_, ?_, ?_, ?_, by rw [insN_length]; omega⟩
  · rw [hasN_ins, G.noE]; simpa using he
  · intro x y hm hx
    rw [hasN_ins]
    rcases mem_insN.1 hm with h | h
    · cases h; rw [hp]; simp
    · rw [G.up x y h hx]; simp
  · intro x
    rw [create_path G hs hp h8 he]
    split
    · simp; omega
    · exact G.deep x
  · intro x y hm
    rcases mem_insN.1 hm with h | h
    · cases h
      obtain ⟨q, hq⟩ := hasN_iff.1 hp
      exact ⟨by omega, (G.fit _ _ hq).1⟩
    · exact G.fit x y h
/-! Remove -/
theorem no_child {s : ByteArray} (hc : childN N s = []) {x : ByteArray} (hx : hasN N x = true) (hr : x ≠ rootB) : parN N x ≠ s := by
  intro e
  have hm := parN_mem hx
  rw [e] at hm
  unfold childN at hc
  have : x ∈ ((N.filter fun p => !decide (p.1 = rootB) && decide (p.2 = s)).map (·.1)) := List.mem_map.2 ⟨_, List.mem_filter.2 ⟨hm, by simp [hr]⟩, rfl⟩
  rw [hc] at this; cases this
theorem remove_path {s x : ByteArray} (hs : hasN N s = true) (hr : s ≠ rootB) (hc : childN N s = []) : pathT (delN N s) x = if x = s then [] else pathT N x := by
  have key : ∀ (f : Nat) (y : ByteArray), y ≠ s → pathN f (delN N s) y = pathN f N y := pathN_congr (A := fun y => y ≠ s) (fun y hy => by
    refine ⟨by rw [hasN_del]; simp [hy], fun hk => ?_⟩
    rw [parN_del G.rise hy]
    refine ⟨rfl, ?_⟩
    by_cases h0 : y = rootB
    · subst h0; rw [G.par_root]
      intro e; rw [← e, G.noE] at hs; cases hs
    · exact no_child G hc hk h0)
  split
  · rename_i e; subst e
    exact pathN_head (by rw [hasN_del]; simp)
  · rename_i e; exact key 20 x e
theorem good_remove {s : ByteArray} (hs : hasN N s = true) (hr : s ≠ rootB) (hc : childN N s = []) : Good11 (delN N s) := by
  refine ⟨rising_delN G.rise, List.mem_filter.2 ⟨G.root, by simp; exact fun e => hr e.symm⟩, ?_, ?_, ?_, ?_, ?_⟩
  · rw [hasN_del, G.noE]; simp
  · intro x y hm hx
    have hm' := (List.mem_filter.1 hm).1
    rw [hasN_del, G.up x y hm' hx]
    have hx2 : hasN N x = true := hasN_iff.2 ⟨_, hm'⟩
    have := no_child G hc hx2 hx
    rw [parN_some G.rise hm'] at this
    simp [this]
  · intro x
    rw [remove_path G hs hr hc]
    split
    · exact Nat.zero_le _
    · exact G.deep x
  · intro x y hm; exact G.fit x y (List.mem_filter.1 hm).1
  · have := List.length_filter_le (fun q : ByteArray × ByteArray => !decide (q.1 = s)) N
    have := G.few
    unfold delN; omega
/-! Move -/
theorem tail_path {s x : ByteArray} (h : hasN N x = true) (hn : s ∉ pathT N x) : s ∉ pathT N (parN N x) := by
  rw [G.path x, if_pos h] at hn
  exact fun hm => hn (List.mem_cons_of_mem _ hm)
theorem move_other {s p : ByteArray} (hs : hasN N s = true) : ∀ (f : Nat) (x : ByteArray), s ∉ pathT N x → pathN f (setN N s p) x = pathN f N x :=
  pathN_congr (A := fun x => s ∉ pathT N x) (fun x hx => by
    refine ⟨hasN_set, fun hk => ?_⟩
    have hxs : x ≠ s := by rintro rfl; rw [G.path x, if_pos hk] at hx; exact hx (List.mem_cons_self ..)
    rw [parN_set G.rise hs, if_neg hxs]
    exact ⟨rfl, tail_path G hk hx⟩)
theorem move_self {s p : ByteArray} (hs : hasN N s = true) (hp : s ∉ pathT N p) (f : Nat) (hf : 9 ≤ f) : pathN (f + 1) (setN N s p) s = s :: pathT N p := by
  have e1 : pathN (f + 1) (setN N s p) s = if hasN (setN N s p) s then s :: pathN f (setN N s p) (parN (setN N s p) s) else [] := rfl
  rw [e1, if_pos (by rw [hasN_set]; exact hs), parN_set G.rise hs, if_pos rfl, move_other G hs _ _ hp]
  have h3 := G.deep p
  have h4 : pathN 20 N p = pathT N p := rfl
  rw [← h4] at h3 ⊢
  rcases Nat.lt_or_ge f 20 with q | q
  · have h5 := pathN_take f N p 20 (by omega)
    rw [pathN_stay (f := f) (g := 20) (by omega) (by omega)]
  · rw [pathN_stay (f := 20) (g := f) (by omega) q]
/-- A path through the moved one. -/
theorem move_through {s p : ByteArray} (hs : hasN N s = true) (hp : s ∉ pathT N p) : ∀ (n : Nat) (x : ByteArray) (f : Nat), (pathT N x).length = n → s ∈ pathT N x → n + 9 ≤ f →
    pathN (f + 1) (setN N s p) x = (pathT N x).take ((pathT N x).findIdx (fun y => decide (y = s)) + 1) ++ pathT N p
  | n, x, f, hl, hm, hf => by
    have hx : hasN N x = true := by
      cases k : hasN N x with
      | true => rfl
      | false => rw [G.path x, k] at hm; cases hm
    by_cases e : x = s
    · subst e
      rw [move_self G hs hp f (by omega), G.path x, if_pos hx, List.findIdx_cons]
      simp
    · rw [G.path x, if_pos hx] at hm hl
      have hm2 : s ∈ pathT N (parN N x) := by
        rcases List.mem_cons.1 hm with h | h
        · exact absurd h.symm e
        · exact h
      obtain ⟨n', rfl⟩ : ∃ n', n = n' + 1 := ⟨n - 1, by simp at hl; omega⟩
      obtain ⟨f', rfl⟩ : ∃ f', f = f' + 1 := ⟨f - 1, by omega⟩
      have ih := move_through hs hp n' (parN N x) f' (by simpa using hl) hm2 (by omega)
      have e1 : pathN (f' + 1 + 1) (setN N s p) x = if hasN (setN N s p) x then x :: pathN (f' + 1) (setN N s p) (parN (setN N s p) x) else [] := rfl
      rw [e1, if_pos (by rw [hasN_set]; exact hx), parN_set G.rise hs, if_neg e, ih, G.path x, if_pos hx, List.findIdx_cons]
      simp [e]
theorem move_pathT {s p x : ByteArray} (hs : hasN N s = true) (hp : s ∉ pathT N p) : pathT (setN N s p) x = if inL (pathT N x) s then (pathT N x).take ((pathT N x).findIdx (fun y => decide (y = s)) + 1) ++ pathT N p else pathT N x := by
  cases k : inL (pathT N x) s with
  | true =>
    have h8 := G.deep x
    exact move_through G hs hp _ x 19 rfl (inL_iff.1 k) (by omega)
  | false =>
    exact move_other G hs 20 x (fun h => by rw [inL_iff.2 h] at k; cases k)
theorem move_len {s p x : ByteArray} (hs : hasN N s = true) (hp : s ∉ pathT N p) (h : s ∈ pathT N x) : (pathT (setN N s p) x).length = (pathT N x).findIdx (fun y => decide (y = s)) + 1 + (pathT N p).length := by
  rw [move_pathT G hs hp, if_pos (inL_iff.2 h), List.length_append, List.length_take]
  have := List.findIdx_lt_length_of_exists (xs := pathT N x) (p := fun y => decide (y = s)) ⟨s, h, by simp⟩
  omega
omit G in
theorem fold_max {α : Type} (g : α → Nat) : ∀ (l : List α) (n : Nat), n ≤ l.foldl (fun n x => max n (g x)) n ∧ (∀ x ∈ l, g x ≤ l.foldl (fun n x => max n (g x)) n) ∧ (l.foldl (fun n x => max n (g x)) n = n ∨ ∃ x ∈ l, l.foldl (fun n x => max n (g x)) n = g x)
  | [], n => ⟨Nat.le_refl _, (fun x hx => by cases hx), .inl rfl⟩
  | a :: r, n => by
    obtain ⟨h1, h2, h3⟩ := fold_max g r (max n (g a))
    refine ⟨Nat.le_trans (Nat.le_max_left _ _) h1, fun x hx => ?_, ?_⟩
    · rcases List.mem_cons.1 hx with rfl | hx
      · exact Nat.le_trans (Nat.le_max_right _ _) h1
      · exact h2 x hx
    · rcases h3 with h3 | ⟨x, hx, h3⟩
      · by_cases q : g a ≤ n
        · left; simp only [List.foldl_cons]; rw [h3]; omega
        · right; exact ⟨a, List.mem_cons_self .., by simp only [List.foldl_cons]; rw [h3]; omega⟩
      · right; exact ⟨x, List.mem_cons_of_mem _ hx, h3⟩
omit G in
theorem mem_below {s x : ByteArray} : x ∈ belowN N s ↔ x ∈ allN N ∧ s ∈ pathT N x := by
  unfold belowN; rw [List.mem_filter, inL_iff]
omit G in
theorem mem_all {x : ByteArray} : x ∈ allN N ↔ hasN N x = true := by
  unfold allN; rw [List.mem_map, hasN_iff]
  exact ⟨fun ⟨q, h, e⟩ => ⟨q.2, by rw [← e]; exact h⟩, fun ⟨p, h⟩ => ⟨_, h, rfl⟩⟩
/-- How deep it goes behind a move. -/
theorem move_deep {s p : ByteArray} (hs : hasN N s = true) (hp : s ∉ pathT N p) : 8 < (pathT N p).length + deepN N s ↔ ∃ x ∈ allN N, 8 < (pathT (setN N s p) x).length := by
  obtain ⟨h1, h2, h3⟩ := fold_max (fun x => (pathT N x).findIdx (fun y => decide (y = s)) + 1) (belowN N s) 0
  have hd : deepN N s = (belowN N s).foldl (fun n x => max n ((pathT N x).findIdx (fun y => decide (y = s)) + 1)) 0 := rfl
  rw [← hd] at h1 h2 h3
  constructor
  · intro h
    rcases h3 with h3 | ⟨x, hx, h3⟩
    · have := G.deep p; omega
    · obtain ⟨ha, hm⟩ := mem_below.1 hx
      exact ⟨x, ha, by rw [move_len G hs hp hm]; omega⟩
  · rintro ⟨x, ha, h⟩
    by_cases hm : s ∈ pathT N x
    · rw [move_len G hs hp hm] at h
      have := h2 x (mem_below.2 ⟨ha, hm⟩)
      omega
    · rw [move_pathT G hs hp, if_neg (fun k => hm (inL_iff.1 k))] at h
      have := G.deep x; omega
theorem good_move {s p : ByteArray} (hs : hasN N s = true) (hpar : hasN N p = true) (hr : s ≠ rootB) (hp : s ∉ pathT N p) (h8 : (pathT N p).length + deepN N s ≤ 8) : Good11 (setN N s p) := by
  refine ⟨rising_setN G.rise, mem_setN.2 (.inr ⟨fun e => hr e.symm, G.root⟩), ?_, ?_, ?_, ?_, by rw [setN_length]; exact G.few⟩
  · rw [hasN_set]; exact G.noE
  · intro x y hm hx
    rw [hasN_set]
    rcases mem_setN.1 hm with ⟨_, rfl, _⟩ | ⟨_, h⟩
    · exact hpar
    · exact G.up x y h hx
  · intro x
    cases k : hasN N x with
    | false => rw [show pathT (setN N s p) x = [] from pathN_head (by rw [hasN_set]; exact k)]; exact Nat.zero_le _
    | true =>
      rcases Nat.lt_or_ge 8 (pathT (setN N s p) x).length with q | q
      · have := (move_deep G hs hp).2 ⟨x, mem_all.2 k, q⟩; omega
      · exact q
  · intro x y hm
    rcases mem_setN.1 hm with ⟨rfl, rfl, h⟩ | ⟨_, h⟩
    · obtain ⟨q, hq⟩ := hasN_iff.1 h
      obtain ⟨q2, hq2⟩ := hasN_iff.1 hpar
      exact ⟨(G.fit _ _ hq).1, (G.fit _ _ hq2).1⟩
    · exact G.fit x y h
end
theorem good_begin : Good11 [(rootB, ⟨#[]⟩)] := by
  have hh : ∀ s, hasN [(rootB, ⟨#[]⟩)] s = decide (rootB = s) := fun s => by simp [hasN]
  have hr : parN [(rootB, ⟨#[]⟩)] rootB = ⟨#[]⟩ := by simp [parN]
  refine ⟨List.pairwise_singleton _ _, List.mem_singleton.2 rfl, by rw [hh]; decide, ?_, ?_, ?_, by decide⟩
  · intro x y hm hx; cases List.mem_singleton.1 hm; exact absurd rfl hx
  · intro s
    have e1 : pathT [(rootB, ⟨#[]⟩)] s = if hasN [(rootB, ⟨#[]⟩)] s then s :: pathN 19 [(rootB, ⟨#[]⟩)] (parN [(rootB, ⟨#[]⟩)] s) else [] := rfl
    rw [e1]
    split
    · rename_i k
      rw [hh] at k
      have := of_decide_eq_true k
      subst this
      rw [hr, pathN_head (by rw [hh]; decide)]; simp
    · exact Nat.zero_le _
  · intro x y hm; cases List.mem_singleton.1 hm; exact ⟨by decide, by decide⟩
end Go.Proofs.Ythaipgbjnigkhaa

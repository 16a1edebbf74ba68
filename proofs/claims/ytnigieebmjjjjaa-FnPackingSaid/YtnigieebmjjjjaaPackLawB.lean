/- Chapter 4 in plain Lean, no program in sight: what the laws of packing ask: samples come back from their differences and from their bytes, and from torn bytes the first ones of them. -/
import Derived.Test.YtnigieebmjjjjaaProg
import Derived.Test.YtnigieebmjjjjaaPackI
namespace Go.Proofs.Ytnigieebmjjjjaa

/-- differences, from the head on -/
def dl (l : Int) : List Int → List Int
  | [] => []
  | y :: ys => (y - l) :: dl y ys
theorem dl_get (ys : List Int) : ∀ (l : Int) (i : Nat), (dl l ys)[i]? = (ys[i]?).map fun y => y - (if i = 0 then l else ys.getD (i - 1) 0) := by
  induction ys with
  | nil => intro l i; simp [dl]
  | cons y ys ih =>
    intro l i
    cases i with
    | zero => simp [dl]
    | succ i =>
      rw [dl, List.getElem?_cons_succ, ih, List.getElem?_cons_succ]
      cases i with
      | zero => simp
      | succ i => simp
theorem dl_diff (xs : List Int) : diffI xs = dl 0 xs := by
  apply List.ext_getElem?
  intro i
  rw [dl_get]
  unfold diffI diffK
  rw [List.getElem?_map]
  rcases Nat.lt_or_ge i xs.length with h | h
  · rw [List.getElem?_range h, List.getElem?_eq_getElem h]
    simp only [Option.map_some]
    unfold dAt
    rw [getD_of (List.getElem?_eq_getElem h)]
  · rw [List.getElem?_eq_none h, List.getElem?_eq_none (by simpa using h)]
    rfl
theorem dl_take (xs : List Int) : ∀ (l : Int) (j : Nat), (dl l xs).take j = dl l (xs.take j) := by
  induction xs with
  | nil => intro l j; simp [dl]
  | cons x xs ih =>
    intro l j
    cases j with
    | zero => rfl
    | succ j => rw [dl, List.take_succ_cons, List.take_succ_cons, dl, ih]
theorem read_dl : ∀ (ys : List Int) (out : List Int) (l : Int), (∀ y ∈ ys, -100000 ≤ y ∧ y ≤ 100000) → (-100000 ≤ l ∧ l ≤ 100000) → out.length + ys.length ≤ 24 → readGo out l (dl l ys) = out ++ ys
  | [], out, l, _, _, _ => by simp [dl, readGo]
  | y :: ys, out, l, h, hl, hn => by
    have hy := h y (by simp)
    rw [List.length_cons] at hn
    have hs : okStep out l (y - l) = true := by
      unfold okStep
      simp only [Bool.and_eq_true, decide_eq_true_eq]
      omega
    rw [dl, readGo, if_pos hs, show l + (y - l) = y by omega, read_dl ys (out ++ [y]) y (fun z hz => h z (List.mem_cons_of_mem _ hz)) hy (by simp; omega)]
    simp
/-- samples are recovered from their differences -/
theorem read_diff {xs : List Int} (h : smpB xs = true) : readI (diffI xs) = xs := by
  unfold readI
  rw [dl_diff, read_dl xs [] 0 (smpB_all h) (by omega) (by have := smpB_len h; simpa using this)]
  simp
theorem from_diff {xs : List Int} (h : smpB xs = true) : fromB (diffI xs) = true := by
  unfold fromB
  rw [read_diff h, diffI_len]
  simp
theorem read_diff_take {xs : List Int} (h : smpB xs = true) (j : Nat) : readI ((diffI xs).take j) = xs.take j := by
  unfold readI
  rw [dl_diff, dl_take, read_dl (xs.take j) [] 0 (fun y hy => smpB_all h y (List.mem_of_mem_take hy)) (by omega) (by have := smpB_len h; simp; omega)]
  simp
theorem diff_all {xs : List Int} (h : smpB xs = true) : ∀ d ∈ diffI xs, -200000 ≤ d ∧ d ≤ 200000 := by
  intro d hd
  obtain ⟨k, hk⟩ := List.mem_iff_getElem?.1 hd
  exact diffI_range xs (smpB_all h) hk

/-! ### folded numbers -/
theorem fold_sign (d : Int) : (foldI d % 2 = 1) ↔ d < 0 := by
  unfold foldI
  split <;> omega

/-! ### bytes -/
theorem next_bytes (n : Int) (r : List Int) (h0 : 0 ≤ n) : nextI (bytesI n ++ r) = some (n, (bytesI n).length) := by
  unfold bytesI
  split
  · next h => simp [nextI, h]
  · next h =>
    split
    · next h2 =>
      have e1 : ¬ (192 + (n - 192) / 256 < 192) := by omega
      have e2 : 192 + (n - 192) / 256 < 224 := by omega
      simp only [nextI, List.cons_append, List.nil_append, if_neg e1, if_pos e2]
      simp
      omega
    · next h2 =>
      have e1 : ¬ (224 + (n - 8384) / 65536 < 192) := by omega
      have e2 : ¬ (224 + (n - 8384) / 65536 < 224) := by omega
      simp only [nextI, List.cons_append, List.nil_append, if_neg e1, if_neg e2]
      simp
      omega
theorem next_torn (n : Int) (h0 : 0 ≤ n) (m : Nat) (hm : m < (bytesI n).length) : nextI ((bytesI n).take m) = none := by
  unfold bytesI at hm ⊢
  split at hm
  · next h =>
    rw [if_pos h]
    obtain rfl : m = 0 := by simpa using hm
    rfl
  · next h =>
    rw [if_neg h]
    split at hm
    · next h2 =>
      rw [if_pos h2]
      have e1 : ¬ (192 + (n - 192) / 256 < 192) := by omega
      have e2 : 192 + (n - 192) / 256 < 224 := by omega
      match m, hm with
      | 0, _ => rfl
      | 1, _ => simp [nextI, if_neg e1, if_pos e2]
      | m + 2, hm => simp at hm; omega
    · next h2 =>
      rw [if_neg h2]
      have e1 : ¬ (224 + (n - 8384) / 65536 < 192) := by omega
      have e2 : ¬ (224 + (n - 8384) / 65536 < 224) := by omega
      match m, hm with
      | 0, _ => rfl
      | 1, _ => simp [nextI, if_neg e1, if_neg e2]
      | 2, _ => simp [nextI, if_neg e1, if_neg e2]
      | m + 3, hm => simp at hm; omega
/-- the bytes of differences -/
def flatB (ds : List Int) : List Int := ds.flatMap fun d => bytesI (foldI d)
theorem flatB_cons (d : Int) (ds : List Int) : flatB (d :: ds) = bytesI (foldI d) ++ flatB ds := List.flatMap_cons ..
theorem up_prefix : ∀ (ds out pre : List Int) (f M : Nat) (bs : List Int), bs = (pre ++ flatB ds).take M → pre.length ≤ M → bs.length ≤ f + pre.length →
    ∃ j, j ≤ ds.length ∧ (upGo f out pre.length bs).1 = out ++ ds.take j ∧ ((pre ++ flatB ds).length ≤ M → j = ds.length ∧ (upGo f out pre.length bs).2 = (pre ++ flatB ds).length)
  | [], out, pre, f, M, bs, hb, hM, hf => by
    have e : bs.drop pre.length = [] := by
      rw [hb]
      simp [flatB]
      exact Nat.min_le_right _ _
    rw [upGo_stop (by rw [e]; rfl)]
    exact ⟨0, Nat.le_refl _, by simp, fun _ => ⟨rfl, by simp [flatB]⟩⟩
  | d :: ds, out, pre, f, M, bs, hb, hM, hf => by
    have e : bs.drop pre.length = (bytesI (foldI d) ++ flatB ds).take (M - pre.length) := by
      rw [hb, List.drop_take, flatB_cons]
      simp
    have h1 := (bytesI_len (foldI d)).1
    rcases Nat.lt_or_ge (M - pre.length) (bytesI (foldI d)).length with h | h
    · have e2 : nextI (bs.drop pre.length) = none := by
        rw [e, List.take_append_of_le_length (Nat.le_of_lt h)]
        exact next_torn _ (foldI_nonneg d) _ h
      rw [upGo_stop e2]
      refine ⟨0, Nat.zero_le _, by simp, fun h9 => ?_⟩
      rw [flatB_cons, List.length_append, List.length_append] at h9
      omega
    · have e2 : nextI (bs.drop pre.length) = some (foldI d, (bytesI (foldI d)).length) := by
        rw [e, List.take_append, List.take_of_length_le h]
        exact next_bytes _ _ (foldI_nonneg d)
      have hj := nextI_j e2
      rw [List.length_drop] at hj
      rw [upGo_hit (by omega) e2, unf_fold]
      obtain ⟨j, j1, j2, j3⟩ := up_prefix ds (out ++ [d]) (pre ++ bytesI (foldI d)) (f - 1) M bs (by rw [hb, flatB_cons, List.append_assoc]) (by rw [List.length_append]; omega) (by rw [List.length_append]; omega)
      rw [show pre.length + (bytesI (foldI d)).length = (pre ++ bytesI (foldI d)).length by rw [List.length_append]]
      refine ⟨j + 1, by simp; omega, by rw [j2]; simp, fun h9 => ?_⟩
      have e3 : (pre ++ flatB (d :: ds)).length = (pre ++ bytesI (foldI d) ++ flatB ds).length := by rw [flatB_cons, List.append_assoc]
      rw [e3] at h9 ⊢
      obtain ⟨k1, k2⟩ := j3 h9
      exact ⟨by simp; omega, k2⟩
theorem packI_flat (xs : List Int) : packI xs = flatB (diffI xs) := rfl
theorem up_pack (xs : List Int) : upI (packI xs) = (diffI xs, (packI xs).length) := by
  obtain ⟨j, j1, j2, j3⟩ := up_prefix (diffI xs) [] [] (packI xs).length (packI xs).length (packI xs) (by simp [packI_flat]) (Nat.zero_le _) (by simp)
  obtain ⟨k1, k2⟩ := j3 (by simp [packI_flat])
  unfold upI
  apply Prod.ext
  · rw [k1] at j2
    simpa using j2
  · simpa [packI_flat] using k2
theorem up_pack_take (xs : List Int) (m : Nat) : ∃ j, (upI ((packI xs).take m)).1 = (diffI xs).take j := by
  obtain ⟨j, j1, j2, _⟩ := up_prefix (diffI xs) [] [] ((packI xs).take m).length m ((packI xs).take m) (by simp [packI_flat]) (Nat.zero_le _) (by simp)
  exact ⟨j, by unfold upI; simpa using j2⟩
theorem byte_all (n : Int) (h0 : 0 ≤ n) (h1 : n ≤ 400000) : ∀ b ∈ bytesI n, 0 ≤ b ∧ b ≤ 255 := by
  intro b hb
  unfold bytesI at hb
  split at hb
  · simp at hb; omega
  · split at hb
    · simp at hb; omega
    · simp at hb; omega
theorem pack_bytes {xs : List Int} (h : smpB xs = true) : bytB (packI xs) = true := by
  have hl : (packI xs).length ≤ 72 := by
    have := packK_len xs xs.length
    rw [packK_end xs _ (Nat.le_refl _)] at this
    have := smpB_len h
    omega
  unfold bytB
  rw [Bool.and_eq_true]
  refine ⟨by simp; omega, ?_⟩
  rw [List.all_eq_true]
  intro b hb
  unfold packI at hb
  obtain ⟨d, hd, hb⟩ := List.mem_flatMap.1 hb
  have := diff_all h d hd
  exact inB_iff.2 (byte_all _ (foldI_nonneg d) (foldI_le d this.1 this.2) b hb)
theorem bytB_take {bs : List Int} (h : bytB bs = true) (m : Nat) : bytB (bs.take m) = true := by
  unfold bytB
  rw [Bool.and_eq_true]
  have := bytB_len h
  refine ⟨by simp; omega, ?_⟩
  rw [List.all_eq_true]
  intro b hb
  exact inB_iff.2 (bytB_all h b (List.mem_of_mem_take hb))
/-- samples are recovered from their bytes -/
theorem unpack_pack {xs : List Int} (h : smpB xs = true) : unB (packI xs) = true ∧ readI (upI (packI xs)).1 = xs := by
  unfold unB
  rw [pack_bytes h, up_pack]
  simp only
  rw [read_diff h, diffI_len]
  simp
/-- from torn bytes the first ones -/
theorem read_torn {xs : List Int} (h : smpB xs = true) (m : Nat) : ∃ j, readI (upI ((packI xs).take m)).1 = xs.take j := by
  obtain ⟨j, hj⟩ := up_pack_take xs m
  exact ⟨j, by rw [hj, read_diff_take h]⟩
theorem readI_smp (ds : List Int) : smpB (readI ds) = true := by
  unfold smpB
  rw [Bool.and_eq_true]
  refine ⟨by have := (readI_len ds).1; simpa using this, ?_⟩
  rw [List.all_eq_true]
  intro x hx
  exact inB_iff.2 (readGo_range [] 0 ds (by simp) x hx)
/-- bytes that are unpacked are packed again -/
theorem pack_unpack {bs : List Int} (h : unB bs = true) : bytB bs = true ∧ packI (readI (upI bs).1) = bs ∧ (upI bs).2 = bs.length := by
  unfold unB at h
  rw [Bool.and_eq_true] at h
  have e := unpack_law bs (bytB_all h.1)
  rw [h.2] at e
  rw [Bool.and_eq_true, decide_eq_true_eq] at h
  exact ⟨h.1, by simpa using e, h.2.1⟩
theorem up_le (bs : List Int) (h : bytB bs = true) : (upI bs).2 ≤ bs.length := by
  obtain ⟨_, _, _, e3, _⟩ := upGo_spec bs.length [] 0 bs (bytB_all h) (Nat.zero_le _)
  exact e3

/-! ### how many differences have how many bytes -/
theorem getD_set (l : List Int) (i j : Nat) (v : Int) (hi : i < l.length) : (l.set i v).getD j 0 = if i = j then v else l.getD j 0 := by
  rw [List.getD_eq_getElem?_getD, List.getD_eq_getElem?_getD, List.getElem?_set]
  by_cases h : i = j
  · subst h
    rw [if_pos rfl, if_pos rfl, if_pos hi]; rfl
  · rw [if_neg h, if_neg h]
theorem cnt_sum (xs : List Int) (k : Nat) (hk : k ≤ xs.length) : (cntK xs k).getD 0 0 + (cntK xs k).getD 1 0 + (cntK xs k).getD 2 0 = k ∧ (cntK xs k).getD 0 0 + 2 * (cntK xs k).getD 1 0 + 3 * (cntK xs k).getD 2 0 = ((packK xs k).length : Int) := by
  induction k with
  | zero => simp [cntK, packK]
  | succ k ih =>
    obtain ⟨ih1, ih2⟩ := ih (by omega)
    have hd : (diffI xs)[k]? = some ((diffI xs)[k]'(by rw [diffI_len]; omega)) := List.getElem?_eq_getElem _
    have hb := bytesI_len (foldI ((diffI xs)[k]'(by rw [diffI_len]; omega)))
    rw [packK_step xs k _ hd, List.length_append]
    have hl := cntK_len xs k
    obtain ⟨m, hm⟩ : ∃ m, (bytesI (foldI ((diffI xs)[k]'(by rw [diffI_len]; omega)))).length = m := ⟨_, rfl⟩
    rw [cntK_step xs k _ m hd hm, hm]
    rw [hm] at hb
    rw [getD_set _ _ _ _ (by omega), getD_set _ _ _ _ (by omega), getD_set _ _ _ _ (by omega)]
    obtain ⟨h1, h3⟩ := hb
    rcases (show m = 1 ∨ m = 2 ∨ m = 3 by omega) with rfl | rfl | rfl
    all_goals
      simp only [List.getD_eq_getElem?_getD] at ih1 ih2 ⊢
      simp
      omega
theorem cnt_law (xs : List Int) : (cntI xs).getD 0 0 + (cntI xs).getD 1 0 + (cntI xs).getD 2 0 = xs.length ∧ (cntI xs).getD 0 0 + 2 * (cntI xs).getD 1 0 + 3 * (cntI xs).getD 2 0 = ((packI xs).length : Int) := by
  have := cnt_sum xs xs.length (Nat.le_refl _)
  rw [packK_end xs _ (Nat.le_refl _)] at this
  exact this
end Go.Proofs.Ytnigieebmjjjjaa

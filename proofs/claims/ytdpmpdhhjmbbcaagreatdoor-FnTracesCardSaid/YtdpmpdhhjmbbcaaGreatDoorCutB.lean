/- The library's strings.Cut, strings.Split and strconv.Atoi at whatever text. -/
import Derived.Test.YtdpmpdhhjmbbcaaGreatDoorProg
import Derived.Test.YtdpmpdhhjmbbcaaGreatDoorParPlain
import Derived.Test.YtdpmpdhhjmbbcaaGreatDoorEnv
import Derived.Test.YtdpmpdhhjmbbcaaGreatDoorShelf
import Derived.Lib.ConvBytes
namespace Go.Proofs.YtdpmpdhhjmbbcaaGreatDoor
open Go.RowKit

/-- the variable holds an error, or none -/
def ErrV (g : Nat) (w : World) : Prop := ∃ ev, w.cell? ⟨g, 0, none⟩ = some ev ∧ (ev = .nilIface ∨ ∃ te pe, ev = .iface te pe)
theorem ErrV.stays {g : Nat} {w w' : World} (h : ErrV g w) (hb : Below w.heap.size w w') : ErrV g w' := by
  obtain ⟨ev, hm, h2⟩ := h
  exact ⟨ev, (hb.cell (p := ⟨_, 0, none⟩) (World.block_lt_of_cell? w _ hm)).trans hm, h2⟩
/-- what the walks take of the library's variables -/
structure EnvP (w : World) : Prop where
  tab : Tab w
  ml : MaxL w
  syn : ErrV 1 w
  rng : ErrV 2 w
theorem EnvP.stays {w w' : World} (h : EnvP w) (hb : Below w.heap.size w w') : EnvP w' := ⟨h.tab.stays hb, h.ml.stays hb, h.syn.stays hb, h.rng.stays hb⟩

theorem below_bytes (w : World) (e : TypeId) (s : ByteArray) : Below w.heap.size w (Lib.bytesWorld w e s) :=
  ⟨rfl, rfl, rfl, by simp [Lib.bytesWorld, World.freeze, World.alloc, World.drew, -World.alloc_eq, -World.drew_eq], fun j hj => Lib.bytesWorld_at_old w e s j hj⟩
/-- what strconv.Atoi says of a text: a number and no error, or an error -/
theorem Atoi_any (s : ByteArray) (w : World) (hs : s.size ≤ 1048576) (he : EnvP w) :
    (∃ m, atZ s = m ∧ Calls Tryz.prog 47 #[.string s] w fun e w' => e = .returned (.tuple #[.int .i64 m, .nilIface]) ∧ Below w.heap.size w w') ∨
    (atZ s = 0 ∧ Calls Tryz.prog 47 #[.string s] w fun e w' => ∃ m t p, e = .returned (.tuple #[.int .i64 m, .iface t p]) ∧ Below w.heap.size w w') := by
  rcases h : Lib.atoiAll s.data.toList with v | _ | _
  · refine .inl ⟨v, by unfold atZ; rw [h], (Tryz.strconv_Atoi_ok s (by omega) v h w).mono ?_⟩
    rintro e w' ⟨rfl, h⟩
    refine ⟨rfl, ?_⟩
    rcases h with rfl | ⟨t, rfl⟩
    · exact Below.refl _ _
    · exact below_bytes _ _ _
  · obtain ⟨ev, h1, h2⟩ := he.syn
    refine .inr ⟨by unfold atZ; rw [h], (Any.strconv_Atoi_syntax Tryz.laysC172 s (by omega) h ev w h1 h2).mono ?_⟩
    rintro e w' ⟨N, rfl, _, _, hb⟩
    exact ⟨_, _, _, rfl, hb⟩
  · obtain ⟨ev, h1, h2⟩ := he.rng
    refine .inr ⟨by unfold atZ; rw [h], (Tryz.strconv_Atoi_range s (by omega) h ev w h1 h2).mono ?_⟩
    rintro e w' ⟨N, rfl, _, _, hb⟩
    exact ⟨_, _, _, rfl, hb⟩

/-- a text before and behind the first byte b -/
def cutF (b : UInt8) (s : ByteArray) : ByteArray := ⟨(Lib.cut s.data.toList [b]).1.toArray⟩
def cutG (b : UInt8) (s : ByteArray) : ByteArray := ⟨(Lib.cut s.data.toList [b]).2.1.toArray⟩
def cutH (b : UInt8) (s : ByteArray) : Bool := (Lib.cut s.data.toList [b]).2.2
theorem cut_lens (l : List UInt8) (b : UInt8) : (Lib.cut l [b]).1.length ≤ l.length ∧ (Lib.cut l [b]).2.1.length ≤ l.length := by
  unfold Lib.cut
  split
  · simp only [List.length_take, List.length_drop]; omega
  · simp
theorem cutF_size (b : UInt8) (s : ByteArray) : (cutF b s).size ≤ s.size := by rw [Lib.size_eq, Lib.size_eq]; exact (cut_lens s.data.toList b).1
theorem cutG_size (b : UInt8) (s : ByteArray) : (cutG b s).size ≤ s.size := by rw [Lib.size_eq, Lib.size_eq]; exact (cut_lens s.data.toList b).2
theorem Cut_any (b : UInt8) (s : ByteArray) (w : World) (hs : s.size ≤ 1048576) (hm : MaxL w) :
    Calls Tryz.prog 21 #[.string s, .string ⟨#[b]⟩] w fun e w' => e = .returned (.tuple #[.string (cutF b s), .string (cutG b s), .bool (cutH b s)]) ∧ Below w.heap.size w w' := by
  obtain ⟨m, hm⟩ := hm
  refine (Tryz.strings_Cut s ⟨#[b]⟩ m w (by omega) hm).mono ?_
  rintro e w' ⟨rfl, n, rfl⟩
  exact ⟨rfl, below_drewN (Below.refl _ _) _⟩

theorem bytes_map {xs ys : List ByteArray} (h : xs.map (·.data.toList) = ys.map (·.data.toList)) : xs = ys := by
  induction xs generalizing ys with
  | nil => cases ys with
    | nil => rfl
    | cons y l => simp at h
  | cons x l ih => cases ys with
    | nil => simp at h
    | cons y l' =>
      simp only [List.map_cons, List.cons.injEq] at h
      rw [bytes_ext h.1, ih h.2]
theorem splitB_A (b : UInt8) (s : ByteArray) : Lib.splitB ⟨#[b]⟩ 0 (Lib.countB s ⟨#[b]⟩) s = splitA b s := by
  apply bytes_map
  rw [Lib.splitB_data]
  have h := split_all b s.data.toList
  unfold Lib.split at h
  unfold splitA
  rw [List.map_map]
  have e : ((fun x : ByteArray => x.data.toList) ∘ fun l : List UInt8 => (⟨l.toArray⟩ : ByteArray)) = id := by funext l; simp
  rw [e, List.map_id]
  exact h
theorem splitA_len (b : UInt8) (s : ByteArray) : (splitA b s).length ≤ s.size + 1 := by
  rw [← splitB_A, Lib.splitB_all ⟨#[b]⟩ (Nat.le_refl _) 0 _ s rfl]
  have := Lib.countB_le ⟨#[b]⟩ (Nat.le_refl _) s.size s (Nat.le_refl _)
  omega
theorem splitL_sizes (b : UInt8) : ∀ (n : Nat) (l : List UInt8), l.length ≤ n → ∀ x ∈ splitL b l, x.length ≤ l.length
  | n, l, hn => by
    intro x hx
    rcases byte_cases b l with h | ⟨p, r, rfl, h⟩
    · rw [splitL_none l h] at hx
      rw [List.mem_singleton.1 hx]
      exact Nat.le_refl _
    · rw [splitL_hit p r h] at hx
      rw [List.length_append, List.length_cons] at hn ⊢
      rcases List.mem_cons.1 hx with rfl | hx
      · omega
      · match n with
        | 0 => omega
        | n + 1 =>
          have := splitL_sizes b n r (by omega) x hx
          omega
theorem splitA_sizes (b : UInt8) (s : ByteArray) : ∀ x ∈ splitA b s, x.size ≤ s.size := by
  intro x hx
  obtain ⟨l, hl, rfl⟩ := List.mem_map.1 hx
  rw [Lib.size_eq, Lib.size_eq]
  exact splitL_sizes b _ _ (Nat.le_refl _) l hl
theorem splitA_pos (b : UInt8) (s : ByteArray) : 1 ≤ (splitA b s).length := by
  unfold splitA
  rw [List.length_map]
  have := splitL_ne b s.data.toList
  cases h : splitL b s.data.toList with
  | nil => exact absurd h this
  | cons => simp
theorem Split_any (s : ByteArray) (b : UInt8) (w : World) (hs : s.size ≤ 1048576) (hm : MaxL w) : Calls Tryz.prog 23 #[.string s, .string ⟨#[b]⟩] w (RetT w (splitA b s)) := by
  obtain ⟨m, hm⟩ := hm
  refine (Tryz.strings_Split s ⟨#[b]⟩ m w (by omega) hm (Nat.le_refl _)).mono ?_
  rintro e w' ⟨rfl, rfl⟩
  have hl := Lib.splitB_all ⟨#[b]⟩ (Nat.le_refl _) 0 _ s rfl
  have hc := Lib.countB_le ⟨#[b]⟩ (Nat.le_refl _) s.size s (Nat.le_refl _)
  refine ⟨_, _, _, rfl, ?_, (Below.refl _ w).alloc (Nat.le_refl _) _⟩
  unfold OwnT cT
  rw [← splitB_A]
  exact World.ownsRow_lit w _ _ (Nat.le_refl _) (by unfold maxLen; omega) (by simp [hl])
end Go.Proofs.YtdpmpdhhjmbbcaaGreatDoor

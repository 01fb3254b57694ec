import Derived.Test.YtjffhhalmicodaaF
import Derived.Test.YtjffhhalmicodaaM
import Derived.Test.YtjffhhalmicodaaXe
import Derived.Test.YtjffhhalmicodaaPAx2
set_option linter.unusedVariables false
set_option linter.unusedSimpArgs false
namespace Go.Proofs.Ytjffhhalmicodaa.X
open Go.RowKit Go.Proofs.YtjffhhalmicodaaW.PrintWords Go.Proofs.YtjffhhalmicodaaW.PrintLast Go.Proofs.YtjffhhalmicodaaW.PrintMore

def cs (s : ByteArray) : List Nat := s.data.toList.map (·.toNat)

/-- a formula's node in memory, in blocks that are ok -/
def Node (w : World) (ok : Nat → Prop) (v : Value) (d m nm : Int) (kids : List Value) : Prop :=
  ∃ g b off cap, v = .pointer (some ⟨g, 0, none⟩) ∧ ok g ∧ (kids ≠ [] → ok b) ∧ w.cell? ⟨g, 0, none⟩ = some (.int .u8 d) ∧ w.cell? ⟨g, 1, none⟩ = some (.int .i64 m) ∧ w.cell? ⟨g, 2, none⟩ = some (.int .u8 nm) ∧
    w.cell? ⟨g, 3, none⟩ = some (if kids = [] then .slice none 0 0 else .slice (some ⟨b, off, none⟩) kids.length cap) ∧ ∀ i u, kids[i]? = some u → w.cell? ⟨b, off + i, none⟩ = some u

/-- a formula in memory -/
def Tree (w : World) (ok : Nat → Prop) : Fm → Value → Prop
  | .mark neg k, v => Node w ok v (if neg then 45 else 48) k 0 []
  | .con c, v => Node w ok v c 0 0 []
  | .var c, v => Node w ok v 120 0 c []
  | .two c a b, v => ∃ va vb, Node w ok v c 0 0 [va, vb] ∧ Tree w ok a va ∧ Tree w ok b vb
  | .one c a, v => ∃ va, Node w ok v c 0 0 [va] ∧ Tree w ok a va
  | .fix c x a, v => ∃ va, Node w ok v c 0 x [va] ∧ Tree w ok a va

theorem Tree.ptr {w : World} {ok : Nat → Prop} {f : Fm} {v : Value} (h : Tree w ok f v) : ∃ g, v = .pointer (some ⟨g, 0, none⟩) := by
  cases f <;> simp only [Tree] at h
  case mark => obtain ⟨g, _, _, _, rfl, _⟩ := h; exact ⟨g, rfl⟩
  case con => obtain ⟨g, _, _, _, rfl, _⟩ := h; exact ⟨g, rfl⟩
  case var => obtain ⟨g, _, _, _, rfl, _⟩ := h; exact ⟨g, rfl⟩
  case two => obtain ⟨_, _, ⟨g, _, _, _, rfl, _⟩, _⟩ := h; exact ⟨g, rfl⟩
  case one => obtain ⟨_, ⟨g, _, _, _, rfl, _⟩, _⟩ := h; exact ⟨g, rfl⟩
  case fix => obtain ⟨_, ⟨g, _, _, _, rfl, _⟩, _⟩ := h; exact ⟨g, rfl⟩

/-- A world in which all cells of ok blocks that are no strings read as before. -/
def SameBut (ok : Nat → Prop) (w w' : World) : Prop := ∀ a v, ok a.block → w.cell? a = some v → (∀ s, v ≠ .string s) → w'.cell? a = some v
theorem SameBut.of_keep {ok : Nat → Prop} {w w' : World} {g : Nat} {s0 s1 : ByteArray} (hb : w.heap[g]? = some (.cells #[.string s0, .string s1] 93 (0, 0))) (hk : KeepBut w w' g none) : SameBut ok w w' := by
  intro a v _ hc hv
  refine keep_cell hk hc (fun e => ?_)
  unfold World.cell? at hc
  rw [e, hb] at hc
  simp only at hc
  split at hc
  · cases hc
  · rcases Nat.lt_or_ge a.off 2 with h | h
    · have h2 : a.off = 0 ∨ a.off = 1 := by omega
      rcases h2 with h2 | h2 <;> rw [h2] at hc <;> simp at hc <;> exact hv _ hc.symm
    · rw [Array.getElem?_eq_none (by simpa using h)] at hc
      cases hc
theorem SameBut.of_below {ok : Nat → Prop} {w w' : World} (hb : Below w.heap.size w w') : SameBut ok w w' := fun a v _ hc _ => pw_cell_below hb hc
theorem SameBut.of_set {ok : Nat → Prop} {w : World} {p : Addr} (u : Value) (h : ∀ k, ok k → k ≠ p.block) : SameBut ok w (w.setCell p u) := fun a v ha hc _ => (cell_set_other u (h _ ha)).trans hc
theorem SameBut.of_grown {ok : Nat → Prop} {w w' : World} {row : Option Nat} (hg : w.grownBy w' row) (h : ∀ k, ok k → some k ≠ row) : SameBut ok w w' := fun a v ha hc _ =>
  (World.cell?_of_block (hg.block a.block (World.block_lt_of_cell? w _ hc) (h _ ha))).trans hc
theorem SameBut.trans {ok : Nat → Prop} {a b c : World} (h : SameBut ok a b) (k : SameBut ok b c) : SameBut ok a c := fun p v ho hc hv => k p v ho (h p v ho hc hv) hv

theorem Node.same {ok ok' : Nat → Prop} {w w' : World} {v : Value} {d m nm : Int} {kids : List Value} (h : Node w ok v d m nm kids) (hk : ∀ u ∈ kids, ∃ g, u = .pointer (some ⟨g, 0, none⟩)) (hs : SameBut ok w w') (hok : ∀ k, k < w.heap.size → ok k → ok' k) : Node w' ok' v d m nm kids := by
  obtain ⟨g, b, off, cap, rfl, o1, o2, h0, h1, h2, h3, h4⟩ := h
  refine ⟨g, b, off, cap, rfl, hok _ (World.block_lt_of_cell? w _ h0) o1, fun hne => ?_, hs _ _ o1 h0 (by simp), hs _ _ o1 h1 (by simp), hs _ _ o1 h2 (by simp), hs _ _ o1 h3 ?_, fun i u hu => hs _ _ (o2 ?_) (h4 i u hu) ?_⟩
  · cases kids with
    | nil => exact absurd rfl hne
    | cons u l => exact hok _ (World.block_lt_of_cell? w _ (h4 0 u rfl)) (o2 hne)
  · split <;> simp
  · intro e; rw [e] at hu; simp at hu
  · obtain ⟨g, rfl⟩ := hk u (List.mem_of_getElem? hu)
    simp
theorem Tree.same {ok ok' : Nat → Prop} {w w' : World} (hs : SameBut ok w w') (hok : ∀ k, k < w.heap.size → ok k → ok' k) : ∀ (f : Fm) (v : Value), Tree w ok f v → Tree w' ok' f v
  | .mark neg k, v, h => Node.same h (by simp) hs hok
  | .con c, v, h => Node.same h (by simp) hs hok
  | .var c, v, h => Node.same h (by simp) hs hok
  | .two c a b, v, h => by
    obtain ⟨va, vb, hn, ha, hb⟩ := h
    exact ⟨va, vb, hn.same (by
      intro u hu
      simp only [List.mem_cons, List.not_mem_nil, or_false] at hu
      rcases hu with h | h
      · rw [h]; exact ha.ptr
      · rw [h]; exact hb.ptr) hs hok, Tree.same hs hok a va ha, Tree.same hs hok b vb hb⟩
  | .one c a, v, h => by
    obtain ⟨va, hn, ha⟩ := h
    exact ⟨va, hn.same (by
      intro u hu
      simp only [List.mem_cons, List.not_mem_nil, or_false] at hu
      rw [hu]; exact ha.ptr) hs hok, Tree.same hs hok a va ha⟩
  | .fix c x a, v, h => by
    obtain ⟨va, hn, ha⟩ := h
    exact ⟨va, hn.same (by
      intro u hu
      simp only [List.mem_cons, List.not_mem_nil, or_false] at hu
      rw [hu]; exact ha.ptr) hs hok, Tree.same hs hok a va ha⟩

theorem take_nil {s b : ByteArray} (h : cs s = []) : PA.fixes_reader_take.f s b = some (0, s, b) := by
  unfold cs at h
  have h0 : s.data.toList = [] := by simpa using h
  unfold PA.fixes_reader_take.f
  rw [if_pos (by rw [ByteArray.toList_eq]; exact h0)]
theorem take_cons {s b : ByteArray} {c : Nat} {r : List Nat} (h : cs s = c :: r) : PA.fixes_reader_take.f s b = some ((c : Int), s.extract 1 s.size, b) ∧ cs (s.extract 1 s.size) = r := by
  unfold cs at h
  cases hl : s.data.toList with
  | nil => rw [hl] at h; cases h
  | cons x l =>
    rw [hl] at h
    simp only [List.map_cons, List.cons.injEq] at h
    have hsz : s.size = l.length + 1 := by
      have : s.size = s.data.toList.length := (data_length s).symm
      rw [this, hl]; rfl
    constructor
    · unfold PA.fixes_reader_take.f
      have hne : ¬ s.toList = ([] : List UInt8) := by rw [ByteArray.toList_eq, hl]; simp
      rw [if_neg hne, if_pos (by omega), if_pos (by omega)]
      have hb : bt s 0 = (c : Int) := by
        have h0 : 0 < s.size := by omega
        have h1 : bt s 0 = ((s.data.toList[0]'(by rw [hl]; simp)).toNat : Int) := by
          unfold bt
          rw [dif_pos (show Int.toNat 0 < s.size from h0)]
          rfl
        rw [h1]
        have h2 : s.data.toList[0]'(by rw [hl]; simp) = x := by simp only [hl]; rfl
        rw [h2, h.1]
      rw [hb]
    · unfold cs
      have : (s.extract 1 s.size).data.toList = l := by
        rw [Lib.extract_data]
        simp [hl, hsz]
      rw [this]
      exact h.2
end Go.Proofs.Ytjffhhalmicodaa.X

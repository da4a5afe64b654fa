/- What frame.Encode answers at any frame that may be, and what its bytes are; no condition. -/
import Derived.Test.YtdbegdhbabfnoaaDoorDp
import Derived.Test.YtdbegdhbabfnoaaDoorBu
set_option linter.unusedVariables false
set_option linter.unusedSimpArgs false
namespace Go.Proofs.YtdbegdhbabfnoaaDoor
open Go.RowKit

/-- The bytes in a block of their own. -/
structure OwnB (w : World) (base g cap : Nat) (l : List Nat) : Prop where
  blk : ∃ cur, Blk w g 5 cur ∧ cur.size = cap ∧ cur.toList.take l.length = bv l
  cap_le : cap ≤ 9223372036854775807
  len_le : l.length ≤ cap
  lo : base ≤ g

theorem OwnB.bytes {w : World} {base g cap : Nat} {l : List Nat} (h : OwnB w base g cap l) : BytesAt w (some ⟨g, 0, none⟩) l.length l := by
  obtain ⟨cur, hb, hs, ht⟩ := h.blk
  intro j hj
  refine ⟨g, 0, rfl, ?_⟩
  rw [hb.cell]
  have h1 : cur.toList[j]? = (cur.toList.take l.length)[j]? := by rw [List.getElem?_take_of_lt hj]
  have h2 : cur[j + 0]? = cur.toList[j]? := by simp
  rw [show 0 + j = j + 0 by omega, h2, h1, ht]
  unfold bv
  rw [List.getElem?_map, List.getD, List.getElem?_eq_getElem hj]
  rfl
theorem OwnB.lt {w : World} {base g cap : Nat} {l : List Nat} (h : OwnB w base g cap l) : g < w.heap.size := by
  obtain ⟨cur, hb, _⟩ := h.blk
  exact hb.lt
theorem OwnB.below {w w' : World} {base B g cap : Nat} {l : List Nat} (h : OwnB w base g cap l) (hb : Below B w w') (hg : g < B) : OwnB w' base g cap l := by
  obtain ⟨⟨cur, h1, h2, h3⟩, h4, h5, h6⟩ := h
  exact ⟨⟨cur, h1.below hb hg, h2, h3⟩, h4, h5, h6⟩
theorem OwnB.set_ {w : World} {base g cap : Nat} {l : List Nat} (h : OwnB w base g cap l) (i x : Nat) (hi : i < l.length) : OwnB (w.setCell ⟨g, i, none⟩ (.int .u8 x)) base g cap (l.set i x) := by
  obtain ⟨⟨cur, h1, h2, h3⟩, h4, h5, h6⟩ := h
  refine ⟨⟨_, h1.set_ i _, by simpa using h2, ?_⟩, h4, by simpa using h5, h6⟩
  rw [List.length_set, Array.toList_setIfInBounds, List.take_set, h3]
  unfold bv
  rw [List.map_set]

theorem EncPost.open {w w' : World} {l : List Nat} {e : Ending} (h : EncPost w l e w') (h0 : 0 < l.length) : ∃ g cap, e = .returned (.tuple #[.slice (some ⟨g, 0, none⟩) l.length cap, .nilIface]) ∧ OwnB w' w.heap.size g cap l ∧ Below w.heap.size w w' := by
  obtain ⟨v, he, ho, hB⟩ := h
  have hlen := ho.1
  rcases ho.2 with ⟨_, hz⟩ | ⟨g, cap, cur, hv, hb, hg, hn, hm, hs, ht⟩
  · omega
  · subst hv
    exact ⟨g, cap, he, ⟨⟨cur, hg, by omega, by simpa using ht⟩, by unfold maxLen at hm; omega, hn, hb⟩, hB⟩

theorem frame_fields : (Tryd.prog.fieldsOf 28).toList = [{ name := "Node", type := 3, offset := 0, embedded := false, tag := "", pkgPath := "", byteOffset := 0 }, { name := "Slot", type := 3, offset := 1, embedded := false, tag := "", pkgPath := "", byteOffset := 8 }, { name := "Members", type := 3, offset := 2, embedded := false, tag := "", pkgPath := "", byteOffset := 16 }, { name := "Link", type := 3, offset := 3, embedded := false, tag := "", pkgPath := "", byteOffset := 24 }, { name := "Seq", type := 3, offset := 4, embedded := false, tag := "", pkgPath := "", byteOffset := 32 }, { name := "Data", type := 9, offset := 5, embedded := false, tag := "", pkgPath := "", byteOffset := 40 }] := by kernel_rfl
theorem frame_same (nd sl mb lk sq : Int) (d : ByteArray) (w : World) : (binOp .eql 28 (.agg #[.int .i64 nd, .int .i64 sl, .int .i64 mb, .int .i64 lk, .int .i64 sq, .string d]) (.agg #[.int .i64 nd, .int .i64 sl, .int .i64 mb, .int .i64 lk, .int .i64 sq, .string d])).run Tryd.prog w = .ok (.bool true) w := by
  have ht : Tryd.prog.underlying 28 = some (.struct (Tryd.prog.fieldsOf 28)) := by kernel_rfl
  have hp : Tryd.prog.stoodInHeld 28 = false := by kernel_rfl
  rw [run_eql_struct, run_equalIn_agg w 9999 _ _ _ ht hp, frame_fields]
  clear ht hp
  simp [Op.eqFields, go_sem, part]
theorem frame_guard (x y : Operand) (nd sl mb lk sq : Int) (d : ByteArray) (w : World) : (eqGuard .eql 28 x y (.agg #[.int .i64 nd, .int .i64 sl, .int .i64 mb, .int .i64 lk, .int .i64 sq, .string d]) (.agg #[.int .i64 nd, .int .i64 sl, .int .i64 mb, .int .i64 lk, .int .i64 sq, .string d])).run Tryd.prog w = .ok () w := by kernel_rfl

end Go.Proofs.YtdbegdhbabfnoaaDoor


/- Plain helpers: values and bytes that lie in new blocks. -/
import Derived.Test.YtahaplioegeloaaDoorD8
import Derived.Test.YtahaplioegeloaaDoorS1
import Derived.Test.YtahaplioegeloaaDoorS2
import Derived.Test.YtahaplioegeloaaDoorS3
import Derived.Lib.ConvBytes
namespace Go.Sz
open Go.RowKit Go.Proofs.YtahaplioegeloaaDoor

theorem ext_bytesWorld (w : World) (e : TypeId) (s : ByteArray) : Ext w (Lib.bytesWorld w e s) := ⟨rfl, rfl, rfl, by rw [Lib.bytesWorld_size]; omega, fun j hj => Lib.bytesWorld_at_old w e s j hj⟩

theorem sl_bytesWorld (w : World) (e : TypeId) (s : ByteArray) (hs : s.size ≤ 1000000) : SL (Lib.bytesWorld w e s) 1 (some ⟨w.heap.size, 0, none⟩) (grownCap w s.size 0 e) (br (bytesOf s)) := by
  refine ⟨?_, ?_, by simp, ?_, ?_⟩
  · rw [br_length, bytesOf_length]; exact grownCap_ge w s.size 0 e
  · have := grownCap_le_maxLen w s.size 0 e (by unfold maxLen; omega)
    unfold maxLen at this; omega
  · intro r hr
    obtain ⟨x, _, rfl⟩ := List.mem_map.1 hr
    rfl
  · intro i j r v hr hv
    refine ⟨w.heap.size, 0, rfl, ?_⟩
    simp only [br, List.getElem?_map, Option.map_eq_some_iff] at hr
    obtain ⟨x, hx, rfl⟩ := hr
    match j, hv with
    | 0, hv =>
      have hi : i < s.size := by
        have := (List.getElem?_eq_some_iff.1 hx).1
        rw [bytesOf_length] at this
        exact this
      have hv' : Value.int .u8 x.toNat = v := by simpa using hv
      subst hv'
      have h := Lib.bytesWorld_cell w e s i hi
      rw [show 0 + i * 1 + 0 = i by omega, h]
      simp only [bytesOf] at hx
      rw [List.getD, hx]
      rfl
    | j + 1, hv => simp at hv

theorem rep_leaf (w : World) (F : Nat → Prop) (k n : Int) (s : ByteArray) (hk : inI64 k) (hn : inI64 n) (hs : s.size ≤ 9223372036854775807) : RepV w F [.int .i64 k, .int .i64 n, .string s, .slice none 0 0] (.mk k n s []) :=
  RepV.mk (ao := none) (cap := 0) (l := []) [] hk hn hs (SL.empty _ _) (by simp) rfl (by simp)

theorem ownB_sl {w : World} {base e n : Nat} {v : Value} {bs : List UInt8} (h : w.ownsRow base e 1 v n (bv bs)) (hn : bs.length = n) : ∃ ao cap, v = .slice ao bs.length cap ∧ SL w 1 ao cap (br bs) := by
  obtain ⟨ao, cap, hv, hs, _⟩ := SL.of_owns (rows := br bs) (by rw [br_flatten]; exact h) (fun r hr => by obtain ⟨x, _, rfl⟩ := List.mem_map.1 hr; rfl) (by rw [br_length]; exact hn)
  rw [br_length] at hv
  exact ⟨ao, cap, hv, hs⟩

/-- a slice of two values laid in a new block -/
theorem sl_two (w : World) (t : TypeId) (a0 a1 a2 a3 b0 b1 b2 b3 : Value) (g : Nat) (hg : g = w.heap.size) : SL (w.alloc (.cells #[a0, a1, a2, a3, b0, b1, b2, b3] t)) 4 (some ⟨g, 0, none⟩) 2 [[a0, a1, a2, a3], [b0, b1, b2, b3]] := by
  subst hg
  refine ⟨by simp, by omega, by simp, by simp, ?_⟩
  intro i j r v hr hv
  refine ⟨_, _, rfl, ?_⟩
  match i, hr with
  | 0, hr =>
    simp at hr; subst hr
    match j, hv with
    | 0, hv => simp at hv; subst hv; simp
    | 1, hv => simp at hv; subst hv; simp
    | 2, hv => simp at hv; subst hv; simp
    | 3, hv => simp at hv; subst hv; simp
    | j + 4, hv => simp at hv
  | 1, hr =>
    simp at hr; subst hr
    match j, hv with
    | 0, hv => simp at hv; subst hv; simp
    | 1, hv => simp at hv; subst hv; simp
    | 2, hv => simp at hv; subst hv; simp
    | 3, hv => simp at hv; subst hv; simp
    | j + 4, hv => simp at hv
  | i + 2, hr => simp at hr

theorem rep_two {w : World} {g : Nat} {F : Nat → Prop} {a0 a1 a2 a3 b0 b1 b2 b3 : Value} {x y : V} (h : SL w 4 (some ⟨g, 0, none⟩) 2 [[a0, a1, a2, a3], [b0, b1, b2, b3]]) (hx : RepV w F [a0, a1, a2, a3] x) (hy : RepV w F [b0, b1, b2, b3] y) (hF : F g) :
    RepV w F [.int .i64 3, .int .i64 0, .string ⟨#[]⟩, .slice (some ⟨g, 0, none⟩) 2 2] (.mk 3 0 ⟨#[]⟩ [x, y]) :=
  RepV.mk (l := [x, y]) _ ⟨by omega, by omega⟩ ⟨by omega, by omega⟩ (by decide) h (fun a ha _ => by cases ha; exact hF) rfl (fun i r z h1 h2 => by
    match i, h1, h2 with
    | 0, h1, h2 => simp at h1 h2; subst h1 h2; exact hx
    | 1, h1, h2 => simp at h1 h2; subst h1 h2; exact hy
    | i + 2, h1, h2 => simp at h1)

theorem decOut_enc {v : V} (h : checkV v = 0) (hok : v.ok) : decOut v.enc = (v, 0) := by
  have hwf := checkV_wf h
  have hd : v.dep ≤ 16 := by
    unfold checkV at h
    rw [if_pos hwf] at h
    split at h
    · assumption
    · cases h
  have := valP_enc 16 v [] hwf hok hd
  rw [List.append_nil] at this
  rw [decOut, this]
end Go.Sz
namespace Go.Proofs.YtahaplioegeloaaDoor
open Go.RowKit Go.Sz

theorem encode_sl (v : V) (hv : v.ht ≤ 1000000) (w : World) (F : Nat → Prop) (cs : List Value) (hR : RepV w F cs v) (hFb : ∀ b, F b → b < w.heap.size) (hb : v.enc.length ≤ 1000000) :
    Calls Tryd.prog 32 #[.agg cs.toArray] w fun e w' => ∃ ao cap, e = .returned (.tuple #[.slice ao (encOut v).length cap, .int .i64 (checkV v)]) ∧ SL w' 1 ao cap (br (encOut v)) ∧ Ext w w' :=
  (encode_any v hv w F cs hR hFb hb).mono fun e w2 ⟨v', he, ho, hE⟩ => by
    obtain ⟨ao, cap, rfl, hs⟩ := ownB_sl ho rfl
    exact ⟨ao, cap, he, hs, hE⟩
theorem refEncode_sl (v : V) (hv : v.ht ≤ 1000000) (w : World) (F : Nat → Prop) (cs : List Value) (hR : RepV w F cs v) (hb : v.enc.length ≤ 1000000) :
    Calls Tryd.prog 34 #[.agg cs.toArray] w fun e w' => ∃ ao cap, e = .returned (.tuple #[.slice ao (encOut v).length cap, .int .i64 (checkV v)]) ∧ SL w' 1 ao cap (br (encOut v)) ∧ Ext w w' :=
  (refEncode_any v hv w F cs hR hb).mono fun e w2 ⟨v', he, ho, hE⟩ => by
    obtain ⟨ao, cap, rfl, hs⟩ := ownB_sl ho rfl
    exact ⟨ao, cap, he, hs, hE⟩
end Go.Proofs.YtahaplioegeloaaDoor

/- Names: the law's course. -/
import Derived.Test.YtimigpfoflilcaaZF
import Derived.Test.YtimigpfoflilcaaYL
namespace Go.Sz
open Go.RowKit
def passR (x : ByteArray) : Rt := .mk 5 0 x 1 0 []
/-- a course that needs to pass others -/
def courseN (nm : ByteArray) (nu : Int) (ns : List ByteArray) : Cr := ⟨nm, nu, 4, 0, .mk 1 0 ⟨#[]⟩ 0 0 (ns.map passR), .mk 2 0 ⟨#[]⟩ 0 0 []⟩
def prows (ns : List ByteArray) : List (List Value) := ns.map fun x => [.int .i64 5, .int .i64 0, .string x, .int .i64 1, .int .i64 0, .slice none 0 0]
theorem repR_nil {w : World} : RepR w none 0 [] := ⟨[], SL.empty _ _, rfl, fun i k c h => by simp at h⟩
theorem kpE_set9 (W : World) (B o : Nat) (x : Value) : KpE B W (W.setCell ⟨B, o, none⟩ x) := ⟨by simp, fun b o' hb h1 _ => (heap_setCell_far _ _ _ _ hb).trans h1⟩
theorem prows_wid (ns : List ByteArray) : ∀ r ∈ prows ns, r.length = 6 := by
  intro r hr
  obtain ⟨x, _, rfl⟩ := List.mem_map.1 hr
  rfl
theorem prows_ones6 (x : ByteArray) : ∀ u ∈ ([.int .i64 5, .int .i64 0, .string x, .int .i64 1, .int .i64 0, .slice none 0 0] : List Value), u.oneCell' = true := by
  intro u hu
  simp only [List.mem_cons, List.not_mem_nil, or_false] at hu
  rcases hu with rfl | rfl | rfl | rfl | rfl | rfl <;> rfl
theorem prows_next {ns : List ByteArray} {m : Nat} {x : ByteArray} (h : ns[m]? = some x) : prows (ns.take (m + 1)) = prows (ns.take m) ++ [[.int .i64 5, .int .i64 0, .string x, .int .i64 1, .int .i64 0, .slice none 0 0]] := by
  rw [List.take_add_one, h]
  unfold prows
  rw [List.map_append]
  rfl
end Go.Sz
namespace Go.Proofs.Ytimigpfoflilcaa
open Go.RowKit Go.Sz
/-- a course that was made -/
def RetCr (c : Cr) (w : World) : Ending → World → Prop := fun e w' => ∃ a n b m, e = .returned (.agg (c.cells a n b m).toArray) ∧ RepU w' c.need (c.need.cells a n) ∧ RepU w' c.bar (c.bar.cells b m) ∧ Ext w w'
set_option maxRecDepth 100000 in
set_option maxHeartbeats 6400000 in
theorem course_any (nm : ByteArray) (nu : Int) (ns : List ByteArray) (hl : ns.length ≤ 1000) (ao : Option Addr) (cap : Nat) (w : World) (h : SL w 1 ao cap (srows ns)) : Calls Try.prog 25 #[.string nm, .int .i64 nu, .slice ao ns.length cap] w (RetCr (courseN nm nu ns) w) := by
  obtain ⟨ir, hi0, hi1, hi2, hi3⟩ := info_parts infoR
  have HII := Lib.hid (And.intro hi0 (And.intro hi1 (And.intro hi2 hi3)))
  have hX : Ext w ((w.alloc (.cells #[.string ⟨#[]⟩, .int .i64 0, .int .i64 0, .int .i64 0, .int .i64 0, .int .i64 0, .string ⟨#[]⟩, .int .i64 0, .int .i64 0, .slice none 0 0, .int .i64 0, .int .i64 0, .string ⟨#[]⟩, .int .i64 0, .int .i64 0, .slice none 0 0] 41)).alloc (.cells #[.string nm, .int .i64 nu, .int .i64 4, .int .i64 0, .int .i64 1, .int .i64 0, .string ⟨#[]⟩, .int .i64 0, .int .i64 0, .slice none 0 0, .int .i64 2, .int .i64 0, .string ⟨#[]⟩, .int .i64 0, .int .i64 0, .slice none 0 0] 41)) := ((Ext.refl w).alloc _).alloc _
  have hr : Row ((w.alloc (.cells #[.string ⟨#[]⟩, .int .i64 0, .int .i64 0, .int .i64 0, .int .i64 0, .int .i64 0, .string ⟨#[]⟩, .int .i64 0, .int .i64 0, .slice none 0 0, .int .i64 0, .int .i64 0, .string ⟨#[]⟩, .int .i64 0, .int .i64 0, .slice none 0 0] 41)).alloc (.cells #[.string nm, .int .i64 nu, .int .i64 4, .int .i64 0, .int .i64 1, .int .i64 0, .string ⟨#[]⟩, .int .i64 0, .int .i64 0, .slice none 0 0, .int .i64 2, .int .i64 0, .string ⟨#[]⟩, .int .i64 0, .int .i64 0, .slice none 0 0] 41)) w.heap.size 41 [.string ⟨#[]⟩, .int .i64 0, .int .i64 0, .int .i64 0, .int .i64 0, .int .i64 0, .string ⟨#[]⟩, .int .i64 0, .int .i64 0, .slice none 0 0, .int .i64 0, .int .i64 0, .string ⟨#[]⟩, .int .i64 0, .int .i64 0, .slice none 0 0] ∧ Row ((w.alloc (.cells #[.string ⟨#[]⟩, .int .i64 0, .int .i64 0, .int .i64 0, .int .i64 0, .int .i64 0, .string ⟨#[]⟩, .int .i64 0, .int .i64 0, .slice none 0 0, .int .i64 0, .int .i64 0, .string ⟨#[]⟩, .int .i64 0, .int .i64 0, .slice none 0 0] 41)).alloc (.cells #[.string nm, .int .i64 nu, .int .i64 4, .int .i64 0, .int .i64 1, .int .i64 0, .string ⟨#[]⟩, .int .i64 0, .int .i64 0, .slice none 0 0, .int .i64 2, .int .i64 0, .string ⟨#[]⟩, .int .i64 0, .int .i64 0, .slice none 0 0] 41)) (w.heap.size + 1) 41 [.string nm, .int .i64 nu, .int .i64 4, .int .i64 0, .int .i64 1, .int .i64 0, .string ⟨#[]⟩, .int .i64 0, .int .i64 0, .slice none 0 0, .int .i64 2, .int .i64 0, .string ⟨#[]⟩, .int .i64 0, .int .i64 0, .slice none 0 0] := by
    refine ⟨?_, ?_⟩
    all_goals
      unfold Row
      simp only [heap_al, World.size_alloc]
      all_goals (repeat rw [if_neg (by omega)])
      all_goals rfl
  have HR := Lib.hid hr
  have HX := Lib.hid hX
  have HN := Lib.hid h
  have HL := Lib.hid hl
  have hs1 := srows_max h
  have HSZ : Hid (((w.alloc (.cells #[.string ⟨#[]⟩, .int .i64 0, .int .i64 0, .int .i64 0, .int .i64 0, .int .i64 0, .string ⟨#[]⟩, .int .i64 0, .int .i64 0, .slice none 0 0, .int .i64 0, .int .i64 0, .string ⟨#[]⟩, .int .i64 0, .int .i64 0, .slice none 0 0] 41)).alloc (.cells #[.string nm, .int .i64 nu, .int .i64 4, .int .i64 0, .int .i64 1, .int .i64 0, .string ⟨#[]⟩, .int .i64 0, .int .i64 0, .slice none 0 0, .int .i64 2, .int .i64 0, .string ⟨#[]⟩, .int .i64 0, .int .i64 0, .slice none 0 0] 41)).heap.size = w.heap.size + 2) := Lib.hid (by simp)
  clear hX hr h hl hi0 hi1 hi2 hi3
  go_enter Try.func25, Try.ntmps25
  go_wp2_with fail
  generalize ((w.alloc (.cells #[.string ⟨#[]⟩, .int .i64 0, .int .i64 0, .int .i64 0, .int .i64 0, .int .i64 0, .string ⟨#[]⟩, .int .i64 0, .int .i64 0, .slice none 0 0, .int .i64 0, .int .i64 0, .string ⟨#[]⟩, .int .i64 0, .int .i64 0, .slice none 0 0] 41)).alloc (.cells #[.string nm, .int .i64 nu, .int .i64 4, .int .i64 0, .int .i64 1, .int .i64 0, .string ⟨#[]⟩, .int .i64 0, .int .i64 0, .slice none 0 0, .int .i64 2, .int .i64 0, .string ⟨#[]⟩, .int .i64 0, .int .i64 0, .slice none 0 0] 41)) = w1 at *
  go_loopw [17] (fun iv wr => ∃ (m : Nat) (v : Value), iv = .int .i64 m ∧ m ≤ ns.length ∧ Row wr w.heap.size 41 [.string ⟨#[]⟩, .int .i64 0, .int .i64 0, .int .i64 0, .int .i64 0, .int .i64 0, .string ⟨#[]⟩, .int .i64 0, .int .i64 0, .slice none 0 0, .int .i64 0, .int .i64 0, .string ⟨#[]⟩, .int .i64 0, .int .i64 0, .slice none 0 0] ∧ Row wr (w.heap.size + 1) 41 [.string nm, .int .i64 nu, .int .i64 4, .int .i64 0, .int .i64 1, .int .i64 0, .string ⟨#[]⟩, .int .i64 0, .int .i64 0, v, .int .i64 2, .int .i64 0, .string ⟨#[]⟩, .int .i64 0, .int .i64 0, .slice none 0 0] ∧ wr.ownsRow w1.heap.size 39 6 v m (prows (ns.take m)).flatten ∧ Ext w wr ∧ w1.heap.size ≤ wr.heap.size) (fun iv _ => ns.length - (intOf iv).toNat)
  case atStart => exact ⟨0, _, rfl, by omega, HR.out.1, HR.out.2, World.ownsRow_nil _ _ _ _, HX.out, Nat.le_refl _⟩
  case round =>
    obtain ⟨m, v, rfl, hm, hr1, hr2, hO, hE, hS⟩ := hrel
    have HR1 := Lib.hid hr1
    have HR2 := Lib.hid hr2
    have HO := Lib.hid hO
    have HE := Lib.hid hE
    have HS := Lib.hid hS
    clear hr1 hr2 hO hE hS HR
    by_cases hlt : m < ns.length
    · have hmi : (m : Int) < (ns.length : Int) := by omega
      obtain ⟨x, hx⟩ : ∃ x, ns[m]? = some x := ⟨_, List.getElem?_eq_getElem hlt⟩
      obtain ⟨B, o, rfl, c0⟩ := s_at HN.out HE.out hx
      have HNX := Lib.hid (prows_next hx)
      have r9 := HR2.out.cell (j := 9) rfl
      have z9 := HR2.out.froz 9
      clear hx
      go_wp2_with (at_builtin; refine wpList_append_S rfl _ _ 37 37 rfl w1.heap.size 39 ir _ 6 72 Try.underlying37 HII.out.1 HII.out.2.1 HII.out.2.2.1 HII.out.2.2.2 rfl _ _ _ rfl (ownsRow_ext HO.out ((Ext.refl wr).alloc _)) _ 1 [.int .i64 5, .int .i64 0, .string x, .int .i64 1, .int .i64 0, .slice none 0 0] rfl (Src.ofOwn (own_row (cs := [.int .i64 5, .int .i64 0, .string x, .int .i64 1, .int .i64 0, .slice none 0 0]) (e := 39) (base := 0) rfl (Nat.zero_le _) rfl) Try.underlying37 (prows_ones6 x)) (by have := HL.out; unfold maxLen; omega) (by have := HL.out; omega) (by have := HS.out; simp; omega) ?_; intro vo w5 ho5 hg5; obtain ⟨sa, sc, rfl⟩ := ownsRow_slice ho5; have HO5 := Lib.hid ho5; have HE5 := Lib.hid (Ext.own_step (HE.out.alloc _) hg5 (ownsRow_rebase (ownsRow_ext HO.out ((Ext.refl wr).alloc _)) (fun k hk => by have := ownsRow_blocks HO.out k hk; have := HSZ.out; omega))); have hk5 : ∀ (g : Nat) (t : TypeId) (cs : List Value), g < w1.heap.size → Row wr g t cs → Row w5 g t cs := (fun g t cs hg hr => (hg5.by_.block g (by have := HS.out; simp; omega) (fun e => by have := ownsRow_blocks HO.out g e.symm; omega)).trans (((Ext.refl wr).alloc (.cells #[.int .i64 5, .int .i64 0, .string x, .int .i64 1, .int .i64 0, .slice none 0 0] 39)).kpC.2 _ _ hr rfl)); have HS5 := Lib.hid (Nat.le_trans HS.out (Nat.le_trans ((Ext.refl wr).alloc (.cells #[.int .i64 5, .int .i64 0, .string x, .int .i64 1, .int .i64 0, .slice none 0 0] 39)).size hg5.by_.size)); have HR5 := Lib.hid (And.intro (hk5 _ _ _ (by have := HSZ.out; omega) HR1.out) (hk5 _ _ _ (by have := HSZ.out; omega) HR2.out)); have q9 := HR5.out.2.cell (j := 9) rfl; have y9 := HR5.out.2.froz 9; clear ho5 hg5 hk5)
      have HR6 : Hid (Row (w5.setCell ⟨w.heap.size + 1, 9, none⟩ (.slice sa (m + 1) sc)) w.heap.size 41 [.string ⟨#[]⟩, .int .i64 0, .int .i64 0, .int .i64 0, .int .i64 0, .int .i64 0, .string ⟨#[]⟩, .int .i64 0, .int .i64 0, .slice none 0 0, .int .i64 0, .int .i64 0, .string ⟨#[]⟩, .int .i64 0, .int .i64 0, .slice none 0 0] ∧ Row (w5.setCell ⟨w.heap.size + 1, 9, none⟩ (.slice sa (m + 1) sc)) (w.heap.size + 1) 41 [.string nm, .int .i64 nu, .int .i64 4, .int .i64 0, .int .i64 1, .int .i64 0, .string ⟨#[]⟩, .int .i64 0, .int .i64 0, (.slice sa (m + 1) sc), .int .i64 2, .int .i64 0, .string ⟨#[]⟩, .int .i64 0, .int .i64 0, .slice none 0 0]) := Lib.hid ⟨HR5.out.1.kpE (kpE_set9 w5 (w.heap.size + 1) 9 (.slice sa (m + 1) sc)) (by omega), HR5.out.2.set1 9 (.slice sa (m + 1) sc)⟩
      have HO6 := Lib.hid (own_far (q := ⟨w.heap.size + 1, 9, none⟩) (u := (.slice sa (m + 1) sc)) HO5.out (by have := HSZ.out; show w.heap.size + 1 < w1.heap.size; omega))
      have HE6 := Lib.hid (HE5.out.setCell (p := ⟨w.heap.size + 1, 9, none⟩) (by show w.heap.size ≤ w.heap.size + 1; omega) (.slice sa (m + 1) sc))
      have HS6 : Hid (w1.heap.size ≤ (w5.setCell ⟨w.heap.size + 1, 9, none⟩ (.slice sa (m + 1) sc)).heap.size) := Lib.hid (by simpa using HS5.out)
      clear r9 z9 q9 y9
      go_roundw
      case rel => exact ⟨m + 1, (.slice sa (m + 1) sc), by go_num, by omega, HR6.out.1, HR6.out.2, by rw [HNX.out, List.flatten_append]; simpa using HO6.out, HE6.out, HS6.out⟩
      case measure => simp [intOf] <;> omega
    · have hmi : ¬ (m : Int) < (ns.length : Int) := by omega
      obtain rfl : m = ns.length := by omega
      rw [List.take_length] at HO
      obtain ⟨va, vc, rfl, hsl, -⟩ := SL.of_own HO.out (prows_wid _) (by simp [prows])
      have HSL := Lib.hid hsl
      have HS16 : Hid ((Try.prog.info? 41).map (·.size) = some 16) := Lib.hid (by kernel_rfl)
      have ONE : Hid ((#[.string nm, .int .i64 nu, .int .i64 4, .int .i64 0, .int .i64 1, .int .i64 0, .string ⟨#[]⟩, .int .i64 0, .int .i64 0, (.slice va ns.length vc), .int .i64 2, .int .i64 0, .string ⟨#[]⟩, .int .i64 0, .int .i64 0, .slice none 0 0] : Array Value).all (·.oneCell') = true) := Lib.hid (all_oneCell_toArray (fun v hv => by
        simp only [List.mem_cons, List.not_mem_nil, or_false] at hv
        rcases hv with rfl | rfl | rfl | rfl | rfl | rfl | rfl | rfl | rfl | rfl | rfl | rfl | rfl | rfl | rfl | rfl <;> rfl))
      have HTH : Hid (wr.there w.heap.size 0 16) := Lib.hid (HR1.out.there (Nat.le_refl _))
      have r0 := HR2.out
      clear hsl
      have HRC := HR2
      clear r0
      go_wp2_with (first
        | (refine wpList_load_mid rfl _ _ rfl (w.heap.size + 1) 0 rfl [.string nm, .int .i64 nu, .int .i64 4, .int .i64 0, .int .i64 1, .int .i64 0, .string ⟨#[]⟩, .int .i64 0, .int .i64 0, (.slice va ns.length vc), .int .i64 2, .int .i64 0, .string ⟨#[]⟩, .int .i64 0, .int .i64 0, .slice none 0 0] _ (fun j v hj => by rw [Nat.zero_add]; exact HR2.out.cell hj) Try.underlying41 rfl HS16.out ?_)
        | (refine wpList_store_mid rfl _ _ _ rfl w.heap.size 0 #[.string nm, .int .i64 nu, .int .i64 4, .int .i64 0, .int .i64 1, .int .i64 0, .string ⟨#[]⟩, .int .i64 0, .int .i64 0, (.slice va ns.length vc), .int .i64 2, .int .i64 0, .string ⟨#[]⟩, .int .i64 0, .int .i64 0, .slice none 0 0] rfl rfl HTH.out HS16.out ONE.out ?_; have HWF : Hid (Row (wr.setCells w.heap.size 0 (#[.string nm, .int .i64 nu, .int .i64 4, .int .i64 0, .int .i64 1, .int .i64 0, .string ⟨#[]⟩, .int .i64 0, .int .i64 0, (.slice va ns.length vc), .int .i64 2, .int .i64 0, .string ⟨#[]⟩, .int .i64 0, .int .i64 0, .slice none 0 0] : Array Value).toList) w.heap.size 41 [.string nm, .int .i64 nu, .int .i64 4, .int .i64 0, .int .i64 1, .int .i64 0, .string ⟨#[]⟩, .int .i64 0, .int .i64 0, (.slice va ns.length vc), .int .i64 2, .int .i64 0, .string ⟨#[]⟩, .int .i64 0, .int .i64 0, .slice none 0 0] ∧ Ext w (wr.setCells w.heap.size 0 (#[.string nm, .int .i64 nu, .int .i64 4, .int .i64 0, .int .i64 1, .int .i64 0, .string ⟨#[]⟩, .int .i64 0, .int .i64 0, (.slice va ns.length vc), .int .i64 2, .int .i64 0, .string ⟨#[]⟩, .int .i64 0, .int .i64 0, .slice none 0 0] : Array Value).toList) ∧ KpE w.heap.size wr (wr.setCells w.heap.size 0 (#[.string nm, .int .i64 nu, .int .i64 4, .int .i64 0, .int .i64 1, .int .i64 0, .string ⟨#[]⟩, .int .i64 0, .int .i64 0, (.slice va ns.length vc), .int .i64 2, .int .i64 0, .string ⟨#[]⟩, .int .i64 0, .int .i64 0, .slice none 0 0] : Array Value).toList)) := Lib.hid ⟨HR1.out.set (vs := [.string nm, .int .i64 nu, .int .i64 4, .int .i64 0, .int .i64 1, .int .i64 0, .string ⟨#[]⟩, .int .i64 0, .int .i64 0, (.slice va ns.length vc), .int .i64 2, .int .i64 0, .string ⟨#[]⟩, .int .i64 0, .int .i64 0, .slice none 0 0]) (o := 0) (Nat.le_refl _), Below.grown HE.out (setCells_grown w.heap.size [.string nm, .int .i64 nu, .int .i64 4, .int .i64 0, .int .i64 1, .int .i64 0, .string ⟨#[]⟩, .int .i64 0, .int .i64 0, (.slice va ns.length vc), .int .i64 2, .int .i64 0, .string ⟨#[]⟩, .int .i64 0, .int .i64 0, .slice none 0 0] wr 0) HE.out.size (fun x hx => by cases hx; exact Nat.le_refl _), grown_kpE (setCells_grown w.heap.size [.string nm, .int .i64 nu, .int .i64 4, .int .i64 0, .int .i64 1, .int .i64 0, .string ⟨#[]⟩, .int .i64 0, .int .i64 0, (.slice va ns.length vc), .int .i64 2, .int .i64 0, .string ⟨#[]⟩, .int .i64 0, .int .i64 0, .slice none 0 0] wr 0)⟩; generalize (wr.setCells w.heap.size 0 (#[.string nm, .int .i64 nu, .int .i64 4, .int .i64 0, .int .i64 1, .int .i64 0, .string ⟨#[]⟩, .int .i64 0, .int .i64 0, (.slice va ns.length vc), .int .i64 2, .int .i64 0, .string ⟨#[]⟩, .int .i64 0, .int .i64 0, .slice none 0 0] : Array Value).toList) = Wf at *))
      have hrow := HWF.out.1
      have hEf := HWF.out.2.1
      have hke := HWF.out.2.2
      obtain ⟨ax, cx, ex, hsl2, -⟩ := SL.of_own (own_kpE HO.out hke (by have := HSZ.out; omega)) (prows_wid _) (by simp [prows])
      cases ex
      have e0 := hrow.cell (j := 0) rfl
      have e1 := hrow.cell (j := 1) rfl
      have e2 := hrow.cell (j := 2) rfl
      have e3 := hrow.cell (j := 3) rfl
      have e4 := hrow.cell (j := 4) rfl
      have e5 := hrow.cell (j := 5) rfl
      have e6 := hrow.cell (j := 6) rfl
      have e7 := hrow.cell (j := 7) rfl
      have e8 := hrow.cell (j := 8) rfl
      have e9 := hrow.cell (j := 9) rfl
      have e10 := hrow.cell (j := 10) rfl
      have e11 := hrow.cell (j := 11) rfl
      have e12 := hrow.cell (j := 12) rfl
      have e13 := hrow.cell (j := 13) rfl
      have e14 := hrow.cell (j := 14) rfl
      have e15 := hrow.cell (j := 15) rfl
      refine ⟨rfl, .agg #[.string nm, .int .i64 nu, .int .i64 4, .int .i64 0, .int .i64 1, .int .i64 0, .string ⟨#[]⟩, .int .i64 0, .int .i64 0, (.slice va ns.length vc), .int .i64 2, .int .i64 0, .string ⟨#[]⟩, .int .i64 0, .int .i64 0, .slice none 0 0], by simp [results, Try.results25, go_sem, e0, e1, e2, e3, e4, e5, e6, e7, e8, e9, e10, e11, e12, e13, e14, e15], va, vc, none, 0, by unfold courseN Cr.cells; simp only [Rt.op, Rt.co, Rt.nm, Rt.n, Rt.d, Rt.kids, List.length_map, List.length_nil], ?_, RepU.of repR_nil ⟨(⟨by decide, by decide⟩ : inI64 2), (⟨by decide, by decide⟩ : inI64 0), (⟨by decide, by decide⟩ : inI64 0), (⟨by decide, by decide⟩ : inI64 0)⟩, hEf⟩
      refine RepU.of ⟨prows ns, hsl2, by simp [courseN, prows, Rt.kids], fun i k c h1 h2 => ?_⟩ ⟨(⟨by decide, by decide⟩ : inI64 1), (⟨by decide, by decide⟩ : inI64 0), (⟨by decide, by decide⟩ : inI64 0), (⟨by decide, by decide⟩ : inI64 0)⟩
      simp only [courseN, Rt.kids, prows, List.getElem?_map] at h1 h2
      obtain ⟨x, hx, rfl⟩ := Option.map_eq_some_iff.1 h1
      rw [hx] at h2
      cases h2
      exact RepU.of (r := passR x) (ao := none) (cap := 0) repR_nil ⟨(⟨by decide, by decide⟩ : inI64 5), (⟨by decide, by decide⟩ : inI64 0), (⟨by decide, by decide⟩ : inI64 1), (⟨by decide, by decide⟩ : inI64 0)⟩
end Go.Proofs.Ytimigpfoflilcaa

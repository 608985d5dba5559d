/- Names: Resolve, the loop over the pairs. -/
import Derived.Test.YtimigpfoflilcaaYR
namespace Go.Sz
open Go.RowKit
theorem trav_bad_at {α β : Type} {f : α → Option β} {l : List α} {m : Nat} {x : α} (h : l[m]? = some x) (hx : f x = none) : travO f l = none := by
  rw [split_at h]
  exact travO_bad hx
theorem nums_pair {c : Cat} {m : Nat} {p : Pr} (h : c.sm[m]? = some p) (hx : resP c.cs p = none) : c.nums = none := by
  unfold Cat.nums
  rw [trav_bad_at h hx]
  cases travO (resC c.cs) c.cs <;> rfl
theorem setCell_grown (W : World) (g o : Nat) (v : Value) : W.grownBy (W.setCell ⟨g, o, none⟩ v) (some g) := setCells_grown g [v] W o
theorem Row.put {W : World} {g o : Nat} {t : TypeId} {cs : List Value} (h : Row W g t cs) (v : Value) (ho : o + 1 ≤ cs.length) : Row (W.setCell ⟨g, o, none⟩ v) g t (cs.take o ++ [v] ++ cs.drop (o + 1)) := Row.set (vs := [v]) h ho
end Go.Sz
namespace Go.Proofs.Ytimigpfoflilcaa
open Go.RowKit Go.Sz
set_option maxRecDepth 1000000 in
set_option maxHeartbeats 6400000 in
theorem loopD (c : Cat) (hk : c.Ok) (d : Adr) (w W : World) (hX : RepX w d c) (hV : ResV W w.heap.size 29 32 (c.cells d)) (hE : Ext w W) (ha : c.arg = false) (ho : c.once) (Y D kS : Nat) (aS : Option Addr) (yc : List Value) (hy1 : yc[1]? = some (.slice aS c.sm.length kS)) (hY : Row W Y 29 yc)
    (hO : W.ownsRow D 51 4 (.slice aS c.sm.length kS) c.sm.length (c.sm.map Pr.cells).flatten) (hYD : Y < D) (hwD : w.heap.size + 3 ≤ D) (x0 x4 x5 x6 x7 x8 x9 x11 x12 x13 x14 x15 x16 x17 x18 x19 x20 x21 x22 x23 x24 x25 x26 x27 x28 x29 x30 x31 x32 x33 x34 x35 x36 x37 x38 x39 x40 x41 x42 x43 x44 x45 x46 x47 x48 x49 x50 x51 x52 x53 x54 x55 x56 x57 x58 x59 x60 x61 x62 x63 x64 x65 x66 x67 x68 x69 x70 x71 x72 x73 x74 x75 x76 x77 x78 x79 x80 x81 x82 x83 x84 x85 x86 x87 x88 x89 x90 x91 x92 x93 x94 x95 x96 x97 x98 x99 x100 x101 x102 x103 x104 x105 x106 x107 x108 x109 x110 x111 x112 x113 x114 x115 x116 x117 x118 x119 x120 x121 x122 x123 x124 x125 x126 x130 x131 x132 x133 x134 x135 x136 x137 x138 x139 x140 x141 x142 x143 x144 x145 x146 x147 x148 x149 x150 x151 x152 x153 x154 x155 x156 x157 x158 x159 x160 x161 x162 x163 x164 x165 x166 x167 x168 x169 x170 x171 x172 x173 x174 x175 x176 x177 x178 x179 x180 x181 x182 x183 x184 x185 x186 x187 x188 x189 x190 x191 x192 x193 x194 x195 x196 x197 x198 x199 x200 x201 x202 x203 x204 x205 x206 x207 x208 x209 x210 x211 x212 x213 x214 x215 x216 x217 x218 x219 x220 x221 x222 x223 : Value) :
    Code.wp Try.prog (lpR 3) (lpQ 8 c d w fun a V => ∃ y12 y13 y129 y130 y131 y132 y133 y134 y135 y136 y137 y138 y139 y140 y141 y142 y143 y144 y145 y146 y147 y148 y149 y150 y151 y152 y153 y154 y155 y156 : Value, a = { tmps := (x0 :: (.pointer (some ⟨w.heap.size, 0, none⟩)) :: (.pointer (some ⟨w.heap.size + 1, 0, none⟩)) :: (.pointer (some ⟨w.heap.size + 2, 0, none⟩)) :: x4 :: x5 :: x6 :: x7 :: x8 :: x9 :: (.pointer (some ⟨Y, 0, none⟩)) :: x11 :: y12 :: y13 :: x14 :: x15 :: x16 :: x17 :: x18 :: x19 :: x20 :: x21 :: x22 :: x23 :: x24 :: x25 :: x26 :: x27 :: x28 :: x29 :: x30 :: x31 :: x32 :: x33 :: x34 :: x35 :: x36 :: x37 :: x38 :: x39 :: x40 :: x41 :: x42 :: x43 :: x44 :: x45 :: x46 :: x47 :: x48 :: x49 :: x50 :: x51 :: x52 :: x53 :: x54 :: x55 :: x56 :: x57 :: x58 :: x59 :: x60 :: x61 :: x62 :: x63 :: x64 :: x65 :: x66 :: x67 :: x68 :: x69 :: x70 :: x71 :: x72 :: x73 :: x74 :: x75 :: x76 :: x77 :: x78 :: x79 :: x80 :: x81 :: x82 :: x83 :: x84 :: x85 :: x86 :: x87 :: x88 :: x89 :: x90 :: x91 :: x92 :: x93 :: x94 :: x95 :: x96 :: x97 :: x98 :: x99 :: x100 :: x101 :: x102 :: x103 :: x104 :: x105 :: x106 :: x107 :: x108 :: x109 :: x110 :: x111 :: x112 :: x113 :: x114 :: x115 :: x116 :: x117 :: x118 :: x119 :: x120 :: x121 :: x122 :: x123 :: x124 :: x125 :: x126 :: (.slice aS c.sm.length kS) :: (.int .i64 c.sm.length) :: y129 :: y130 :: y131 :: y132 :: y133 :: y134 :: y135 :: y136 :: y137 :: y138 :: y139 :: y140 :: y141 :: y142 :: y143 :: y144 :: y145 :: y146 :: y147 :: y148 :: y149 :: y150 :: y151 :: y152 :: y153 :: y154 :: y155 :: y156 :: x157 :: x158 :: x159 :: x160 :: x161 :: x162 :: x163 :: x164 :: x165 :: x166 :: x167 :: x168 :: x169 :: x170 :: x171 :: x172 :: x173 :: x174 :: x175 :: x176 :: x177 :: x178 :: x179 :: x180 :: x181 :: x182 :: x183 :: x184 :: x185 :: x186 :: x187 :: x188 :: x189 :: x190 :: x191 :: x192 :: x193 :: x194 :: x195 :: x196 :: x197 :: x198 :: x199 :: x200 :: x201 :: x202 :: x203 :: x204 :: x205 :: x206 :: x207 :: x208 :: x209 :: x210 :: x211 :: x212 :: x213 :: x214 :: x215 :: x216 :: x217 :: x218 :: x219 :: x220 :: x221 :: x222 :: x223 :: []).toArray, defers := dfR w.heap.size } ∧ ResV V w.heap.size 29 32 (c.cells d) ∧ Ext w V ∧ Row V Y 29 yc ∧ KpB aS W V ∧ ∃ sm' : List Pr, travO (resP c.cs) c.sm = some sm' ∧ V.ownsRow D 51 4 (.slice aS c.sm.length kS) c.sm.length (sm'.map Pr.cells).flatten) { tmps := (x0 :: (.pointer (some ⟨w.heap.size, 0, none⟩)) :: (.pointer (some ⟨w.heap.size + 1, 0, none⟩)) :: (.pointer (some ⟨w.heap.size + 2, 0, none⟩)) :: x4 :: x5 :: x6 :: x7 :: x8 :: x9 :: (.pointer (some ⟨Y, 0, none⟩)) :: x11 :: x12 :: x13 :: x14 :: x15 :: x16 :: x17 :: x18 :: x19 :: x20 :: x21 :: x22 :: x23 :: x24 :: x25 :: x26 :: x27 :: x28 :: x29 :: x30 :: x31 :: x32 :: x33 :: x34 :: x35 :: x36 :: x37 :: x38 :: x39 :: x40 :: x41 :: x42 :: x43 :: x44 :: x45 :: x46 :: x47 :: x48 :: x49 :: x50 :: x51 :: x52 :: x53 :: x54 :: x55 :: x56 :: x57 :: x58 :: x59 :: x60 :: x61 :: x62 :: x63 :: x64 :: x65 :: x66 :: x67 :: x68 :: x69 :: x70 :: x71 :: x72 :: x73 :: x74 :: x75 :: x76 :: x77 :: x78 :: x79 :: x80 :: x81 :: x82 :: x83 :: x84 :: x85 :: x86 :: x87 :: x88 :: x89 :: x90 :: x91 :: x92 :: x93 :: x94 :: x95 :: x96 :: x97 :: x98 :: x99 :: x100 :: x101 :: x102 :: x103 :: x104 :: x105 :: x106 :: x107 :: x108 :: x109 :: x110 :: x111 :: x112 :: x113 :: x114 :: x115 :: x116 :: x117 :: x118 :: x119 :: x120 :: x121 :: x122 :: x123 :: x124 :: x125 :: x126 :: (.slice aS c.sm.length kS) :: (.int .i64 c.sm.length) :: (.int .i64 0) :: x130 :: x131 :: x132 :: x133 :: x134 :: x135 :: x136 :: x137 :: x138 :: x139 :: x140 :: x141 :: x142 :: x143 :: x144 :: x145 :: x146 :: x147 :: x148 :: x149 :: x150 :: x151 :: x152 :: x153 :: x154 :: x155 :: x156 :: x157 :: x158 :: x159 :: x160 :: x161 :: x162 :: x163 :: x164 :: x165 :: x166 :: x167 :: x168 :: x169 :: x170 :: x171 :: x172 :: x173 :: x174 :: x175 :: x176 :: x177 :: x178 :: x179 :: x180 :: x181 :: x182 :: x183 :: x184 :: x185 :: x186 :: x187 :: x188 :: x189 :: x190 :: x191 :: x192 :: x193 :: x194 :: x195 :: x196 :: x197 :: x198 :: x199 :: x200 :: x201 :: x202 :: x203 :: x204 :: x205 :: x206 :: x207 :: x208 :: x209 :: x210 :: x211 :: x212 :: x213 :: x214 :: x215 :: x216 :: x217 :: x218 :: x219 :: x220 :: x221 :: x222 :: x223 :: []).toArray, defers := dfR w.heap.size } W := by
  conv => arg 2; whnf
  have HX := Lib.hid hX
  have HK := Lib.hid hk
  have HA := Lib.hid ha
  have HON := Lib.hid ho
  have HYD := Lib.hid hYD
  have HWD := Lib.hid hwD
  have HV0 := Lib.hid hV
  have HE0 := Lib.hid hE
  have HY0 := Lib.hid hY
  have HO0 := Lib.hid hO
  have HY1I := Lib.hid hy1
  have hs1 : (c.sm.length : Int) ≤ 9223372036854775807 := by have h1 := hX.sm.max; have h2 := hX.sm.le; rw [List.length_map] at h2; omega
  clear hX hV hE hk ha ho hYD hwD hY hO hy1
  go_loopw [129] (fun iv wr => ∃ (m : Nat) (ps : List Pr), iv = .int .i64 m ∧ m ≤ c.sm.length ∧ ResV wr w.heap.size 29 32 (c.cells d) ∧ Ext w wr ∧ Row wr Y 29 yc ∧ KpB aS W wr ∧ wr.ownsRow D 51 4 (.slice aS c.sm.length kS) c.sm.length (ps.map Pr.cells ++ (c.sm.map Pr.cells).drop m).flatten ∧
      (travO (resP c.cs) (c.sm.take m) = some ps ∧ ps.length = m)) (fun iv _ => c.sm.length - (intOf iv).toNat)
  case atStart => exact ⟨0, [], rfl, by omega, HV0.out, HE0.out, HY0.out, (KpC.refl _).kpB, by simpa using HO0.out, by rw [List.take_zero]; rfl, rfl⟩
  case round =>
    obtain ⟨m, ps, rfl, hm, hV, hE, hY, hB, hO, hP⟩ := hrel
    have HV1 := Lib.hid hV
    have HE1 := Lib.hid hE
    have HY1 := Lib.hid hY
    have HB1 := Lib.hid hB
    have HO1 := Lib.hid hO
    have HP1 := Lib.hid hP
    clear hV hE hY hB hO hP
    by_cases hlt : m < c.sm.length
    · have hki : (m : Int) < (c.sm.length : Int) := by omega
      obtain ⟨p, hx⟩ : ∃ p, c.sm[m]? = some p := ⟨_, List.getElem?_eq_getElem hlt⟩
      have hcc : (c.sm.map Pr.cells)[m]? = some p.cells := by rw [List.getElem?_map, hx]; rfl
      obtain ⟨g, cap', rest, ev, hgD, hrow, hgc, hgm, hgl⟩ := Row.of_own HO1.out (by omega)
      cases ev
      have hy1 := HY1I.out
      have hwd : ∀ q ∈ ps.map Pr.cells ++ (c.sm.map Pr.cells).drop m, q.length = 4 := fun q hq => by
        rcases List.mem_append.1 hq with hq | hq
        · obtain ⟨z, _, rfl⟩ := List.mem_map.1 hq; rfl
        · obtain ⟨z, _, rfl⟩ := List.mem_map.1 (List.mem_of_mem_drop hq); rfl
      have hpl : (ps.map Pr.cells).length = m := by rw [List.length_map]; exact HP1.out.2
      have hmid : (ps.map Pr.cells ++ (c.sm.map Pr.cells).drop m)[m]? = some p.cells := by
        rw [List.getElem?_append_right (by rw [hpl]; exact Nat.le_refl _), hpl, Nat.sub_self, List.getElem?_drop]
        exact hcc
      have hsl := hrow.sl hwd (by rw [List.length_append, hpl, List.length_drop, List.length_map]; omega) hgm hgl
      have hcell : ∀ (j : Nat) (v : Value), p.cells[j]? = some v → wr.cell? ⟨g, m * 4 + j, none⟩ = some v := fun j v hj => by
        obtain ⟨b', o', e, hw⟩ := hsl.cells m j _ _ hmid hj
        cases e
        simpa using hw
      have d0 : wr.cell? ⟨g, m * 4, none⟩ = some (.string p.a) := hcell 0 _ rfl
      have d1 : wr.cell? ⟨g, m * 4 + 1, none⟩ = some (.string p.b) := hcell 1 _ rfl
      have d2 : wr.cell? ⟨g, m * 4 + 2, none⟩ = some (.int .i64 p.x) := hcell 2 _ rfl
      have d3 : wr.cell? ⟨g, m * 4 + 3, none⟩ = some (.int .i64 p.y) := hcell 3 _ rfl
      have HNU1 : Hid (∀ W, Ext w W → Calls Try.prog 48 #[.agg #[Value.slice d.a0 c.cs.length d.k0, Value.slice d.a1 c.sm.length d.k1, Value.slice d.a2 c.pg.length d.k2, Value.slice d.a3 c.kl.length d.k3, Value.slice d.a4 c.fe.length d.k4, Value.slice d.a5 c.ho.length d.k5, Value.slice d.a6 c.cu.length d.k6], .string p.a, .int .i64 p.x] W (numPost (numR c.cs p.a p.x) W)) := Lib.hid fun W hE => number_any c.cs p.a p.x d.a0 d.k0 _ _ _ _ _ _ W (HX.out.cs.ext hE)
      have HNU2 : Hid (∀ W, Ext w W → Calls Try.prog 48 #[.agg #[Value.slice d.a0 c.cs.length d.k0, Value.slice d.a1 c.sm.length d.k1, Value.slice d.a2 c.pg.length d.k2, Value.slice d.a3 c.kl.length d.k3, Value.slice d.a4 c.fe.length d.k4, Value.slice d.a5 c.ho.length d.k5, Value.slice d.a6 c.cu.length d.k6], .string p.b, .int .i64 p.y] W (numPost (numR c.cs p.b p.y) W)) := Lib.hid fun W hE => number_any c.cs p.b p.y d.a0 d.k0 _ _ _ _ _ _ W (HX.out.cs.ext hE)
      have HCELL : Hid (∀ W, (Ext w W ∧ ResV W w.heap.size 29 32 (c.cells d) ∧ Row W Y 29 yc ∧ Row W wr.heap.size 51 [Value.string p.a, Value.string p.b, Value.int .i64 p.x, Value.int .i64 p.y]) → W.cell? ⟨w.heap.size, 0, none⟩ = some (.slice d.a0 c.cs.length d.k0) ∧ W.cell? ⟨w.heap.size, 1, none⟩ = some (.slice d.a1 c.sm.length d.k1) ∧ W.cell? ⟨w.heap.size, 2, none⟩ = some (.slice d.a2 c.pg.length d.k2) ∧ W.cell? ⟨w.heap.size, 3, none⟩ = some (.slice d.a3 c.kl.length d.k3) ∧ W.cell? ⟨w.heap.size, 4, none⟩ = some (.slice d.a4 c.fe.length d.k4) ∧ W.cell? ⟨w.heap.size, 5, none⟩ = some (.slice d.a5 c.ho.length d.k5) ∧ W.cell? ⟨w.heap.size, 6, none⟩ = some (.slice d.a6 c.cu.length d.k6) ∧ W.cell? ⟨Y, 1, none⟩ = some (.slice (some ⟨g, 0, none⟩) c.sm.length kS) ∧ W.cell? ⟨wr.heap.size, 0, none⟩ = some (.string p.a) ∧ W.cell? ⟨wr.heap.size, 1, none⟩ = some (.string p.b) ∧ W.cell? ⟨wr.heap.size, 2, none⟩ = some (.int .i64 p.x) ∧ W.cell? ⟨wr.heap.size, 3, none⟩ = some (.int .i64 p.y)) := Lib.hid fun W h => ⟨h.2.1.1.cell rfl, h.2.1.1.cell rfl, h.2.1.1.cell rfl, h.2.1.1.cell rfl, h.2.1.1.cell rfl, h.2.1.1.cell rfl, h.2.1.1.cell rfl, h.2.2.1.cell hy1, h.2.2.2.cell rfl, h.2.2.2.cell rfl, h.2.2.2.cell rfl, h.2.2.2.cell rfl⟩
      have HROW := Lib.hid hrow
      have HWDT := Lib.hid hwd
      have HMID := Lib.hid hmid
      have HGD := Lib.hid (And.intro hgD (And.intro hgl (And.intro hgc hgm)))
      have HXM := Lib.hid hx
      have HCC := Lib.hid hcc
      have HPL := Lib.hid hpl
      have HXB : Hid (Ext wr (wr.alloc (.cells [Value.string p.a, Value.string p.b, Value.int .i64 p.x, Value.int .i64 p.y].toArray 51))) := Lib.hid ((Ext.refl wr).alloc _)
      have HNB : Hid (Row (wr.alloc (.cells [Value.string p.a, Value.string p.b, Value.int .i64 p.x, Value.int .i64 p.y].toArray 51)) wr.heap.size 51 [Value.string p.a, Value.string p.b, Value.int .i64 p.x, Value.int .i64 p.y]) := Lib.hid (World.alloc_heap_new wr _)
      clear hrow hwd hmid hgD hgl hgc hgm hx hcc hcell hsl hpl hy1
      go_wp2_with fail
      clear d0 d1 d2 d3
      have HGW : Hid (g < W.heap.size) := Lib.hid (by
        obtain ⟨g2, cap2, rest2, ev2, -, hrw2, -⟩ := Row.of_own HO0.out (by omega)
        cases ev2
        exact (Array.getElem?_eq_some_iff.1 hrw2).1)
      have hHeld0 : Ext w (wr.alloc (.cells [Value.string p.a, Value.string p.b, Value.int .i64 p.x, Value.int .i64 p.y].toArray 51)).drew ∧ ResV (wr.alloc (.cells [Value.string p.a, Value.string p.b, Value.int .i64 p.x, Value.int .i64 p.y].toArray 51)).drew w.heap.size 29 32 (c.cells d) ∧ Row (wr.alloc (.cells [Value.string p.a, Value.string p.b, Value.int .i64 p.x, Value.int .i64 p.y].toArray 51)).drew Y 29 yc ∧ Row (wr.alloc (.cells [Value.string p.a, Value.string p.b, Value.int .i64 p.x, Value.int .i64 p.y].toArray 51)).drew wr.heap.size 51 [Value.string p.a, Value.string p.b, Value.int .i64 p.x, Value.int .i64 p.y] := ⟨HE1.out.trans (HXB.out.trans (Ext.refl _).drew), HV1.out.kpC (HXB.out.trans (Ext.refl _).drew).kpC, HY1.out.kpC (HXB.out.trans (Ext.refl _).drew).kpC, HNB.out.kpC (Ext.refl _).drew.kpC⟩
      refine wp_region_held_drew (S := fun W => Ext w W ∧ ResV W w.heap.size 29 32 (c.cells d) ∧ Row W Y 29 yc ∧ Row W wr.heap.size 51 [Value.string p.a, Value.string p.b, Value.int .i64 p.x, Value.int .i64 p.y]) (by kernel_rfl) hHeld0 (fun hHeld => ?_)
      clear hHeld0
      refine wpAnyH_take (i := 0) (oi := ?oi49) (v := ?v49) ?hi49 (by kernel_rfl) (by kernel_rfl) (by kernel_rfl) ?hQ49 (Or.inl ⟨?hw49, ?hy49⟩) hHeld ?rest49
      case hi49 =>
        simp only [List.getElem?_toArray, List.getElem?_cons_zero] <;> rfl
      case hQ49 => exact fun _ _ _ h => ResD.put (by decide) (by decide) h
      case hw49 => rfl
      case hy49 =>
        intro wS hSw
        obtain ⟨k0, k1, k2, k3, k4, k5, k6, y0, e0, e1, e2, e3⟩ := HCELL.out wS hSw
        go_simp
        first | done | with_reducible rfl | rfl
      simp only [Act.put, List.setIfInBounds_toArray, List.set_cons_zero, List.set_cons_succ]
      refine wpAnyH_take (i := 1) (oi := ?oi50) (v := ?v50) ?hi50 (by kernel_rfl) (by kernel_rfl) (by kernel_rfl) ?hQ50 (Or.inl ⟨?hw50, ?hy50⟩) hHeld ?rest50
      case hi50 =>
        simp only [List.getElem?_toArray, List.getElem?_cons_succ, List.getElem?_cons_zero] <;> rfl
      case hQ50 => exact fun _ _ _ h => ResD.put (by decide) (by decide) h
      case hw50 => rfl
      case hy50 =>
        intro wS hSw
        obtain ⟨k0, k1, k2, k3, k4, k5, k6, y0, e0, e1, e2, e3⟩ := HCELL.out wS hSw
        go_simp
        first | done | with_reducible rfl | rfl
      simp only [Act.put, List.setIfInBounds_toArray, List.set_cons_zero, List.set_cons_succ]
      refine wpAnyH_take (i := 2) (oi := ?oi51) (v := ?v51) ?hi51 (by kernel_rfl) (by kernel_rfl) (by kernel_rfl) ?hQ51 (Or.inl ⟨?hw51, ?hy51⟩) hHeld ?rest51
      case hi51 =>
        simp only [List.getElem?_toArray, List.getElem?_cons_succ, List.getElem?_cons_zero] <;> rfl
      case hQ51 => exact fun _ _ _ h => ResD.put (by decide) (by decide) h
      case hw51 => rfl
      case hy51 =>
        intro wS hSw
        obtain ⟨k0, k1, k2, k3, k4, k5, k6, y0, e0, e1, e2, e3⟩ := HCELL.out wS hSw
        go_simp
        first | done | with_reducible rfl | rfl
      simp only [Act.put, List.setIfInBounds_toArray, List.set_cons_zero, List.set_cons_succ]
      refine wpAnyH_take (i := 3) (oi := ?oi52) (v := ?v52) ?hi52 (by kernel_rfl) (by kernel_rfl) (by kernel_rfl) ?hQ52 (Or.inl ⟨?hw52, ?hy52⟩) hHeld ?rest52
      case hi52 =>
        simp only [List.getElem?_toArray, List.getElem?_cons_succ, List.getElem?_cons_zero] <;> rfl
      case hQ52 => exact fun _ _ _ h => ResD.put (by decide) (by decide) h
      case hw52 => rfl
      case hy52 =>
        intro wS hSw
        obtain ⟨k0, k1, k2, k3, k4, k5, k6, y0, e0, e1, e2, e3⟩ := HCELL.out wS hSw
        go_simp
        first | done | with_reducible rfl | rfl
      simp only [Act.put, List.setIfInBounds_toArray, List.set_cons_zero, List.set_cons_succ]
      refine wpAnyH_take (i := 4) (oi := ?oi53) (v := ?v53) ?hi53 (by kernel_rfl) (by kernel_rfl) (by kernel_rfl) ?hQ53 (Or.inl ⟨?hw53, ?hy53⟩) hHeld ?rest53
      case hi53 =>
        simp only [List.getElem?_toArray, List.getElem?_cons_succ, List.getElem?_cons_zero] <;> rfl
      case hQ53 => exact fun _ _ _ h => ResD.put (by decide) (by decide) h
      case hw53 => rfl
      case hy53 =>
        intro wS hSw
        obtain ⟨k0, k1, k2, k3, k4, k5, k6, y0, e0, e1, e2, e3⟩ := HCELL.out wS hSw
        go_simp
        first | done | with_reducible rfl | rfl
      simp only [Act.put, List.setIfInBounds_toArray, List.set_cons_zero, List.set_cons_succ]
      refine wpAnyH_take (i := 5) (oi := ?oi54) (v := ?v54) ?hi54 (by kernel_rfl) (by kernel_rfl) (by kernel_rfl) ?hQ54 (Or.inl ⟨?hw54, ?hy54⟩) hHeld ?rest54
      case hi54 =>
        simp only [List.getElem?_toArray, List.getElem?_cons_succ, List.getElem?_cons_zero] <;> rfl
      case hQ54 => exact fun _ _ _ h => ResD.put (by decide) (by decide) h
      case hw54 => rfl
      case hy54 =>
        intro wS hSw
        obtain ⟨k0, k1, k2, k3, k4, k5, k6, y0, e0, e1, e2, e3⟩ := HCELL.out wS hSw
        go_simp
        first | done | with_reducible rfl | rfl
      simp only [Act.put, List.setIfInBounds_toArray, List.set_cons_zero, List.set_cons_succ]
      refine wpAnyH_take (i := 6) (oi := ?oi55) (v := ?v55) ?hi55 (by kernel_rfl) (by kernel_rfl) (by kernel_rfl) ?hQ55 (Or.inl ⟨?hw55, ?hy55⟩) hHeld ?rest55
      case hi55 =>
        simp only [List.getElem?_toArray, List.getElem?_cons_succ, List.getElem?_cons_zero] <;> rfl
      case hQ55 => exact fun _ _ _ h => ResD.put (by decide) (by decide) h
      case hw55 => rfl
      case hy55 =>
        intro wS hSw
        obtain ⟨k0, k1, k2, k3, k4, k5, k6, y0, e0, e1, e2, e3⟩ := HCELL.out wS hSw
        go_simp
        first | done | with_reducible rfl | rfl
      simp only [Act.put, List.setIfInBounds_toArray, List.set_cons_zero, List.set_cons_succ]
      refine wpAnyH_take (i := 7) (oi := ?oi56) (v := ?v56) ?hi56 (by kernel_rfl) (by kernel_rfl) (by kernel_rfl) ?hQ56 (Or.inl ⟨?hw56, ?hy56⟩) hHeld ?rest56
      case hi56 =>
        simp only [List.getElem?_toArray, List.getElem?_cons_succ, List.getElem?_cons_zero] <;> rfl
      case hQ56 => exact fun _ _ _ h => ResD.put (by decide) (by decide) h
      case hw56 => rfl
      case hy56 =>
        intro wS hSw
        obtain ⟨k0, k1, k2, k3, k4, k5, k6, y0, e0, e1, e2, e3⟩ := HCELL.out wS hSw
        go_simp
        first | done | with_reducible rfl | rfl
      simp only [Act.put, List.setIfInBounds_toArray, List.set_cons_zero, List.set_cons_succ]
      refine wpAnyH_take (i := 8) (oi := ?oi57) (v := ?v57) ?hi57 (by kernel_rfl) (by kernel_rfl) (by kernel_rfl) ?hQ57 (Or.inl ⟨?hw57, ?hy57⟩) hHeld ?rest57
      case hi57 =>
        simp only [List.getElem?_toArray, List.getElem?_cons_succ, List.getElem?_cons_zero] <;> rfl
      case hQ57 => exact fun _ _ _ h => ResD.put (by decide) (by decide) h
      case hw57 => rfl
      case hy57 =>
        intro wS hSw
        obtain ⟨k0, k1, k2, k3, k4, k5, k6, y0, e0, e1, e2, e3⟩ := HCELL.out wS hSw
        go_simp
        first | done | with_reducible rfl | rfl
      simp only [Act.put, List.setIfInBounds_toArray, List.set_cons_zero, List.set_cons_succ]
      refine wpAnyH_take (i := 9) (oi := ?oi58) (v := ?v58) ?hi58 (by kernel_rfl) (by kernel_rfl) (by kernel_rfl) ?hQ58 (Or.inl ⟨?hw58, ?hy58⟩) hHeld ?rest58
      case hi58 =>
        simp only [List.getElem?_toArray, List.getElem?_cons_succ, List.getElem?_cons_zero] <;> rfl
      case hQ58 => exact fun _ _ _ h => ResD.put (by decide) (by decide) h
      case hw58 => rfl
      case hy58 =>
        intro wS hSw
        obtain ⟨k0, k1, k2, k3, k4, k5, k6, y0, e0, e1, e2, e3⟩ := HCELL.out wS hSw
        go_simp
        first | done | with_reducible rfl | rfl
      simp only [Act.put, List.setIfInBounds_toArray, List.set_cons_zero, List.set_cons_succ]
      refine wpAnyH_take (i := 10) (oi := ?oi59) (v := ?v59) ?hi59 (by kernel_rfl) (by kernel_rfl) (by kernel_rfl) ?hQ59 (Or.inl ⟨?hw59, ?hy59⟩) hHeld ?rest59
      case hi59 =>
        simp only [List.getElem?_toArray, List.getElem?_cons_succ, List.getElem?_cons_zero] <;> rfl
      case hQ59 => exact fun _ _ _ h => ResD.put (by decide) (by decide) h
      case hw59 => rfl
      case hy59 =>
        intro wS hSw
        obtain ⟨k0, k1, k2, k3, k4, k5, k6, y0, e0, e1, e2, e3⟩ := HCELL.out wS hSw
        go_simp
        first | done | with_reducible rfl | rfl
      simp only [Act.put, List.setIfInBounds_toArray, List.set_cons_zero, List.set_cons_succ]
      refine wpAnyH_take (i := 12) (oi := ?oi60) (v := ?v60) ?hi60 (by kernel_rfl) (by kernel_rfl) (by kernel_rfl) ?hQ60 (Or.inl ⟨?hw60, ?hy60⟩) hHeld ?rest60
      case hi60 =>
        simp only [List.getElem?_toArray, List.getElem?_cons_succ, List.getElem?_cons_zero] <;> rfl
      case hQ60 => exact fun _ _ _ h => ResD.put (by decide) (by decide) h
      case hw60 => rfl
      case hy60 =>
        intro wS hSw
        obtain ⟨k0, k1, k2, k3, k4, k5, k6, y0, e0, e1, e2, e3⟩ := HCELL.out wS hSw
        go_simp
        first | done | with_reducible rfl | rfl
      simp only [Act.put, List.setIfInBounds_toArray, List.set_cons_zero, List.set_cons_succ]
      refine wpAnyH_take (i := 13) (oi := ?oi61) (v := ?v61) ?hi61 (by kernel_rfl) (by kernel_rfl) (by kernel_rfl) ?hQ61 (Or.inl ⟨?hw61, ?hy61⟩) hHeld ?rest61
      case hi61 =>
        simp only [List.getElem?_toArray, List.getElem?_cons_succ, List.getElem?_cons_zero] <;> rfl
      case hQ61 => exact fun _ _ _ h => ResD.put (by decide) (by decide) h
      case hw61 => rfl
      case hy61 =>
        intro wS hSw
        obtain ⟨k0, k1, k2, k3, k4, k5, k6, y0, e0, e1, e2, e3⟩ := HCELL.out wS hSw
        go_simp
        first | done | with_reducible rfl | rfl
      simp only [Act.put, List.setIfInBounds_toArray, List.set_cons_zero, List.set_cons_succ]
      refine wpAnyH_take (i := 14) (oi := ?oi62) (v := ?v62) ?hi62 (by kernel_rfl) (by kernel_rfl) (by kernel_rfl) ?hQ62 (Or.inl ⟨?hw62, ?hy62⟩) hHeld ?rest62
      case hi62 =>
        simp only [List.getElem?_toArray, List.getElem?_cons_succ, List.getElem?_cons_zero] <;> rfl
      case hQ62 => exact fun _ _ _ h => ResD.put (by decide) (by decide) h
      case hw62 => rfl
      case hy62 =>
        intro wS hSw
        obtain ⟨k0, k1, k2, k3, k4, k5, k6, y0, e0, e1, e2, e3⟩ := HCELL.out wS hSw
        go_simp
        first | done | with_reducible rfl | rfl
      simp only [Act.put, List.setIfInBounds_toArray, List.set_cons_zero, List.set_cons_succ]
      refine wpAnyH_take (i := 15) (oi := ?oi63) (v := ?v63) ?hi63 (by kernel_rfl) (by kernel_rfl) (by kernel_rfl) ?hQ63 (Or.inl ⟨?hw63, ?hy63⟩) hHeld ?rest63
      case hi63 =>
        simp only [List.getElem?_toArray, List.getElem?_cons_succ, List.getElem?_cons_zero] <;> rfl
      case hQ63 => exact fun _ _ _ h => ResD.put (by decide) (by decide) h
      case hw63 => rfl
      case hy63 =>
        intro wS hSw
        obtain ⟨k0, k1, k2, k3, k4, k5, k6, y0, e0, e1, e2, e3⟩ := HCELL.out wS hSw
        go_simp
        first | done | with_reducible rfl | rfl
      simp only [Act.put, List.setIfInBounds_toArray, List.set_cons_zero, List.set_cons_succ]
      refine wpAnyH_take (i := 16) (oi := ?oi64) (v := ?v64) ?hi64 (by kernel_rfl) (by kernel_rfl) (by kernel_rfl) ?hQ64 (Or.inl ⟨?hw64, ?hy64⟩) hHeld ?rest64
      case hi64 =>
        simp only [List.getElem?_toArray, List.getElem?_cons_succ, List.getElem?_cons_zero] <;> rfl
      case hQ64 => exact fun _ _ _ h => ResD.put (by decide) (by decide) h
      case hw64 => rfl
      case hy64 =>
        intro wS hSw
        obtain ⟨k0, k1, k2, k3, k4, k5, k6, y0, e0, e1, e2, e3⟩ := HCELL.out wS hSw
        go_simp
        first | done | with_reducible rfl | rfl
      simp only [Act.put, List.setIfInBounds_toArray, List.set_cons_zero, List.set_cons_succ]
      cases hnn : numR c.cs p.a p.x with
      | none =>
        refine wpAnyH_ready (rs := [11]) (by kernel_rfl) (by simp) ?_
        refine AllReadyH.cons rfl (fun K hK => ?_) AllReadyH.nil
        go_simp
        go_at_call 48
        refine (HNU1.out _ hHeld.1).mono ?_
        rw [hnn]
        rintro e w9 ⟨rfl, hE9⟩
        exact ⟨rfl, rfl, rfl, _, rfl, Cat.resN_name HA.out HON.out (nums_pair HXM.out (by unfold resP; rw [hnn]; rfl)), hHeld.2.1.kpC hE9.kpC, hHeld.1.trans hE9⟩
      | some nx =>
        refine wpAnyH_ready (rs := [11]) (by kernel_rfl) (by simp) ?_
        refine AllReadyH.cons rfl (fun K hK => ?_) AllReadyH.nil
        go_simp
        go_at_call 48
        refine (HNU1.out _ hHeld.1).mono ?_
        rw [hnn]
        have HNN := Lib.hid hnn
        clear hnn
        rintro e w9 ⟨rfl, hE9⟩
        refine hK.out _ _ ⟨hHeld.1.trans hE9, hHeld.2.1.kpC hE9.kpC, hHeld.2.2.1.kpC hE9.kpC, hHeld.2.2.2.kpC hE9.kpC⟩ (fun hHeld => ?_)
        clear hK K
        have HE9 := Lib.hid (HXB.out.trans ((Ext.refl _).drew.trans hE9))
        clear hE9
        try simp only [Act.put]
        cases hbb : numR c.cs p.b p.y with
        | none =>
          refine wpAnyH_ready (rs := [17]) (by kernel_rfl) (by simp) ?_
          refine AllReadyH.cons rfl (fun K hK => ?_) AllReadyH.nil
          go_simp
          go_at_call 48
          refine (HNU2.out _ hHeld.1).mono ?_
          rw [hbb]
          rintro e w10 ⟨rfl, hE10⟩
          exact ⟨rfl, rfl, rfl, _, rfl, Cat.resN_name HA.out HON.out (nums_pair HXM.out (by unfold resP; rw [HNN.out, hbb]; rfl)), hHeld.2.1.kpC hE10.kpC, hHeld.1.trans hE10⟩
        | some ny =>
          refine wpAnyH_ready (rs := [17]) (by kernel_rfl) (by simp) ?_
          refine AllReadyH.cons rfl (fun K hK => ?_) AllReadyH.nil
          go_simp
          go_at_call 48
          refine (HNU2.out _ hHeld.1).mono ?_
          rw [hbb]
          have HBB := Lib.hid hbb
          clear hbb
          rintro e w10 ⟨rfl, hE10⟩
          refine hK.out _ _ ⟨hHeld.1.trans hE10, hHeld.2.1.kpC hE10.kpC, hHeld.2.2.1.kpC hE10.kpC, hHeld.2.2.2.kpC hE10.kpC⟩ (fun hHeld => ?_)
          clear hK K
          have HKR := Lib.hid (HE9.out.kpC.trans hE10.kpC)
          have HROW10 := Lib.hid (HROW.out.kpC (HE9.out.kpC.trans hE10.kpC))
          clear hE10
          try simp only [Act.put]
          refine wpAnyH_take (i := 18) (oi := ?oi65) (v := ?v65) ?hi65 (by kernel_rfl) (by kernel_rfl) (by kernel_rfl) ?hQ65 (Or.inl ⟨?hw65, ?hy65⟩) hHeld ?rest65
          case hi65 =>
            simp only [List.getElem?_toArray, List.getElem?_cons_succ, List.getElem?_cons_zero] <;> rfl
          case hQ65 => exact fun _ _ _ h => ResD.put (by decide) (by decide) h
          case hw65 => rfl
          case hy65 =>
            intro wS hSw
            obtain ⟨k0, k1, k2, k3, k4, k5, k6, y0, e0, e1, e2, e3⟩ := HCELL.out wS hSw
            go_simp
            first | done | with_reducible rfl | rfl
          simp only [Act.put, List.setIfInBounds_toArray, List.set_cons_zero, List.set_cons_succ]
          refine wpAnyH_take (i := 19) (oi := ?oi66) (v := ?v66) ?hi66 (by kernel_rfl) (by kernel_rfl) (by kernel_rfl) ?hQ66 (Or.inl ⟨?hw66, ?hy66⟩) hHeld ?rest66
          case hi66 =>
            simp only [List.getElem?_toArray, List.getElem?_cons_succ, List.getElem?_cons_zero] <;> rfl
          case hQ66 => exact fun _ _ _ h => ResD.put (by decide) (by decide) h
          case hw66 => rfl
          case hy66 =>
            intro wS hSw
            obtain ⟨k0, k1, k2, k3, k4, k5, k6, y0, e0, e1, e2, e3⟩ := HCELL.out wS hSw
            go_simp
            first | done | with_reducible rfl | rfl
          simp only [Act.put, List.setIfInBounds_toArray, List.set_cons_zero, List.set_cons_succ]
          have hbd : m * 4 + 4 ≤ ((ps.map Pr.cells ++ (c.sm.map Pr.cells).drop m).flatten ++ rest).length := by
            have h1 := HGD.out.2.1
            have h2 := HGD.out.2.2.1
            rw [h1]
            omega
          have hg3 : w.heap.size + 2 < g := by have h1 := HGD.out.1; have h2 := HWD.out; omega
          have hYg : Y ≠ g := by have h1 := HGD.out.1; have h2 := HYD.out; omega
          have hgp : wr.heap.size ≠ g := by have h1 := (Array.getElem?_eq_some_iff.1 HROW.out).1; omega
          have hsl10 := (HROW10.out.there (o := m * 4) (n := 4) (by omega))
          obtain ⟨o2, ho2⟩ := Option.isSome_iff_exists.1 (hsl10 2 (by omega)).1
          have z2 := HROW10.out.froz (m * 4 + 2)
          refine wpAnyH_ready (rs := [20]) (by kernel_rfl) (by simp) ?_
          refine AllReadyH.cons rfl (fun K hK => ?_) AllReadyH.nil
          go_simp
          have hgr1 := setCell_grown w10 g (m * 4 + 2) (.int .i64 nx)
          have hRowA := HROW10.out.put (o := m * 4 + 2) (.int .i64 nx) (by omega)
          rw [show m * 4 + 2 + 1 = m * 4 + 2 + [Value.int .i64 nx].length from rfl, flat_set (k := 4) (j := 2) (vs := [.int .i64 nx]) (by simp) _ m _ HMID.out HWDT.out] at hRowA
          refine hK.out _ _ ⟨Below.grown hHeld.1 hgr1 hHeld.1.size (fun x hx => by cases hx; omega), hHeld.2.1.kpE (grown_kpE hgr1) hg3, hHeld.2.2.1.kpE (grown_kpE hgr1) hYg, hHeld.2.2.2.kpE (grown_kpE hgr1) hgp⟩ (fun hHeld => ?_)
          clear hK K ho2 z2 hsl10
          have HGR1 := Lib.hid hgr1
          have HRA := Lib.hid hRowA
          clear hgr1 hRowA
          generalize w10.setCell ⟨g, m * 4 + 2, none⟩ (.int .i64 nx) = w11 at *
          try simp only [Act.put]
          refine wpAnyH_take (i := 21) (oi := ?oi67) (v := ?v67) ?hi67 (by kernel_rfl) (by kernel_rfl) (by kernel_rfl) ?hQ67 (Or.inl ⟨?hw67, ?hy67⟩) hHeld ?rest67
          case hi67 =>
            simp only [List.getElem?_toArray, List.getElem?_cons_succ, List.getElem?_cons_zero] <;> rfl
          case hQ67 => exact fun _ _ _ h => ResD.put (by decide) (by decide) h
          case hw67 => rfl
          case hy67 =>
            intro wS hSw
            obtain ⟨k0, k1, k2, k3, k4, k5, k6, y0, e0, e1, e2, e3⟩ := HCELL.out wS hSw
            go_simp
            first | done | with_reducible rfl | rfl
          simp only [Act.put, List.setIfInBounds_toArray, List.set_cons_zero, List.set_cons_succ]
          refine wpAnyH_take (i := 22) (oi := ?oi68) (v := ?v68) ?hi68 (by kernel_rfl) (by kernel_rfl) (by kernel_rfl) ?hQ68 (Or.inl ⟨?hw68, ?hy68⟩) hHeld ?rest68
          case hi68 =>
            simp only [List.getElem?_toArray, List.getElem?_cons_succ, List.getElem?_cons_zero] <;> rfl
          case hQ68 => exact fun _ _ _ h => ResD.put (by decide) (by decide) h
          case hw68 => rfl
          case hy68 =>
            intro wS hSw
            obtain ⟨k0, k1, k2, k3, k4, k5, k6, y0, e0, e1, e2, e3⟩ := HCELL.out wS hSw
            go_simp
            first | done | with_reducible rfl | rfl
          simp only [Act.put, List.setIfInBounds_toArray, List.set_cons_zero, List.set_cons_succ]
          have hm2 : m < (ps.map Pr.cells ++ (c.sm.map Pr.cells).drop m).length := (List.getElem?_eq_some_iff.1 HMID.out).1
          have hwd2 : ∀ q ∈ (ps.map Pr.cells ++ (c.sm.map Pr.cells).drop m).set m (p.cells.take 2 ++ [Value.int .i64 nx] ++ p.cells.drop (2 + [Value.int .i64 nx].length)), q.length = 4 := fun q hq => by
            rcases List.mem_or_eq_of_mem_set hq with hq | rfl
            · exact HWDT.out q hq
            · rfl
          have hbd2 : m * 4 + 4 ≤ (((ps.map Pr.cells ++ (c.sm.map Pr.cells).drop m).set m (p.cells.take 2 ++ [Value.int .i64 nx] ++ p.cells.drop (2 + [Value.int .i64 nx].length))).flatten ++ rest).length := by
            have h1 := flat_len _ HWDT.out
            have h2 := flat_len (size := 4) _ hwd2
            rw [List.length_append] at hbd ⊢
            rw [h2, List.length_set, ← h1]
            exact hbd
          have hsl11 := (HRA.out.there (o := m * 4) (n := 4) (by omega))
          obtain ⟨o3, ho3⟩ := Option.isSome_iff_exists.1 (hsl11 3 (by omega)).1
          have z3 := HRA.out.froz (m * 4 + 3)
          refine wpAnyH_ready (rs := [23]) (by kernel_rfl) (by simp) ?_
          refine AllReadyH.cons rfl (fun K hK => ?_) AllReadyH.nil
          go_simp
          have hgr2 := setCell_grown w11 g (m * 4 + 3) (.int .i64 ny)
          have hRowB := HRA.out.put (o := m * 4 + 3) (.int .i64 ny) (by omega)
          rw [show m * 4 + 3 + 1 = m * 4 + 3 + [Value.int .i64 ny].length from rfl, flat_set (k := 4) (j := 3) (vs := [.int .i64 ny]) (by simp) _ m _ (List.getElem?_set_self hm2) hwd2, List.set_set, drop_at HCC.out, set_mid HPL.out] at hRowB
          replace hRowB : Row (w11.setCell ⟨g, m * 4 + 3, none⟩ (.int .i64 ny)) g 51 ((ps.map Pr.cells ++ [({ p with x := nx, y := ny } : Pr).cells] ++ (c.sm.map Pr.cells).drop (m + 1)).flatten ++ rest) := hRowB
          refine hK.out _ _ ⟨Below.grown hHeld.1 hgr2 hHeld.1.size (fun x hx => by cases hx; omega), hHeld.2.1.kpE (grown_kpE hgr2) hg3, hHeld.2.2.1.kpE (grown_kpE hgr2) hYg, hHeld.2.2.2.kpE (grown_kpE hgr2) hgp⟩ (fun hHeld => ?_)
          clear hK K ho3 z3 hsl11
          have hkeep : KpE g w10 (w11.setCell ⟨g, m * 4 + 3, none⟩ (.int .i64 ny)) := (grown_kpE HGR1.out).trans (grown_kpE hgr2)
          have HFIN := Lib.hid (And.intro hHeld (And.intro hkeep hRowB))
          clear hkeep hRowB hgr2 hHeld hbd2 hbd hwd2
          generalize w11.setCell ⟨g, m * 4 + 3, none⟩ (.int .i64 ny) = w12 at *
          try simp only [Act.put]
          refine wpAnyH_done (by kernel_rfl) ?_ _
          go_wp2_with fail
          go_roundw
          case rel =>
            refine ⟨m + 1, ps ++ [{ p with x := nx, y := ny }], by go_num, by omega, HFIN.out.1.2.1, HFIN.out.1.1, HFIN.out.1.2.2.1, ?_, ?_, ?_, ?_⟩
            · exact (HB1.out.trans HKR.out.kpB).trans (KpE.kpB (a := ⟨g, 0, none⟩) HFIN.out.2.1)
            · have e : (ps ++ [{ p with x := nx, y := ny }]).map Pr.cells = ps.map Pr.cells ++ [({ p with x := nx, y := ny } : Pr).cells] := by rw [List.map_append]; rfl
              have hwf : ∀ q ∈ ps.map Pr.cells ++ [({ p with x := nx, y := ny } : Pr).cells] ++ (c.sm.map Pr.cells).drop (m + 1), q.length = 4 := fun q hq => by
                rcases List.mem_append.1 hq with hq | hq
                · rcases List.mem_append.1 hq with hq | hq
                  · exact HWDT.out q (List.mem_append_left _ hq)
                  · obtain rfl := List.mem_singleton.1 hq; rfl
                · obtain ⟨z, _, rfl⟩ := List.mem_map.1 (List.mem_of_mem_drop hq); rfl
              rw [e]
              refine HFIN.out.2.2.own hwf ?_ HGD.out.2.2.1 HGD.out.2.2.2 ?_ HGD.out.1
              · rw [List.length_append, List.length_append, HPL.out, List.length_drop, List.length_map, List.length_singleton]; omega
              · have h1 := HGD.out.2.1
                rw [← h1, List.length_append, List.length_append]
                congr 1
                rw [flat_len _ HWDT.out, flat_len (size := 4) _ hwf]
                simp only [List.length_append, List.length_drop, HPL.out, List.length_map, List.length_singleton]
                omega
            · rw [take_snoc' HXM.out]
              exact travO_snoc HP1.out.1 (by unfold resP; rw [HNN.out, HBB.out]; rfl)
            · rw [List.length_append, HP1.out.2]; rfl
          case measure => simp [intOf] <;> omega
    · have hki : ¬ (m : Int) < (c.sm.length : Int) := by omega
      obtain rfl : m = c.sm.length := by omega
      rw [List.drop_of_length_le (by rw [List.length_map]; exact Nat.le_refl _), List.append_nil] at HO1
      rw [List.take_length] at HP1
      go_wp2_with fail
      exact ⟨rfl, ⟨_, _, _, _, _, _, _, _, _, _, _, _, _, _, _, _, _, _, _, _, _, _, _, _, _, _, _, _, _, _, rfl⟩, HV1.out, HE1.out, HY1.out, HB1.out, ps, HP1.out.1, HO1.out⟩
end Go.Proofs.Ytimigpfoflilcaa

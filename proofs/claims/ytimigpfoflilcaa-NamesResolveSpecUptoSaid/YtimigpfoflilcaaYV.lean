/- Names: Resolve, the loop over the programmes. -/
import Derived.Test.YtimigpfoflilcaaYU
namespace Go.Sz
open Go.RowKit
/-- a programme with numbers, in memory from block N on, but its names -/
def PgN (w : World) (N : Nat) (V : World) (p : Pg) (r : List Value) : Prop := ∃ a k rq, r = p.cells a k ∧ SL V 6 a k rq ∧ rq.length = p.rq.length ∧ (∀ (i : Nat) q s, p.rq[i]? = some q → rq[i]? = some s → RqN w N V q s) ∧ ∀ x, a = some x → rq ≠ [] → N ≤ x.block
theorem PgN.keep {w : World} {N : Nat} {V W : World} {p : Pg} {r : List Value} (h : PgN w N V p r) (hk : ∀ (b : Nat) (o : Obj), N ≤ b → V.heap[b]? = some o → o.isCells = true → W.heap[b]? = some o) : PgN w N W p r := by
  obtain ⟨a, k, rq, e, h1, h2, h3, h4⟩ := h
  exact ⟨a, k, rq, e, h1.keepN h4 hk, h2, fun i q s hq hs => (h3 i q s hq hs).keep hk, h4⟩
theorem PgN.kpE {w : World} {N E : Nat} {V W : World} {p : Pg} {r : List Value} (h : PgN w N V p r) (hk : KpE E V W) (hE : E < N) : PgN w N W p r := h.keep fun b o hb h1 h2 => hk.2 b o (by omega) h1 h2
theorem PgN.len {w : World} {N : Nat} {V : World} {p : Pg} {r : List Value} (h : PgN w N V p r) : r.length = 7 := by
  obtain ⟨a, k, rq, rfl, -⟩ := h
  rfl
theorem RqN.mono {w : World} {N M : Nat} {V : World} {q : Rq} {r : List Value} (h : RqN w N V q r) (hm : M ≤ N) : RqN w M V q r := by
  obtain ⟨na, nc, fa, fc, e, h1, h2, h3⟩ := h
  exact ⟨na, nc, fa, fc, e, h1, h2, fun a ha hr => Nat.le_trans hm (h3 a ha hr)⟩
theorem all_okG {c : Cat} (h : c.arg = false) {p : Pg} (hp : p ∈ c.pg) : okG p = true := by
  unfold okG
  rw [List.all_eq_true]
  intro q hq
  cases ho : okQ q with
  | true => rfl
  | false =>
    rw [arg_bad hp hq ho] at h
    cases h
theorem RepQ.ones {w : World} {ao : Option Addr} {cap : Nat} {l : List Rq} (h : RepQ w ao cap l) : ∃ rows, SL w 6 ao cap rows ∧ rows.length = l.length ∧ (∀ (i : Nat) (q : Rq) (c : List Value), l[i]? = some q → rows[i]? = some c → ∃ na nc fa fc, c = q.cells na nc fa fc ∧ SL w 1 na nc (srows q.nms) ∧ SL w 1 fa fc (irows q.fr)) ∧ ∀ r ∈ rows, ∀ u ∈ r, u.oneCell' = true := by
  obtain ⟨rows, h1, h2, h3⟩ := h
  refine ⟨rows, h1, h2, h3, fun r hr u hu => ?_⟩
  obtain ⟨i, hi⟩ := List.getElem?_of_mem hr
  have hil := (List.getElem?_eq_some_iff.1 hi).1
  obtain ⟨q, hq⟩ : ∃ q, l[i]? = some q := ⟨_, List.getElem?_eq_getElem (by rw [← h2]; exact hil)⟩
  obtain ⟨na, nc, fa, fc, rfl, -⟩ := h3 i q r hq hi
  simp only [Rq.cells, List.mem_cons, List.not_mem_nil, or_false] at hu
  rcases hu with rfl | rfl | rfl | rfl | rfl | rfl <;> rfl
end Go.Sz
namespace Go.Proofs.Ytimigpfoflilcaa
open Go.RowKit Go.Sz
set_option maxRecDepth 1000000 in
set_option maxHeartbeats 6400000 in
theorem loopE (c : Cat) (hk : c.Ok) (d : Adr) (w W : World) (hX : RepX w d c) (hV : ResV W w.heap.size 29 32 (c.cells d)) (hE : Ext w W) (ha : c.arg = false) (ho : c.once) (Y D kP : Nat) (aP : Option Addr) (yc : List Value) (hy2 : yc[2]? = some (.slice aP c.pg.length kP)) (hY : Row W Y 29 yc) (rows : List (List Value)) (hrl : rows.length = c.pg.length)
    (hrc : ∀ (i : Nat) p r, c.pg[i]? = some p → rows[i]? = some r → ∃ a n, r = p.cells a n ∧ RepQ w a n p.rq)
    (hO : W.ownsRow D 62 7 (.slice aP c.pg.length kP) c.pg.length rows.flatten) (hYD : Y < D) (hwD : w.heap.size + 3 ≤ D) (x0 x4 x5 x6 x7 x8 x9 x11 x12 x13 x14 x15 x16 x17 x18 x19 x20 x21 x22 x23 x24 x25 x26 x27 x28 x29 x30 x31 x32 x33 x34 x35 x36 x37 x38 x39 x40 x41 x42 x43 x44 x45 x46 x47 x48 x49 x50 x51 x52 x53 x54 x55 x56 x57 x58 x59 x60 x61 x62 x63 x64 x65 x66 x67 x68 x69 x70 x71 x72 x73 x74 x75 x76 x77 x78 x79 x80 x81 x82 x83 x84 x85 x86 x87 x88 x89 x90 x91 x92 x93 x94 x95 x96 x97 x98 x99 x100 x101 x102 x103 x104 x105 x106 x107 x108 x109 x110 x111 x112 x113 x114 x115 x116 x117 x118 x119 x120 x121 x122 x123 x124 x125 x126 x127 x128 x129 x130 x131 x132 x133 x134 x135 x136 x137 x138 x139 x140 x141 x142 x143 x144 x145 x146 x147 x148 x149 x150 x151 x152 x153 x154 x155 x156 x157 x161 x162 x163 x164 x165 x166 x167 x168 x169 x170 x171 x172 x173 x174 x175 x176 x177 x178 x179 x180 x181 x182 x183 x184 x185 x186 x187 x188 x189 x190 x191 x192 x193 x194 x195 x196 x197 x198 x199 x200 x201 x202 x203 x204 x205 x206 x207 x208 x209 x210 x211 x212 x213 x214 x215 x216 x217 x218 x219 x220 x221 x222 x223 : Value) :
    Code.wp Try.prog (lpR 4) (lpQ 10 c d w fun a V => ∃ y14 y15 y16 y17 y18 y19 y20 y160 y161 y162 y163 y164 y165 y166 y167 y168 y169 y170 y171 y172 y173 y174 y175 y176 y177 y178 y179 y180 y181 y182 y183 y184 y185 y186 y187 y188 y189 y190 y191 y192 y193 y194 y195 y196 y197 y198 y199 y200 y201 y202 y203 y204 y205 y206 y207 y208 y209 y210 y211 y212 y213 : Value, a = { tmps := (x0 :: (.pointer (some ⟨w.heap.size, 0, none⟩)) :: (.pointer (some ⟨w.heap.size + 1, 0, none⟩)) :: (.pointer (some ⟨w.heap.size + 2, 0, none⟩)) :: x4 :: x5 :: x6 :: x7 :: x8 :: x9 :: (.pointer (some ⟨Y, 0, none⟩)) :: x11 :: x12 :: x13 :: y14 :: y15 :: y16 :: y17 :: y18 :: y19 :: y20 :: x21 :: x22 :: x23 :: x24 :: x25 :: x26 :: x27 :: x28 :: x29 :: x30 :: x31 :: x32 :: x33 :: x34 :: x35 :: x36 :: x37 :: x38 :: x39 :: x40 :: x41 :: x42 :: x43 :: x44 :: x45 :: x46 :: x47 :: x48 :: x49 :: x50 :: x51 :: x52 :: x53 :: x54 :: x55 :: x56 :: x57 :: x58 :: x59 :: x60 :: x61 :: x62 :: x63 :: x64 :: x65 :: x66 :: x67 :: x68 :: x69 :: x70 :: x71 :: x72 :: x73 :: x74 :: x75 :: x76 :: x77 :: x78 :: x79 :: x80 :: x81 :: x82 :: x83 :: x84 :: x85 :: x86 :: x87 :: x88 :: x89 :: x90 :: x91 :: x92 :: x93 :: x94 :: x95 :: x96 :: x97 :: x98 :: x99 :: x100 :: x101 :: x102 :: x103 :: x104 :: x105 :: x106 :: x107 :: x108 :: x109 :: x110 :: x111 :: x112 :: x113 :: x114 :: x115 :: x116 :: x117 :: x118 :: x119 :: x120 :: x121 :: x122 :: x123 :: x124 :: x125 :: x126 :: x127 :: x128 :: x129 :: x130 :: x131 :: x132 :: x133 :: x134 :: x135 :: x136 :: x137 :: x138 :: x139 :: x140 :: x141 :: x142 :: x143 :: x144 :: x145 :: x146 :: x147 :: x148 :: x149 :: x150 :: x151 :: x152 :: x153 :: x154 :: x155 :: x156 :: x157 :: (.slice aP c.pg.length kP) :: (.int .i64 c.pg.length) :: y160 :: y161 :: y162 :: y163 :: y164 :: y165 :: y166 :: y167 :: y168 :: y169 :: y170 :: y171 :: y172 :: y173 :: y174 :: y175 :: y176 :: y177 :: y178 :: y179 :: y180 :: y181 :: y182 :: y183 :: y184 :: y185 :: y186 :: y187 :: y188 :: y189 :: y190 :: y191 :: y192 :: y193 :: y194 :: y195 :: y196 :: y197 :: y198 :: y199 :: y200 :: y201 :: y202 :: y203 :: y204 :: y205 :: y206 :: y207 :: y208 :: y209 :: y210 :: y211 :: y212 :: y213 :: x214 :: x215 :: x216 :: x217 :: x218 :: x219 :: x220 :: x221 :: x222 :: x223 :: []).toArray, defers := dfR w.heap.size } ∧ ResV V w.heap.size 29 32 (c.cells d) ∧ Ext w V ∧ KpB aP W V ∧ Row V Y 29 yc ∧ ∃ (gs : List Pg) (rows' : List (List Value)), travO (resG c.cs) c.pg = some gs ∧ rows'.length = c.pg.length ∧ (∀ (i : Nat) p r, gs[i]? = some p → rows'[i]? = some r → PgN w W.heap.size V p r) ∧ V.ownsRow D 62 7 (.slice aP c.pg.length kP) c.pg.length rows'.flatten) { tmps := (x0 :: (.pointer (some ⟨w.heap.size, 0, none⟩)) :: (.pointer (some ⟨w.heap.size + 1, 0, none⟩)) :: (.pointer (some ⟨w.heap.size + 2, 0, none⟩)) :: x4 :: x5 :: x6 :: x7 :: x8 :: x9 :: (.pointer (some ⟨Y, 0, none⟩)) :: x11 :: x12 :: x13 :: x14 :: x15 :: x16 :: x17 :: x18 :: x19 :: x20 :: x21 :: x22 :: x23 :: x24 :: x25 :: x26 :: x27 :: x28 :: x29 :: x30 :: x31 :: x32 :: x33 :: x34 :: x35 :: x36 :: x37 :: x38 :: x39 :: x40 :: x41 :: x42 :: x43 :: x44 :: x45 :: x46 :: x47 :: x48 :: x49 :: x50 :: x51 :: x52 :: x53 :: x54 :: x55 :: x56 :: x57 :: x58 :: x59 :: x60 :: x61 :: x62 :: x63 :: x64 :: x65 :: x66 :: x67 :: x68 :: x69 :: x70 :: x71 :: x72 :: x73 :: x74 :: x75 :: x76 :: x77 :: x78 :: x79 :: x80 :: x81 :: x82 :: x83 :: x84 :: x85 :: x86 :: x87 :: x88 :: x89 :: x90 :: x91 :: x92 :: x93 :: x94 :: x95 :: x96 :: x97 :: x98 :: x99 :: x100 :: x101 :: x102 :: x103 :: x104 :: x105 :: x106 :: x107 :: x108 :: x109 :: x110 :: x111 :: x112 :: x113 :: x114 :: x115 :: x116 :: x117 :: x118 :: x119 :: x120 :: x121 :: x122 :: x123 :: x124 :: x125 :: x126 :: x127 :: x128 :: x129 :: x130 :: x131 :: x132 :: x133 :: x134 :: x135 :: x136 :: x137 :: x138 :: x139 :: x140 :: x141 :: x142 :: x143 :: x144 :: x145 :: x146 :: x147 :: x148 :: x149 :: x150 :: x151 :: x152 :: x153 :: x154 :: x155 :: x156 :: x157 :: (.slice aP c.pg.length kP) :: (.int .i64 c.pg.length) :: (.int .i64 0) :: x161 :: x162 :: x163 :: x164 :: x165 :: x166 :: x167 :: x168 :: x169 :: x170 :: x171 :: x172 :: x173 :: x174 :: x175 :: x176 :: x177 :: x178 :: x179 :: x180 :: x181 :: x182 :: x183 :: x184 :: x185 :: x186 :: x187 :: x188 :: x189 :: x190 :: x191 :: x192 :: x193 :: x194 :: x195 :: x196 :: x197 :: x198 :: x199 :: x200 :: x201 :: x202 :: x203 :: x204 :: x205 :: x206 :: x207 :: x208 :: x209 :: x210 :: x211 :: x212 :: x213 :: x214 :: x215 :: x216 :: x217 :: x218 :: x219 :: x220 :: x221 :: x222 :: x223 :: []).toArray, defers := dfR w.heap.size } W := by
  conv => arg 2; whnf
  have HX := Lib.hid hX
  have HK := Lib.hid hk
  have HA := Lib.hid ha
  have HON := Lib.hid ho
  have HYD := Lib.hid hYD
  have HWD := Lib.hid hwD
  have HRL := Lib.hid hrl
  have HRC := Lib.hid hrc
  have HV0 := Lib.hid hV
  have HE0 := Lib.hid hE
  have HO0 := Lib.hid hO
  have HY0 := Lib.hid hY
  have HY2 := Lib.hid hy2
  have hs1 : (c.pg.length : Int) ≤ 9223372036854775807 := hX.pg.max
  clear hX hV hE hk ha ho hwD hYD hO hY hy2 hrl hrc
  go_loopw [160] (fun iv wr => ∃ (m : Nat) (gs : List Pg) (rows' : List (List Value)), iv = .int .i64 m ∧ m ≤ c.pg.length ∧ ResV wr w.heap.size 29 32 (c.cells d) ∧ Ext w wr ∧ KpB aP W wr ∧ Row wr Y 29 yc ∧ wr.ownsRow D 62 7 (.slice aP c.pg.length kP) c.pg.length (rows' ++ rows.drop m).flatten ∧
      (travO (resG c.cs) (c.pg.take m) = some gs ∧ gs.length = m ∧ rows'.length = m ∧ ∀ (i : Nat) p r, gs[i]? = some p → rows'[i]? = some r → PgN w W.heap.size wr p r)) (fun iv _ => c.pg.length - (intOf iv).toNat)
  case atStart => exact ⟨0, [], [], rfl, by omega, HV0.out, HE0.out, (KpC.refl _).kpB, HY0.out, by simpa using HO0.out, by rw [List.take_zero]; rfl, rfl, rfl, fun i q r h => by simp at h⟩
  case round =>
    obtain ⟨m, gs, rows', rfl, hm, hV, hE, hB, hY, hO, hP⟩ := hrel
    have HV1 := Lib.hid hV
    have HE1 := Lib.hid hE
    have HB1 := Lib.hid hB
    have HY1 := Lib.hid hY
    have HO1 := Lib.hid hO
    have HP1 := Lib.hid hP
    clear hV hE hB hY hO hP
    by_cases hlt : m < c.pg.length
    · have hki : (m : Int) < (c.pg.length : Int) := by omega
      obtain ⟨p, hp⟩ : ∃ p, c.pg[m]? = some p := ⟨_, List.getElem?_eq_getElem hlt⟩
      obtain ⟨cc, hcc⟩ : ∃ cc, rows[m]? = some cc := ⟨_, List.getElem?_eq_getElem (by rw [HRL.out]; exact hlt)⟩
      obtain ⟨a, n, rfl, hrq⟩ := HRC.out m p cc hp hcc
      obtain ⟨rq, hq1, hq2, hq3, hq4⟩ := hrq.ones
      obtain ⟨g, cap', rest, ev, hgD, hrow, hgc, hgm, hgl⟩ := Row.of_own HO1.out (by omega)
      cases ev
      have hwd : ∀ r ∈ rows' ++ rows.drop m, r.length = 7 := fun r hr => by
        rcases List.mem_append.1 hr with hr | hr
        · obtain ⟨i, hi⟩ := List.getElem?_of_mem hr
          have hil := (List.getElem?_eq_some_iff.1 hi).1
          obtain ⟨z, hz⟩ : ∃ z, gs[i]? = some z := ⟨_, List.getElem?_eq_getElem (by rw [HP1.out.2.1, ← HP1.out.2.2.1]; exact hil)⟩
          exact (HP1.out.2.2.2 i z r hz hi).len
        · obtain ⟨i, hi⟩ := List.getElem?_of_mem (List.mem_of_mem_drop hr)
          have hil := (List.getElem?_eq_some_iff.1 hi).1
          obtain ⟨z, hz⟩ : ∃ z, c.pg[i]? = some z := ⟨_, List.getElem?_eq_getElem (by rw [← HRL.out]; exact hil)⟩
          obtain ⟨_, _, rfl, -⟩ := HRC.out i z r hz hi
          rfl
      have hmid : (rows' ++ rows.drop m)[m]? = some (p.cells a n) := by
        rw [List.getElem?_append_right (by rw [HP1.out.2.2.1]; exact Nat.le_refl _), HP1.out.2.2.1, Nat.sub_self, List.getElem?_drop]
        exact hcc
      have hsl := hrow.sl hwd (by rw [List.length_append, HP1.out.2.2.1, List.length_drop, HRL.out]; omega) hgm hgl
      have hcell : ∀ (j : Nat) (v : Value), (p.cells a n)[j]? = some v → wr.cell? ⟨g, m * 7 + j, none⟩ = some v := fun j v hj => by
        obtain ⟨b', o', e, hw⟩ := hsl.cells m j _ _ hmid hj
        cases e
        simpa using hw
      have d0 : wr.cell? ⟨g, m * 7, none⟩ = some (.string p.nm) := hcell 0 _ rfl
      have d1 : wr.cell? ⟨g, m * 7 + 1, none⟩ = some (.int .i64 p.nu) := hcell 1 _ rfl
      have d2 : wr.cell? ⟨g, m * 7 + 2, none⟩ = some (.int .i64 p.us) := hcell 2 _ rfl
      have d3 : wr.cell? ⟨g, m * 7 + 3, none⟩ = some (.int .i64 p.ea) := hcell 3 _ rfl
      have d4 : wr.cell? ⟨g, m * 7 + 4, none⟩ = some (.int .i64 p.mn) := hcell 4 _ rfl
      have d5 : wr.cell? ⟨g, m * 7 + 5, none⟩ = some (.int .i64 p.md) := hcell 5 _ rfl
      have d6 : wr.cell? ⟨g, m * 7 + 6, none⟩ = some (.slice a p.rq.length n) := hcell 6 _ rfl
      have hxb : Ext wr (wr.alloc (.cells [Value.string p.nm, Value.int .i64 p.nu, Value.int .i64 p.us, Value.int .i64 p.ea, Value.int .i64 p.mn, Value.int .i64 p.md, Value.slice a p.rq.length n].toArray 62)) := (Ext.refl wr).alloc _
      have HXB := Lib.hid hxb
      have hcl := cloneQ_any rq a n _ (hq1.ext (HE1.out.trans hxb)) hq4 (by rw [hq2]; have := (HK.out.rq p (List.mem_of_getElem? hp)).1; omega)
      rw [hq2] at hcl
      have HCL := Lib.hid hcl
      have HSB : Hid ((wr.alloc (.cells [Value.string p.nm, Value.int .i64 p.nu, Value.int .i64 p.us, Value.int .i64 p.ea, Value.int .i64 p.mn, Value.int .i64 p.md, Value.slice a p.rq.length n].toArray 62)).heap.size = wr.heap.size + 1) := Lib.hid (by simp)
      have HOG : Hid (okG p = true) := Lib.hid (all_okG HA.out (List.mem_of_getElem? hp))
      have HROW := Lib.hid hrow
      have HWDT := Lib.hid hwd
      have HMID := Lib.hid hmid
      have HGD := Lib.hid (And.intro hgD (And.intro hgl (And.intro hgc hgm)))
      have HPM := Lib.hid hp
      have HCC := Lib.hid hcc
      have HQ23 := Lib.hid (And.intro hq2 hq3)
      have hg3 : w.heap.size + 2 < g := by have h2 := HWD.out; omega
      have hYg : Y ≠ g := by have h2 := HYD.out; omega
      clear hrow hwd hmid hgD hgl hgc hgm hp hcc hcell hsl hxb hcl hrq hq1 hq2 hq3 hq4
      have HGW : Hid (g < W.heap.size) := Lib.hid (by
        obtain ⟨g2, cap2, rest2, ev2, -, hrw2, -⟩ := Row.of_own HO0.out (by omega)
        cases ev2
        exact (Array.getElem?_eq_some_iff.1 hrw2).1)
      have hgwr : g < wr.heap.size := (Array.getElem?_eq_some_iff.1 HROW.out).1
      go_wp2_with (go_at_call 49; refine HCL.out.mono ?_; rintro e w5 ⟨v, rfl, hof, hE5⟩; obtain ⟨lA, lC, rfl⟩ := ownsRow_slice hof; have HOF := Lib.hid hof; have HE5 := Lib.hid (HXB.out.trans hE5); clear hof hE5 d0 d1 d2 d3 d4 d5 d6)
      refine Code.wp_mono (fun e b V hz => ?_) (loopE7 c HK.out d w w5 HX.out (HV1.out.kpC HE5.out.kpC) (HE1.out.trans HE5.out) HA.out HON.out m p HPM.out HOG.out _ lC lA rq HQ23.out.1 HQ23.out.2 HOF.out (by rw [HSB.out]; have := HWD.out; omega) _ _ _ _ _ _ _ _ _ _ _ _ _ _ _ _ _ _ _ _ _ _ _ _ _ _ _ _ _ _ _ _ _ _ _ _ _ _ _ _ _ _ _ _ _ _ _ _ _ _ _ _ _ _ _ _ _ _ _ _ _ _ _ _ _ _ _ _ _ _ _ _ _ _ _ _ _ _ _ _ _ _ _ _ _ _ _ _ _ _ _ _ _ _ _ _ _ _ _ _ _ _ _ _ _ _ _ _ _ _ _ _ _ _ _ _ _ _ _ _ _ _ _ _ _ _ _ _ _ _ _ _ _ _ _ _ _ _ _ _ _ _ _ _ _ _ _ _ _ _ _ _ _ _ _ _ _ _ _ _ _ _ _ _ _ _ _ _ _ _ _ _ _ _ _ _ _ _ _ _ _ _ _ _ _ _ _ _ _ _ _ _ _ _ _ _ _ _ _ _ _ _ _ _ _ _ _ _ _ _ _ _ _ _ _ _ _)
      cases e with
      | exit n' =>
        obtain ⟨rfl, y17, y18, y19, y20, y170, y171, y172, y173, y174, y175, y176, y177, y178, y179, y180, y181, y182, y183, y184, y185, y186, y187, y188, y189, y190, y191, y192, y193, y194, y195, y196, y197, y198, y199, y200, y201, y202, y203, y204, y205, y206, rfl, hV9, hE9, hB9, qs, rq', hqs, hrl', hrc', hO9⟩ := hz
        have hfb : ∀ z, lA = some z → wr.heap.size + 1 ≤ z.block := fun z e => by
          have := ownsRow_blocks HOF.out z.block (by rw [e]; rfl)
          rw [HSB.out] at this
          exact this
        have hkv : KpC wr V := ⟨Nat.le_trans HE5.out.size hB9.1, fun b o h1 h2 => hB9.2 b o (fun z e => by have h3 := hfb z e; have h4 := (Array.getElem?_eq_some_iff.1 h1).1; omega) (HE5.out.kpC.2 b o h1 h2) h2⟩
        have hYV := HY1.out.kpC hkv
        have hRowV := HROW.out.kpC hkv
        have hbd : m * 7 + 7 ≤ ((rows' ++ rows.drop m).flatten ++ rest).length := by
          have h1 := HGD.out.2.1
          have h2 := HGD.out.2.2.1
          rw [h1]
          omega
        have HF9 := Lib.hid (And.intro hV9 (And.intro hE9 (And.intro hB9 (And.intro hqs (And.intro hrl' (And.intro hrc' hO9))))))
        have HKV := Lib.hid hkv
        have HRV := Lib.hid hRowV
        have HYV := Lib.hid hYV
        have y2 : V.cell? ⟨Y, 2, none⟩ = some (.slice (some ⟨g, 0, none⟩) c.pg.length kP) := hYV.cell HY2.out
        obtain ⟨o6, ho6⟩ := Option.isSome_iff_exists.1 ((hRowV.there (o := m * 7) (n := 7) hbd) 6 (by omega)).1
        have z6 := hRowV.froz (m * 7 + 6)
        clear hV9 hE9 hB9 hqs hrl' hrc' hO9 hkv hRowV hYV
        go_wp2_with fail
        have hgr := setCell_grown V g (m * 7 + 6) (.slice lA p.rq.length lC)
        have hke := grown_kpE hgr
        have hRowA := HRV.out.put (o := m * 7 + 6) (.slice lA p.rq.length lC) (by omega)
        rw [show m * 7 + 6 + 1 = m * 7 + 6 + [Value.slice lA p.rq.length lC].length from rfl, flat_set (k := 7) (j := 6) (vs := [.slice lA p.rq.length lC]) (by simp) _ m _ HMID.out HWDT.out, drop_at HCC.out, set_mid HP1.out.2.2.1] at hRowA
        have hql : qs.length = p.rq.length := travO_len HF9.out.2.2.2.1
        have hpc : (p.cells a n).take 6 ++ [Value.slice lA p.rq.length lC] ++ (p.cells a n).drop (6 + [Value.slice lA p.rq.length lC].length) = ({ p with rq := qs } : Pg).cells lA lC := by
          show [Value.string p.nm, Value.int .i64 p.nu, Value.int .i64 p.us, Value.int .i64 p.ea, Value.int .i64 p.mn, Value.int .i64 p.md, Value.slice lA p.rq.length lC] = [Value.string p.nm, Value.int .i64 p.nu, Value.int .i64 p.us, Value.int .i64 p.ea, Value.int .i64 p.mn, Value.int .i64 p.md, Value.slice lA qs.length lC]
          rw [hql]
        rw [hpc] at hRowA
        have hsz : W.heap.size ≤ w5.heap.size := Nat.le_trans HB1.out.1 HE5.out.size
        obtain ⟨ax, cx, ex, hslq, hfarq⟩ := SL.of_own (own_kpE HF9.out.2.2.2.2.2.2 hke (by rw [HSB.out]; omega)) (fun r hr => by
          obtain ⟨i, hi⟩ := List.getElem?_of_mem hr
          have hil := (List.getElem?_eq_some_iff.1 hi).1
          obtain ⟨z, hz⟩ : ∃ z, qs[i]? = some z := ⟨_, List.getElem?_eq_getElem (by rw [hql, ← HF9.out.2.2.2.2.1]; exact hil)⟩
          exact (HF9.out.2.2.2.2.2.1 i z r hz hi).len) HF9.out.2.2.2.2.1
        cases ex
        have hNew : PgN w W.heap.size (V.setCell ⟨g, m * 7 + 6, none⟩ (.slice lA p.rq.length lC)) { p with rq := qs } (({ p with rq := qs } : Pg).cells lA lC) :=
          ⟨lA, lC, rq', rfl, hslq, by rw [HF9.out.2.2.2.2.1]; exact hql.symm, fun i q s hq hs => ((HF9.out.2.2.2.2.2.1 i q s hq hs).mono hsz).kpE hke HGW.out, fun z e _ => by have h3 := hfb z e; have h4 := HB1.out.1; omega⟩
        have HFIN := Lib.hid (And.intro (HF9.out.1.kpE hke hg3) (And.intro (show Ext w (V.setCell ⟨g, m * 7 + 6, none⟩ (.slice lA p.rq.length lC)) from Below.grown HF9.out.2.1 hgr HF9.out.2.1.size (fun x hx => by cases hx; omega)) (And.intro (HYV.out.kpE hke hYg) (And.intro hRowA (And.intro hNew (HKV.out.kpE (B := g) |>.trans hke))))))
        clear ho6 z6 y2 hgr hke hRowA hpc hslq hfarq hNew hfb hbd
        generalize V.setCell ⟨g, m * 7 + 6, none⟩ (.slice lA p.rq.length lC) = V2 at *
        go_roundw
        case rel =>
          have hwf : ∀ r ∈ rows' ++ [({ p with rq := qs } : Pg).cells lA lC] ++ rows.drop (m + 1), r.length = 7 := fun r hr => by
            rcases List.mem_append.1 hr with hr | hr
            · rcases List.mem_append.1 hr with hr | hr
              · exact HWDT.out r (List.mem_append_left _ hr)
              · obtain rfl := List.mem_singleton.1 hr; rfl
            · refine HWDT.out r (List.mem_append_right _ ?_)
              rw [drop_at HCC.out]
              exact List.mem_cons_of_mem _ hr
          refine ⟨m + 1, gs ++ [{ p with rq := qs }], rows' ++ [({ p with rq := qs } : Pg).cells lA lC], by go_num, by omega, HFIN.out.1, HFIN.out.2.1, ?_, HFIN.out.2.2.1, ?_, ?_, ?_, ?_, ?_⟩
          · exact HB1.out.trans (KpE.kpB (a := ⟨g, 0, none⟩) HFIN.out.2.2.2.2.2)
          · refine HFIN.out.2.2.2.1.own hwf ?_ HGD.out.2.2.1 HGD.out.2.2.2 ?_ HGD.out.1
            · rw [List.length_append, List.length_append, HP1.out.2.2.1, List.length_drop, HRL.out, List.length_singleton]; omega
            · have h1 := HGD.out.2.1
              rw [← h1, List.length_append, List.length_append]
              congr 1
              rw [flat_len _ HWDT.out, flat_len (size := 7) _ hwf]
              simp only [List.length_append, List.length_drop, HP1.out.2.2.1, HRL.out, List.length_singleton]
              omega
          · rw [take_snoc' HPM.out]
            exact travO_snoc HP1.out.1 (by unfold resG; rw [HF9.out.2.2.2.1]; rfl)
          · rw [List.length_append, HP1.out.2.1]; rfl
          · rw [List.length_append, HP1.out.2.2.1]; rfl
          · intro i z r hz hr
            by_cases hi : i < m
            · rw [List.getElem?_append_left (by rw [HP1.out.2.1]; exact hi)] at hz
              rw [List.getElem?_append_left (by rw [HP1.out.2.2.1]; exact hi)] at hr
              exact (HP1.out.2.2.2 i z r hz hr).kpE HFIN.out.2.2.2.2.2 HGW.out
            · rw [List.getElem?_append_right (by rw [HP1.out.2.1]; omega), HP1.out.2.1] at hz
              rw [List.getElem?_append_right (by rw [HP1.out.2.2.1]; omega), HP1.out.2.2.1] at hr
              have hi0 : i - m = 0 := by
                have := (List.getElem?_eq_some_iff.1 hz).1
                rw [List.length_singleton] at this
                omega
              rw [hi0] at hz hr
              cases hz
              cases hr
              exact HFIN.out.2.2.2.2.1
        case measure => simp [intOf] <;> omega
      | panic ch => exact hz
      | normal => exact hz.elim
      | ret => exact hz.elim
      | goto t => exact hz.elim
      | outgrown => exact hz.elim
    · have hki : ¬ (m : Int) < (c.pg.length : Int) := by omega
      obtain rfl : m = c.pg.length := by omega
      rw [List.drop_of_length_le (by rw [HRL.out]; exact Nat.le_refl _), List.append_nil] at HO1
      rw [List.take_length] at HP1
      go_wp2_with fail
      exact ⟨rfl, ⟨_, _, _, _, _, _, _, _, _, _, _, _, _, _, _, _, _, _, _, _, _, _, _, _, _, _, _, _, _, _, _, _, _, _, _, _, _, _, _, _, _, _, _, _, _, _, _, _, _, _, _, _, _, _, _, _, _, _, _, _, _, rfl⟩, HV1.out, HE1.out, HB1.out, HY1.out, gs, HP1.out.1, rows', HP1.out.2.2.1, HP1.out.2.2.2, HO1.out⟩
end Go.Proofs.Ytimigpfoflilcaa

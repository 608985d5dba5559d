/- Names: Resolve, the loop over the courses. -/
import Derived.Test.YtimigpfoflilcaaYQ
namespace Go.Sz
open Go.RowKit
/-- the blocks of cells but that of ao lie as they lay -/
def KpB (ao : Option Addr) (A B : World) : Prop := A.heap.size ≤ B.heap.size ∧ ∀ (b : Nat) (o : Obj), (∀ a, ao = some a → b ≠ a.block) → A.heap[b]? = some o → o.isCells = true → B.heap[b]? = some o
theorem KpC.kpB {ao : Option Addr} {A B : World} (h : KpC A B) : KpB ao A B := ⟨h.1, fun b o _ h1 h2 => h.2 b o h1 h2⟩
theorem KpB.trans {ao : Option Addr} {A B C : World} (h : KpB ao A B) (k : KpB ao B C) : KpB ao A C := ⟨Nat.le_trans h.1 k.1, fun b o hb h1 h2 => k.2 b o hb (h.2 b o hb h1 h2) h2⟩
theorem KpE.kpB {a : Addr} {A B : World} (h : KpE a.block A B) : KpB (some a) A B := ⟨h.1, fun b x hb h1 h2 => h.2 b x (hb _ rfl) h1 h2⟩
/-- a course with numbers, in memory -/
def CrN (N : Nat) (V : World) (x : Cr) (q : List Value) : Prop := ∃ u v, q = x.head ++ u ++ v ∧ RepN N V x.need u ∧ RepN N V x.bar v ∧ x.ok
theorem CrN.keep {N : Nat} {V W : World} {x : Cr} {q : List Value} (h : CrN N V x q) (hk : ∀ (b : Nat) (o : Obj), N ≤ b → V.heap[b]? = some o → o.isCells = true → W.heap[b]? = some o) : CrN N W x q := by
  obtain ⟨u, v, e, h1, h2, h3⟩ := h
  exact ⟨u, v, e, h1.keep hk, h2.keep hk, h3⟩
theorem CrN.kpC {N : Nat} {V W : World} {x : Cr} {q : List Value} (h : CrN N V x q) (hk : KpC V W) : CrN N W x q := h.keep fun b o _ h1 h2 => hk.2 b o h1 h2
theorem CrN.kpE {N E : Nat} {V W : World} {x : Cr} {q : List Value} (h : CrN N V x q) (hk : KpE E V W) (hE : E < N) : CrN N W x q := h.keep fun b o hb h1 h2 => hk.2 b o (by omega) h1 h2
theorem CrN.len {N : Nat} {V : World} {x : Cr} {q : List Value} (h : CrN N V x q) : q.length = 16 := by
  obtain ⟨u, v, rfl, h1, h2, -⟩ := h
  rw [List.length_append, List.length_append, h1.len, h2.len]
  rfl
theorem nums_course {c : Cat} {m : Nat} {x : Cr} (h : c.cs[m]? = some x) (hx : resC c.cs x = none) : c.nums = none := by
  unfold Cat.nums
  have : travO (resC c.cs) c.cs = none := by
    have h1 := split_at h
    generalize hl : c.cs = l at h1 hx ⊢
    rw [h1]
    have h2 : resC (l.take m ++ x :: l.drop (m + 1)) x = none := by rw [← h1]; exact hx
    exact travO_bad h2
  rw [this]
  rfl
end Go.Sz
namespace Go.Proofs.Ytimigpfoflilcaa
open Go.RowKit Go.Sz
set_option maxRecDepth 1000000 in
set_option maxHeartbeats 6400000 in
theorem loopC (c : Cat) (hk : c.Ok) (d : Adr) (w W : World) (hX : RepX w d c) (hV : ResV W w.heap.size 29 32 (c.cells d)) (hE : Ext w W) (ha : c.arg = false) (ho : c.once) (Y D kC : Nat) (aC : Option Addr) (yr : List Value) (hY : Row W Y 29 (.slice aC c.cs.length kC :: yr)) (rows : List (List Value)) (hrl : rows.length = c.cs.length) (hrw : ∀ q ∈ rows, q.length = 16) (hrc : ∀ (i : Nat) x q, c.cs[i]? = some x → rows[i]? = some q → ∃ a n b m, q = x.cells a n b m)
    (hO : W.ownsRow D 41 16 (.slice aC c.cs.length kC) c.cs.length rows.flatten) (hYD : Y < D) (hwD : w.heap.size + 3 ≤ D) (hDW : D ≤ W.heap.size) (x0 x4 x5 x6 x7 x8 x9 x11 x12 x13 x14 x15 x16 x17 x18 x19 x20 x21 x22 x23 x24 x25 x26 x27 x28 x29 x30 x31 x32 x33 x34 x35 x36 x37 x38 x39 x40 x41 x42 x43 x44 x45 x46 x47 x48 x49 x50 x51 x52 x53 x54 x55 x56 x57 x58 x59 x60 x61 x62 x63 x64 x65 x66 x67 x68 x69 x70 x71 x72 x73 x74 x75 x76 x77 x78 x79 x80 x81 x82 x83 x84 x85 x86 x87 x88 x89 x90 x91 x92 x93 x97 x98 x99 x100 x101 x102 x103 x104 x105 x106 x107 x108 x109 x110 x111 x112 x113 x114 x115 x116 x117 x118 x119 x120 x121 x122 x123 x124 x125 x126 x127 x128 x129 x130 x131 x132 x133 x134 x135 x136 x137 x138 x139 x140 x141 x142 x143 x144 x145 x146 x147 x148 x149 x150 x151 x152 x153 x154 x155 x156 x157 x158 x159 x160 x161 x162 x163 x164 x165 x166 x167 x168 x169 x170 x171 x172 x173 x174 x175 x176 x177 x178 x179 x180 x181 x182 x183 x184 x185 x186 x187 x188 x189 x190 x191 x192 x193 x194 x195 x196 x197 x198 x199 x200 x201 x202 x203 x204 x205 x206 x207 x208 x209 x210 x211 x212 x213 x214 x215 x216 x217 x218 x219 x220 x221 x222 x223 : Value) :
    Code.wp Try.prog (lpR 2) (lpQ 6 c d w fun a V => ∃ y11 y96 y97 y98 y99 y100 y101 y102 y103 y104 y105 y106 y107 y108 y109 y110 y111 y112 y113 y114 y115 y116 y117 y118 y119 y120 y121 y122 y123 y124 y125 : Value, a = { tmps := (x0 :: (.pointer (some ⟨w.heap.size, 0, none⟩)) :: (.pointer (some ⟨w.heap.size + 1, 0, none⟩)) :: (.pointer (some ⟨w.heap.size + 2, 0, none⟩)) :: x4 :: x5 :: x6 :: x7 :: x8 :: x9 :: (.pointer (some ⟨Y, 0, none⟩)) :: y11 :: x12 :: x13 :: x14 :: x15 :: x16 :: x17 :: x18 :: x19 :: x20 :: x21 :: x22 :: x23 :: x24 :: x25 :: x26 :: x27 :: x28 :: x29 :: x30 :: x31 :: x32 :: x33 :: x34 :: x35 :: x36 :: x37 :: x38 :: x39 :: x40 :: x41 :: x42 :: x43 :: x44 :: x45 :: x46 :: x47 :: x48 :: x49 :: x50 :: x51 :: x52 :: x53 :: x54 :: x55 :: x56 :: x57 :: x58 :: x59 :: x60 :: x61 :: x62 :: x63 :: x64 :: x65 :: x66 :: x67 :: x68 :: x69 :: x70 :: x71 :: x72 :: x73 :: x74 :: x75 :: x76 :: x77 :: x78 :: x79 :: x80 :: x81 :: x82 :: x83 :: x84 :: x85 :: x86 :: x87 :: x88 :: x89 :: x90 :: x91 :: x92 :: x93 :: (.slice aC c.cs.length kC) :: (.int .i64 c.cs.length) :: y96 :: y97 :: y98 :: y99 :: y100 :: y101 :: y102 :: y103 :: y104 :: y105 :: y106 :: y107 :: y108 :: y109 :: y110 :: y111 :: y112 :: y113 :: y114 :: y115 :: y116 :: y117 :: y118 :: y119 :: y120 :: y121 :: y122 :: y123 :: y124 :: y125 :: x126 :: x127 :: x128 :: x129 :: x130 :: x131 :: x132 :: x133 :: x134 :: x135 :: x136 :: x137 :: x138 :: x139 :: x140 :: x141 :: x142 :: x143 :: x144 :: x145 :: x146 :: x147 :: x148 :: x149 :: x150 :: x151 :: x152 :: x153 :: x154 :: x155 :: x156 :: x157 :: x158 :: x159 :: x160 :: x161 :: x162 :: x163 :: x164 :: x165 :: x166 :: x167 :: x168 :: x169 :: x170 :: x171 :: x172 :: x173 :: x174 :: x175 :: x176 :: x177 :: x178 :: x179 :: x180 :: x181 :: x182 :: x183 :: x184 :: x185 :: x186 :: x187 :: x188 :: x189 :: x190 :: x191 :: x192 :: x193 :: x194 :: x195 :: x196 :: x197 :: x198 :: x199 :: x200 :: x201 :: x202 :: x203 :: x204 :: x205 :: x206 :: x207 :: x208 :: x209 :: x210 :: x211 :: x212 :: x213 :: x214 :: x215 :: x216 :: x217 :: x218 :: x219 :: x220 :: x221 :: x222 :: x223 :: []).toArray, defers := dfR w.heap.size } ∧ ResV V w.heap.size 29 32 (c.cells d) ∧ Ext w V ∧ Row V Y 29 (.slice aC c.cs.length kC :: yr) ∧ KpB aC W V ∧ ∃ (cs' : List Cr) (rows' : List (List Value)), travO (resC c.cs) c.cs = some cs' ∧ rows'.length = c.cs.length ∧ (∀ (i : Nat) x q, cs'[i]? = some x → rows'[i]? = some q → CrN W.heap.size V x q) ∧ V.ownsRow D 41 16 (.slice aC c.cs.length kC) c.cs.length rows'.flatten) { tmps := (x0 :: (.pointer (some ⟨w.heap.size, 0, none⟩)) :: (.pointer (some ⟨w.heap.size + 1, 0, none⟩)) :: (.pointer (some ⟨w.heap.size + 2, 0, none⟩)) :: x4 :: x5 :: x6 :: x7 :: x8 :: x9 :: (.pointer (some ⟨Y, 0, none⟩)) :: x11 :: x12 :: x13 :: x14 :: x15 :: x16 :: x17 :: x18 :: x19 :: x20 :: x21 :: x22 :: x23 :: x24 :: x25 :: x26 :: x27 :: x28 :: x29 :: x30 :: x31 :: x32 :: x33 :: x34 :: x35 :: x36 :: x37 :: x38 :: x39 :: x40 :: x41 :: x42 :: x43 :: x44 :: x45 :: x46 :: x47 :: x48 :: x49 :: x50 :: x51 :: x52 :: x53 :: x54 :: x55 :: x56 :: x57 :: x58 :: x59 :: x60 :: x61 :: x62 :: x63 :: x64 :: x65 :: x66 :: x67 :: x68 :: x69 :: x70 :: x71 :: x72 :: x73 :: x74 :: x75 :: x76 :: x77 :: x78 :: x79 :: x80 :: x81 :: x82 :: x83 :: x84 :: x85 :: x86 :: x87 :: x88 :: x89 :: x90 :: x91 :: x92 :: x93 :: (.slice aC c.cs.length kC) :: (.int .i64 c.cs.length) :: (.int .i64 0) :: x97 :: x98 :: x99 :: x100 :: x101 :: x102 :: x103 :: x104 :: x105 :: x106 :: x107 :: x108 :: x109 :: x110 :: x111 :: x112 :: x113 :: x114 :: x115 :: x116 :: x117 :: x118 :: x119 :: x120 :: x121 :: x122 :: x123 :: x124 :: x125 :: x126 :: x127 :: x128 :: x129 :: x130 :: x131 :: x132 :: x133 :: x134 :: x135 :: x136 :: x137 :: x138 :: x139 :: x140 :: x141 :: x142 :: x143 :: x144 :: x145 :: x146 :: x147 :: x148 :: x149 :: x150 :: x151 :: x152 :: x153 :: x154 :: x155 :: x156 :: x157 :: x158 :: x159 :: x160 :: x161 :: x162 :: x163 :: x164 :: x165 :: x166 :: x167 :: x168 :: x169 :: x170 :: x171 :: x172 :: x173 :: x174 :: x175 :: x176 :: x177 :: x178 :: x179 :: x180 :: x181 :: x182 :: x183 :: x184 :: x185 :: x186 :: x187 :: x188 :: x189 :: x190 :: x191 :: x192 :: x193 :: x194 :: x195 :: x196 :: x197 :: x198 :: x199 :: x200 :: x201 :: x202 :: x203 :: x204 :: x205 :: x206 :: x207 :: x208 :: x209 :: x210 :: x211 :: x212 :: x213 :: x214 :: x215 :: x216 :: x217 :: x218 :: x219 :: x220 :: x221 :: x222 :: x223 :: []).toArray, defers := dfR w.heap.size } W := by
  conv => arg 2; whnf
  have HX := Lib.hid hX
  have HK := Lib.hid hk
  have HA := Lib.hid ha
  have HON := Lib.hid ho
  have HRL := Lib.hid hrl
  have HRW := Lib.hid hrw
  have HRC := Lib.hid hrc
  have HYD := Lib.hid hYD
  have HWD := Lib.hid hwD
  have HDW := Lib.hid hDW
  have HV0 := Lib.hid hV
  have HE0 := Lib.hid hE
  have HY0 := Lib.hid hY
  have HO0 := Lib.hid hO
  have hs1 : (c.cs.length : Int) ≤ 9223372036854775807 := by have := hX.cs.max; omega
  clear hX hV hE hk ha ho hrl hrw hrc hYD hwD hDW hY hO
  go_loopw [96] (fun iv wr => ∃ (m : Nat) (cs' : List Cr) (rows' : List (List Value)), iv = .int .i64 m ∧ m ≤ c.cs.length ∧ ResV wr w.heap.size 29 32 (c.cells d) ∧ Ext w wr ∧ Row wr Y 29 (.slice aC c.cs.length kC :: yr) ∧ KpB aC W wr ∧ wr.ownsRow D 41 16 (.slice aC c.cs.length kC) c.cs.length (rows' ++ rows.drop m).flatten ∧
      (travO (resC c.cs) (c.cs.take m) = some cs' ∧ cs'.length = m ∧ rows'.length = m ∧ ∀ (i : Nat) x q, cs'[i]? = some x → rows'[i]? = some q → CrN W.heap.size wr x q)) (fun iv _ => c.cs.length - (intOf iv).toNat)
  case atStart => exact ⟨0, [], [], rfl, by omega, HV0.out, HE0.out, HY0.out, (KpC.refl _).kpB, by simpa using HO0.out, by rw [List.take_zero]; rfl, rfl, rfl, fun i x c h => by simp at h⟩
  case round =>
    obtain ⟨m, cs', rows', rfl, hm, hV, hE, hY, hB, hO, hP⟩ := hrel
    have HV1 := Lib.hid hV
    have HE1 := Lib.hid hE
    have HY1 := Lib.hid hY
    have HB1 := Lib.hid hB
    have HO1 := Lib.hid hO
    have HP1 := Lib.hid hP
    by_cases hlt : m < c.cs.length
    · have hki : (m : Int) < (c.cs.length : Int) := by omega
      have y00 : wr.cell? ⟨Y, 0, none⟩ = some (.slice aC c.cs.length kC) := hY.cell rfl
      clear hV hE hY hB hO hP
      obtain ⟨x, hx⟩ : ∃ x, c.cs[m]? = some x := ⟨_, List.getElem?_eq_getElem hlt⟩
      obtain ⟨cc, hcc⟩ : ∃ cc, rows[m]? = some cc := ⟨_, List.getElem?_eq_getElem (by rw [HRL.out]; exact hlt)⟩
      obtain ⟨B, o, a, n, b, m', eB, hkn, hkb, hon, hob, hox, hcell⟩ := HX.out.cs.at hx
      obtain ⟨q1, q2, q3, q4, rfl⟩ := HRC.out m x cc hx hcc
      obtain ⟨g, cap', rest, ev, hgD, hrow, hgc, hgm, hgl⟩ := Row.of_own HO1.out (by omega)
      cases ev
      have hwd : ∀ q ∈ rows' ++ rows.drop m, q.length = 16 := fun q hq => by
        rcases List.mem_append.1 hq with hq | hq
        · obtain ⟨i, hi⟩ := List.getElem?_of_mem hq
          have hil := (List.getElem?_eq_some_iff.1 hi).1
          obtain ⟨z, hz⟩ : ∃ z, cs'[i]? = some z := ⟨_, List.getElem?_eq_getElem (by rw [HP1.out.2.1, ← HP1.out.2.2.1]; exact hil)⟩
          exact (HP1.out.2.2.2 i z q hz hi).len
        · exact HRW.out q (List.mem_of_mem_drop hq)
      have hmid : (rows' ++ rows.drop m)[m]? = some (x.cells q1 q2 q3 q4) := by
        rw [List.getElem?_append_right (by rw [HP1.out.2.2.1]; exact Nat.le_refl _), HP1.out.2.2.1, Nat.sub_self, List.getElem?_drop]
        exact hcc
      have hm1 := List.mem_of_getElem? hx
      have HRU1 : Hid (∀ W, Ext w W → Calls Try.prog 47 #[.agg #[Value.slice (some ⟨B, o, none⟩) c.cs.length d.k0, Value.slice d.a1 c.sm.length d.k1, Value.slice d.a2 c.pg.length d.k2, Value.slice d.a3 c.kl.length d.k3, Value.slice d.a4 c.fe.length d.k4, Value.slice d.a5 c.ho.length d.k5, Value.slice d.a6 c.cu.length d.k6], .agg [Value.int .i64 x.need.op, Value.int .i64 x.need.co, Value.string x.need.nm, Value.int .i64 x.need.n, Value.int .i64 x.need.d, Value.slice a x.need.kids.length n].toArray] W (rulePost (x.need.res c.cs) W)) := Lib.hid fun W hE => by
        rw [← eB]
        exact rule_any (RepU.of hkn hon) d.a0 d.k0 _ _ _ _ _ _ W hE (HX.out.cs.ext hE) (HK.out.ru x hm1).1
      have HRU2 : Hid (∀ W, Ext w W → Calls Try.prog 47 #[.agg #[Value.slice (some ⟨B, o, none⟩) c.cs.length d.k0, Value.slice d.a1 c.sm.length d.k1, Value.slice d.a2 c.pg.length d.k2, Value.slice d.a3 c.kl.length d.k3, Value.slice d.a4 c.fe.length d.k4, Value.slice d.a5 c.ho.length d.k5, Value.slice d.a6 c.cu.length d.k6], .agg [Value.int .i64 x.bar.op, Value.int .i64 x.bar.co, Value.string x.bar.nm, Value.int .i64 x.bar.n, Value.int .i64 x.bar.d, Value.slice b x.bar.kids.length m'].toArray] W (rulePost (x.bar.res c.cs) W)) := Lib.hid fun W hE => by
        rw [← eB]
        exact rule_any (RepU.of hkb hob) d.a0 d.k0 _ _ _ _ _ _ W hE (HX.out.cs.ext hE) (HK.out.ru x hm1).2
      have HCELL : Hid (∀ W, (Ext w W ∧ ResV W w.heap.size 29 32 (c.cells d) ∧ Row W Y 29 (.slice (some ⟨g, 0, none⟩) c.cs.length kC :: yr)) → W.cell? ⟨w.heap.size, 0, none⟩ = some (.slice (some ⟨B, o, none⟩) c.cs.length d.k0) ∧ W.cell? ⟨w.heap.size, 1, none⟩ = some (.slice d.a1 c.sm.length d.k1) ∧ W.cell? ⟨w.heap.size, 2, none⟩ = some (.slice d.a2 c.pg.length d.k2) ∧ W.cell? ⟨w.heap.size, 3, none⟩ = some (.slice d.a3 c.kl.length d.k3) ∧ W.cell? ⟨w.heap.size, 4, none⟩ = some (.slice d.a4 c.fe.length d.k4) ∧ W.cell? ⟨w.heap.size, 5, none⟩ = some (.slice d.a5 c.ho.length d.k5) ∧ W.cell? ⟨w.heap.size, 6, none⟩ = some (.slice d.a6 c.cu.length d.k6) ∧ W.cell? ⟨Y, 0, none⟩ = some (.slice (some ⟨g, 0, none⟩) c.cs.length kC) ∧ W.cell? ⟨B, o + m * 16 + 4, none⟩ = some (.int .i64 x.need.op) ∧ W.cell? ⟨B, o + m * 16 + 5, none⟩ = some (.int .i64 x.need.co) ∧ W.cell? ⟨B, o + m * 16 + 6, none⟩ = some (.string x.need.nm) ∧ W.cell? ⟨B, o + m * 16 + 7, none⟩ = some (.int .i64 x.need.n) ∧ W.cell? ⟨B, o + m * 16 + 8, none⟩ = some (.int .i64 x.need.d) ∧ W.cell? ⟨B, o + m * 16 + 9, none⟩ = some (.slice a x.need.kids.length n) ∧ W.cell? ⟨B, o + m * 16 + 10, none⟩ = some (.int .i64 x.bar.op) ∧ W.cell? ⟨B, o + m * 16 + 11, none⟩ = some (.int .i64 x.bar.co) ∧ W.cell? ⟨B, o + m * 16 + 12, none⟩ = some (.string x.bar.nm) ∧ W.cell? ⟨B, o + m * 16 + 13, none⟩ = some (.int .i64 x.bar.n) ∧ W.cell? ⟨B, o + m * 16 + 14, none⟩ = some (.int .i64 x.bar.d) ∧ W.cell? ⟨B, o + m * 16 + 15, none⟩ = some (.slice b x.bar.kids.length m')) := Lib.hid fun W h => ⟨(by rw [← eB]; exact h.2.1.1.cell rfl), h.2.1.1.cell rfl, h.2.1.1.cell rfl, h.2.1.1.cell rfl, h.2.1.1.cell rfl, h.2.1.1.cell rfl, h.2.1.1.cell rfl, h.2.2.cell rfl, h.1.cell (hcell 4 _ rfl), h.1.cell (hcell 5 _ rfl), h.1.cell (hcell 6 _ rfl), h.1.cell (hcell 7 _ rfl), h.1.cell (hcell 8 _ rfl), h.1.cell (hcell 9 _ rfl), h.1.cell (hcell 10 _ rfl), h.1.cell (hcell 11 _ rfl), h.1.cell (hcell 12 _ rfl), h.1.cell (hcell 13 _ rfl), h.1.cell (hcell 14 _ rfl), h.1.cell (hcell 15 _ rfl)⟩
      have HROW := Lib.hid hrow
      have HWDT := Lib.hid hwd
      have HMID := Lib.hid hmid
      have HGD := Lib.hid (And.intro hgD (And.intro hgl (And.intro hgc hgm)))
      have HXM := Lib.hid hx
      have HCC := Lib.hid hcc
      have HOX := Lib.hid hox
      clear hrow hwd hmid hgD hgl hgc hgm hx hcc hcell hkn hkb hon hob hox hm1 eB
      go_wp2_with fail
      have hHeld0 : Ext w wr.drew ∧ ResV wr.drew w.heap.size 29 32 (c.cells d) ∧ Row wr.drew Y 29 (.slice (some ⟨g, 0, none⟩) c.cs.length kC :: yr) := ⟨HE1.out.trans (Ext.refl _).drew, HV1.out.kpC (Ext.refl _).drew.kpC, HY1.out.kpC (Ext.refl _).drew.kpC⟩
      have HGW : Hid (g < W.heap.size) := Lib.hid (by
        obtain ⟨g2, cap2, rest2, ev2, -, hrw2, -⟩ := Row.of_own HO0.out (by omega)
        cases ev2
        exact (Array.getElem?_eq_some_iff.1 hrw2).1)
      refine wp_region_held_drew (S := fun W => Ext w W ∧ ResV W w.heap.size 29 32 (c.cells d) ∧ Row W Y 29 (.slice (some ⟨g, 0, none⟩) c.cs.length kC :: yr)) (by kernel_rfl) hHeld0 (fun hHeld => ?_)
      clear hHeld0 y00
      refine wpAnyH_take (i := 0) (oi := ?oi25) (v := ?v25) ?hi25 (by kernel_rfl) (by kernel_rfl) (by kernel_rfl) ?hQ25 (Or.inl ⟨?hw25, ?hy25⟩) hHeld ?rest25
      case hi25 =>
        simp only [List.getElem?_toArray, List.getElem?_cons_zero] <;> rfl
      case hQ25 => exact fun _ _ _ h => ResD.put (by decide) (by decide) h
      case hw25 => rfl
      case hy25 =>
        intro wS hSw
        obtain ⟨k0, k1, k2, k3, k4, k5, k6, y0, e4, e5, e6, e7, e8, e9, e10, e11, e12, e13, e14, e15⟩ := HCELL.out wS hSw
        go_simp
        first | done | with_reducible rfl | rfl
      simp only [Act.put, List.setIfInBounds_toArray, List.set_cons_zero, List.set_cons_succ]
      refine wpAnyH_take (i := 1) (oi := ?oi26) (v := ?v26) ?hi26 (by kernel_rfl) (by kernel_rfl) (by kernel_rfl) ?hQ26 (Or.inl ⟨?hw26, ?hy26⟩) hHeld ?rest26
      case hi26 =>
        simp only [List.getElem?_toArray, List.getElem?_cons_succ, List.getElem?_cons_zero] <;> rfl
      case hQ26 => exact fun _ _ _ h => ResD.put (by decide) (by decide) h
      case hw26 => rfl
      case hy26 =>
        intro wS hSw
        obtain ⟨k0, k1, k2, k3, k4, k5, k6, y0, e4, e5, e6, e7, e8, e9, e10, e11, e12, e13, e14, e15⟩ := HCELL.out wS hSw
        go_simp
        first | done | with_reducible rfl | rfl
      simp only [Act.put, List.setIfInBounds_toArray, List.set_cons_zero, List.set_cons_succ]
      refine wpAnyH_take (i := 2) (oi := ?oi27) (v := ?v27) ?hi27 (by kernel_rfl) (by kernel_rfl) (by kernel_rfl) ?hQ27 (Or.inl ⟨?hw27, ?hy27⟩) hHeld ?rest27
      case hi27 =>
        simp only [List.getElem?_toArray, List.getElem?_cons_succ, List.getElem?_cons_zero] <;> rfl
      case hQ27 => exact fun _ _ _ h => ResD.put (by decide) (by decide) h
      case hw27 => rfl
      case hy27 =>
        intro wS hSw
        obtain ⟨k0, k1, k2, k3, k4, k5, k6, y0, e4, e5, e6, e7, e8, e9, e10, e11, e12, e13, e14, e15⟩ := HCELL.out wS hSw
        go_simp
        first | done | with_reducible rfl | rfl
      simp only [Act.put, List.setIfInBounds_toArray, List.set_cons_zero, List.set_cons_succ]
      refine wpAnyH_take (i := 3) (oi := ?oi28) (v := ?v28) ?hi28 (by kernel_rfl) (by kernel_rfl) (by kernel_rfl) ?hQ28 (Or.inl ⟨?hw28, ?hy28⟩) hHeld ?rest28
      case hi28 =>
        simp only [List.getElem?_toArray, List.getElem?_cons_succ, List.getElem?_cons_zero] <;> rfl
      case hQ28 => exact fun _ _ _ h => ResD.put (by decide) (by decide) h
      case hw28 => rfl
      case hy28 =>
        intro wS hSw
        obtain ⟨k0, k1, k2, k3, k4, k5, k6, y0, e4, e5, e6, e7, e8, e9, e10, e11, e12, e13, e14, e15⟩ := HCELL.out wS hSw
        go_simp
        first | done | with_reducible rfl | rfl
      simp only [Act.put, List.setIfInBounds_toArray, List.set_cons_zero, List.set_cons_succ]
      refine wpAnyH_take (i := 4) (oi := ?oi29) (v := ?v29) ?hi29 (by kernel_rfl) (by kernel_rfl) (by kernel_rfl) ?hQ29 (Or.inl ⟨?hw29, ?hy29⟩) hHeld ?rest29
      case hi29 =>
        simp only [List.getElem?_toArray, List.getElem?_cons_succ, List.getElem?_cons_zero] <;> rfl
      case hQ29 => exact fun _ _ _ h => ResD.put (by decide) (by decide) h
      case hw29 => rfl
      case hy29 =>
        intro wS hSw
        obtain ⟨k0, k1, k2, k3, k4, k5, k6, y0, e4, e5, e6, e7, e8, e9, e10, e11, e12, e13, e14, e15⟩ := HCELL.out wS hSw
        go_simp
        first | done | with_reducible rfl | rfl
      simp only [Act.put, List.setIfInBounds_toArray, List.set_cons_zero, List.set_cons_succ]
      refine wpAnyH_take (i := 5) (oi := ?oi30) (v := ?v30) ?hi30 (by kernel_rfl) (by kernel_rfl) (by kernel_rfl) ?hQ30 (Or.inl ⟨?hw30, ?hy30⟩) hHeld ?rest30
      case hi30 =>
        simp only [List.getElem?_toArray, List.getElem?_cons_succ, List.getElem?_cons_zero] <;> rfl
      case hQ30 => exact fun _ _ _ h => ResD.put (by decide) (by decide) h
      case hw30 => rfl
      case hy30 =>
        intro wS hSw
        obtain ⟨k0, k1, k2, k3, k4, k5, k6, y0, e4, e5, e6, e7, e8, e9, e10, e11, e12, e13, e14, e15⟩ := HCELL.out wS hSw
        go_simp
        first | done | with_reducible rfl | rfl
      simp only [Act.put, List.setIfInBounds_toArray, List.set_cons_zero, List.set_cons_succ]
      refine wpAnyH_take (i := 6) (oi := ?oi31) (v := ?v31) ?hi31 (by kernel_rfl) (by kernel_rfl) (by kernel_rfl) ?hQ31 (Or.inl ⟨?hw31, ?hy31⟩) hHeld ?rest31
      case hi31 =>
        simp only [List.getElem?_toArray, List.getElem?_cons_succ, List.getElem?_cons_zero] <;> rfl
      case hQ31 => exact fun _ _ _ h => ResD.put (by decide) (by decide) h
      case hw31 => rfl
      case hy31 =>
        intro wS hSw
        obtain ⟨k0, k1, k2, k3, k4, k5, k6, y0, e4, e5, e6, e7, e8, e9, e10, e11, e12, e13, e14, e15⟩ := HCELL.out wS hSw
        go_simp
        first | done | with_reducible rfl | rfl
      simp only [Act.put, List.setIfInBounds_toArray, List.set_cons_zero, List.set_cons_succ]
      refine wpAnyH_take (i := 7) (oi := ?oi32) (v := ?v32) ?hi32 (by kernel_rfl) (by kernel_rfl) (by kernel_rfl) ?hQ32 (Or.inl ⟨?hw32, ?hy32⟩) hHeld ?rest32
      case hi32 =>
        simp only [List.getElem?_toArray, List.getElem?_cons_succ, List.getElem?_cons_zero] <;> rfl
      case hQ32 => exact fun _ _ _ h => ResD.put (by decide) (by decide) h
      case hw32 => rfl
      case hy32 =>
        intro wS hSw
        obtain ⟨k0, k1, k2, k3, k4, k5, k6, y0, e4, e5, e6, e7, e8, e9, e10, e11, e12, e13, e14, e15⟩ := HCELL.out wS hSw
        go_simp
        first | done | with_reducible rfl | rfl
      simp only [Act.put, List.setIfInBounds_toArray, List.set_cons_zero, List.set_cons_succ]
      refine wpAnyH_take (i := 8) (oi := ?oi33) (v := ?v33) ?hi33 (by kernel_rfl) (by kernel_rfl) (by kernel_rfl) ?hQ33 (Or.inl ⟨?hw33, ?hy33⟩) hHeld ?rest33
      case hi33 =>
        simp only [List.getElem?_toArray, List.getElem?_cons_succ, List.getElem?_cons_zero] <;> rfl
      case hQ33 => exact fun _ _ _ h => ResD.put (by decide) (by decide) h
      case hw33 => rfl
      case hy33 =>
        intro wS hSw
        obtain ⟨k0, k1, k2, k3, k4, k5, k6, y0, e4, e5, e6, e7, e8, e9, e10, e11, e12, e13, e14, e15⟩ := HCELL.out wS hSw
        go_simp
        first | done | with_reducible rfl | rfl
      simp only [Act.put, List.setIfInBounds_toArray, List.set_cons_zero, List.set_cons_succ]
      refine wpAnyH_take (i := 9) (oi := ?oi34) (v := ?v34) ?hi34 (by kernel_rfl) (by kernel_rfl) (by kernel_rfl) ?hQ34 (Or.inl ⟨?hw34, ?hy34⟩) hHeld ?rest34
      case hi34 =>
        simp only [List.getElem?_toArray, List.getElem?_cons_succ, List.getElem?_cons_zero] <;> rfl
      case hQ34 => exact fun _ _ _ h => ResD.put (by decide) (by decide) h
      case hw34 => rfl
      case hy34 =>
        intro wS hSw
        obtain ⟨k0, k1, k2, k3, k4, k5, k6, y0, e4, e5, e6, e7, e8, e9, e10, e11, e12, e13, e14, e15⟩ := HCELL.out wS hSw
        go_simp
        first | done | with_reducible rfl | rfl
      simp only [Act.put, List.setIfInBounds_toArray, List.set_cons_zero, List.set_cons_succ]
      refine wpAnyH_take (i := 10) (oi := ?oi35) (v := ?v35) ?hi35 (by kernel_rfl) (by kernel_rfl) (by kernel_rfl) ?hQ35 (Or.inl ⟨?hw35, ?hy35⟩) hHeld ?rest35
      case hi35 =>
        simp only [List.getElem?_toArray, List.getElem?_cons_succ, List.getElem?_cons_zero] <;> rfl
      case hQ35 => exact fun _ _ _ h => ResD.put (by decide) (by decide) h
      case hw35 => rfl
      case hy35 =>
        intro wS hSw
        obtain ⟨k0, k1, k2, k3, k4, k5, k6, y0, e4, e5, e6, e7, e8, e9, e10, e11, e12, e13, e14, e15⟩ := HCELL.out wS hSw
        go_simp
        first | done | with_reducible rfl | rfl
      simp only [Act.put, List.setIfInBounds_toArray, List.set_cons_zero, List.set_cons_succ]
      refine wpAnyH_take (i := 11) (oi := ?oi36) (v := ?v36) ?hi36 (by kernel_rfl) (by kernel_rfl) (by kernel_rfl) ?hQ36 (Or.inl ⟨?hw36, ?hy36⟩) hHeld ?rest36
      case hi36 =>
        simp only [List.getElem?_toArray, List.getElem?_cons_succ, List.getElem?_cons_zero] <;> rfl
      case hQ36 => exact fun _ _ _ h => ResD.put (by decide) (by decide) h
      case hw36 => rfl
      case hy36 =>
        intro wS hSw
        obtain ⟨k0, k1, k2, k3, k4, k5, k6, y0, e4, e5, e6, e7, e8, e9, e10, e11, e12, e13, e14, e15⟩ := HCELL.out wS hSw
        go_simp
        first | done | with_reducible rfl | rfl
      simp only [Act.put, List.setIfInBounds_toArray, List.set_cons_zero, List.set_cons_succ]
      refine wpAnyH_take (i := 12) (oi := ?oi37) (v := ?v37) ?hi37 (by kernel_rfl) (by kernel_rfl) (by kernel_rfl) ?hQ37 (Or.inl ⟨?hw37, ?hy37⟩) hHeld ?rest37
      case hi37 =>
        simp only [List.getElem?_toArray, List.getElem?_cons_succ, List.getElem?_cons_zero] <;> rfl
      case hQ37 => exact fun _ _ _ h => ResD.put (by decide) (by decide) h
      case hw37 => rfl
      case hy37 =>
        intro wS hSw
        obtain ⟨k0, k1, k2, k3, k4, k5, k6, y0, e4, e5, e6, e7, e8, e9, e10, e11, e12, e13, e14, e15⟩ := HCELL.out wS hSw
        go_simp
        first | done | with_reducible rfl | rfl
      simp only [Act.put, List.setIfInBounds_toArray, List.set_cons_zero, List.set_cons_succ]
      refine wpAnyH_take (i := 14) (oi := ?oi38) (v := ?v38) ?hi38 (by kernel_rfl) (by kernel_rfl) (by kernel_rfl) ?hQ38 (Or.inl ⟨?hw38, ?hy38⟩) hHeld ?rest38
      case hi38 =>
        simp only [List.getElem?_toArray, List.getElem?_cons_succ, List.getElem?_cons_zero] <;> rfl
      case hQ38 => exact fun _ _ _ h => ResD.put (by decide) (by decide) h
      case hw38 => rfl
      case hy38 =>
        intro wS hSw
        obtain ⟨k0, k1, k2, k3, k4, k5, k6, y0, e4, e5, e6, e7, e8, e9, e10, e11, e12, e13, e14, e15⟩ := HCELL.out wS hSw
        go_simp
        first | done | with_reducible rfl | rfl
      simp only [Act.put, List.setIfInBounds_toArray, List.set_cons_zero, List.set_cons_succ]
      refine wpAnyH_take (i := 15) (oi := ?oi39) (v := ?v39) ?hi39 (by kernel_rfl) (by kernel_rfl) (by kernel_rfl) ?hQ39 (Or.inl ⟨?hw39, ?hy39⟩) hHeld ?rest39
      case hi39 =>
        simp only [List.getElem?_toArray, List.getElem?_cons_succ, List.getElem?_cons_zero] <;> rfl
      case hQ39 => exact fun _ _ _ h => ResD.put (by decide) (by decide) h
      case hw39 => rfl
      case hy39 =>
        intro wS hSw
        obtain ⟨k0, k1, k2, k3, k4, k5, k6, y0, e4, e5, e6, e7, e8, e9, e10, e11, e12, e13, e14, e15⟩ := HCELL.out wS hSw
        go_simp
        first | done | with_reducible rfl | rfl
      simp only [Act.put, List.setIfInBounds_toArray, List.set_cons_zero, List.set_cons_succ]
      refine wpAnyH_take (i := 16) (oi := ?oi40) (v := ?v40) ?hi40 (by kernel_rfl) (by kernel_rfl) (by kernel_rfl) ?hQ40 (Or.inl ⟨?hw40, ?hy40⟩) hHeld ?rest40
      case hi40 =>
        simp only [List.getElem?_toArray, List.getElem?_cons_succ, List.getElem?_cons_zero] <;> rfl
      case hQ40 => exact fun _ _ _ h => ResD.put (by decide) (by decide) h
      case hw40 => rfl
      case hy40 =>
        intro wS hSw
        obtain ⟨k0, k1, k2, k3, k4, k5, k6, y0, e4, e5, e6, e7, e8, e9, e10, e11, e12, e13, e14, e15⟩ := HCELL.out wS hSw
        go_simp
        first | done | with_reducible rfl | rfl
      simp only [Act.put, List.setIfInBounds_toArray, List.set_cons_zero, List.set_cons_succ]
      refine wpAnyH_take (i := 17) (oi := ?oi41) (v := ?v41) ?hi41 (by kernel_rfl) (by kernel_rfl) (by kernel_rfl) ?hQ41 (Or.inl ⟨?hw41, ?hy41⟩) hHeld ?rest41
      case hi41 =>
        simp only [List.getElem?_toArray, List.getElem?_cons_succ, List.getElem?_cons_zero] <;> rfl
      case hQ41 => exact fun _ _ _ h => ResD.put (by decide) (by decide) h
      case hw41 => rfl
      case hy41 =>
        intro wS hSw
        obtain ⟨k0, k1, k2, k3, k4, k5, k6, y0, e4, e5, e6, e7, e8, e9, e10, e11, e12, e13, e14, e15⟩ := HCELL.out wS hSw
        go_simp
        first | done | with_reducible rfl | rfl
      simp only [Act.put, List.setIfInBounds_toArray, List.set_cons_zero, List.set_cons_succ]
      refine wpAnyH_take (i := 18) (oi := ?oi42) (v := ?v42) ?hi42 (by kernel_rfl) (by kernel_rfl) (by kernel_rfl) ?hQ42 (Or.inl ⟨?hw42, ?hy42⟩) hHeld ?rest42
      case hi42 =>
        simp only [List.getElem?_toArray, List.getElem?_cons_succ, List.getElem?_cons_zero] <;> rfl
      case hQ42 => exact fun _ _ _ h => ResD.put (by decide) (by decide) h
      case hw42 => rfl
      case hy42 =>
        intro wS hSw
        obtain ⟨k0, k1, k2, k3, k4, k5, k6, y0, e4, e5, e6, e7, e8, e9, e10, e11, e12, e13, e14, e15⟩ := HCELL.out wS hSw
        go_simp
        first | done | with_reducible rfl | rfl
      simp only [Act.put, List.setIfInBounds_toArray, List.set_cons_zero, List.set_cons_succ]
      refine wpAnyH_take (i := 19) (oi := ?oi43) (v := ?v43) ?hi43 (by kernel_rfl) (by kernel_rfl) (by kernel_rfl) ?hQ43 (Or.inl ⟨?hw43, ?hy43⟩) hHeld ?rest43
      case hi43 =>
        simp only [List.getElem?_toArray, List.getElem?_cons_succ, List.getElem?_cons_zero] <;> rfl
      case hQ43 => exact fun _ _ _ h => ResD.put (by decide) (by decide) h
      case hw43 => rfl
      case hy43 =>
        intro wS hSw
        obtain ⟨k0, k1, k2, k3, k4, k5, k6, y0, e4, e5, e6, e7, e8, e9, e10, e11, e12, e13, e14, e15⟩ := HCELL.out wS hSw
        go_simp
        first | done | with_reducible rfl | rfl
      simp only [Act.put, List.setIfInBounds_toArray, List.set_cons_zero, List.set_cons_succ]
      refine wpAnyH_take (i := 20) (oi := ?oi44) (v := ?v44) ?hi44 (by kernel_rfl) (by kernel_rfl) (by kernel_rfl) ?hQ44 (Or.inl ⟨?hw44, ?hy44⟩) hHeld ?rest44
      case hi44 =>
        simp only [List.getElem?_toArray, List.getElem?_cons_succ, List.getElem?_cons_zero] <;> rfl
      case hQ44 => exact fun _ _ _ h => ResD.put (by decide) (by decide) h
      case hw44 => rfl
      case hy44 =>
        intro wS hSw
        obtain ⟨k0, k1, k2, k3, k4, k5, k6, y0, e4, e5, e6, e7, e8, e9, e10, e11, e12, e13, e14, e15⟩ := HCELL.out wS hSw
        go_simp
        first | done | with_reducible rfl | rfl
      simp only [Act.put, List.setIfInBounds_toArray, List.set_cons_zero, List.set_cons_succ]
      cases hnn : x.need.res c.cs with
      | none =>
        refine wpAnyH_ready (rs := [13]) (by kernel_rfl) (by simp) ?_
        refine AllReadyH.cons rfl (fun K hK => ?_) AllReadyH.nil
        go_simp
        go_at_call 47
        refine (HRU1.out _ hHeld.1).mono ?_
        rw [hnn]
        rintro e w9 ⟨rfl, hE9⟩
        exact ⟨rfl, rfl, rfl, _, rfl, Cat.resN_name HA.out HON.out (nums_course HXM.out (by unfold resC; rw [hnn]; rfl)), hHeld.2.1.kpC hE9.kpC, hHeld.1.trans hE9⟩
      | some rn =>
        refine wpAnyH_ready (rs := [13]) (by kernel_rfl) (by simp) ?_
        refine AllReadyH.cons rfl (fun K hK => ?_) AllReadyH.nil
        go_simp
        go_at_call 47
        refine (HRU1.out _ hHeld.1).mono ?_
        rw [hnn]
        have HNN := Lib.hid hnn
        clear hnn
        rintro e w9 ⟨⟨a3, c3, rfl, hN9⟩, hE9⟩
        refine hK.out _ _ ⟨hHeld.1.trans hE9, hHeld.2.1.kpC hE9.kpC, hHeld.2.2.kpC hE9.kpC⟩ (fun hHeld => ?_)
        clear hK K
        have HN9 := Lib.hid hN9
        have HE9 := Lib.hid ((Ext.refl wr).drew.trans hE9)
        clear hN9 hE9
        unfold Rt.cells
        try simp only [Act.put]
        cases hbb : x.bar.res c.cs with
        | none =>
          refine wpAnyH_ready (rs := [21]) (by kernel_rfl) (by simp) ?_
          refine AllReadyH.cons rfl (fun K hK => ?_) AllReadyH.nil
          go_simp
          go_at_call 47
          refine (HRU2.out _ hHeld.1).mono ?_
          rw [hbb]
          rintro e w10 ⟨rfl, hE10⟩
          exact ⟨rfl, rfl, rfl, _, rfl, Cat.resN_name HA.out HON.out (nums_course HXM.out (by unfold resC; rw [HNN.out, hbb]; rfl)), hHeld.2.1.kpC hE10.kpC, hHeld.1.trans hE10⟩
        | some rb =>
          refine wpAnyH_ready (rs := [21]) (by kernel_rfl) (by simp) ?_
          refine AllReadyH.cons rfl (fun K hK => ?_) AllReadyH.nil
          go_simp
          go_at_call 47
          refine (HRU2.out _ hHeld.1).mono ?_
          rw [hbb]
          have HBB := Lib.hid hbb
          clear hbb
          rintro e w10 ⟨⟨a4, c4, rfl, hN10⟩, hE10⟩
          refine hK.out _ _ ⟨hHeld.1.trans hE10, hHeld.2.1.kpC hE10.kpC, hHeld.2.2.kpC hE10.kpC⟩ (fun hHeld => ?_)
          clear hK K
          have HN10 := Lib.hid hN10
          have HE10 := Lib.hid hE10
          have HROW10 := Lib.hid ((HROW.out.kpC HE9.out.kpC).kpC HE10.out.kpC)
          clear hN10 hE10
          unfold Rt.cells
          try simp only [Act.put]
          refine wpAnyH_take (i := 22) (oi := ?oi45) (v := ?v45) ?hi45 (by kernel_rfl) (by kernel_rfl) (by kernel_rfl) ?hQ45 (Or.inl ⟨?hw45, ?hy45⟩) hHeld ?rest45
          case hi45 =>
            simp only [List.getElem?_toArray, List.getElem?_cons_succ, List.getElem?_cons_zero] <;> rfl
          case hQ45 => exact fun _ _ _ h => ResD.put (by decide) (by decide) h
          case hw45 => rfl
          case hy45 =>
            intro wS hSw
            obtain ⟨k0, k1, k2, k3, k4, k5, k6, y0, e4, e5, e6, e7, e8, e9, e10, e11, e12, e13, e14, e15⟩ := HCELL.out wS hSw
            go_simp
            first | done | with_reducible rfl | rfl
          simp only [Act.put, List.setIfInBounds_toArray, List.set_cons_zero, List.set_cons_succ]
          refine wpAnyH_take (i := 23) (oi := ?oi46) (v := ?v46) ?hi46 (by kernel_rfl) (by kernel_rfl) (by kernel_rfl) ?hQ46 (Or.inl ⟨?hw46, ?hy46⟩) hHeld ?rest46
          case hi46 =>
            simp only [List.getElem?_toArray, List.getElem?_cons_succ, List.getElem?_cons_zero] <;> rfl
          case hQ46 => exact fun _ _ _ h => ResD.put (by decide) (by decide) h
          case hw46 => rfl
          case hy46 =>
            intro wS hSw
            obtain ⟨k0, k1, k2, k3, k4, k5, k6, y0, e4, e5, e6, e7, e8, e9, e10, e11, e12, e13, e14, e15⟩ := HCELL.out wS hSw
            go_simp
            first | done | with_reducible rfl | rfl
          simp only [Act.put, List.setIfInBounds_toArray, List.set_cons_zero, List.set_cons_succ]
          refine wpAnyH_ready (rs := [24]) (by kernel_rfl) (by simp) ?_
          refine AllReadyH.cons rfl (fun K hK => ?_) AllReadyH.nil
          rw [if_pos (by rfl)]
          have hbd : m * 16 + 16 ≤ ((rows' ++ rows.drop m).flatten ++ rest).length := by
            have h1 := HGD.out.2.1
            have h2 := HGD.out.2.2.1
            rw [h1]
            omega
          refine wp_store_mid _ _ _ rfl g (m * 16 + 4) _ rfl rfl (HROW10.out.there (by show m * 16 + 4 + 6 ≤ _; omega)) (by kernel_rfl) (by simp [Value.oneCell']) ?_
          have hgr1 := setCells_grown g [Value.int .i64 rn.op, Value.int .i64 rn.co, Value.string rn.nm, Value.int .i64 rn.n, Value.int .i64 rn.d, Value.slice a3 rn.kids.length c3] w10 (m * 16 + 4)
          have hRowA := HROW10.out.set (vs := [Value.int .i64 rn.op, Value.int .i64 rn.co, Value.string rn.nm, Value.int .i64 rn.n, Value.int .i64 rn.d, Value.slice a3 rn.kids.length c3]) (o := m * 16 + 4) (by show m * 16 + 4 + 6 ≤ _; omega)
          rw [flat_set (k := 16) (j := 4) (by simp) _ m _ HMID.out HWDT.out] at hRowA
          have hg3 : w.heap.size + 2 < g := by have h1 := HGD.out.1; have h2 := HWD.out; omega
          have hYg : Y ≠ g := by have h1 := HGD.out.1; have h2 := HYD.out; omega
          refine hK.out _ _ ⟨Below.grown hHeld.1 hgr1 hHeld.1.size (fun x hx => by cases hx; omega), hHeld.2.1.kpE (grown_kpE hgr1) hg3, hHeld.2.2.kpE (grown_kpE hgr1) hYg⟩ (fun hHeld => ?_)
          clear hK K
          have HGR1 := Lib.hid hgr1
          have HRA := Lib.hid hRowA
          clear hgr1 hRowA
          change wpAnyH _ _ _ _ _ _ _ _ (w10.setCells g (m * 16 + 4) [Value.int .i64 rn.op, Value.int .i64 rn.co, Value.string rn.nm, Value.int .i64 rn.n, Value.int .i64 rn.d, Value.slice a3 rn.kids.length c3])
          generalize w10.setCells g (m * 16 + 4) [Value.int .i64 rn.op, Value.int .i64 rn.co, Value.string rn.nm, Value.int .i64 rn.n, Value.int .i64 rn.d, Value.slice a3 rn.kids.length c3] = w11 at *
          try simp only [Act.put]
          refine wpAnyH_take (i := 25) (oi := ?oi47) (v := ?v47) ?hi47 (by kernel_rfl) (by kernel_rfl) (by kernel_rfl) ?hQ47 (Or.inl ⟨?hw47, ?hy47⟩) hHeld ?rest47
          case hi47 =>
            simp only [List.getElem?_toArray, List.getElem?_cons_succ, List.getElem?_cons_zero] <;> rfl
          case hQ47 => exact fun _ _ _ h => ResD.put (by decide) (by decide) h
          case hw47 => rfl
          case hy47 =>
            intro wS hSw
            obtain ⟨k0, k1, k2, k3, k4, k5, k6, y0, e4, e5, e6, e7, e8, e9, e10, e11, e12, e13, e14, e15⟩ := HCELL.out wS hSw
            go_simp
            first | done | with_reducible rfl | rfl
          simp only [Act.put, List.setIfInBounds_toArray]
          refine wpAnyH_take (i := 26) (oi := ?oi48) (v := ?v48) ?hi48 (by kernel_rfl) (by kernel_rfl) (by kernel_rfl) ?hQ48 (Or.inl ⟨?hw48, ?hy48⟩) hHeld ?rest48
          case hi48 =>
            simp only [List.getElem?_toArray, List.getElem?_cons_succ, List.getElem?_cons_zero] <;> rfl
          case hQ48 => exact fun _ _ _ h => ResD.put (by decide) (by decide) h
          case hw48 => rfl
          case hy48 =>
            intro wS hSw
            obtain ⟨k0, k1, k2, k3, k4, k5, k6, y0, e4, e5, e6, e7, e8, e9, e10, e11, e12, e13, e14, e15⟩ := HCELL.out wS hSw
            go_simp
            first | done | with_reducible rfl | rfl
          simp only [Act.put]
          refine wpAnyH_ready (rs := [27]) (by kernel_rfl) (by simp) ?_
          refine AllReadyH.cons rfl (fun K hK => ?_) AllReadyH.nil
          rw [if_pos (by rfl)]
          have HLA := Lib.hid hbd
          have hlenA : ((rows' ++ rows.drop m).set m ((x.cells q1 q2 q3 q4).take 4 ++ [Value.int .i64 rn.op, Value.int .i64 rn.co, Value.string rn.nm, Value.int .i64 rn.n, Value.int .i64 rn.d, Value.slice a3 rn.kids.length c3] ++ (x.cells q1 q2 q3 q4).drop (4 + [Value.int .i64 rn.op, Value.int .i64 rn.co, Value.string rn.nm, Value.int .i64 rn.n, Value.int .i64 rn.d, Value.slice a3 rn.kids.length c3].length))).flatten.length = (rows' ++ rows.drop m).flatten.length := by
            have h1 := flat_len _ HWDT.out
            have h2 := flat_len (size := 16) ((rows' ++ rows.drop m).set m ((x.cells q1 q2 q3 q4).take 4 ++ [Value.int .i64 rn.op, Value.int .i64 rn.co, Value.string rn.nm, Value.int .i64 rn.n, Value.int .i64 rn.d, Value.slice a3 rn.kids.length c3] ++ (x.cells q1 q2 q3 q4).drop (4 + [Value.int .i64 rn.op, Value.int .i64 rn.co, Value.string rn.nm, Value.int .i64 rn.n, Value.int .i64 rn.d, Value.slice a3 rn.kids.length c3].length))) (fun q hq => by
              rcases List.mem_or_eq_of_mem_set hq with hq | rfl
              · exact HWDT.out q hq
              · rfl)
            rw [h1, h2, List.length_set]
          have hbd2 : m * 16 + 16 ≤ (((rows' ++ rows.drop m).set m ((x.cells q1 q2 q3 q4).take 4 ++ [Value.int .i64 rn.op, Value.int .i64 rn.co, Value.string rn.nm, Value.int .i64 rn.n, Value.int .i64 rn.d, Value.slice a3 rn.kids.length c3] ++ (x.cells q1 q2 q3 q4).drop (4 + [Value.int .i64 rn.op, Value.int .i64 rn.co, Value.string rn.nm, Value.int .i64 rn.n, Value.int .i64 rn.d, Value.slice a3 rn.kids.length c3].length))).flatten ++ rest).length := by
            rw [List.length_append] at hbd ⊢
            rw [hlenA]
            exact hbd
          refine wp_store_mid _ _ _ rfl g (m * 16 + 10) _ rfl rfl (HRA.out.there (by show m * 16 + 10 + 6 ≤ _; omega)) (by kernel_rfl) (by simp [Value.oneCell']) ?_
          have hgr2 := setCells_grown g [Value.int .i64 rb.op, Value.int .i64 rb.co, Value.string rb.nm, Value.int .i64 rb.n, Value.int .i64 rb.d, Value.slice a4 rb.kids.length c4] w11 (m * 16 + 10)
          have hRowB := HRA.out.set (vs := [Value.int .i64 rb.op, Value.int .i64 rb.co, Value.string rb.nm, Value.int .i64 rb.n, Value.int .i64 rb.d, Value.slice a4 rb.kids.length c4]) (o := m * 16 + 10) (by show m * 16 + 10 + 6 ≤ _; omega)
          have hm2 : m < (rows' ++ rows.drop m).length := (List.getElem?_eq_some_iff.1 HMID.out).1
          rw [flat_set (k := 16) (j := 10) (by simp) _ m _ (List.getElem?_set_self hm2) (fun q hq => by
              rcases List.mem_or_eq_of_mem_set hq with hq | rfl
              · exact HWDT.out q hq
              · rfl), List.set_set, drop_at HCC.out, set_mid HP1.out.2.2.1] at hRowB
          replace hRowB : Row (w11.setCells g (m * 16 + 10) [Value.int .i64 rb.op, Value.int .i64 rb.co, Value.string rb.nm, Value.int .i64 rb.n, Value.int .i64 rb.d, Value.slice a4 rb.kids.length c4]) g 41 ((rows' ++ [x.head ++ [Value.int .i64 rn.op, Value.int .i64 rn.co, Value.string rn.nm, Value.int .i64 rn.n, Value.int .i64 rn.d, Value.slice a3 rn.kids.length c3] ++ [Value.int .i64 rb.op, Value.int .i64 rb.co, Value.string rb.nm, Value.int .i64 rb.n, Value.int .i64 rb.d, Value.slice a4 rb.kids.length c4]] ++ rows.drop (m + 1)).flatten ++ rest) := hRowB
          refine hK.out _ _ ⟨Below.grown hHeld.1 hgr2 hHeld.1.size (fun x hx => by cases hx; omega), hHeld.2.1.kpE (grown_kpE hgr2) hg3, hHeld.2.2.kpE (grown_kpE hgr2) hYg⟩ (fun hHeld => ?_)
          clear hK K
          have hkeep : KpE g w10 (w11.setCells g (m * 16 + 10) [Value.int .i64 rb.op, Value.int .i64 rb.co, Value.string rb.nm, Value.int .i64 rb.n, Value.int .i64 rb.d, Value.slice a4 rb.kids.length c4]) := (grown_kpE HGR1.out).trans (grown_kpE hgr2)
          have hkr : KpC wr w10 := HE9.out.kpC.trans HE10.out.kpC
          have hsz := HB1.out.1
          have hgw := HGW.out
          have hN1 : RepN W.heap.size (w11.setCells g (m * 16 + 10) [Value.int .i64 rb.op, Value.int .i64 rb.co, Value.string rb.nm, Value.int .i64 rb.n, Value.int .i64 rb.d, Value.slice a4 rb.kids.length c4]) rn [Value.int .i64 rn.op, Value.int .i64 rn.co, Value.string rn.nm, Value.int .i64 rn.n, Value.int .i64 rn.d, Value.slice a3 rn.kids.length c3] := ((HN9.out.mono hsz).kpC HE10.out.kpC).kpE hkeep hgw
          have hN2 : RepN W.heap.size (w11.setCells g (m * 16 + 10) [Value.int .i64 rb.op, Value.int .i64 rb.co, Value.string rb.nm, Value.int .i64 rb.n, Value.int .i64 rb.d, Value.slice a4 rb.kids.length c4]) rb [Value.int .i64 rb.op, Value.int .i64 rb.co, Value.string rb.nm, Value.int .i64 rb.n, Value.int .i64 rb.d, Value.slice a4 rb.kids.length c4] := (HN10.out.mono (Nat.le_trans hsz HE9.out.size)).kpE hkeep hgw
          have HFIN := Lib.hid (And.intro hHeld (And.intro hkeep (And.intro hN1 (And.intro hN2 hRowB))))
          clear hkeep hN1 hN2 hRowB hgr2 hHeld hbd2 hlenA hbd
          change wpAnyH _ _ _ _ _ _ _ _ (w11.setCells g (m * 16 + 10) [Value.int .i64 rb.op, Value.int .i64 rb.co, Value.string rb.nm, Value.int .i64 rb.n, Value.int .i64 rb.d, Value.slice a4 rb.kids.length c4])
          generalize w11.setCells g (m * 16 + 10) [Value.int .i64 rb.op, Value.int .i64 rb.co, Value.string rb.nm, Value.int .i64 rb.n, Value.int .i64 rb.d, Value.slice a4 rb.kids.length c4] = w12 at *
          try simp only [Act.put]
          refine wpAnyH_done (by kernel_rfl) ?_ _
          go_wp2_with fail
          go_roundw
          case rel =>
            refine ⟨m + 1, cs' ++ [{ x with need := rn, bar := rb }], rows' ++ [x.head ++ [Value.int .i64 rn.op, Value.int .i64 rn.co, Value.string rn.nm, Value.int .i64 rn.n, Value.int .i64 rn.d, Value.slice a3 rn.kids.length c3] ++ [Value.int .i64 rb.op, Value.int .i64 rb.co, Value.string rb.nm, Value.int .i64 rb.n, Value.int .i64 rb.d, Value.slice a4 rb.kids.length c4]], by go_num, by omega, HFIN.out.1.2.1, HFIN.out.1.1, HFIN.out.1.2.2, ?_, ?_, ?_, ?_, ?_, ?_⟩
            · exact (HB1.out.trans hkr.kpB).trans (KpE.kpB (a := ⟨g, 0, none⟩) HFIN.out.2.1)
            · refine HFIN.out.2.2.2.2.own (fun q hq => ?_) ?_ HGD.out.2.2.1 HGD.out.2.2.2 ?_ HGD.out.1
              · rcases List.mem_append.1 hq with hq | hq
                · rcases List.mem_append.1 hq with hq | hq
                  · exact HWDT.out q (List.mem_append_left _ hq)
                  · obtain rfl := List.mem_singleton.1 hq; rfl
                · exact HRW.out q (List.mem_of_mem_drop hq)
              · rw [List.length_append, List.length_append, HP1.out.2.2.1, List.length_drop, HRL.out, List.length_singleton]; omega
              · have h1 := HGD.out.2.1
                rw [← h1, List.length_append, List.length_append]
                congr 1
                rw [flat_len _ HWDT.out, flat_len (size := 16) (rows' ++ [x.head ++ [Value.int .i64 rn.op, Value.int .i64 rn.co, Value.string rn.nm, Value.int .i64 rn.n, Value.int .i64 rn.d, Value.slice a3 rn.kids.length c3] ++ [Value.int .i64 rb.op, Value.int .i64 rb.co, Value.string rb.nm, Value.int .i64 rb.n, Value.int .i64 rb.d, Value.slice a4 rb.kids.length c4]] ++ rows.drop (m + 1)) (fun q hq => by
                  rcases List.mem_append.1 hq with hq | hq
                  · rcases List.mem_append.1 hq with hq | hq
                    · exact HWDT.out q (List.mem_append_left _ hq)
                    · obtain rfl := List.mem_singleton.1 hq; rfl
                  · exact HRW.out q (List.mem_of_mem_drop hq))]
                simp only [List.length_append, List.length_drop, HP1.out.2.2.1, HRL.out, List.length_singleton]
                omega
            · rw [take_snoc' HXM.out]
              exact travO_snoc HP1.out.1 (by unfold resC; rw [HNN.out, HBB.out]; rfl)
            · rw [List.length_append, HP1.out.2.1]; rfl
            · rw [List.length_append, HP1.out.2.2.1]; rfl
            · intro i z q hz hq
              by_cases hi : i < m
              · rw [List.getElem?_append_left (by rw [HP1.out.2.1]; exact hi)] at hz
                rw [List.getElem?_append_left (by rw [HP1.out.2.2.1]; exact hi)] at hq
                exact ((HP1.out.2.2.2 i z q hz hq).kpC hkr).kpE HFIN.out.2.1 hgw
              · rw [List.getElem?_append_right (by rw [HP1.out.2.1]; omega), HP1.out.2.1] at hz
                rw [List.getElem?_append_right (by rw [HP1.out.2.2.1]; omega), HP1.out.2.2.1] at hq
                have hi0 : i - m = 0 := by
                  have := (List.getElem?_eq_some_iff.1 hz).1
                  rw [List.length_singleton] at this
                  omega
                rw [hi0] at hz hq
                cases hz
                cases hq
                exact ⟨[Value.int .i64 rn.op, Value.int .i64 rn.co, Value.string rn.nm, Value.int .i64 rn.n, Value.int .i64 rn.d, Value.slice a3 rn.kids.length c3], [Value.int .i64 rb.op, Value.int .i64 rb.co, Value.string rb.nm, Value.int .i64 rb.n, Value.int .i64 rb.d, Value.slice a4 rb.kids.length c4], rfl, HFIN.out.2.2.1, HFIN.out.2.2.2.1, HOX.out⟩
          case measure => simp [intOf] <;> omega
    · have hki : ¬ (m : Int) < (c.cs.length : Int) := by omega
      obtain rfl : m = c.cs.length := by omega
      rw [List.drop_of_length_le (by rw [HRL.out]; exact Nat.le_refl _), List.append_nil] at HO1
      rw [List.take_length] at HP1
      clear hV hE hY hB hO hP
      go_wp2_with fail
      exact ⟨rfl, ⟨_, _, _, _, _, _, _, _, _, _, _, _, _, _, _, _, _, _, _, _, _, _, _, _, _, _, _, _, _, _, _, rfl⟩, HV1.out, HE1.out, HY1.out, HB1.out, cs', HP1.out.1, rows', HP1.out.2.2.1, HP1.out.2.2.2, HO1.out⟩
end Go.Proofs.Ytimigpfoflilcaa

/- Names: Resolve, its end: Order and the way out. -/
import Derived.Test.YtimigpfoflilcaaYV
namespace Go.Proofs.Ytimigpfoflilcaa
open Go.RowKit Go.Sz
noncomputable def sndN : Nat → Code → Code
  | 0, c => c
  | n + 1, .seq _ b => sndN n b
  | _ + 1, _ => .skip
noncomputable def tlR (k : Nat) : Code := sndN k (Try.f12.body.getD .skip)
set_option maxRecDepth 1000000 in
set_option maxHeartbeats 6400000 in
theorem tail16 (c y : Cat) (hk : c.Ok) (d dy : Adr) (w W : World) (hX : RepX w d c) (hV : ResV W w.heap.size 29 32 (c.cells d)) (hE : Ext w W) (ha : c.arg = false) (ho : c.once) (hn : c.nums = some y) (Y : Nat) (hY : Row W Y 29 (y.cells dy)) (hwY : w.heap.size + 3 ≤ Y)
    (hR : ∀ V, Ext w V → (∀ (b : Nat) (o : Obj), w.heap.size + 3 ≤ b → W.heap[b]? = some o → o.isCells = true → V.heap[b]? = some o) → RepX V dy y) (x0 x4 x5 x6 x7 x8 x9 x11 x12 x13 x14 x15 x16 x17 x18 x19 x20 x21 x22 x23 x24 x25 x26 x27 x28 x29 x30 x31 x32 x33 x34 x35 x36 x37 x38 x39 x40 x41 x42 x43 x44 x45 x46 x47 x48 x49 x50 x51 x52 x53 x54 x55 x56 x57 x58 x59 x60 x61 x62 x63 x64 x65 x66 x67 x68 x69 x70 x71 x72 x73 x74 x75 x76 x77 x78 x79 x80 x81 x82 x83 x84 x85 x86 x87 x88 x89 x90 x91 x92 x93 x94 x95 x96 x97 x98 x99 x100 x101 x102 x103 x104 x105 x106 x107 x108 x109 x110 x111 x112 x113 x114 x115 x116 x117 x118 x119 x120 x121 x122 x123 x124 x125 x126 x127 x128 x129 x130 x131 x132 x133 x134 x135 x136 x137 x138 x139 x140 x141 x142 x143 x144 x145 x146 x147 x148 x149 x150 x151 x152 x153 x154 x155 x156 x157 x158 x159 x160 x161 x162 x163 x164 x165 x166 x167 x168 x169 x170 x171 x172 x173 x174 x175 x176 x177 x178 x179 x180 x181 x182 x183 x184 x185 x186 x187 x188 x189 x190 x191 x192 x193 x194 x195 x196 x197 x198 x199 x200 x201 x202 x203 x204 x205 x206 x207 x208 x209 x210 x211 x212 x213 x214 x215 x216 x217 x218 x219 x220 x221 x222 x223 : Value) :
    Code.wp Try.prog (tlR 16) (bodyPostD Try.prog Try.f12 (resPost c w)) { tmps := (x0 :: (.pointer (some ⟨w.heap.size, 0, none⟩)) :: (.pointer (some ⟨w.heap.size + 1, 0, none⟩)) :: (.pointer (some ⟨w.heap.size + 2, 0, none⟩)) :: x4 :: x5 :: x6 :: x7 :: x8 :: x9 :: (.pointer (some ⟨Y, 0, none⟩)) :: x11 :: x12 :: x13 :: x14 :: x15 :: x16 :: x17 :: x18 :: x19 :: x20 :: x21 :: x22 :: x23 :: x24 :: x25 :: x26 :: x27 :: x28 :: x29 :: x30 :: x31 :: x32 :: x33 :: x34 :: x35 :: x36 :: x37 :: x38 :: x39 :: x40 :: x41 :: x42 :: x43 :: x44 :: x45 :: x46 :: x47 :: x48 :: x49 :: x50 :: x51 :: x52 :: x53 :: x54 :: x55 :: x56 :: x57 :: x58 :: x59 :: x60 :: x61 :: x62 :: x63 :: x64 :: x65 :: x66 :: x67 :: x68 :: x69 :: x70 :: x71 :: x72 :: x73 :: x74 :: x75 :: x76 :: x77 :: x78 :: x79 :: x80 :: x81 :: x82 :: x83 :: x84 :: x85 :: x86 :: x87 :: x88 :: x89 :: x90 :: x91 :: x92 :: x93 :: x94 :: x95 :: x96 :: x97 :: x98 :: x99 :: x100 :: x101 :: x102 :: x103 :: x104 :: x105 :: x106 :: x107 :: x108 :: x109 :: x110 :: x111 :: x112 :: x113 :: x114 :: x115 :: x116 :: x117 :: x118 :: x119 :: x120 :: x121 :: x122 :: x123 :: x124 :: x125 :: x126 :: x127 :: x128 :: x129 :: x130 :: x131 :: x132 :: x133 :: x134 :: x135 :: x136 :: x137 :: x138 :: x139 :: x140 :: x141 :: x142 :: x143 :: x144 :: x145 :: x146 :: x147 :: x148 :: x149 :: x150 :: x151 :: x152 :: x153 :: x154 :: x155 :: x156 :: x157 :: x158 :: x159 :: x160 :: x161 :: x162 :: x163 :: x164 :: x165 :: x166 :: x167 :: x168 :: x169 :: x170 :: x171 :: x172 :: x173 :: x174 :: x175 :: x176 :: x177 :: x178 :: x179 :: x180 :: x181 :: x182 :: x183 :: x184 :: x185 :: x186 :: x187 :: x188 :: x189 :: x190 :: x191 :: x192 :: x193 :: x194 :: x195 :: x196 :: x197 :: x198 :: x199 :: x200 :: x201 :: x202 :: x203 :: x204 :: x205 :: x206 :: x207 :: x208 :: x209 :: x210 :: x211 :: x212 :: x213 :: x214 :: x215 :: x216 :: x217 :: x218 :: x219 :: x220 :: x221 :: x222 :: x223 :: []).toArray, defers := dfR w.heap.size } W := by
  conv => arg 2; whnf
  have HC := Lib.hid (order_any c.cs (by have := hk.n0; omega) d.a0 d.k0 (.slice d.a1 c.sm.length d.k1) (.slice d.a2 c.pg.length d.k2) (.slice d.a3 c.kl.length d.k3) (.slice d.a4 c.fe.length d.k4) (.slice d.a5 c.ho.length d.k5) (.slice d.a6 c.cu.length d.k6) W (hX.cs.ext hE))
  have HV := Lib.hid hV
  have HE := Lib.hid hE
  have HY := Lib.hid hY
  have HR := Lib.hid hR
  have HAON := Lib.hid (And.intro ha (And.intro ho hn))
  have HWY := Lib.hid hwY
  have c0 := hV.1.cell (j := 0) rfl
  have c1 := hV.1.cell (j := 1) rfl
  have c2 := hV.1.cell (j := 2) rfl
  have c3 := hV.1.cell (j := 3) rfl
  have c4 := hV.1.cell (j := 4) rfl
  have c5 := hV.1.cell (j := 5) rfl
  have c6 := hV.1.cell (j := 6) rfl
  clear hX hV hE hk ha ho hn hY hR hwY
  go_wp2_with fail
  clear c0 c1 c2 c3 c4 c5 c6
  refine HC.out.mono ?_
  rintro e w2 ⟨ao, cap, rfl, -, hE2⟩
  have HE2 := Lib.hid hE2
  clear hE2 HC
  by_cases hl : (listedN c.cs).1.length < c.cs.length
  · have hle : ordE c.cs = 112 := by unfold ordE; rw [if_pos hl]
    rw [hle]
    go_wp2_with fail
    refine (demand_f _ _ _ (by simp)).mono ?_
    rintro e w7 ⟨rfl, rfl⟩
    exact res_dies (Cat.resN_cycle HAON.out.1 HAON.out.2.1 HAON.out.2.2 hl) rfl rfl rfl (HV.out.kpC HE2.out.kpC) (HE.out.trans HE2.out)
  · have hle : ordE c.cs = 0 := by unfold ordE; rw [if_neg hl]
    rw [hle]
    have HL := Lib.hid hl
    clear hle hl
    go_wp2_with fail
    refine (demand_t _ _ _ (by simp)).mono ?_
    rintro e w7 ⟨rfl, rfl⟩
    have hY2 := HY.out.kpC HE2.out.kpC
    have hV2 := HV.out.kpC HE2.out.kpC
    have HV2 := Lib.hid hV2
    have y0 := hY2.cell (j := 0) rfl
    have y1 := hY2.cell (j := 1) rfl
    have y2 := hY2.cell (j := 2) rfl
    have y3 := hY2.cell (j := 3) rfl
    have y4 := hY2.cell (j := 4) rfl
    have y5 := hY2.cell (j := 5) rfl
    have y6 := hY2.cell (j := 6) rfl
    have r0 := hV2.2.1.cell (j := 0) rfl
    have r1 := hV2.2.1.cell (j := 1) rfl
    have r2 := hV2.2.1.cell (j := 2) rfl
    have r3 := hV2.2.1.cell (j := 3) rfl
    have r4 := hV2.2.1.cell (j := 4) rfl
    have r5 := hV2.2.1.cell (j := 5) rfl
    have r6 := hV2.2.1.cell (j := 6) rfl
    have f0 := hV2.2.1.froz 0
    have f1 := hV2.2.1.froz 1
    have f2 := hV2.2.1.froz 2
    have f3 := hV2.2.1.froz 3
    have f4 := hV2.2.1.froz 4
    have f5 := hV2.2.1.froz 5
    have f6 := hV2.2.1.froz 6
    have g0 := hV2.2.2.cell (j := 0) rfl
    have h0 := hV2.2.2.froz 0
    clear hV2 hY2
    go_wp2_with fail
    have hRA : Row (World.setCells w2 (w.heap.size + 1) 0 (y.cells dy)) (w.heap.size + 1) 29 (y.cells dy) := Row.set (vs := y.cells dy) (o := 0) HV2.out.2.1 (Nat.le_refl 7)
    have hg1 := setCells_grown (w.heap.size + 1) (y.cells dy) w2 0
    have hk1 := grown_kpE hg1
    have hE3 : Ext w (World.setCells w2 (w.heap.size + 1) 0 (y.cells dy)) := Below.grown (HE.out.trans HE2.out) hg1 (HE.out.trans HE2.out).size (fun x hx => by cases hx; omega)
    have hg2 := setCell_grown (World.setCells w2 (w.heap.size + 1) 0 (y.cells dy)) (w.heap.size + 2) 0 (.int .i64 0)
    have hk2 := grown_kpE hg2
    have hE4 : Ext w ((World.setCells w2 (w.heap.size + 1) 0 (y.cells dy)).setCell ⟨w.heap.size + 2, 0, none⟩ (.int .i64 0)) := Below.grown hE3 hg2 hE3.size (fun x hx => by cases hx; omega)
    have hRB := hRA.kpE hk2 (by omega)
    have hZ : Row ((World.setCells w2 (w.heap.size + 1) 0 (y.cells dy)).setCell ⟨w.heap.size + 2, 0, none⟩ (.int .i64 0)) (w.heap.size + 2) 32 [.int .i64 0] := (HV2.out.2.2.kpE hk1 (by omega)).set1 0 (.int .i64 0)
    have hRX := HR.out _ hE4 (fun b o hb h1 h2 => hk2.2 b o (by omega) (hk1.2 b o (by omega) (HE2.out.kpC.2 b o h1 h2) h2) h2)
    clear y0 y1 y2 y3 y4 y5 y6 r0 r1 r2 r3 r4 r5 r6 f0 f1 f2 f3 f4 f5 f6 g0 h0 hRA hg1 hk1 hE3 hg2 hk2
    change Row (((((((((w2.setCell ⟨w.heap.size + 1, 0, none⟩ (.slice dy.a0 y.cs.length dy.k0)).setCell ⟨w.heap.size + 1, 1, none⟩ (.slice dy.a1 y.sm.length dy.k1)).setCell ⟨w.heap.size + 1, 2, none⟩ (.slice dy.a2 y.pg.length dy.k2)).setCell ⟨w.heap.size + 1, 3, none⟩ (.slice dy.a3 y.kl.length dy.k3)).setCell ⟨w.heap.size + 1, 4, none⟩ (.slice dy.a4 y.fe.length dy.k4)).setCell ⟨w.heap.size + 1, 5, none⟩ (.slice dy.a5 y.ho.length dy.k5)).setCell ⟨w.heap.size + 1, 6, none⟩ (.slice dy.a6 y.cu.length dy.k6)).setCell ⟨w.heap.size + 2, 0, none⟩ (.int .i64 0))) _ _ _ at hRB hZ
    change Ext w (((((((((w2.setCell ⟨w.heap.size + 1, 0, none⟩ (.slice dy.a0 y.cs.length dy.k0)).setCell ⟨w.heap.size + 1, 1, none⟩ (.slice dy.a1 y.sm.length dy.k1)).setCell ⟨w.heap.size + 1, 2, none⟩ (.slice dy.a2 y.pg.length dy.k2)).setCell ⟨w.heap.size + 1, 3, none⟩ (.slice dy.a3 y.kl.length dy.k3)).setCell ⟨w.heap.size + 1, 4, none⟩ (.slice dy.a4 y.fe.length dy.k4)).setCell ⟨w.heap.size + 1, 5, none⟩ (.slice dy.a5 y.ho.length dy.k5)).setCell ⟨w.heap.size + 1, 6, none⟩ (.slice dy.a6 y.cu.length dy.k6)).setCell ⟨w.heap.size + 2, 0, none⟩ (.int .i64 0))) at hE4
    change RepX (((((((((w2.setCell ⟨w.heap.size + 1, 0, none⟩ (.slice dy.a0 y.cs.length dy.k0)).setCell ⟨w.heap.size + 1, 1, none⟩ (.slice dy.a1 y.sm.length dy.k1)).setCell ⟨w.heap.size + 1, 2, none⟩ (.slice dy.a2 y.pg.length dy.k2)).setCell ⟨w.heap.size + 1, 3, none⟩ (.slice dy.a3 y.kl.length dy.k3)).setCell ⟨w.heap.size + 1, 4, none⟩ (.slice dy.a4 y.fe.length dy.k4)).setCell ⟨w.heap.size + 1, 5, none⟩ (.slice dy.a5 y.ho.length dy.k5)).setCell ⟨w.heap.size + 1, 6, none⟩ (.slice dy.a6 y.cu.length dy.k6)).setCell ⟨w.heap.size + 2, 0, none⟩ (.int .i64 0))) _ _ at hRX
    generalize (((((((((w2.setCell ⟨w.heap.size + 1, 0, none⟩ (.slice dy.a0 y.cs.length dy.k0)).setCell ⟨w.heap.size + 1, 1, none⟩ (.slice dy.a1 y.sm.length dy.k1)).setCell ⟨w.heap.size + 1, 2, none⟩ (.slice dy.a2 y.pg.length dy.k2)).setCell ⟨w.heap.size + 1, 3, none⟩ (.slice dy.a3 y.kl.length dy.k3)).setCell ⟨w.heap.size + 1, 4, none⟩ (.slice dy.a4 y.fe.length dy.k4)).setCell ⟨w.heap.size + 1, 5, none⟩ (.slice dy.a5 y.ho.length dy.k5)).setCell ⟨w.heap.size + 1, 6, none⟩ (.slice dy.a6 y.cu.length dy.k6)).setCell ⟨w.heap.size + 2, 0, none⟩ (.int .i64 0))) = V at *
    refine leaves_cons (f := 27) (args := #[.pointer (some ⟨w.heap.size + 2, 0, none⟩)]) (by simp) (by simp [go_sem]) ?_
    refine (resolve1_idle _ _).mono ?_
    rintro e u' w6 ⟨rfl, rfl, rfl⟩
    have e0 := hRB.cell (j := 0) rfl
    have e1 := hRB.cell (j := 1) rfl
    have e2 := hRB.cell (j := 2) rfl
    have e3 := hRB.cell (j := 3) rfl
    have e4 := hRB.cell (j := 4) rfl
    have e5 := hRB.cell (j := 5) rfl
    have e6 := hRB.cell (j := 6) rfl
    have eZ := hZ.cell (j := 0) rfl
    have hc := Cat.resN_ok HAON.out.1 HAON.out.2.1 HAON.out.2.2 HL.out
    simp [Leaves, settle, results, Try.results12, go_sem, e0, e1, e2, e3, e4, e5, e6, eZ]
    exact ⟨dy, by rw [hc]; rfl, by rw [hc]; exact hRX, hE4⟩
end Go.Proofs.Ytimigpfoflilcaa

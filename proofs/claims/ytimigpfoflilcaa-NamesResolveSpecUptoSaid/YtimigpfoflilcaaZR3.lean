/- Names: the reference's Resolve, the loop over the pairs. -/
import Derived.Test.YtimigpfoflilcaaZR1
namespace Go.Proofs.Ytimigpfoflilcaa
open Go.RowKit Go.Sz
set_option maxRecDepth 1000000 in
set_option maxHeartbeats 12800000 in
theorem loop4R (c : Cat) (hk : c.Ok) (hb : ∀ x ∈ c.cs, x.need.parts.length ≤ 1048576 ∧ x.bar.parts.length ≤ 1048576) (d : Adr) (w w0 : World) (hX : RepX w d c) (hX0 : Ext w w0) (hCB : Row w0 w.heap.size 29 [.slice d.a0 c.cs.length d.k0, .slice d.a1 c.sm.length d.k1, .slice d.a2 c.pg.length d.k2, .slice d.a3 c.kl.length d.k3, .slice d.a4 c.fe.length d.k4, .slice d.a5 c.ho.length d.k5, .slice d.a6 c.cu.length d.k6]) (Y : Nat) (h0Y : w0.heap.size ≤ Y) (wC wB : World) (aC : Option Addr) (kC : Nat) (g3 : Bool) (hYC : Y < wC.heap.size) (hB1 : Bld w0 wC Y 1 29 51 4 (fun u => [(.slice aC c.cs.length kC), u, .slice d.a2 c.pg.length d.k2, .slice d.a3 c.kl.length d.k3, .slice d.a4 c.fe.length d.k4, .slice d.a5 c.ho.length d.k5, .slice d.a6 c.cu.length d.k6]) (fun (x : Pr) q (_ : World) => q = (x.resT c.cs).1.cells) c.sm 0 (.slice (some ⟨wC.heap.size, 0, none⟩) 0 0) [] wB) (x0 x3 x4 x5 x8 x9 x10 x11 x12 x13 x15 x16 x17 x18 x19 x20 x21 x22 x23 x24 x25 x26 x27 x28 x29 x30 x31 x32 x33 x34 x35 x36 x37 x38 x39 x40 x41 x42 x43 x44 x45 x46 x47 x48 x49 x50 x51 x52 x53 x54 x55 x56 x57 x58 x59 x60 x61 x62 x63 x64 x65 x66 x67 x68 x69 x70 x71 x72 x73 x74 x75 x76 x77 x78 x79 x80 x81 x82 x83 x84 x85 x86 x87 x88 x89 x90 x91 x92 x93 x94 x95 x96 x97 x98 x99 x100 x101 x102 x103 x104 x105 x106 x107 x108 x109 x110 x111 x112 x113 x114 x115 x116 x117 x118 x119 x120 x121 x122 x123 x124 x125 x126 x127 x128 x129 x130 x131 x132 x133 x134 x135 x136 x137 x138 x139 x140 x141 x142 x143 x144 x145 x146 x147 x148 x149 x150 x151 x152 x153 x154 x155 x156 x157 x158 x159 x160 x161 x162 x163 x164 x165 x166 x167 x168 x169 x170 x171 x172 x173 x174 x175 x176 x177 x178 x179 x180 x181 x182 x183 x184 x185 x186 x187 x188 x189 x190 x191 x192 x193 x194 x195 x196 x197 x198 x199 x200 x201 x202 x203 x204 x205 x206 x207 x208 x209 x210 x211 x212 x213 x214 x215 x216 x217 x218 x219 x220 x221 x222 x223 x224 x225 x226 x227 x228 x229 x230 x231 x232 x233 x234 x235 x236 x237 x238 x239 x240 x241 x242 x243 x244 x245 x246 x247 x248 x249 x250 x251 x252 x253 x254 x255 x256 x257 x258 x259 x260 x261 x262 x263 : Value) :
    Code.wp Try.prog (lpS 2) (gxQ 6 fun a V => ∃ y14 y15 y16 y17 y18 y19 y123 y124 y125 y126 y127 y128 y129 y130 y131 y132 y133 y134 y135 y136 y137 y138 y139 y140 y141 y142 y143 y144 y145 y146 y147 y148 y149 y150 y151 y152 y153 y154 y155 y156 y157 y158 y159 y160 y161 y162 y163 y164 y165 y166 y167 y168 y169 : Value, a = { tmps := (x0 :: (.pointer (some ⟨w.heap.size, 0, none⟩)) :: (.pointer (some ⟨w.heap.size + 1, 0, none⟩)) :: x3 :: x4 :: x5 :: (.pointer (some ⟨Y, 0, none⟩)) :: (.bool (g3 && c.sm.all fun x => (x.resT c.cs).2)) :: x8 :: x9 :: x10 :: x11 :: x12 :: x13 :: y14 :: y15 :: y16 :: y17 :: y18 :: y19 :: x20 :: x21 :: x22 :: x23 :: x24 :: x25 :: x26 :: x27 :: x28 :: x29 :: x30 :: x31 :: x32 :: x33 :: x34 :: x35 :: x36 :: x37 :: x38 :: x39 :: x40 :: x41 :: x42 :: x43 :: x44 :: x45 :: x46 :: x47 :: x48 :: x49 :: x50 :: x51 :: x52 :: x53 :: x54 :: x55 :: x56 :: x57 :: x58 :: x59 :: x60 :: x61 :: x62 :: x63 :: x64 :: x65 :: x66 :: x67 :: x68 :: x69 :: x70 :: x71 :: x72 :: x73 :: x74 :: x75 :: x76 :: x77 :: x78 :: x79 :: x80 :: x81 :: x82 :: x83 :: x84 :: x85 :: x86 :: x87 :: x88 :: x89 :: x90 :: x91 :: x92 :: x93 :: x94 :: x95 :: x96 :: x97 :: x98 :: x99 :: x100 :: x101 :: x102 :: x103 :: x104 :: x105 :: x106 :: x107 :: x108 :: x109 :: x110 :: x111 :: x112 :: x113 :: x114 :: x115 :: x116 :: x117 :: x118 :: x119 :: x120 :: x121 :: x122 :: y123 :: y124 :: y125 :: y126 :: y127 :: y128 :: y129 :: y130 :: y131 :: y132 :: y133 :: y134 :: y135 :: y136 :: y137 :: y138 :: y139 :: y140 :: y141 :: y142 :: y143 :: y144 :: y145 :: y146 :: y147 :: y148 :: y149 :: y150 :: y151 :: y152 :: y153 :: y154 :: y155 :: y156 :: y157 :: y158 :: y159 :: y160 :: y161 :: y162 :: y163 :: y164 :: y165 :: y166 :: y167 :: y168 :: y169 :: x170 :: x171 :: x172 :: x173 :: x174 :: x175 :: x176 :: x177 :: x178 :: x179 :: x180 :: x181 :: x182 :: x183 :: x184 :: x185 :: x186 :: x187 :: x188 :: x189 :: x190 :: x191 :: x192 :: x193 :: x194 :: x195 :: x196 :: x197 :: x198 :: x199 :: x200 :: x201 :: x202 :: x203 :: x204 :: x205 :: x206 :: x207 :: x208 :: x209 :: x210 :: x211 :: x212 :: x213 :: x214 :: x215 :: x216 :: x217 :: x218 :: x219 :: x220 :: x221 :: x222 :: x223 :: x224 :: x225 :: x226 :: x227 :: x228 :: x229 :: x230 :: x231 :: x232 :: x233 :: x234 :: x235 :: x236 :: x237 :: x238 :: x239 :: x240 :: x241 :: x242 :: x243 :: x244 :: x245 :: x246 :: x247 :: x248 :: x249 :: x250 :: x251 :: x252 :: x253 :: x254 :: x255 :: x256 :: x257 :: x258 :: x259 :: x260 :: x261 :: x262 :: x263 :: []).toArray, defers := [] } ∧ ∃ (v : Value) (rows : List (List Value)), Bld w0 wC Y 1 29 51 4 (fun u => [(.slice aC c.cs.length kC), u, .slice d.a2 c.pg.length d.k2, .slice d.a3 c.kl.length d.k3, .slice d.a4 c.fe.length d.k4, .slice d.a5 c.ho.length d.k5, .slice d.a6 c.cu.length d.k6]) (fun (x : Pr) q (_ : World) => q = (x.resT c.cs).1.cells) c.sm c.sm.length v rows V) { tmps := (x0 :: (.pointer (some ⟨w.heap.size, 0, none⟩)) :: (.pointer (some ⟨w.heap.size + 1, 0, none⟩)) :: x3 :: x4 :: x5 :: (.pointer (some ⟨Y, 0, none⟩)) :: (.bool g3) :: x8 :: x9 :: x10 :: x11 :: x12 :: x13 :: (.int .i64 0) :: x15 :: x16 :: x17 :: x18 :: x19 :: x20 :: x21 :: x22 :: x23 :: x24 :: x25 :: x26 :: x27 :: x28 :: x29 :: x30 :: x31 :: x32 :: x33 :: x34 :: x35 :: x36 :: x37 :: x38 :: x39 :: x40 :: x41 :: x42 :: x43 :: x44 :: x45 :: x46 :: x47 :: x48 :: x49 :: x50 :: x51 :: x52 :: x53 :: x54 :: x55 :: x56 :: x57 :: x58 :: x59 :: x60 :: x61 :: x62 :: x63 :: x64 :: x65 :: x66 :: x67 :: x68 :: x69 :: x70 :: x71 :: x72 :: x73 :: x74 :: x75 :: x76 :: x77 :: x78 :: x79 :: x80 :: x81 :: x82 :: x83 :: x84 :: x85 :: x86 :: x87 :: x88 :: x89 :: x90 :: x91 :: x92 :: x93 :: x94 :: x95 :: x96 :: x97 :: x98 :: x99 :: x100 :: x101 :: x102 :: x103 :: x104 :: x105 :: x106 :: x107 :: x108 :: x109 :: x110 :: x111 :: x112 :: x113 :: x114 :: x115 :: x116 :: x117 :: x118 :: x119 :: x120 :: x121 :: x122 :: x123 :: x124 :: x125 :: x126 :: x127 :: x128 :: x129 :: x130 :: x131 :: x132 :: x133 :: x134 :: x135 :: x136 :: x137 :: x138 :: x139 :: x140 :: x141 :: x142 :: x143 :: x144 :: x145 :: x146 :: x147 :: x148 :: x149 :: x150 :: x151 :: x152 :: x153 :: x154 :: x155 :: x156 :: x157 :: x158 :: x159 :: x160 :: x161 :: x162 :: x163 :: x164 :: x165 :: x166 :: x167 :: x168 :: x169 :: x170 :: x171 :: x172 :: x173 :: x174 :: x175 :: x176 :: x177 :: x178 :: x179 :: x180 :: x181 :: x182 :: x183 :: x184 :: x185 :: x186 :: x187 :: x188 :: x189 :: x190 :: x191 :: x192 :: x193 :: x194 :: x195 :: x196 :: x197 :: x198 :: x199 :: x200 :: x201 :: x202 :: x203 :: x204 :: x205 :: x206 :: x207 :: x208 :: x209 :: x210 :: x211 :: x212 :: x213 :: x214 :: x215 :: x216 :: x217 :: x218 :: x219 :: x220 :: x221 :: x222 :: x223 :: x224 :: x225 :: x226 :: x227 :: x228 :: x229 :: x230 :: x231 :: x232 :: x233 :: x234 :: x235 :: x236 :: x237 :: x238 :: x239 :: x240 :: x241 :: x242 :: x243 :: x244 :: x245 :: x246 :: x247 :: x248 :: x249 :: x250 :: x251 :: x252 :: x253 :: x254 :: x255 :: x256 :: x257 :: x258 :: x259 :: x260 :: x261 :: x262 :: x263 :: []).toArray, defers := [] } wB := by
  conv => arg 2; whnf
  obtain ⟨ik, hk0, hk1, hk2, hk3⟩ := info_parts infoC
  have HIK := Lib.hid (And.intro hk0 (And.intro hk1 (And.intro hk2 hk3)))
  clear hk0 hk1 hk2 hk3
  obtain ⟨ip, hp0, hp1, hp2, hp3⟩ := info_parts infoP
  have HIP := Lib.hid (And.intro hp0 (And.intro hp1 (And.intro hp2 hp3)))
  clear hp0 hp1 hp2 hp3
  obtain ⟨ig, hg0, hg1, hg2, hg3⟩ := info_parts infoG
  have HIG := Lib.hid (And.intro hg0 (And.intro hg1 (And.intro hg2 hg3)))
  clear hg0 hg1 hg2 hg3
  obtain ⟨iq, hq0, hq1, hq2, hq3⟩ := info_parts infoQ
  have HIQ := Lib.hid (And.intro hq0 (And.intro hq1 (And.intro hq2 hq3)))
  clear hq0 hq1 hq2 hq3
  obtain ⟨ii, hi0, hi1, hi2, hi3⟩ := info_parts infoI
  have HII := Lib.hid (And.intro hi0 (And.intro hi1 (And.intro hi2 hi3)))
  clear hi0 hi1 hi2 hi3
  have HX := Lib.hid hX
  have HB := Lib.hid hb
  have HOK := Lib.hid hk
  have HX0 := Lib.hid hX0
  have HCB := Lib.hid hCB
  have H0Y := Lib.hid h0Y
  have HYC := Lib.hid hYC
  have HBLD1 := Lib.hid hB1
  clear hYC hB1
  clear hX hb hk hX0 hCB h0Y
  go_loopw [7, 14] (fun gv iv wr => ∃ (m : Nat) (v : Value) (rows : List (List Value)), gv = .bool (g3 && (c.sm.take m).all fun x => (x.resT c.cs).2) ∧ iv = .int .i64 m ∧ m ≤ c.sm.length ∧ Bld w0 wC Y 1 29 51 4 (fun u => [(.slice aC c.cs.length kC), u, .slice d.a2 c.pg.length d.k2, .slice d.a3 c.kl.length d.k3, .slice d.a4 c.fe.length d.k4, .slice d.a5 c.ho.length d.k5, .slice d.a6 c.cu.length d.k6]) (fun (x : Pr) q (_ : World) => q = (x.resT c.cs).1.cells) c.sm m v rows wr) (fun _ iv _ => c.sm.length - (intOf iv).toNat)
  case atStart => exact ⟨0, _, [], by simp, rfl, by omega, HBLD1.out⟩
  case round =>
    obtain ⟨m, v, rows, rfl, rfl, hm, hbl⟩ := hrel
    have HBL := Lib.hid hbl
    have HE := Lib.hid hbl.ext
    have b1 := (HCB.out.kpC hbl.ext.kpC).cell (j := 1) rfl
    have hs0 : (c.sm.length : Int) ≤ 9223372036854775807 := by have := HOK.out.n1; omega
    clear hbl
    by_cases hlt : m < c.sm.length
    · have hki : (m : Int) < (c.sm.length : Int) := by omega
      obtain ⟨gb, hgb⟩ : ∃ gb, (g3 && (c.sm.take m).all fun x => (x.resT c.cs).2) = gb := ⟨_, rfl⟩
      have HGB := Lib.hid hgb
      rw [hgb]
      obtain ⟨x, hx⟩ : ∃ x, c.sm[m]? = some x := ⟨_, List.getElem?_eq_getElem hlt⟩
      have hrx : (c.sm.map Pr.cells)[m]? = some x.cells := by rw [List.getElem?_map, hx]; rfl
      obtain ⟨B1, o, eB, hcell⟩ := (HX.out.sm.ext (HX0.out.trans HE.out)).rowAt' hrx (by intro h; cases h)
      have HXM := Lib.hid hx
      have HCS : Hid (∀ W, Ext wr W → RepC W d.a0 d.k0 c.cs) := Lib.hid fun W hW => HX.out.cs.ext (HX0.out.trans (HE.out.trans hW))
      rw [eB] at b1
      have d0 : wr.cell? ⟨B1, o + m * 4, none⟩ = some (.string x.a) := hcell 0 _ rfl
      have d1 : wr.cell? ⟨B1, o + m * 4 + 1, none⟩ = some (.string x.b) := hcell 1 _ rfl
      have d2 : wr.cell? ⟨B1, o + m * 4 + 2, none⟩ = some (.int .i64 x.x) := hcell 2 _ rfl
      have d3 : wr.cell? ⟨B1, o + m * 4 + 3, none⟩ = some (.int .i64 x.y) := hcell 3 _ rfl
      have HPR : Hid (Row (wr.alloc (.cells #[.string x.a, .string x.b, .int .i64 x.x, .int .i64 x.y] 51)) wr.heap.size 51 [.string x.a, .string x.b, .int .i64 x.x, .int .i64 x.y]) := Lib.hid (row_al _ _ _)
      have HPE : Hid (Ext wr (wr.alloc (.cells #[.string x.a, .string x.b, .int .i64 x.x, .int .i64 x.y] 51))) := Lib.hid ((Ext.refl _).alloc _)
      have HEB := Lib.hid eB
      clear hgb hx hrx hcell
      have b0 := (HCB.out.kpC (HE.out.trans HPE.out).kpC).cell (j := 0) rfl
      have b2 := (HCB.out.kpC (HE.out.trans HPE.out).kpC).cell (j := 2) rfl
      have b3 := (HCB.out.kpC (HE.out.trans HPE.out).kpC).cell (j := 3) rfl
      have b4 := (HCB.out.kpC (HE.out.trans HPE.out).kpC).cell (j := 4) rfl
      have b5 := (HCB.out.kpC (HE.out.trans HPE.out).kpC).cell (j := 5) rfl
      have b6 := (HCB.out.kpC (HE.out.trans HPE.out).kpC).cell (j := 6) rfl
      have bb1 := al_cell b1 (.cells #[.string x.a, .string x.b, .int .i64 x.x, .int .i64 x.y] 51)
      clear eB
      go_wp2_with fail
      clear b0 b1 bb1 b2 b3 b4 b5 b6 d0 d1 d2 d3
      obtain ⟨wP, hwP⟩ : ∃ wP, (wr.alloc (.cells #[.string x.a, .string x.b, .int .i64 x.x, .int .i64 x.y] 51)) = wP := ⟨_, rfl⟩
      rw [hwP] at HPR HPE
      rw [hwP]
      clear hwP
      have hcall := refNumber_any c.cs x.a x.x d.a0 d.k0 (.slice d.a1 c.sm.length d.k1) (.slice d.a2 c.pg.length d.k2) (.slice d.a3 c.kl.length d.k3) (.slice d.a4 c.fe.length d.k4) (.slice d.a5 c.ho.length d.k5) (.slice d.a6 c.cu.length d.k6) wP (HCS.out _ HPE.out)
      rw [HEB.out] at hcall
      refine hcall.mono ?_
      clear hcall
      obtain ⟨n1, hn1⟩ : ∃ n1, (numR c.cs x.a x.x).getD 0 = n1 := ⟨_, rfl⟩
      obtain ⟨k1, hk1⟩ : ∃ k1, (numR c.cs x.a x.x).isSome = k1 := ⟨_, rfl⟩
      obtain ⟨n2, hn2⟩ : ∃ n2, (numR c.cs x.b x.y).getD 0 = n2 := ⟨_, rfl⟩
      obtain ⟨k2, hk2⟩ : ∃ k2, (numR c.cs x.b x.y).isSome = k2 := ⟨_, rfl⟩
      rw [hn1, hk1]
      rintro e w2 ⟨rfl, hE2⟩
      have HNN := Lib.hid (And.intro hn1 (And.intro hk1 (And.intro hn2 hk2)))
      have HE2 := Lib.hid (HPE.out.trans hE2)
      have HPR2 := Lib.hid (HPR.out.kpC hE2.kpC)
      clear hn1 hk1 hE2
      have b0 := (HCB.out.kpC (HE.out.trans HE2.out).kpC).cell (j := 0) rfl
      have b1 := (HCB.out.kpC (HE.out.trans HE2.out).kpC).cell (j := 1) rfl
      have b2 := (HCB.out.kpC (HE.out.trans HE2.out).kpC).cell (j := 2) rfl
      have b3 := (HCB.out.kpC (HE.out.trans HE2.out).kpC).cell (j := 3) rfl
      have b4 := (HCB.out.kpC (HE.out.trans HE2.out).kpC).cell (j := 4) rfl
      have b5 := (HCB.out.kpC (HE.out.trans HE2.out).kpC).cell (j := 5) rfl
      have b6 := (HCB.out.kpC (HE.out.trans HE2.out).kpC).cell (j := 6) rfl
      rw [HEB.out] at b1
      have p1 := HPR2.out.cell (j := 1) rfl
      have p3 := HPR2.out.cell (j := 3) rfl
      go_wp2_with fail
      clear b0 b1 b2 b3 b4 b5 b6 p1 p3
      have hcall := refNumber_any c.cs x.b x.y d.a0 d.k0 (.slice d.a1 c.sm.length d.k1) (.slice d.a2 c.pg.length d.k2) (.slice d.a3 c.kl.length d.k3) (.slice d.a4 c.fe.length d.k4) (.slice d.a5 c.ho.length d.k5) (.slice d.a6 c.cu.length d.k6) w2 (HCS.out _ HE2.out)
      rw [HEB.out] at hcall
      refine hcall.mono ?_
      clear hcall
      rw [hn2, hk2]
      rintro e w4 ⟨rfl, hE4⟩
      have HE4 := Lib.hid (HE2.out.trans hE4)
      have HPR4 := Lib.hid (HPR2.out.kpC hE4.kpC)
      clear hn2 hk2 hE4
      go_upto_region 31 with fail
      go_cut [7] from 153 to 159 (fun s7 wx => s7 = .bool (gb && k1 && k2) ∧ w4 = wx)
      case first =>
        clear HGB HNN
        cases gb <;> cases k1 <;> cases k2
        all_goals
          go_wp2_with fail
          go_meet
          exact ⟨rfl, rfl⟩
      case rest =>
        obtain ⟨hc7, hcw⟩ := hcut
        subst hc7
        subst hcw
        have p2 := HPR4.out.cell (j := 2) rfl
        have f2 := HPR4.out.froz 2
        have p3 := HPR4.out.cell (j := 3) rfl
        have f3 := HPR4.out.froz 3
        go_upto_region 34 with fail
        clear p2 f2 p3 f3
        have hgr := setCells_grown wr.heap.size [.int .i64 n1, .int .i64 n2] w4 2
        have hrow : Row (w4.setCells wr.heap.size 2 [.int .i64 n1, .int .i64 n2]) wr.heap.size 51 [.string x.a, .string x.b, .int .i64 n1, .int .i64 n2] := HPR4.out.set (vs := [.int .i64 n1, .int .i64 n2]) (o := 2) (by decide : 2 + 2 ≤ 4)
        obtain ⟨w6, hw6⟩ : ∃ w6, w4.setCells wr.heap.size 2 [.int .i64 n1, .int .i64 n2] = w6 := ⟨_, rfl⟩
        rw [hw6] at hgr hrow
        rw [show ((w4.setCell ⟨wr.heap.size, 2, none⟩ (.int .i64 n1)).setCell ⟨wr.heap.size, 3, none⟩ (.int .i64 n2)) = w6 from hw6]
        have HT6 : Hid (Row w6 wr.heap.size 51 [.string x.a, .string x.b, .int .i64 n1, .int .i64 n2] ∧ Ext wr w6) := Lib.hid ⟨hrow, Below.grown HE4.out hgr HE4.out.size (fun x hx => by cases hx; exact Nat.le_refl _)⟩
        clear hgr hrow hw6
        have p0 := HT6.out.1.cell (j := 0) rfl
        have p1 := HT6.out.1.cell (j := 1) rfl
        have p2 := HT6.out.1.cell (j := 2) rfl
        have p3 := HT6.out.1.cell (j := 3) rfl
        have y1 : w6.cell? ⟨Y, 1, none⟩ = some v := (HBL.out.row.kpC HT6.out.2.kpC).cell rfl
        have HAL : Hid (Ext wr (w6.alloc (.cells #[.string x.a, .string x.b, .int .i64 n1, .int .i64 n2] 51))) := Lib.hid (HT6.out.2.alloc _)
        go_wp2_with (at_builtin; refine wpList_append_S rfl _ _ 23 23 rfl wC.heap.size 51 ip _ 4 48 Try.underlying23 HIP.out.1 HIP.out.2.1 HIP.out.2.2.1 HIP.out.2.2.2 rfl v _ _ rfl (ownsRow_ext HBL.out.own HAL.out) _ 1 [.string x.a, .string x.b, .int .i64 n1, .int .i64 n2] rfl (Src.ofOwn (own_row (cs := [.string x.a, .string x.b, .int .i64 n1, .int .i64 n2]) (e := 51) (base := 0) rfl (Nat.zero_le _) rfl) Try.underlying23 (by simp [Value.oneCell'])) (by have := HOK.out.n1; unfold maxLen; omega) (by have := HOK.out.n1; omega) (by have := HBL.out.kp.1; have := HAL.out.size; omega) ?_; intro v7 w7 ho7 hg7; obtain ⟨va, vc, rfl⟩ := ownsRow_slice ho7; have hy7 := HBL.out.grow_row HYC.out HAL.out hg7; have z1 : w7.cell? ⟨Y, 1, none⟩ = some v := hy7.cell rfl; have f1 := hy7.froz 1; have HO7 := Lib.hid ho7; have HG7 := Lib.hid hg7; clear ho7 hg7 hy7)
        clear y1 z1 f1 p0 p1 p2 p3
        go_roundw
        case rel =>
          have hq : [.string x.a, .string x.b, .int .i64 n1, .int .i64 n2] = (x.resT c.cs).1.cells := by
            show _ = [Value.string x.a, Value.string x.b, Value.int .i64 ((numR c.cs x.a x.x).getD 0), Value.int .i64 ((numR c.cs x.b x.y).getD 0)]
            rw [HNN.out.1, HNN.out.2.2.1]
          refine ⟨m + 1, _, rows ++ [[.string x.a, .string x.b, .int .i64 n1, .int .i64 n2]], ?_, by go_num, by omega, HBL.out.step H0Y.out HYC.out (fun _ _ => rfl) (fun _ => (by decide : 1 + 1 ≤ 7)) HXM.out HAL.out (fun _ _ _ => hq) HG7.out HO7.out⟩
          rw [all_snoc HXM.out, ← Bool.and_assoc, HGB.out]
          show _ = Value.bool (gb && ((numR c.cs x.a x.x).isSome && (numR c.cs x.b x.y).isSome))
          rw [HNN.out.2.1, HNN.out.2.2.2, Bool.and_assoc]
        case measure => simp [intOf] <;> omega
    · have hki : ¬ (m : Int) < (c.sm.length : Int) := by omega
      obtain rfl : m = c.sm.length := by omega
      rw [List.take_length]
      go_wp2_with fail
      exact ⟨rfl, ⟨_, _, _, _, _, _, _, _, _, _, _, _, _, _, _, _, _, _, _, _, _, _, _, _, _, _, _, _, _, _, _, _, _, _, _, _, _, _, _, _, _, _, _, _, _, _, _, _, _, _, _, _, _, rfl⟩, v, rows, HBL.out⟩
end Go.Proofs.Ytimigpfoflilcaa

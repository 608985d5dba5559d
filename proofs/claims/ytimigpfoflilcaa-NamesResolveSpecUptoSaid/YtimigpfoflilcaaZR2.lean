/- Names: the reference's Resolve, the loop over the courses. -/
import Derived.Test.YtimigpfoflilcaaZR1
namespace Go.Proofs.Ytimigpfoflilcaa
open Go.RowKit Go.Sz
set_option maxRecDepth 1000000 in
set_option maxHeartbeats 12800000 in
theorem loop3R (c : Cat) (hk : c.Ok) (hb : ∀ x ∈ c.cs, x.need.parts.length ≤ 1048576 ∧ x.bar.parts.length ≤ 1048576) (d : Adr) (w w0 : World) (hX : RepX w d c) (hX0 : Ext w w0) (hCB : Row w0 w.heap.size 29 [.slice d.a0 c.cs.length d.k0, .slice d.a1 c.sm.length d.k1, .slice d.a2 c.pg.length d.k2, .slice d.a3 c.kl.length d.k3, .slice d.a4 c.fe.length d.k4, .slice d.a5 c.ho.length d.k5, .slice d.a6 c.cu.length d.k6]) (Y : Nat) (h0Y : w0.heap.size ≤ Y) (wA wB : World) (hNA : wA.heap.size = Y + 1) (hB0 : Bld w0 wA Y 0 29 41 16 (fun u => [u, .slice d.a1 c.sm.length d.k1, .slice d.a2 c.pg.length d.k2, .slice d.a3 c.kl.length d.k3, .slice d.a4 c.fe.length d.k4, .slice d.a5 c.ho.length d.k5, .slice d.a6 c.cu.length d.k6]) (fun (x : Cr) q V => CrN wA.heap.size V (x.resT c.cs).1 q) c.cs 0 (.slice (some ⟨Y + 1, 0, none⟩) 0 0) [] wB) (x0 x3 x4 x5 x9 x10 x11 x12 x13 x14 x15 x16 x17 x18 x19 x20 x21 x22 x23 x24 x25 x26 x27 x28 x29 x30 x31 x32 x33 x34 x35 x36 x37 x38 x39 x40 x41 x42 x43 x44 x45 x46 x47 x48 x49 x50 x51 x52 x53 x54 x55 x56 x57 x58 x59 x60 x61 x62 x63 x64 x65 x66 x67 x68 x69 x70 x71 x72 x73 x74 x75 x76 x77 x78 x79 x80 x81 x82 x83 x84 x85 x86 x87 x88 x89 x90 x91 x92 x93 x94 x95 x96 x97 x98 x99 x100 x101 x102 x103 x104 x105 x106 x107 x108 x109 x110 x111 x112 x113 x114 x115 x116 x117 x118 x119 x120 x121 x122 x123 x124 x125 x126 x127 x128 x129 x130 x131 x132 x133 x134 x135 x136 x137 x138 x139 x140 x141 x142 x143 x144 x145 x146 x147 x148 x149 x150 x151 x152 x153 x154 x155 x156 x157 x158 x159 x160 x161 x162 x163 x164 x165 x166 x167 x168 x169 x170 x171 x172 x173 x174 x175 x176 x177 x178 x179 x180 x181 x182 x183 x184 x185 x186 x187 x188 x189 x190 x191 x192 x193 x194 x195 x196 x197 x198 x199 x200 x201 x202 x203 x204 x205 x206 x207 x208 x209 x210 x211 x212 x213 x214 x215 x216 x217 x218 x219 x220 x221 x222 x223 x224 x225 x226 x227 x228 x229 x230 x231 x232 x233 x234 x235 x236 x237 x238 x239 x240 x241 x242 x243 x244 x245 x246 x247 x248 x249 x250 x251 x252 x253 x254 x255 x256 x257 x258 x259 x260 x261 x262 x263 : Value) :
    Code.wp Try.prog (lpS 1) (gxQ 4 fun a V => ∃ y8 y9 y10 y11 y12 y13 y78 y79 y80 y81 y82 y83 y84 y85 y86 y87 y88 y89 y90 y91 y92 y93 y94 y95 y96 y97 y98 y99 y100 y101 y102 y103 y104 y105 y106 y107 y108 y109 y110 y111 y112 y113 y114 y115 y116 y117 y118 y119 y120 : Value, a = { tmps := (x0 :: (.pointer (some ⟨w.heap.size, 0, none⟩)) :: (.pointer (some ⟨w.heap.size + 1, 0, none⟩)) :: x3 :: x4 :: x5 :: (.pointer (some ⟨Y, 0, none⟩)) :: (.bool (c.cs.all fun x => (x.resT c.cs).2)) :: y8 :: y9 :: y10 :: y11 :: y12 :: y13 :: x14 :: x15 :: x16 :: x17 :: x18 :: x19 :: x20 :: x21 :: x22 :: x23 :: x24 :: x25 :: x26 :: x27 :: x28 :: x29 :: x30 :: x31 :: x32 :: x33 :: x34 :: x35 :: x36 :: x37 :: x38 :: x39 :: x40 :: x41 :: x42 :: x43 :: x44 :: x45 :: x46 :: x47 :: x48 :: x49 :: x50 :: x51 :: x52 :: x53 :: x54 :: x55 :: x56 :: x57 :: x58 :: x59 :: x60 :: x61 :: x62 :: x63 :: x64 :: x65 :: x66 :: x67 :: x68 :: x69 :: x70 :: x71 :: x72 :: x73 :: x74 :: x75 :: x76 :: x77 :: y78 :: y79 :: y80 :: y81 :: y82 :: y83 :: y84 :: y85 :: y86 :: y87 :: y88 :: y89 :: y90 :: y91 :: y92 :: y93 :: y94 :: y95 :: y96 :: y97 :: y98 :: y99 :: y100 :: y101 :: y102 :: y103 :: y104 :: y105 :: y106 :: y107 :: y108 :: y109 :: y110 :: y111 :: y112 :: y113 :: y114 :: y115 :: y116 :: y117 :: y118 :: y119 :: y120 :: x121 :: x122 :: x123 :: x124 :: x125 :: x126 :: x127 :: x128 :: x129 :: x130 :: x131 :: x132 :: x133 :: x134 :: x135 :: x136 :: x137 :: x138 :: x139 :: x140 :: x141 :: x142 :: x143 :: x144 :: x145 :: x146 :: x147 :: x148 :: x149 :: x150 :: x151 :: x152 :: x153 :: x154 :: x155 :: x156 :: x157 :: x158 :: x159 :: x160 :: x161 :: x162 :: x163 :: x164 :: x165 :: x166 :: x167 :: x168 :: x169 :: x170 :: x171 :: x172 :: x173 :: x174 :: x175 :: x176 :: x177 :: x178 :: x179 :: x180 :: x181 :: x182 :: x183 :: x184 :: x185 :: x186 :: x187 :: x188 :: x189 :: x190 :: x191 :: x192 :: x193 :: x194 :: x195 :: x196 :: x197 :: x198 :: x199 :: x200 :: x201 :: x202 :: x203 :: x204 :: x205 :: x206 :: x207 :: x208 :: x209 :: x210 :: x211 :: x212 :: x213 :: x214 :: x215 :: x216 :: x217 :: x218 :: x219 :: x220 :: x221 :: x222 :: x223 :: x224 :: x225 :: x226 :: x227 :: x228 :: x229 :: x230 :: x231 :: x232 :: x233 :: x234 :: x235 :: x236 :: x237 :: x238 :: x239 :: x240 :: x241 :: x242 :: x243 :: x244 :: x245 :: x246 :: x247 :: x248 :: x249 :: x250 :: x251 :: x252 :: x253 :: x254 :: x255 :: x256 :: x257 :: x258 :: x259 :: x260 :: x261 :: x262 :: x263 :: []).toArray, defers := [] } ∧ ∃ (v : Value) (rows : List (List Value)), Bld w0 wA Y 0 29 41 16 (fun u => [u, .slice d.a1 c.sm.length d.k1, .slice d.a2 c.pg.length d.k2, .slice d.a3 c.kl.length d.k3, .slice d.a4 c.fe.length d.k4, .slice d.a5 c.ho.length d.k5, .slice d.a6 c.cu.length d.k6]) (fun (x : Cr) q V => CrN wA.heap.size V (x.resT c.cs).1 q) c.cs c.cs.length v rows V) { tmps := (x0 :: (.pointer (some ⟨w.heap.size, 0, none⟩)) :: (.pointer (some ⟨w.heap.size + 1, 0, none⟩)) :: x3 :: x4 :: x5 :: (.pointer (some ⟨Y, 0, none⟩)) :: (.bool true) :: (.int .i64 0) :: x9 :: x10 :: x11 :: x12 :: x13 :: x14 :: x15 :: x16 :: x17 :: x18 :: x19 :: x20 :: x21 :: x22 :: x23 :: x24 :: x25 :: x26 :: x27 :: x28 :: x29 :: x30 :: x31 :: x32 :: x33 :: x34 :: x35 :: x36 :: x37 :: x38 :: x39 :: x40 :: x41 :: x42 :: x43 :: x44 :: x45 :: x46 :: x47 :: x48 :: x49 :: x50 :: x51 :: x52 :: x53 :: x54 :: x55 :: x56 :: x57 :: x58 :: x59 :: x60 :: x61 :: x62 :: x63 :: x64 :: x65 :: x66 :: x67 :: x68 :: x69 :: x70 :: x71 :: x72 :: x73 :: x74 :: x75 :: x76 :: x77 :: x78 :: x79 :: x80 :: x81 :: x82 :: x83 :: x84 :: x85 :: x86 :: x87 :: x88 :: x89 :: x90 :: x91 :: x92 :: x93 :: x94 :: x95 :: x96 :: x97 :: x98 :: x99 :: x100 :: x101 :: x102 :: x103 :: x104 :: x105 :: x106 :: x107 :: x108 :: x109 :: x110 :: x111 :: x112 :: x113 :: x114 :: x115 :: x116 :: x117 :: x118 :: x119 :: x120 :: x121 :: x122 :: x123 :: x124 :: x125 :: x126 :: x127 :: x128 :: x129 :: x130 :: x131 :: x132 :: x133 :: x134 :: x135 :: x136 :: x137 :: x138 :: x139 :: x140 :: x141 :: x142 :: x143 :: x144 :: x145 :: x146 :: x147 :: x148 :: x149 :: x150 :: x151 :: x152 :: x153 :: x154 :: x155 :: x156 :: x157 :: x158 :: x159 :: x160 :: x161 :: x162 :: x163 :: x164 :: x165 :: x166 :: x167 :: x168 :: x169 :: x170 :: x171 :: x172 :: x173 :: x174 :: x175 :: x176 :: x177 :: x178 :: x179 :: x180 :: x181 :: x182 :: x183 :: x184 :: x185 :: x186 :: x187 :: x188 :: x189 :: x190 :: x191 :: x192 :: x193 :: x194 :: x195 :: x196 :: x197 :: x198 :: x199 :: x200 :: x201 :: x202 :: x203 :: x204 :: x205 :: x206 :: x207 :: x208 :: x209 :: x210 :: x211 :: x212 :: x213 :: x214 :: x215 :: x216 :: x217 :: x218 :: x219 :: x220 :: x221 :: x222 :: x223 :: x224 :: x225 :: x226 :: x227 :: x228 :: x229 :: x230 :: x231 :: x232 :: x233 :: x234 :: x235 :: x236 :: x237 :: x238 :: x239 :: x240 :: x241 :: x242 :: x243 :: x244 :: x245 :: x246 :: x247 :: x248 :: x249 :: x250 :: x251 :: x252 :: x253 :: x254 :: x255 :: x256 :: x257 :: x258 :: x259 :: x260 :: x261 :: x262 :: x263 :: []).toArray, defers := [] } wB := by
  conv => arg 2; whnf
  obtain ⟨ik, hk0, hk1, hk2, hk3⟩ := info_parts infoC
  have HIK := Lib.hid (And.intro hk0 (And.intro hk1 (And.intro hk2 hk3)))
  clear hk0 hk1 hk2 hk3
  obtain ⟨ip, hp0, hp1, hp2, hp3⟩ := info_parts infoP
  have HIP := Lib.hid (And.intro hp0 (And.intro hp1 (And.intro hp2 hp3)))
  clear hp0 hp1 hp2 hp3
  obtain ⟨ig, hg0, hg1, hg2, hg3⟩ := info_parts infoG
  have HIG := Lib.hid (And.intro hg0 (And.intro hg1 (And.intro hg2 hg3)))
  clear hg0 hg1 hg2 hg3
  obtain ⟨iq, hq0, hq1, hq2, hq3⟩ := info_parts infoQ
  have HIQ := Lib.hid (And.intro hq0 (And.intro hq1 (And.intro hq2 hq3)))
  clear hq0 hq1 hq2 hq3
  obtain ⟨ii, hi0, hi1, hi2, hi3⟩ := info_parts infoI
  have HII := Lib.hid (And.intro hi0 (And.intro hi1 (And.intro hi2 hi3)))
  clear hi0 hi1 hi2 hi3
  have HX := Lib.hid hX
  have HB := Lib.hid hb
  have HOK := Lib.hid hk
  have HX0 := Lib.hid hX0
  have HCB := Lib.hid hCB
  have H0Y := Lib.hid h0Y
  have HNA := Lib.hid hNA
  have HBLD0 := Lib.hid hB0
  clear hNA hB0
  clear hX hb hk hX0 hCB h0Y
  go_loopw [7, 8] (fun gv iv wr => ∃ (m : Nat) (v : Value) (rows : List (List Value)), gv = .bool ((c.cs.take m).all fun x => (x.resT c.cs).2) ∧ iv = .int .i64 m ∧ m ≤ c.cs.length ∧ Bld w0 wA Y 0 29 41 16 (fun u => [u, .slice d.a1 c.sm.length d.k1, .slice d.a2 c.pg.length d.k2, .slice d.a3 c.kl.length d.k3, .slice d.a4 c.fe.length d.k4, .slice d.a5 c.ho.length d.k5, .slice d.a6 c.cu.length d.k6]) (fun (x : Cr) q V => CrN wA.heap.size V (x.resT c.cs).1 q) c.cs m v rows wr) (fun _ iv _ => c.cs.length - (intOf iv).toNat)
  case atStart => exact ⟨0, _, [], rfl, rfl, by omega, HBLD0.out⟩
  case round =>
    obtain ⟨m, v, rows, rfl, rfl, hm, hbl⟩ := hrel
    have HBL := Lib.hid hbl
    have HE := Lib.hid hbl.ext
    have b0 := (HCB.out.kpC hbl.ext.kpC).cell (j := 0) rfl
    have hs0 := HX.out.cs.max
    clear hbl
    by_cases hlt : m < c.cs.length
    · have hki : (m : Int) < (c.cs.length : Int) := by omega
      obtain ⟨gb, hgb⟩ : ∃ gb, ((c.cs.take m).all fun x => (x.resT c.cs).2) = gb := ⟨_, rfl⟩
      have HGB := Lib.hid hgb
      rw [hgb]
      obtain ⟨x, hx⟩ : ∃ x, c.cs[m]? = some x := ⟨_, List.getElem?_eq_getElem hlt⟩
      obtain ⟨B1, o, a, n, b, m', eB, hkn, hkb, hon, hob, hox, hcell⟩ := (HX.out.cs.ext (HX0.out.trans HE.out)).at hx
      have HXM := Lib.hid hx
      have EB := Lib.hid eB
      have HOX := Lib.hid hox
      have HPT := Lib.hid (HB.out x (List.mem_of_getElem? hx))
      have HR1 := Lib.hid (RepU.of hkn hon)
      have HR2 := Lib.hid (RepU.of hkb hob)
      have HCS : Hid (∀ W, Ext wr W → RepC W (some ⟨B1, o, none⟩) d.k0 c.cs) := Lib.hid fun W hW => eB ▸ HX.out.cs.ext (HX0.out.trans (HE.out.trans hW))
      rw [eB] at b0
      have d0 : wr.cell? ⟨B1, o + m * 16, none⟩ = some (.string x.nm) := hcell 0 _ rfl
      have d1 : wr.cell? ⟨B1, o + m * 16 + 1, none⟩ = some (.int .i64 x.nu) := hcell 1 _ rfl
      have d2 : wr.cell? ⟨B1, o + m * 16 + 2, none⟩ = some (.int .i64 x.cr) := hcell 2 _ rfl
      have d3 : wr.cell? ⟨B1, o + m * 16 + 3, none⟩ = some (.int .i64 x.rp) := hcell 3 _ rfl
      have d4 : wr.cell? ⟨B1, o + m * 16 + 4, none⟩ = some (.int .i64 x.need.op) := hcell 4 _ rfl
      have d5 : wr.cell? ⟨B1, o + m * 16 + 5, none⟩ = some (.int .i64 x.need.co) := hcell 5 _ rfl
      have d6 : wr.cell? ⟨B1, o + m * 16 + 6, none⟩ = some (.string x.need.nm) := hcell 6 _ rfl
      have d7 : wr.cell? ⟨B1, o + m * 16 + 7, none⟩ = some (.int .i64 x.need.n) := hcell 7 _ rfl
      have d8 : wr.cell? ⟨B1, o + m * 16 + 8, none⟩ = some (.int .i64 x.need.d) := hcell 8 _ rfl
      have d9 : wr.cell? ⟨B1, o + m * 16 + 9, none⟩ = some (.slice a x.need.kids.length n) := hcell 9 _ rfl
      have d10 : wr.cell? ⟨B1, o + m * 16 + 10, none⟩ = some (.int .i64 x.bar.op) := hcell 10 _ rfl
      have d11 : wr.cell? ⟨B1, o + m * 16 + 11, none⟩ = some (.int .i64 x.bar.co) := hcell 11 _ rfl
      have d12 : wr.cell? ⟨B1, o + m * 16 + 12, none⟩ = some (.string x.bar.nm) := hcell 12 _ rfl
      have d13 : wr.cell? ⟨B1, o + m * 16 + 13, none⟩ = some (.int .i64 x.bar.n) := hcell 13 _ rfl
      have d14 : wr.cell? ⟨B1, o + m * 16 + 14, none⟩ = some (.int .i64 x.bar.d) := hcell 14 _ rfl
      have d15 : wr.cell? ⟨B1, o + m * 16 + 15, none⟩ = some (.slice b x.bar.kids.length m') := hcell 15 _ rfl
      clear hgb hx hcell hkn hkb hon hob hox eB
      have HPR : Hid (Row (wr.alloc (.cells #[.string x.nm, .int .i64 x.nu, .int .i64 x.cr, .int .i64 x.rp, .int .i64 x.need.op, .int .i64 x.need.co, .string x.need.nm, .int .i64 x.need.n, .int .i64 x.need.d, .slice a x.need.kids.length n, .int .i64 x.bar.op, .int .i64 x.bar.co, .string x.bar.nm, .int .i64 x.bar.n, .int .i64 x.bar.d, .slice b x.bar.kids.length m'] 41)) wr.heap.size 41 [.string x.nm, .int .i64 x.nu, .int .i64 x.cr, .int .i64 x.rp, .int .i64 x.need.op, .int .i64 x.need.co, .string x.need.nm, .int .i64 x.need.n, .int .i64 x.need.d, .slice a x.need.kids.length n, .int .i64 x.bar.op, .int .i64 x.bar.co, .string x.bar.nm, .int .i64 x.bar.n, .int .i64 x.bar.d, .slice b x.bar.kids.length m']) := Lib.hid (row_al _ _ _)
      have HPE : Hid (Ext wr (wr.alloc (.cells #[.string x.nm, .int .i64 x.nu, .int .i64 x.cr, .int .i64 x.rp, .int .i64 x.need.op, .int .i64 x.need.co, .string x.need.nm, .int .i64 x.need.n, .int .i64 x.need.d, .slice a x.need.kids.length n, .int .i64 x.bar.op, .int .i64 x.bar.co, .string x.bar.nm, .int .i64 x.bar.n, .int .i64 x.bar.d, .slice b x.bar.kids.length m'] 41))) := Lib.hid ((Ext.refl _).alloc _)
      have HPS : Hid ((wr.alloc (.cells #[.string x.nm, .int .i64 x.nu, .int .i64 x.cr, .int .i64 x.rp, .int .i64 x.need.op, .int .i64 x.need.co, .string x.need.nm, .int .i64 x.need.n, .int .i64 x.need.d, .slice a x.need.kids.length n, .int .i64 x.bar.op, .int .i64 x.bar.co, .string x.bar.nm, .int .i64 x.bar.n, .int .i64 x.bar.d, .slice b x.bar.kids.length m'] 41)).heap.size = wr.heap.size + 1) := Lib.hid (by simp)
      have b1 := (HCB.out.kpC (HE.out.trans HPE.out).kpC).cell (j := 1) rfl
      have b2 := (HCB.out.kpC (HE.out.trans HPE.out).kpC).cell (j := 2) rfl
      have b3 := (HCB.out.kpC (HE.out.trans HPE.out).kpC).cell (j := 3) rfl
      have b4 := (HCB.out.kpC (HE.out.trans HPE.out).kpC).cell (j := 4) rfl
      have b5 := (HCB.out.kpC (HE.out.trans HPE.out).kpC).cell (j := 5) rfl
      have b6 := (HCB.out.kpC (HE.out.trans HPE.out).kpC).cell (j := 6) rfl
      have bb0 := al_cell b0 (.cells #[.string x.nm, .int .i64 x.nu, .int .i64 x.cr, .int .i64 x.rp, .int .i64 x.need.op, .int .i64 x.need.co, .string x.need.nm, .int .i64 x.need.n, .int .i64 x.need.d, .slice a x.need.kids.length n, .int .i64 x.bar.op, .int .i64 x.bar.co, .string x.bar.nm, .int .i64 x.bar.n, .int .i64 x.bar.d, .slice b x.bar.kids.length m'] 41)
      go_wp2_with fail
      clear b0 bb0 b1 b2 b3 b4 b5 b6 d0 d1 d2 d3 d4 d5 d6 d7 d8 d9 d10 d11 d12 d13 d14 d15
      obtain ⟨wP, hwP⟩ : ∃ wP, (wr.alloc (.cells #[.string x.nm, .int .i64 x.nu, .int .i64 x.cr, .int .i64 x.rp, .int .i64 x.need.op, .int .i64 x.need.co, .string x.need.nm, .int .i64 x.need.n, .int .i64 x.need.d, .slice a x.need.kids.length n, .int .i64 x.bar.op, .int .i64 x.bar.co, .string x.bar.nm, .int .i64 x.bar.n, .int .i64 x.bar.d, .slice b x.bar.kids.length m'] 41)) = wP := ⟨_, rfl⟩
      rw [hwP] at HPR HPE HPS
      rw [hwP]
      clear hwP
      obtain ⟨⟨y, k1⟩, hy⟩ : ∃ y, x.need.resT c.cs = y := ⟨_, rfl⟩
      obtain ⟨⟨z, k2⟩, hz⟩ : ∃ z, x.bar.resT c.cs = z := ⟨_, rfl⟩
      have hcall := refRule_any HR1.out (some ⟨B1, o, none⟩) d.k0 (.slice d.a1 c.sm.length d.k1) (.slice d.a2 c.pg.length d.k2) (.slice d.a3 c.kl.length d.k3) (.slice d.a4 c.fe.length d.k4) (.slice d.a5 c.ho.length d.k5) (.slice d.a6 c.cu.length d.k6) wP HPE.out (HCS.out _ HPE.out) HPT.out.1
      rw [hy] at hcall
      refine hcall.mono ?_
      clear hcall
      rintro e w2 ⟨a1, n1, rfl, hN1, hE2⟩
      have HN1 := Lib.hid hN1
      have HE2 := Lib.hid (HPE.out.trans hE2)
      have HPR2 := Lib.hid (al_row (HPR.out.kpC hE2.kpC) (.cells #[.int .i64 y.op, .int .i64 y.co, .string y.nm, .int .i64 y.n, .int .i64 y.d, .slice a1 y.kids.length n1] 39))
      have HT1 : Hid (Row (w2.alloc (.cells #[.int .i64 y.op, .int .i64 y.co, .string y.nm, .int .i64 y.n, .int .i64 y.d, .slice a1 y.kids.length n1] 39)) w2.heap.size 39 [.int .i64 y.op, .int .i64 y.co, .string y.nm, .int .i64 y.n, .int .i64 y.d, .slice a1 y.kids.length n1]) := Lib.hid (row_al _ _ _)
      have HXYZ := Lib.hid (And.intro hy hz)
      have HS2 : Hid (wr.heap.size + 1 ≤ w2.heap.size) := Lib.hid (by have := hE2.size; have := HPS.out; omega)
      have HE2A : Hid (Ext wr (w2.alloc (.cells #[.int .i64 y.op, .int .i64 y.co, .string y.nm, .int .i64 y.n, .int .i64 y.d, .slice a1 y.kids.length n1] 39))) := Lib.hid (HE2.out.alloc _)
      have HE2B : Hid (Ext w2 (w2.alloc (.cells #[.int .i64 y.op, .int .i64 y.co, .string y.nm, .int .i64 y.n, .int .i64 y.d, .slice a1 y.kids.length n1] 39))) := Lib.hid ((Ext.refl _).alloc _)
      clear hy hN1 hE2
      unfold Rt.cells
      have b0 := (HCB.out.kpC (HE.out.trans HE2A.out).kpC).cell (j := 0) rfl
      have b1 := (HCB.out.kpC (HE.out.trans HE2A.out).kpC).cell (j := 1) rfl
      have b2 := (HCB.out.kpC (HE.out.trans HE2A.out).kpC).cell (j := 2) rfl
      have b3 := (HCB.out.kpC (HE.out.trans HE2A.out).kpC).cell (j := 3) rfl
      have b4 := (HCB.out.kpC (HE.out.trans HE2A.out).kpC).cell (j := 4) rfl
      have b5 := (HCB.out.kpC (HE.out.trans HE2A.out).kpC).cell (j := 5) rfl
      have b6 := (HCB.out.kpC (HE.out.trans HE2A.out).kpC).cell (j := 6) rfl
      rw [EB.out] at b0
      have p10 := HPR2.out.cell (j := 10) rfl
      have p11 := HPR2.out.cell (j := 11) rfl
      have p12 := HPR2.out.cell (j := 12) rfl
      have p13 := HPR2.out.cell (j := 13) rfl
      have p14 := HPR2.out.cell (j := 14) rfl
      have p15 := HPR2.out.cell (j := 15) rfl
      go_wp2_with fail
      clear b0 b1 b2 b3 b4 b5 b6 p10 p11 p12 p13 p14 p15
      obtain ⟨wT, hwT⟩ : ∃ wT, (w2.alloc (.cells #[.int .i64 y.op, .int .i64 y.co, .string y.nm, .int .i64 y.n, .int .i64 y.d, .slice a1 y.kids.length n1] 39)) = wT := ⟨_, rfl⟩
      rw [hwT] at HPR2 HT1 HE2A HE2B
      rw [hwT]
      clear hwT
      have hcall := refRule_any HR2.out (some ⟨B1, o, none⟩) d.k0 (.slice d.a1 c.sm.length d.k1) (.slice d.a2 c.pg.length d.k2) (.slice d.a3 c.kl.length d.k3) (.slice d.a4 c.fe.length d.k4) (.slice d.a5 c.ho.length d.k5) (.slice d.a6 c.cu.length d.k6) wT HE2A.out (HCS.out _ HE2A.out) HPT.out.2
      rw [hz] at hcall
      refine hcall.mono ?_
      clear hcall hz
      rintro e w3 ⟨a2, n2, rfl, hN2, hE3⟩
      have HN2 := Lib.hid hN2
      have HE3 := Lib.hid (HE2A.out.trans hE3)
      have hT13 := HT1.out.kpC hE3.kpC
      have hP3 := HPR2.out.kpC hE3.kpC
      have hN13 := (HN1.out.kpC (HE2B.out.trans hE3).kpC).mono (M := wr.heap.size + 1) (by rw [HPS.out]; exact Nat.le_refl _)
      have hS3 : w2.heap.size < w3.heap.size := Nat.lt_of_lt_of_le (Array.getElem?_eq_some_iff.1 HT1.out).1 hE3.size
      have HT2 : Hid (Row (w3.alloc (.cells #[.int .i64 z.op, .int .i64 z.co, .string z.nm, .int .i64 z.n, .int .i64 z.d, .slice a2 z.kids.length n2] 39)) w2.heap.size 39 [.int .i64 y.op, .int .i64 y.co, .string y.nm, .int .i64 y.n, .int .i64 y.d, .slice a1 y.kids.length n1] ∧ Row (w3.alloc (.cells #[.int .i64 z.op, .int .i64 z.co, .string z.nm, .int .i64 z.n, .int .i64 z.d, .slice a2 z.kids.length n2] 39)) w3.heap.size 39 [.int .i64 z.op, .int .i64 z.co, .string z.nm, .int .i64 z.n, .int .i64 z.d, .slice a2 z.kids.length n2] ∧ Row (w3.alloc (.cells #[.int .i64 z.op, .int .i64 z.co, .string z.nm, .int .i64 z.n, .int .i64 z.d, .slice a2 z.kids.length n2] 39)) wr.heap.size 41 [.string x.nm, .int .i64 x.nu, .int .i64 x.cr, .int .i64 x.rp, .int .i64 x.need.op, .int .i64 x.need.co, .string x.need.nm, .int .i64 x.need.n, .int .i64 x.need.d, .slice a x.need.kids.length n, .int .i64 x.bar.op, .int .i64 x.bar.co, .string x.bar.nm, .int .i64 x.bar.n, .int .i64 x.bar.d, .slice b x.bar.kids.length m'] ∧ Ext wr (w3.alloc (.cells #[.int .i64 z.op, .int .i64 z.co, .string z.nm, .int .i64 z.n, .int .i64 z.d, .slice a2 z.kids.length n2] 39)) ∧ RepN (wr.heap.size + 1) (w3.alloc (.cells #[.int .i64 z.op, .int .i64 z.co, .string z.nm, .int .i64 z.n, .int .i64 z.d, .slice a2 z.kids.length n2] 39)) y [.int .i64 y.op, .int .i64 y.co, .string y.nm, .int .i64 y.n, .int .i64 y.d, .slice a1 y.kids.length n1] ∧ RepN (wr.heap.size + 1) (w3.alloc (.cells #[.int .i64 z.op, .int .i64 z.co, .string z.nm, .int .i64 z.n, .int .i64 z.d, .slice a2 z.kids.length n2] 39)) z [.int .i64 z.op, .int .i64 z.co, .string z.nm, .int .i64 z.n, .int .i64 z.d, .slice a2 z.kids.length n2]) := Lib.hid ⟨al_row hT13 _, row_al _ _ _, al_row hP3 _, HE3.out.alloc _, hN13.kpC ((Ext.refl _).alloc _).kpC, (HN2.out.kpC ((Ext.refl _).alloc _).kpC).mono (by have := HS2.out; have := (Array.getElem?_eq_some_iff.1 HT1.out).1; omega)⟩
      have HS3 := Lib.hid hS3
      clear hN2 hE3 hT13 hP3 hN13 hS3 HN1 HN2 HE2 HE2A HE2B HT1 HPR2 HPR HPE HR1 HR2 HCS HPT EB
      unfold Rt.cells
      dsimp only
      go_upto_region 20 with fail
      obtain ⟨w4, hw4⟩ : ∃ w4, (w3.alloc (.cells #[.int .i64 z.op, .int .i64 z.co, .string z.nm, .int .i64 z.n, .int .i64 z.d, .slice a2 z.kids.length n2] 39)) = w4 := ⟨_, rfl⟩
      rw [hw4] at HT2
      rw [hw4]
      clear hw4
      go_cut [7] from 104 to 110 (fun s7 wx => s7 = .bool (gb && k1 && k2) ∧ w4 = wx)
      case first =>
        clear HGB HXYZ
        cases gb <;> cases k1 <;> cases k2
        all_goals
          go_wp2_with fail
          go_meet
          exact ⟨rfl, rfl⟩
      case rest =>
        obtain ⟨hc7, hcw⟩ := hcut
        subst hc7
        subst hcw
        have t0 := HT2.out.1.cell (j := 0) rfl
        have t1 := HT2.out.1.cell (j := 1) rfl
        have t2 := HT2.out.1.cell (j := 2) rfl
        have t3 := HT2.out.1.cell (j := 3) rfl
        have t4 := HT2.out.1.cell (j := 4) rfl
        have t5 := HT2.out.1.cell (j := 5) rfl
        have p4 := HT2.out.2.2.1.cell (j := 4) rfl
        have f4 := HT2.out.2.2.1.froz 4
        have p5 := HT2.out.2.2.1.cell (j := 5) rfl
        have f5 := HT2.out.2.2.1.froz 5
        have p6 := HT2.out.2.2.1.cell (j := 6) rfl
        have f6 := HT2.out.2.2.1.froz 6
        have p7 := HT2.out.2.2.1.cell (j := 7) rfl
        have f7 := HT2.out.2.2.1.froz 7
        have p8 := HT2.out.2.2.1.cell (j := 8) rfl
        have f8 := HT2.out.2.2.1.froz 8
        have p9 := HT2.out.2.2.1.cell (j := 9) rfl
        have f9 := HT2.out.2.2.1.froz 9
        go_upto_region 22 with fail
        clear t0 t1 t2 t3 t4 t5 p4 p5 p6 p7 p8 p9 f4 f5 f6 f7 f8 f9
        have hgr := setCells_grown wr.heap.size [Value.int .i64 y.op, Value.int .i64 y.co, Value.string y.nm, Value.int .i64 y.n, Value.int .i64 y.d, Value.slice a1 y.kids.length n1] w4 4
        have hrow : Row (w4.setCells wr.heap.size 4 [Value.int .i64 y.op, Value.int .i64 y.co, Value.string y.nm, Value.int .i64 y.n, Value.int .i64 y.d, Value.slice a1 y.kids.length n1]) wr.heap.size 41 [.string x.nm, .int .i64 x.nu, .int .i64 x.cr, .int .i64 x.rp, .int .i64 y.op, .int .i64 y.co, .string y.nm, .int .i64 y.n, .int .i64 y.d, .slice a1 y.kids.length n1, .int .i64 x.bar.op, .int .i64 x.bar.co, .string x.bar.nm, .int .i64 x.bar.n, .int .i64 x.bar.d, .slice b x.bar.kids.length m'] := HT2.out.2.2.1.set (vs := [Value.int .i64 y.op, Value.int .i64 y.co, Value.string y.nm, Value.int .i64 y.n, Value.int .i64 y.d, Value.slice a1 y.kids.length n1]) (o := 4) (by decide : 4 + 6 ≤ 16)
        obtain ⟨w5, hw5⟩ : ∃ w5, w4.setCells wr.heap.size 4 [Value.int .i64 y.op, Value.int .i64 y.co, Value.string y.nm, Value.int .i64 y.n, Value.int .i64 y.d, Value.slice a1 y.kids.length n1] = w5 := ⟨_, rfl⟩
        rw [hw5] at hgr hrow
        rw [show ((((((w4.setCell ⟨wr.heap.size, 4, none⟩ (Value.int .i64 y.op)).setCell ⟨wr.heap.size, 5, none⟩ (Value.int .i64 y.co)).setCell ⟨wr.heap.size, 6, none⟩ (Value.string y.nm)).setCell ⟨wr.heap.size, 7, none⟩ (Value.int .i64 y.n)).setCell ⟨wr.heap.size, 8, none⟩ (Value.int .i64 y.d)).setCell ⟨wr.heap.size, 9, none⟩ (Value.slice a1 y.kids.length n1)) = w5 from hw5]
        have hkp := grown_kpE hgr
        have HT5 : Hid (Row w5 w3.heap.size 39 [.int .i64 z.op, .int .i64 z.co, .string z.nm, .int .i64 z.n, .int .i64 z.d, .slice a2 z.kids.length n2] ∧ Row w5 wr.heap.size 41 [.string x.nm, .int .i64 x.nu, .int .i64 x.cr, .int .i64 x.rp, .int .i64 y.op, .int .i64 y.co, .string y.nm, .int .i64 y.n, .int .i64 y.d, .slice a1 y.kids.length n1, .int .i64 x.bar.op, .int .i64 x.bar.co, .string x.bar.nm, .int .i64 x.bar.n, .int .i64 x.bar.d, .slice b x.bar.kids.length m'] ∧ Ext wr w5 ∧ RepN (wr.heap.size + 1) w5 y [.int .i64 y.op, .int .i64 y.co, .string y.nm, .int .i64 y.n, .int .i64 y.d, .slice a1 y.kids.length n1] ∧ RepN (wr.heap.size + 1) w5 z [.int .i64 z.op, .int .i64 z.co, .string z.nm, .int .i64 z.n, .int .i64 z.d, .slice a2 z.kids.length n2]) := Lib.hid ⟨HT2.out.2.1.kpE hkp (by have := HS3.out; have := HS2.out; omega), hrow, Below.grown HT2.out.2.2.2.1 hgr HT2.out.2.2.2.1.size (fun x hx => by cases hx; exact Nat.le_refl _), HT2.out.2.2.2.2.1.kpE hkp (Nat.lt_succ_self _), HT2.out.2.2.2.2.2.kpE hkp (Nat.lt_succ_self _)⟩
        clear hgr hrow hw5 hkp HT2
        have t0 := HT5.out.1.cell (j := 0) rfl
        have t1 := HT5.out.1.cell (j := 1) rfl
        have t2 := HT5.out.1.cell (j := 2) rfl
        have t3 := HT5.out.1.cell (j := 3) rfl
        have t4 := HT5.out.1.cell (j := 4) rfl
        have t5 := HT5.out.1.cell (j := 5) rfl
        have p10 := HT5.out.2.1.cell (j := 10) rfl
        have f10 := HT5.out.2.1.froz 10
        have p11 := HT5.out.2.1.cell (j := 11) rfl
        have f11 := HT5.out.2.1.froz 11
        have p12 := HT5.out.2.1.cell (j := 12) rfl
        have f12 := HT5.out.2.1.froz 12
        have p13 := HT5.out.2.1.cell (j := 13) rfl
        have f13 := HT5.out.2.1.froz 13
        have p14 := HT5.out.2.1.cell (j := 14) rfl
        have f14 := HT5.out.2.1.froz 14
        have p15 := HT5.out.2.1.cell (j := 15) rfl
        have f15 := HT5.out.2.1.froz 15
        go_upto_region 23 with fail
        clear t0 t1 t2 t3 t4 t5 p10 p11 p12 p13 p14 p15 f10 f11 f12 f13 f14 f15
        have hgr := setCells_grown wr.heap.size [Value.int .i64 z.op, Value.int .i64 z.co, Value.string z.nm, Value.int .i64 z.n, Value.int .i64 z.d, Value.slice a2 z.kids.length n2] w5 10
        have hrow : Row (w5.setCells wr.heap.size 10 [Value.int .i64 z.op, Value.int .i64 z.co, Value.string z.nm, Value.int .i64 z.n, Value.int .i64 z.d, Value.slice a2 z.kids.length n2]) wr.heap.size 41 [.string x.nm, .int .i64 x.nu, .int .i64 x.cr, .int .i64 x.rp, .int .i64 y.op, .int .i64 y.co, .string y.nm, .int .i64 y.n, .int .i64 y.d, .slice a1 y.kids.length n1, .int .i64 z.op, .int .i64 z.co, .string z.nm, .int .i64 z.n, .int .i64 z.d, .slice a2 z.kids.length n2] := HT5.out.2.1.set (vs := [Value.int .i64 z.op, Value.int .i64 z.co, Value.string z.nm, Value.int .i64 z.n, Value.int .i64 z.d, Value.slice a2 z.kids.length n2]) (o := 10) (by decide : 10 + 6 ≤ 16)
        obtain ⟨w6, hw6⟩ : ∃ w6, w5.setCells wr.heap.size 10 [Value.int .i64 z.op, Value.int .i64 z.co, Value.string z.nm, Value.int .i64 z.n, Value.int .i64 z.d, Value.slice a2 z.kids.length n2] = w6 := ⟨_, rfl⟩
        rw [hw6] at hgr hrow
        rw [show ((((((w5.setCell ⟨wr.heap.size, 10, none⟩ (Value.int .i64 z.op)).setCell ⟨wr.heap.size, 11, none⟩ (Value.int .i64 z.co)).setCell ⟨wr.heap.size, 12, none⟩ (Value.string z.nm)).setCell ⟨wr.heap.size, 13, none⟩ (Value.int .i64 z.n)).setCell ⟨wr.heap.size, 14, none⟩ (Value.int .i64 z.d)).setCell ⟨wr.heap.size, 15, none⟩ (Value.slice a2 z.kids.length n2)) = w6 from hw6]
        have hkp := grown_kpE hgr
        have HT6 : Hid (Row w6 wr.heap.size 41 [.string x.nm, .int .i64 x.nu, .int .i64 x.cr, .int .i64 x.rp, .int .i64 y.op, .int .i64 y.co, .string y.nm, .int .i64 y.n, .int .i64 y.d, .slice a1 y.kids.length n1, .int .i64 z.op, .int .i64 z.co, .string z.nm, .int .i64 z.n, .int .i64 z.d, .slice a2 z.kids.length n2] ∧ Ext wr w6 ∧ RepN (wr.heap.size + 1) w6 y [.int .i64 y.op, .int .i64 y.co, .string y.nm, .int .i64 y.n, .int .i64 y.d, .slice a1 y.kids.length n1] ∧ RepN (wr.heap.size + 1) w6 z [.int .i64 z.op, .int .i64 z.co, .string z.nm, .int .i64 z.n, .int .i64 z.d, .slice a2 z.kids.length n2]) := Lib.hid ⟨hrow, Below.grown HT5.out.2.2.1 hgr HT5.out.2.2.1.size (fun x hx => by cases hx; exact Nat.le_refl _), HT5.out.2.2.2.1.kpE hkp (Nat.lt_succ_self _), HT5.out.2.2.2.2.kpE hkp (Nat.lt_succ_self _)⟩
        clear hgr hrow hw6 hkp HT5
        have p0 := HT6.out.1.cell (j := 0) rfl
        have p1 := HT6.out.1.cell (j := 1) rfl
        have p2 := HT6.out.1.cell (j := 2) rfl
        have p3 := HT6.out.1.cell (j := 3) rfl
        have p4 := HT6.out.1.cell (j := 4) rfl
        have p5 := HT6.out.1.cell (j := 5) rfl
        have p6 := HT6.out.1.cell (j := 6) rfl
        have p7 := HT6.out.1.cell (j := 7) rfl
        have p8 := HT6.out.1.cell (j := 8) rfl
        have p9 := HT6.out.1.cell (j := 9) rfl
        have p10 := HT6.out.1.cell (j := 10) rfl
        have p11 := HT6.out.1.cell (j := 11) rfl
        have p12 := HT6.out.1.cell (j := 12) rfl
        have p13 := HT6.out.1.cell (j := 13) rfl
        have p14 := HT6.out.1.cell (j := 14) rfl
        have p15 := HT6.out.1.cell (j := 15) rfl
        have y0 : w6.cell? ⟨Y, 0, none⟩ = some v := (HBL.out.row.kpC HT6.out.2.1.kpC).cell rfl
        have HAL : Hid (Ext wr (w6.alloc (.cells #[.string x.nm, .int .i64 x.nu, .int .i64 x.cr, .int .i64 x.rp, .int .i64 y.op, .int .i64 y.co, .string y.nm, .int .i64 y.n, .int .i64 y.d, .slice a1 y.kids.length n1, .int .i64 z.op, .int .i64 z.co, .string z.nm, .int .i64 z.n, .int .i64 z.d, .slice a2 z.kids.length n2] 41))) := Lib.hid (HT6.out.2.1.alloc _)
        have HYN : Hid (Y < wA.heap.size) := Lib.hid (by rw [HNA.out]; exact Nat.lt_succ_self _)
        go_wp2_with (at_builtin; refine wpList_append_S rfl _ _ 22 22 rfl wA.heap.size 41 ik _ 16 184 Try.underlying22 HIK.out.1 HIK.out.2.1 HIK.out.2.2.1 HIK.out.2.2.2 rfl v _ _ rfl (ownsRow_ext HBL.out.own HAL.out) _ 1 [.string x.nm, .int .i64 x.nu, .int .i64 x.cr, .int .i64 x.rp, .int .i64 y.op, .int .i64 y.co, .string y.nm, .int .i64 y.n, .int .i64 y.d, .slice a1 y.kids.length n1, .int .i64 z.op, .int .i64 z.co, .string z.nm, .int .i64 z.n, .int .i64 z.d, .slice a2 z.kids.length n2] rfl (Src.ofOwn (own_row (cs := [.string x.nm, .int .i64 x.nu, .int .i64 x.cr, .int .i64 x.rp, .int .i64 y.op, .int .i64 y.co, .string y.nm, .int .i64 y.n, .int .i64 y.d, .slice a1 y.kids.length n1, .int .i64 z.op, .int .i64 z.co, .string z.nm, .int .i64 z.n, .int .i64 z.d, .slice a2 z.kids.length n2]) (e := 41) (base := 0) rfl (Nat.zero_le _) rfl) Try.underlying22 (by simp [Value.oneCell'])) (by have := HOK.out.n0; unfold maxLen; omega) (by have := HOK.out.n0; omega) (by have := HBL.out.kp.1; have := HAL.out.size; omega) ?_; intro v7 w7 ho7 hg7; obtain ⟨va, vc, rfl⟩ := ownsRow_slice ho7; have hy7 := HBL.out.grow_row HYN.out HAL.out hg7; have z0 : w7.cell? ⟨Y, 0, none⟩ = some v := hy7.cell rfl; have f0 := hy7.froz 0; have HO7 := Lib.hid ho7; have HG7 := Lib.hid hg7; clear ho7 hg7 hy7)
        clear y0 z0 f0 p0 p1 p2 p3 p4 p5 p6 p7 p8 p9 p10 p11 p12 p13 p14 p15
        go_roundw
        case rel =>
          have hR : (x.resT c.cs).1 = { x with need := y, bar := z } := by unfold Cr.resT; rw [HXYZ.out.1, HXYZ.out.2]
          have hq : CrN (wr.heap.size + 1) w6 (x.resT c.cs).1 [.string x.nm, .int .i64 x.nu, .int .i64 x.cr, .int .i64 x.rp, .int .i64 y.op, .int .i64 y.co, .string y.nm, .int .i64 y.n, .int .i64 y.d, .slice a1 y.kids.length n1, .int .i64 z.op, .int .i64 z.co, .string z.nm, .int .i64 z.n, .int .i64 z.d, .slice a2 z.kids.length n2] := by rw [hR]; exact ⟨[.int .i64 y.op, .int .i64 y.co, .string y.nm, .int .i64 y.n, .int .i64 y.d, .slice a1 y.kids.length n1], [.int .i64 z.op, .int .i64 z.co, .string z.nm, .int .i64 z.n, .int .i64 z.d, .slice a2 z.kids.length n2], rfl, HT6.out.2.2.1, HT6.out.2.2.2, HOX.out⟩
          refine ⟨m + 1, _, rows ++ [[.string x.nm, .int .i64 x.nu, .int .i64 x.cr, .int .i64 x.rp, .int .i64 y.op, .int .i64 y.co, .string y.nm, .int .i64 y.n, .int .i64 y.d, .slice a1 y.kids.length n1, .int .i64 z.op, .int .i64 z.co, .string z.nm, .int .i64 z.n, .int .i64 z.d, .slice a2 z.kids.length n2]], ?_, by go_num, by omega, HBL.out.step H0Y.out HYN.out (fun _ _ => rfl) (fun _ => (by decide : 0 + 1 ≤ 7)) HXM.out HAL.out ((hq.far (by have := HBL.out.kp.1; omega) (fun k hk => by have := (HBL.out.lt k hk).2; omega)).ext ((Ext.refl w6).alloc _)) HG7.out HO7.out⟩
          rw [all_snoc HXM.out, HGB.out]
          show _ = Value.bool (gb && ((x.need.resT c.cs).2 && (x.bar.resT c.cs).2))
          rw [HXYZ.out.1, HXYZ.out.2, Bool.and_assoc]
        case measure => simp [intOf] <;> omega
    · have hki : ¬ (m : Int) < (c.cs.length : Int) := by omega
      obtain rfl : m = c.cs.length := by omega
      rw [List.take_length]
      go_wp2_with fail
      exact ⟨rfl, ⟨_, _, _, _, _, _, _, _, _, _, _, _, _, _, _, _, _, _, _, _, _, _, _, _, _, _, _, _, _, _, _, _, _, _, _, _, _, _, _, _, _, _, _, _, _, _, _, _, _, rfl⟩, v, rows, HBL.out⟩
end Go.Proofs.Ytimigpfoflilcaa

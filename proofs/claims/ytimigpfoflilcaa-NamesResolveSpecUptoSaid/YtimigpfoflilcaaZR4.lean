/- Names: the reference's Resolve, the loop over the programmes. -/
import Derived.Test.YtimigpfoflilcaaZR1
namespace Go.Proofs.Ytimigpfoflilcaa
open Go.RowKit Go.Sz
set_option maxRecDepth 1000000 in
set_option maxHeartbeats 12800000 in
theorem loop5R (c : Cat) (hk : c.Ok) (hb : ∀ x ∈ c.cs, x.need.parts.length ≤ 1048576 ∧ x.bar.parts.length ≤ 1048576) (d : Adr) (w w0 : World) (hX : RepX w d c) (hX0 : Ext w w0) (hCB : Row w0 w.heap.size 29 [.slice d.a0 c.cs.length d.k0, .slice d.a1 c.sm.length d.k1, .slice d.a2 c.pg.length d.k2, .slice d.a3 c.kl.length d.k3, .slice d.a4 c.fe.length d.k4, .slice d.a5 c.ho.length d.k5, .slice d.a6 c.cu.length d.k6]) (Y : Nat) (h0Y : w0.heap.size ≤ Y) (wD wB : World) (aC aS : Option Addr) (kC kS : Nat) (g4 : Bool) (hA : c.arg = false) (hYD : Y < wD.heap.size) (hB2 : Bld w0 wD Y 2 29 62 7 (fun u => [(.slice aC c.cs.length kC), (.slice aS c.sm.length kS), u, .slice d.a3 c.kl.length d.k3, .slice d.a4 c.fe.length d.k4, .slice d.a5 c.ho.length d.k5, .slice d.a6 c.cu.length d.k6]) (fun (x : Pg) q V => PgN w wD.heap.size V (x.resT c.cs).1 q) c.pg 0 (.slice (some ⟨wD.heap.size, 0, none⟩) 0 0) [] wB) (x0 x3 x4 x5 x8 x9 x10 x11 x12 x13 x14 x15 x16 x17 x18 x19 x21 x22 x23 x24 x25 x26 x27 x28 x29 x30 x31 x32 x33 x34 x35 x36 x37 x38 x39 x40 x41 x42 x43 x44 x45 x46 x47 x48 x49 x50 x51 x52 x53 x54 x55 x56 x57 x58 x59 x60 x61 x62 x63 x64 x65 x66 x67 x68 x69 x70 x71 x72 x73 x74 x75 x76 x77 x78 x79 x80 x81 x82 x83 x84 x85 x86 x87 x88 x89 x90 x91 x92 x93 x94 x95 x96 x97 x98 x99 x100 x101 x102 x103 x104 x105 x106 x107 x108 x109 x110 x111 x112 x113 x114 x115 x116 x117 x118 x119 x120 x121 x122 x123 x124 x125 x126 x127 x128 x129 x130 x131 x132 x133 x134 x135 x136 x137 x138 x139 x140 x141 x142 x143 x144 x145 x146 x147 x148 x149 x150 x151 x152 x153 x154 x155 x156 x157 x158 x159 x160 x161 x162 x163 x164 x165 x166 x167 x168 x169 x170 x171 x172 x173 x174 x175 x176 x177 x178 x179 x180 x181 x182 x183 x184 x185 x186 x187 x188 x189 x190 x191 x192 x193 x194 x195 x196 x197 x198 x199 x200 x201 x202 x203 x204 x205 x206 x207 x208 x209 x210 x211 x212 x213 x214 x215 x216 x217 x218 x219 x220 x221 x222 x223 x224 x225 x226 x227 x228 x229 x230 x231 x232 x233 x234 x235 x236 x237 x238 x239 x240 x241 x242 x243 x244 x245 x246 x247 x248 x249 x250 x251 x252 x253 x254 x255 x256 x257 x258 x259 x260 x261 x262 x263 : Value) :
    Code.wp Try.prog (lpS 3) (gxQ 8 fun a V => ∃ y20 y21 y22 y23 y24 y25 y26 y27 y172 y173 y174 y175 y176 y177 y178 y179 y180 y181 y182 y183 y184 y185 y186 y187 y188 y189 y190 y191 y192 y193 y194 y195 y196 y197 y198 y199 y200 y201 y202 y203 y204 y205 y206 y207 y208 y209 y210 y211 y212 y213 y214 y215 y216 y217 y218 y219 y220 y221 y222 y223 y224 y225 y226 y227 y228 y229 y230 y231 y232 y233 y234 y235 y236 y237 y238 y239 y240 y241 y242 y243 y244 y245 y246 y247 y248 y249 y250 : Value, a = { tmps := (x0 :: (.pointer (some ⟨w.heap.size, 0, none⟩)) :: (.pointer (some ⟨w.heap.size + 1, 0, none⟩)) :: x3 :: x4 :: x5 :: (.pointer (some ⟨Y, 0, none⟩)) :: (.bool (g4 && c.pg.all fun x => (x.resT c.cs).2)) :: x8 :: x9 :: x10 :: x11 :: x12 :: x13 :: x14 :: x15 :: x16 :: x17 :: x18 :: x19 :: y20 :: y21 :: y22 :: y23 :: y24 :: y25 :: y26 :: y27 :: x28 :: x29 :: x30 :: x31 :: x32 :: x33 :: x34 :: x35 :: x36 :: x37 :: x38 :: x39 :: x40 :: x41 :: x42 :: x43 :: x44 :: x45 :: x46 :: x47 :: x48 :: x49 :: x50 :: x51 :: x52 :: x53 :: x54 :: x55 :: x56 :: x57 :: x58 :: x59 :: x60 :: x61 :: x62 :: x63 :: x64 :: x65 :: x66 :: x67 :: x68 :: x69 :: x70 :: x71 :: x72 :: x73 :: x74 :: x75 :: x76 :: x77 :: x78 :: x79 :: x80 :: x81 :: x82 :: x83 :: x84 :: x85 :: x86 :: x87 :: x88 :: x89 :: x90 :: x91 :: x92 :: x93 :: x94 :: x95 :: x96 :: x97 :: x98 :: x99 :: x100 :: x101 :: x102 :: x103 :: x104 :: x105 :: x106 :: x107 :: x108 :: x109 :: x110 :: x111 :: x112 :: x113 :: x114 :: x115 :: x116 :: x117 :: x118 :: x119 :: x120 :: x121 :: x122 :: x123 :: x124 :: x125 :: x126 :: x127 :: x128 :: x129 :: x130 :: x131 :: x132 :: x133 :: x134 :: x135 :: x136 :: x137 :: x138 :: x139 :: x140 :: x141 :: x142 :: x143 :: x144 :: x145 :: x146 :: x147 :: x148 :: x149 :: x150 :: x151 :: x152 :: x153 :: x154 :: x155 :: x156 :: x157 :: x158 :: x159 :: x160 :: x161 :: x162 :: x163 :: x164 :: x165 :: x166 :: x167 :: x168 :: x169 :: x170 :: x171 :: y172 :: y173 :: y174 :: y175 :: y176 :: y177 :: y178 :: y179 :: y180 :: y181 :: y182 :: y183 :: y184 :: y185 :: y186 :: y187 :: y188 :: y189 :: y190 :: y191 :: y192 :: y193 :: y194 :: y195 :: y196 :: y197 :: y198 :: y199 :: y200 :: y201 :: y202 :: y203 :: y204 :: y205 :: y206 :: y207 :: y208 :: y209 :: y210 :: y211 :: y212 :: y213 :: y214 :: y215 :: y216 :: y217 :: y218 :: y219 :: y220 :: y221 :: y222 :: y223 :: y224 :: y225 :: y226 :: y227 :: y228 :: y229 :: y230 :: y231 :: y232 :: y233 :: y234 :: y235 :: y236 :: y237 :: y238 :: y239 :: y240 :: y241 :: y242 :: y243 :: y244 :: y245 :: y246 :: y247 :: y248 :: y249 :: y250 :: x251 :: x252 :: x253 :: x254 :: x255 :: x256 :: x257 :: x258 :: x259 :: x260 :: x261 :: x262 :: x263 :: []).toArray, defers := [] } ∧ ∃ (v : Value) (rows : List (List Value)), Bld w0 wD Y 2 29 62 7 (fun u => [(.slice aC c.cs.length kC), (.slice aS c.sm.length kS), u, .slice d.a3 c.kl.length d.k3, .slice d.a4 c.fe.length d.k4, .slice d.a5 c.ho.length d.k5, .slice d.a6 c.cu.length d.k6]) (fun (x : Pg) q V => PgN w wD.heap.size V (x.resT c.cs).1 q) c.pg c.pg.length v rows V) { tmps := (x0 :: (.pointer (some ⟨w.heap.size, 0, none⟩)) :: (.pointer (some ⟨w.heap.size + 1, 0, none⟩)) :: x3 :: x4 :: x5 :: (.pointer (some ⟨Y, 0, none⟩)) :: (.bool g4) :: x8 :: x9 :: x10 :: x11 :: x12 :: x13 :: x14 :: x15 :: x16 :: x17 :: x18 :: x19 :: (.int .i64 0) :: x21 :: x22 :: x23 :: x24 :: x25 :: x26 :: x27 :: x28 :: x29 :: x30 :: x31 :: x32 :: x33 :: x34 :: x35 :: x36 :: x37 :: x38 :: x39 :: x40 :: x41 :: x42 :: x43 :: x44 :: x45 :: x46 :: x47 :: x48 :: x49 :: x50 :: x51 :: x52 :: x53 :: x54 :: x55 :: x56 :: x57 :: x58 :: x59 :: x60 :: x61 :: x62 :: x63 :: x64 :: x65 :: x66 :: x67 :: x68 :: x69 :: x70 :: x71 :: x72 :: x73 :: x74 :: x75 :: x76 :: x77 :: x78 :: x79 :: x80 :: x81 :: x82 :: x83 :: x84 :: x85 :: x86 :: x87 :: x88 :: x89 :: x90 :: x91 :: x92 :: x93 :: x94 :: x95 :: x96 :: x97 :: x98 :: x99 :: x100 :: x101 :: x102 :: x103 :: x104 :: x105 :: x106 :: x107 :: x108 :: x109 :: x110 :: x111 :: x112 :: x113 :: x114 :: x115 :: x116 :: x117 :: x118 :: x119 :: x120 :: x121 :: x122 :: x123 :: x124 :: x125 :: x126 :: x127 :: x128 :: x129 :: x130 :: x131 :: x132 :: x133 :: x134 :: x135 :: x136 :: x137 :: x138 :: x139 :: x140 :: x141 :: x142 :: x143 :: x144 :: x145 :: x146 :: x147 :: x148 :: x149 :: x150 :: x151 :: x152 :: x153 :: x154 :: x155 :: x156 :: x157 :: x158 :: x159 :: x160 :: x161 :: x162 :: x163 :: x164 :: x165 :: x166 :: x167 :: x168 :: x169 :: x170 :: x171 :: x172 :: x173 :: x174 :: x175 :: x176 :: x177 :: x178 :: x179 :: x180 :: x181 :: x182 :: x183 :: x184 :: x185 :: x186 :: x187 :: x188 :: x189 :: x190 :: x191 :: x192 :: x193 :: x194 :: x195 :: x196 :: x197 :: x198 :: x199 :: x200 :: x201 :: x202 :: x203 :: x204 :: x205 :: x206 :: x207 :: x208 :: x209 :: x210 :: x211 :: x212 :: x213 :: x214 :: x215 :: x216 :: x217 :: x218 :: x219 :: x220 :: x221 :: x222 :: x223 :: x224 :: x225 :: x226 :: x227 :: x228 :: x229 :: x230 :: x231 :: x232 :: x233 :: x234 :: x235 :: x236 :: x237 :: x238 :: x239 :: x240 :: x241 :: x242 :: x243 :: x244 :: x245 :: x246 :: x247 :: x248 :: x249 :: x250 :: x251 :: x252 :: x253 :: x254 :: x255 :: x256 :: x257 :: x258 :: x259 :: x260 :: x261 :: x262 :: x263 :: []).toArray, defers := [] } wB := by
  conv => arg 2; whnf
  obtain ⟨ik, hk0, hk1, hk2, hk3⟩ := info_parts infoC
  have HIK := Lib.hid (And.intro hk0 (And.intro hk1 (And.intro hk2 hk3)))
  clear hk0 hk1 hk2 hk3
  obtain ⟨ip, hp0, hp1, hp2, hp3⟩ := info_parts infoP
  have HIP := Lib.hid (And.intro hp0 (And.intro hp1 (And.intro hp2 hp3)))
  clear hp0 hp1 hp2 hp3
  obtain ⟨ig, hg0, hg1, hg2, hg3⟩ := info_parts infoG
  have HIG := Lib.hid (And.intro hg0 (And.intro hg1 (And.intro hg2 hg3)))
  clear hg0 hg1 hg2 hg3
  obtain ⟨iq, hq0, hq1, hq2, hq3⟩ := info_parts infoQ
  have HIQ := Lib.hid (And.intro hq0 (And.intro hq1 (And.intro hq2 hq3)))
  clear hq0 hq1 hq2 hq3
  obtain ⟨ii, hi0, hi1, hi2, hi3⟩ := info_parts infoI
  have HII := Lib.hid (And.intro hi0 (And.intro hi1 (And.intro hi2 hi3)))
  clear hi0 hi1 hi2 hi3
  have HX := Lib.hid hX
  have HB := Lib.hid hb
  have HOK := Lib.hid hk
  have HX0 := Lib.hid hX0
  have HCB := Lib.hid hCB
  have H0Y := Lib.hid h0Y
  have HA := Lib.hid hA
  have HYD := Lib.hid hYD
  have HBLD2 := Lib.hid hB2
  clear hA hYD hB2
  clear hX hb hk hX0 hCB h0Y
  go_loopw [7, 20] (fun gv iv wr => ∃ (m : Nat) (v : Value) (rows : List (List Value)), gv = .bool (g4 && (c.pg.take m).all fun x => (x.resT c.cs).2) ∧ iv = .int .i64 m ∧ m ≤ c.pg.length ∧ Bld w0 wD Y 2 29 62 7 (fun u => [(.slice aC c.cs.length kC), (.slice aS c.sm.length kS), u, .slice d.a3 c.kl.length d.k3, .slice d.a4 c.fe.length d.k4, .slice d.a5 c.ho.length d.k5, .slice d.a6 c.cu.length d.k6]) (fun (x : Pg) q V => PgN w wD.heap.size V (x.resT c.cs).1 q) c.pg m v rows wr) (fun _ iv _ => c.pg.length - (intOf iv).toNat)
  case atStart => exact ⟨0, _, [], by simp, rfl, by omega, HBLD2.out⟩
  case round =>
    obtain ⟨m, v, rows, rfl, rfl, hm, hbl⟩ := hrel
    obtain ⟨wr5, hwr5⟩ : ∃ z, z = wr := ⟨_, rfl⟩
    subst hwr5
    have HBL := Lib.hid hbl
    have HE := Lib.hid hbl.ext
    have b2 := (HCB.out.kpC hbl.ext.kpC).cell (j := 2) rfl
    have hs0 : (c.pg.length : Int) ≤ 9223372036854775807 := by have := HOK.out.n2; omega
    clear hbl
    by_cases hlt : m < c.pg.length
    · have hki : (m : Int) < (c.pg.length : Int) := by omega
      obtain ⟨gb, hgb⟩ : ∃ gb, (g4 && (c.pg.take m).all fun x => (x.resT c.cs).2) = gb := ⟨_, rfl⟩
      have HGB := Lib.hid hgb
      rw [hgb]
      obtain ⟨p, hp⟩ : ∃ p, c.pg[m]? = some p := ⟨_, List.getElem?_eq_getElem hlt⟩
      obtain ⟨B1, o, qa, qc, eB, hq, hcell⟩ := HX.out.pg.at hp
      have hWr : Ext w wr5 := HX0.out.trans HE.out
      rw [eB] at b2
      have d0 : wr5.cell? ⟨B1, o + m * 7, none⟩ = some (.string p.nm) := hWr.cell (hcell 0 _ rfl)
      have d1 : wr5.cell? ⟨B1, o + m * 7 + 1, none⟩ = some (.int .i64 p.nu) := hWr.cell (hcell 1 _ rfl)
      have d2 : wr5.cell? ⟨B1, o + m * 7 + 2, none⟩ = some (.int .i64 p.us) := hWr.cell (hcell 2 _ rfl)
      have d3 : wr5.cell? ⟨B1, o + m * 7 + 3, none⟩ = some (.int .i64 p.ea) := hWr.cell (hcell 3 _ rfl)
      have d4 : wr5.cell? ⟨B1, o + m * 7 + 4, none⟩ = some (.int .i64 p.mn) := hWr.cell (hcell 4 _ rfl)
      have d5 : wr5.cell? ⟨B1, o + m * 7 + 5, none⟩ = some (.int .i64 p.md) := hWr.cell (hcell 5 _ rfl)
      have d6 : wr5.cell? ⟨B1, o + m * 7 + 6, none⟩ = some (.slice qa p.rq.length qc) := hWr.cell (hcell 6 _ rfl)
      have HEB := Lib.hid eB
      have HQ := Lib.hid hq
      have HPM := Lib.hid hp
      have HRQ : Hid (p.rq.length ≤ 1000 ∧ (∀ q ∈ p.rq, q.fr.length ≤ 1000) ∧ okG p = true) := Lib.hid ⟨(HOK.out.rq p (List.mem_of_getElem? hp)).1, (HOK.out.rq p (List.mem_of_getElem? hp)).2, all_okG HA.out (List.mem_of_getElem? hp)⟩
      have HD6 : Hid (∀ W, Ext w W → W.cell? ⟨B1, o + m * 7 + 6, none⟩ = some (.slice qa p.rq.length qc)) := Lib.hid fun W hW => hW.cell (hcell 6 _ rfl)
      have hQM := hq.max
      clear hgb hp eB hq hcell hWr
      go_upto_block 10 with fail
      clear b2 d0 d1 d2 d3 d4 d5 d6
      have HB60 : Hid (Bld wr5 (wr5.alloc (.cells #[.string p.nm, .int .i64 p.nu, .int .i64 p.us, .int .i64 p.ea, .int .i64 p.mn, .int .i64 p.md, (.slice (some ⟨wr5.heap.size + 1, 0, none⟩) 0 0)] 62)) wr5.heap.size 6 62 64 6 (fun u => [.string p.nm, .int .i64 p.nu, .int .i64 p.us, .int .i64 p.ea, .int .i64 p.mn, .int .i64 p.md, u]) (fun (x : Rq) q V => RqN w (wr5.alloc (.cells #[.string p.nm, .int .i64 p.nu, .int .i64 p.us, .int .i64 p.ea, .int .i64 p.mn, .int .i64 p.md, (.slice (some ⟨wr5.heap.size + 1, 0, none⟩) 0 0)] 62)).heap.size V (x.resT c.cs).1 q) p.rq 0 (.slice (some ⟨wr5.heap.size + 1, 0, none⟩) 0 0) [] ((wr5.alloc (.cells #[.string p.nm, .int .i64 p.nu, .int .i64 p.us, .int .i64 p.ea, .int .i64 p.mn, .int .i64 p.md, (.slice (some ⟨wr5.heap.size + 1, 0, none⟩) 0 0)] 62)).alloc (.cells #[] 64))) := Lib.hid (Bld.start0 (by simp) ((Ext.refl _).alloc _) (row_al _ _ _))
      have HPS : Hid ((wr5.alloc (.cells #[.string p.nm, .int .i64 p.nu, .int .i64 p.us, .int .i64 p.ea, .int .i64 p.mn, .int .i64 p.md, (.slice (some ⟨wr5.heap.size + 1, 0, none⟩) 0 0)] 62)).heap.size = wr5.heap.size + 1) := Lib.hid (by simp)
      have HPE : Hid (Ext wr5 (wr5.alloc (.cells #[.string p.nm, .int .i64 p.nu, .int .i64 p.us, .int .i64 p.ea, .int .i64 p.mn, .int .i64 p.md, (.slice (some ⟨wr5.heap.size + 1, 0, none⟩) 0 0)] 62))) := Lib.hid ((Ext.refl _).alloc _)
      obtain ⟨wP, hwP⟩ : ∃ wP, (wr5.alloc (.cells #[.string p.nm, .int .i64 p.nu, .int .i64 p.us, .int .i64 p.ea, .int .i64 p.mn, .int .i64 p.md, (.slice (some ⟨wr5.heap.size + 1, 0, none⟩) 0 0)] 62)) = wP := ⟨_, rfl⟩
      rw [hwP] at HB60 HPS HPE
      rw [hwP]
      obtain ⟨wE, hwE⟩ : ∃ wE, wP.alloc (.cells #[] 64) = wE := ⟨_, rfl⟩
      rw [hwE] at HB60
      rw [hwE]
      clear hwP hwE
      go_cut [7, 22, 23, 24, 25, 26, 27] from 186 to 244 (fun s7 s22 s23 s24 s25 s26 s27 wx => ∃ (v6 : Value) (rows6 : List (List Value)), s7 = .bool (gb && p.rq.all fun x => (x.resT c.cs).2) ∧ Bld wr5 wP wr5.heap.size 6 62 64 6 (fun u => [.string p.nm, .int .i64 p.nu, .int .i64 p.us, .int .i64 p.ea, .int .i64 p.mn, .int .i64 p.md, u]) (fun (x : Rq) q V => RqN w wP.heap.size V (x.resT c.cs).1 q) p.rq p.rq.length v6 rows6 wx)
      case first =>
        go_wp2_with fail
        go_loopw [7, 22] (fun gv iv wr => ∃ (k : Nat) (v : Value) (rows : List (List Value)), gv = .bool (gb && (p.rq.take k).all fun x => (x.resT c.cs).2) ∧ iv = .int .i64 k ∧ k ≤ p.rq.length ∧ Bld wr5 wP wr5.heap.size 6 62 64 6 (fun u => [.string p.nm, .int .i64 p.nu, .int .i64 p.us, .int .i64 p.ea, .int .i64 p.mn, .int .i64 p.md, u]) (fun (x : Rq) q V => RqN w wP.heap.size V (x.resT c.cs).1 q) p.rq k v rows wr) (fun _ iv _ => p.rq.length - (intOf iv).toNat)
        case atStart => exact ⟨0, _, [], by simp, rfl, by omega, HB60.out⟩
        case round =>
          obtain ⟨k, v6, rows6, rfl, rfl, hk, hb6⟩ := hrel
          obtain ⟨wr6, hwr6⟩ : ∃ z, z = wr := ⟨_, rfl⟩
          subst hwr6
          have HBL6 := Lib.hid hb6
          have HE6 := Lib.hid (HE.out.trans hb6.ext)
          have b2 := (HCB.out.kpC HE6.out.kpC).cell (j := 2) rfl
          rw [HEB.out] at b2
          have d6 := HD6.out wr6 (HX0.out.trans HE6.out)
          clear hb6
          by_cases hlk : k < p.rq.length
          · have hkk : (k : Int) < (p.rq.length : Int) := by omega
            obtain ⟨gq, hgq⟩ : ∃ gq, (gb && (p.rq.take k).all fun x => (x.resT c.cs).2) = gq := ⟨_, rfl⟩
            have HGQ := Lib.hid hgq
            rw [hgq]
            obtain ⟨q, hqq⟩ : ∃ q, p.rq[k]? = some q := ⟨_, List.getElem?_eq_getElem hlk⟩
            obtain ⟨B2, o2, na, nc, fa, fc, eqq, hn, hf, hcell2⟩ := HQ.out.at hqq
            have hWr : Ext w wr6 := HX0.out.trans HE6.out
            rw [eqq] at d6
            have e0 : wr6.cell? ⟨B2, o2 + k * 6, none⟩ = some (.string q.nm) := hWr.cell (hcell2 0 _ rfl)
            have e1 : wr6.cell? ⟨B2, o2 + k * 6 + 1, none⟩ = some (.int .i64 q.cr) := hWr.cell (hcell2 1 _ rfl)
            have e2 : wr6.cell? ⟨B2, o2 + k * 6 + 2, none⟩ = some (.int .i64 q.gr) := hWr.cell (hcell2 2 _ rfl)
            have e3 : wr6.cell? ⟨B2, o2 + k * 6 + 3, none⟩ = some (.bool q.ho) := hWr.cell (hcell2 3 _ rfl)
            have e4 : wr6.cell? ⟨B2, o2 + k * 6 + 4, none⟩ = some (.slice na q.nms.length nc) := hWr.cell (hcell2 4 _ rfl)
            have e5 : wr6.cell? ⟨B2, o2 + k * 6 + 5, none⟩ = some (.slice fa q.fr.length fc) := hWr.cell (hcell2 5 _ rfl)
            have HQM := Lib.hid hqq
            have HN := Lib.hid hn
            have HF := Lib.hid hf
            have HQE : Hid (q.nms.length = q.fr.length ∧ q.fr.length ≤ 1000) := Lib.hid ⟨okQ_len (List.all_eq_true.1 HRQ.out.2.2 q (List.mem_of_getElem? hqq)), HRQ.out.2.1 q (List.mem_of_getElem? hqq)⟩
            clear hgq hqq eqq hn hf hcell2 hWr
            go_upto_block 12 with fail
            clear b2 d6 e0 e1 e2 e3 e4 e5
            have HQR : Hid (Row (wr6.alloc (.cells #[.string q.nm, .int .i64 q.cr, .int .i64 q.gr, .bool q.ho, .slice na q.nms.length nc, .slice fa q.fr.length fc] 64)) wr6.heap.size 64 [.string q.nm, .int .i64 q.cr, .int .i64 q.gr, .bool q.ho, .slice na q.nms.length nc, .slice fa q.fr.length fc]) := Lib.hid (row_al _ _ _)
            have HQX : Hid (Ext wr6 (wr6.alloc (.cells #[.string q.nm, .int .i64 q.cr, .int .i64 q.gr, .bool q.ho, .slice na q.nms.length nc, .slice fa q.fr.length fc] 64))) := Lib.hid ((Ext.refl _).alloc _)
            have HQS : Hid ((wr6.alloc (.cells #[.string q.nm, .int .i64 q.cr, .int .i64 q.gr, .bool q.ho, .slice na q.nms.length nc, .slice fa q.fr.length fc] 64)).heap.size = wr6.heap.size + 1) := Lib.hid (by simp)
            obtain ⟨wQ, hwQ⟩ : ∃ wQ, (wr6.alloc (.cells #[.string q.nm, .int .i64 q.cr, .int .i64 q.gr, .bool q.ho, .slice na q.nms.length nc, .slice fa q.fr.length fc] 64)) = wQ := ⟨_, rfl⟩
            rw [hwQ] at HQR HQX HQS
            rw [hwQ]
            have HO0 := Lib.hid (own_empty wQ wQ.heap.size (Nat.le_refl _) 3 1)
            have HE70 : Hid (Ext wQ (wQ.alloc (.cells #[] 3))) := Lib.hid ((Ext.refl _).alloc _)
            obtain ⟨wI, hwI⟩ : ∃ wI, wQ.alloc (.cells #[] 3) = wI := ⟨_, rfl⟩
            rw [hwI] at HO0 HE70
            rw [hwI]
            rw [← HQS.out]
            clear hwQ hwI
            go_cut [7, 24, 25, 26, 27] from 207 to 236 (fun s7 s24 s25 s26 s27 wx => s7 = .bool (gq && (q.nms.zip q.fr).all (fun x => (numR c.cs x.1 x.2).isSome)) ∧ Ext wQ wx ∧ wx.ownsRow wQ.heap.size 3 1 s24 q.fr.length (irows ((q.nms.zip q.fr).map (fun x => (numR c.cs x.1 x.2).getD 0))).flatten)
            case first =>
              go_wp2_with fail
              go_loopw [7, 24, 25] (fun gv fv jv wr => ∃ j : Nat, gv = .bool (gq && ((q.nms.zip q.fr).take j).all (fun x => (numR c.cs x.1 x.2).isSome)) ∧ jv = .int .i64 j ∧ j ≤ q.fr.length ∧ Ext wQ wr ∧ wr.ownsRow wQ.heap.size 3 1 fv j (irows (((q.nms.zip q.fr).take j).map (fun x => (numR c.cs x.1 x.2).getD 0))).flatten) (fun _ _ jv _ => q.fr.length - (intOf jv).toNat)
              case atStart => exact ⟨0, by simp, rfl, by omega, HE70.out, by simpa [irows] using HO0.out⟩
              case round =>
                obtain ⟨j, rfl, rfl, hj, hE7, hO7⟩ := hrel
                have HE7 := Lib.hid hE7
                have HO7 := Lib.hid hO7
                have HEW := Lib.hid (HE6.out.trans (HQX.out.trans hE7))
                have r5 := (HQR.out.kpC hE7.kpC).cell (j := 5) rfl
                have hfm : (q.fr.length : Int) ≤ 9223372036854775807 := by have := HQE.out.2; omega
                clear hE7 hO7
                by_cases hlj : j < q.fr.length
                · have hjj : (j : Int) < (q.fr.length : Int) := by omega
                  have hlj2 : j < q.nms.length := by rw [HQE.out.1]; exact hlj
                  have hjj2 : (j : Int) < (q.nms.length : Int) := by omega
                  have hnm2 : (q.nms.length : Int) ≤ 9223372036854775807 := by have := HQE.out; omega
                  obtain ⟨n, hnm⟩ : ∃ n, q.nms[j]? = some n := ⟨_, List.getElem?_eq_getElem hlj2⟩
                  obtain ⟨f, hfr⟩ : ∃ f, q.fr[j]? = some f := ⟨_, List.getElem?_eq_getElem hlj⟩
                  have HZ : Hid ((q.nms.zip q.fr)[j]? = some (n, f)) := Lib.hid (List.getElem?_zip_eq_some.2 ⟨hnm, hfr⟩)
                  obtain ⟨B3, o3, en, xc⟩ := s_at HN.out (HX0.out.trans HEW.out) hnm
                  obtain ⟨B4, o4, ef, fx⟩ := i_at HF.out (HX0.out.trans HEW.out) hfr
                  have r4 := (HQR.out.kpC HE7.out.kpC).cell (j := 4) rfl
                  rw [en] at r4
                  rw [ef] at r5
                  have HEN := Lib.hid (And.intro en ef)
                  obtain ⟨gj, hgj⟩ : ∃ gj, (gq && ((q.nms.zip q.fr).take j).all (fun x => (numR c.cs x.1 x.2).isSome)) = gj := ⟨_, rfl⟩
                  have HGJ := Lib.hid hgj
                  rw [hgj]
                  obtain ⟨n1, hn1⟩ : ∃ n1, (numR c.cs n f).getD 0 = n1 := ⟨_, rfl⟩
                  obtain ⟨k1, hk1⟩ : ∃ k1, (numR c.cs n f).isSome = k1 := ⟨_, rfl⟩
                  have HNN := Lib.hid (And.intro hn1 hk1)
                  have HNUM : Hid (∀ W, Ext wr W → Calls Try.prog 52 #[.agg #[.slice d.a0 c.cs.length d.k0, .slice d.a1 c.sm.length d.k1, .slice d.a2 c.pg.length d.k2, .slice d.a3 c.kl.length d.k3, .slice d.a4 c.fe.length d.k4, .slice d.a5 c.ho.length d.k5, .slice d.a6 c.cu.length d.k6], .string n, .int .i64 f] W fun e w' => e = .returned (.tuple #[.int .i64 n1, .bool k1]) ∧ Ext W w') := Lib.hid (fun W hW => by
                    have h := refNumber_any c.cs n f d.a0 d.k0 (.slice d.a1 c.sm.length d.k1) (.slice d.a2 c.pg.length d.k2) (.slice d.a3 c.kl.length d.k3) (.slice d.a4 c.fe.length d.k4) (.slice d.a5 c.ho.length d.k5) (.slice d.a6 c.cu.length d.k6) W (HX.out.cs.ext (HX0.out.trans (HEW.out.trans hW)))
                    rw [hn1, hk1] at h
                    exact h)
                  have b0 := (HCB.out.kpC HEW.out.kpC).cell (j := 0) rfl
                  have b1 := (HCB.out.kpC HEW.out.kpC).cell (j := 1) rfl
                  have b2 := (HCB.out.kpC HEW.out.kpC).cell (j := 2) rfl
                  have b3 := (HCB.out.kpC HEW.out.kpC).cell (j := 3) rfl
                  have b4 := (HCB.out.kpC HEW.out.kpC).cell (j := 4) rfl
                  have b5 := (HCB.out.kpC HEW.out.kpC).cell (j := 5) rfl
                  have b6 := (HCB.out.kpC HEW.out.kpC).cell (j := 6) rfl
                  rw [HEB.out] at b2 HNUM
                  clear hnm hfr en ef hgj hn1 hk1
                  have gb0 := grow_cell b0
                  have gb1 := grow_cell b1
                  have gb2 := grow_cell b2
                  have gb3 := grow_cell b3
                  have gb4 := grow_cell b4
                  have gb5 := grow_cell b5
                  have gb6 := grow_cell b6
                  have gr4 := grow_cell r4
                  have gr5 := grow_cell r5
                  have gx := grow_cell xc
                  have gf := grow_cell fx
                  go_wp2_with fail
                  refine wp_region_rel_all (fun i => if i = 11 then some (spV (.tuple #[.int .i64 n1, .bool k1])) else none) (by kernel_rfl) (by kernel_rfl) ?_
                  repeat (first
                    | (refine wpRel_quick ?_ ?_ ?_ ?_
                       · rfl
                       · rfl
                       · first | exact noEnter rfl | (intro f args W W'; go_simp)
                       intro K hK
                       go_big_quiet_op
                       go_big_quiet_on)
                    | (refine wpRel_skip ?_ ?_
                       · rfl
                       simp only [Act.put, List.setIfInBounds_toArray, List.set_cons_zero, List.set_cons_succ]))
                  refine wpRel_rich _ rfl rfl (fun W hW => ?_) (fun v W3 hW3 hv => ?_)
                  · have hc := HNUM.out W ((Ext.refl wr).drew.trans hW.1)
                    go_simp
                    refine Calls.mono hc ?_
                    rintro e w' ⟨rfl, h⟩
                    exact ⟨_, rfl, rfl, by first | exact h | (subst h; exact Ext.refl _)⟩
                  obtain rfl := hv
                  clear hW3
                  simp only [Act.put, List.setIfInBounds_toArray, List.set_cons_zero, List.set_cons_succ]
                  repeat (first
                    | (refine wpRel_quick ?_ ?_ ?_ ?_
                       · rfl
                       · rfl
                       · first | exact noEnter rfl | (intro f args W W'; go_simp)
                       intro K hK
                       go_big_quiet_op
                       go_big_quiet_on)
                    | (refine wpRel_skip ?_ ?_
                       · rfl
                       simp only [Act.put, List.setIfInBounds_toArray, List.set_cons_zero, List.set_cons_succ]))
                  refine wpRel_nil ?_
                  intro W3 hW3
                  have HE8 : Hid (Ext wr W3) := Lib.hid ((Ext.refl wr).drew.trans hW3.1)
                  clear hW3 b0 b1 b2 b3 b4 b5 b6 r4 r5 xc fx gb0 gb1 gb2 gb3 gb4 gb5 gb6 gr4 gr5 gx gf
                  go_upto_region 50 with fail
                  go_cut [7] from 229 to 232 (fun s7 wx => s7 = .bool (gj && k1) ∧ W3 = wx)
                  case first =>
                    clear HGJ HNN HNUM
                    cases gj <;> cases k1
                    all_goals
                      go_wp2_with fail
                      go_meet
                      exact ⟨rfl, rfl⟩
                  case rest =>
                    obtain ⟨hc7, hcw⟩ := hcut
                    subst hc7
                    subst hcw
                    have HAL : Hid (Ext wQ (W3.alloc (.cells #[.int .i64 n1] 3))) := Lib.hid ((HE7.out.trans HE8.out).alloc _)
                    go_wp2_with (at_builtin; refine wpList_append_S rfl _ _ 45 45 rfl wQ.heap.size 3 ii _ 1 8 Try.underlying45 HII.out.1 HII.out.2.1 HII.out.2.2.1 HII.out.2.2.2 rfl u24 _ _ rfl (ownsRow_ext HO7.out (HE8.out.alloc _)) _ 1 [.int .i64 n1] rfl (Src.ofSlice _ Try.underlying45 ⟨_, 0, none⟩ 1 1 _ rfl (one_cell (by simp)) (by simp [Value.oneCell'])) (by have := HQE.out.2; unfold maxLen; omega) (by have := HQE.out.2; omega) (by have := HAL.out.size; omega) ?_; intro vo w7 ho7 hg7; have HO8 := Lib.hid ho7; have HE9 := Lib.hid (Ext.own_step HAL.out hg7 (ownsRow_ext HO7.out (HE8.out.alloc (.cells #[.int .i64 n1] 3)))); clear ho7 hg7)
                    go_roundw
                    case rel =>
                      refine ⟨j + 1, ?_, by go_num, by omega, HE9.out, ?_⟩
                      · rw [all_snoc HZ.out, ← Bool.and_assoc, HGJ.out]
                        show _ = Value.bool (gj && (numR c.cs n f).isSome)
                        rw [HNN.out.2]
                      · rw [List.take_add_one, HZ.out, Option.toList_some, List.map_append, irows_app, List.flatten_append]
                        show World.ownsRow _ _ _ _ _ _ (_ ++ [.int .i64 ((numR c.cs n f).getD 0)])
                        rw [HNN.out.1]
                        exact HO8.out
                    case measure => simp [intOf] <;> omega
                · have hjj : ¬ (j : Int) < (q.fr.length : Int) := by omega
                  have hlz : (q.nms.zip q.fr).length = q.fr.length := by rw [List.length_zip, HQE.out.1, Nat.min_self]
                  obtain rfl : j = q.fr.length := by omega
                  rw [List.take_of_length_le (Nat.le_of_eq hlz)]
                  rw [List.take_of_length_le (Nat.le_of_eq hlz)] at HO7
                  clear hlz
                  go_wp2_with fail
                  go_meet
                  exact ⟨rfl, HE7.out, HO7.out⟩

            case rest =>
              obtain ⟨hs7, hEQ, hO⟩ := hcut
              subst hs7
              obtain ⟨a7, c7, rfl⟩ := ownsRow_slice hO
              obtain ⟨w8, hw8⟩ : ∃ z, z = wc := ⟨_, rfl⟩
              subst hw8
              have HO7 := Lib.hid hO
              have HR8 := Lib.hid (HQR.out.kpC hEQ.kpC)
              have HE8 := Lib.hid (HQX.out.trans hEQ)
              have r5 := HR8.out.cell (j := 5) rfl
              have f5 := HR8.out.froz 5
              clear hEQ hO
              go_upto_region 53 with fail
              clear r5 f5
              have HT9 : Hid (Row (w8.setCell ⟨wr6.heap.size, 5, none⟩ (.slice a7 q.fr.length c7)) wr6.heap.size 64 [.string q.nm, .int .i64 q.cr, .int .i64 q.gr, .bool q.ho, .slice na q.nms.length nc, .slice a7 q.fr.length c7] ∧ Ext wr6 (w8.setCell ⟨wr6.heap.size, 5, none⟩ (.slice a7 q.fr.length c7)) ∧ (w8.setCell ⟨wr6.heap.size, 5, none⟩ (.slice a7 q.fr.length c7)).ownsRow wQ.heap.size 3 1 (.slice a7 q.fr.length c7) q.fr.length (irows ((q.nms.zip q.fr).map (fun x => (numR c.cs x.1 x.2).getD 0))).flatten) := Lib.hid ⟨HR8.out.set1 5 _, HE8.out.setCell (Nat.le_refl _) _, own_far HO7.out (by rw [HQS.out]; exact Nat.lt_succ_self _)⟩
              obtain ⟨w9, hw9⟩ : ∃ w9, w8.setCell ⟨wr6.heap.size, 5, none⟩ (.slice a7 q.fr.length c7) = w9 := ⟨_, rfl⟩
              rw [hw9] at HT9
              rw [hw9]
              clear hw9
              have p0 := HT9.out.1.cell (j := 0) rfl
              have p1 := HT9.out.1.cell (j := 1) rfl
              have p2 := HT9.out.1.cell (j := 2) rfl
              have p3 := HT9.out.1.cell (j := 3) rfl
              have p4 := HT9.out.1.cell (j := 4) rfl
              have p5 := HT9.out.1.cell (j := 5) rfl
              have y6 : w9.cell? ⟨wr5.heap.size, 6, none⟩ = some v6 := (HBL6.out.row.kpC HT9.out.2.1.kpC).cell rfl
              have HAL : Hid (Ext wr6 (w9.alloc (.cells #[.string q.nm, .int .i64 q.cr, .int .i64 q.gr, .bool q.ho, .slice na q.nms.length nc, .slice a7 q.fr.length c7] 64))) := Lib.hid (HT9.out.2.1.alloc _)
              have HYP : Hid (wr5.heap.size < wP.heap.size) := Lib.hid (by rw [HPS.out]; exact Nat.lt_succ_self _)
              go_wp2_with (at_builtin; refine wpList_append_S rfl _ _ 60 60 rfl wP.heap.size 64 iq _ 6 88 Try.underlying60 HIQ.out.1 HIQ.out.2.1 HIQ.out.2.2.1 HIQ.out.2.2.2 rfl v6 _ _ rfl (ownsRow_ext HBL6.out.own HAL.out) _ 1 [.string q.nm, .int .i64 q.cr, .int .i64 q.gr, .bool q.ho, .slice na q.nms.length nc, .slice a7 q.fr.length c7] rfl (Src.ofOwn (own_row (cs := [.string q.nm, .int .i64 q.cr, .int .i64 q.gr, .bool q.ho, .slice na q.nms.length nc, .slice a7 q.fr.length c7]) (e := 64) (base := 0) rfl (Nat.zero_le _) rfl) Try.underlying60 (by simp [Value.oneCell'])) (by have := HRQ.out.1; unfold maxLen; omega) (by have := HRQ.out.1; omega) (by have := HBL6.out.kp.1; have := HAL.out.size; omega) ?_; intro v10 w10 ho10 hg10; obtain ⟨va, vc, rfl⟩ := ownsRow_slice ho10; have hy10 := HBL6.out.grow_row HYP.out HAL.out hg10; have z6 : w10.cell? ⟨wr5.heap.size, 6, none⟩ = some v6 := hy10.cell rfl; have f6 := hy10.froz 6; have HO10 := Lib.hid ho10; have HG10 := Lib.hid hg10; clear ho10 hg10 hy10)
              clear y6 z6 f6 p0 p1 p2 p3 p4 p5
              go_roundw
              case rel =>
                have hlz : ((q.nms.zip q.fr).map (fun x => (numR c.cs x.1 x.2).getD 0)).length = q.fr.length := by rw [List.length_map, List.length_zip, HQE.out.1, Nat.min_self]
                have hsl : SL w9 1 a7 c7 (irows ((q.nms.zip q.fr).map (fun x => (numR c.cs x.1 x.2).getD 0))) ∧ ∀ a, a7 = some a → wQ.heap.size ≤ a.block := by
                  obtain ⟨ao, cap, e, h1, h2⟩ := SL.of_own HT9.out.2.2 (irows_wid _) (by rw [irows_length]; exact hlz)
                  cases e
                  exact ⟨h1, h2⟩
                have hq : RqN w wQ.heap.size w9 (q.resT c.cs).1 [.string q.nm, .int .i64 q.cr, .int .i64 q.gr, .bool q.ho, .slice na q.nms.length nc, .slice a7 q.fr.length c7] := by
                  refine ⟨na, nc, a7, c7, ?_, HN.out, hsl.1, fun a ha _ => hsl.2 a ha⟩
                  show _ = [Value.string q.nm, .int .i64 q.cr, .int .i64 q.gr, .bool q.ho, .slice na q.nms.length nc, .slice a7 ((q.nms.zip q.fr).map (fun x => (numR c.cs x.1 x.2).getD 0)).length c7]
                  rw [hlz]
                refine ⟨k + 1, _, rows6 ++ [[.string q.nm, .int .i64 q.cr, .int .i64 q.gr, .bool q.ho, .slice na q.nms.length nc, .slice a7 q.fr.length c7]], ?_, by go_num, by omega, HBL6.out.step (Nat.le_refl _) HYP.out (fun _ _ => rfl) (fun _ => (by decide : 6 + 1 ≤ 7)) HQM.out HAL.out ((hq.far (by have := HBL6.out.kp.1; have := HQS.out; omega) (fun k hk => by have := (HBL6.out.lt k hk).2; have := HQS.out; omega)).ext ((Ext.refl w9).alloc _)) HG10.out HO10.out⟩
                rw [all_snoc HQM.out, ← Bool.and_assoc, HGQ.out]
                rfl
              case measure => simp [intOf] <;> omega

          · have hkk : ¬ (k : Int) < (p.rq.length : Int) := by omega
            obtain rfl : k = p.rq.length := by omega
            rw [List.take_length]
            go_wp2_with fail
            go_meet
            exact ⟨v6, rows6, rfl, HBL6.out⟩

      case rest =>
        obtain ⟨v6, rows6, hs7, hb6⟩ := hcut
        subst hs7
        obtain ⟨aq, kq, rfl⟩ := ownsRow_slice hb6.own
        obtain ⟨w9, hw9⟩ : ∃ z, z = wc := ⟨_, rfl⟩
        subst hw9
        have HB6 := Lib.hid hb6
        have hrow : Row w9 wr5.heap.size 62 [.string p.nm, .int .i64 p.nu, .int .i64 p.us, .int .i64 p.ea, .int .i64 p.mn, .int .i64 p.md, .slice aq p.rq.length kq] := hb6.row
        have p0 := (hrow).cell (j := 0) rfl
        have p1 := (hrow).cell (j := 1) rfl
        have p2 := (hrow).cell (j := 2) rfl
        have p3 := (hrow).cell (j := 3) rfl
        have p4 := (hrow).cell (j := 4) rfl
        have p5 := (hrow).cell (j := 5) rfl
        have p6 := (hrow).cell (j := 6) rfl
        have y2 : w9.cell? ⟨Y, 2, none⟩ = some v := (HBL.out.row.kpC hb6.ext.kpC).cell rfl
        have HAL : Hid (Ext wr5 (w9.alloc (.cells #[.string p.nm, .int .i64 p.nu, .int .i64 p.us, .int .i64 p.ea, .int .i64 p.mn, .int .i64 p.md, .slice aq p.rq.length kq] 62))) := Lib.hid (hb6.ext.alloc _)
        clear hrow hb6
        go_wp2_with (at_builtin; refine wpList_append_S rfl _ _ 24 24 rfl wD.heap.size 62 ig _ 7 80 Try.underlying24 HIG.out.1 HIG.out.2.1 HIG.out.2.2.1 HIG.out.2.2.2 rfl v _ _ rfl (ownsRow_ext HBL.out.own HAL.out) _ 1 [.string p.nm, .int .i64 p.nu, .int .i64 p.us, .int .i64 p.ea, .int .i64 p.mn, .int .i64 p.md, .slice aq p.rq.length kq] rfl (Src.ofOwn (own_row (cs := [.string p.nm, .int .i64 p.nu, .int .i64 p.us, .int .i64 p.ea, .int .i64 p.mn, .int .i64 p.md, .slice aq p.rq.length kq]) (e := 62) (base := 0) rfl (Nat.zero_le _) rfl) Try.underlying24 (by simp [Value.oneCell'])) (by have := HOK.out.n2; unfold maxLen; omega) (by have := HOK.out.n2; omega) (by have := HBL.out.kp.1; have := HAL.out.size; omega) ?_; intro v10 w10 ho10 hg10; obtain ⟨va, vc, rfl⟩ := ownsRow_slice ho10; have hy10 := HBL.out.grow_row HYD.out HAL.out hg10; have z2 : w10.cell? ⟨Y, 2, none⟩ = some v := hy10.cell rfl; have f2 := hy10.froz 2; have HO10 := Lib.hid ho10; have HG10 := Lib.hid hg10; clear ho10 hg10 hy10)
        clear y2 z2 f2 p0 p1 p2 p3 p4 p5 p6
        go_roundw
        case rel =>
          have hlm : (p.rq.map fun q => (q.resT c.cs).1).length = p.rq.length := List.length_map _
          have hsl : SL w9 6 aq kq rows6 ∧ ∀ a, aq = some a → wP.heap.size ≤ a.block := by
            obtain ⟨ao, cap, e, h1, h2⟩ := SL.of_own HB6.out.own (fun q hq => by
              obtain ⟨i, hi⟩ := List.getElem?_of_mem hq
              have hil := (List.getElem?_eq_some_iff.1 hi).1
              exact (HB6.out.done i _ q (List.getElem?_eq_getElem (by rw [← HB6.out.len]; exact hil)) hi).len) HB6.out.len
            cases e
            exact ⟨h1, h2⟩
          have hq : PgN w wP.heap.size w9 (p.resT c.cs).1 [.string p.nm, .int .i64 p.nu, .int .i64 p.us, .int .i64 p.ea, .int .i64 p.mn, .int .i64 p.md, .slice aq p.rq.length kq] := by
            refine ⟨aq, kq, rows6, ?_, hsl.1, by show rows6.length = (p.rq.map fun q => (q.resT c.cs).1).length; rw [hlm]; exact HB6.out.len, fun i z s hz hs => ?_, fun a ha _ => hsl.2 a ha⟩
            · show _ = [Value.string p.nm, .int .i64 p.nu, .int .i64 p.us, .int .i64 p.ea, .int .i64 p.mn, .int .i64 p.md, .slice aq (p.rq.map fun q => (q.resT c.cs).1).length kq]
              rw [hlm]
            · obtain ⟨x0, hx0, rfl⟩ := getElem?_map_some' hz
              exact HB6.out.done i x0 s hx0 hs
          refine ⟨m + 1, _, rows ++ [[.string p.nm, .int .i64 p.nu, .int .i64 p.us, .int .i64 p.ea, .int .i64 p.mn, .int .i64 p.md, .slice aq p.rq.length kq]], ?_, by go_num, by omega, HBL.out.step H0Y.out HYD.out (fun _ _ => rfl) (fun _ => (by decide : 2 + 1 ≤ 7)) HPM.out HAL.out ((hq.far (by have := HBL.out.kp.1; have := HPS.out; omega) (fun k hk => by have := (HBL.out.lt k hk).2; have := HPS.out; omega)).ext ((Ext.refl w9).alloc _)) HG10.out HO10.out⟩
          rw [all_snoc HPM.out, ← Bool.and_assoc, HGB.out]
          rfl
        case measure => simp [intOf] <;> omega

    · have hki : ¬ (m : Int) < (c.pg.length : Int) := by omega
      obtain rfl : m = c.pg.length := by omega
      rw [List.take_length]
      go_wp2_with fail
      exact ⟨rfl, ⟨_, _, _, _, _, _, _, _, _, _, _, _, _, _, _, _, _, _, _, _, _, _, _, _, _, _, _, _, _, _, _, _, _, _, _, _, _, _, _, _, _, _, _, _, _, _, _, _, _, _, _, _, _, _, _, _, _, _, _, _, _, _, _, _, _, _, _, _, _, _, _, _, _, _, _, _, _, _, _, _, _, _, _, _, _, _, _, rfl⟩, v, rows, HBL.out⟩
end Go.Proofs.Ytimigpfoflilcaa

/- Names: Resolve, unique over what lies in memory; the loop over the programmes. -/
import Derived.Test.YtimigpfoflilcaaYP
namespace Go.Sz
open Go.RowKit
theorem getElem?_map_some {α β : Type} {f : α → β} {l : List α} {i : Nat} {y : β} (h : (l.map f)[i]? = some y) : ∃ x, l[i]? = some x ∧ f x = y := by
  rw [List.getElem?_map] at h
  exact Option.map_eq_some_iff.1 h
end Go.Sz
namespace Go.Proofs.Ytimigpfoflilcaa
open Go.RowKit Go.Sz
theorem uniCs' (l : List Cr) (ao : Option Addr) (cap : Nat) (w : World) (h : RepC w ao cap l) (hok : ∀ x ∈ l, x.nm.size ≤ maxLen) (h8 : l.length ≤ 1000) : Calls Try.prog 30 #[.slice ao l.length cap, .func (Fn.func 31) #[] #[]] w (uniPost (l.map Cr.nm).Nodup w) := by
  obtain ⟨rows, h1, h2, h3⟩ := h
  have := uniCs (l.map Cr.nm) rows (by rw [h2, List.length_map]) (fun i x hx => by
    obtain ⟨c, hc, rfl⟩ := getElem?_map_some hx
    have hi : i < rows.length := by rw [h2]; exact (List.getElem?_eq_some_iff.1 hc).1
    obtain ⟨u, v, e, hu, hv, -⟩ := h3 i c rows[i] hc (List.getElem?_eq_getElem hi)
    obtain ⟨a, n, rfl, -, -⟩ := hu.out
    obtain ⟨b, m, rfl, -, -⟩ := hv.out
    exact ⟨_, _, _, _, _, _, _, _, _, _, _, _, _, _, _, _, _, _, _, by rw [List.getElem?_eq_getElem hi, e]; rfl⟩) (fun x hx => by
    obtain ⟨c, hc, rfl⟩ := List.mem_map.1 hx
    exact hok c hc) ao cap w h1 (by rw [List.length_map]; omega)
  rwa [List.length_map] at this
theorem uniCi' (l : List Cr) (ao : Option Addr) (cap : Nat) (w : World) (h : RepC w ao cap l) (h8 : l.length ≤ 1000) : Calls Try.prog 32 #[.slice ao l.length cap, .func (Fn.func 33) #[] #[]] w (uniPost (l.map Cr.nu).Nodup w) := by
  have hoks := h.oks
  obtain ⟨rows, h1, h2, h3⟩ := h
  have := uniCi (l.map Cr.nu) rows (by rw [h2, List.length_map]) (fun i x hx => by
    obtain ⟨c, hc, rfl⟩ := getElem?_map_some hx
    have hi : i < rows.length := by rw [h2]; exact (List.getElem?_eq_some_iff.1 hc).1
    obtain ⟨u, v, e, hu, hv, -⟩ := h3 i c rows[i] hc (List.getElem?_eq_getElem hi)
    obtain ⟨a, n, rfl, -, -⟩ := hu.out
    obtain ⟨b, m, rfl, -, -⟩ := hv.out
    exact ⟨_, _, _, _, _, _, _, _, _, _, _, _, _, _, _, _, _, _, _, by rw [List.getElem?_eq_getElem hi, e]; rfl⟩) (fun x hx => by
    obtain ⟨c, hc, rfl⟩ := List.mem_map.1 hx
    exact (hoks c hc).1) ao cap w h1 (by rw [List.length_map]; omega)
  rwa [List.length_map] at this
theorem uniPs' (l : List Pg) (ao : Option Addr) (cap : Nat) (w : World) (h : RepG w ao cap l) (hok : ∀ x ∈ l, x.nm.size ≤ maxLen) (h8 : l.length ≤ 1000) : Calls Try.prog 34 #[.slice ao l.length cap, .func (Fn.func 35) #[] #[]] w (uniPost (l.map Pg.nm).Nodup w) := by
  obtain ⟨rows, h1, h2, h3⟩ := h
  have := uniPs (l.map Pg.nm) rows (by rw [h2, List.length_map]) (fun i x hx => by
    obtain ⟨c, hc, rfl⟩ := getElem?_map_some hx
    have hi : i < rows.length := by rw [h2]; exact (List.getElem?_eq_some_iff.1 hc).1
    obtain ⟨a, k, e, -⟩ := h3 i c rows[i] hc (List.getElem?_eq_getElem hi)
    exact ⟨_, _, _, _, _, _, _, _, by rw [List.getElem?_eq_getElem hi, e]; rfl⟩) (fun x hx => by
    obtain ⟨c, hc, rfl⟩ := List.mem_map.1 hx
    exact hok c hc) ao cap w h1 (by rw [List.length_map]; omega)
  rwa [List.length_map] at this
theorem uniPi' (l : List Pg) (ao : Option Addr) (cap : Nat) (w : World) (h : RepG w ao cap l) (hok : ∀ x ∈ l, inI64 x.nu) (h8 : l.length ≤ 1000) : Calls Try.prog 36 #[.slice ao l.length cap, .func (Fn.func 37) #[] #[]] w (uniPost (l.map Pg.nu).Nodup w) := by
  obtain ⟨rows, h1, h2, h3⟩ := h
  have := uniPi (l.map Pg.nu) rows (by rw [h2, List.length_map]) (fun i x hx => by
    obtain ⟨c, hc, rfl⟩ := getElem?_map_some hx
    have hi : i < rows.length := by rw [h2]; exact (List.getElem?_eq_some_iff.1 hc).1
    obtain ⟨a, k, e, -⟩ := h3 i c rows[i] hc (List.getElem?_eq_getElem hi)
    exact ⟨_, _, _, _, _, _, _, _, by rw [List.getElem?_eq_getElem hi, e]; rfl⟩) (fun x hx => by
    obtain ⟨c, hc, rfl⟩ := List.mem_map.1 hx
    exact hok c hc) ao cap w h1 (by rw [List.length_map]; omega)
  rwa [List.length_map] at this
theorem uniRs' (l : List Rq) (ao : Option Addr) (cap : Nat) (w : World) (h : RepQ w ao cap l) (hok : ∀ x ∈ l, x.nm.size ≤ maxLen) (h8 : l.length ≤ 1000) : Calls Try.prog 38 #[.slice ao l.length cap, .func (Fn.func 39) #[] #[]] w (uniPost (l.map Rq.nm).Nodup w) := by
  obtain ⟨rows, h1, h2, h3⟩ := h
  have := uniRs (l.map Rq.nm) rows (by rw [h2, List.length_map]) (fun i x hx => by
    obtain ⟨c, hc, rfl⟩ := getElem?_map_some hx
    have hi : i < rows.length := by rw [h2]; exact (List.getElem?_eq_some_iff.1 hc).1
    obtain ⟨na, nc, fa, fc, e, -, -⟩ := h3 i c rows[i] hc (List.getElem?_eq_getElem hi)
    exact ⟨_, _, _, _, _, _, _, _, _, by rw [List.getElem?_eq_getElem hi, e]; rfl⟩) (fun x hx => by
    obtain ⟨c, hc, rfl⟩ := List.mem_map.1 hx
    exact hok c hc) ao cap w h1 (by rw [List.length_map]; omega)
  rwa [List.length_map] at this
theorem uniKs' (l : List Kl) (ao : Option Addr) (cap : Nat) (w : World) (h : SL w 4 ao cap (l.map Kl.cells)) (hok : ∀ x ∈ l, x.nm.size ≤ maxLen) (h8 : l.length ≤ 1000) : Calls Try.prog 40 #[.slice ao l.length cap, .func (Fn.func 41) #[] #[]] w (uniPost (l.map Kl.nm).Nodup w) := by
  have := uniKs (l.map Kl.nm) (l.map Kl.cells) (by simp) (fun i x hx => by
    obtain ⟨c, hc, rfl⟩ := getElem?_map_some hx
    exact ⟨_, _, _, by rw [List.getElem?_map, hc]; rfl⟩) (fun x hx => by
    obtain ⟨c, hc, rfl⟩ := List.mem_map.1 hx
    exact hok c hc) ao cap w h (by rw [List.length_map]; omega)
  rwa [List.length_map] at this
theorem uniFs' (l : List Fe) (ao : Option Addr) (cap : Nat) (w : World) (h : SL w 2 ao cap (l.map Fe.cells)) (hok : ∀ x ∈ l, x.nm.size ≤ maxLen) (h8 : l.length ≤ 1000) : Calls Try.prog 42 #[.slice ao l.length cap, .func (Fn.func 43) #[] #[]] w (uniPost (l.map Fe.nm).Nodup w) := by
  have := uniFs (l.map Fe.nm) (l.map Fe.cells) (by simp) (fun i x hx => by
    obtain ⟨c, hc, rfl⟩ := getElem?_map_some hx
    exact ⟨_, by rw [List.getElem?_map, hc]; rfl⟩) (fun x hx => by
    obtain ⟨c, hc, rfl⟩ := List.mem_map.1 hx
    exact hok c hc) ao cap w h (by rw [List.length_map]; omega)
  rwa [List.length_map] at this
set_option maxRecDepth 1000000 in
set_option maxHeartbeats 6400000 in
theorem loopB (c : Cat) (hk : c.Ok) (d : Adr) (w W : World) (hX : RepX w d c) (hV : ResV W w.heap.size 29 32 (c.cells d)) (hE : Ext w W) (ha : c.arg = false)  (x0 x4 x5 x6 x7 x8 x9 x10 x11 x12 x13 x14 x15 x16 x17 x18 x19 x20 x21 x22 x23 x24 x25 x26 x27 x28 x29 x30 x31 x32 x33 x34 x35 x36 x37 x38 x39 x40 x41 x42 x43 x44 x45 x46 x47 x48 x49 x50 x51 x52 x53 x54 x55 x56 x57 x58 x59 x60 x64 x65 x66 x67 x68 x69 x70 x71 x72 x73 x74 x75 x76 x77 x78 x79 x80 x81 x82 x83 x84 x85 x86 x87 x88 x89 x90 x91 x92 x93 x94 x95 x96 x97 x98 x99 x100 x101 x102 x103 x104 x105 x106 x107 x108 x109 x110 x111 x112 x113 x114 x115 x116 x117 x118 x119 x120 x121 x122 x123 x124 x125 x126 x127 x128 x129 x130 x131 x132 x133 x134 x135 x136 x137 x138 x139 x140 x141 x142 x143 x144 x145 x146 x147 x148 x149 x150 x151 x152 x153 x154 x155 x156 x157 x158 x159 x160 x161 x162 x163 x164 x165 x166 x167 x168 x169 x170 x171 x172 x173 x174 x175 x176 x177 x178 x179 x180 x181 x182 x183 x184 x185 x186 x187 x188 x189 x190 x191 x192 x193 x194 x195 x196 x197 x198 x199 x200 x201 x202 x203 x204 x205 x206 x207 x208 x209 x210 x211 x212 x213 x214 x215 x216 x217 x218 x219 x220 x221 x222 x223 : Value) :
    Code.wp Try.prog (lpR 1) (lpQ 4 c d w fun a V => ∃ y9 y63 y64 y65 y66 y67 y68 y69 y70 : Value, a = { tmps := (x0 :: (.pointer (some ⟨w.heap.size, 0, none⟩)) :: (.pointer (some ⟨w.heap.size + 1, 0, none⟩)) :: (.pointer (some ⟨w.heap.size + 2, 0, none⟩)) :: x4 :: x5 :: x6 :: x7 :: x8 :: y9 :: x10 :: x11 :: x12 :: x13 :: x14 :: x15 :: x16 :: x17 :: x18 :: x19 :: x20 :: x21 :: x22 :: x23 :: x24 :: x25 :: x26 :: x27 :: x28 :: x29 :: x30 :: x31 :: x32 :: x33 :: x34 :: x35 :: x36 :: x37 :: x38 :: x39 :: x40 :: x41 :: x42 :: x43 :: x44 :: x45 :: x46 :: x47 :: x48 :: x49 :: x50 :: x51 :: x52 :: x53 :: x54 :: x55 :: x56 :: x57 :: x58 :: x59 :: x60 :: (.slice d.a2 c.pg.length d.k2) :: (.int .i64 c.pg.length) :: y63 :: y64 :: y65 :: y66 :: y67 :: y68 :: y69 :: y70 :: x71 :: x72 :: x73 :: x74 :: x75 :: x76 :: x77 :: x78 :: x79 :: x80 :: x81 :: x82 :: x83 :: x84 :: x85 :: x86 :: x87 :: x88 :: x89 :: x90 :: x91 :: x92 :: x93 :: x94 :: x95 :: x96 :: x97 :: x98 :: x99 :: x100 :: x101 :: x102 :: x103 :: x104 :: x105 :: x106 :: x107 :: x108 :: x109 :: x110 :: x111 :: x112 :: x113 :: x114 :: x115 :: x116 :: x117 :: x118 :: x119 :: x120 :: x121 :: x122 :: x123 :: x124 :: x125 :: x126 :: x127 :: x128 :: x129 :: x130 :: x131 :: x132 :: x133 :: x134 :: x135 :: x136 :: x137 :: x138 :: x139 :: x140 :: x141 :: x142 :: x143 :: x144 :: x145 :: x146 :: x147 :: x148 :: x149 :: x150 :: x151 :: x152 :: x153 :: x154 :: x155 :: x156 :: x157 :: x158 :: x159 :: x160 :: x161 :: x162 :: x163 :: x164 :: x165 :: x166 :: x167 :: x168 :: x169 :: x170 :: x171 :: x172 :: x173 :: x174 :: x175 :: x176 :: x177 :: x178 :: x179 :: x180 :: x181 :: x182 :: x183 :: x184 :: x185 :: x186 :: x187 :: x188 :: x189 :: x190 :: x191 :: x192 :: x193 :: x194 :: x195 :: x196 :: x197 :: x198 :: x199 :: x200 :: x201 :: x202 :: x203 :: x204 :: x205 :: x206 :: x207 :: x208 :: x209 :: x210 :: x211 :: x212 :: x213 :: x214 :: x215 :: x216 :: x217 :: x218 :: x219 :: x220 :: x221 :: x222 :: x223 :: []).toArray, defers := dfR w.heap.size } ∧ ResV V w.heap.size 29 32 (c.cells d) ∧ Ext w V ∧ ∀ p ∈ c.pg, (p.rq.map Rq.nm).Nodup) { tmps := (x0 :: (.pointer (some ⟨w.heap.size, 0, none⟩)) :: (.pointer (some ⟨w.heap.size + 1, 0, none⟩)) :: (.pointer (some ⟨w.heap.size + 2, 0, none⟩)) :: x4 :: x5 :: x6 :: x7 :: x8 :: x9 :: x10 :: x11 :: x12 :: x13 :: x14 :: x15 :: x16 :: x17 :: x18 :: x19 :: x20 :: x21 :: x22 :: x23 :: x24 :: x25 :: x26 :: x27 :: x28 :: x29 :: x30 :: x31 :: x32 :: x33 :: x34 :: x35 :: x36 :: x37 :: x38 :: x39 :: x40 :: x41 :: x42 :: x43 :: x44 :: x45 :: x46 :: x47 :: x48 :: x49 :: x50 :: x51 :: x52 :: x53 :: x54 :: x55 :: x56 :: x57 :: x58 :: x59 :: x60 :: (.slice d.a2 c.pg.length d.k2) :: (.int .i64 c.pg.length) :: (.int .i64 0) :: x64 :: x65 :: x66 :: x67 :: x68 :: x69 :: x70 :: x71 :: x72 :: x73 :: x74 :: x75 :: x76 :: x77 :: x78 :: x79 :: x80 :: x81 :: x82 :: x83 :: x84 :: x85 :: x86 :: x87 :: x88 :: x89 :: x90 :: x91 :: x92 :: x93 :: x94 :: x95 :: x96 :: x97 :: x98 :: x99 :: x100 :: x101 :: x102 :: x103 :: x104 :: x105 :: x106 :: x107 :: x108 :: x109 :: x110 :: x111 :: x112 :: x113 :: x114 :: x115 :: x116 :: x117 :: x118 :: x119 :: x120 :: x121 :: x122 :: x123 :: x124 :: x125 :: x126 :: x127 :: x128 :: x129 :: x130 :: x131 :: x132 :: x133 :: x134 :: x135 :: x136 :: x137 :: x138 :: x139 :: x140 :: x141 :: x142 :: x143 :: x144 :: x145 :: x146 :: x147 :: x148 :: x149 :: x150 :: x151 :: x152 :: x153 :: x154 :: x155 :: x156 :: x157 :: x158 :: x159 :: x160 :: x161 :: x162 :: x163 :: x164 :: x165 :: x166 :: x167 :: x168 :: x169 :: x170 :: x171 :: x172 :: x173 :: x174 :: x175 :: x176 :: x177 :: x178 :: x179 :: x180 :: x181 :: x182 :: x183 :: x184 :: x185 :: x186 :: x187 :: x188 :: x189 :: x190 :: x191 :: x192 :: x193 :: x194 :: x195 :: x196 :: x197 :: x198 :: x199 :: x200 :: x201 :: x202 :: x203 :: x204 :: x205 :: x206 :: x207 :: x208 :: x209 :: x210 :: x211 :: x212 :: x213 :: x214 :: x215 :: x216 :: x217 :: x218 :: x219 :: x220 :: x221 :: x222 :: x223 :: []).toArray, defers := dfR w.heap.size } W := by
  conv => arg 2; whnf
  have HX := Lib.hid hX
  have HV := Lib.hid hV
  have HE := Lib.hid hE
  have HK := Lib.hid hk
  have HA := Lib.hid ha
  have hs1 := hX.pg.max
  clear hX hV hE hk ha
  go_loopw [63] (fun iv wr => ∃ m : Nat, iv = .int .i64 m ∧ m ≤ c.pg.length ∧ (∀ p ∈ c.pg.take m, (p.rq.map Rq.nm).Nodup) ∧ ResV wr w.heap.size 29 32 (c.cells d) ∧ Ext w wr) (fun iv _ => c.pg.length - (intOf iv).toNat)
  case atStart => exact ⟨0, rfl, by omega, fun _ h => by simp at h, HV.out, HE.out⟩
  case round =>
    obtain ⟨m, rfl, hm, hN, hV, hE⟩ := hrel
    have HN := Lib.hid hN
    have HV1 := Lib.hid hV
    have HE1 := Lib.hid hE
    clear hN hV hE
    by_cases hlt : m < c.pg.length
    · have hki : (m : Int) < (c.pg.length : Int) := by omega
      obtain ⟨p, hp⟩ : ∃ p, c.pg[m]? = some p := ⟨_, List.getElem?_eq_getElem hlt⟩
      obtain ⟨B, o, qa, qc, eqa, hq, hcell⟩ := (HX.out.pg.ext HE1.out).at hp
      have d0 : wr.cell? ⟨B, o + m * 7, none⟩ = some (.string p.nm) := hcell 0 _ rfl
      have d1 : wr.cell? ⟨B, o + m * 7 + 1, none⟩ = some (.int .i64 p.nu) := hcell 1 _ rfl
      have d2 : wr.cell? ⟨B, o + m * 7 + 2, none⟩ = some (.int .i64 p.us) := hcell 2 _ rfl
      have d3 : wr.cell? ⟨B, o + m * 7 + 3, none⟩ = some (.int .i64 p.ea) := hcell 3 _ rfl
      have d4 : wr.cell? ⟨B, o + m * 7 + 4, none⟩ = some (.int .i64 p.mn) := hcell 4 _ rfl
      have d5 : wr.cell? ⟨B, o + m * 7 + 5, none⟩ = some (.int .i64 p.md) := hcell 5 _ rfl
      have d6 : wr.cell? ⟨B, o + m * 7 + 6, none⟩ = some (.slice qa p.rq.length qc) := hcell 6 _ rfl
      have HP := Lib.hid (List.mem_of_getElem? hp)
      have HTS := Lib.hid (take_snoc' hp)
      have hxb : Ext wr (wr.alloc (.cells #[.string p.nm, .int .i64 p.nu, .int .i64 p.us, .int .i64 p.ea, .int .i64 p.mn, .int .i64 p.md, .slice qa p.rq.length qc] 62)) := (Ext.refl wr).alloc _
      have HXB := Lib.hid hxb
      have HU := Lib.hid (uniRs' p.rq qa qc _ (hq.ext hxb) (HK.out.s2 p HP.out).2.2 (HK.out.rq p HP.out).1)
      clear hxb hcell hq hp
      rw [eqa]
      go_wp2_with fail
      clear d0 d1 d2 d3 d4 d5 d6
      refine HU.out.mono ?_
      generalize wr.alloc (.cells #[.string p.nm, .int .i64 p.nu, .int .i64 p.us, .int .i64 p.ea, .int .i64 p.mn, .int .i64 p.md, .slice qa p.rq.length qc] 62) = w1 at *
      rintro e w7 ⟨h | h, hE7⟩
      · obtain ⟨hn, rfl⟩ := h
        have HE7 := Lib.hid (HXB.out.trans hE7)
        have HNN := Lib.hid hn
        clear hE7 hn HU
        go_wp2_with fail
        go_roundw
        case rel =>
          refine ⟨m + 1, by go_num, by omega, fun x hx => ?_, HV1.out.kpC HE7.out.kpC, HE1.out.trans HE7.out⟩
          rw [HTS.out] at hx
          rcases List.mem_append.1 hx with hx | hx
          · exact HN.out x hx
          · obtain rfl := List.mem_singleton.1 hx
            exact HNN.out
        case measure => simp [intOf] <;> omega
      · obtain ⟨hn, rfl⟩ := h
        exact ⟨rfl, rfl, rfl, _, rfl, Cat.resN_twice HA.out fun ho => hn (ho.2.2.2.2.1 p HP.out), HV1.out.kpC (HXB.out.trans hE7).kpC, HE1.out.trans (HXB.out.trans hE7)⟩
    · have hki : ¬ (m : Int) < (c.pg.length : Int) := by omega
      obtain rfl : m = c.pg.length := by omega
      rw [List.take_length] at HN
      go_wp2_with fail
      exact ⟨rfl, ⟨_, _, _, _, _, _, _, _, _, rfl⟩, HV1.out, HE1.out, HN.out⟩
end Go.Proofs.Ytimigpfoflilcaa

/- Names: Resolve, the loop over the requirements' lengths. -/
import Derived.Test.YtimigpfoflilcaaYO
namespace Go.Sz
open Go.RowKit
def okQ (q : Rq) : Bool := q.nms.length == q.fr.length
def okG (p : Pg) : Bool := p.rq.all okQ
theorem arg_of {c : Cat} (h : c.pg.all okG = true) : c.arg = false := by
  unfold Cat.arg
  rw [List.any_eq_false]
  intro p hp h1
  obtain ⟨q, hq, h2⟩ := List.any_eq_true.1 h1
  have h3 := List.all_eq_true.1 (List.all_eq_true.1 h p hp) q hq
  unfold okQ at h3
  rw [bne, h3] at h2
  cases h2
theorem arg_bad {c : Cat} {p : Pg} {q : Rq} (hp : p ∈ c.pg) (hq : q ∈ p.rq) (h : okQ q = false) : c.arg = true := by
  unfold Cat.arg
  rw [List.any_eq_true]
  refine ⟨p, hp, List.any_eq_true.2 ⟨q, hq, ?_⟩⟩
  unfold okQ at h
  rw [bne, h]
  rfl
theorem all_take {α : Type} {f : α → Bool} {l : List α} {m : Nat} {x : α} (h : (l.take m).all f = true) (hx : l[m]? = some x) (hf : f x = true) : (l.take (m + 1)).all f = true := by
  rw [List.take_add_one, hx, List.all_append, h]
  simp [hf]
/-- the programme of index i -/
theorem RepG.at {w : World} {ao : Option Addr} {cap : Nat} {l : List Pg} (h : RepG w ao cap l) {i : Nat} {p : Pg} (hp : l[i]? = some p) :
    ∃ B o a k, ao = some ⟨B, o, none⟩ ∧ RepQ w a k p.rq ∧ ∀ (j : Nat) (v : Value), (p.cells a k)[j]? = some v → w.cell? ⟨B, o + i * 7 + j, none⟩ = some v := by
  obtain ⟨rows, h1, h2, h3⟩ := h
  have hi : i < rows.length := by rw [h2]; exact (List.getElem?_eq_some_iff.1 hp).1
  have hc : rows[i]? = some rows[i] := List.getElem?_eq_getElem hi
  obtain ⟨a, k, e, hq⟩ := h3 i p _ hp hc
  rw [e] at hc
  obtain ⟨B, o, eB, -⟩ := h1.cells i 0 _ _ hc rfl
  refine ⟨B, o, a, k, eB, hq, fun j x hj => ?_⟩
  obtain ⟨b', o', e2, hw⟩ := h1.cells i j _ _ hc hj
  rw [eB] at e2
  cases e2
  exact hw
theorem RepQ.at {w : World} {ao : Option Addr} {cap : Nat} {l : List Rq} (h : RepQ w ao cap l) {i : Nat} {q : Rq} (hp : l[i]? = some q) :
    ∃ B o na nc fa fc, ao = some ⟨B, o, none⟩ ∧ SL w 1 na nc (srows q.nms) ∧ SL w 1 fa fc (irows q.fr) ∧ ∀ (j : Nat) (v : Value), (q.cells na nc fa fc)[j]? = some v → w.cell? ⟨B, o + i * 6 + j, none⟩ = some v := by
  obtain ⟨rows, h1, h2, h3⟩ := h
  have hi : i < rows.length := by rw [h2]; exact (List.getElem?_eq_some_iff.1 hp).1
  have hc : rows[i]? = some rows[i] := List.getElem?_eq_getElem hi
  obtain ⟨na, nc, fa, fc, e, g1, g2⟩ := h3 i q _ hp hc
  rw [e] at hc
  obtain ⟨B, o, eB, -⟩ := h1.cells i 0 _ _ hc rfl
  refine ⟨B, o, na, nc, fa, fc, eB, g1, g2, fun j x hj => ?_⟩
  obtain ⟨b', o', e2, hw⟩ := h1.cells i j _ _ hc hj
  rw [eB] at e2
  cases e2
  exact hw
theorem RepG.max {w : World} {ao : Option Addr} {cap : Nat} {l : List Pg} (h : RepG w ao cap l) : (l.length : Int) ≤ 9223372036854775807 := by
  obtain ⟨rows, h1, h2, -⟩ := h
  have := h1.le
  have := h1.max
  omega
theorem RepQ.max {w : World} {ao : Option Addr} {cap : Nat} {l : List Rq} (h : RepQ w ao cap l) : (l.length : Int) ≤ 9223372036854775807 := by
  obtain ⟨rows, h1, h2, -⟩ := h
  have := h1.le
  have := h1.max
  omega
end Go.Sz
namespace Go.Proofs.Ytimigpfoflilcaa
open Go.RowKit Go.Sz
set_option maxRecDepth 1000000 in
set_option maxHeartbeats 6400000 in
theorem loopA (c : Cat) (d : Adr) (w W : World) (hX : RepX w d c) (hV : ResV W w.heap.size 29 32 (c.cells d)) (hE : Ext w W)  (x0 x4 x5 x6 x7 x8 x9 x10 x11 x12 x13 x14 x15 x16 x17 x18 x19 x20 x21 x22 x23 x24 x28 x29 x30 x31 x32 x33 x34 x35 x36 x37 x38 x39 x40 x41 x42 x43 x44 x45 x46 x47 x48 x49 x50 x51 x52 x53 x54 x55 x56 x57 x58 x59 x60 x61 x62 x63 x64 x65 x66 x67 x68 x69 x70 x71 x72 x73 x74 x75 x76 x77 x78 x79 x80 x81 x82 x83 x84 x85 x86 x87 x88 x89 x90 x91 x92 x93 x94 x95 x96 x97 x98 x99 x100 x101 x102 x103 x104 x105 x106 x107 x108 x109 x110 x111 x112 x113 x114 x115 x116 x117 x118 x119 x120 x121 x122 x123 x124 x125 x126 x127 x128 x129 x130 x131 x132 x133 x134 x135 x136 x137 x138 x139 x140 x141 x142 x143 x144 x145 x146 x147 x148 x149 x150 x151 x152 x153 x154 x155 x156 x157 x158 x159 x160 x161 x162 x163 x164 x165 x166 x167 x168 x169 x170 x171 x172 x173 x174 x175 x176 x177 x178 x179 x180 x181 x182 x183 x184 x185 x186 x187 x188 x189 x190 x191 x192 x193 x194 x195 x196 x197 x198 x199 x200 x201 x202 x203 x204 x205 x206 x207 x208 x209 x210 x211 x212 x213 x214 x215 x216 x217 x218 x219 x220 x221 x222 x223 : Value) :
    Code.wp Try.prog (lpR 0) (lpQ 0 c d w fun a V => ∃ y5 y7 y27 y28 y29 y30 y31 y32 y33 y34 y35 y36 y37 y38 y39 y40 y41 y42 y43 y44 y45 y46 y47 : Value, a = { tmps := (x0 :: (.pointer (some ⟨w.heap.size, 0, none⟩)) :: (.pointer (some ⟨w.heap.size + 1, 0, none⟩)) :: (.pointer (some ⟨w.heap.size + 2, 0, none⟩)) :: x4 :: y5 :: x6 :: y7 :: x8 :: x9 :: x10 :: x11 :: x12 :: x13 :: x14 :: x15 :: x16 :: x17 :: x18 :: x19 :: x20 :: x21 :: x22 :: x23 :: x24 :: (.slice d.a2 c.pg.length d.k2) :: (.int .i64 c.pg.length) :: y27 :: y28 :: y29 :: y30 :: y31 :: y32 :: y33 :: y34 :: y35 :: y36 :: y37 :: y38 :: y39 :: y40 :: y41 :: y42 :: y43 :: y44 :: y45 :: y46 :: y47 :: x48 :: x49 :: x50 :: x51 :: x52 :: x53 :: x54 :: x55 :: x56 :: x57 :: x58 :: x59 :: x60 :: x61 :: x62 :: x63 :: x64 :: x65 :: x66 :: x67 :: x68 :: x69 :: x70 :: x71 :: x72 :: x73 :: x74 :: x75 :: x76 :: x77 :: x78 :: x79 :: x80 :: x81 :: x82 :: x83 :: x84 :: x85 :: x86 :: x87 :: x88 :: x89 :: x90 :: x91 :: x92 :: x93 :: x94 :: x95 :: x96 :: x97 :: x98 :: x99 :: x100 :: x101 :: x102 :: x103 :: x104 :: x105 :: x106 :: x107 :: x108 :: x109 :: x110 :: x111 :: x112 :: x113 :: x114 :: x115 :: x116 :: x117 :: x118 :: x119 :: x120 :: x121 :: x122 :: x123 :: x124 :: x125 :: x126 :: x127 :: x128 :: x129 :: x130 :: x131 :: x132 :: x133 :: x134 :: x135 :: x136 :: x137 :: x138 :: x139 :: x140 :: x141 :: x142 :: x143 :: x144 :: x145 :: x146 :: x147 :: x148 :: x149 :: x150 :: x151 :: x152 :: x153 :: x154 :: x155 :: x156 :: x157 :: x158 :: x159 :: x160 :: x161 :: x162 :: x163 :: x164 :: x165 :: x166 :: x167 :: x168 :: x169 :: x170 :: x171 :: x172 :: x173 :: x174 :: x175 :: x176 :: x177 :: x178 :: x179 :: x180 :: x181 :: x182 :: x183 :: x184 :: x185 :: x186 :: x187 :: x188 :: x189 :: x190 :: x191 :: x192 :: x193 :: x194 :: x195 :: x196 :: x197 :: x198 :: x199 :: x200 :: x201 :: x202 :: x203 :: x204 :: x205 :: x206 :: x207 :: x208 :: x209 :: x210 :: x211 :: x212 :: x213 :: x214 :: x215 :: x216 :: x217 :: x218 :: x219 :: x220 :: x221 :: x222 :: x223 :: []).toArray, defers := dfR w.heap.size } ∧ ResV V w.heap.size 29 32 (c.cells d) ∧ Ext w V ∧ c.arg = false) { tmps := (x0 :: (.pointer (some ⟨w.heap.size, 0, none⟩)) :: (.pointer (some ⟨w.heap.size + 1, 0, none⟩)) :: (.pointer (some ⟨w.heap.size + 2, 0, none⟩)) :: x4 :: x5 :: x6 :: x7 :: x8 :: x9 :: x10 :: x11 :: x12 :: x13 :: x14 :: x15 :: x16 :: x17 :: x18 :: x19 :: x20 :: x21 :: x22 :: x23 :: x24 :: (.slice d.a2 c.pg.length d.k2) :: (.int .i64 c.pg.length) :: (.int .i64 0) :: x28 :: x29 :: x30 :: x31 :: x32 :: x33 :: x34 :: x35 :: x36 :: x37 :: x38 :: x39 :: x40 :: x41 :: x42 :: x43 :: x44 :: x45 :: x46 :: x47 :: x48 :: x49 :: x50 :: x51 :: x52 :: x53 :: x54 :: x55 :: x56 :: x57 :: x58 :: x59 :: x60 :: x61 :: x62 :: x63 :: x64 :: x65 :: x66 :: x67 :: x68 :: x69 :: x70 :: x71 :: x72 :: x73 :: x74 :: x75 :: x76 :: x77 :: x78 :: x79 :: x80 :: x81 :: x82 :: x83 :: x84 :: x85 :: x86 :: x87 :: x88 :: x89 :: x90 :: x91 :: x92 :: x93 :: x94 :: x95 :: x96 :: x97 :: x98 :: x99 :: x100 :: x101 :: x102 :: x103 :: x104 :: x105 :: x106 :: x107 :: x108 :: x109 :: x110 :: x111 :: x112 :: x113 :: x114 :: x115 :: x116 :: x117 :: x118 :: x119 :: x120 :: x121 :: x122 :: x123 :: x124 :: x125 :: x126 :: x127 :: x128 :: x129 :: x130 :: x131 :: x132 :: x133 :: x134 :: x135 :: x136 :: x137 :: x138 :: x139 :: x140 :: x141 :: x142 :: x143 :: x144 :: x145 :: x146 :: x147 :: x148 :: x149 :: x150 :: x151 :: x152 :: x153 :: x154 :: x155 :: x156 :: x157 :: x158 :: x159 :: x160 :: x161 :: x162 :: x163 :: x164 :: x165 :: x166 :: x167 :: x168 :: x169 :: x170 :: x171 :: x172 :: x173 :: x174 :: x175 :: x176 :: x177 :: x178 :: x179 :: x180 :: x181 :: x182 :: x183 :: x184 :: x185 :: x186 :: x187 :: x188 :: x189 :: x190 :: x191 :: x192 :: x193 :: x194 :: x195 :: x196 :: x197 :: x198 :: x199 :: x200 :: x201 :: x202 :: x203 :: x204 :: x205 :: x206 :: x207 :: x208 :: x209 :: x210 :: x211 :: x212 :: x213 :: x214 :: x215 :: x216 :: x217 :: x218 :: x219 :: x220 :: x221 :: x222 :: x223 :: []).toArray, defers := dfR w.heap.size } W := by
  conv => arg 2; whnf
  have HX := Lib.hid hX
  have HV := Lib.hid hV
  have HE := Lib.hid hE
  have hs1 := hX.pg.max
  clear hX hV hE
  go_loopw [27] (fun iv wr => ∃ m : Nat, iv = .int .i64 m ∧ m ≤ c.pg.length ∧ (c.pg.take m).all okG = true ∧ ResV wr w.heap.size 29 32 (c.cells d) ∧ Ext w wr) (fun iv _ => c.pg.length - (intOf iv).toNat)
  case atStart => exact ⟨0, rfl, by omega, rfl, HV.out, HE.out⟩
  case round =>
    obtain ⟨m, rfl, hm, hA, hV, hE⟩ := hrel
    have HA := Lib.hid hA
    have HV1 := Lib.hid hV
    have HE1 := Lib.hid hE
    clear hA hV hE
    by_cases hlt : m < c.pg.length
    · have hki : (m : Int) < (c.pg.length : Int) := by omega
      obtain ⟨p, hp⟩ : ∃ p, c.pg[m]? = some p := ⟨_, List.getElem?_eq_getElem hlt⟩
      obtain ⟨B, o, qa, qc, eqa, hq, hcell⟩ := (HX.out.pg.ext HE1.out).at hp
      have d0 : wr.cell? ⟨B, o + m * 7, none⟩ = some (.string p.nm) := hcell 0 _ rfl
      have d1 : wr.cell? ⟨B, o + m * 7 + 1, none⟩ = some (.int .i64 p.nu) := hcell 1 _ rfl
      have d2 : wr.cell? ⟨B, o + m * 7 + 2, none⟩ = some (.int .i64 p.us) := hcell 2 _ rfl
      have d3 : wr.cell? ⟨B, o + m * 7 + 3, none⟩ = some (.int .i64 p.ea) := hcell 3 _ rfl
      have d4 : wr.cell? ⟨B, o + m * 7 + 4, none⟩ = some (.int .i64 p.mn) := hcell 4 _ rfl
      have d5 : wr.cell? ⟨B, o + m * 7 + 5, none⟩ = some (.int .i64 p.md) := hcell 5 _ rfl
      have d6 : wr.cell? ⟨B, o + m * 7 + 6, none⟩ = some (.slice qa p.rq.length qc) := hcell 6 _ rfl
      have HP := Lib.hid hp
      have HQ := Lib.hid hq
      have hs2 := hq.max
      clear hcell hq hp
      have hxb : Ext wr (wr.alloc (.cells #[.string p.nm, .int .i64 p.nu, .int .i64 p.us, .int .i64 p.ea, .int .i64 p.mn, .int .i64 p.md, .slice qa p.rq.length qc] 62)) := (Ext.refl wr).alloc _
      have b6 : (wr.alloc (.cells #[.string p.nm, .int .i64 p.nu, .int .i64 p.us, .int .i64 p.ea, .int .i64 p.mn, .int .i64 p.md, .slice qa p.rq.length qc] 62)).cell? ⟨wr.heap.size, 6, none⟩ = some (.slice qa p.rq.length qc) := by simp
      have HXB := Lib.hid hxb
      clear hxb b6
      rw [eqa]
      go_wp2_with fail
      clear d0 d1 d2 d3 d4 d5 d6
      generalize wr.alloc (.cells #[.string p.nm, .int .i64 p.nu, .int .i64 p.us, .int .i64 p.ea, .int .i64 p.mn, .int .i64 p.md, .slice qa p.rq.length qc] 62) = w1 at *
      obtain ⟨wo, rfl⟩ : ∃ wo, wo = wr := ⟨_, rfl⟩
      go_loopw [34] (fun iv wr => ∃ k : Nat, iv = .int .i64 k ∧ k ≤ p.rq.length ∧ (p.rq.take k).all okQ = true ∧ Ext w1 wr) (fun iv _ => p.rq.length - (intOf iv).toNat)
      case atStart => exact ⟨0, rfl, by omega, rfl, Ext.refl _⟩
      case round =>
        obtain ⟨k, rfl, hk, hA2, hE2⟩ := hrel
        have HA2 := Lib.hid hA2
        have HE2 := Lib.hid hE2
        clear hA2 hE2
        by_cases hlk : k < p.rq.length
        · have hkk : (k : Int) < (p.rq.length : Int) := by omega
          obtain ⟨q, hq⟩ : ∃ q, p.rq[k]? = some q := ⟨_, List.getElem?_eq_getElem hlk⟩
          obtain ⟨B2, o2, na, nc, fa, fc, eqq, hn, hf, hcell⟩ := (HQ.out.ext (HXB.out.trans HE2.out)).at hq
          have e0 : wr.cell? ⟨B2, o2 + k * 6, none⟩ = some (.string q.nm) := hcell 0 _ rfl
          have e1 : wr.cell? ⟨B2, o2 + k * 6 + 1, none⟩ = some (.int .i64 q.cr) := hcell 1 _ rfl
          have e2 : wr.cell? ⟨B2, o2 + k * 6 + 2, none⟩ = some (.int .i64 q.gr) := hcell 2 _ rfl
          have e3 : wr.cell? ⟨B2, o2 + k * 6 + 3, none⟩ = some (.bool q.ho) := hcell 3 _ rfl
          have e4 : wr.cell? ⟨B2, o2 + k * 6 + 4, none⟩ = some (.slice na q.nms.length nc) := hcell 4 _ rfl
          have e5 : wr.cell? ⟨B2, o2 + k * 6 + 5, none⟩ = some (.slice fa q.fr.length fc) := hcell 5 _ rfl
          have HQ2 := Lib.hid hq
          clear hq
          have hx2 : Ext wr (wr.alloc (.cells #[.string q.nm, .int .i64 q.cr, .int .i64 q.gr, .bool q.ho, .slice na q.nms.length nc, .slice fa q.fr.length fc] 64)) := (Ext.refl wr).alloc _
          have HX2 := Lib.hid hx2
          have hln : (q.nms.length : Int) ≤ 9223372036854775807 := srows_max hn
          have hlf : (q.fr.length : Int) ≤ 9223372036854775807 := irows_max hf
          clear hcell hn hf hx2
          rw [eqq]
          go_wp2_with fail
          cases ho : okQ q with
          | true =>
            have hoo : q.nms.length = q.fr.length := by unfold okQ at ho; simpa using ho
            refine (demand_t _ _ _ (by simp [hoo])).mono ?_
            clear hoo
            rintro e w7 ⟨rfl, rfl⟩
            go_wp2_with fail
            go_roundw
            case rel => exact ⟨k + 1, by go_num, by omega, all_take HA2.out HQ2.out ho, HE2.out.trans HX2.out⟩
            case measure => simp [intOf] <;> omega
          | false =>
            have hoo : ¬ q.nms.length = q.fr.length := by unfold okQ at ho; simpa using ho
            refine (demand_f _ _ _ (by simp; omega)).mono ?_
            rintro e w7 ⟨rfl, rfl⟩
            exact ⟨rfl, rfl, rfl, _, rfl, Cat.resN_arg (arg_bad (List.mem_of_getElem? HP.out) (List.mem_of_getElem? HQ2.out) ho), (HV1.out.kpC (HXB.out.trans (HE2.out.trans HX2.out)).kpC), (HE1.out.trans (HXB.out.trans (HE2.out.trans HX2.out)))⟩
        · have hkk : ¬ (k : Int) < (p.rq.length : Int) := by omega
          obtain rfl : k = p.rq.length := by omega
          rw [List.take_length] at HA2
          go_wp2_with fail
          go_roundw
          case rel => exact ⟨m + 1, by go_num, by omega, all_take HA.out HP.out HA2.out, HV1.out.kpC (HXB.out.trans HE2.out).kpC, HE1.out.trans (HXB.out.trans HE2.out)⟩
          case measure => simp [intOf] <;> omega
    · have hki : ¬ (m : Int) < (c.pg.length : Int) := by omega
      obtain rfl : m = c.pg.length := by omega
      rw [List.take_length] at HA
      go_wp2_with fail
      exact ⟨rfl, ⟨_, _, _, _, _, _, _, _, _, _, _, _, _, _, _, _, _, _, _, _, _, _, _, rfl⟩, HV1.out, HE1.out, arg_of HA.out⟩
end Go.Proofs.Ytimigpfoflilcaa

/- Names: Resolve, the loop over the requirements of a programme. -/
import Derived.Test.YtimigpfoflilcaaYT
namespace Go.Sz
open Go.RowKit
/-- a requirement with numbers, in memory from block N on, but its names, which lie where they lay -/
def RqN (w : World) (N : Nat) (V : World) (q : Rq) (r : List Value) : Prop := ∃ na nc fa fc, r = q.cells na nc fa fc ∧ SL w 1 na nc (srows q.nms) ∧ SL V 1 fa fc (irows q.fr) ∧ ∀ a, fa = some a → irows q.fr ≠ [] → N ≤ a.block
theorem SL.keepN {N s : Nat} {V W : World} {ao : Option Addr} {cap : Nat} {rows : List (List Value)} (h : SL V s ao cap rows) (hf : ∀ a, ao = some a → rows ≠ [] → N ≤ a.block) (hk : ∀ (b : Nat) (o : Obj), N ≤ b → V.heap[b]? = some o → o.isCells = true → W.heap[b]? = some o) : SL W s ao cap rows := by
  refine ⟨SL.le h, SL.max h, SL.nil h, SL.wid h, fun i j r v hr hv => ?_⟩
  obtain ⟨b, o, e, hc⟩ := SL.cells h i j r v hr hv
  refine ⟨b, o, e, ?_⟩
  obtain ⟨ob, h1, h2⟩ := cell_isCells hc
  have hb := hf _ e (by rintro rfl; simp at hr)
  exact (World.cell?_of_block (a := ⟨b, o + i * s + j, none⟩) ((hk _ ob hb h1 h2).trans h1.symm)).trans hc
theorem RqN.keep {w : World} {N : Nat} {V W : World} {q : Rq} {r : List Value} (h : RqN w N V q r) (hk : ∀ (b : Nat) (o : Obj), N ≤ b → V.heap[b]? = some o → o.isCells = true → W.heap[b]? = some o) : RqN w N W q r := by
  obtain ⟨na, nc, fa, fc, e, h1, h2, h3⟩ := h
  exact ⟨na, nc, fa, fc, e, h1, h2.keepN h3 hk, h3⟩
theorem RqN.kpE {w : World} {N E : Nat} {V W : World} {q : Rq} {r : List Value} (h : RqN w N V q r) (hk : KpE E V W) (hE : E < N) : RqN w N W q r := h.keep fun b o hb h1 h2 => hk.2 b o (by omega) h1 h2
theorem RqN.len {w : World} {N : Nat} {V : World} {q : Rq} {r : List Value} (h : RqN w N V q r) : r.length = 6 := by
  obtain ⟨na, nc, fa, fc, rfl, -⟩ := h
  rfl
theorem irows_ones (l : List Int) : ∀ r ∈ irows l, ∀ u ∈ r, u.oneCell' = true := by
  intro r hr u hu
  obtain ⟨x, _, rfl⟩ := List.mem_map.1 hr
  obtain rfl := List.mem_singleton.1 hu
  rfl
theorem put_at {cs : List Value} {o : Nat} {v : Value} (ho : o ≤ cs.length) (r : List Value) : (cs.take o ++ [v] ++ r)[o]? = some v := by
  rw [List.append_assoc, List.getElem?_append_right (by rw [List.length_take]; omega), List.length_take, Nat.min_eq_left ho, Nat.sub_self]
  rfl
end Go.Sz
namespace Go.Proofs.Ytimigpfoflilcaa
open Go.RowKit Go.Sz
set_option maxRecDepth 1000000 in
set_option maxHeartbeats 6400000 in
theorem loopE7 (c : Cat) (hk : c.Ok) (d : Adr) (w W : World) (hX : RepX w d c) (hV : ResV W w.heap.size 29 32 (c.cells d)) (hE : Ext w W) (ha : c.arg = false) (ho : c.once) (mp : Nat) (p : Pg) (hp : c.pg[mp]? = some p) (hop : okG p = true) (DQ lC : Nat) (lA : Option Addr) (rows : List (List Value)) (hrl : rows.length = p.rq.length)
    (hrc : ∀ (i : Nat) q r, p.rq[i]? = some q → rows[i]? = some r → ∃ na nc fa fc, r = q.cells na nc fa fc ∧ SL w 1 na nc (srows q.nms) ∧ SL w 1 fa fc (irows q.fr))
    (hO : W.ownsRow DQ 64 6 (.slice lA p.rq.length lC) p.rq.length rows.flatten) (hwD : w.heap.size + 3 ≤ DQ) (x0 x4 x5 x6 x7 x8 x9 x10 x11 x12 x13 x14 x15 x17 x18 x19 x20 x21 x22 x23 x24 x25 x26 x27 x28 x29 x30 x31 x32 x33 x34 x35 x36 x37 x38 x39 x40 x41 x42 x43 x44 x45 x46 x47 x48 x49 x50 x51 x52 x53 x54 x55 x56 x57 x58 x59 x60 x61 x62 x63 x64 x65 x66 x67 x68 x69 x70 x71 x72 x73 x74 x75 x76 x77 x78 x79 x80 x81 x82 x83 x84 x85 x86 x87 x88 x89 x90 x91 x92 x93 x94 x95 x96 x97 x98 x99 x100 x101 x102 x103 x104 x105 x106 x107 x108 x109 x110 x111 x112 x113 x114 x115 x116 x117 x118 x119 x120 x121 x122 x123 x124 x125 x126 x127 x128 x129 x130 x131 x132 x133 x134 x135 x136 x137 x138 x139 x140 x141 x142 x143 x144 x145 x146 x147 x148 x149 x150 x151 x152 x153 x154 x155 x156 x157 x158 x159 x160 x161 x162 x163 x164 x165 x166 x167 x171 x172 x173 x174 x175 x176 x177 x178 x179 x180 x181 x182 x183 x184 x185 x186 x187 x188 x189 x190 x191 x192 x193 x194 x195 x196 x197 x198 x199 x200 x201 x202 x203 x204 x205 x206 x207 x208 x209 x210 x211 x212 x213 x214 x215 x216 x217 x218 x219 x220 x221 x222 x223 : Value) :
    Code.wp Try.prog (inL (lpR 4)) (lpQ 12 c d w fun a V => ∃ y17 y18 y19 y20 y170 y171 y172 y173 y174 y175 y176 y177 y178 y179 y180 y181 y182 y183 y184 y185 y186 y187 y188 y189 y190 y191 y192 y193 y194 y195 y196 y197 y198 y199 y200 y201 y202 y203 y204 y205 y206 : Value, a = { tmps := (x0 :: (.pointer (some ⟨w.heap.size, 0, none⟩)) :: (.pointer (some ⟨w.heap.size + 1, 0, none⟩)) :: (.pointer (some ⟨w.heap.size + 2, 0, none⟩)) :: x4 :: x5 :: x6 :: x7 :: x8 :: x9 :: x10 :: x11 :: x12 :: x13 :: x14 :: x15 :: (.slice lA p.rq.length lC) :: y17 :: y18 :: y19 :: y20 :: x21 :: x22 :: x23 :: x24 :: x25 :: x26 :: x27 :: x28 :: x29 :: x30 :: x31 :: x32 :: x33 :: x34 :: x35 :: x36 :: x37 :: x38 :: x39 :: x40 :: x41 :: x42 :: x43 :: x44 :: x45 :: x46 :: x47 :: x48 :: x49 :: x50 :: x51 :: x52 :: x53 :: x54 :: x55 :: x56 :: x57 :: x58 :: x59 :: x60 :: x61 :: x62 :: x63 :: x64 :: x65 :: x66 :: x67 :: x68 :: x69 :: x70 :: x71 :: x72 :: x73 :: x74 :: x75 :: x76 :: x77 :: x78 :: x79 :: x80 :: x81 :: x82 :: x83 :: x84 :: x85 :: x86 :: x87 :: x88 :: x89 :: x90 :: x91 :: x92 :: x93 :: x94 :: x95 :: x96 :: x97 :: x98 :: x99 :: x100 :: x101 :: x102 :: x103 :: x104 :: x105 :: x106 :: x107 :: x108 :: x109 :: x110 :: x111 :: x112 :: x113 :: x114 :: x115 :: x116 :: x117 :: x118 :: x119 :: x120 :: x121 :: x122 :: x123 :: x124 :: x125 :: x126 :: x127 :: x128 :: x129 :: x130 :: x131 :: x132 :: x133 :: x134 :: x135 :: x136 :: x137 :: x138 :: x139 :: x140 :: x141 :: x142 :: x143 :: x144 :: x145 :: x146 :: x147 :: x148 :: x149 :: x150 :: x151 :: x152 :: x153 :: x154 :: x155 :: x156 :: x157 :: x158 :: x159 :: x160 :: x161 :: x162 :: x163 :: x164 :: x165 :: x166 :: x167 :: (.slice lA p.rq.length lC) :: (.int .i64 p.rq.length) :: y170 :: y171 :: y172 :: y173 :: y174 :: y175 :: y176 :: y177 :: y178 :: y179 :: y180 :: y181 :: y182 :: y183 :: y184 :: y185 :: y186 :: y187 :: y188 :: y189 :: y190 :: y191 :: y192 :: y193 :: y194 :: y195 :: y196 :: y197 :: y198 :: y199 :: y200 :: y201 :: y202 :: y203 :: y204 :: y205 :: y206 :: x207 :: x208 :: x209 :: x210 :: x211 :: x212 :: x213 :: x214 :: x215 :: x216 :: x217 :: x218 :: x219 :: x220 :: x221 :: x222 :: x223 :: []).toArray, defers := dfR w.heap.size } ∧ ResV V w.heap.size 29 32 (c.cells d) ∧ Ext w V ∧ KpB lA W V ∧ ∃ (qs : List Rq) (rows' : List (List Value)), travO (resQ c.cs) p.rq = some qs ∧ rows'.length = p.rq.length ∧ (∀ (i : Nat) q r, qs[i]? = some q → rows'[i]? = some r → RqN w W.heap.size V q r) ∧ V.ownsRow DQ 64 6 (.slice lA p.rq.length lC) p.rq.length rows'.flatten) { tmps := (x0 :: (.pointer (some ⟨w.heap.size, 0, none⟩)) :: (.pointer (some ⟨w.heap.size + 1, 0, none⟩)) :: (.pointer (some ⟨w.heap.size + 2, 0, none⟩)) :: x4 :: x5 :: x6 :: x7 :: x8 :: x9 :: x10 :: x11 :: x12 :: x13 :: x14 :: x15 :: (.slice lA p.rq.length lC) :: x17 :: x18 :: x19 :: x20 :: x21 :: x22 :: x23 :: x24 :: x25 :: x26 :: x27 :: x28 :: x29 :: x30 :: x31 :: x32 :: x33 :: x34 :: x35 :: x36 :: x37 :: x38 :: x39 :: x40 :: x41 :: x42 :: x43 :: x44 :: x45 :: x46 :: x47 :: x48 :: x49 :: x50 :: x51 :: x52 :: x53 :: x54 :: x55 :: x56 :: x57 :: x58 :: x59 :: x60 :: x61 :: x62 :: x63 :: x64 :: x65 :: x66 :: x67 :: x68 :: x69 :: x70 :: x71 :: x72 :: x73 :: x74 :: x75 :: x76 :: x77 :: x78 :: x79 :: x80 :: x81 :: x82 :: x83 :: x84 :: x85 :: x86 :: x87 :: x88 :: x89 :: x90 :: x91 :: x92 :: x93 :: x94 :: x95 :: x96 :: x97 :: x98 :: x99 :: x100 :: x101 :: x102 :: x103 :: x104 :: x105 :: x106 :: x107 :: x108 :: x109 :: x110 :: x111 :: x112 :: x113 :: x114 :: x115 :: x116 :: x117 :: x118 :: x119 :: x120 :: x121 :: x122 :: x123 :: x124 :: x125 :: x126 :: x127 :: x128 :: x129 :: x130 :: x131 :: x132 :: x133 :: x134 :: x135 :: x136 :: x137 :: x138 :: x139 :: x140 :: x141 :: x142 :: x143 :: x144 :: x145 :: x146 :: x147 :: x148 :: x149 :: x150 :: x151 :: x152 :: x153 :: x154 :: x155 :: x156 :: x157 :: x158 :: x159 :: x160 :: x161 :: x162 :: x163 :: x164 :: x165 :: x166 :: x167 :: (.slice lA p.rq.length lC) :: (.int .i64 p.rq.length) :: (.int .i64 0) :: x171 :: x172 :: x173 :: x174 :: x175 :: x176 :: x177 :: x178 :: x179 :: x180 :: x181 :: x182 :: x183 :: x184 :: x185 :: x186 :: x187 :: x188 :: x189 :: x190 :: x191 :: x192 :: x193 :: x194 :: x195 :: x196 :: x197 :: x198 :: x199 :: x200 :: x201 :: x202 :: x203 :: x204 :: x205 :: x206 :: x207 :: x208 :: x209 :: x210 :: x211 :: x212 :: x213 :: x214 :: x215 :: x216 :: x217 :: x218 :: x219 :: x220 :: x221 :: x222 :: x223 :: []).toArray, defers := dfR w.heap.size } W := by
  conv => arg 2; whnf
  have HX := Lib.hid hX
  have HK := Lib.hid hk
  have HA := Lib.hid ha
  have HON := Lib.hid ho
  have HPM := Lib.hid hp
  have HOP := Lib.hid hop
  have HWD := Lib.hid hwD
  have HRL := Lib.hid hrl
  have HRC := Lib.hid hrc
  have HV0 := Lib.hid hV
  have HE0 := Lib.hid hE
  have HO0 := Lib.hid hO
  have hpr := hk.rq p (List.mem_of_getElem? hp)
  have HPR := Lib.hid hpr
  have hs1 : (p.rq.length : Int) ≤ 9223372036854775807 := by have := hpr.1; omega
  clear hX hV hE hk ha ho hp hwD hO hop hrl hrc hpr
  go_loopw [170] (fun iv wr => ∃ (k : Nat) (qs : List Rq) (rows' : List (List Value)), iv = .int .i64 k ∧ k ≤ p.rq.length ∧ ResV wr w.heap.size 29 32 (c.cells d) ∧ Ext w wr ∧ KpB lA W wr ∧ wr.ownsRow DQ 64 6 (.slice lA p.rq.length lC) p.rq.length (rows' ++ rows.drop k).flatten ∧
      (travO (resQ c.cs) (p.rq.take k) = some qs ∧ qs.length = k ∧ rows'.length = k ∧ ∀ (i : Nat) q r, qs[i]? = some q → rows'[i]? = some r → RqN w W.heap.size wr q r)) (fun iv _ => p.rq.length - (intOf iv).toNat)
  case atStart => exact ⟨0, [], [], rfl, by omega, HV0.out, HE0.out, (KpC.refl _).kpB, by simpa using HO0.out, by rw [List.take_zero]; rfl, rfl, rfl, fun i q r h => by simp at h⟩
  case round =>
    obtain ⟨k, qs, rows', rfl, hm, hV, hE, hB, hO, hP⟩ := hrel
    have HV1 := Lib.hid hV
    have HE1 := Lib.hid hE
    have HB1 := Lib.hid hB
    have HO1 := Lib.hid hO
    have HP1 := Lib.hid hP
    clear hV hE hB hO hP
    by_cases hlt : k < p.rq.length
    · have hki : (k : Int) < (p.rq.length : Int) := by omega
      obtain ⟨q, hq⟩ : ∃ q, p.rq[k]? = some q := ⟨_, List.getElem?_eq_getElem hlt⟩
      obtain ⟨cc, hcc⟩ : ∃ cc, rows[k]? = some cc := ⟨_, List.getElem?_eq_getElem (by rw [HRL.out]; exact hlt)⟩
      obtain ⟨na, nc, fa, fc, rfl, hn, hf⟩ := HRC.out k q cc hq hcc
      obtain ⟨g, cap', rest, ev, hgD, hrow, hgc, hgm, hgl⟩ := Row.of_own HO1.out (by omega)
      cases ev
      have hwd : ∀ r ∈ rows' ++ rows.drop k, r.length = 6 := fun r hr => by
        rcases List.mem_append.1 hr with hr | hr
        · obtain ⟨i, hi⟩ := List.getElem?_of_mem hr
          have hil := (List.getElem?_eq_some_iff.1 hi).1
          obtain ⟨z, hz⟩ : ∃ z, qs[i]? = some z := ⟨_, List.getElem?_eq_getElem (by rw [HP1.out.2.1, ← HP1.out.2.2.1]; exact hil)⟩
          exact (HP1.out.2.2.2 i z r hz hi).len
        · obtain ⟨i, hi⟩ := List.getElem?_of_mem (List.mem_of_mem_drop hr)
          have hil := (List.getElem?_eq_some_iff.1 hi).1
          obtain ⟨z, hz⟩ : ∃ z, p.rq[i]? = some z := ⟨_, List.getElem?_eq_getElem (by rw [← HRL.out]; exact hil)⟩
          obtain ⟨_, _, _, _, rfl, -⟩ := HRC.out i z r hz hi
          rfl
      have hmid : (rows' ++ rows.drop k)[k]? = some (q.cells na nc fa fc) := by
        rw [List.getElem?_append_right (by rw [HP1.out.2.2.1]; exact Nat.le_refl _), HP1.out.2.2.1, Nat.sub_self, List.getElem?_drop]
        exact hcc
      have hsl := hrow.sl hwd (by rw [List.length_append, HP1.out.2.2.1, List.length_drop, HRL.out]; omega) hgm hgl
      have hcell : ∀ (j : Nat) (v : Value), (q.cells na nc fa fc)[j]? = some v → wr.cell? ⟨g, k * 6 + j, none⟩ = some v := fun j v hj => by
        obtain ⟨b', o', e, hw⟩ := hsl.cells k j _ _ hmid hj
        cases e
        simpa using hw
      have d0 : wr.cell? ⟨g, k * 6, none⟩ = some (.string q.nm) := hcell 0 _ rfl
      have d1 : wr.cell? ⟨g, k * 6 + 1, none⟩ = some (.int .i64 q.cr) := hcell 1 _ rfl
      have d2 : wr.cell? ⟨g, k * 6 + 2, none⟩ = some (.int .i64 q.gr) := hcell 2 _ rfl
      have d3 : wr.cell? ⟨g, k * 6 + 3, none⟩ = some (.bool q.ho) := hcell 3 _ rfl
      have d4 : wr.cell? ⟨g, k * 6 + 4, none⟩ = some (.slice na q.nms.length nc) := hcell 4 _ rfl
      have d5 : wr.cell? ⟨g, k * 6 + 5, none⟩ = some (.slice fa q.fr.length fc) := hcell 5 _ rfl
      have hxb : Ext wr (wr.alloc (.cells [Value.string q.nm, Value.int .i64 q.cr, Value.int .i64 q.gr, Value.bool q.ho, Value.slice na q.nms.length nc, Value.slice fa q.fr.length fc].toArray 64)) := (Ext.refl wr).alloc _
      have HXB := Lib.hid hxb
      have hcl := cloneI_any (irows q.fr) fa fc _ (hf.ext (HE1.out.trans hxb)) (irows_ones _) (by rw [show (irows q.fr).length = q.fr.length from List.length_map _]; have := HPR.out.2 q (List.mem_of_getElem? hq); omega)
      rw [show (irows q.fr).length = q.fr.length from List.length_map _] at hcl
      have HCL := Lib.hid hcl
      have HNB : Hid (Row (wr.alloc (.cells [Value.string q.nm, Value.int .i64 q.cr, Value.int .i64 q.gr, Value.bool q.ho, Value.slice na q.nms.length nc, Value.slice fa q.fr.length fc].toArray 64)) wr.heap.size 64 [Value.string q.nm, Value.int .i64 q.cr, Value.int .i64 q.gr, Value.bool q.ho, Value.slice na q.nms.length nc, Value.slice fa q.fr.length fc]) := Lib.hid (World.alloc_heap_new wr _)
      have HSB : Hid ((wr.alloc (.cells [Value.string q.nm, Value.int .i64 q.cr, Value.int .i64 q.gr, Value.bool q.ho, Value.slice na q.nms.length nc, Value.slice fa q.fr.length fc].toArray 64)).heap.size = wr.heap.size + 1) := Lib.hid (by simp)
      have HOQ : Hid (okQ q = true) := Lib.hid (List.all_eq_true.1 HOP.out q (List.mem_of_getElem? hq))
      have HROW := Lib.hid hrow
      have HWDT := Lib.hid hwd
      have HMID := Lib.hid hmid
      have HGD := Lib.hid (And.intro hgD (And.intro hgl (And.intro hgc hgm)))
      have HQM := Lib.hid hq
      have HCC := Lib.hid hcc
      have HN := Lib.hid hn
      have HF := Lib.hid hf
      clear hrow hwd hmid hgD hgl hgc hgm hq hcc hcell hsl hxb hcl hn hf
      have HGW : Hid (g < W.heap.size) := Lib.hid (by
        obtain ⟨g2, cap2, rest2, ev2, -, hrw2, -⟩ := Row.of_own HO0.out (by omega)
        cases ev2
        exact (Array.getElem?_eq_some_iff.1 hrw2).1)
      have hgwr : g < wr.heap.size := (Array.getElem?_eq_some_iff.1 HROW.out).1
      have hne1 : ¬ wr.heap.size = g := by omega
      have hne2 : ¬ g = wr.heap.size := by omega
      go_wp2_with (go_at_call 50; refine HCL.out.mono ?_; rintro e w5 ⟨v, rfl, hof, hE5⟩; obtain ⟨fA, fC, rfl⟩ := ownsRow_slice hof; have HOF := Lib.hid hof; have HE5 := Lib.hid hE5; have d5' := (HXB.out.trans hE5).cell d5; have b4 := (HNB.out.kpC hE5.kpC).cell (j := 4) rfl; have z5 := (HROW.out.kpC (HXB.out.trans hE5).kpC).froz (k * 6 + 5); clear hof hE5 d0 d1 d2 d3 d4 d5)
      have hrow5 := HROW.out.kpC (HXB.out.trans HE5.out).kpC
      have hbd : k * 6 + 6 ≤ ((rows' ++ rows.drop k).flatten ++ rest).length := by
        have h1 := HGD.out.2.1
        have h2 := HGD.out.2.2.1
        rw [h1]
        omega
      have hg3 : w.heap.size + 2 < g := by have h1 := HGD.out.1; have h2 := HWD.out; omega
      have hgr := setCell_grown w5 g (k * 6 + 5) (.slice fA q.fr.length fC)
      have hRowA := hrow5.put (o := k * 6 + 5) (.slice fA q.fr.length fC) (by omega)
      have hke := grown_kpE hgr
      have hE8 : Ext w (w5.setCell ⟨g, k * 6 + 5, none⟩ (.slice fA q.fr.length fC)) := Below.grown (HE1.out.trans (HXB.out.trans HE5.out)) hgr (HE1.out.trans (HXB.out.trans HE5.out)).size (fun x hx => by cases hx; omega)
      have hV8 := (HV1.out.kpC (HXB.out.trans HE5.out).kpC).kpE hke hg3
      have hB8 := (HNB.out.kpC HE5.out.kpC).kpE hke (by omega)
      have hO8 := own_kpE HOF.out hke (by rw [HSB.out]; omega)
      have hcq := put_at (cs := (rows' ++ rows.drop k).flatten ++ rest) (o := k * 6 + 5) (v := .slice fA q.fr.length fC) (by omega) (((rows' ++ rows.drop k).flatten ++ rest).drop (k * 6 + 5 + 1))
      have HKE : Hid (KpE g wr (w5.setCell ⟨g, k * 6 + 5, none⟩ (.slice fA q.fr.length fC))) := Lib.hid ((HXB.out.trans HE5.out).kpC.kpE.trans hke)
      clear z5 d5' b4 hrow5 hgr hke hne1 hne2
      generalize w5.setCell ⟨g, k * 6 + 5, none⟩ (.slice fA q.fr.length fC) = w8 at *
      refine Code.wp_mono (fun e a V hz => ?_) (loopE8 c d w w8 HX.out hV8 hE8 HA.out HON.out mp k p q HPM.out HQM.out HOQ.out na fa nc fc HN.out HF.out g p.rq.length lC k wr.heap.size _ fC fA _ hRowA hcq hlt hB8 hO8 (by rw [HSB.out]; omega) (by rw [HSB.out]; omega) (by rw [HSB.out]; omega) _ _ _ _ _ _ _ _ _ _ _ _ _ _ _ _ _ _ _ _ _ _ _ _ _ _ _ _ _ _ _ _ _ _ _ _ _ _ _ _ _ _ _ _ _ _ _ _ _ _ _ _ _ _ _ _ _ _ _ _ _ _ _ _ _ _ _ _ _ _ _ _ _ _ _ _ _ _ _ _ _ _ _ _ _ _ _ _ _ _ _ _ _ _ _ _ _ _ _ _ _ _ _ _ _ _ _ _ _ _ _ _ _ _ _ _ _ _ _ _ _ _ _ _ _ _ _ _ _ _ _ _ _ _ _ _ _ _ _ _ _ _ _ _ _ _ _ _ _ _ _ _ _ _ _ _ _ _ _ _ _ _ _ _ _ _ _ _ _ _ _ _ _ _ _ _ _ _ _ _ _ _ _ _ _ _ _ _ _ _ _ _ _ _ _ _ _ _ _ _ _ _ _ _ _ _ _ _ _ _ _ _ _ _ _)
      cases e with
      | exit n =>
        obtain ⟨rfl, y19, y20, y185, y186, y187, y188, y189, y190, y191, y192, y193, y194, y195, y196, y197, y198, y199, y200, y201, y202, y203, y204, y205, rfl, hV9, hE9, hB9, ns, hns, hO9⟩ := hz
        have hnl : ns.length = q.fr.length := by
          have h1 := travO_len hns
          have h2 : q.nms.length = q.fr.length := by have := HOQ.out; unfold okQ at this; simpa using this
          rw [h1, List.length_zip, h2, Nat.min_self]
        have hfb : ∀ a, fA = some a → wr.heap.size + 1 ≤ a.block := fun a e => by
          have := ownsRow_blocks HOF.out a.block (by rw [e]; rfl)
          rw [HSB.out] at this
          exact this
        have hkv : KpE g wr V := ⟨Nat.le_trans HKE.out.1 hB9.1, fun b o hb h1 h2 => hB9.2 b o (fun a e => by have h3 := hfb a e; have h4 := (Array.getElem?_eq_some_iff.1 h1).1; omega) (HKE.out.2 b o hb h1 h2) h2⟩
        have hRowV : Row V g 64 (((rows' ++ rows.drop k).flatten ++ rest).take (k * 6 + 5) ++ [.slice fA q.fr.length fC] ++ ((rows' ++ rows.drop k).flatten ++ rest).drop (k * 6 + 5 + 1)) := hB9.2 _ _ (fun a e => by have h3 := hfb a e; show g ≠ a.block; omega) hRowA rfl
        rw [show k * 6 + 5 + 1 = k * 6 + 5 + [Value.slice fA q.fr.length fC].length from rfl, flat_set (k := 6) (j := 5) (vs := [.slice fA q.fr.length fC]) (by simp) _ k _ HMID.out HWDT.out, drop_at HCC.out, set_mid HP1.out.2.2.1] at hRowV
        have hrc' : (q.cells na nc fa fc).take 5 ++ [Value.slice fA q.fr.length fC] ++ (q.cells na nc fa fc).drop (5 + [Value.slice fA q.fr.length fC].length) = ({ q with fr := ns } : Rq).cells na nc fA fC := by
          show [Value.string q.nm, Value.int .i64 q.cr, Value.int .i64 q.gr, Value.bool q.ho, Value.slice na q.nms.length nc, Value.slice fA q.fr.length fC] = [Value.string q.nm, Value.int .i64 q.cr, Value.int .i64 q.gr, Value.bool q.ho, Value.slice na q.nms.length nc, Value.slice fA ns.length fC]
          rw [hnl]
        rw [hrc'] at hRowV
        obtain ⟨ax, cx, ex, hslf, hfarf⟩ := SL.of_own hO9 (irows_wid _) (by rw [show (irows ns).length = ns.length from List.length_map _, hnl])
        cases ex
        have hNew : RqN w W.heap.size V { q with fr := ns } (({ q with fr := ns } : Rq).cells na nc fA fC) := ⟨na, nc, fA, fC, rfl, HN.out, hslf, fun a e _ => by have h3 := hfb a e; have h4 := HB1.out.1; omega⟩
        have HFIN := Lib.hid (And.intro hV9 (And.intro hE9 (And.intro hkv (And.intro hRowV (And.intro hNew hns)))))
        clear hV9 hE9 hB9 hns hO9 hkv hRowV hNew hslf hfarf hfb hRowA hE8 hV8 hB8 hO8 hcq hrc' hnl hbd
        go_wp2_with fail
        go_roundw
        case rel =>
          have hwf : ∀ r ∈ rows' ++ [({ q with fr := ns } : Rq).cells na nc fA fC] ++ rows.drop (k + 1), r.length = 6 := fun r hr => by
            rcases List.mem_append.1 hr with hr | hr
            · rcases List.mem_append.1 hr with hr | hr
              · exact HWDT.out r (List.mem_append_left _ hr)
              · obtain rfl := List.mem_singleton.1 hr; rfl
            · refine HWDT.out r (List.mem_append_right _ ?_)
              rw [drop_at HCC.out]
              exact List.mem_cons_of_mem _ hr
          refine ⟨k + 1, qs ++ [{ q with fr := ns }], rows' ++ [({ q with fr := ns } : Rq).cells na nc fA fC], by go_num, by omega, HFIN.out.1, HFIN.out.2.1, ?_, ?_, ?_, ?_, ?_, ?_⟩
          · exact HB1.out.trans (KpE.kpB (a := ⟨g, 0, none⟩) HFIN.out.2.2.1)
          · refine HFIN.out.2.2.2.1.own hwf ?_ HGD.out.2.2.1 HGD.out.2.2.2 ?_ HGD.out.1
            · rw [List.length_append, List.length_append, HP1.out.2.2.1, List.length_drop, HRL.out, List.length_singleton]; omega
            · have h1 := HGD.out.2.1
              rw [← h1, List.length_append, List.length_append]
              congr 1
              rw [flat_len _ HWDT.out, flat_len (size := 6) _ hwf]
              simp only [List.length_append, List.length_drop, HP1.out.2.2.1, HRL.out, List.length_singleton]
              omega
          · rw [take_snoc' HQM.out]
            exact travO_snoc HP1.out.1 (by rw [resQ_eq, HFIN.out.2.2.2.2.2]; rfl)
          · rw [List.length_append, HP1.out.2.1]; rfl
          · rw [List.length_append, HP1.out.2.2.1]; rfl
          · intro i z r hz hr
            by_cases hi : i < k
            · rw [List.getElem?_append_left (by rw [HP1.out.2.1]; exact hi)] at hz
              rw [List.getElem?_append_left (by rw [HP1.out.2.2.1]; exact hi)] at hr
              exact (HP1.out.2.2.2 i z r hz hr).kpE HFIN.out.2.2.1 HGW.out
            · rw [List.getElem?_append_right (by rw [HP1.out.2.1]; omega), HP1.out.2.1] at hz
              rw [List.getElem?_append_right (by rw [HP1.out.2.2.1]; omega), HP1.out.2.2.1] at hr
              have hi0 : i - k = 0 := by
                have := (List.getElem?_eq_some_iff.1 hz).1
                rw [List.length_singleton] at this
                omega
              rw [hi0] at hz hr
              cases hz
              cases hr
              exact HFIN.out.2.2.2.2.1
        case measure => simp [intOf] <;> omega
      | panic ch => exact hz
      | normal => exact hz.elim
      | ret => exact hz.elim
      | goto t => exact hz.elim
      | outgrown => exact hz.elim
    · have hki : ¬ (k : Int) < (p.rq.length : Int) := by omega
      obtain rfl : k = p.rq.length := by omega
      rw [List.drop_of_length_le (by rw [HRL.out]; exact Nat.le_refl _), List.append_nil] at HO1
      rw [List.take_length] at HP1
      go_wp2_with fail
      exact ⟨rfl, ⟨_, _, _, _, _, _, _, _, _, _, _, _, _, _, _, _, _, _, _, _, _, _, _, _, _, _, _, _, _, _, _, _, _, _, _, _, _, _, _, _, _, rfl⟩, HV1.out, HE1.out, HB1.out, qs, HP1.out.1, rows', HP1.out.2.2.1, HP1.out.2.2.2, HO1.out⟩
end Go.Proofs.Ytimigpfoflilcaa

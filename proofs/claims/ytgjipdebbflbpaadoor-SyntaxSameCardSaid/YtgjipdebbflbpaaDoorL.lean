/-
  Part of a proof of the laws of layer 06 (syntax): the laws.
  Conditions: none.
-/
import Derived.Test.YtgjipdebbflbpaaDoorEc
import Derived.Test.YtgjipdebbflbpaaDoorProg
import Derived.KernelRfl
import Derived.Test.YtgjipdebbflbpaaDoorBd
namespace Go.Eng.Sy
open Go Go.Eng Go.Proofs

/-- headstock/headstocklaw06.SyntaxSame · variables 0:one, 1:two, 4:, 5:ok, 6:p, 7:q, 8:more, 9:t -/
noncomputable def c5_r0 : List SOp := [⟨0, .p .mov, [.c (.bool false)], none, false⟩]
noncomputable def c5_r1 : List SOp := [⟨0, .call 7, [], none, false⟩, ⟨1, .p .mov, [.t 0], none, false⟩]
noncomputable def c5_r2 : List SOp := [⟨0, .p .mov, [.v 0], none, false⟩, ⟨1, .call 11, [.t 0, .c (.bool false)], none, false⟩, ⟨2, .a (.new [.int .i64 0, .slice none 0 0, .slice none 0 0, .slice none 0 0]), [], none, false⟩, ⟨3, .w (.store 4), [.t 0, .t 1], none, false⟩]
noncomputable def c5_r3 : List SOp := [⟨0, .p .mov, [.v 1], none, false⟩, ⟨1, .call 11, [.t 0, .c (.bool false)], none, false⟩, ⟨2, .a (.new [.int .i64 0, .slice none 0 0, .slice none 0 0, .slice none 0 0]), [], none, false⟩, ⟨3, .w (.store 4), [.t 0, .t 1], none, false⟩]
noncomputable def c5_r4 : List SOp := [⟨0, .p .mov, [.v 0], none, false⟩, ⟨1, .call 11, [.t 0, .c (.bool false)], none, false⟩, ⟨2, .a (.new [.int .i64 0, .slice none 0 0, .slice none 0 0, .slice none 0 0]), [], none, false⟩, ⟨3, .w (.store 4), [.t 0, .t 1], none, false⟩]
noncomputable def c5_r5 : List SOp := [⟨0, .p (.fieldAddr 3), [.v 6], none, false⟩, ⟨1, .r (.load false 1), [.t 0], none, false⟩, ⟨2, .p (.idxAddrS 6), [.t 0, .c (.int .i64 0)], none, false⟩, ⟨3, .r (.load true 6), [.t 0], none, false⟩, ⟨4, .a (.new [.string ⟨#[]⟩, .bool false, .int .i64 0, .int .i64 0, .int .i64 0, .slice none 0 0]), [], none, false⟩, ⟨5, .w (.store 6), [.t 0, .t 1], none, false⟩]
noncomputable def c5_r6 : List SOp := [⟨0, .p (.fieldAddr 5), [.v 7], none, false⟩, ⟨1, .r (.load false 1), [.t 0], none, false⟩, ⟨2, .w (.append 7 120), [.c (.slice none 0 0), .t 0], none, false⟩, ⟨3, .p (.build [.int .i64 0, .string ⟨#[]⟩, .string ⟨#[]⟩, .int .i64 0, .slice none 0 0, .slice none 0 0, .slice none 0 0] [(0, 1)]), [.c (.int .i64 8)], none, false⟩, ⟨4, .a (.bslice [.int .i64 0, .string ⟨#[]⟩, .string ⟨#[]⟩, .int .i64 0, .slice none 0 0, .slice none 0 0, .slice none 0 0] [(0, 7)] 1 7), [.t 0], none, false⟩, ⟨5, .w (.append 7 120), [.t 2, .t 0], none, false⟩, ⟨6, .p (.fieldAddr 5), [.v 7], none, false⟩, ⟨7, .w (.store 1), [.t 0, .t 1], none, false⟩]
noncomputable def c5_r7 : List SOp := [⟨0, .p (.fieldAddr 3), [.v 6], none, false⟩, ⟨1, .r (.load false 1), [.t 0], none, false⟩, ⟨2, .r (.load true 6), [.v 7], none, false⟩, ⟨3, .p (.idxAddrS 6), [.t 1, .c (.int .i64 0)], none, false⟩, ⟨4, .w (.store 6), [.t 0, .t 1], none, false⟩]
noncomputable def c5_r8 : List SOp := [⟨0, .p .mov, [.v 3], none, false⟩, ⟨1, .p .mov, [.t 0], none, false⟩, ⟨2, .r (.load true 4), [.v 4], some (0, true), false⟩, ⟨3, .r (.load true 4), [.v 5], some (1, true), false⟩, ⟨4, .call 14, [.t 1, .t 0], some (2, true), true⟩, ⟨5, .r (.load true 4), [.v 5], some (3, true), false⟩, ⟨6, .r (.load true 4), [.v 4], some (4, true), false⟩, ⟨7, .call 14, [.t 1, .t 0], some (5, true), false⟩, ⟨8, .p (.eqB false), [.t 3, .t 0], some (6, true), false⟩, ⟨9, .p .pick, [.t 7, .t 0, .c (.bool false)], none, false⟩, ⟨10, .p .mov, [.t 0], none, false⟩, ⟨12, .p .mov, [.v 0], some (0, true), false⟩, ⟨13, .call 11, [.t 0, .c (.bool false)], some (1, true), true⟩, ⟨11, .r (.load true 4), [.v 4], some (2, true), false⟩, ⟨14, .call 14, [.t 0, .t 1], some (3, true), false⟩, ⟨15, .p .pick, [.t 4, .t 0, .c (.bool false)], none, false⟩, ⟨16, .p .mov, [.t 0], none, false⟩, ⟨17, .r (.load true 4), [.v 4], some (0, true), false⟩, ⟨18, .r (.load true 4), [.v 6], some (1, true), false⟩, ⟨19, .call 14, [.t 1, .t 0], some (2, true), false⟩, ⟨20, .p (.un .not), [.t 0], some (3, true), false⟩, ⟨21, .p .pick, [.t 4, .t 0, .c (.bool false)], none, false⟩, ⟨22, .p .mov, [.t 0], none, false⟩, ⟨23, .r (.load true 4), [.v 6], some (0, true), false⟩, ⟨24, .r (.load true 4), [.v 4], some (1, true), false⟩, ⟨25, .call 14, [.t 1, .t 0], some (2, true), false⟩, ⟨26, .p (.un .not), [.t 0], some (3, true), false⟩, ⟨27, .p .pick, [.t 4, .t 0, .c (.bool false)], none, false⟩, ⟨28, .p .mov, [.t 0], none, false⟩, ⟨29, .r (.load true 4), [.v 6], some (0, true), false⟩, ⟨30, .call 15, [.t 0], some (1, true), true⟩, ⟨31, .r (.load true 4), [.v 4], some (2, true), false⟩, ⟨32, .call 15, [.t 0], some (3, true), false⟩, ⟨33, .p (.bin .add), [.t 0, .c (.int .i64 1)], some (4, true), false⟩, ⟨34, .p (.bin .eql), [.t 3, .t 0], some (5, true), false⟩, ⟨35, .p .pick, [.t 6, .t 0, .c (.bool false)], none, false⟩, ⟨36, .p .mov, [.t 0], none, false⟩]
noncomputable def c5 : CFn := { nargs := 2, vars := [0, 1, 4, 5, 6, 7, 8, 9], results := [.var 2], body := (.seq (.reg c5_r0 [(2, 0)]) (.seq (.reg c5_r1 [(3, 0)]) (.seq (.reg c5_r2 [(4, 1)]) (.seq (.reg c5_r3 [(5, 1)]) (.seq (.reg c5_r4 [(6, 1)]) (.seq (.reg c5_r5 [(7, 1)]) (.seq (.reg c5_r6 []) (.seq (.reg c5_r7 []) (.seq (.reg c5_r8 [(2, 0)]) .ret))))))))) }

set_option maxRecDepth 100000 in
theorem ok5 : FnOk Tryd.prog 5 c5 := compF_ok (na := c5.nargs) (vars := c5.vars) (by kernel_rfl)
end Go.Eng.Sy

set_option linter.unusedSimpArgs false
set_option linter.unusedVariables false
namespace Go.Eng.Sy
open Go Go.Eng Go.Proofs

set_option maxHeartbeats 1000000 in
theorem sameLaw_c {h : Heap} {v1 v2 : Value} {one two : List Int} (h1 : Ints h v1 one) (h2 : Ints h v2 two) (i1 : ∀ z ∈ one, inI z) (i2 : ∀ z ∈ two, inI z) (Q : Value → Heap → Prop) (hq : ∀ h', Q (.bool true) h') : CallW Tryd.prog 5 [v1, v2] h Q := by
  have o1 := SlV.one h1
  have o2 := SlV.one h2
  replace h1 := Hid.mk h1; replace h2 := Hid.mk h2; replace i1 := Hid.mk i1; replace i2 := Hid.mk i2
  refine call_of1 (k := 2) ok5 rfl rfl rfl fun N => ?_
  rw [show env0 c5 [v1, v2] = [v1, v2, undef, undef, undef, undef, undef, undef] from rfl]
  delta c5 c5_r0 c5_r1 c5_r2 c5_r3 c5_r4 c5_r5 c5_r6 c5_r7 c5_r8
  replace hq := Hid.mk hq
  repeat' (first | simp -implicitDefEqProofs only [walkL, aR, aW, aBin, aInt, Int.reduceBEq, Int.reduceBNe, Nat.reduceBEq, Int.reduceLT, Int.reduceLE, *] | with_reducible (first | refine cndK_d ?_ ?_ | refine grdK_d ?_ ?_ | refine cndK_i ?_ ?_ | refine grdK_i ?_ ?_) <;> intro hc)
  refine awake_c h _ fun h3 l3 => ?_
  have a1 := SlV.mono l3 h1.h
  have a2 := SlV.mono l3 h2.h
  clear h1 h2 l3
  replace a1 := Hid.mk a1; replace a2 := Hid.mk a2
  repeat' (first | simp -implicitDefEqProofs only [walkL, aR, aW, aBin, aInt, Int.reduceBEq, Int.reduceBNe, Nat.reduceBEq, Int.reduceLT, Int.reduceLE, *] | with_reducible (first | refine cndK_d ?_ ?_ | refine grdK_d ?_ ?_ | refine cndK_i ?_ ?_ | refine grdK_i ?_ ?_) <;> intro hc)
  refine Prog_c a1.h i1.h false _ fun h4 d r t xs l4 hm => ?_
  have ok1 := progL_good one false
  have ok2 := progL_good two false
  obtain ⟨p, hp⟩ : ∃ p, progL one false = p := ⟨_, rfl⟩
  obtain ⟨q, hq2⟩ : ∃ p, progL two false = p := ⟨_, rfl⟩
  rw [hp] at hm ok1
  rw [hq2] at ok2
  rw [hp]
  obtain ⟨s1, s2, s3⟩ := hm.isS
  have sz := st_PA h4 p.harts s1 s2 s3
  have gq1 := Heap.get_alloc_same h4 (.blk [.int .i64 p.harts, d, r, t] true)
  have lh5 := (Heap.le.refl h4).alloc (.blk [.int .i64 p.harts, d, r, t] true)
  obtain ⟨q1, eq1⟩ : ∃ x_, h4.next = x_ := ⟨_, rfl⟩
  obtain ⟨h5, eh5⟩ : ∃ x_, h4.alloc (.blk [.int .i64 p.harts, d, r, t] true) = x_ := ⟨_, rfl⟩
  rw [eh5] at gq1 lh5
  rw [eq1] at gq1
  rw [eh5, eq1] at sz
  have xp := hm.prc.mono lh5
  have b1 := SlV.mono (l4.trans lh5) a1.h
  have b2 := SlV.mono (l4.trans lh5) a2.h
  clear a1 a2 l4 lh5 hm
  replace b1 := Hid.mk b1; replace b2 := Hid.mk b2; replace xp := Hid.mk xp; replace ok1 := Hid.mk ok1; replace ok2 := Hid.mk ok2; replace hp := Hid.mk hp; replace hq2 := Hid.mk hq2
  repeat' (first | simp -implicitDefEqProofs only [walkL, aR, aW, aBin, aInt, Int.reduceBEq, Int.reduceBNe, Nat.reduceBEq, Int.reduceLT, Int.reduceLE, *] | with_reducible (first | refine cndK_d ?_ ?_ | refine grdK_d ?_ ?_ | refine cndK_i ?_ ?_ | refine grdK_i ?_ ?_) <;> intro hc)
  refine Prog_c b2.h i2.h false _ fun h6 d2 r2 t2 xs2 l6 hm => ?_
  rw [hq2.h] at hm
  rw [hq2.h]
  obtain ⟨s1, s2, s3⟩ := hm.isS
  have sz := st_PA h6 q.harts s1 s2 s3
  have gq2 := Heap.get_alloc_same h6 (.blk [.int .i64 q.harts, d2, r2, t2] true)
  have lh7 := (Heap.le.refl h6).alloc (.blk [.int .i64 q.harts, d2, r2, t2] true)
  obtain ⟨q2, eq2⟩ : ∃ x_, h6.next = x_ := ⟨_, rfl⟩
  obtain ⟨h7, eh7⟩ : ∃ x_, h6.alloc (.blk [.int .i64 q.harts, d2, r2, t2] true) = x_ := ⟨_, rfl⟩
  rw [eh7] at gq2 lh7
  rw [eq2] at gq2
  rw [eh7, eq2] at sz
  have l57 := l6.trans lh7
  have xp7 := xp.h.mono l57
  have xq7 := hm.prc.mono lh7
  have c1 := SlV.mono l57 b1.h
  have gq17 := l57.get gq1
  clear b1 b2 l6 lh7 hm xp gq1 l57
  replace c1 := Hid.mk c1; replace xp7 := Hid.mk xp7; replace xq7 := Hid.mk xq7
  repeat' (first | simp -implicitDefEqProofs only [walkL, aR, aW, aBin, aInt, Int.reduceBEq, Int.reduceBNe, Nat.reduceBEq, Int.reduceLT, Int.reduceLE, *] | with_reducible (first | refine cndK_d ?_ ?_ | refine grdK_d ?_ ?_ | refine cndK_i ?_ ?_ | refine grdK_i ?_ ?_) <;> intro hc)
  refine Prog_c c1.h i1.h false _ fun h8 d3 r3 t3 xs3 l8 hm => ?_
  rw [hp.h] at hm
  rw [hp.h]
  obtain ⟨s1, s2, s3⟩ := hm.isS
  have sz := st_PA h8 p.harts s1 s2 s3
  have gq3 := Heap.get_alloc_same h8 (.blk [.int .i64 p.harts, d3, r3, t3] true)
  have lh9 := (Heap.le.refl h8).alloc (.blk [.int .i64 p.harts, d3, r3, t3] true)
  obtain ⟨q3, eq3⟩ : ∃ x_, h8.next = x_ := ⟨_, rfl⟩
  obtain ⟨h9, eh9⟩ : ∃ x_, h8.alloc (.blk [.int .i64 p.harts, d3, r3, t3] true) = x_ := ⟨_, rfl⟩
  rw [eh9] at gq3 lh9
  rw [eq3] at gq3
  rw [eh9, eq3] at sz
  have l79 := l8.trans lh9
  obtain ⟨n, hn⟩ : ∃ n, h7.next = n := ⟨_, rfl⟩
  rw [hn] at hm
  have hm9 := hm.le lh9
  have gq19 := l79.get gq17
  have gq29 := l79.get gq2
  have c19 := SlV.mono l79 c1.h
  obtain ⟨tk, hk⟩ : ∃ tk, p.tasks[0]? = some tk := ⟨_, List.getElem?_eq_getElem ok1.h.tl.1⟩
  obtain ⟨id, v, hid, hidn, gid, e1, e2, hv⟩ := hm9.at hk
  have e1' : pIdxAddrS 6 [t3, .int .i64 0] = some (.pointer (some ⟨id, 0, none⟩)) := e1
  have e2' : partL true 0 6 xs3.flatten = some (tsV tk.name tk.handler tk.hart tk.prio tk.line v) := e2
  have sz6 := st_T h9 tk.name tk.handler tk.hart tk.prio tk.line hv.isS
  have gq4 := Heap.get_alloc_same h9 (.blk [str tk.name, .bool tk.handler, .int .i64 tk.hart, .int .i64 tk.prio, .int .i64 tk.line, v] true)
  have lh10 := (Heap.le.refl h9).alloc (.blk [str tk.name, .bool tk.handler, .int .i64 tk.hart, .int .i64 tk.prio, .int .i64 tk.line, v] true)
  obtain ⟨q4, eq4⟩ : ∃ x_, h9.next = x_ := ⟨_, rfl⟩
  obtain ⟨h10, eh10⟩ : ∃ x_, h9.alloc (.blk [str tk.name, .bool tk.handler, .int .i64 tk.hart, .int .i64 tk.prio, .int .i64 tk.line, v] true) = x_ := ⟨_, rfl⟩
  rw [eh10] at gq4 lh10
  rw [eq4] at gq4
  rw [eh10, eq4] at sz6
  have hq4 : n ≤ q4 := by have := l79.next; omega
  have hid4 : id < q4 := by have := Heap.lt_of_get gid; omega
  have hv10 : StsVB (fun i => PB n [t3] i ∧ i ≠ q4) h10 v tk.body := hv.to fun i cs own hb hg => ⟨⟨hb, by have := Heap.lt_of_get hg; omega⟩, lh10.get hg⟩
  have hq4n := Heap.lt_of_get gq4
  have hbl : tk.body.length ≤ 1000 := by have := (ok1.h.tasks tk (List.mem_of_getElem? hk)).len; omega
  obtain ⟨va, ha, ap1, la, hmore⟩ := more_row hv10 hbl fun i hi => ⟨⟨by omega, fun w hw => by rw [List.mem_singleton.1 hw]; exact hm9.ht.notOf_new (by have := lh10.next; omega)⟩, by omega⟩
  obtain ⟨vb, hb, ap2, lb, hvb⟩ := hmore (haltS_B _ h10)
  have bh := bHalt
  have bs := bs_st1 (haltS_B (fun _ => True) h10).ones
  have gq4b := lb.get gq4
  have gq4a := la.get gq4
  have ob := (StsVB.isS hvb)
  obtain ⟨ca1, ca2⟩ := IsS.cell ob
  have st5 := wStore_one (off := 5) gq4b (by simp) ca1 ca2
  obtain ⟨hc, ehc⟩ : ∃ x_, hb.set q4 (.blk ([str tk.name, .bool tk.handler, .int .i64 tk.hart, .int .i64 tk.prio, .int .i64 tk.line, v].set 5 vb) true) = x_ := ⟨_, rfl⟩
  rw [ehc] at st5
  have l9c : h9.le hc := by rw [← ehc]; exact (lh10.trans lb).set (by omega) _
  have gq4c : hc.get q4 = some (.blk [str tk.name, .bool tk.handler, .int .i64 tk.hart, .int .i64 tk.prio, .int .i64 tk.line, vb] true) := by rw [← ehc]; exact Heap.set_getS _ _ _ (by rw [gq4b]; rfl)
  have hvc : StsVB (PB n [t3]) hc vb (tk.body ++ [haltS]) := hvb.to (by rw [← ehc]; exact Heap.toB_set _ fun i hb => ⟨hb.2, hb.1⟩)
  have hmc := hm9.le l9c
  obtain ⟨cc, stc, hmd⟩ := hmc.put hid hk { tk with body := tk.body ++ [haltS] } hvc
  rw [← addS_of hk] at hmd
  have stc' : wStore 6 hc [.pointer (some ⟨id, 0, none⟩), tsV tk.name tk.handler tk.hart tk.prio tk.line vb] = some (undef, hc.set id cc) := stc
  obtain ⟨hd, ehd⟩ : ∃ x_, hc.set id cc = x_ := ⟨_, rfl⟩
  rw [ehd] at stc' hmd
  have l9 := l79.trans l9c
  have l7d : h7.le hd := by rw [← ehd]; exact l9.set (by omega) _
  have xmd := hmd.prc
  have xp := xp7.h.mono l7d
  have xq := xq7.h.mono l7d
  have d1 := SlV.mono l7d c1.h
  have gq1d := l7d.get gq17
  have gq2d := l7d.get gq2
  have gq39 := lh10.get gq3
  have gq3a := la.get gq39
  have gq3b := lb.get gq39
  have gq3c := l9c.get gq3
  have hid8 : id < q3 := by
    obtain ⟨id', _, e, _, g, _⟩ := hm.at hk
    rw [e] at hid; cases hid
    have := Heap.lt_of_get g; omega
  have gq3d : hd.get q3 = some (.blk [.int .i64 p.harts, d3, r3, t3] true) := by rw [← ehd]; exact (Heap.set_getE _ _ _ _ (by simp; omega)).trans gq3c
  have gidc := l9c.get gid
  have pg := addS_of hk haltS
  have ph : (addS p 0 haltS).harts = p.harts := by rw [pg]
  clear hm hm9 c1 xp7 xq7 hmc hmd hv hv10 hmore hvb hvc l8 l79 l9 l9c l7d lh9 lh10 la lb gq17 gq19 gq29 c19 e1 e2 stc
  replace xmd := Hid.mk xmd; replace xp := Hid.mk xp; replace xq := Hid.mk xq; replace d1 := Hid.mk d1; replace hk := Hid.mk hk; replace hid := Hid.mk hid
  repeat' (first | simp -implicitDefEqProofs only [walkL, aR, aW, aBin, aInt, Int.reduceBEq, Int.reduceBNe, Nat.reduceBEq, Int.reduceLT, Int.reduceLE, partL6, partL4, *] | with_reducible (first | refine cndK_d ?_ ?_ | refine grdK_d ?_ ?_ | refine cndK_i ?_ ?_ | refine grdK_i ?_ ?_) <;> intro hc)
  refine Same_c xp.h xq.h ok1.h.ok ok2.h.ok _ fun b he hb le => turn0 le.ext ?_
  have xmd := xmd.h.mono le
  have xp := xp.h.mono le
  have xq := xq.h.mono le
  have d1 := SlV.mono le d1.h
  have gq1e := le.get gq1d
  have gq2e := le.get gq2d
  have gq3e := le.get gq3d
  clear le gq1d gq2d gq3d gq4a gq4b gq4c gq4 ap1 ap2 bs bh st5 stc' gid gidc sz6
  replace xmd := Hid.mk xmd; replace xp := Hid.mk xp; replace xq := Hid.mk xq; replace d1 := Hid.mk d1; replace hb := Hid.mk hb
  repeat' (first | simp -implicitDefEqProofs only [walkL, aR, aW, aBin, aInt, Int.reduceBEq, Int.reduceBNe, Nat.reduceBEq, Int.reduceLT, Int.reduceLE, partL6, partL4, *] | with_reducible (first | refine cndK_d ?_ ?_ | refine grdK_d ?_ ?_ | refine cndK_i ?_ ?_ | refine grdK_i ?_ ?_) <;> intro hc)
  refine Same_c xq.h xp.h ok2.h.ok ok1.h.ok _ fun b' hf hb' lf => ?_
  have eb : b' = b := by
    have h1 := hb.h
    cases b <;> cases b' <;> simp_all
  subst eb
  have eqbb : (b' == b') = true := by simp
  have xmd := xmd.h.mono lf
  have xp := xp.h.mono lf
  have xq := xq.h.mono lf
  have d1 := SlV.mono lf d1.h
  have gq1f := lf.get gq1e
  have gq2f := lf.get gq2e
  have gq3f := lf.get gq3e
  clear lf gq1e gq2e gq3e hb hb'
  replace xmd := Hid.mk xmd; replace xp := Hid.mk xp; replace xq := Hid.mk xq; replace d1 := Hid.mk d1
  have eqq : pEqB false [.bool b', .bool b'] = some (.bool true) := by cases b' <;> rfl
  repeat' (first | simp -implicitDefEqProofs only [walkL, aR, aW, aBin, aInt, Int.reduceBEq, Int.reduceBNe, Nat.reduceBEq, Int.reduceLT, Int.reduceLE, partL6, partL4, *] | with_reducible (first | refine cndK_d ?_ ?_ | refine grdK_d ?_ ?_ | refine cndK_i ?_ ?_ | refine grdK_i ?_ ?_) <;> intro hc)
  refine Prog_c d1.h i1.h false _ fun hg d5 r5 t5 xs5 lg hm => turn0 lg.ext ?_
  rw [hp.h] at hm
  rw [hp.h]
  have xz := hm.prc
  have xmd := xmd.h.mono lg
  have xp := xp.h.mono lg
  have gq1g := lg.get gq1f
  have gq3g := lg.get gq3f
  clear lg gq1f gq2f gq3f xq d1 eqq hm
  replace xmd := Hid.mk xmd; replace xp := Hid.mk xp; replace xz := Hid.mk xz
  repeat' (first | simp -implicitDefEqProofs only [walkL, aR, aW, aBin, aInt, Int.reduceBEq, Int.reduceBNe, Nat.reduceBEq, Int.reduceLT, Int.reduceLE, partL6, partL4, *] | with_reducible (first | refine cndK_d ?_ ?_ | refine grdK_d ?_ ?_ | refine cndK_i ?_ ?_ | refine grdK_i ?_ ?_) <;> intro hc)
  refine Same_c xp.h xz.h ok1.h.ok ok1.h.ok _ fun b hi hb li => ?_
  obtain rfl : b = true := hb.2 rfl
  have xmd := xmd.h.mono li
  have xp := xp.h.mono li
  have gq1i := li.get gq1g
  have gq3i := li.get gq3g
  clear li gq1g gq3g xz hb
  have cnt : cntP (addS p 0 haltS) = cntP p + 1 := by
    rw [pg]
    exact cntTs_set _ _ tk _ hk.h (by show cntSs (tk.body ++ [haltS]) = _; rw [cntSs_app]; rfl)
  have pne : p ≠ addS p 0 haltS := fun e => by rw [← e] at cnt; omega
  have okm : (addS p 0 haltS).ok := by rw [pg]; exact ⟨ok1.h.ok.devs, ok1.h.ok.ress⟩
  clear pg
  rw [ph] at xmd
  replace xmd := Hid.mk xmd; replace xp := Hid.mk xp; replace cnt := Hid.mk cnt; replace pne := Hid.mk pne; replace okm := Hid.mk okm
  repeat' (first | simp -implicitDefEqProofs only [walkL, aR, aW, aBin, aInt, Int.reduceBEq, Int.reduceBNe, Nat.reduceBEq, Int.reduceLT, Int.reduceLE, partL6, partL4, *] | with_reducible (first | refine cndK_d ?_ ?_ | refine grdK_d ?_ ?_ | refine cndK_i ?_ ?_ | refine grdK_i ?_ ?_) <;> intro hc)
  refine Same_c xp.h xmd.h ok1.h.ok okm.h _ fun b hj hb lj => ?_
  obtain rfl : b = false := by cases b; rfl; exact absurd (hb.1 rfl) pne.h
  have xmd := xmd.h.mono lj
  have xp := xp.h.mono lj
  have gq1j := lj.get gq1i
  have gq3j := lj.get gq3i
  clear lj gq1i gq3i hb
  replace xmd := Hid.mk xmd; replace xp := Hid.mk xp
  repeat' (first | simp -implicitDefEqProofs only [walkL, aR, aW, aBin, aInt, Int.reduceBEq, Int.reduceBNe, Nat.reduceBEq, Int.reduceLT, Int.reduceLE, partL6, partL4, *] | with_reducible (first | refine cndK_d ?_ ?_ | refine grdK_d ?_ ?_ | refine cndK_i ?_ ?_ | refine grdK_i ?_ ?_) <;> intro hc)
  refine Same_c xmd.h xp.h okm.h ok1.h.ok _ fun b hk' hb lk => ?_
  obtain rfl : b = false := by cases b; rfl; exact absurd (hb.1 rfl).symm pne.h
  have xmd := xmd.h.mono lk
  have xp := xp.h.mono lk
  have gq1k := lk.get gq1j
  have gq3k := lk.get gq3j
  clear lk gq1j gq3j hb
  replace xmd := Hid.mk xmd; replace xp := Hid.mk xp
  repeat' (first | simp -implicitDefEqProofs only [walkL, aR, aW, aBin, aInt, Int.reduceBEq, Int.reduceBNe, Nat.reduceBEq, Int.reduceLT, Int.reduceLE, partL6, partL4, *] | with_reducible (first | refine cndK_d ?_ ?_ | refine grdK_d ?_ ?_ | refine cndK_i ?_ ?_ | refine grdK_i ?_ ?_) <;> intro hc)
  refine Size_c xmd.h _ fun hl ll => turn0 ll.ext ?_
  rw [cnt.h]
  have xp := xp.h.mono ll
  have gq1l := ll.get gq1k
  clear ll gq1k gq3k xmd
  replace xp := Hid.mk xp
  repeat' (first | simp -implicitDefEqProofs only [walkL, aR, aW, aBin, aInt, Int.reduceBEq, Int.reduceBNe, Nat.reduceBEq, Int.reduceLT, Int.reduceLE, partL6, partL4, *] | with_reducible (first | refine cndK_d ?_ ?_ | refine grdK_d ?_ ?_ | refine cndK_i ?_ ?_ | refine grdK_i ?_ ?_) <;> intro hc)
  refine Size_c xp.h _ fun hm lm => ?_
  have ew : IntKind.i64.wrap (IntKind.i64.wrap (cntP p : Int) + 1) = IntKind.i64.wrap ((cntP p + 1 : Nat) : Int) := wrap_add1 _
  have g := hq.h hm
  replace g := Hid.mk g
  clear hq xp lm
  repeat' (first | simp -implicitDefEqProofs only [walkL, aR, aW, aBin, aInt, Int.reduceBEq, Int.reduceBNe, Nat.reduceBEq, Int.reduceLT, Int.reduceLE, *] | with_reducible (first | refine cndK_d ?_ ?_ | refine grdK_d ?_ ?_ | refine cndK_i ?_ ?_ | refine grdK_i ?_ ?_) <;> intro hc)
  exact g.h
end Go.Eng.Sy


/-
  Part of a proof of the laws of layer 05 (token): what each function does.
  Conditions: none.
-/
import Derived.Shelf.Pu.ToError
import Derived.Shelf.Pu.ToErrorRange
import Derived.Test.YtplhdfkhhefppaaDoorEc
import Derived.Test.YtplhdfkhhefppaaDoorC
import Derived.Shelf.Strings.OnBuilder
import Derived.Test.YtplhdfkhhefppaaDoorBa
set_option linter.unusedSimpArgs false
set_option linter.unusedVariables false
namespace Go.Proofs
open Go.Shelf
/-! ### strconv.toError, by the library's contract -/
def laysPu17_ren : Go.Shelf.Ren := ⟨fun | 17 => 50 | 21 => 64 | 22 => 65 | 23 => 66 | 24 => 67 | 25 => 78 | 27 => 80 | 26 => 79 | 28 => 87 | 29 => 94 | 30 => 95 | 31 => 96 | 32 => 97 | 33 => 98 | 35 => 100 | 34 => 99 | 36 => 101 | 37 => 102 | 38 => 103 | 39 => 104 | 40 => 105 | n => n, fun | 9 => 9 | 3 => 3 | 24 => 66 | 34 => 91 | 4 => 4 | 39 => 94 | 44 => 106 | 37 => 45 | 0 => 0 | 47 => 97 | 50 => 118 | 48 => 116 | 2 => 2 | 52 => 135 | 22 => 64 | 5 => 5 | 55 => 138 | 59 => 141 | 60 => 123 | 20 => 20 | 61 => 142 | 36 => 93 | 65 => 146 | 66 => 147 | 67 => 81 | n => n, fun | 0 => 0 | 1 => 1 | 2 => 6 | 3 => 7 | 4 => 8 | n => n⟩
theorem laysPu17 : Go.Proofs.LaysPu.n17 Tryd.prog laysPu17_ren where
  mixed := by kernel_rfl
  f17 := Tryd.func50.trans (congrArg some (by kernel_rfl))
  f21 := Tryd.func64.trans (congrArg some (by kernel_rfl))
  f22 := Tryd.func65.trans (congrArg some (by kernel_rfl))
  f23 := Tryd.func66.trans (congrArg some (by kernel_rfl))
  f24 := Tryd.func67.trans (congrArg some (by kernel_rfl))
  f25 := Tryd.func78.trans (congrArg some (by kernel_rfl))
  f26 := Tryd.func79.trans (congrArg some (by kernel_rfl))
  f27 := Tryd.func80.trans (congrArg some (by kernel_rfl))
  f28 := Tryd.func87.trans (congrArg some (by kernel_rfl))
  f29 := Tryd.func94.trans (congrArg some (by kernel_rfl))
  f30 := Tryd.func95.trans (congrArg some (by kernel_rfl))
  f31 := Tryd.func96.trans (congrArg some (by kernel_rfl))
  f32 := Tryd.func97.trans (congrArg some (by kernel_rfl))
  f33 := Tryd.func98.trans (congrArg some (by kernel_rfl))
  f34 := Tryd.func99.trans (congrArg some (by kernel_rfl))
  f35 := Tryd.func100.trans (congrArg some (by kernel_rfl))
  f36 := Tryd.func101.trans (congrArg some (by kernel_rfl))
  f37 := Tryd.func102.trans (congrArg some (by kernel_rfl))
  f38 := Tryd.func103.trans (congrArg some (by kernel_rfl))
  f39 := Tryd.func104.trans (congrArg some (by kernel_rfl))
  f40 := Tryd.func105.trans (congrArg some (by kernel_rfl))
  t0 := Tryd.underlying0
  a0 := Tryd.isAgg0
  z0 := Tryd.sizeOf0
  v0 := Tryd.zeroValue0
  i0 := by kernel_rfl
  t2 := Tryd.underlying2
  a2 := Tryd.isAgg2
  z2 := Tryd.sizeOf2
  v2 := Tryd.zeroValue2
  i2 := by kernel_rfl
  t3 := Tryd.underlying3
  a3 := Tryd.isAgg3
  z3 := Tryd.sizeOf3
  v3 := Tryd.zeroValue3
  i3 := by kernel_rfl
  t4 := Tryd.underlying4
  a4 := Tryd.isAgg4
  z4 := Tryd.sizeOf4
  v4 := Tryd.zeroValue4
  i4 := by kernel_rfl
  t5 := Tryd.underlying5
  a5 := Tryd.isAgg5
  z5 := Tryd.sizeOf5
  v5 := Tryd.zeroValue5
  i5 := by kernel_rfl
  t9 := Tryd.underlying9
  a9 := Tryd.isAgg9
  z9 := Tryd.sizeOf9
  v9 := Tryd.zeroValue9
  i9 := by kernel_rfl
  t20 := Tryd.underlying20
  a20 := Tryd.isAgg20
  z20 := Tryd.sizeOf20
  v20 := Tryd.zeroValue20
  i20 := by kernel_rfl
  t22 := Tryd.underlying64
  a22 := Tryd.isAgg64
  z22 := Tryd.sizeOf64
  v22 := Tryd.zeroValue64
  i22 := by kernel_rfl
  t24 := Tryd.underlying66
  a24 := Tryd.isAgg66
  z24 := Tryd.sizeOf66
  v24 := Tryd.zeroValue66
  i24 := by kernel_rfl
  t34 := Tryd.underlying91
  a34 := Tryd.isAgg91
  z34 := Tryd.sizeOf91
  v34 := Tryd.zeroValue91
  i34 := by kernel_rfl
  c34 := by kernel_rfl
  t36 := Tryd.underlying93
  a36 := Tryd.isAgg93
  z36 := Tryd.sizeOf93
  v36 := Tryd.zeroValue93
  i36 := by kernel_rfl
  t37 := Tryd.underlying45
  a37 := Tryd.isAgg45
  z37 := Tryd.sizeOf45
  v37 := Tryd.zeroValue45
  i37 := by kernel_rfl
  t39 := Tryd.underlying94
  a39 := Tryd.isAgg94
  z39 := Tryd.sizeOf94
  v39 := Tryd.zeroValue94
  i39 := by kernel_rfl
  t44 := Tryd.underlying106
  a44 := Tryd.isAgg106
  z44 := Tryd.sizeOf106
  v44 := Tryd.zeroValue106
  i44 := by kernel_rfl
  t47 := Tryd.underlying97
  a47 := Tryd.isAgg97
  z47 := Tryd.sizeOf97
  v47 := Tryd.zeroValue97
  i47 := by kernel_rfl
  t48 := Tryd.underlying116
  a48 := Tryd.isAgg116
  z48 := Tryd.sizeOf116
  v48 := Tryd.zeroValue116
  i48 := by kernel_rfl
  t50 := Tryd.underlying118
  a50 := Tryd.isAgg118
  z50 := Tryd.sizeOf118
  v50 := Tryd.zeroValue118
  i50 := by kernel_rfl
  t52 := Tryd.underlying135
  a52 := Tryd.isAgg135
  z52 := Tryd.sizeOf135
  v52 := Tryd.zeroValue135
  i52 := by kernel_rfl
  t55 := Tryd.underlying138
  a55 := Tryd.isAgg138
  z55 := Tryd.sizeOf138
  v55 := Tryd.zeroValue138
  i55 := by kernel_rfl
  t59 := Tryd.underlying141
  a59 := Tryd.isAgg141
  z59 := Tryd.sizeOf141
  v59 := Tryd.zeroValue141
  i59 := by kernel_rfl
  t60 := Tryd.underlying123
  a60 := Tryd.isAgg123
  z60 := Tryd.sizeOf123
  v60 := Tryd.zeroValue123
  i60 := by kernel_rfl
  t61 := Tryd.underlying142
  a61 := Tryd.isAgg142
  z61 := Tryd.sizeOf142
  t65 := Tryd.underlying146
  a65 := Tryd.isAgg146
  z65 := Tryd.sizeOf146
  v65 := Tryd.zeroValue146
  i65 := by kernel_rfl
  t66 := Tryd.underlying147
  a66 := Tryd.isAgg147
  z66 := Tryd.sizeOf147
  v66 := Tryd.zeroValue147
  i66 := by kernel_rfl
  t67 := Tryd.underlying81
  a67 := Tryd.isAgg81
  z67 := Tryd.sizeOf81
  v67 := Tryd.zeroValue81
  i67 := by kernel_rfl
  g0 := by kernel_rfl
  m0 := by kernel_rfl
  g1 := by kernel_rfl
  m1 := by kernel_rfl
  g2 := by kernel_rfl
  m2 := by kernel_rfl
  g3 := by kernel_rfl
  m3 := by kernel_rfl
  g4 := by kernel_rfl
  m4 := by kernel_rfl
end Go.Proofs
namespace Go.Eng.Tk
open Go Go.Eng Go.Proofs
theorem toError_t {n : Int} (hn : n = 1 ∨ n = 2) (l : List UInt8) (hl : l.length ≤ 140737488355328) (fnm : ByteArray) (b k : Int) (h : Heap) :
    CallT Tryd.prog 50 [.string fnm, .string ⟨l.toArray⟩, .int .i64 b, .int .i64 k, .iface 91 (.int .i64 n)] h (.iface 94 (.pointer (some ⟨h.next, 0, none⟩))) (h.alloc .dead) := by
  refine ⟨enters_of Tryd.func50 (by kernel_rfl) rfl, Heap.step_alloc h _, fun base G ρ w args' hG hfr hS hargs => ?_⟩
  obtain ⟨rfl⟩ : args' = [.string fnm, .string ⟨l.toArray⟩, .int .i64 b, .int .i64 k, .iface 91 (.int .i64 n)] := by
    cases hargs with | cons v1 v1' r1 r1' h1 hr1 =>
    cases hr1 with | cons v2 v2' r2 r2' h2 hr2 =>
    cases hr2 with | cons v3 v3' r3 r3' h3 hr3 =>
    cases hr3 with | cons v4 v4' r4 r4' h4 hr4 =>
    cases hr4 with | cons v5 v5' r5 r5' h5 hr5 =>
    cases hr5
    rw [VR.plain_inv rfl h1, VR.plain_inv rfl h2, VR.plain_inv rfl h3, VR.plain_inv rfl h4, VR.plain_inv rfl h5]
  have hsz : (ByteArray.mk l.toArray).size ≤ 281474976710656 := by
    have : (ByteArray.mk l.toArray).size = l.length := by simp [ByteArray.size]
    omega
  have key : Calls Tryd.prog 50 [.string fnm, .string ⟨l.toArray⟩, .int .i64 b, .int .i64 k, .iface 91 (.int .i64 n)].toArray w fun e w' => ∃ N ev, e = .returned (.iface 94 (.pointer (some ⟨N, 0, none⟩))) ∧ w.heap.size ≤ N ∧ w'.heap[N]? = some (.cells #[.string fnm, .string ⟨l.toArray⟩, ev] 106 (0, 0)) ∧ RowKit.Below w.heap.size w w' := by
    rcases hn with rfl | rfl
    · obtain ⟨_, te, pe, he⟩ := hS.glob 1 (by simp [ifaceVars])
      exact (AnyPu.strconv_toError_range laysPu17 fnm ⟨l.toArray⟩ b k (.iface te pe) w hsz he (.inr ⟨_, _, rfl⟩)).mono fun e w' ⟨N, h1, h2, h3, h4⟩ => ⟨N, _, h1, h2, h3, h4⟩
    · obtain ⟨_, te, pe, he⟩ := hS.glob 0 (by simp [ifaceVars])
      exact (AnyPu.strconv_toError_syntax laysPu17 fnm ⟨l.toArray⟩ b k (.iface te pe) w hsz he (.inr ⟨_, _, rfl⟩)).mono fun e w' ⟨N, h1, h2, h3, h4⟩ => ⟨N, _, h1, h2, h3, h4⟩
  refine key.mono fun e w' ⟨N, ev, he, hN, hc, hb⟩ => ?_
  have hid : ρ h.next = none := hfr h.next (Nat.le_refl _) (by simp)
  have hNlt : N < w'.heap.size := (Array.getElem?_eq_some_iff.1 hc).1
  refine ⟨_, ρ.put h.next ⟨N, 0, 3⟩, he, ⟨by simpa using Agree.put ρ h.next ⟨N, 0, 3⟩, ?_, ?_, ?_⟩⟩
  · refine .iface _ _ _ ?_
    have := VR.ptr (ρ := ρ.put h.next ⟨N, 0, 3⟩) h.next 0 ⟨N, 0, 3⟩ (by simp [Ren.put])
    simpa using this
  · exact Sim.congr (hS.alloc h.next .dead ⟨N, 0, 3⟩ hid hN hNlt (fun b hb' => hb.block b hb') hb.size trivial) (over_alloc hG _)
  · have hbase := hS.size
    refine ⟨hb.size, fun b hb' => hb.block b (by omega), hb.tape, hb.os, hb.output, fun a ha => ?_⟩
    unfold World.frozen?
    rw [hb.block a.block ha]
theorem toError_c {n : Int} (hn : n = 1 ∨ n = 2) {l : List UInt8} (hl : l.length ≤ 140737488355328) {fnm : ByteArray} {b k : Int} {h : Heap} (Q : Value → Heap → Prop) (hq : ∀ id h', h.le h' → Q (.iface 94 (.pointer (some ⟨id, 0, none⟩))) h') :
    CallW Tryd.prog 50 [.string fnm, .string ⟨l.toArray⟩, .int .i64 b, .int .i64 k, .iface 91 (.int .i64 n)] h Q :=
  ⟨_, _, toError_t hn l hl fnm b k h, hq _ _ ((Heap.le.refl h).alloc _)⟩
end Go.Eng.Tk

set_option linter.unusedSimpArgs false
set_option linter.unusedVariables false
namespace Go.Proofs
open Go.Shelf
/-! ### strings.ToLower, by the library's contract -/
def lays159_ren : Go.Shelf.Ren := ⟨fun | 159 => 41 | 165 => 51 | 166 => 52 | 167 => 53 | 169 => 54 | 230 => 55 | 204 => 56 | 240 => 68 | 241 => 69 | 197 => 70 | 118 => 71 | 168 => 72 | 270 => 73 | 262 => 74 | 276 => 81 | 277 => 82 | 260 => 83 | 242 => 84 | 313 => 85 | 278 => 88 | 274 => 89 | 275 => 90 | n => n, fun | 9 => 9 | 4 => 4 | 3 => 3 | 5 => 5 | 72 => 76 | 0 => 0 | 76 => 78 | 75 => 66 | 107 => 83 | 70 => 74 | 20 => 20 | 37 => 45 | 127 => 97 | 21 => 21 | 105 => 98 | 164 => 108 | 162 => 114 | 203 => 112 | 119 => 119 | 46 => 93 | 139 => 122 | 138 => 121 | 51 => 123 | 160 => 124 | 208 => 134 | 206 => 132 | 80 => 81 | n => n, fun | 13 => 2 | 3 => 4 | 4 => 5 | n => n⟩
theorem lays159 : Go.Proofs.Lays.n159 Tryd.prog lays159_ren where
  mixed := by kernel_rfl
  f118 := Tryd.func71.trans (congrArg some (by kernel_rfl))
  f159 := Tryd.func41.trans (congrArg some (by kernel_rfl))
  f165 := Tryd.func51.trans (congrArg some (by kernel_rfl))
  f166 := Tryd.func52.trans (congrArg some (by kernel_rfl))
  f167 := Tryd.func53.trans (congrArg some (by kernel_rfl))
  f168 := Tryd.func72.trans (congrArg some (by kernel_rfl))
  f169 := Tryd.func54.trans (congrArg some (by kernel_rfl))
  f197 := Tryd.func70.trans (congrArg some (by kernel_rfl))
  f204 := Tryd.func56.trans (congrArg some (by kernel_rfl))
  f230 := Tryd.func55.trans (congrArg some (by kernel_rfl))
  f240 := Tryd.func68.trans (congrArg some (by kernel_rfl))
  f241 := Tryd.func69.trans (congrArg some (by kernel_rfl))
  f242 := Tryd.func84.trans (congrArg some (by kernel_rfl))
  f260 := Tryd.func83.trans (congrArg some (by kernel_rfl))
  f262 := Tryd.func74.trans (congrArg some (by kernel_rfl))
  f270 := Tryd.func73.trans (congrArg some (by kernel_rfl))
  f274 := Tryd.func89.trans (congrArg some (by kernel_rfl))
  f275 := Tryd.func90.trans (congrArg some (by kernel_rfl))
  f276 := Tryd.func81.trans (congrArg some (by kernel_rfl))
  f277 := Tryd.func82.trans (congrArg some (by kernel_rfl))
  f278 := Tryd.func88.trans (congrArg some (by kernel_rfl))
  f313 := Tryd.func85.trans (congrArg some (by kernel_rfl))
  t0 := Tryd.underlying0
  a0 := Tryd.isAgg0
  z0 := Tryd.sizeOf0
  v0 := Tryd.zeroValue0
  t3 := Tryd.underlying3
  a3 := Tryd.isAgg3
  z3 := Tryd.sizeOf3
  v3 := Tryd.zeroValue3
  t4 := Tryd.underlying4
  a4 := Tryd.isAgg4
  z4 := Tryd.sizeOf4
  v4 := Tryd.zeroValue4
  t5 := Tryd.underlying5
  a5 := Tryd.isAgg5
  z5 := Tryd.sizeOf5
  v5 := Tryd.zeroValue5
  t9 := Tryd.underlying9
  a9 := Tryd.isAgg9
  z9 := Tryd.sizeOf9
  v9 := Tryd.zeroValue9
  t20 := Tryd.underlying20
  a20 := Tryd.isAgg20
  z20 := Tryd.sizeOf20
  v20 := Tryd.zeroValue20
  t21 := Tryd.underlying21
  a21 := Tryd.isAgg21
  z21 := Tryd.sizeOf21
  v21 := Tryd.zeroValue21
  t37 := Tryd.underlying45
  a37 := Tryd.isAgg45
  z37 := Tryd.sizeOf45
  v37 := Tryd.zeroValue45
  t46 := Tryd.underlying93
  a46 := Tryd.isAgg93
  z46 := Tryd.sizeOf93
  v46 := Tryd.zeroValue93
  t51 := Tryd.underlying123
  a51 := Tryd.isAgg123
  z51 := Tryd.sizeOf123
  v51 := Tryd.zeroValue123
  t70 := Tryd.underlying74
  a70 := Tryd.isAgg74
  z70 := Tryd.sizeOf74
  v70 := Tryd.zeroValue74
  t72 := Tryd.underlying76
  a72 := Tryd.isAgg76
  z72 := Tryd.sizeOf76
  v72 := Tryd.zeroValue76
  t75 := Tryd.underlying66
  a75 := Tryd.isAgg66
  z75 := Tryd.sizeOf66
  v75 := Tryd.zeroValue66
  t76 := Tryd.underlying78
  a76 := Tryd.isAgg78
  z76 := Tryd.sizeOf78
  v76 := Tryd.zeroValue78
  t105 := Tryd.underlying98
  a105 := Tryd.isAgg98
  z105 := Tryd.sizeOf98
  v105 := Tryd.zeroValue98
  t107 := Tryd.underlying83
  a107 := Tryd.isAgg83
  z107 := Tryd.sizeOf83
  v107 := Tryd.zeroValue83
  t119 := Tryd.underlying119
  a119 := Tryd.isAgg119
  z119 := Tryd.sizeOf119
  t127 := Tryd.underlying97
  a127 := Tryd.isAgg97
  z127 := Tryd.sizeOf97
  v127 := Tryd.zeroValue97
  t138 := Tryd.underlying121
  a138 := Tryd.isAgg121
  z138 := Tryd.sizeOf121
  v138 := Tryd.zeroValue121
  t139 := Tryd.underlying122
  a139 := Tryd.isAgg122
  z139 := Tryd.sizeOf122
  v139 := Tryd.zeroValue122
  t160 := Tryd.underlying124
  a160 := Tryd.isAgg124
  z160 := Tryd.sizeOf124
  v160 := Tryd.zeroValue124
  t162 := Tryd.underlying114
  a162 := Tryd.isAgg114
  z162 := Tryd.sizeOf114
  v162 := Tryd.zeroValue114
  t164 := Tryd.underlying108
  a164 := Tryd.isAgg108
  z164 := Tryd.sizeOf108
  v164 := Tryd.zeroValue108
  t203 := Tryd.underlying112
  a203 := Tryd.isAgg112
  z203 := Tryd.sizeOf112
  v203 := Tryd.zeroValue112
  t206 := Tryd.underlying132
  a206 := Tryd.isAgg132
  z206 := Tryd.sizeOf132
  v206 := Tryd.zeroValue132
  t208 := Tryd.underlying134
  a208 := Tryd.isAgg134
  z208 := Tryd.sizeOf134
  v208 := Tryd.zeroValue134
  g3 := by kernel_rfl
  g4 := by kernel_rfl
  g13 := by kernel_rfl
theorem builder159 : Builder.Extra Tryd.prog lays159_ren where
  sizeBuilder := by kernel_rfl
  liesBuilder := by kernel_rfl
  t5 := Tryd.underlying5
  a5 := Tryd.isAgg5
  z5 := Tryd.sizeOf5
  v5 := Tryd.zeroValue5
  infoByte := by kernel_rfl
  cellsByte := by kernel_rfl
  sizeByte := by kernel_rfl
  neB5 := by decide
end Go.Proofs
namespace Go.Eng
open Go Go.Proofs
variable {P : Program}
theorem VRs.plain_inv {ρ : Go.Eng.Ren} : ∀ {l l' : List Value}, (∀ v ∈ l, Value.plain v = true) → VRs ρ l l' → l' = l
  | [], _, _, h => by cases h; rfl
  | v :: r, _, h, hr => by
    cases hr with
    | cons v v' r r' h1 hr => rw [VR.plain_inv (h v (by simp)) h1, VRs.plain_inv (fun x hx => h x (by simp [hx])) hr]
theorem Sim.below {base : Nat} {G : Nat → Option AObj} {ρ : Go.Eng.Ren} {w w' : World} (hS : Sim base G ρ w) (hb : RowKit.Below w.heap.size w w') : Sim base G ρ w' where
  dom := hS.dom
  size := Nat.le_trans hS.size hb.size
  rng := fun id l hl => Nat.lt_of_lt_of_le (hS.rng id l hl) hb.size
  obj := fun id o l hg hl => (hS.obj id o l hg hl).mono (Ren.le_refl _) (hb.block _ (hS.rng id l hl))
  inj := hS.inj
  glob := globOk_keep (fun b hb' => hb.block b (Nat.lt_of_lt_of_le hb' hS.size)) hS.glob
/-- a call by a contract of the library: plain values; what there is stays as it is -/
theorem CallT.of_below {f : FuncId} {args : List Value} {v : Value} {h : Heap} (he : Enters P f) (hpl : ∀ a ∈ args, Value.plain a = true) (hv : Value.plain v = true)
    (hc : ∀ base w, globOk base w → Calls P f args.toArray w fun e w' => e = .returned v ∧ RowKit.Below w.heap.size w w') : CallT P f args h v h := by
  refine ⟨he, Heap.step.refl h, fun base G ρ w args' hG hfr hS hargs => ?_⟩
  obtain rfl := VRs.plain_inv hpl hargs
  refine (hc base w hS.glob).mono fun e w' ⟨h1, hb⟩ => ⟨v, ρ, h1, Agree.refl _ _ _, .same v hv, ?_, ?_⟩
  · exact Sim.congr (hS.below hb) (over_self hG)
  · have hbase := hS.size
    refine ⟨hb.size, fun b hb' => hb.block b (by omega), hb.tape, hb.os, hb.output, fun a ha => ?_⟩
    unfold World.frozen?
    rw [hb.block a.block ha]
end Go.Eng
namespace Go.Eng.Tk
open Go Go.Eng Go.Proofs
theorem toLower_c {l : List UInt8} (hl : l.length ≤ 140737488355328) (ha : ∀ b ∈ l, b.toNat < 128) {h : Heap} (Q : Value → Heap → Prop) (hq : Q (.string ⟨(Lib.toLowerA l).toArray⟩) h) : CallW Tryd.prog 41 [.string ⟨l.toArray⟩] h Q := by
  refine ⟨_, _, CallT.of_below (enters_of Tryd.func41 (by kernel_rfl) rfl) (by simp [Value.plain]) rfl fun base w _ => ?_, hq⟩
  have := Any.strings_ToLower_ascii lays159 builder159 ⟨l.toArray⟩ w (by simpa [ByteArray.size] using hl) (fun j b hb => ha b (by simpa using List.mem_of_getElem? hb))
  have e : lays159_ren.f 159 = 41 := rfl
  rw [e] at this
  simpa using this
end Go.Eng.Tk

set_option linter.unusedSimpArgs false
set_option linter.unusedVariables false
namespace Go.Eng.Tk
open Go Go.Eng Go.Proofs

/-! ### numbers -/
def low (b : UInt8) : UInt8 := b ||| 32
/-- a digit's value -/
def dig (b : UInt8) : Option Nat := if 48 ≤ b.toNat ∧ b.toNat ≤ 57 then some (b.toNat - 48) else if 97 ≤ (low b).toNat ∧ (low b).toNat ≤ 122 then some ((low b).toNat - 87) else none
/-- digits to a base, behind n; none: a byte is no digit, or the number is too great -/
def parse (base : Nat) : List UInt8 → Nat → Option Nat
  | [], n => some n
  | b :: r, n => match dig b with
    | none => none
    | some d => if base ≤ d then none else if 4294967295 < n * base + d then none else parse base r (n * base + d)
def parseU (base : Nat) (l : List UInt8) : Option Nat := match l with | [] => none | _ => parse base l 0

theorem u8_lt (b : UInt8) : b.toNat < 256 := b.toNat_lt
set_option maxRecDepth 20000 in
theorem low_eq : ∀ n : Fin 256, IntKind.u8.wrap ((BitVec.ofInt 8 (n.val : Int) ||| BitVec.ofInt 8 32).toNat : Int) = ((low (UInt8.ofNat n.val)).toNat : Int) := by decide
theorem lower_c (b : UInt8) (h : Heap) (Q : Value → Heap → Prop) (hq : Q (.int .u8 (low b).toNat) h) : CallW Tryd.prog 62 [.int .u8 b.toNat] h Q := by
  refine call_of1 (k := 1) ok62 rfl rfl rfl fun N => ?_
  rw [show env0 c62 [.int .u8 b.toNat] = [.int .u8 b.toNat, undef] from rfl]
  delta c62 c62_r0 c62_r1
  replace hq := Hid.mk hq
  have e := low_eq ⟨b.toNat, u8_lt b⟩
  simp only [UInt8.ofNat_toNat] at e
  have e' : ((IntKind.u8.wrap ((BitVec.ofInt IntKind.u8.bits (b.toNat : Int) ||| BitVec.ofInt IntKind.u8.bits 32).toNat : Int)) : Int) = ((low b).toNat : Int) := e
  clear e
  repeat' (first | simp -implicitDefEqProofs only [W_skip, W_reg, W_seq, W_rcond, W_cond, W_block, W_loop, W_exit, W_ret, thenQ_normal, thenQ_exit, thenQ_ret, blockQ_normal, blockQ_ret, blockQ_here, regQ_app, rcQ_app, cndK_t, cndK_f, RegW_nil, RegW_none, RegW_some, contW_app, grdK_tt, grdK_ff, grdK_tf, grdK_ft, grdK_undef, actK_p, actK_r, actK_a, actK_w, actK_call, actK_callV, heapK_app, allocK_app, writeK_app, ret1_ret, ret1_normal, ret0_ret, ret0_normal, ret2_ret2, thenK_app, retcv_ret, retcvK_app, optW_some, evs, Arg.ev, aP, aR, aA, aW, pMov, pBin, pUn, pConv, pPick, pFieldAddr, pNilCheck, pExtract, aBin, aUn, aInt, aNew, partL_f, upd, List.getElem?_cons_zero, List.getElem?_cons_succ, List.getD_cons_zero, List.getD_cons_succ, List.set_cons_zero, List.set_cons_succ, Nat.zero_add, Nat.add_zero, List.getElem?_toArray, List.take_zero, List.drop_zero, List.take_succ_cons, List.drop_succ_cons, if_true, if_false, decide_true, decide_false, Bool.false_eq_true, Bool.true_eq_false, Bool.not_true, Bool.not_false, not_true_eq_false, not_false_eq_true, ge_iff_le, gt_iff_lt, beq_self_eq_true, bne_self_eq_false, and_self, and_true, true_and, Option.isSome_some, Heap.get_alloc_same, Heap.alloc_getE, *] | with_reducible refine cndK_d (fun hc => ?_) (fun hc => ?_) | with_reducible refine grdK_d (fun hc => ?_) (fun hc => ?_) | with_reducible refine cndK_i (fun hc => ?_) (fun hc => ?_) | with_reducible refine grdK_i (fun hc => ?_) (fun hc => ?_))
  exact hq.h
end Go.Eng.Tk

set_option linter.unusedSimpArgs false
set_option linter.unusedVariables false
namespace Go.Eng.Tk
open Go Go.Eng Go.Proofs

/-- the bytes of a text, as a row that is read -/
theorem strBytes_e (h : Heap) (l : List UInt8) : aW .strBytes [.string ⟨l.toArray⟩] h = some (.slice (some ⟨h.next, 0, none⟩) l.length 1, h.alloc (.blk (l.map fun b => .int .u8 b.toNat) false)) := by
  simp [aW, ByteArray.size]
theorem wrapU {z : Int} (h1 : 0 ≤ z) (h2 : z ≤ 18446744073709551615) : IntKind.u64.wrap z = z := by
  rw [IntKind.wrap_u64]; omega
theorem wrap8 {z : Int} (h1 : 0 ≤ z) (h2 : z ≤ 255) : IntKind.u8.wrap z = z := by
  rw [IntKind.wrap_u8]; omega
theorem shl32 : aShift .shl .u64 1 32 = some (.int .u64 4294967296) := by rfl
theorem sub32 : IntKind.u64.wrap (4294967296 - 1) = 4294967295 := by rfl

def ParseQ (base : Nat) (l : List UInt8) (h : Heap) (Q : Value → Heap → Prop) : Prop :=
  ∀ h', h.le h' → (∀ n, parseU base l = some n → Q (.tuple #[.int .u64 n, .nilIface]) h') ∧ (parseU base l = none → ∀ (x e : Int), (e = 1 ∨ e = 2) → Q (.tuple #[.int .u64 x, .iface 91 (.int .i64 e)]) h')
theorem parse_loop {base : Nat} (hb : base = 10 ∨ base = 16) {cut : Int} (hcut : 4294967296 ≤ cut) {l : List UInt8} (hl : l.length ≤ 140737488355328) (hne : l ≠ []) {N p : Nat} {h h0 : Heap} (hp : h.get p = some (.blk (l.map fun b => .int .u8 b.toNat) false)) (hle : h0.le h)
    {Q : Value → Heap → Prop} (hq : ParseQ base l h0 Q) {x3 x4 x11 x12 x13 x18 : Value} {Q' : AExit → List Value → Heap → Prop}
    (hQ1 : ∀ e h1 n, h0.le h1 → parseU base l = some n → (∃ x11 x12 x13 x18, e = [str l, .int .i64 base, .int .i64 32, x3, x4, .bool false, str l, .int .u64 cut, .int .u64 4294967295, .bool false, .int .u64 n, x11, x12, x13, .int .i64 base, .slice (some ⟨p, 0, none⟩) l.length 1, .int .i64 l.length, .int .i64 l.length, x18]) → Q' (.exit 3) e h1)
    (hQ2 : ∀ e h1 (x z : Int), h0.le h1 → parseU base l = none → (z = 1 ∨ z = 2) → e[3]? = some (.int .u64 x) → e[4]? = some (.iface 91 (.int .i64 z)) → Q' .ret e h1) :
    LoopW Tryd.prog N c49.vars c49_l56 [str l, .int .i64 base, .int .i64 32, x3, x4, .bool false, str l, .int .u64 cut, .int .u64 4294967295, .bool false, .int .u64 0, x11, x12, x13, .int .i64 base, .slice (some ⟨p, 0, none⟩) l.length 1, .int .i64 l.length, .int .i64 0, x18] h Q' := by
  have hpu : parseU base l = parse base l 0 := by cases l with | nil => exact absurd rfl hne | cons => rfl
  have hb2 : (base : Int) ≤ 16 ∧ 0 ≤ (base : Int) := by omega
  have hwb : IntKind.u64.wrap (base : Int) = base := wrapU (by omega) (by omega)
  have hwb8 : IntKind.u8.wrap (base : Int) = base := wrap8 (by omega) (by omega)
  replace hQ1 := Hid.mk hQ1
  replace hQ2 := Hid.mk hQ2
  replace hq := Hid.mk hq
  replace hpu := Hid.mk hpu
  refine LoopW.upto l.length (fun i e h1 => h.le h1 ∧ ∃ n : Nat, n ≤ 4294967295 ∧ parse base l 0 = parse base (l.drop i) n ∧ ∃ x11 x12 x13 x18, e = [str l, .int .i64 base, .int .i64 32, x3, x4, .bool false, str l, .int .u64 cut, .int .u64 4294967295, .bool false, .int .u64 n, x11, x12, x13, .int .i64 base, .slice (some ⟨p, 0, none⟩) l.length 1, .int .i64 l.length, .int .i64 i, x18]) ?_ (Nat.zero_le _) ⟨Heap.le.refl _, 0, by omega, rfl, _, _, _, _, rfl⟩
  rintro i _ h1 R hi ⟨hl1, n, hn, hpar, x11, x12, x13, x18, rfl⟩ hR
  replace hpar := Hid.mk hpar
  delta c49_l56 c49_r36 c49_r37 c49_r38 c49_r39 c49_r40 c49_r41 c49_r42 c49_r43 c49_r44 c49_r45 c49_r46 c49_r47 c49_r48 c49_r49 c49_r50 c49_r51 c49_r52 c49_r53 c49_r54 c49_r55
  have hp1 := hl1.get hp
  have le1 := Hid.mk (hle.trans hl1)
  by_cases hlt : i < l.length
  case neg =>
    have hlt' : ¬ (i : Int) < l.length := by omega
    have hii : l.length = i := by omega
    have g := hQ1.h [str l, .int .i64 base, .int .i64 32, x3, x4, .bool false, str l, .int .u64 cut, .int .u64 4294967295, .bool false, .int .u64 n, x11, x12, x13, .int .i64 base, .slice (some ⟨p, 0, none⟩) l.length 1, .int .i64 l.length, .int .i64 i, .bool false] h1 n le1.h (by rw [hpu.h, hpar.h, List.drop_of_length_le (by omega)]; rfl) ⟨x11, x12, x13, _, by rw [hii]⟩
    replace g := Hid.mk g
    clear hii
    repeat' (first | simp -implicitDefEqProofs only [W_skip, W_reg, W_seq, W_rcond, W_cond, W_block, W_loop, W_exit, W_ret, thenQ_normal, thenQ_exit, thenQ_ret, blockQ_normal, blockQ_ret, blockQ_here, regQ_app, rcQ_app, cndK_t, cndK_f, RegW_nil, RegW_none, RegW_some, contW_app, grdK_tt, grdK_ff, grdK_tf, grdK_ft, grdK_undef, actK_p, actK_r, actK_a, actK_w, actK_call, actK_callV, heapK_app, allocK_app, writeK_app, ret1_ret, ret1_normal, ret0_ret, ret0_normal, ret2_ret2, thenK_app, retcv_ret, retcvK_app, optW_some, evs, Arg.ev, aP, aR, aA, aW, pMov, pBin, pUn, pConv, pPick, pFieldAddr, pNilCheck, pExtract, aBin, aUn, aInt, aNew, partL_f, upd, List.getElem?_cons_zero, List.getElem?_cons_succ, List.getD_cons_zero, List.getD_cons_succ, List.set_cons_zero, List.set_cons_succ, Nat.zero_add, Nat.add_zero, List.getElem?_toArray, List.take_zero, List.drop_zero, List.take_succ_cons, List.drop_succ_cons, if_true, if_false, decide_true, decide_false, Bool.false_eq_true, Bool.true_eq_false, Bool.not_true, Bool.not_false, not_true_eq_false, not_false_eq_true, ge_iff_le, gt_iff_lt, beq_self_eq_true, bne_self_eq_false, and_self, and_true, true_and, Option.isSome_some, Heap.get_alloc_same, Heap.alloc_getE, *] | with_reducible refine cndK_d (fun hc => ?_) (fun hc => ?_) | with_reducible refine grdK_d (fun hc => ?_) (fun hc => ?_) | with_reducible refine cndK_i (fun hc => ?_) (fun hc => ?_) | with_reducible refine grdK_i (fun hc => ?_) (fun hc => ?_))
    exact g.h
  case pos =>
    have hlt' : (i : Int) < l.length := by omega
    have hwj : IntKind.i64.wrap ((i : Int) + 1) = ((i + 1 : Nat) : Int) := by rw [wrapI (by omega) (by omega)]; rfl
    obtain ⟨b, hb'⟩ : ∃ b, l[i]? = some b := ⟨_, List.getElem?_eq_getElem hlt⟩
    have hdr : l.drop i = b :: l.drop (i + 1) := by
      rw [List.drop_eq_getElem_cons hlt]
      congr 1
      exact (List.getElem?_eq_some_iff.1 hb').2
    have hpar' : parse base l 0 = parse base (b :: l.drop (i + 1)) n := by rw [hpar.h, hdr]
    clear hdr
    have ia : pIdxAddrS 1 [.slice (some ⟨p, 0, none⟩) l.length 1, .int .i64 (i : Int)] = some (.pointer (some ⟨p, i, none⟩)) := by simp [pIdxAddrS, hlt]
    have gl : (l.map fun b => Value.int .u8 b.toNat)[i]? = some (.int .u8 b.toNat) := by simp [hb']
    have hbl := u8_lt b
    have hno95 : ∀ c : Bool, (if c then false else false) = false := by intro c; cases c <;> rfl
    clear hb'
    cases hd : dig b with
    | none =>
      have hnone : parseU base l = none := by rw [hpu.h, hpar']; simp [parse, hd]
      have g : ∀ e, e[3]? = some (.int .u64 0) → e[4]? = some (.iface 91 (.int .i64 2)) → Q' .ret e h1 := fun e e3 e4 => hQ2.h e h1 0 2 le1.h hnone (.inr rfl) e3 e4
      replace g := Hid.mk g
      have hd' : ¬ (48 ≤ b.toNat ∧ b.toNat ≤ 57) ∧ ¬ (97 ≤ (low b).toNat ∧ (low b).toNat ≤ 122) := by
        unfold dig at hd
        by_cases hA : 48 ≤ b.toNat ∧ b.toNat ≤ 57
        · rw [if_pos hA] at hd; cases hd
        · rw [if_neg hA] at hd
          by_cases hB : 97 ≤ (low b).toNat ∧ (low b).toNat ≤ 122
          · rw [if_pos hB] at hd; cases hd
          · exact ⟨hA, hB⟩
      replace hd' := Hid.mk hd'
      clear hd hpar' hpar
      by_cases h48 : (48 : Int) ≤ (b.toNat : Int) <;> by_cases h57 : (b.toNat : Int) ≤ 57 <;> by_cases h97 : (97 : Int) ≤ ((low b).toNat : Int) <;> by_cases h122 : ((low b).toNat : Int) ≤ 122
      all_goals first
        | (exfalso; have := hd'.h; omega)
        | (cases h95 : ((b.toNat : Int) == 95)
           all_goals
             repeat' (first | simp -implicitDefEqProofs only [W_skip, W_reg, W_seq, W_rcond, W_cond, W_block, W_loop, W_exit, W_ret, thenQ_normal, thenQ_exit, thenQ_ret, blockQ_normal, blockQ_ret, blockQ_here, regQ_app, rcQ_app, cndK_t, cndK_f, RegW_nil, RegW_none, RegW_some, contW_app, grdK_tt, grdK_ff, grdK_tf, grdK_ft, grdK_undef, actK_p, actK_r, actK_a, actK_w, actK_call, actK_callV, heapK_app, allocK_app, writeK_app, ret1_ret, ret1_normal, ret0_ret, ret0_normal, ret2_ret2, thenK_app, retcv_ret, retcvK_app, optW_some, evs, Arg.ev, aP, aR, aA, aW, pMov, pBin, pUn, pConv, pPick, pFieldAddr, pNilCheck, pExtract, aBin, aUn, aInt, aNew, partL_f, upd, List.getElem?_cons_zero, List.getElem?_cons_succ, List.getD_cons_zero, List.getD_cons_succ, List.set_cons_zero, List.set_cons_succ, Nat.zero_add, Nat.add_zero, List.getElem?_toArray, List.take_zero, List.drop_zero, List.take_succ_cons, List.drop_succ_cons, if_true, if_false, decide_true, decide_false, Bool.false_eq_true, Bool.true_eq_false, Bool.not_true, Bool.not_false, not_true_eq_false, not_false_eq_true, ge_iff_le, gt_iff_lt, beq_self_eq_true, bne_self_eq_false, and_self, and_true, true_and, Option.isSome_some, Heap.get_alloc_same, Heap.alloc_getE, pIface, *] | with_reducible refine cndK_d (fun hc => ?_) (fun hc => ?_) | with_reducible refine grdK_d (fun hc => ?_) (fun hc => ?_) | with_reducible refine cndK_i (fun hc => ?_) (fun hc => ?_) | with_reducible refine grdK_i (fun hc => ?_) (fun hc => ?_))
             refine lower_c b _ _ ?_
             repeat' (first | simp -implicitDefEqProofs only [W_skip, W_reg, W_seq, W_rcond, W_cond, W_block, W_loop, W_exit, W_ret, thenQ_normal, thenQ_exit, thenQ_ret, blockQ_normal, blockQ_ret, blockQ_here, regQ_app, rcQ_app, cndK_t, cndK_f, RegW_nil, RegW_none, RegW_some, contW_app, grdK_tt, grdK_ff, grdK_tf, grdK_ft, grdK_undef, actK_p, actK_r, actK_a, actK_w, actK_call, actK_callV, heapK_app, allocK_app, writeK_app, ret1_ret, ret1_normal, ret0_ret, ret0_normal, ret2_ret2, thenK_app, retcv_ret, retcvK_app, optW_some, evs, Arg.ev, aP, aR, aA, aW, pMov, pBin, pUn, pConv, pPick, pFieldAddr, pNilCheck, pExtract, aBin, aUn, aInt, aNew, partL_f, upd, List.getElem?_cons_zero, List.getElem?_cons_succ, List.getD_cons_zero, List.getD_cons_succ, List.set_cons_zero, List.set_cons_succ, Nat.zero_add, Nat.add_zero, List.getElem?_toArray, List.take_zero, List.drop_zero, List.take_succ_cons, List.drop_succ_cons, if_true, if_false, decide_true, decide_false, Bool.false_eq_true, Bool.true_eq_false, Bool.not_true, Bool.not_false, not_true_eq_false, not_false_eq_true, ge_iff_le, gt_iff_lt, beq_self_eq_true, bne_self_eq_false, and_self, and_true, true_and, Option.isSome_some, Heap.get_alloc_same, Heap.alloc_getE, pIface, *] | with_reducible refine cndK_d (fun hc => ?_) (fun hc => ?_) | with_reducible refine grdK_d (fun hc => ?_) (fun hc => ?_) | with_reducible refine cndK_i (fun hc => ?_) (fun hc => ?_) | with_reducible refine grdK_i (fun hc => ?_) (fun hc => ?_))
             first
               | exact g.h _ rfl rfl
               | (refine lower_c b _ _ ?_
                  repeat' (first | simp -implicitDefEqProofs only [W_skip, W_reg, W_seq, W_rcond, W_cond, W_block, W_loop, W_exit, W_ret, thenQ_normal, thenQ_exit, thenQ_ret, blockQ_normal, blockQ_ret, blockQ_here, regQ_app, rcQ_app, cndK_t, cndK_f, RegW_nil, RegW_none, RegW_some, contW_app, grdK_tt, grdK_ff, grdK_tf, grdK_ft, grdK_undef, actK_p, actK_r, actK_a, actK_w, actK_call, actK_callV, heapK_app, allocK_app, writeK_app, ret1_ret, ret1_normal, ret0_ret, ret0_normal, ret2_ret2, thenK_app, retcv_ret, retcvK_app, optW_some, evs, Arg.ev, aP, aR, aA, aW, pMov, pBin, pUn, pConv, pPick, pFieldAddr, pNilCheck, pExtract, aBin, aUn, aInt, aNew, partL_f, upd, List.getElem?_cons_zero, List.getElem?_cons_succ, List.getD_cons_zero, List.getD_cons_succ, List.set_cons_zero, List.set_cons_succ, Nat.zero_add, Nat.add_zero, List.getElem?_toArray, List.take_zero, List.drop_zero, List.take_succ_cons, List.drop_succ_cons, if_true, if_false, decide_true, decide_false, Bool.false_eq_true, Bool.true_eq_false, Bool.not_true, Bool.not_false, not_true_eq_false, not_false_eq_true, ge_iff_le, gt_iff_lt, beq_self_eq_true, bne_self_eq_false, and_self, and_true, true_and, Option.isSome_some, Heap.get_alloc_same, Heap.alloc_getE, pIface, *] | with_reducible refine cndK_d (fun hc => ?_) (fun hc => ?_) | with_reducible refine grdK_d (fun hc => ?_) (fun hc => ?_) | with_reducible refine cndK_i (fun hc => ?_) (fun hc => ?_) | with_reducible refine grdK_i (fun hc => ?_) (fun hc => ?_))
                  exact g.h _ rfl rfl))
    | some d =>
      have hd' : (48 ≤ b.toNat ∧ b.toNat ≤ 57 ∧ d = b.toNat - 48) ∨ (¬ (48 ≤ b.toNat ∧ b.toNat ≤ 57) ∧ 97 ≤ (low b).toNat ∧ (low b).toNat ≤ 122 ∧ d = (low b).toNat - 87) := by
        unfold dig at hd
        by_cases hA : 48 ≤ b.toNat ∧ b.toNat ≤ 57
        · rw [if_pos hA] at hd; cases hd; exact .inl ⟨hA.1, hA.2, rfl⟩
        · rw [if_neg hA] at hd
          by_cases hB : 97 ≤ (low b).toNat ∧ (low b).toNat ≤ 122
          · rw [if_pos hB] at hd; cases hd; exact .inr ⟨hA, hB.1, hB.2, rfl⟩
          · rw [if_neg hB] at hd; cases hd
      have hd35 : d ≤ 35 := by omega
      have hw64 : IntKind.u64.wrap (d : Int) = d := wrapU (by omega) (by omega)
      have hnb : n * base ≤ 4294967295 * 16 := Nat.mul_le_mul hn (by omega)
      have hmul : IntKind.u64.wrap ((n : Int) * (base : Int)) = ((n * base : Nat) : Int) := by
        rw [← Int.natCast_mul]; exact wrapU (by omega) (by omega)
      have hsum : IntKind.u64.wrap (((n * base : Nat) : Int) + (d : Int)) = ((n * base + d : Nat) : Int) := by
        rw [← Int.natCast_add]; exact wrapU (by omega) (by omega)
      have hcn : ¬ cut ≤ (n : Int) := by omega
      have hsl : ¬ ((n * base + d : Nat) : Int) < ((n * base : Nat) : Int) := by omega
      have g2 : base ≤ d → ∀ e, e[3]? = some (.int .u64 0) → e[4]? = some (.iface 91 (.int .i64 2)) → Q' .ret e h1 := fun hbd e e3 e4 => hQ2.h e h1 0 2 le1.h (by rw [hpu.h, hpar']; simp [parse, hd, hbd]) (.inr rfl) e3 e4
      have g1 : ¬ base ≤ d → 4294967295 < n * base + d → ∀ e, e[3]? = some (.int .u64 4294967295) → e[4]? = some (.iface 91 (.int .i64 1)) → Q' .ret e h1 := fun hbd hgt e e3 e4 => hQ2.h e h1 4294967295 1 le1.h (by rw [hpu.h, hpar']; simp [parse, hd, hbd, hgt]) (.inl rfl) e3 e4
      have g0 : ¬ base ≤ d → ¬ 4294967295 < n * base + d → parse base l 0 = parse base (l.drop (i + 1)) (n * base + d) := fun hbd hgt => by rw [hpar']; simp only [parse, hd]; rw [if_neg hbd, if_neg hgt]
      replace g2 := Hid.mk g2
      replace g1 := Hid.mk g1
      replace g0 := Hid.mk g0
      replace hsum := Hid.mk hsum
      replace hmul := Hid.mk hmul
      clear hd hpar' hpar hnb
      have hA : 48 ≤ b.toNat → b.toNat ≤ 57 → d = b.toNat - 48 → IntKind.u8.wrap ((b.toNat : Int) - 48) = (d : Int) := fun h1 h2 e => by
        rw [wrap8 (by omega) (by omega)]; omega
      have hB : 97 ≤ (low b).toNat → (low b).toNat ≤ 122 → d = (low b).toNat - 87 → IntKind.u8.wrap (((low b).toNat : Int) - 97) = ((low b).toNat : Int) - 97 ∧ IntKind.u8.wrap (((low b).toNat : Int) - 97 + 10) = (d : Int) := fun h1 h2 e => by
        rw [wrap8 (by omega) (by omega), wrap8 (by omega) (by omega)]; omega
      by_cases hbd : base ≤ d
      · have hbd' : (base : Int) ≤ (d : Int) := by omega
        have g := g2.h hbd
        replace g := Hid.mk g
        rcases hd' with ⟨hd1, hd2, hd3⟩ | ⟨hd1, hd2, hd3, hd4⟩
        · have ha := hA hd1 hd2 hd3
          have h48 : (48 : Int) ≤ (b.toNat : Int) := by omega
          have h57 : (b.toNat : Int) ≤ 57 := by omega
          clear hd3
          cases h95 : ((b.toNat : Int) == 95)
          all_goals
            repeat' (first | simp -implicitDefEqProofs only [W_skip, W_reg, W_seq, W_rcond, W_cond, W_block, W_loop, W_exit, W_ret, thenQ_normal, thenQ_exit, thenQ_ret, blockQ_normal, blockQ_ret, blockQ_here, regQ_app, rcQ_app, cndK_t, cndK_f, RegW_nil, RegW_none, RegW_some, contW_app, grdK_tt, grdK_ff, grdK_tf, grdK_ft, grdK_undef, actK_p, actK_r, actK_a, actK_w, actK_call, actK_callV, heapK_app, allocK_app, writeK_app, ret1_ret, ret1_normal, ret0_ret, ret0_normal, ret2_ret2, thenK_app, retcv_ret, retcvK_app, optW_some, evs, Arg.ev, aP, aR, aA, aW, pMov, pBin, pUn, pConv, pPick, pFieldAddr, pNilCheck, pExtract, aBin, aUn, aInt, aNew, partL_f, upd, List.getElem?_cons_zero, List.getElem?_cons_succ, List.getD_cons_zero, List.getD_cons_succ, List.set_cons_zero, List.set_cons_succ, Nat.zero_add, Nat.add_zero, List.getElem?_toArray, List.take_zero, List.drop_zero, List.take_succ_cons, List.drop_succ_cons, if_true, if_false, decide_true, decide_false, Bool.false_eq_true, Bool.true_eq_false, Bool.not_true, Bool.not_false, not_true_eq_false, not_false_eq_true, ge_iff_le, gt_iff_lt, beq_self_eq_true, bne_self_eq_false, and_self, and_true, true_and, Option.isSome_some, Heap.get_alloc_same, Heap.alloc_getE, pIface, *] | with_reducible refine cndK_d (fun hc => ?_) (fun hc => ?_) | with_reducible refine grdK_d (fun hc => ?_) (fun hc => ?_) | with_reducible refine cndK_i (fun hc => ?_) (fun hc => ?_) | with_reducible refine grdK_i (fun hc => ?_) (fun hc => ?_))
            exact g.h _ rfl rfl
        · obtain ⟨hb1, hb2⟩ := hB hd2 hd3 hd4
          have h97 : (97 : Int) ≤ ((low b).toNat : Int) := by omega
          have h122 : ((low b).toNat : Int) ≤ 122 := by omega
          by_cases h48 : (48 : Int) ≤ (b.toNat : Int)
          · have h57 : ¬ (b.toNat : Int) ≤ 57 := by omega
            clear hd4
            cases h95 : ((b.toNat : Int) == 95)
            all_goals
              repeat' (first | simp -implicitDefEqProofs only [W_skip, W_reg, W_seq, W_rcond, W_cond, W_block, W_loop, W_exit, W_ret, thenQ_normal, thenQ_exit, thenQ_ret, blockQ_normal, blockQ_ret, blockQ_here, regQ_app, rcQ_app, cndK_t, cndK_f, RegW_nil, RegW_none, RegW_some, contW_app, grdK_tt, grdK_ff, grdK_tf, grdK_ft, grdK_undef, actK_p, actK_r, actK_a, actK_w, actK_call, actK_callV, heapK_app, allocK_app, writeK_app, ret1_ret, ret1_normal, ret0_ret, ret0_normal, ret2_ret2, thenK_app, retcv_ret, retcvK_app, optW_some, evs, Arg.ev, aP, aR, aA, aW, pMov, pBin, pUn, pConv, pPick, pFieldAddr, pNilCheck, pExtract, aBin, aUn, aInt, aNew, partL_f, upd, List.getElem?_cons_zero, List.getElem?_cons_succ, List.getD_cons_zero, List.getD_cons_succ, List.set_cons_zero, List.set_cons_succ, Nat.zero_add, Nat.add_zero, List.getElem?_toArray, List.take_zero, List.drop_zero, List.take_succ_cons, List.drop_succ_cons, if_true, if_false, decide_true, decide_false, Bool.false_eq_true, Bool.true_eq_false, Bool.not_true, Bool.not_false, not_true_eq_false, not_false_eq_true, ge_iff_le, gt_iff_lt, beq_self_eq_true, bne_self_eq_false, and_self, and_true, true_and, Option.isSome_some, Heap.get_alloc_same, Heap.alloc_getE, pIface, *] | with_reducible refine cndK_d (fun hc => ?_) (fun hc => ?_) | with_reducible refine grdK_d (fun hc => ?_) (fun hc => ?_) | with_reducible refine cndK_i (fun hc => ?_) (fun hc => ?_) | with_reducible refine grdK_i (fun hc => ?_) (fun hc => ?_))
              refine lower_c b _ _ ?_
              repeat' (first | simp -implicitDefEqProofs only [W_skip, W_reg, W_seq, W_rcond, W_cond, W_block, W_loop, W_exit, W_ret, thenQ_normal, thenQ_exit, thenQ_ret, blockQ_normal, blockQ_ret, blockQ_here, regQ_app, rcQ_app, cndK_t, cndK_f, RegW_nil, RegW_none, RegW_some, contW_app, grdK_tt, grdK_ff, grdK_tf, grdK_ft, grdK_undef, actK_p, actK_r, actK_a, actK_w, actK_call, actK_callV, heapK_app, allocK_app, writeK_app, ret1_ret, ret1_normal, ret0_ret, ret0_normal, ret2_ret2, thenK_app, retcv_ret, retcvK_app, optW_some, evs, Arg.ev, aP, aR, aA, aW, pMov, pBin, pUn, pConv, pPick, pFieldAddr, pNilCheck, pExtract, aBin, aUn, aInt, aNew, partL_f, upd, List.getElem?_cons_zero, List.getElem?_cons_succ, List.getD_cons_zero, List.getD_cons_succ, List.set_cons_zero, List.set_cons_succ, Nat.zero_add, Nat.add_zero, List.getElem?_toArray, List.take_zero, List.drop_zero, List.take_succ_cons, List.drop_succ_cons, if_true, if_false, decide_true, decide_false, Bool.false_eq_true, Bool.true_eq_false, Bool.not_true, Bool.not_false, not_true_eq_false, not_false_eq_true, ge_iff_le, gt_iff_lt, beq_self_eq_true, bne_self_eq_false, and_self, and_true, true_and, Option.isSome_some, Heap.get_alloc_same, Heap.alloc_getE, pIface, *] | with_reducible refine cndK_d (fun hc => ?_) (fun hc => ?_) | with_reducible refine grdK_d (fun hc => ?_) (fun hc => ?_) | with_reducible refine cndK_i (fun hc => ?_) (fun hc => ?_) | with_reducible refine grdK_i (fun hc => ?_) (fun hc => ?_))
              refine lower_c b _ _ ?_
              repeat' (first | simp -implicitDefEqProofs only [W_skip, W_reg, W_seq, W_rcond, W_cond, W_block, W_loop, W_exit, W_ret, thenQ_normal, thenQ_exit, thenQ_ret, blockQ_normal, blockQ_ret, blockQ_here, regQ_app, rcQ_app, cndK_t, cndK_f, RegW_nil, RegW_none, RegW_some, contW_app, grdK_tt, grdK_ff, grdK_tf, grdK_ft, grdK_undef, actK_p, actK_r, actK_a, actK_w, actK_call, actK_callV, heapK_app, allocK_app, writeK_app, ret1_ret, ret1_normal, ret0_ret, ret0_normal, ret2_ret2, thenK_app, retcv_ret, retcvK_app, optW_some, evs, Arg.ev, aP, aR, aA, aW, pMov, pBin, pUn, pConv, pPick, pFieldAddr, pNilCheck, pExtract, aBin, aUn, aInt, aNew, partL_f, upd, List.getElem?_cons_zero, List.getElem?_cons_succ, List.getD_cons_zero, List.getD_cons_succ, List.set_cons_zero, List.set_cons_succ, Nat.zero_add, Nat.add_zero, List.getElem?_toArray, List.take_zero, List.drop_zero, List.take_succ_cons, List.drop_succ_cons, if_true, if_false, decide_true, decide_false, Bool.false_eq_true, Bool.true_eq_false, Bool.not_true, Bool.not_false, not_true_eq_false, not_false_eq_true, ge_iff_le, gt_iff_lt, beq_self_eq_true, bne_self_eq_false, and_self, and_true, true_and, Option.isSome_some, Heap.get_alloc_same, Heap.alloc_getE, pIface, *] | with_reducible refine cndK_d (fun hc => ?_) (fun hc => ?_) | with_reducible refine grdK_d (fun hc => ?_) (fun hc => ?_) | with_reducible refine cndK_i (fun hc => ?_) (fun hc => ?_) | with_reducible refine grdK_i (fun hc => ?_) (fun hc => ?_))
              refine lower_c b _ _ ?_
              repeat' (first | simp -implicitDefEqProofs only [W_skip, W_reg, W_seq, W_rcond, W_cond, W_block, W_loop, W_exit, W_ret, thenQ_normal, thenQ_exit, thenQ_ret, blockQ_normal, blockQ_ret, blockQ_here, regQ_app, rcQ_app, cndK_t, cndK_f, RegW_nil, RegW_none, RegW_some, contW_app, grdK_tt, grdK_ff, grdK_tf, grdK_ft, grdK_undef, actK_p, actK_r, actK_a, actK_w, actK_call, actK_callV, heapK_app, allocK_app, writeK_app, ret1_ret, ret1_normal, ret0_ret, ret0_normal, ret2_ret2, thenK_app, retcv_ret, retcvK_app, optW_some, evs, Arg.ev, aP, aR, aA, aW, pMov, pBin, pUn, pConv, pPick, pFieldAddr, pNilCheck, pExtract, aBin, aUn, aInt, aNew, partL_f, upd, List.getElem?_cons_zero, List.getElem?_cons_succ, List.getD_cons_zero, List.getD_cons_succ, List.set_cons_zero, List.set_cons_succ, Nat.zero_add, Nat.add_zero, List.getElem?_toArray, List.take_zero, List.drop_zero, List.take_succ_cons, List.drop_succ_cons, if_true, if_false, decide_true, decide_false, Bool.false_eq_true, Bool.true_eq_false, Bool.not_true, Bool.not_false, not_true_eq_false, not_false_eq_true, ge_iff_le, gt_iff_lt, beq_self_eq_true, bne_self_eq_false, and_self, and_true, true_and, Option.isSome_some, Heap.get_alloc_same, Heap.alloc_getE, pIface, *] | with_reducible refine cndK_d (fun hc => ?_) (fun hc => ?_) | with_reducible refine grdK_d (fun hc => ?_) (fun hc => ?_) | with_reducible refine cndK_i (fun hc => ?_) (fun hc => ?_) | with_reducible refine grdK_i (fun hc => ?_) (fun hc => ?_))
              exact g.h _ rfl rfl
          · clear hd4
            cases h95 : ((b.toNat : Int) == 95)
            all_goals
              repeat' (first | simp -implicitDefEqProofs only [W_skip, W_reg, W_seq, W_rcond, W_cond, W_block, W_loop, W_exit, W_ret, thenQ_normal, thenQ_exit, thenQ_ret, blockQ_normal, blockQ_ret, blockQ_here, regQ_app, rcQ_app, cndK_t, cndK_f, RegW_nil, RegW_none, RegW_some, contW_app, grdK_tt, grdK_ff, grdK_tf, grdK_ft, grdK_undef, actK_p, actK_r, actK_a, actK_w, actK_call, actK_callV, heapK_app, allocK_app, writeK_app, ret1_ret, ret1_normal, ret0_ret, ret0_normal, ret2_ret2, thenK_app, retcv_ret, retcvK_app, optW_some, evs, Arg.ev, aP, aR, aA, aW, pMov, pBin, pUn, pConv, pPick, pFieldAddr, pNilCheck, pExtract, aBin, aUn, aInt, aNew, partL_f, upd, List.getElem?_cons_zero, List.getElem?_cons_succ, List.getD_cons_zero, List.getD_cons_succ, List.set_cons_zero, List.set_cons_succ, Nat.zero_add, Nat.add_zero, List.getElem?_toArray, List.take_zero, List.drop_zero, List.take_succ_cons, List.drop_succ_cons, if_true, if_false, decide_true, decide_false, Bool.false_eq_true, Bool.true_eq_false, Bool.not_true, Bool.not_false, not_true_eq_false, not_false_eq_true, ge_iff_le, gt_iff_lt, beq_self_eq_true, bne_self_eq_false, and_self, and_true, true_and, Option.isSome_some, Heap.get_alloc_same, Heap.alloc_getE, pIface, *] | with_reducible refine cndK_d (fun hc => ?_) (fun hc => ?_) | with_reducible refine grdK_d (fun hc => ?_) (fun hc => ?_) | with_reducible refine cndK_i (fun hc => ?_) (fun hc => ?_) | with_reducible refine grdK_i (fun hc => ?_) (fun hc => ?_))
              refine lower_c b _ _ ?_
              repeat' (first | simp -implicitDefEqProofs only [W_skip, W_reg, W_seq, W_rcond, W_cond, W_block, W_loop, W_exit, W_ret, thenQ_normal, thenQ_exit, thenQ_ret, blockQ_normal, blockQ_ret, blockQ_here, regQ_app, rcQ_app, cndK_t, cndK_f, RegW_nil, RegW_none, RegW_some, contW_app, grdK_tt, grdK_ff, grdK_tf, grdK_ft, grdK_undef, actK_p, actK_r, actK_a, actK_w, actK_call, actK_callV, heapK_app, allocK_app, writeK_app, ret1_ret, ret1_normal, ret0_ret, ret0_normal, ret2_ret2, thenK_app, retcv_ret, retcvK_app, optW_some, evs, Arg.ev, aP, aR, aA, aW, pMov, pBin, pUn, pConv, pPick, pFieldAddr, pNilCheck, pExtract, aBin, aUn, aInt, aNew, partL_f, upd, List.getElem?_cons_zero, List.getElem?_cons_succ, List.getD_cons_zero, List.getD_cons_succ, List.set_cons_zero, List.set_cons_succ, Nat.zero_add, Nat.add_zero, List.getElem?_toArray, List.take_zero, List.drop_zero, List.take_succ_cons, List.drop_succ_cons, if_true, if_false, decide_true, decide_false, Bool.false_eq_true, Bool.true_eq_false, Bool.not_true, Bool.not_false, not_true_eq_false, not_false_eq_true, ge_iff_le, gt_iff_lt, beq_self_eq_true, bne_self_eq_false, and_self, and_true, true_and, Option.isSome_some, Heap.get_alloc_same, Heap.alloc_getE, pIface, *] | with_reducible refine cndK_d (fun hc => ?_) (fun hc => ?_) | with_reducible refine grdK_d (fun hc => ?_) (fun hc => ?_) | with_reducible refine cndK_i (fun hc => ?_) (fun hc => ?_) | with_reducible refine grdK_i (fun hc => ?_) (fun hc => ?_))
              refine lower_c b _ _ ?_
              repeat' (first | simp -implicitDefEqProofs only [W_skip, W_reg, W_seq, W_rcond, W_cond, W_block, W_loop, W_exit, W_ret, thenQ_normal, thenQ_exit, thenQ_ret, blockQ_normal, blockQ_ret, blockQ_here, regQ_app, rcQ_app, cndK_t, cndK_f, RegW_nil, RegW_none, RegW_some, contW_app, grdK_tt, grdK_ff, grdK_tf, grdK_ft, grdK_undef, actK_p, actK_r, actK_a, actK_w, actK_call, actK_callV, heapK_app, allocK_app, writeK_app, ret1_ret, ret1_normal, ret0_ret, ret0_normal, ret2_ret2, thenK_app, retcv_ret, retcvK_app, optW_some, evs, Arg.ev, aP, aR, aA, aW, pMov, pBin, pUn, pConv, pPick, pFieldAddr, pNilCheck, pExtract, aBin, aUn, aInt, aNew, partL_f, upd, List.getElem?_cons_zero, List.getElem?_cons_succ, List.getD_cons_zero, List.getD_cons_succ, List.set_cons_zero, List.set_cons_succ, Nat.zero_add, Nat.add_zero, List.getElem?_toArray, List.take_zero, List.drop_zero, List.take_succ_cons, List.drop_succ_cons, if_true, if_false, decide_true, decide_false, Bool.false_eq_true, Bool.true_eq_false, Bool.not_true, Bool.not_false, not_true_eq_false, not_false_eq_true, ge_iff_le, gt_iff_lt, beq_self_eq_true, bne_self_eq_false, and_self, and_true, true_and, Option.isSome_some, Heap.get_alloc_same, Heap.alloc_getE, pIface, *] | with_reducible refine cndK_d (fun hc => ?_) (fun hc => ?_) | with_reducible refine grdK_d (fun hc => ?_) (fun hc => ?_) | with_reducible refine cndK_i (fun hc => ?_) (fun hc => ?_) | with_reducible refine grdK_i (fun hc => ?_) (fun hc => ?_))
              refine lower_c b _ _ ?_
              repeat' (first | simp -implicitDefEqProofs only [W_skip, W_reg, W_seq, W_rcond, W_cond, W_block, W_loop, W_exit, W_ret, thenQ_normal, thenQ_exit, thenQ_ret, blockQ_normal, blockQ_ret, blockQ_here, regQ_app, rcQ_app, cndK_t, cndK_f, RegW_nil, RegW_none, RegW_some, contW_app, grdK_tt, grdK_ff, grdK_tf, grdK_ft, grdK_undef, actK_p, actK_r, actK_a, actK_w, actK_call, actK_callV, heapK_app, allocK_app, writeK_app, ret1_ret, ret1_normal, ret0_ret, ret0_normal, ret2_ret2, thenK_app, retcv_ret, retcvK_app, optW_some, evs, Arg.ev, aP, aR, aA, aW, pMov, pBin, pUn, pConv, pPick, pFieldAddr, pNilCheck, pExtract, aBin, aUn, aInt, aNew, partL_f, upd, List.getElem?_cons_zero, List.getElem?_cons_succ, List.getD_cons_zero, List.getD_cons_succ, List.set_cons_zero, List.set_cons_succ, Nat.zero_add, Nat.add_zero, List.getElem?_toArray, List.take_zero, List.drop_zero, List.take_succ_cons, List.drop_succ_cons, if_true, if_false, decide_true, decide_false, Bool.false_eq_true, Bool.true_eq_false, Bool.not_true, Bool.not_false, not_true_eq_false, not_false_eq_true, ge_iff_le, gt_iff_lt, beq_self_eq_true, bne_self_eq_false, and_self, and_true, true_and, Option.isSome_some, Heap.get_alloc_same, Heap.alloc_getE, pIface, *] | with_reducible refine cndK_d (fun hc => ?_) (fun hc => ?_) | with_reducible refine grdK_d (fun hc => ?_) (fun hc => ?_) | with_reducible refine cndK_i (fun hc => ?_) (fun hc => ?_) | with_reducible refine grdK_i (fun hc => ?_) (fun hc => ?_))
              exact g.h _ rfl rfl
      · have hbd' : ¬ (base : Int) ≤ (d : Int) := by omega
        have hm := hmul.h
        have hs := hsum.h
        by_cases hgt : 4294967295 < n * base + d
        · have hgt' : (4294967295 : Int) < ((n * base + d : Nat) : Int) := by omega
          have g := g1.h hbd hgt
          replace g := Hid.mk g
          rcases hd' with ⟨hd1, hd2, hd3⟩ | ⟨hd1, hd2, hd3, hd4⟩
          · have ha := hA hd1 hd2 hd3
            have h48 : (48 : Int) ≤ (b.toNat : Int) := by omega
            have h57 : (b.toNat : Int) ≤ 57 := by omega
            clear hd3
            cases h95 : ((b.toNat : Int) == 95)
            all_goals
              repeat' (first | simp -implicitDefEqProofs only [W_skip, W_reg, W_seq, W_rcond, W_cond, W_block, W_loop, W_exit, W_ret, thenQ_normal, thenQ_exit, thenQ_ret, blockQ_normal, blockQ_ret, blockQ_here, regQ_app, rcQ_app, cndK_t, cndK_f, RegW_nil, RegW_none, RegW_some, contW_app, grdK_tt, grdK_ff, grdK_tf, grdK_ft, grdK_undef, actK_p, actK_r, actK_a, actK_w, actK_call, actK_callV, heapK_app, allocK_app, writeK_app, ret1_ret, ret1_normal, ret0_ret, ret0_normal, ret2_ret2, thenK_app, retcv_ret, retcvK_app, optW_some, evs, Arg.ev, aP, aR, aA, aW, pMov, pBin, pUn, pConv, pPick, pFieldAddr, pNilCheck, pExtract, aBin, aUn, aInt, aNew, partL_f, upd, List.getElem?_cons_zero, List.getElem?_cons_succ, List.getD_cons_zero, List.getD_cons_succ, List.set_cons_zero, List.set_cons_succ, Nat.zero_add, Nat.add_zero, List.getElem?_toArray, List.take_zero, List.drop_zero, List.take_succ_cons, List.drop_succ_cons, if_true, if_false, decide_true, decide_false, Bool.false_eq_true, Bool.true_eq_false, Bool.not_true, Bool.not_false, not_true_eq_false, not_false_eq_true, ge_iff_le, gt_iff_lt, beq_self_eq_true, bne_self_eq_false, and_self, and_true, true_and, Option.isSome_some, Heap.get_alloc_same, Heap.alloc_getE, pIface, *] | with_reducible refine cndK_d (fun hc => ?_) (fun hc => ?_) | with_reducible refine grdK_d (fun hc => ?_) (fun hc => ?_) | with_reducible refine cndK_i (fun hc => ?_) (fun hc => ?_) | with_reducible refine grdK_i (fun hc => ?_) (fun hc => ?_))
              exact g.h _ rfl rfl
          · obtain ⟨hb1, hb2⟩ := hB hd2 hd3 hd4
            have h97 : (97 : Int) ≤ ((low b).toNat : Int) := by omega
            have h122 : ((low b).toNat : Int) ≤ 122 := by omega
            by_cases h48 : (48 : Int) ≤ (b.toNat : Int)
            · have h57 : ¬ (b.toNat : Int) ≤ 57 := by omega
              clear hd4
              cases h95 : ((b.toNat : Int) == 95)
              all_goals
                repeat' (first | simp -implicitDefEqProofs only [W_skip, W_reg, W_seq, W_rcond, W_cond, W_block, W_loop, W_exit, W_ret, thenQ_normal, thenQ_exit, thenQ_ret, blockQ_normal, blockQ_ret, blockQ_here, regQ_app, rcQ_app, cndK_t, cndK_f, RegW_nil, RegW_none, RegW_some, contW_app, grdK_tt, grdK_ff, grdK_tf, grdK_ft, grdK_undef, actK_p, actK_r, actK_a, actK_w, actK_call, actK_callV, heapK_app, allocK_app, writeK_app, ret1_ret, ret1_normal, ret0_ret, ret0_normal, ret2_ret2, thenK_app, retcv_ret, retcvK_app, optW_some, evs, Arg.ev, aP, aR, aA, aW, pMov, pBin, pUn, pConv, pPick, pFieldAddr, pNilCheck, pExtract, aBin, aUn, aInt, aNew, partL_f, upd, List.getElem?_cons_zero, List.getElem?_cons_succ, List.getD_cons_zero, List.getD_cons_succ, List.set_cons_zero, List.set_cons_succ, Nat.zero_add, Nat.add_zero, List.getElem?_toArray, List.take_zero, List.drop_zero, List.take_succ_cons, List.drop_succ_cons, if_true, if_false, decide_true, decide_false, Bool.false_eq_true, Bool.true_eq_false, Bool.not_true, Bool.not_false, not_true_eq_false, not_false_eq_true, ge_iff_le, gt_iff_lt, beq_self_eq_true, bne_self_eq_false, and_self, and_true, true_and, Option.isSome_some, Heap.get_alloc_same, Heap.alloc_getE, pIface, *] | with_reducible refine cndK_d (fun hc => ?_) (fun hc => ?_) | with_reducible refine grdK_d (fun hc => ?_) (fun hc => ?_) | with_reducible refine cndK_i (fun hc => ?_) (fun hc => ?_) | with_reducible refine grdK_i (fun hc => ?_) (fun hc => ?_))
                refine lower_c b _ _ ?_
                repeat' (first | simp -implicitDefEqProofs only [W_skip, W_reg, W_seq, W_rcond, W_cond, W_block, W_loop, W_exit, W_ret, thenQ_normal, thenQ_exit, thenQ_ret, blockQ_normal, blockQ_ret, blockQ_here, regQ_app, rcQ_app, cndK_t, cndK_f, RegW_nil, RegW_none, RegW_some, contW_app, grdK_tt, grdK_ff, grdK_tf, grdK_ft, grdK_undef, actK_p, actK_r, actK_a, actK_w, actK_call, actK_callV, heapK_app, allocK_app, writeK_app, ret1_ret, ret1_normal, ret0_ret, ret0_normal, ret2_ret2, thenK_app, retcv_ret, retcvK_app, optW_some, evs, Arg.ev, aP, aR, aA, aW, pMov, pBin, pUn, pConv, pPick, pFieldAddr, pNilCheck, pExtract, aBin, aUn, aInt, aNew, partL_f, upd, List.getElem?_cons_zero, List.getElem?_cons_succ, List.getD_cons_zero, List.getD_cons_succ, List.set_cons_zero, List.set_cons_succ, Nat.zero_add, Nat.add_zero, List.getElem?_toArray, List.take_zero, List.drop_zero, List.take_succ_cons, List.drop_succ_cons, if_true, if_false, decide_true, decide_false, Bool.false_eq_true, Bool.true_eq_false, Bool.not_true, Bool.not_false, not_true_eq_false, not_false_eq_true, ge_iff_le, gt_iff_lt, beq_self_eq_true, bne_self_eq_false, and_self, and_true, true_and, Option.isSome_some, Heap.get_alloc_same, Heap.alloc_getE, pIface, *] | with_reducible refine cndK_d (fun hc => ?_) (fun hc => ?_) | with_reducible refine grdK_d (fun hc => ?_) (fun hc => ?_) | with_reducible refine cndK_i (fun hc => ?_) (fun hc => ?_) | with_reducible refine grdK_i (fun hc => ?_) (fun hc => ?_))
                refine lower_c b _ _ ?_
                repeat' (first | simp -implicitDefEqProofs only [W_skip, W_reg, W_seq, W_rcond, W_cond, W_block, W_loop, W_exit, W_ret, thenQ_normal, thenQ_exit, thenQ_ret, blockQ_normal, blockQ_ret, blockQ_here, regQ_app, rcQ_app, cndK_t, cndK_f, RegW_nil, RegW_none, RegW_some, contW_app, grdK_tt, grdK_ff, grdK_tf, grdK_ft, grdK_undef, actK_p, actK_r, actK_a, actK_w, actK_call, actK_callV, heapK_app, allocK_app, writeK_app, ret1_ret, ret1_normal, ret0_ret, ret0_normal, ret2_ret2, thenK_app, retcv_ret, retcvK_app, optW_some, evs, Arg.ev, aP, aR, aA, aW, pMov, pBin, pUn, pConv, pPick, pFieldAddr, pNilCheck, pExtract, aBin, aUn, aInt, aNew, partL_f, upd, List.getElem?_cons_zero, List.getElem?_cons_succ, List.getD_cons_zero, List.getD_cons_succ, List.set_cons_zero, List.set_cons_succ, Nat.zero_add, Nat.add_zero, List.getElem?_toArray, List.take_zero, List.drop_zero, List.take_succ_cons, List.drop_succ_cons, if_true, if_false, decide_true, decide_false, Bool.false_eq_true, Bool.true_eq_false, Bool.not_true, Bool.not_false, not_true_eq_false, not_false_eq_true, ge_iff_le, gt_iff_lt, beq_self_eq_true, bne_self_eq_false, and_self, and_true, true_and, Option.isSome_some, Heap.get_alloc_same, Heap.alloc_getE, pIface, *] | with_reducible refine cndK_d (fun hc => ?_) (fun hc => ?_) | with_reducible refine grdK_d (fun hc => ?_) (fun hc => ?_) | with_reducible refine cndK_i (fun hc => ?_) (fun hc => ?_) | with_reducible refine grdK_i (fun hc => ?_) (fun hc => ?_))
                refine lower_c b _ _ ?_
                repeat' (first | simp -implicitDefEqProofs only [W_skip, W_reg, W_seq, W_rcond, W_cond, W_block, W_loop, W_exit, W_ret, thenQ_normal, thenQ_exit, thenQ_ret, blockQ_normal, blockQ_ret, blockQ_here, regQ_app, rcQ_app, cndK_t, cndK_f, RegW_nil, RegW_none, RegW_some, contW_app, grdK_tt, grdK_ff, grdK_tf, grdK_ft, grdK_undef, actK_p, actK_r, actK_a, actK_w, actK_call, actK_callV, heapK_app, allocK_app, writeK_app, ret1_ret, ret1_normal, ret0_ret, ret0_normal, ret2_ret2, thenK_app, retcv_ret, retcvK_app, optW_some, evs, Arg.ev, aP, aR, aA, aW, pMov, pBin, pUn, pConv, pPick, pFieldAddr, pNilCheck, pExtract, aBin, aUn, aInt, aNew, partL_f, upd, List.getElem?_cons_zero, List.getElem?_cons_succ, List.getD_cons_zero, List.getD_cons_succ, List.set_cons_zero, List.set_cons_succ, Nat.zero_add, Nat.add_zero, List.getElem?_toArray, List.take_zero, List.drop_zero, List.take_succ_cons, List.drop_succ_cons, if_true, if_false, decide_true, decide_false, Bool.false_eq_true, Bool.true_eq_false, Bool.not_true, Bool.not_false, not_true_eq_false, not_false_eq_true, ge_iff_le, gt_iff_lt, beq_self_eq_true, bne_self_eq_false, and_self, and_true, true_and, Option.isSome_some, Heap.get_alloc_same, Heap.alloc_getE, pIface, *] | with_reducible refine cndK_d (fun hc => ?_) (fun hc => ?_) | with_reducible refine grdK_d (fun hc => ?_) (fun hc => ?_) | with_reducible refine cndK_i (fun hc => ?_) (fun hc => ?_) | with_reducible refine grdK_i (fun hc => ?_) (fun hc => ?_))
                exact g.h _ rfl rfl
            · clear hd4
              cases h95 : ((b.toNat : Int) == 95)
              all_goals
                repeat' (first | simp -implicitDefEqProofs only [W_skip, W_reg, W_seq, W_rcond, W_cond, W_block, W_loop, W_exit, W_ret, thenQ_normal, thenQ_exit, thenQ_ret, blockQ_normal, blockQ_ret, blockQ_here, regQ_app, rcQ_app, cndK_t, cndK_f, RegW_nil, RegW_none, RegW_some, contW_app, grdK_tt, grdK_ff, grdK_tf, grdK_ft, grdK_undef, actK_p, actK_r, actK_a, actK_w, actK_call, actK_callV, heapK_app, allocK_app, writeK_app, ret1_ret, ret1_normal, ret0_ret, ret0_normal, ret2_ret2, thenK_app, retcv_ret, retcvK_app, optW_some, evs, Arg.ev, aP, aR, aA, aW, pMov, pBin, pUn, pConv, pPick, pFieldAddr, pNilCheck, pExtract, aBin, aUn, aInt, aNew, partL_f, upd, List.getElem?_cons_zero, List.getElem?_cons_succ, List.getD_cons_zero, List.getD_cons_succ, List.set_cons_zero, List.set_cons_succ, Nat.zero_add, Nat.add_zero, List.getElem?_toArray, List.take_zero, List.drop_zero, List.take_succ_cons, List.drop_succ_cons, if_true, if_false, decide_true, decide_false, Bool.false_eq_true, Bool.true_eq_false, Bool.not_true, Bool.not_false, not_true_eq_false, not_false_eq_true, ge_iff_le, gt_iff_lt, beq_self_eq_true, bne_self_eq_false, and_self, and_true, true_and, Option.isSome_some, Heap.get_alloc_same, Heap.alloc_getE, pIface, *] | with_reducible refine cndK_d (fun hc => ?_) (fun hc => ?_) | with_reducible refine grdK_d (fun hc => ?_) (fun hc => ?_) | with_reducible refine cndK_i (fun hc => ?_) (fun hc => ?_) | with_reducible refine grdK_i (fun hc => ?_) (fun hc => ?_))
                refine lower_c b _ _ ?_
                repeat' (first | simp -implicitDefEqProofs only [W_skip, W_reg, W_seq, W_rcond, W_cond, W_block, W_loop, W_exit, W_ret, thenQ_normal, thenQ_exit, thenQ_ret, blockQ_normal, blockQ_ret, blockQ_here, regQ_app, rcQ_app, cndK_t, cndK_f, RegW_nil, RegW_none, RegW_some, contW_app, grdK_tt, grdK_ff, grdK_tf, grdK_ft, grdK_undef, actK_p, actK_r, actK_a, actK_w, actK_call, actK_callV, heapK_app, allocK_app, writeK_app, ret1_ret, ret1_normal, ret0_ret, ret0_normal, ret2_ret2, thenK_app, retcv_ret, retcvK_app, optW_some, evs, Arg.ev, aP, aR, aA, aW, pMov, pBin, pUn, pConv, pPick, pFieldAddr, pNilCheck, pExtract, aBin, aUn, aInt, aNew, partL_f, upd, List.getElem?_cons_zero, List.getElem?_cons_succ, List.getD_cons_zero, List.getD_cons_succ, List.set_cons_zero, List.set_cons_succ, Nat.zero_add, Nat.add_zero, List.getElem?_toArray, List.take_zero, List.drop_zero, List.take_succ_cons, List.drop_succ_cons, if_true, if_false, decide_true, decide_false, Bool.false_eq_true, Bool.true_eq_false, Bool.not_true, Bool.not_false, not_true_eq_false, not_false_eq_true, ge_iff_le, gt_iff_lt, beq_self_eq_true, bne_self_eq_false, and_self, and_true, true_and, Option.isSome_some, Heap.get_alloc_same, Heap.alloc_getE, pIface, *] | with_reducible refine cndK_d (fun hc => ?_) (fun hc => ?_) | with_reducible refine grdK_d (fun hc => ?_) (fun hc => ?_) | with_reducible refine cndK_i (fun hc => ?_) (fun hc => ?_) | with_reducible refine grdK_i (fun hc => ?_) (fun hc => ?_))
                refine lower_c b _ _ ?_
                repeat' (first | simp -implicitDefEqProofs only [W_skip, W_reg, W_seq, W_rcond, W_cond, W_block, W_loop, W_exit, W_ret, thenQ_normal, thenQ_exit, thenQ_ret, blockQ_normal, blockQ_ret, blockQ_here, regQ_app, rcQ_app, cndK_t, cndK_f, RegW_nil, RegW_none, RegW_some, contW_app, grdK_tt, grdK_ff, grdK_tf, grdK_ft, grdK_undef, actK_p, actK_r, actK_a, actK_w, actK_call, actK_callV, heapK_app, allocK_app, writeK_app, ret1_ret, ret1_normal, ret0_ret, ret0_normal, ret2_ret2, thenK_app, retcv_ret, retcvK_app, optW_some, evs, Arg.ev, aP, aR, aA, aW, pMov, pBin, pUn, pConv, pPick, pFieldAddr, pNilCheck, pExtract, aBin, aUn, aInt, aNew, partL_f, upd, List.getElem?_cons_zero, List.getElem?_cons_succ, List.getD_cons_zero, List.getD_cons_succ, List.set_cons_zero, List.set_cons_succ, Nat.zero_add, Nat.add_zero, List.getElem?_toArray, List.take_zero, List.drop_zero, List.take_succ_cons, List.drop_succ_cons, if_true, if_false, decide_true, decide_false, Bool.false_eq_true, Bool.true_eq_false, Bool.not_true, Bool.not_false, not_true_eq_false, not_false_eq_true, ge_iff_le, gt_iff_lt, beq_self_eq_true, bne_self_eq_false, and_self, and_true, true_and, Option.isSome_some, Heap.get_alloc_same, Heap.alloc_getE, pIface, *] | with_reducible refine cndK_d (fun hc => ?_) (fun hc => ?_) | with_reducible refine grdK_d (fun hc => ?_) (fun hc => ?_) | with_reducible refine cndK_i (fun hc => ?_) (fun hc => ?_) | with_reducible refine grdK_i (fun hc => ?_) (fun hc => ?_))
                refine lower_c b _ _ ?_
                repeat' (first | simp -implicitDefEqProofs only [W_skip, W_reg, W_seq, W_rcond, W_cond, W_block, W_loop, W_exit, W_ret, thenQ_normal, thenQ_exit, thenQ_ret, blockQ_normal, blockQ_ret, blockQ_here, regQ_app, rcQ_app, cndK_t, cndK_f, RegW_nil, RegW_none, RegW_some, contW_app, grdK_tt, grdK_ff, grdK_tf, grdK_ft, grdK_undef, actK_p, actK_r, actK_a, actK_w, actK_call, actK_callV, heapK_app, allocK_app, writeK_app, ret1_ret, ret1_normal, ret0_ret, ret0_normal, ret2_ret2, thenK_app, retcv_ret, retcvK_app, optW_some, evs, Arg.ev, aP, aR, aA, aW, pMov, pBin, pUn, pConv, pPick, pFieldAddr, pNilCheck, pExtract, aBin, aUn, aInt, aNew, partL_f, upd, List.getElem?_cons_zero, List.getElem?_cons_succ, List.getD_cons_zero, List.getD_cons_succ, List.set_cons_zero, List.set_cons_succ, Nat.zero_add, Nat.add_zero, List.getElem?_toArray, List.take_zero, List.drop_zero, List.take_succ_cons, List.drop_succ_cons, if_true, if_false, decide_true, decide_false, Bool.false_eq_true, Bool.true_eq_false, Bool.not_true, Bool.not_false, not_true_eq_false, not_false_eq_true, ge_iff_le, gt_iff_lt, beq_self_eq_true, bne_self_eq_false, and_self, and_true, true_and, Option.isSome_some, Heap.get_alloc_same, Heap.alloc_getE, pIface, *] | with_reducible refine cndK_d (fun hc => ?_) (fun hc => ?_) | with_reducible refine grdK_d (fun hc => ?_) (fun hc => ?_) | with_reducible refine cndK_i (fun hc => ?_) (fun hc => ?_) | with_reducible refine grdK_i (fun hc => ?_) (fun hc => ?_))
                exact g.h _ rfl rfl
        · have hgt' : ¬ (4294967295 : Int) < ((n * base + d : Nat) : Int) := by omega
          have g := g0.h hbd hgt
          replace g := Hid.mk g
          have hn' : n * base + d ≤ 4294967295 := by omega
          rcases hd' with ⟨hd1, hd2, hd3⟩ | ⟨hd1, hd2, hd3, hd4⟩
          · have ha := hA hd1 hd2 hd3
            have h48 : (48 : Int) ≤ (b.toNat : Int) := by omega
            have h57 : (b.toNat : Int) ≤ 57 := by omega
            clear hd3
            cases h95 : ((b.toNat : Int) == 95)
            all_goals
              repeat' (first | simp -implicitDefEqProofs only [W_skip, W_reg, W_seq, W_rcond, W_cond, W_block, W_loop, W_exit, W_ret, thenQ_normal, thenQ_exit, thenQ_ret, blockQ_normal, blockQ_ret, blockQ_here, regQ_app, rcQ_app, cndK_t, cndK_f, RegW_nil, RegW_none, RegW_some, contW_app, grdK_tt, grdK_ff, grdK_tf, grdK_ft, grdK_undef, actK_p, actK_r, actK_a, actK_w, actK_call, actK_callV, heapK_app, allocK_app, writeK_app, ret1_ret, ret1_normal, ret0_ret, ret0_normal, ret2_ret2, thenK_app, retcv_ret, retcvK_app, optW_some, evs, Arg.ev, aP, aR, aA, aW, pMov, pBin, pUn, pConv, pPick, pFieldAddr, pNilCheck, pExtract, aBin, aUn, aInt, aNew, partL_f, upd, List.getElem?_cons_zero, List.getElem?_cons_succ, List.getD_cons_zero, List.getD_cons_succ, List.set_cons_zero, List.set_cons_succ, Nat.zero_add, Nat.add_zero, List.getElem?_toArray, List.take_zero, List.drop_zero, List.take_succ_cons, List.drop_succ_cons, if_true, if_false, decide_true, decide_false, Bool.false_eq_true, Bool.true_eq_false, Bool.not_true, Bool.not_false, not_true_eq_false, not_false_eq_true, ge_iff_le, gt_iff_lt, beq_self_eq_true, bne_self_eq_false, and_self, and_true, true_and, Option.isSome_some, Heap.get_alloc_same, Heap.alloc_getE, pIface, *] | with_reducible refine cndK_d (fun hc => ?_) (fun hc => ?_) | with_reducible refine grdK_d (fun hc => ?_) (fun hc => ?_) | with_reducible refine cndK_i (fun hc => ?_) (fun hc => ?_) | with_reducible refine grdK_i (fun hc => ?_) (fun hc => ?_))
              exact hR.h _ _ hlt ⟨hl1, _, hn', g.h, _, _, _, _, rfl⟩
          · obtain ⟨hb1, hb2⟩ := hB hd2 hd3 hd4
            have h97 : (97 : Int) ≤ ((low b).toNat : Int) := by omega
            have h122 : ((low b).toNat : Int) ≤ 122 := by omega
            by_cases h48 : (48 : Int) ≤ (b.toNat : Int)
            · have h57 : ¬ (b.toNat : Int) ≤ 57 := by omega
              clear hd4
              cases h95 : ((b.toNat : Int) == 95)
              all_goals
                repeat' (first | simp -implicitDefEqProofs only [W_skip, W_reg, W_seq, W_rcond, W_cond, W_block, W_loop, W_exit, W_ret, thenQ_normal, thenQ_exit, thenQ_ret, blockQ_normal, blockQ_ret, blockQ_here, regQ_app, rcQ_app, cndK_t, cndK_f, RegW_nil, RegW_none, RegW_some, contW_app, grdK_tt, grdK_ff, grdK_tf, grdK_ft, grdK_undef, actK_p, actK_r, actK_a, actK_w, actK_call, actK_callV, heapK_app, allocK_app, writeK_app, ret1_ret, ret1_normal, ret0_ret, ret0_normal, ret2_ret2, thenK_app, retcv_ret, retcvK_app, optW_some, evs, Arg.ev, aP, aR, aA, aW, pMov, pBin, pUn, pConv, pPick, pFieldAddr, pNilCheck, pExtract, aBin, aUn, aInt, aNew, partL_f, upd, List.getElem?_cons_zero, List.getElem?_cons_succ, List.getD_cons_zero, List.getD_cons_succ, List.set_cons_zero, List.set_cons_succ, Nat.zero_add, Nat.add_zero, List.getElem?_toArray, List.take_zero, List.drop_zero, List.take_succ_cons, List.drop_succ_cons, if_true, if_false, decide_true, decide_false, Bool.false_eq_true, Bool.true_eq_false, Bool.not_true, Bool.not_false, not_true_eq_false, not_false_eq_true, ge_iff_le, gt_iff_lt, beq_self_eq_true, bne_self_eq_false, and_self, and_true, true_and, Option.isSome_some, Heap.get_alloc_same, Heap.alloc_getE, pIface, *] | with_reducible refine cndK_d (fun hc => ?_) (fun hc => ?_) | with_reducible refine grdK_d (fun hc => ?_) (fun hc => ?_) | with_reducible refine cndK_i (fun hc => ?_) (fun hc => ?_) | with_reducible refine grdK_i (fun hc => ?_) (fun hc => ?_))
                refine lower_c b _ _ ?_
                repeat' (first | simp -implicitDefEqProofs only [W_skip, W_reg, W_seq, W_rcond, W_cond, W_block, W_loop, W_exit, W_ret, thenQ_normal, thenQ_exit, thenQ_ret, blockQ_normal, blockQ_ret, blockQ_here, regQ_app, rcQ_app, cndK_t, cndK_f, RegW_nil, RegW_none, RegW_some, contW_app, grdK_tt, grdK_ff, grdK_tf, grdK_ft, grdK_undef, actK_p, actK_r, actK_a, actK_w, actK_call, actK_callV, heapK_app, allocK_app, writeK_app, ret1_ret, ret1_normal, ret0_ret, ret0_normal, ret2_ret2, thenK_app, retcv_ret, retcvK_app, optW_some, evs, Arg.ev, aP, aR, aA, aW, pMov, pBin, pUn, pConv, pPick, pFieldAddr, pNilCheck, pExtract, aBin, aUn, aInt, aNew, partL_f, upd, List.getElem?_cons_zero, List.getElem?_cons_succ, List.getD_cons_zero, List.getD_cons_succ, List.set_cons_zero, List.set_cons_succ, Nat.zero_add, Nat.add_zero, List.getElem?_toArray, List.take_zero, List.drop_zero, List.take_succ_cons, List.drop_succ_cons, if_true, if_false, decide_true, decide_false, Bool.false_eq_true, Bool.true_eq_false, Bool.not_true, Bool.not_false, not_true_eq_false, not_false_eq_true, ge_iff_le, gt_iff_lt, beq_self_eq_true, bne_self_eq_false, and_self, and_true, true_and, Option.isSome_some, Heap.get_alloc_same, Heap.alloc_getE, pIface, *] | with_reducible refine cndK_d (fun hc => ?_) (fun hc => ?_) | with_reducible refine grdK_d (fun hc => ?_) (fun hc => ?_) | with_reducible refine cndK_i (fun hc => ?_) (fun hc => ?_) | with_reducible refine grdK_i (fun hc => ?_) (fun hc => ?_))
                refine lower_c b _ _ ?_
                repeat' (first | simp -implicitDefEqProofs only [W_skip, W_reg, W_seq, W_rcond, W_cond, W_block, W_loop, W_exit, W_ret, thenQ_normal, thenQ_exit, thenQ_ret, blockQ_normal, blockQ_ret, blockQ_here, regQ_app, rcQ_app, cndK_t, cndK_f, RegW_nil, RegW_none, RegW_some, contW_app, grdK_tt, grdK_ff, grdK_tf, grdK_ft, grdK_undef, actK_p, actK_r, actK_a, actK_w, actK_call, actK_callV, heapK_app, allocK_app, writeK_app, ret1_ret, ret1_normal, ret0_ret, ret0_normal, ret2_ret2, thenK_app, retcv_ret, retcvK_app, optW_some, evs, Arg.ev, aP, aR, aA, aW, pMov, pBin, pUn, pConv, pPick, pFieldAddr, pNilCheck, pExtract, aBin, aUn, aInt, aNew, partL_f, upd, List.getElem?_cons_zero, List.getElem?_cons_succ, List.getD_cons_zero, List.getD_cons_succ, List.set_cons_zero, List.set_cons_succ, Nat.zero_add, Nat.add_zero, List.getElem?_toArray, List.take_zero, List.drop_zero, List.take_succ_cons, List.drop_succ_cons, if_true, if_false, decide_true, decide_false, Bool.false_eq_true, Bool.true_eq_false, Bool.not_true, Bool.not_false, not_true_eq_false, not_false_eq_true, ge_iff_le, gt_iff_lt, beq_self_eq_true, bne_self_eq_false, and_self, and_true, true_and, Option.isSome_some, Heap.get_alloc_same, Heap.alloc_getE, pIface, *] | with_reducible refine cndK_d (fun hc => ?_) (fun hc => ?_) | with_reducible refine grdK_d (fun hc => ?_) (fun hc => ?_) | with_reducible refine cndK_i (fun hc => ?_) (fun hc => ?_) | with_reducible refine grdK_i (fun hc => ?_) (fun hc => ?_))
                refine lower_c b _ _ ?_
                repeat' (first | simp -implicitDefEqProofs only [W_skip, W_reg, W_seq, W_rcond, W_cond, W_block, W_loop, W_exit, W_ret, thenQ_normal, thenQ_exit, thenQ_ret, blockQ_normal, blockQ_ret, blockQ_here, regQ_app, rcQ_app, cndK_t, cndK_f, RegW_nil, RegW_none, RegW_some, contW_app, grdK_tt, grdK_ff, grdK_tf, grdK_ft, grdK_undef, actK_p, actK_r, actK_a, actK_w, actK_call, actK_callV, heapK_app, allocK_app, writeK_app, ret1_ret, ret1_normal, ret0_ret, ret0_normal, ret2_ret2, thenK_app, retcv_ret, retcvK_app, optW_some, evs, Arg.ev, aP, aR, aA, aW, pMov, pBin, pUn, pConv, pPick, pFieldAddr, pNilCheck, pExtract, aBin, aUn, aInt, aNew, partL_f, upd, List.getElem?_cons_zero, List.getElem?_cons_succ, List.getD_cons_zero, List.getD_cons_succ, List.set_cons_zero, List.set_cons_succ, Nat.zero_add, Nat.add_zero, List.getElem?_toArray, List.take_zero, List.drop_zero, List.take_succ_cons, List.drop_succ_cons, if_true, if_false, decide_true, decide_false, Bool.false_eq_true, Bool.true_eq_false, Bool.not_true, Bool.not_false, not_true_eq_false, not_false_eq_true, ge_iff_le, gt_iff_lt, beq_self_eq_true, bne_self_eq_false, and_self, and_true, true_and, Option.isSome_some, Heap.get_alloc_same, Heap.alloc_getE, pIface, *] | with_reducible refine cndK_d (fun hc => ?_) (fun hc => ?_) | with_reducible refine grdK_d (fun hc => ?_) (fun hc => ?_) | with_reducible refine cndK_i (fun hc => ?_) (fun hc => ?_) | with_reducible refine grdK_i (fun hc => ?_) (fun hc => ?_))
                exact hR.h _ _ hlt ⟨hl1, _, hn', g.h, _, _, _, _, rfl⟩
            · clear hd4
              cases h95 : ((b.toNat : Int) == 95)
              all_goals
                repeat' (first | simp -implicitDefEqProofs only [W_skip, W_reg, W_seq, W_rcond, W_cond, W_block, W_loop, W_exit, W_ret, thenQ_normal, thenQ_exit, thenQ_ret, blockQ_normal, blockQ_ret, blockQ_here, regQ_app, rcQ_app, cndK_t, cndK_f, RegW_nil, RegW_none, RegW_some, contW_app, grdK_tt, grdK_ff, grdK_tf, grdK_ft, grdK_undef, actK_p, actK_r, actK_a, actK_w, actK_call, actK_callV, heapK_app, allocK_app, writeK_app, ret1_ret, ret1_normal, ret0_ret, ret0_normal, ret2_ret2, thenK_app, retcv_ret, retcvK_app, optW_some, evs, Arg.ev, aP, aR, aA, aW, pMov, pBin, pUn, pConv, pPick, pFieldAddr, pNilCheck, pExtract, aBin, aUn, aInt, aNew, partL_f, upd, List.getElem?_cons_zero, List.getElem?_cons_succ, List.getD_cons_zero, List.getD_cons_succ, List.set_cons_zero, List.set_cons_succ, Nat.zero_add, Nat.add_zero, List.getElem?_toArray, List.take_zero, List.drop_zero, List.take_succ_cons, List.drop_succ_cons, if_true, if_false, decide_true, decide_false, Bool.false_eq_true, Bool.true_eq_false, Bool.not_true, Bool.not_false, not_true_eq_false, not_false_eq_true, ge_iff_le, gt_iff_lt, beq_self_eq_true, bne_self_eq_false, and_self, and_true, true_and, Option.isSome_some, Heap.get_alloc_same, Heap.alloc_getE, pIface, *] | with_reducible refine cndK_d (fun hc => ?_) (fun hc => ?_) | with_reducible refine grdK_d (fun hc => ?_) (fun hc => ?_) | with_reducible refine cndK_i (fun hc => ?_) (fun hc => ?_) | with_reducible refine grdK_i (fun hc => ?_) (fun hc => ?_))
                refine lower_c b _ _ ?_
                repeat' (first | simp -implicitDefEqProofs only [W_skip, W_reg, W_seq, W_rcond, W_cond, W_block, W_loop, W_exit, W_ret, thenQ_normal, thenQ_exit, thenQ_ret, blockQ_normal, blockQ_ret, blockQ_here, regQ_app, rcQ_app, cndK_t, cndK_f, RegW_nil, RegW_none, RegW_some, contW_app, grdK_tt, grdK_ff, grdK_tf, grdK_ft, grdK_undef, actK_p, actK_r, actK_a, actK_w, actK_call, actK_callV, heapK_app, allocK_app, writeK_app, ret1_ret, ret1_normal, ret0_ret, ret0_normal, ret2_ret2, thenK_app, retcv_ret, retcvK_app, optW_some, evs, Arg.ev, aP, aR, aA, aW, pMov, pBin, pUn, pConv, pPick, pFieldAddr, pNilCheck, pExtract, aBin, aUn, aInt, aNew, partL_f, upd, List.getElem?_cons_zero, List.getElem?_cons_succ, List.getD_cons_zero, List.getD_cons_succ, List.set_cons_zero, List.set_cons_succ, Nat.zero_add, Nat.add_zero, List.getElem?_toArray, List.take_zero, List.drop_zero, List.take_succ_cons, List.drop_succ_cons, if_true, if_false, decide_true, decide_false, Bool.false_eq_true, Bool.true_eq_false, Bool.not_true, Bool.not_false, not_true_eq_false, not_false_eq_true, ge_iff_le, gt_iff_lt, beq_self_eq_true, bne_self_eq_false, and_self, and_true, true_and, Option.isSome_some, Heap.get_alloc_same, Heap.alloc_getE, pIface, *] | with_reducible refine cndK_d (fun hc => ?_) (fun hc => ?_) | with_reducible refine grdK_d (fun hc => ?_) (fun hc => ?_) | with_reducible refine cndK_i (fun hc => ?_) (fun hc => ?_) | with_reducible refine grdK_i (fun hc => ?_) (fun hc => ?_))
                refine lower_c b _ _ ?_
                repeat' (first | simp -implicitDefEqProofs only [W_skip, W_reg, W_seq, W_rcond, W_cond, W_block, W_loop, W_exit, W_ret, thenQ_normal, thenQ_exit, thenQ_ret, blockQ_normal, blockQ_ret, blockQ_here, regQ_app, rcQ_app, cndK_t, cndK_f, RegW_nil, RegW_none, RegW_some, contW_app, grdK_tt, grdK_ff, grdK_tf, grdK_ft, grdK_undef, actK_p, actK_r, actK_a, actK_w, actK_call, actK_callV, heapK_app, allocK_app, writeK_app, ret1_ret, ret1_normal, ret0_ret, ret0_normal, ret2_ret2, thenK_app, retcv_ret, retcvK_app, optW_some, evs, Arg.ev, aP, aR, aA, aW, pMov, pBin, pUn, pConv, pPick, pFieldAddr, pNilCheck, pExtract, aBin, aUn, aInt, aNew, partL_f, upd, List.getElem?_cons_zero, List.getElem?_cons_succ, List.getD_cons_zero, List.getD_cons_succ, List.set_cons_zero, List.set_cons_succ, Nat.zero_add, Nat.add_zero, List.getElem?_toArray, List.take_zero, List.drop_zero, List.take_succ_cons, List.drop_succ_cons, if_true, if_false, decide_true, decide_false, Bool.false_eq_true, Bool.true_eq_false, Bool.not_true, Bool.not_false, not_true_eq_false, not_false_eq_true, ge_iff_le, gt_iff_lt, beq_self_eq_true, bne_self_eq_false, and_self, and_true, true_and, Option.isSome_some, Heap.get_alloc_same, Heap.alloc_getE, pIface, *] | with_reducible refine cndK_d (fun hc => ?_) (fun hc => ?_) | with_reducible refine grdK_d (fun hc => ?_) (fun hc => ?_) | with_reducible refine cndK_i (fun hc => ?_) (fun hc => ?_) | with_reducible refine grdK_i (fun hc => ?_) (fun hc => ?_))
                refine lower_c b _ _ ?_
                repeat' (first | simp -implicitDefEqProofs only [W_skip, W_reg, W_seq, W_rcond, W_cond, W_block, W_loop, W_exit, W_ret, thenQ_normal, thenQ_exit, thenQ_ret, blockQ_normal, blockQ_ret, blockQ_here, regQ_app, rcQ_app, cndK_t, cndK_f, RegW_nil, RegW_none, RegW_some, contW_app, grdK_tt, grdK_ff, grdK_tf, grdK_ft, grdK_undef, actK_p, actK_r, actK_a, actK_w, actK_call, actK_callV, heapK_app, allocK_app, writeK_app, ret1_ret, ret1_normal, ret0_ret, ret0_normal, ret2_ret2, thenK_app, retcv_ret, retcvK_app, optW_some, evs, Arg.ev, aP, aR, aA, aW, pMov, pBin, pUn, pConv, pPick, pFieldAddr, pNilCheck, pExtract, aBin, aUn, aInt, aNew, partL_f, upd, List.getElem?_cons_zero, List.getElem?_cons_succ, List.getD_cons_zero, List.getD_cons_succ, List.set_cons_zero, List.set_cons_succ, Nat.zero_add, Nat.add_zero, List.getElem?_toArray, List.take_zero, List.drop_zero, List.take_succ_cons, List.drop_succ_cons, if_true, if_false, decide_true, decide_false, Bool.false_eq_true, Bool.true_eq_false, Bool.not_true, Bool.not_false, not_true_eq_false, not_false_eq_true, ge_iff_le, gt_iff_lt, beq_self_eq_true, bne_self_eq_false, and_self, and_true, true_and, Option.isSome_some, Heap.get_alloc_same, Heap.alloc_getE, pIface, *] | with_reducible refine cndK_d (fun hc => ?_) (fun hc => ?_) | with_reducible refine grdK_d (fun hc => ?_) (fun hc => ?_) | with_reducible refine cndK_i (fun hc => ?_) (fun hc => ?_) | with_reducible refine grdK_i (fun hc => ?_) (fun hc => ?_))
                exact hR.h _ _ hlt ⟨hl1, _, hn', g.h, _, _, _, _, rfl⟩
end Go.Eng.Tk

set_option linter.unusedSimpArgs false
set_option linter.unusedVariables false
namespace Go.Eng.Tk
open Go Go.Eng Go.Proofs

theorem isNil3i (t : TypeId) (v : Value) (neg : Bool) : pNil 3 neg [.iface t v] = some (.bool (if neg then !false else false)) := by simp [pNil, aNil]
theorem isNil3n (neg : Bool) : pNil 3 neg [.nilIface] = some (.bool (if neg then !true else true)) := by simp [pNil, aNil]
theorem extract0 (a b : Value) : pExtract 0 [.tuple #[a, b]] = some a := rfl
theorem extract1 (a b : Value) : pExtract 1 [.tuple #[a, b]] = some b := rfl

theorem parse_c {base : Nat} (hb : base = 10 ∨ base = 16) {l : List UInt8} (hl : l.length ≤ 140737488355328) (h : Heap) (Q : Value → Heap → Prop) (hq : ParseQ base l h Q) : CallW Tryd.prog 49 [str l, .int .i64 base, .int .i64 32] h Q := by
  refine call_of2 (k := 3) (j := 4) ok49 rfl rfl rfl fun N => ?_
  rw [show env0 c49 [str l, .int .i64 base, .int .i64 32] = [str l, .int .i64 base, .int .i64 32, undef, undef, undef, undef, undef, undef, undef, undef, undef, undef, undef, undef, undef, undef, undef, undef] from rfl]
  delta c49 c49_r0 c49_r1 c49_r2 c49_r3 c49_r4 c49_r5 c49_r6 c49_r7 c49_r8 c49_r9 c49_r10 c49_r11 c49_r12 c49_r13 c49_r14 c49_r15 c49_r16 c49_r17 c49_r18 c49_r19 c49_r20 c49_r21 c49_r22 c49_r23 c49_r24 c49_r25 c49_r26 c49_r27 c49_r28 c49_r29 c49_r30 c49_r31 c49_r32 c49_r33 c49_r34 c49_r35 c49_r36 c49_r37 c49_r38 c49_r39 c49_r40 c49_r41 c49_r42 c49_r43 c49_r44 c49_r45 c49_r46 c49_r47 c49_r48 c49_r49 c49_r50 c49_r51 c49_r52 c49_r53 c49_r54 c49_r55 c49_r57 c49_r58 c49_r59
  replace hq := Hid.mk hq
  cases l with
  | nil =>
    have g := (hq.h h (Heap.le.refl h)).2 rfl 0 2 (.inr rfl)
    replace g := Hid.mk g
    repeat' (first | simp -implicitDefEqProofs only [W_skip, W_reg, W_seq, W_rcond, W_cond, W_block, W_loop, W_exit, W_ret, thenQ_normal, thenQ_exit, thenQ_ret, blockQ_normal, blockQ_ret, blockQ_here, regQ_app, rcQ_app, cndK_t, cndK_f, RegW_nil, RegW_none, RegW_some, contW_app, grdK_tt, grdK_ff, grdK_tf, grdK_ft, grdK_undef, actK_p, actK_r, actK_a, actK_w, actK_call, actK_callV, heapK_app, allocK_app, writeK_app, ret1_ret, ret1_normal, ret0_ret, ret0_normal, ret2_ret2, thenK_app, retcv_ret, retcvK_app, optW_some, evs, Arg.ev, aP, aR, aA, aW, pMov, pBin, pUn, pConv, pPick, pFieldAddr, pNilCheck, pExtract, aBin, aUn, aInt, aNew, partL_f, upd, List.getElem?_cons_zero, List.getElem?_cons_succ, List.getD_cons_zero, List.getD_cons_succ, List.set_cons_zero, List.set_cons_succ, Nat.zero_add, Nat.add_zero, List.getElem?_toArray, List.take_zero, List.drop_zero, List.take_succ_cons, List.drop_succ_cons, if_true, if_false, decide_true, decide_false, Bool.false_eq_true, Bool.true_eq_false, Bool.not_true, Bool.not_false, not_true_eq_false, not_false_eq_true, ge_iff_le, gt_iff_lt, beq_self_eq_true, bne_self_eq_false, and_self, and_true, true_and, Option.isSome_some, Heap.get_alloc_same, Heap.alloc_getE, eq_S, pIface, *] | with_reducible refine cndK_d (fun hc => ?_) (fun hc => ?_) | with_reducible refine grdK_d (fun hc => ?_) (fun hc => ?_) | with_reducible refine cndK_i (fun hc => ?_) (fun hc => ?_) | with_reducible refine grdK_i (fun hc => ?_) (fun hc => ?_))
    exact g.h
  | cons b r =>
    obtain ⟨l, hl'⟩ : ∃ l, b :: r = l := ⟨_, rfl⟩
    have hne : l ≠ [] := by rw [← hl']; simp
    have hne' : (l == []) = false := by rw [← hl']; rfl
    rw [hl'] at hq hl ⊢
    clear hl'
    have hb0 : ((base : Int) == 0) = false := by rcases hb with rfl | rfl <;> rfl
    have hb1 : (2 : Int) ≤ (base : Int) := by rcases hb with rfl | rfl <;> decide
    have hb2 : (base : Int) ≤ 36 := by rcases hb with rfl | rfl <;> decide
    obtain ⟨p, hpp⟩ : ∃ x, h.next = x := ⟨_, rfl⟩
    have sb := strBytes_e h l
    obtain ⟨h1, hh1⟩ : ∃ x, h.alloc (.blk (l.map fun b => .int .u8 b.toNat) false) = x := ⟨_, rfl⟩
    rw [hpp, hh1] at sb
    have gp : h1.get p = some (.blk (l.map fun b => .int .u8 b.toNat) false) := by rw [← hh1, ← hpp]; exact Heap.get_alloc_same _ _
    have l1 : h.le h1 := by rw [← hh1]; exact (Heap.le.refl _).alloc _
    replace hpp := Hid.mk hpp
    replace hh1 := Hid.mk hh1
    have fin : ∀ (cut : Int), 4294967296 ≤ cut → ∀ x3 x4 x11 x12 x13 x18, LoopW Tryd.prog N c49.vars c49_l56 [str l, .int .i64 base, .int .i64 32, x3, x4, .bool false, str l, .int .u64 cut, .int .u64 4294967295, .bool false, .int .u64 0, x11, x12, x13, .int .i64 base, .slice (some ⟨p, 0, none⟩) l.length 1, .int .i64 l.length, .int .i64 0, x18] h1
        (blockQ 3 (thenQ (W Tryd.prog N c49.vars (.seq (.rcond c49_r57 [] 0 (.seq (.reg c49_r58 [(3, 1), (4, 0)]) .ret) .skip) (.seq (.reg c49_r59 [(3, 1), (4, 0)]) .ret)) (ret2 3 4 Q)) (ret2 3 4 Q))) := by
      intro cut hcut x3 x4 x11 x12 x13 x18
      refine parse_loop hb hcut hl hne gp l1 hq.h ?_ ?_
      · rintro e h2 n hl2 hn ⟨x11, x12, x13, x18, rfl⟩
        have g := (hq.h h2 hl2).1 n hn
        replace g := Hid.mk g
        clear hq gp hn
        delta c49_r57 c49_r58 c49_r59
        repeat' (first | simp -implicitDefEqProofs only [W_skip, W_reg, W_seq, W_rcond, W_cond, W_block, W_loop, W_exit, W_ret, thenQ_normal, thenQ_exit, thenQ_ret, blockQ_normal, blockQ_ret, blockQ_here, regQ_app, rcQ_app, cndK_t, cndK_f, RegW_nil, RegW_none, RegW_some, contW_app, grdK_tt, grdK_ff, grdK_tf, grdK_ft, grdK_undef, actK_p, actK_r, actK_a, actK_w, actK_call, actK_callV, heapK_app, allocK_app, writeK_app, ret1_ret, ret1_normal, ret0_ret, ret0_normal, ret2_ret2, thenK_app, retcv_ret, retcvK_app, optW_some, evs, Arg.ev, aP, aR, aA, aW, pMov, pBin, pUn, pConv, pPick, pFieldAddr, pNilCheck, pExtract, aBin, aUn, aInt, aNew, partL_f, upd, List.getElem?_cons_zero, List.getElem?_cons_succ, List.getD_cons_zero, List.getD_cons_succ, List.set_cons_zero, List.set_cons_succ, Nat.zero_add, Nat.add_zero, List.getElem?_toArray, List.take_zero, List.drop_zero, List.take_succ_cons, List.drop_succ_cons, if_true, if_false, decide_true, decide_false, Bool.false_eq_true, Bool.true_eq_false, Bool.not_true, Bool.not_false, not_true_eq_false, not_false_eq_true, ge_iff_le, gt_iff_lt, beq_self_eq_true, bne_self_eq_false, and_self, and_true, true_and, Option.isSome_some, Heap.get_alloc_same, Heap.alloc_getE, *] | with_reducible refine cndK_d (fun hc => ?_) (fun hc => ?_) | with_reducible refine grdK_d (fun hc => ?_) (fun hc => ?_) | with_reducible refine cndK_i (fun hc => ?_) (fun hc => ?_) | with_reducible refine grdK_i (fun hc => ?_) (fun hc => ?_))
        exact g.h
      · intro e h2 x z hl2 hn hz e3 e4
        have g := (hq.h h2 hl2).2 hn x z hz
        replace g := Hid.mk g
        clear hq gp hn
        repeat' (first | simp -implicitDefEqProofs only [W_skip, W_reg, W_seq, W_rcond, W_cond, W_block, W_loop, W_exit, W_ret, thenQ_normal, thenQ_exit, thenQ_ret, blockQ_normal, blockQ_ret, blockQ_here, regQ_app, rcQ_app, cndK_t, cndK_f, RegW_nil, RegW_none, RegW_some, contW_app, grdK_tt, grdK_ff, grdK_tf, grdK_ft, grdK_undef, actK_p, actK_r, actK_a, actK_w, actK_call, actK_callV, heapK_app, allocK_app, writeK_app, ret1_ret, ret1_normal, ret0_ret, ret0_normal, ret2_ret2, thenK_app, retcv_ret, retcvK_app, optW_some, evs, Arg.ev, aP, aR, aA, aW, pMov, pBin, pUn, pConv, pPick, pFieldAddr, pNilCheck, pExtract, aBin, aUn, aInt, aNew, partL_f, upd, List.getElem?_cons_zero, List.getElem?_cons_succ, List.getD_cons_zero, List.getD_cons_succ, List.set_cons_zero, List.set_cons_succ, Nat.zero_add, Nat.add_zero, List.getElem?_toArray, List.take_zero, List.drop_zero, List.take_succ_cons, List.drop_succ_cons, if_true, if_false, decide_true, decide_false, Bool.false_eq_true, Bool.true_eq_false, Bool.not_true, Bool.not_false, not_true_eq_false, not_false_eq_true, ge_iff_le, gt_iff_lt, beq_self_eq_true, bne_self_eq_false, and_self, and_true, true_and, Option.isSome_some, Heap.get_alloc_same, Heap.alloc_getE, *] | with_reducible refine cndK_d (fun hc => ?_) (fun hc => ?_) | with_reducible refine grdK_d (fun hc => ?_) (fun hc => ?_) | with_reducible refine cndK_i (fun hc => ?_) (fun hc => ?_) | with_reducible refine grdK_i (fun hc => ?_) (fun hc => ?_))
        exact g.h
    delta c49 at fin
    simp only at fin
    replace fin := Hid.mk fin
    have w32 : IntKind.u64.wrap 32 = 32 := by rfl
    have n1 : ((32 : Int) == 0) = false := rfl
    have n2 : ¬ (32 : Int) < 0 := by decide
    have n3 : ¬ (64 : Int) < 32 := by decide
    clear hq
    cases h10 : ((base : Int) == 10) with
    | true =>
      repeat' (first | simp -implicitDefEqProofs only [W_skip, W_reg, W_seq, W_rcond, W_cond, W_block, W_loop, W_exit, W_ret, thenQ_normal, thenQ_exit, thenQ_ret, blockQ_normal, blockQ_ret, blockQ_here, regQ_app, rcQ_app, cndK_t, cndK_f, RegW_nil, RegW_none, RegW_some, contW_app, grdK_tt, grdK_ff, grdK_tf, grdK_ft, grdK_undef, actK_p, actK_r, actK_a, actK_w, actK_call, actK_callV, heapK_app, allocK_app, writeK_app, ret1_ret, ret1_normal, ret0_ret, ret0_normal, ret2_ret2, thenK_app, retcv_ret, retcvK_app, optW_some, evs, Arg.ev, aP, aR, aA, pMov, pBin, pUn, pConv, pPick, pFieldAddr, pNilCheck, pExtract, aBin, aUn, aInt, aNew, partL_f, upd, List.getElem?_cons_zero, List.getElem?_cons_succ, List.getD_cons_zero, List.getD_cons_succ, List.set_cons_zero, List.set_cons_succ, Nat.zero_add, Nat.add_zero, List.getElem?_toArray, List.take_zero, List.drop_zero, List.take_succ_cons, List.drop_succ_cons, if_true, if_false, decide_true, decide_false, Bool.false_eq_true, Bool.true_eq_false, Bool.not_true, Bool.not_false, not_true_eq_false, not_false_eq_true, ge_iff_le, gt_iff_lt, beq_self_eq_true, bne_self_eq_false, and_self, and_true, true_and, Option.isSome_some, Heap.get_alloc_same, Heap.alloc_getE, pLenS, eq_S, shl32, sub32, actK_wT, *] | with_reducible refine cndK_d (fun hc => ?_) (fun hc => ?_) | with_reducible refine grdK_d (fun hc => ?_) (fun hc => ?_) | with_reducible refine cndK_i (fun hc => ?_) (fun hc => ?_) | with_reducible refine grdK_i (fun hc => ?_) (fun hc => ?_))
      exact fin.h 1844674407370955162 (by decide) _ _ _ _ _ _
    | false =>
      have h16 : ((base : Int) == 16) = true := by
        rcases hb with rfl | rfl
        · cases h10
        · rfl
      repeat' (first | simp -implicitDefEqProofs only [W_skip, W_reg, W_seq, W_rcond, W_cond, W_block, W_loop, W_exit, W_ret, thenQ_normal, thenQ_exit, thenQ_ret, blockQ_normal, blockQ_ret, blockQ_here, regQ_app, rcQ_app, cndK_t, cndK_f, RegW_nil, RegW_none, RegW_some, contW_app, grdK_tt, grdK_ff, grdK_tf, grdK_ft, grdK_undef, actK_p, actK_r, actK_a, actK_w, actK_call, actK_callV, heapK_app, allocK_app, writeK_app, ret1_ret, ret1_normal, ret0_ret, ret0_normal, ret2_ret2, thenK_app, retcv_ret, retcvK_app, optW_some, evs, Arg.ev, aP, aR, aA, pMov, pBin, pUn, pConv, pPick, pFieldAddr, pNilCheck, pExtract, aBin, aUn, aInt, aNew, partL_f, upd, List.getElem?_cons_zero, List.getElem?_cons_succ, List.getD_cons_zero, List.getD_cons_succ, List.set_cons_zero, List.set_cons_succ, Nat.zero_add, Nat.add_zero, List.getElem?_toArray, List.take_zero, List.drop_zero, List.take_succ_cons, List.drop_succ_cons, if_true, if_false, decide_true, decide_false, Bool.false_eq_true, Bool.true_eq_false, Bool.not_true, Bool.not_false, not_true_eq_false, not_false_eq_true, ge_iff_le, gt_iff_lt, beq_self_eq_true, bne_self_eq_false, and_self, and_true, true_and, Option.isSome_some, Heap.get_alloc_same, Heap.alloc_getE, pLenS, eq_S, shl32, sub32, actK_wT, *] | with_reducible refine cndK_d (fun hc => ?_) (fun hc => ?_) | with_reducible refine grdK_d (fun hc => ?_) (fun hc => ?_) | with_reducible refine cndK_i (fun hc => ?_) (fun hc => ?_) | with_reducible refine grdK_i (fun hc => ?_) (fun hc => ?_))
      exact fin.h 1152921504606846976 (by decide) _ _ _ _ _ _
end Go.Eng.Tk

set_option linter.unusedSimpArgs false
set_option linter.unusedVariables false
namespace Go.Eng.Tk
open Go Go.Eng Go.Proofs

def NumQ (base : Nat) (l : List UInt8) (h : Heap) (Q : Value → Heap → Prop) : Prop :=
  ∀ h', h.le h' → (∀ n, parseU base l = some n → Q (.tuple #[.int .u64 n, .nilIface]) h') ∧ (parseU base l = none → ∀ (x : Int) (id : Nat), Q (.tuple #[.int .u64 x, .iface 94 (.pointer (some ⟨id, 0, none⟩))]) h')
theorem parseUint_c {base : Nat} (hb : base = 10 ∨ base = 16) {l : List UInt8} (hl : l.length ≤ 140737488355328) (h : Heap) (Q : Value → Heap → Prop) (hq : NumQ base l h Q) : CallW Tryd.prog 40 [str l, .int .i64 base, .int .i64 32] h Q := by
  refine call_of2 (k := 3) (j := 4) ok40 rfl rfl rfl fun N => ?_
  rw [show env0 c40 [str l, .int .i64 base, .int .i64 32] = [str l, .int .i64 base, .int .i64 32, undef, undef, undef, undef] from rfl]
  delta c40 c40_r0 c40_r1 c40_r2 c40_r3 c40_r4
  replace hq := Hid.mk hq
  repeat' (first | simp -implicitDefEqProofs only [W_skip, W_reg, W_seq, W_rcond, W_cond, W_block, W_loop, W_exit, W_ret, thenQ_normal, thenQ_exit, thenQ_ret, blockQ_normal, blockQ_ret, blockQ_here, regQ_app, rcQ_app, cndK_t, cndK_f, RegW_nil, RegW_none, RegW_some, contW_app, grdK_tt, grdK_ff, grdK_tf, grdK_ft, grdK_undef, actK_p, actK_r, actK_a, actK_w, actK_call, actK_callV, heapK_app, allocK_app, writeK_app, ret1_ret, ret1_normal, ret0_ret, ret0_normal, ret2_ret2, thenK_app, retcv_ret, retcvK_app, optW_some, evs, Arg.ev, aP, aR, aA, aW, pMov, pBin, pUn, pConv, pPick, pFieldAddr, pNilCheck, pExtract, aBin, aUn, aInt, aNew, partL_f, upd, List.getElem?_cons_zero, List.getElem?_cons_succ, List.getD_cons_zero, List.getD_cons_succ, List.set_cons_zero, List.set_cons_succ, Nat.zero_add, Nat.add_zero, List.getElem?_toArray, List.take_zero, List.drop_zero, List.take_succ_cons, List.drop_succ_cons, if_true, if_false, decide_true, decide_false, Bool.false_eq_true, Bool.true_eq_false, Bool.not_true, Bool.not_false, not_true_eq_false, not_false_eq_true, ge_iff_le, gt_iff_lt, beq_self_eq_true, bne_self_eq_false, and_self, and_true, true_and, Option.isSome_some, Heap.get_alloc_same, Heap.alloc_getE, *] | with_reducible refine cndK_d (fun hc => ?_) (fun hc => ?_) | with_reducible refine grdK_d (fun hc => ?_) (fun hc => ?_) | with_reducible refine cndK_i (fun hc => ?_) (fun hc => ?_) | with_reducible refine grdK_i (fun hc => ?_) (fun hc => ?_))
  refine parse_c hb hl h _ fun h1 l1 => ⟨fun n hn => ?_, fun hn x e he => ?_⟩
  · have g := (hq.h h1 l1).1 n hn
    replace g := Hid.mk g
    clear hq hn
    repeat' (first | simp -implicitDefEqProofs only [W_skip, W_reg, W_seq, W_rcond, W_cond, W_block, W_loop, W_exit, W_ret, thenQ_normal, thenQ_exit, thenQ_ret, blockQ_normal, blockQ_ret, blockQ_here, regQ_app, rcQ_app, cndK_t, cndK_f, RegW_nil, RegW_none, RegW_some, contW_app, grdK_tt, grdK_ff, grdK_tf, grdK_ft, grdK_undef, actK_p, actK_r, actK_a, actK_w, actK_call, actK_callV, heapK_app, allocK_app, writeK_app, ret1_ret, ret1_normal, ret0_ret, ret0_normal, ret2_ret2, thenK_app, retcv_ret, retcvK_app, optW_some, evs, Arg.ev, aP, aR, aA, aW, pMov, pBin, pUn, pConv, pPick, pFieldAddr, pNilCheck, pExtract, aBin, aUn, aInt, aNew, partL_f, upd, List.getElem?_cons_zero, List.getElem?_cons_succ, List.getD_cons_zero, List.getD_cons_succ, List.set_cons_zero, List.set_cons_succ, Nat.zero_add, Nat.add_zero, List.getElem?_toArray, List.take_zero, List.drop_zero, List.take_succ_cons, List.drop_succ_cons, if_true, if_false, decide_true, decide_false, Bool.false_eq_true, Bool.true_eq_false, Bool.not_true, Bool.not_false, not_true_eq_false, not_false_eq_true, ge_iff_le, gt_iff_lt, beq_self_eq_true, bne_self_eq_false, and_self, and_true, true_and, Option.isSome_some, Heap.get_alloc_same, Heap.alloc_getE, extract0, extract1, isNil3n, *] | with_reducible refine cndK_d (fun hc => ?_) (fun hc => ?_) | with_reducible refine grdK_d (fun hc => ?_) (fun hc => ?_) | with_reducible refine cndK_i (fun hc => ?_) (fun hc => ?_) | with_reducible refine grdK_i (fun hc => ?_) (fun hc => ?_))
    exact g.h
  · replace hn := Hid.mk hn
    replace l1 := Hid.mk l1
    repeat' (first | simp -implicitDefEqProofs only [W_skip, W_reg, W_seq, W_rcond, W_cond, W_block, W_loop, W_exit, W_ret, thenQ_normal, thenQ_exit, thenQ_ret, blockQ_normal, blockQ_ret, blockQ_here, regQ_app, rcQ_app, cndK_t, cndK_f, RegW_nil, RegW_none, RegW_some, contW_app, grdK_tt, grdK_ff, grdK_tf, grdK_ft, grdK_undef, actK_p, actK_r, actK_a, actK_w, actK_call, actK_callV, heapK_app, allocK_app, writeK_app, ret1_ret, ret1_normal, ret0_ret, ret0_normal, ret2_ret2, thenK_app, retcv_ret, retcvK_app, optW_some, evs, Arg.ev, aP, aR, aA, aW, pMov, pBin, pUn, pConv, pPick, pFieldAddr, pNilCheck, pExtract, aBin, aUn, aInt, aNew, partL_f, upd, List.getElem?_cons_zero, List.getElem?_cons_succ, List.getD_cons_zero, List.getD_cons_succ, List.set_cons_zero, List.set_cons_succ, Nat.zero_add, Nat.add_zero, List.getElem?_toArray, List.take_zero, List.drop_zero, List.take_succ_cons, List.drop_succ_cons, if_true, if_false, decide_true, decide_false, Bool.false_eq_true, Bool.true_eq_false, Bool.not_true, Bool.not_false, not_true_eq_false, not_false_eq_true, ge_iff_le, gt_iff_lt, beq_self_eq_true, bne_self_eq_false, and_self, and_true, true_and, Option.isSome_some, Heap.get_alloc_same, Heap.alloc_getE, extract0, extract1, isNil3i, *] | with_reducible refine cndK_d (fun hc => ?_) (fun hc => ?_) | with_reducible refine grdK_d (fun hc => ?_) (fun hc => ?_) | with_reducible refine cndK_i (fun hc => ?_) (fun hc => ?_) | with_reducible refine grdK_i (fun hc => ?_) (fun hc => ?_))
    refine toError_c he (by omega) _ fun id h2 l2 => ?_
    repeat' (first | simp -implicitDefEqProofs only [W_skip, W_reg, W_seq, W_rcond, W_cond, W_block, W_loop, W_exit, W_ret, thenQ_normal, thenQ_exit, thenQ_ret, blockQ_normal, blockQ_ret, blockQ_here, regQ_app, rcQ_app, cndK_t, cndK_f, RegW_nil, RegW_none, RegW_some, contW_app, grdK_tt, grdK_ff, grdK_tf, grdK_ft, grdK_undef, actK_p, actK_r, actK_a, actK_w, actK_call, actK_callV, heapK_app, allocK_app, writeK_app, ret1_ret, ret1_normal, ret0_ret, ret0_normal, ret2_ret2, thenK_app, retcv_ret, retcvK_app, optW_some, evs, Arg.ev, aP, aR, aA, aW, pMov, pBin, pUn, pConv, pPick, pFieldAddr, pNilCheck, pExtract, aBin, aUn, aInt, aNew, partL_f, upd, List.getElem?_cons_zero, List.getElem?_cons_succ, List.getD_cons_zero, List.getD_cons_succ, List.set_cons_zero, List.set_cons_succ, Nat.zero_add, Nat.add_zero, List.getElem?_toArray, List.take_zero, List.drop_zero, List.take_succ_cons, List.drop_succ_cons, if_true, if_false, decide_true, decide_false, Bool.false_eq_true, Bool.true_eq_false, Bool.not_true, Bool.not_false, not_true_eq_false, not_false_eq_true, ge_iff_le, gt_iff_lt, beq_self_eq_true, bne_self_eq_false, and_self, and_true, true_and, Option.isSome_some, Heap.get_alloc_same, Heap.alloc_getE, *] | with_reducible refine cndK_d (fun hc => ?_) (fun hc => ?_) | with_reducible refine grdK_d (fun hc => ?_) (fun hc => ?_) | with_reducible refine cndK_i (fun hc => ?_) (fun hc => ?_) | with_reducible refine grdK_i (fun hc => ?_) (fun hc => ?_))
    exact (hq.h h2 (l1.h.trans l2)).2 hn.h x id

/-! ### Number -/
theorem parse_le {base : Nat} : ∀ {l : List UInt8} {n m : Nat}, n ≤ 4294967295 → parse base l n = some m → m ≤ 4294967295
  | [], n, m, hn, h => by simp only [parse, Option.some.injEq] at h; omega
  | b :: r, n, m, hn, h => by
    unfold parse at h
    split at h
    · cases h
    · split at h
      · cases h
      · split at h
        · cases h
        · exact parse_le (by omega) h
theorem parseU_le {base : Nat} {l : List UInt8} {m : Nat} (h : parseU base l = some m) : m ≤ 4294967295 := by
  unfold parseU at h
  split at h
  · cases h
  · exact parse_le (by omega) h
set_option maxRecDepth 20000 in
theorem low_asc : ∀ n : Fin 256, 97 ≤ (low (UInt8.ofNat n.val)).toNat → (low (UInt8.ofNat n.val)).toNat ≤ 122 → n.val < 128 := by decide
theorem dig_asc {b : UInt8} {d : Nat} (h : dig b = some d) : b.toNat < 128 := by
  unfold dig at h
  split at h
  · omega
  · split at h
    · rename_i h2
      have := low_asc ⟨b.toNat, u8_lt b⟩
      simp only [UInt8.ofNat_toNat] at this
      exact this h2.1 h2.2
    · cases h
theorem parse_asc {base : Nat} : ∀ {l : List UInt8} {n m : Nat}, parse base l n = some m → ∀ b ∈ l, b.toNat < 128
  | [], n, m, h => by simp
  | b :: r, n, m, h => by
    unfold parse at h
    split at h
    · cases h
    · rename_i d hd
      split at h
      · cases h
      · split at h
        · cases h
        · intro c hc
          rcases List.mem_cons.1 hc with rfl | hc
          · exact dig_asc hd
          · exact parse_asc h c hc
theorem parseU_asc {base : Nat} {l : List UInt8} {m : Nat} (h : parseU base l = some m) : ∀ b ∈ l, b.toNat < 128 := by
  unfold parseU at h
  split at h
  · cases h
  · exact parse_asc h
/-- a text's digits, and their base -/
def digs (l : List UInt8) : List UInt8 × Nat := if [48, 120].isPrefixOf l then (l.drop 2, 16) else (l, 10)
def nought (l : List UInt8) : Bool := (digs l).2 == 10 && (decide (1 < l.length) && l.head? == some 48)
/-- a number's text's number -/
def number (l : List UInt8) : Option Nat := match parseU (digs l).2 (digs l).1 with
  | none => none
  | some n => if 10 < l.length || nought l || !(Lib.toLowerA (digs l).1 == (digs l).1) then none else some n
theorem number_c {l : List UInt8} (hl : l.length ≤ 140737488355328) (h : Heap) (Q : Value → Heap → Prop) (hq : ∀ h', h.le h' → Q (.tuple #[.int .i64 ((number l).getD 0), .bool (number l).isSome]) h') : CallW Tryd.prog 21 [str l] h Q := by
  refine call_of2 (k := 1) (j := 2) ok21 rfl rfl rfl fun N => ?_
  rw [show env0 c21 [str l] = [str l, undef, undef, undef, undef, undef, undef, undef, undef, undef] from rfl]
  delta c21 c21_r0 c21_r1 c21_r2 c21_r3 c21_r4 c21_r5 c21_r6 c21_r7 c21_r8 c21_r9
  replace hq := Hid.mk hq
  repeat' (first | simp -implicitDefEqProofs only [W_skip, W_reg, W_seq, W_rcond, W_cond, W_block, W_loop, W_exit, W_ret, thenQ_normal, thenQ_exit, thenQ_ret, blockQ_normal, blockQ_ret, blockQ_here, regQ_app, rcQ_app, cndK_t, cndK_f, RegW_nil, RegW_none, RegW_some, contW_app, grdK_tt, grdK_ff, grdK_tf, grdK_ft, grdK_undef, actK_p, actK_r, actK_a, actK_w, actK_call, actK_callV, heapK_app, allocK_app, writeK_app, ret1_ret, ret1_normal, ret0_ret, ret0_normal, ret2_ret2, thenK_app, retcv_ret, retcvK_app, optW_some, evs, Arg.ev, aP, aR, aA, aW, pMov, pBin, pUn, pConv, pPick, pFieldAddr, pNilCheck, pExtract, aBin, aUn, aInt, aNew, partL_f, upd, List.getElem?_cons_zero, List.getElem?_cons_succ, List.getD_cons_zero, List.getD_cons_succ, List.set_cons_zero, List.set_cons_succ, Nat.zero_add, Nat.add_zero, List.getElem?_toArray, List.take_zero, List.drop_zero, List.take_succ_cons, List.drop_succ_cons, if_true, if_false, decide_true, decide_false, Bool.false_eq_true, Bool.true_eq_false, Bool.not_true, Bool.not_false, not_true_eq_false, not_false_eq_true, ge_iff_le, gt_iff_lt, beq_self_eq_true, bne_self_eq_false, and_self, and_true, true_and, Option.isSome_some, Heap.get_alloc_same, Heap.alloc_getE, *] | with_reducible refine cndK_d (fun hc => ?_) (fun hc => ?_) | with_reducible refine grdK_d (fun hc => ?_) (fun hc => ?_) | with_reducible refine cndK_i (fun hc => ?_) (fun hc => ?_) | with_reducible refine grdK_i (fun hc => ?_) (fun hc => ?_))
  refine cutPrefix_c h _ ?_
  have bad : ∀ h', h.le h' → number l = none → Q (.tuple #[.int .i64 0, .bool false]) h' := fun h' hl e => by have := hq.h h' hl; rw [e] at this; exact this
  have good : ∀ h' n, h.le h' → number l = some n → Q (.tuple #[.int .i64 (n : Int), .bool true]) h' := fun h' n hl e => by have := hq.h h' hl; rw [e] at this; exact this
  replace bad := Hid.mk bad
  replace good := Hid.mk good
  clear hq
  cases hp : [48, 120].isPrefixOf l with
  | true =>
    have hc : cutPre [48, 120] l = (l.drop 2, true) := by unfold cutPre; rw [if_pos hp]; rfl
    have hnu : number l = match parseU 16 (l.drop 2) with | none => none | some n => if 10 < l.length || false || !(Lib.toLowerA (l.drop 2) == l.drop 2) then none else some n := by
      have hd : digs l = (l.drop 2, 16) := by unfold digs; rw [if_pos hp]
      unfold number nought; rw [hd]; rfl
    rw [hc]
    replace hnu := Hid.mk hnu
    obtain ⟨d, hd⟩ : ∃ d, l.drop 2 = d := ⟨_, rfl⟩
    rw [hd] at hnu ⊢
    have hdl : d.length ≤ 140737488355328 := by rw [← hd]; simp; omega
    clear hc hp hd
    repeat' (first | simp -implicitDefEqProofs only [W_skip, W_reg, W_seq, W_rcond, W_cond, W_block, W_loop, W_exit, W_ret, thenQ_normal, thenQ_exit, thenQ_ret, blockQ_normal, blockQ_ret, blockQ_here, regQ_app, rcQ_app, cndK_t, cndK_f, RegW_nil, RegW_none, RegW_some, contW_app, grdK_tt, grdK_ff, grdK_tf, grdK_ft, grdK_undef, actK_p, actK_r, actK_a, actK_w, actK_call, actK_callV, heapK_app, allocK_app, writeK_app, ret1_ret, ret1_normal, ret0_ret, ret0_normal, ret2_ret2, thenK_app, retcv_ret, retcvK_app, optW_some, evs, Arg.ev, aP, aR, aA, aW, pMov, pBin, pUn, pConv, pPick, pFieldAddr, pNilCheck, pExtract, aBin, aUn, aInt, aNew, partL_f, upd, List.getElem?_cons_zero, List.getElem?_cons_succ, List.getD_cons_zero, List.getD_cons_succ, List.set_cons_zero, List.set_cons_succ, Nat.zero_add, Nat.add_zero, List.getElem?_toArray, List.take_zero, List.drop_zero, List.take_succ_cons, List.drop_succ_cons, if_true, if_false, decide_true, decide_false, Bool.false_eq_true, Bool.true_eq_false, Bool.not_true, Bool.not_false, not_true_eq_false, not_false_eq_true, ge_iff_le, gt_iff_lt, beq_self_eq_true, bne_self_eq_false, and_self, and_true, true_and, Option.isSome_some, Heap.get_alloc_same, Heap.alloc_getE, extract0, extract1, *] | with_reducible refine cndK_d (fun hc => ?_) (fun hc => ?_) | with_reducible refine grdK_d (fun hc => ?_) (fun hc => ?_) | with_reducible refine cndK_i (fun hc => ?_) (fun hc => ?_) | with_reducible refine grdK_i (fun hc => ?_) (fun hc => ?_))
    refine parseUint_c (base := 16) (.inr rfl) hdl h _ fun h1 l1 => ⟨fun n hn => ?_, fun hn x id => ?_⟩
    · have hle := parseU_le hn
      have hasc := Hid.mk (parseU_asc hn)
      have hw : IntKind.i64.wrap (n : Int) = n := wrapI (by omega) (by omega)
      rw [hn] at hnu
      replace l1 := Hid.mk l1
      clear hn
      have e16 : ((16 : Int) == 10) = false := rfl
      by_cases h10 : (10 : Int) < l.length
      · have g := bad.h h1 l1.h (by rw [hnu.h]; simp; omega)
        replace g := Hid.mk g
        repeat' (first | simp -implicitDefEqProofs only [W_skip, W_reg, W_seq, W_rcond, W_cond, W_block, W_loop, W_exit, W_ret, thenQ_normal, thenQ_exit, thenQ_ret, blockQ_normal, blockQ_ret, blockQ_here, regQ_app, rcQ_app, cndK_t, cndK_f, RegW_nil, RegW_none, RegW_some, contW_app, grdK_tt, grdK_ff, grdK_tf, grdK_ft, grdK_undef, actK_p, actK_r, actK_a, actK_w, actK_call, actK_callV, heapK_app, allocK_app, writeK_app, ret1_ret, ret1_normal, ret0_ret, ret0_normal, ret2_ret2, thenK_app, retcv_ret, retcvK_app, optW_some, evs, Arg.ev, aP, aR, aA, aW, pMov, pBin, pUn, pConv, pPick, pFieldAddr, pNilCheck, pExtract, aBin, aUn, aInt, aNew, partL_f, upd, List.getElem?_cons_zero, List.getElem?_cons_succ, List.getD_cons_zero, List.getD_cons_succ, List.set_cons_zero, List.set_cons_succ, Nat.zero_add, Nat.add_zero, List.getElem?_toArray, List.take_zero, List.drop_zero, List.take_succ_cons, List.drop_succ_cons, if_true, if_false, decide_true, decide_false, Bool.false_eq_true, Bool.true_eq_false, Bool.not_true, Bool.not_false, not_true_eq_false, not_false_eq_true, ge_iff_le, gt_iff_lt, beq_self_eq_true, bne_self_eq_false, and_self, and_true, true_and, Option.isSome_some, Heap.get_alloc_same, Heap.alloc_getE, extract0, extract1, isNil3n, len_S, *] | with_reducible refine cndK_d (fun hc => ?_) (fun hc => ?_) | with_reducible refine grdK_d (fun hc => ?_) (fun hc => ?_) | with_reducible refine cndK_i (fun hc => ?_) (fun hc => ?_) | with_reducible refine grdK_i (fun hc => ?_) (fun hc => ?_))
        exact g.h
      · repeat' (first | simp -implicitDefEqProofs only [W_skip, W_reg, W_seq, W_rcond, W_cond, W_block, W_loop, W_exit, W_ret, thenQ_normal, thenQ_exit, thenQ_ret, blockQ_normal, blockQ_ret, blockQ_here, regQ_app, rcQ_app, cndK_t, cndK_f, RegW_nil, RegW_none, RegW_some, contW_app, grdK_tt, grdK_ff, grdK_tf, grdK_ft, grdK_undef, actK_p, actK_r, actK_a, actK_w, actK_call, actK_callV, heapK_app, allocK_app, writeK_app, ret1_ret, ret1_normal, ret0_ret, ret0_normal, ret2_ret2, thenK_app, retcv_ret, retcvK_app, optW_some, evs, Arg.ev, aP, aR, aA, aW, pMov, pBin, pUn, pConv, pPick, pFieldAddr, pNilCheck, pExtract, aBin, aUn, aInt, aNew, partL_f, upd, List.getElem?_cons_zero, List.getElem?_cons_succ, List.getD_cons_zero, List.getD_cons_succ, List.set_cons_zero, List.set_cons_succ, Nat.zero_add, Nat.add_zero, List.getElem?_toArray, List.take_zero, List.drop_zero, List.take_succ_cons, List.drop_succ_cons, if_true, if_false, decide_true, decide_false, Bool.false_eq_true, Bool.true_eq_false, Bool.not_true, Bool.not_false, not_true_eq_false, not_false_eq_true, ge_iff_le, gt_iff_lt, beq_self_eq_true, bne_self_eq_false, and_self, and_true, true_and, Option.isSome_some, Heap.get_alloc_same, Heap.alloc_getE, extract0, extract1, isNil3n, len_S, *] | with_reducible refine cndK_d (fun hc => ?_) (fun hc => ?_) | with_reducible refine grdK_d (fun hc => ?_) (fun hc => ?_) | with_reducible refine cndK_i (fun hc => ?_) (fun hc => ?_) | with_reducible refine grdK_i (fun hc => ?_) (fun hc => ?_))
        refine toLower_c (by omega) hasc.h _ ?_
        cases ht : (Lib.toLowerA d == d) with
        | true =>
          have g := good.h h1 n l1.h (by rw [hnu.h, ht]; simp; omega)
          replace g := Hid.mk g
          repeat' (first | simp -implicitDefEqProofs only [W_skip, W_reg, W_seq, W_rcond, W_cond, W_block, W_loop, W_exit, W_ret, thenQ_normal, thenQ_exit, thenQ_ret, blockQ_normal, blockQ_ret, blockQ_here, regQ_app, rcQ_app, cndK_t, cndK_f, RegW_nil, RegW_none, RegW_some, contW_app, grdK_tt, grdK_ff, grdK_tf, grdK_ft, grdK_undef, actK_p, actK_r, actK_a, actK_w, actK_call, actK_callV, heapK_app, allocK_app, writeK_app, ret1_ret, ret1_normal, ret0_ret, ret0_normal, ret2_ret2, thenK_app, retcv_ret, retcvK_app, optW_some, evs, Arg.ev, aP, aR, aA, aW, pMov, pBin, pUn, pConv, pPick, pFieldAddr, pNilCheck, pExtract, aBin, aUn, aInt, aNew, partL_f, upd, List.getElem?_cons_zero, List.getElem?_cons_succ, List.getD_cons_zero, List.getD_cons_succ, List.set_cons_zero, List.set_cons_succ, Nat.zero_add, Nat.add_zero, List.getElem?_toArray, List.take_zero, List.drop_zero, List.take_succ_cons, List.drop_succ_cons, if_true, if_false, decide_true, decide_false, Bool.false_eq_true, Bool.true_eq_false, Bool.not_true, Bool.not_false, not_true_eq_false, not_false_eq_true, ge_iff_le, gt_iff_lt, beq_self_eq_true, bne_self_eq_false, and_self, and_true, true_and, Option.isSome_some, Heap.get_alloc_same, Heap.alloc_getE, extract0, extract1, isNil3n, len_S, ne_S, *] | with_reducible refine cndK_d (fun hc => ?_) (fun hc => ?_) | with_reducible refine grdK_d (fun hc => ?_) (fun hc => ?_) | with_reducible refine cndK_i (fun hc => ?_) (fun hc => ?_) | with_reducible refine grdK_i (fun hc => ?_) (fun hc => ?_))
          exact g.h
        | false =>
          have g := bad.h h1 l1.h (by rw [hnu.h, ht]; simp)
          replace g := Hid.mk g
          repeat' (first | simp -implicitDefEqProofs only [W_skip, W_reg, W_seq, W_rcond, W_cond, W_block, W_loop, W_exit, W_ret, thenQ_normal, thenQ_exit, thenQ_ret, blockQ_normal, blockQ_ret, blockQ_here, regQ_app, rcQ_app, cndK_t, cndK_f, RegW_nil, RegW_none, RegW_some, contW_app, grdK_tt, grdK_ff, grdK_tf, grdK_ft, grdK_undef, actK_p, actK_r, actK_a, actK_w, actK_call, actK_callV, heapK_app, allocK_app, writeK_app, ret1_ret, ret1_normal, ret0_ret, ret0_normal, ret2_ret2, thenK_app, retcv_ret, retcvK_app, optW_some, evs, Arg.ev, aP, aR, aA, aW, pMov, pBin, pUn, pConv, pPick, pFieldAddr, pNilCheck, pExtract, aBin, aUn, aInt, aNew, partL_f, upd, List.getElem?_cons_zero, List.getElem?_cons_succ, List.getD_cons_zero, List.getD_cons_succ, List.set_cons_zero, List.set_cons_succ, Nat.zero_add, Nat.add_zero, List.getElem?_toArray, List.take_zero, List.drop_zero, List.take_succ_cons, List.drop_succ_cons, if_true, if_false, decide_true, decide_false, Bool.false_eq_true, Bool.true_eq_false, Bool.not_true, Bool.not_false, not_true_eq_false, not_false_eq_true, ge_iff_le, gt_iff_lt, beq_self_eq_true, bne_self_eq_false, and_self, and_true, true_and, Option.isSome_some, Heap.get_alloc_same, Heap.alloc_getE, extract0, extract1, isNil3n, len_S, ne_S, *] | with_reducible refine cndK_d (fun hc => ?_) (fun hc => ?_) | with_reducible refine grdK_d (fun hc => ?_) (fun hc => ?_) | with_reducible refine cndK_i (fun hc => ?_) (fun hc => ?_) | with_reducible refine grdK_i (fun hc => ?_) (fun hc => ?_))
          exact g.h
    · rw [hn] at hnu
      have g := bad.h h1 l1 hnu.h
      replace g := Hid.mk g
      clear hn l1
      have e16 : ((16 : Int) == 10) = false := rfl
      repeat' (first | simp -implicitDefEqProofs only [W_skip, W_reg, W_seq, W_rcond, W_cond, W_block, W_loop, W_exit, W_ret, thenQ_normal, thenQ_exit, thenQ_ret, blockQ_normal, blockQ_ret, blockQ_here, regQ_app, rcQ_app, cndK_t, cndK_f, RegW_nil, RegW_none, RegW_some, contW_app, grdK_tt, grdK_ff, grdK_tf, grdK_ft, grdK_undef, actK_p, actK_r, actK_a, actK_w, actK_call, actK_callV, heapK_app, allocK_app, writeK_app, ret1_ret, ret1_normal, ret0_ret, ret0_normal, ret2_ret2, thenK_app, retcv_ret, retcvK_app, optW_some, evs, Arg.ev, aP, aR, aA, aW, pMov, pBin, pUn, pConv, pPick, pFieldAddr, pNilCheck, pExtract, aBin, aUn, aInt, aNew, partL_f, upd, List.getElem?_cons_zero, List.getElem?_cons_succ, List.getD_cons_zero, List.getD_cons_succ, List.set_cons_zero, List.set_cons_succ, Nat.zero_add, Nat.add_zero, List.getElem?_toArray, List.take_zero, List.drop_zero, List.take_succ_cons, List.drop_succ_cons, if_true, if_false, decide_true, decide_false, Bool.false_eq_true, Bool.true_eq_false, Bool.not_true, Bool.not_false, not_true_eq_false, not_false_eq_true, ge_iff_le, gt_iff_lt, beq_self_eq_true, bne_self_eq_false, and_self, and_true, true_and, Option.isSome_some, Heap.get_alloc_same, Heap.alloc_getE, extract0, extract1, isNil3i, len_S, *] | with_reducible refine cndK_d (fun hc => ?_) (fun hc => ?_) | with_reducible refine grdK_d (fun hc => ?_) (fun hc => ?_) | with_reducible refine cndK_i (fun hc => ?_) (fun hc => ?_) | with_reducible refine grdK_i (fun hc => ?_) (fun hc => ?_))
      exact g.h
  | false =>
    have hc : cutPre [48, 120] l = (l, false) := by unfold cutPre; rw [if_neg (by rw [hp]; simp)]
    have hnu : number l = match parseU 10 l with | none => none | some n => if 10 < l.length || (decide (1 < l.length) && l.head? == some 48) || !(Lib.toLowerA l == l) then none else some n := by
      have hd : digs l = (l, 10) := by unfold digs; rw [if_neg (by rw [hp]; simp)]
      unfold number nought; rw [hd]; rfl
    rw [hc]
    replace hnu := Hid.mk hnu
    clear hc hp
    have e10 : ((10 : Int) == 10) = true := rfl
    repeat' (first | simp -implicitDefEqProofs only [W_skip, W_reg, W_seq, W_rcond, W_cond, W_block, W_loop, W_exit, W_ret, thenQ_normal, thenQ_exit, thenQ_ret, blockQ_normal, blockQ_ret, blockQ_here, regQ_app, rcQ_app, cndK_t, cndK_f, RegW_nil, RegW_none, RegW_some, contW_app, grdK_tt, grdK_ff, grdK_tf, grdK_ft, grdK_undef, actK_p, actK_r, actK_a, actK_w, actK_call, actK_callV, heapK_app, allocK_app, writeK_app, ret1_ret, ret1_normal, ret0_ret, ret0_normal, ret2_ret2, thenK_app, retcv_ret, retcvK_app, optW_some, evs, Arg.ev, aP, aR, aA, aW, pMov, pBin, pUn, pConv, pPick, pFieldAddr, pNilCheck, pExtract, aBin, aUn, aInt, aNew, partL_f, upd, List.getElem?_cons_zero, List.getElem?_cons_succ, List.getD_cons_zero, List.getD_cons_succ, List.set_cons_zero, List.set_cons_succ, Nat.zero_add, Nat.add_zero, List.getElem?_toArray, List.take_zero, List.drop_zero, List.take_succ_cons, List.drop_succ_cons, if_true, if_false, decide_true, decide_false, Bool.false_eq_true, Bool.true_eq_false, Bool.not_true, Bool.not_false, not_true_eq_false, not_false_eq_true, ge_iff_le, gt_iff_lt, beq_self_eq_true, bne_self_eq_false, and_self, and_true, true_and, Option.isSome_some, Heap.get_alloc_same, Heap.alloc_getE, extract0, extract1, *] | with_reducible refine cndK_d (fun hc => ?_) (fun hc => ?_) | with_reducible refine grdK_d (fun hc => ?_) (fun hc => ?_) | with_reducible refine cndK_i (fun hc => ?_) (fun hc => ?_) | with_reducible refine grdK_i (fun hc => ?_) (fun hc => ?_))
    refine parseUint_c (base := 10) (.inl rfl) hl h _ fun h1 l1 => ⟨fun n hn => ?_, fun hn x id => ?_⟩
    · have hle := parseU_le hn
      have hasc := Hid.mk (parseU_asc hn)
      have hw : IntKind.i64.wrap (n : Int) = n := wrapI (by omega) (by omega)
      rw [hn] at hnu
      replace l1 := Hid.mk l1
      cases l with
      | nil => simp [parseU] at hn
      | cons b0 r =>
      obtain ⟨l, hl'⟩ : ∃ l, b0 :: r = l := ⟨_, rfl⟩
      have hb : l[0]? = some b0 := by rw [← hl']; rfl
      have hh : l.head? = some b0 := by rw [← hl']; rfl
      rw [hl'] at hnu bad good hl hasc ⊢
      rw [hh] at hnu
      have ix := idx_S hb .i64
      rw [Int.ofNat_zero] at ix
      clear hn hl' hb hh
      have h48 : (some b0 == some (48 : UInt8)) = ((b0.toNat : Int) == 48) := by
        rw [Bool.eq_iff_iff]
        simp only [beq_iff_eq, Option.some.injEq]
        constructor
        · rintro rfl; rfl
        · intro e; apply UInt8.toNat_inj.1; simp; omega
      rw [h48] at hnu
      clear h48
      by_cases h1' : (1 : Int) < l.length
      · cases h48 : ((b0.toNat : Int) == 48) with
        | true =>
          have g := bad.h h1 l1.h (by rw [hnu.h, h48]; simp; omega)
          replace g := Hid.mk g
          by_cases h10 : (10 : Int) < l.length
          · repeat' (first | simp -implicitDefEqProofs only [W_skip, W_reg, W_seq, W_rcond, W_cond, W_block, W_loop, W_exit, W_ret, thenQ_normal, thenQ_exit, thenQ_ret, blockQ_normal, blockQ_ret, blockQ_here, regQ_app, rcQ_app, cndK_t, cndK_f, RegW_nil, RegW_none, RegW_some, contW_app, grdK_tt, grdK_ff, grdK_tf, grdK_ft, grdK_undef, actK_p, actK_r, actK_a, actK_w, actK_call, actK_callV, heapK_app, allocK_app, writeK_app, ret1_ret, ret1_normal, ret0_ret, ret0_normal, ret2_ret2, thenK_app, retcv_ret, retcvK_app, optW_some, evs, Arg.ev, aP, aR, aA, aW, pMov, pBin, pUn, pConv, pPick, pFieldAddr, pNilCheck, pExtract, aBin, aUn, aInt, aNew, partL_f, upd, List.getElem?_cons_zero, List.getElem?_cons_succ, List.getD_cons_zero, List.getD_cons_succ, List.set_cons_zero, List.set_cons_succ, Nat.zero_add, Nat.add_zero, List.getElem?_toArray, List.take_zero, List.drop_zero, List.take_succ_cons, List.drop_succ_cons, if_true, if_false, decide_true, decide_false, Bool.false_eq_true, Bool.true_eq_false, Bool.not_true, Bool.not_false, not_true_eq_false, not_false_eq_true, ge_iff_le, gt_iff_lt, beq_self_eq_true, bne_self_eq_false, and_self, and_true, true_and, Option.isSome_some, Heap.get_alloc_same, Heap.alloc_getE, extract0, extract1, isNil3n, len_S, *] | with_reducible refine cndK_d (fun hc => ?_) (fun hc => ?_) | with_reducible refine grdK_d (fun hc => ?_) (fun hc => ?_) | with_reducible refine cndK_i (fun hc => ?_) (fun hc => ?_) | with_reducible refine grdK_i (fun hc => ?_) (fun hc => ?_))
            exact g.h
          · repeat' (first | simp -implicitDefEqProofs only [W_skip, W_reg, W_seq, W_rcond, W_cond, W_block, W_loop, W_exit, W_ret, thenQ_normal, thenQ_exit, thenQ_ret, blockQ_normal, blockQ_ret, blockQ_here, regQ_app, rcQ_app, cndK_t, cndK_f, RegW_nil, RegW_none, RegW_some, contW_app, grdK_tt, grdK_ff, grdK_tf, grdK_ft, grdK_undef, actK_p, actK_r, actK_a, actK_w, actK_call, actK_callV, heapK_app, allocK_app, writeK_app, ret1_ret, ret1_normal, ret0_ret, ret0_normal, ret2_ret2, thenK_app, retcv_ret, retcvK_app, optW_some, evs, Arg.ev, aP, aR, aA, aW, pMov, pBin, pUn, pConv, pPick, pFieldAddr, pNilCheck, pExtract, aBin, aUn, aInt, aNew, partL_f, upd, List.getElem?_cons_zero, List.getElem?_cons_succ, List.getD_cons_zero, List.getD_cons_succ, List.set_cons_zero, List.set_cons_succ, Nat.zero_add, Nat.add_zero, List.getElem?_toArray, List.take_zero, List.drop_zero, List.take_succ_cons, List.drop_succ_cons, if_true, if_false, decide_true, decide_false, Bool.false_eq_true, Bool.true_eq_false, Bool.not_true, Bool.not_false, not_true_eq_false, not_false_eq_true, ge_iff_le, gt_iff_lt, beq_self_eq_true, bne_self_eq_false, and_self, and_true, true_and, Option.isSome_some, Heap.get_alloc_same, Heap.alloc_getE, extract0, extract1, isNil3n, len_S, *] | with_reducible refine cndK_d (fun hc => ?_) (fun hc => ?_) | with_reducible refine grdK_d (fun hc => ?_) (fun hc => ?_) | with_reducible refine cndK_i (fun hc => ?_) (fun hc => ?_) | with_reducible refine grdK_i (fun hc => ?_) (fun hc => ?_))
            exact g.h
        | false =>
          by_cases h10 : (10 : Int) < l.length
          · have g := bad.h h1 l1.h (by rw [hnu.h]; simp; omega)
            replace g := Hid.mk g
            repeat' (first | simp -implicitDefEqProofs only [W_skip, W_reg, W_seq, W_rcond, W_cond, W_block, W_loop, W_exit, W_ret, thenQ_normal, thenQ_exit, thenQ_ret, blockQ_normal, blockQ_ret, blockQ_here, regQ_app, rcQ_app, cndK_t, cndK_f, RegW_nil, RegW_none, RegW_some, contW_app, grdK_tt, grdK_ff, grdK_tf, grdK_ft, grdK_undef, actK_p, actK_r, actK_a, actK_w, actK_call, actK_callV, heapK_app, allocK_app, writeK_app, ret1_ret, ret1_normal, ret0_ret, ret0_normal, ret2_ret2, thenK_app, retcv_ret, retcvK_app, optW_some, evs, Arg.ev, aP, aR, aA, aW, pMov, pBin, pUn, pConv, pPick, pFieldAddr, pNilCheck, pExtract, aBin, aUn, aInt, aNew, partL_f, upd, List.getElem?_cons_zero, List.getElem?_cons_succ, List.getD_cons_zero, List.getD_cons_succ, List.set_cons_zero, List.set_cons_succ, Nat.zero_add, Nat.add_zero, List.getElem?_toArray, List.take_zero, List.drop_zero, List.take_succ_cons, List.drop_succ_cons, if_true, if_false, decide_true, decide_false, Bool.false_eq_true, Bool.true_eq_false, Bool.not_true, Bool.not_false, not_true_eq_false, not_false_eq_true, ge_iff_le, gt_iff_lt, beq_self_eq_true, bne_self_eq_false, and_self, and_true, true_and, Option.isSome_some, Heap.get_alloc_same, Heap.alloc_getE, extract0, extract1, isNil3n, len_S, *] | with_reducible refine cndK_d (fun hc => ?_) (fun hc => ?_) | with_reducible refine grdK_d (fun hc => ?_) (fun hc => ?_) | with_reducible refine cndK_i (fun hc => ?_) (fun hc => ?_) | with_reducible refine grdK_i (fun hc => ?_) (fun hc => ?_))
            exact g.h
          · repeat' (first | simp -implicitDefEqProofs only [W_skip, W_reg, W_seq, W_rcond, W_cond, W_block, W_loop, W_exit, W_ret, thenQ_normal, thenQ_exit, thenQ_ret, blockQ_normal, blockQ_ret, blockQ_here, regQ_app, rcQ_app, cndK_t, cndK_f, RegW_nil, RegW_none, RegW_some, contW_app, grdK_tt, grdK_ff, grdK_tf, grdK_ft, grdK_undef, actK_p, actK_r, actK_a, actK_w, actK_call, actK_callV, heapK_app, allocK_app, writeK_app, ret1_ret, ret1_normal, ret0_ret, ret0_normal, ret2_ret2, thenK_app, retcv_ret, retcvK_app, optW_some, evs, Arg.ev, aP, aR, aA, aW, pMov, pBin, pUn, pConv, pPick, pFieldAddr, pNilCheck, pExtract, aBin, aUn, aInt, aNew, partL_f, upd, List.getElem?_cons_zero, List.getElem?_cons_succ, List.getD_cons_zero, List.getD_cons_succ, List.set_cons_zero, List.set_cons_succ, Nat.zero_add, Nat.add_zero, List.getElem?_toArray, List.take_zero, List.drop_zero, List.take_succ_cons, List.drop_succ_cons, if_true, if_false, decide_true, decide_false, Bool.false_eq_true, Bool.true_eq_false, Bool.not_true, Bool.not_false, not_true_eq_false, not_false_eq_true, ge_iff_le, gt_iff_lt, beq_self_eq_true, bne_self_eq_false, and_self, and_true, true_and, Option.isSome_some, Heap.get_alloc_same, Heap.alloc_getE, extract0, extract1, isNil3n, len_S, *] | with_reducible refine cndK_d (fun hc => ?_) (fun hc => ?_) | with_reducible refine grdK_d (fun hc => ?_) (fun hc => ?_) | with_reducible refine cndK_i (fun hc => ?_) (fun hc => ?_) | with_reducible refine grdK_i (fun hc => ?_) (fun hc => ?_))
            refine toLower_c (by omega) hasc.h _ ?_
            cases ht : (Lib.toLowerA l == l) with
            | true =>
              have g := good.h h1 n l1.h (by rw [hnu.h, ht, h48]; simp; omega)
              replace g := Hid.mk g
              repeat' (first | simp -implicitDefEqProofs only [W_skip, W_reg, W_seq, W_rcond, W_cond, W_block, W_loop, W_exit, W_ret, thenQ_normal, thenQ_exit, thenQ_ret, blockQ_normal, blockQ_ret, blockQ_here, regQ_app, rcQ_app, cndK_t, cndK_f, RegW_nil, RegW_none, RegW_some, contW_app, grdK_tt, grdK_ff, grdK_tf, grdK_ft, grdK_undef, actK_p, actK_r, actK_a, actK_w, actK_call, actK_callV, heapK_app, allocK_app, writeK_app, ret1_ret, ret1_normal, ret0_ret, ret0_normal, ret2_ret2, thenK_app, retcv_ret, retcvK_app, optW_some, evs, Arg.ev, aP, aR, aA, aW, pMov, pBin, pUn, pConv, pPick, pFieldAddr, pNilCheck, pExtract, aBin, aUn, aInt, aNew, partL_f, upd, List.getElem?_cons_zero, List.getElem?_cons_succ, List.getD_cons_zero, List.getD_cons_succ, List.set_cons_zero, List.set_cons_succ, Nat.zero_add, Nat.add_zero, List.getElem?_toArray, List.take_zero, List.drop_zero, List.take_succ_cons, List.drop_succ_cons, if_true, if_false, decide_true, decide_false, Bool.false_eq_true, Bool.true_eq_false, Bool.not_true, Bool.not_false, not_true_eq_false, not_false_eq_true, ge_iff_le, gt_iff_lt, beq_self_eq_true, bne_self_eq_false, and_self, and_true, true_and, Option.isSome_some, Heap.get_alloc_same, Heap.alloc_getE, extract0, extract1, isNil3n, len_S, ne_S, *] | with_reducible refine cndK_d (fun hc => ?_) (fun hc => ?_) | with_reducible refine grdK_d (fun hc => ?_) (fun hc => ?_) | with_reducible refine cndK_i (fun hc => ?_) (fun hc => ?_) | with_reducible refine grdK_i (fun hc => ?_) (fun hc => ?_))
              exact g.h
            | false =>
              have g := bad.h h1 l1.h (by rw [hnu.h, ht]; simp)
              replace g := Hid.mk g
              repeat' (first | simp -implicitDefEqProofs only [W_skip, W_reg, W_seq, W_rcond, W_cond, W_block, W_loop, W_exit, W_ret, thenQ_normal, thenQ_exit, thenQ_ret, blockQ_normal, blockQ_ret, blockQ_here, regQ_app, rcQ_app, cndK_t, cndK_f, RegW_nil, RegW_none, RegW_some, contW_app, grdK_tt, grdK_ff, grdK_tf, grdK_ft, grdK_undef, actK_p, actK_r, actK_a, actK_w, actK_call, actK_callV, heapK_app, allocK_app, writeK_app, ret1_ret, ret1_normal, ret0_ret, ret0_normal, ret2_ret2, thenK_app, retcv_ret, retcvK_app, optW_some, evs, Arg.ev, aP, aR, aA, aW, pMov, pBin, pUn, pConv, pPick, pFieldAddr, pNilCheck, pExtract, aBin, aUn, aInt, aNew, partL_f, upd, List.getElem?_cons_zero, List.getElem?_cons_succ, List.getD_cons_zero, List.getD_cons_succ, List.set_cons_zero, List.set_cons_succ, Nat.zero_add, Nat.add_zero, List.getElem?_toArray, List.take_zero, List.drop_zero, List.take_succ_cons, List.drop_succ_cons, if_true, if_false, decide_true, decide_false, Bool.false_eq_true, Bool.true_eq_false, Bool.not_true, Bool.not_false, not_true_eq_false, not_false_eq_true, ge_iff_le, gt_iff_lt, beq_self_eq_true, bne_self_eq_false, and_self, and_true, true_and, Option.isSome_some, Heap.get_alloc_same, Heap.alloc_getE, extract0, extract1, isNil3n, len_S, ne_S, *] | with_reducible refine cndK_d (fun hc => ?_) (fun hc => ?_) | with_reducible refine grdK_d (fun hc => ?_) (fun hc => ?_) | with_reducible refine cndK_i (fun hc => ?_) (fun hc => ?_) | with_reducible refine grdK_i (fun hc => ?_) (fun hc => ?_))
              exact g.h
      · have h10 : ¬ (10 : Int) < l.length := by omega
        repeat' (first | simp -implicitDefEqProofs only [W_skip, W_reg, W_seq, W_rcond, W_cond, W_block, W_loop, W_exit, W_ret, thenQ_normal, thenQ_exit, thenQ_ret, blockQ_normal, blockQ_ret, blockQ_here, regQ_app, rcQ_app, cndK_t, cndK_f, RegW_nil, RegW_none, RegW_some, contW_app, grdK_tt, grdK_ff, grdK_tf, grdK_ft, grdK_undef, actK_p, actK_r, actK_a, actK_w, actK_call, actK_callV, heapK_app, allocK_app, writeK_app, ret1_ret, ret1_normal, ret0_ret, ret0_normal, ret2_ret2, thenK_app, retcv_ret, retcvK_app, optW_some, evs, Arg.ev, aP, aR, aA, aW, pMov, pBin, pUn, pConv, pPick, pFieldAddr, pNilCheck, pExtract, aBin, aUn, aInt, aNew, partL_f, upd, List.getElem?_cons_zero, List.getElem?_cons_succ, List.getD_cons_zero, List.getD_cons_succ, List.set_cons_zero, List.set_cons_succ, Nat.zero_add, Nat.add_zero, List.getElem?_toArray, List.take_zero, List.drop_zero, List.take_succ_cons, List.drop_succ_cons, if_true, if_false, decide_true, decide_false, Bool.false_eq_true, Bool.true_eq_false, Bool.not_true, Bool.not_false, not_true_eq_false, not_false_eq_true, ge_iff_le, gt_iff_lt, beq_self_eq_true, bne_self_eq_false, and_self, and_true, true_and, Option.isSome_some, Heap.get_alloc_same, Heap.alloc_getE, extract0, extract1, isNil3n, len_S, *] | with_reducible refine cndK_d (fun hc => ?_) (fun hc => ?_) | with_reducible refine grdK_d (fun hc => ?_) (fun hc => ?_) | with_reducible refine cndK_i (fun hc => ?_) (fun hc => ?_) | with_reducible refine grdK_i (fun hc => ?_) (fun hc => ?_))
        refine toLower_c (by omega) hasc.h _ ?_
        cases ht : (Lib.toLowerA l == l) with
        | true =>
          have g := good.h h1 n l1.h (by rw [hnu.h, ht]; simp; omega)
          replace g := Hid.mk g
          repeat' (first | simp -implicitDefEqProofs only [W_skip, W_reg, W_seq, W_rcond, W_cond, W_block, W_loop, W_exit, W_ret, thenQ_normal, thenQ_exit, thenQ_ret, blockQ_normal, blockQ_ret, blockQ_here, regQ_app, rcQ_app, cndK_t, cndK_f, RegW_nil, RegW_none, RegW_some, contW_app, grdK_tt, grdK_ff, grdK_tf, grdK_ft, grdK_undef, actK_p, actK_r, actK_a, actK_w, actK_call, actK_callV, heapK_app, allocK_app, writeK_app, ret1_ret, ret1_normal, ret0_ret, ret0_normal, ret2_ret2, thenK_app, retcv_ret, retcvK_app, optW_some, evs, Arg.ev, aP, aR, aA, aW, pMov, pBin, pUn, pConv, pPick, pFieldAddr, pNilCheck, pExtract, aBin, aUn, aInt, aNew, partL_f, upd, List.getElem?_cons_zero, List.getElem?_cons_succ, List.getD_cons_zero, List.getD_cons_succ, List.set_cons_zero, List.set_cons_succ, Nat.zero_add, Nat.add_zero, List.getElem?_toArray, List.take_zero, List.drop_zero, List.take_succ_cons, List.drop_succ_cons, if_true, if_false, decide_true, decide_false, Bool.false_eq_true, Bool.true_eq_false, Bool.not_true, Bool.not_false, not_true_eq_false, not_false_eq_true, ge_iff_le, gt_iff_lt, beq_self_eq_true, bne_self_eq_false, and_self, and_true, true_and, Option.isSome_some, Heap.get_alloc_same, Heap.alloc_getE, extract0, extract1, isNil3n, len_S, ne_S, *] | with_reducible refine cndK_d (fun hc => ?_) (fun hc => ?_) | with_reducible refine grdK_d (fun hc => ?_) (fun hc => ?_) | with_reducible refine cndK_i (fun hc => ?_) (fun hc => ?_) | with_reducible refine grdK_i (fun hc => ?_) (fun hc => ?_))
          exact g.h
        | false =>
          have g := bad.h h1 l1.h (by rw [hnu.h, ht]; simp)
          replace g := Hid.mk g
          repeat' (first | simp -implicitDefEqProofs only [W_skip, W_reg, W_seq, W_rcond, W_cond, W_block, W_loop, W_exit, W_ret, thenQ_normal, thenQ_exit, thenQ_ret, blockQ_normal, blockQ_ret, blockQ_here, regQ_app, rcQ_app, cndK_t, cndK_f, RegW_nil, RegW_none, RegW_some, contW_app, grdK_tt, grdK_ff, grdK_tf, grdK_ft, grdK_undef, actK_p, actK_r, actK_a, actK_w, actK_call, actK_callV, heapK_app, allocK_app, writeK_app, ret1_ret, ret1_normal, ret0_ret, ret0_normal, ret2_ret2, thenK_app, retcv_ret, retcvK_app, optW_some, evs, Arg.ev, aP, aR, aA, aW, pMov, pBin, pUn, pConv, pPick, pFieldAddr, pNilCheck, pExtract, aBin, aUn, aInt, aNew, partL_f, upd, List.getElem?_cons_zero, List.getElem?_cons_succ, List.getD_cons_zero, List.getD_cons_succ, List.set_cons_zero, List.set_cons_succ, Nat.zero_add, Nat.add_zero, List.getElem?_toArray, List.take_zero, List.drop_zero, List.take_succ_cons, List.drop_succ_cons, if_true, if_false, decide_true, decide_false, Bool.false_eq_true, Bool.true_eq_false, Bool.not_true, Bool.not_false, not_true_eq_false, not_false_eq_true, ge_iff_le, gt_iff_lt, beq_self_eq_true, bne_self_eq_false, and_self, and_true, true_and, Option.isSome_some, Heap.get_alloc_same, Heap.alloc_getE, extract0, extract1, isNil3n, len_S, ne_S, *] | with_reducible refine cndK_d (fun hc => ?_) (fun hc => ?_) | with_reducible refine grdK_d (fun hc => ?_) (fun hc => ?_) | with_reducible refine cndK_i (fun hc => ?_) (fun hc => ?_) | with_reducible refine grdK_i (fun hc => ?_) (fun hc => ?_))
          exact g.h
    · rw [hn] at hnu
      have g := bad.h h1 l1 hnu.h
      replace g := Hid.mk g
      clear hn l1
      cases l with
      | nil =>
        have e : ¬ (1 : Int) < (([] : List UInt8).length : Int) := by decide
        repeat' (first | simp -implicitDefEqProofs only [W_skip, W_reg, W_seq, W_rcond, W_cond, W_block, W_loop, W_exit, W_ret, thenQ_normal, thenQ_exit, thenQ_ret, blockQ_normal, blockQ_ret, blockQ_here, regQ_app, rcQ_app, cndK_t, cndK_f, RegW_nil, RegW_none, RegW_some, contW_app, grdK_tt, grdK_ff, grdK_tf, grdK_ft, grdK_undef, actK_p, actK_r, actK_a, actK_w, actK_call, actK_callV, heapK_app, allocK_app, writeK_app, ret1_ret, ret1_normal, ret0_ret, ret0_normal, ret2_ret2, thenK_app, retcv_ret, retcvK_app, optW_some, evs, Arg.ev, aP, aR, aA, aW, pMov, pBin, pUn, pConv, pPick, pFieldAddr, pNilCheck, pExtract, aBin, aUn, aInt, aNew, partL_f, upd, List.getElem?_cons_zero, List.getElem?_cons_succ, List.getD_cons_zero, List.getD_cons_succ, List.set_cons_zero, List.set_cons_succ, Nat.zero_add, Nat.add_zero, List.getElem?_toArray, List.take_zero, List.drop_zero, List.take_succ_cons, List.drop_succ_cons, if_true, if_false, decide_true, decide_false, Bool.false_eq_true, Bool.true_eq_false, Bool.not_true, Bool.not_false, not_true_eq_false, not_false_eq_true, ge_iff_le, gt_iff_lt, beq_self_eq_true, bne_self_eq_false, and_self, and_true, true_and, Option.isSome_some, Heap.get_alloc_same, Heap.alloc_getE, extract0, extract1, isNil3i, len_S, *] | with_reducible refine cndK_d (fun hc => ?_) (fun hc => ?_) | with_reducible refine grdK_d (fun hc => ?_) (fun hc => ?_) | with_reducible refine cndK_i (fun hc => ?_) (fun hc => ?_) | with_reducible refine grdK_i (fun hc => ?_) (fun hc => ?_))
        exact g.h
      | cons b0 r =>
      obtain ⟨l, hl'⟩ : ∃ l, b0 :: r = l := ⟨_, rfl⟩
      have hb : l[0]? = some b0 := by rw [← hl']; rfl
      rw [hl']
      have ix := idx_S hb .i64
      rw [Int.ofNat_zero] at ix
      clear hl' hb hnu bad good
      by_cases h1' : (1 : Int) < l.length
      · cases h48 : ((b0.toNat : Int) == 48)
        all_goals
          repeat' (first | simp -implicitDefEqProofs only [W_skip, W_reg, W_seq, W_rcond, W_cond, W_block, W_loop, W_exit, W_ret, thenQ_normal, thenQ_exit, thenQ_ret, blockQ_normal, blockQ_ret, blockQ_here, regQ_app, rcQ_app, cndK_t, cndK_f, RegW_nil, RegW_none, RegW_some, contW_app, grdK_tt, grdK_ff, grdK_tf, grdK_ft, grdK_undef, actK_p, actK_r, actK_a, actK_w, actK_call, actK_callV, heapK_app, allocK_app, writeK_app, ret1_ret, ret1_normal, ret0_ret, ret0_normal, ret2_ret2, thenK_app, retcv_ret, retcvK_app, optW_some, evs, Arg.ev, aP, aR, aA, aW, pMov, pBin, pUn, pConv, pPick, pFieldAddr, pNilCheck, pExtract, aBin, aUn, aInt, aNew, partL_f, upd, List.getElem?_cons_zero, List.getElem?_cons_succ, List.getD_cons_zero, List.getD_cons_succ, List.set_cons_zero, List.set_cons_succ, Nat.zero_add, Nat.add_zero, List.getElem?_toArray, List.take_zero, List.drop_zero, List.take_succ_cons, List.drop_succ_cons, if_true, if_false, decide_true, decide_false, Bool.false_eq_true, Bool.true_eq_false, Bool.not_true, Bool.not_false, not_true_eq_false, not_false_eq_true, ge_iff_le, gt_iff_lt, beq_self_eq_true, bne_self_eq_false, and_self, and_true, true_and, Option.isSome_some, Heap.get_alloc_same, Heap.alloc_getE, extract0, extract1, isNil3i, len_S, *] | with_reducible refine cndK_d (fun hc => ?_) (fun hc => ?_) | with_reducible refine grdK_d (fun hc => ?_) (fun hc => ?_) | with_reducible refine cndK_i (fun hc => ?_) (fun hc => ?_) | with_reducible refine grdK_i (fun hc => ?_) (fun hc => ?_))
          exact g.h
      · repeat' (first | simp -implicitDefEqProofs only [W_skip, W_reg, W_seq, W_rcond, W_cond, W_block, W_loop, W_exit, W_ret, thenQ_normal, thenQ_exit, thenQ_ret, blockQ_normal, blockQ_ret, blockQ_here, regQ_app, rcQ_app, cndK_t, cndK_f, RegW_nil, RegW_none, RegW_some, contW_app, grdK_tt, grdK_ff, grdK_tf, grdK_ft, grdK_undef, actK_p, actK_r, actK_a, actK_w, actK_call, actK_callV, heapK_app, allocK_app, writeK_app, ret1_ret, ret1_normal, ret0_ret, ret0_normal, ret2_ret2, thenK_app, retcv_ret, retcvK_app, optW_some, evs, Arg.ev, aP, aR, aA, aW, pMov, pBin, pUn, pConv, pPick, pFieldAddr, pNilCheck, pExtract, aBin, aUn, aInt, aNew, partL_f, upd, List.getElem?_cons_zero, List.getElem?_cons_succ, List.getD_cons_zero, List.getD_cons_succ, List.set_cons_zero, List.set_cons_succ, Nat.zero_add, Nat.add_zero, List.getElem?_toArray, List.take_zero, List.drop_zero, List.take_succ_cons, List.drop_succ_cons, if_true, if_false, decide_true, decide_false, Bool.false_eq_true, Bool.true_eq_false, Bool.not_true, Bool.not_false, not_true_eq_false, not_false_eq_true, ge_iff_le, gt_iff_lt, beq_self_eq_true, bne_self_eq_false, and_self, and_true, true_and, Option.isSome_some, Heap.get_alloc_same, Heap.alloc_getE, extract0, extract1, isNil3i, len_S, *] | with_reducible refine cndK_d (fun hc => ?_) (fun hc => ?_) | with_reducible refine grdK_d (fun hc => ?_) (fun hc => ?_) | with_reducible refine cndK_i (fun hc => ?_) (fun hc => ?_) | with_reducible refine grdK_i (fun hc => ?_) (fun hc => ?_))
        exact g.h
end Go.Eng.Tk

set_option linter.unusedSimpArgs false
set_option linter.unusedVariables false
namespace Go.Eng.Tk
open Go Go.Eng Go.Proofs

/-- the token of letters and digits -/
def oneS (l : List UInt8) : Tok × Bool :=
  if isWord l then (⟨2, l, 0, 0⟩, true) else if isName l then (⟨1, l, 0, 0⟩, true) else (⟨3, l, (number l).getD 0, 0⟩, (number l).isSome)
theorem build2 (k : Int) (l : List UInt8) : pBuild [.int .i64 0, .string ⟨#[]⟩, .int .i64 0, .int .i64 0] [(0, 1), (1, 1)] [.int .i64 k, str l] = some (Tok.val ⟨k, l, 0, 0⟩) := by rfl
theorem build3 (k n : Int) (l : List UInt8) : pBuild [.int .i64 0, .string ⟨#[]⟩, .int .i64 0, .int .i64 0] [(0, 1), (1, 1), (2, 1)] [.int .i64 k, str l, .int .i64 n] = some (Tok.val ⟨k, l, n, 0⟩) := by rfl
def zeroTok : List Value := [.int .i64 0, .string ⟨#[]⟩, .int .i64 0, .int .i64 0]
theorem one_c {l : List UInt8} (hl : l.length ≤ 140737488355328) (h : Heap) (Q : Value → Heap → Prop) (hq : ∀ h', h.le h' → Q (.tuple #[(oneS l).1.val, .bool (oneS l).2]) h') : CallW Tryd.prog 33 [str l] h Q := by
  refine call_ofcv (k := 1) (agg := true) (size := 4) (j := 2) ok33 rfl rfl rfl fun N => ?_
  rw [show env0 c33 [str l] = [str l, undef, undef, undef, undef] from rfl]
  delta c33 c33_r0 c33_r1 c33_r2 c33_r3 c33_r4 c33_r5 c33_r6
  replace hq := Hid.mk hq
  obtain ⟨p, hpp⟩ : ∃ x, h.next = x := ⟨_, rfl⟩
  obtain ⟨h1, hh1⟩ : ∃ x, h.alloc (.blk [.int .i64 0, .string ⟨#[]⟩, .int .i64 0, .int .i64 0] true) = x := ⟨_, rfl⟩
  have g1 : h1.get p = some (.blk [.int .i64 0, .string ⟨#[]⟩, .int .i64 0, .int .i64 0] true) := by rw [← hh1, ← hpp]; exact Heap.get_alloc_same _ _
  have l1 : h.le h1 := by rw [← hh1]; exact (Heap.le.refl _).alloc _
  -- the end: the cell is written
  have fin : ∀ (h2 : Heap) (t : Tok), h1.le h2 → (oneS l).1 = t → (wStore 4 h2 [.pointer (some ⟨p, 0, none⟩), t.val] = some (undef, h2.set p (.blk t.cells true))) ∧ (h2.set p (.blk t.cells true)).get p = some (.blk [.int .i64 t.kind, str t.text, .int .i64 t.n, .int .i64 t.line] true) ∧ Q (.tuple #[t.val, .bool (oneS l).2]) (h2.set p (.blk t.cells true)) := by
    intro h2 t hl2 ht
    have g2 := hl2.get g1
    refine ⟨wStore_all g2 rfl rfl rfl rfl, Heap.set_getS _ _ _ (by rw [g2]; rfl), ?_⟩
    rw [← ht]
    exact hq.h _ ((l1.trans hl2).set (by omega) _)
  replace fin := Hid.mk fin
  clear hq
  repeat' (first | simp -implicitDefEqProofs only [W_skip, W_reg, W_seq, W_rcond, W_cond, W_block, W_loop, W_exit, W_ret, thenQ_normal, thenQ_exit, thenQ_ret, blockQ_normal, blockQ_ret, blockQ_here, regQ_app, rcQ_app, cndK_t, cndK_f, RegW_nil, RegW_none, RegW_some, contW_app, grdK_tt, grdK_ff, grdK_tf, grdK_ft, grdK_undef, actK_p, actK_r, actK_a, actK_w, actK_call, actK_callV, heapK_app, allocK_app, writeK_app, ret1_ret, ret1_normal, ret0_ret, ret0_normal, ret2_ret2, thenK_app, retcv_ret, retcvK_app, optW_some, evs, Arg.ev, aP, aR, aA, aW, pMov, pBin, pUn, pConv, pPick, pFieldAddr, pNilCheck, pExtract, aBin, aUn, aInt, aNew, partL_f, upd, List.getElem?_cons_zero, List.getElem?_cons_succ, List.getD_cons_zero, List.getD_cons_succ, List.set_cons_zero, List.set_cons_succ, Nat.zero_add, Nat.add_zero, List.getElem?_toArray, List.take_zero, List.drop_zero, List.take_succ_cons, List.drop_succ_cons, if_true, if_false, decide_true, decide_false, Bool.false_eq_true, Bool.true_eq_false, Bool.not_true, Bool.not_false, not_true_eq_false, not_false_eq_true, ge_iff_le, gt_iff_lt, beq_self_eq_true, bne_self_eq_false, and_self, and_true, true_and, Option.isSome_some, Heap.get_alloc_same, Heap.alloc_getE, *] | with_reducible refine cndK_d (fun hc => ?_) (fun hc => ?_) | with_reducible refine grdK_d (fun hc => ?_) (fun hc => ?_) | with_reducible refine cndK_i (fun hc => ?_) (fun hc => ?_) | with_reducible refine grdK_i (fun hc => ?_) (fun hc => ?_))
  refine word_c h1 _ fun h2 l2 => ?_
  cases hw : isWord l with
  | true =>
    obtain ⟨f1, f2, f3⟩ := fin.h h2 ⟨2, l, 0, 0⟩ l2 (by simp [oneS, hw])
    rw [show (oneS l).2 = true by simp [oneS, hw]] at f3
    replace f3 := Hid.mk f3
    obtain ⟨h3, hh3⟩ : ∃ x, h2.set p (.blk (Tok.cells ⟨2, l, 0, 0⟩) true) = x := ⟨_, rfl⟩
    rw [hh3] at f1 f2 f3
    replace hh3 := Hid.mk hh3
    have pt := part_tok 2 0 0 l
    clear l2 l1 g1
    repeat' (first | simp -implicitDefEqProofs only [W_skip, W_reg, W_seq, W_rcond, W_cond, W_block, W_loop, W_exit, W_ret, thenQ_normal, thenQ_exit, thenQ_ret, blockQ_normal, blockQ_ret, blockQ_here, regQ_app, rcQ_app, cndK_t, cndK_f, RegW_nil, RegW_none, RegW_some, contW_app, grdK_tt, grdK_ff, grdK_tf, grdK_ft, grdK_undef, actK_p, actK_r, actK_a, actK_w, actK_call, actK_callV, heapK_app, allocK_app, writeK_app, ret1_ret, ret1_normal, ret0_ret, ret0_normal, ret2_ret2, thenK_app, retcv_ret, retcvK_app, optW_some, evs, Arg.ev, aP, aR, aA, aW, pMov, pBin, pUn, pConv, pPick, pFieldAddr, pNilCheck, pExtract, aBin, aUn, aInt, aNew, partL_f, upd, List.getElem?_cons_zero, List.getElem?_cons_succ, List.getD_cons_zero, List.getD_cons_succ, List.set_cons_zero, List.set_cons_succ, Nat.zero_add, Nat.add_zero, List.getElem?_toArray, List.take_zero, List.drop_zero, List.take_succ_cons, List.drop_succ_cons, if_true, if_false, decide_true, decide_false, Bool.false_eq_true, Bool.true_eq_false, Bool.not_true, Bool.not_false, not_true_eq_false, not_false_eq_true, ge_iff_le, gt_iff_lt, beq_self_eq_true, bne_self_eq_false, and_self, and_true, true_and, Option.isSome_some, Heap.get_alloc_same, Heap.alloc_getE, build2, retcv_ret, retcvK_app, then2, *] | with_reducible refine cndK_d (fun hc => ?_) (fun hc => ?_) | with_reducible refine grdK_d (fun hc => ?_) (fun hc => ?_) | with_reducible refine cndK_i (fun hc => ?_) (fun hc => ?_) | with_reducible refine grdK_i (fun hc => ?_) (fun hc => ?_))
    exact f3.h
  | false =>
  repeat' (first | simp -implicitDefEqProofs only [W_skip, W_reg, W_seq, W_rcond, W_cond, W_block, W_loop, W_exit, W_ret, thenQ_normal, thenQ_exit, thenQ_ret, blockQ_normal, blockQ_ret, blockQ_here, regQ_app, rcQ_app, cndK_t, cndK_f, RegW_nil, RegW_none, RegW_some, contW_app, grdK_tt, grdK_ff, grdK_tf, grdK_ft, grdK_undef, actK_p, actK_r, actK_a, actK_w, actK_call, actK_callV, heapK_app, allocK_app, writeK_app, ret1_ret, ret1_normal, ret0_ret, ret0_normal, ret2_ret2, thenK_app, retcv_ret, retcvK_app, optW_some, evs, Arg.ev, aP, aR, aA, aW, pMov, pBin, pUn, pConv, pPick, pFieldAddr, pNilCheck, pExtract, aBin, aUn, aInt, aNew, partL_f, upd, List.getElem?_cons_zero, List.getElem?_cons_succ, List.getD_cons_zero, List.getD_cons_succ, List.set_cons_zero, List.set_cons_succ, Nat.zero_add, Nat.add_zero, List.getElem?_toArray, List.take_zero, List.drop_zero, List.take_succ_cons, List.drop_succ_cons, if_true, if_false, decide_true, decide_false, Bool.false_eq_true, Bool.true_eq_false, Bool.not_true, Bool.not_false, not_true_eq_false, not_false_eq_true, ge_iff_le, gt_iff_lt, beq_self_eq_true, bne_self_eq_false, and_self, and_true, true_and, Option.isSome_some, Heap.get_alloc_same, Heap.alloc_getE, *] | with_reducible refine cndK_d (fun hc => ?_) (fun hc => ?_) | with_reducible refine grdK_d (fun hc => ?_) (fun hc => ?_) | with_reducible refine cndK_i (fun hc => ?_) (fun hc => ?_) | with_reducible refine grdK_i (fun hc => ?_) (fun hc => ?_))
  refine name_c h2 _ fun h3 l3 => ?_
  replace l3 := l2.trans l3
  clear l2
  cases hn : isName l with
  | true =>
    obtain ⟨f1, f2, f3⟩ := fin.h h3 ⟨1, l, 0, 0⟩ l3 (by simp [oneS, hw, hn])
    rw [show (oneS l).2 = true by simp [oneS, hw, hn]] at f3
    replace f3 := Hid.mk f3
    obtain ⟨h4, hh3⟩ : ∃ x, h3.set p (.blk (Tok.cells ⟨1, l, 0, 0⟩) true) = x := ⟨_, rfl⟩
    rw [hh3] at f1 f2 f3
    replace hh3 := Hid.mk hh3
    have pt := part_tok 1 0 0 l
    clear l3 l1 g1
    repeat' (first | simp -implicitDefEqProofs only [W_skip, W_reg, W_seq, W_rcond, W_cond, W_block, W_loop, W_exit, W_ret, thenQ_normal, thenQ_exit, thenQ_ret, blockQ_normal, blockQ_ret, blockQ_here, regQ_app, rcQ_app, cndK_t, cndK_f, RegW_nil, RegW_none, RegW_some, contW_app, grdK_tt, grdK_ff, grdK_tf, grdK_ft, grdK_undef, actK_p, actK_r, actK_a, actK_w, actK_call, actK_callV, heapK_app, allocK_app, writeK_app, ret1_ret, ret1_normal, ret0_ret, ret0_normal, ret2_ret2, thenK_app, retcv_ret, retcvK_app, optW_some, evs, Arg.ev, aP, aR, aA, aW, pMov, pBin, pUn, pConv, pPick, pFieldAddr, pNilCheck, pExtract, aBin, aUn, aInt, aNew, partL_f, upd, List.getElem?_cons_zero, List.getElem?_cons_succ, List.getD_cons_zero, List.getD_cons_succ, List.set_cons_zero, List.set_cons_succ, Nat.zero_add, Nat.add_zero, List.getElem?_toArray, List.take_zero, List.drop_zero, List.take_succ_cons, List.drop_succ_cons, if_true, if_false, decide_true, decide_false, Bool.false_eq_true, Bool.true_eq_false, Bool.not_true, Bool.not_false, not_true_eq_false, not_false_eq_true, ge_iff_le, gt_iff_lt, beq_self_eq_true, bne_self_eq_false, and_self, and_true, true_and, Option.isSome_some, Heap.get_alloc_same, Heap.alloc_getE, build2, retcv_ret, retcvK_app, then2, *] | with_reducible refine cndK_d (fun hc => ?_) (fun hc => ?_) | with_reducible refine grdK_d (fun hc => ?_) (fun hc => ?_) | with_reducible refine cndK_i (fun hc => ?_) (fun hc => ?_) | with_reducible refine grdK_i (fun hc => ?_) (fun hc => ?_))
    exact f3.h
  | false =>
  repeat' (first | simp -implicitDefEqProofs only [W_skip, W_reg, W_seq, W_rcond, W_cond, W_block, W_loop, W_exit, W_ret, thenQ_normal, thenQ_exit, thenQ_ret, blockQ_normal, blockQ_ret, blockQ_here, regQ_app, rcQ_app, cndK_t, cndK_f, RegW_nil, RegW_none, RegW_some, contW_app, grdK_tt, grdK_ff, grdK_tf, grdK_ft, grdK_undef, actK_p, actK_r, actK_a, actK_w, actK_call, actK_callV, heapK_app, allocK_app, writeK_app, ret1_ret, ret1_normal, ret0_ret, ret0_normal, ret2_ret2, thenK_app, retcv_ret, retcvK_app, optW_some, evs, Arg.ev, aP, aR, aA, aW, pMov, pBin, pUn, pConv, pPick, pFieldAddr, pNilCheck, pExtract, aBin, aUn, aInt, aNew, partL_f, upd, List.getElem?_cons_zero, List.getElem?_cons_succ, List.getD_cons_zero, List.getD_cons_succ, List.set_cons_zero, List.set_cons_succ, Nat.zero_add, Nat.add_zero, List.getElem?_toArray, List.take_zero, List.drop_zero, List.take_succ_cons, List.drop_succ_cons, if_true, if_false, decide_true, decide_false, Bool.false_eq_true, Bool.true_eq_false, Bool.not_true, Bool.not_false, not_true_eq_false, not_false_eq_true, ge_iff_le, gt_iff_lt, beq_self_eq_true, bne_self_eq_false, and_self, and_true, true_and, Option.isSome_some, Heap.get_alloc_same, Heap.alloc_getE, *] | with_reducible refine cndK_d (fun hc => ?_) (fun hc => ?_) | with_reducible refine grdK_d (fun hc => ?_) (fun hc => ?_) | with_reducible refine cndK_i (fun hc => ?_) (fun hc => ?_) | with_reducible refine grdK_i (fun hc => ?_) (fun hc => ?_))
  refine number_c hl h3 _ fun h4 l4 => ?_
  replace l4 := l3.trans l4
  clear l3
  have o2 : (oneS l).2 = (number l).isSome := by simp [oneS, hw, hn]
  have o1 : (oneS l).1 = ⟨3, l, (number l).getD 0, 0⟩ := by simp [oneS, hw, hn]
  obtain ⟨z, hz⟩ : ∃ z : Int, (((number l).getD 0 : Nat) : Int) = z := ⟨_, rfl⟩
  obtain ⟨bb, hbb⟩ : ∃ b, (number l).isSome = b := ⟨_, rfl⟩
  rw [hz] at o1 ⊢
  rw [hbb] at o2 ⊢
  clear hz hbb
  obtain ⟨f1, f2, f3⟩ := fin.h h4 ⟨3, l, z, 0⟩ l4 o1
  rw [o2] at f3
  replace f3 := Hid.mk f3
  obtain ⟨h5, hh3⟩ : ∃ x, h4.set p (.blk (Tok.cells ⟨3, l, z, 0⟩) true) = x := ⟨_, rfl⟩
  rw [hh3] at f1 f2 f3
  replace hh3 := Hid.mk hh3
  have pt := part_tok 3 z 0 l
  clear l4 l1 g1 o1 o2
  repeat' (first | simp -implicitDefEqProofs only [W_skip, W_reg, W_seq, W_rcond, W_cond, W_block, W_loop, W_exit, W_ret, thenQ_normal, thenQ_exit, thenQ_ret, blockQ_normal, blockQ_ret, blockQ_here, regQ_app, rcQ_app, cndK_t, cndK_f, RegW_nil, RegW_none, RegW_some, contW_app, grdK_tt, grdK_ff, grdK_tf, grdK_ft, grdK_undef, actK_p, actK_r, actK_a, actK_w, actK_call, actK_callV, heapK_app, allocK_app, writeK_app, ret1_ret, ret1_normal, ret0_ret, ret0_normal, ret2_ret2, thenK_app, retcv_ret, retcvK_app, optW_some, evs, Arg.ev, aP, aR, aA, aW, pMov, pBin, pUn, pConv, pPick, pFieldAddr, pNilCheck, pExtract, aBin, aUn, aInt, aNew, partL_f, upd, List.getElem?_cons_zero, List.getElem?_cons_succ, List.getD_cons_zero, List.getD_cons_succ, List.set_cons_zero, List.set_cons_succ, Nat.zero_add, Nat.add_zero, List.getElem?_toArray, List.take_zero, List.drop_zero, List.take_succ_cons, List.drop_succ_cons, if_true, if_false, decide_true, decide_false, Bool.false_eq_true, Bool.true_eq_false, Bool.not_true, Bool.not_false, not_true_eq_false, not_false_eq_true, ge_iff_le, gt_iff_lt, beq_self_eq_true, bne_self_eq_false, and_self, and_true, true_and, Option.isSome_some, Heap.get_alloc_same, Heap.alloc_getE, build3, retcv_ret, retcvK_app, then2, extract0, extract1, *] | with_reducible refine cndK_d (fun hc => ?_) (fun hc => ?_) | with_reducible refine grdK_d (fun hc => ?_) (fun hc => ?_) | with_reducible refine cndK_i (fun hc => ?_) (fun hc => ?_) | with_reducible refine grdK_i (fun hc => ?_) (fun hc => ?_))
  exact f3.h
end Go.Eng.Tk

set_option linter.unusedSimpArgs false
set_option linter.unusedVariables false
namespace Go.Eng
open Go
theorem OwnS.but {h0 h h' : Heap} {s : Nat} {v : Value} {xs : List (List Value)} {p : Nat} (ha : OwnS h0 h s v xs) (hno : notOf v p) (hb : h.leBut p h') : OwnS h0 h' s v xs :=
  ha.get fun id hv hs => hb.get id (fun e => hno _ _ (e ▸ hv)) hs
theorem SlV.but {h h' : Heap} {s : Nat} {v : Value} {xs : List (List Value)} {p : Nat} (ha : SlV h s v xs) (hno : ∀ off n c, v ≠ .slice (some ⟨p, off, none⟩) n c) (hb : h.leBut p h') : SlV h' s v xs := by
  rcases ha with ha | ⟨id, off, hv, ha⟩
  · exact .inl ha
  · refine .inr ⟨id, off, hv, ha.imp (fun e => e) fun ⟨c, o, hg, hx⟩ => ⟨c, o, ?_, hx⟩⟩
    rw [hb.get id (fun e => hno _ _ _ (e ▸ hv)) (by rw [hg]; rfl)]; exact hg
end Go.Eng
namespace Go.Eng.Tk
open Go Go.Eng Go.Proofs

theorem Tok.cells_len (t : Tok) : t.cells.length = 4 := rfl
/-- tokens of one's own -/
abbrev Toks (h0 h : Heap) (v : Value) (ts : List Tok) : Prop := OwnS h0 h 4 v (ts.map Tok.cells)
theorem bslice_tok (t : Tok) : aBslice [.int .i64 0, .string ⟨#[]⟩, .int .i64 0, .int .i64 0] [(0, 4)] 1 4 [t.val] = some (t.cells, fun id => .slice (some ⟨id, 0, none⟩) 1 4) := aBslice_one rfl rfl rfl rfl
theorem toks_append {h0 h : Heap} {v : Value} {ts : List Tok} (ha : Toks h0 h v ts) (hle : h0.le h) (hl : ts.length ≤ 1000000) (t : Tok) :
    ∃ v' h', wAppend 4 40 (h.alloc (.blk t.cells true)) [v, .slice (some ⟨h.next, 0, none⟩) 1 4] = some (v', h') ∧ Toks h0 h' v' (ts ++ [t]) ∧ h0.le h' ∧ (∀ i, (h.get i).isSome = true → notOf v i → h'.get i = h.get i) ∧ (∀ i, (h.get i).isSome = true → notOf v' i) ∧ h.next ≤ h'.next := by
  have := OwnS.append1 ha hle (x := t.cells) rfl (by omega) (b := 40) (by simp; omega) (by simp; omega)
  unfold Toks
  rw [List.map_append]
  exact this
theorem pre_len {g l : List UInt8} (h : g.isPrefixOf l = true) : g.length ≤ l.length := (List.isPrefixOf_iff_prefix.1 h).length_le

theorem sign_loop {l : List UInt8} {m : Int} {p N : Nat} {h0 h : Heap} (hp : h.get p = some (.blk [str l, .int .i64 m] true)) (hp0 : h0.next ≤ p) {sv : Value} (hs : Strs h sv signsL) {out : Value} {ts : List Tok} (ho : Toks h0 h out ts) (hno : notOf out p) (hle : h0.le h) (hts : ts.length ≤ 1000000)
    {v0 v1 v2 v3 x6 x7 x8 x9 x13 : Value} {Q' : AExit → List Value → Heap → Prop}
    (hQ1 : signsL.find? (·.isPrefixOf l) = none → ∀ x9 x12 x13, Q' (.exit 2) [v0, v1, v2, v3, .pointer (some ⟨p, 0, none⟩), out, x6, x7, x8, x9, sv, .int .i64 25, x12, x13] h)
    (hQ2 : ∀ g out' h' x9 x12 x13, signsL.find? (·.isPrefixOf l) = some g → Toks h0 h' out' (ts ++ [⟨4, g, 0, m⟩]) → notOf out' p → h'.get p = some (.blk [str (l.drop g.length), .int .i64 m] true) → h0.le h' →
      Q' (.exit 1) [v0, v1, v2, v3, .pointer (some ⟨p, 0, none⟩), out', x6, x7, x8, x9, sv, .int .i64 25, x12, x13] h') :
    LoopW Tryd.prog N c18.vars c18_l19 [v0, v1, v2, v3, .pointer (some ⟨p, 0, none⟩), out, x6, x7, x8, x9, sv, .int .i64 25, .int .i64 0, x13] h Q' := by
  replace hQ1 := Hid.mk hQ1
  replace hQ2 := Hid.mk hQ2
  refine LoopW.upto 25 (fun i e h1 => h1 = h ∧ (signsL.take i).find? (·.isPrefixOf l) = none ∧ ∃ x9 x13, e = [v0, v1, v2, v3, .pointer (some ⟨p, 0, none⟩), out, x6, x7, x8, x9, sv, .int .i64 25, .int .i64 i, x13]) ?_ (Nat.zero_le _) ⟨rfl, rfl, _, _, rfl⟩
  rintro i _ _ R hi ⟨rfl, hpre, x9, x13, rfl⟩ hR
  replace hpre := Hid.mk hpre
  delta c18_l19 c18_r14 c18_r15 c18_r16 c18_r17 c18_r18
  by_cases hlt : i < 25
  case neg =>
    have hlt' : ¬ (i : Int) < 25 := by omega
    have hii : i = 25 := by omega
    have g := hQ1.h (by have := hpre.h; rw [hii] at this; exact this) x9 (.int .i64 i) (.bool false)
    replace g := Hid.mk g
    clear hii
    repeat' (first | simp -implicitDefEqProofs only [W_skip, W_reg, W_seq, W_rcond, W_cond, W_block, W_loop, W_exit, W_ret, thenQ_normal, thenQ_exit, thenQ_ret, blockQ_normal, blockQ_ret, blockQ_here, regQ_app, rcQ_app, cndK_t, cndK_f, RegW_nil, RegW_none, RegW_some, contW_app, grdK_tt, grdK_ff, grdK_tf, grdK_ft, grdK_undef, actK_p, actK_r, actK_a, actK_w, actK_call, actK_callV, heapK_app, allocK_app, writeK_app, ret1_ret, ret1_normal, ret0_ret, ret0_normal, ret2_ret2, thenK_app, retcv_ret, retcvK_app, optW_some, evs, Arg.ev, aP, aR, aA, aW, pMov, pBin, pUn, pConv, pPick, pFieldAddr, pNilCheck, pExtract, aBin, aUn, aInt, aNew, partL_f, upd, List.getElem?_cons_zero, List.getElem?_cons_succ, List.getD_cons_zero, List.getD_cons_succ, List.set_cons_zero, List.set_cons_succ, Nat.zero_add, Nat.add_zero, List.getElem?_toArray, List.take_zero, List.drop_zero, List.take_succ_cons, List.drop_succ_cons, if_true, if_false, decide_true, decide_false, Bool.false_eq_true, Bool.true_eq_false, Bool.not_true, Bool.not_false, not_true_eq_false, not_false_eq_true, ge_iff_le, gt_iff_lt, beq_self_eq_true, bne_self_eq_false, and_self, and_true, true_and, Option.isSome_some, Heap.get_alloc_same, Heap.alloc_getE, *] | with_reducible refine cndK_d (fun hc => ?_) (fun hc => ?_) | with_reducible refine grdK_d (fun hc => ?_) (fun hc => ?_) | with_reducible refine cndK_i (fun hc => ?_) (fun hc => ?_) | with_reducible refine grdK_i (fun hc => ?_) (fun hc => ?_))
    exact g.h
  case pos =>
    have hlt' : (i : Int) < 25 := by omega
    have hwj : IntKind.i64.wrap ((i : Int) + 1) = ((i + 1 : Nat) : Int) := by rw [wrapI (by omega) (by omega)]; rfl
    obtain ⟨g, hg⟩ : ∃ g, signsL[i]? = some g := ⟨_, List.getElem?_eq_getElem (show i < signsL.length from hlt)⟩
    obtain ⟨id, off, cells, own, e1, e2, e3, _⟩ := hs.elem hg
    replace hg := Hid.mk hg
    replace hs := Hid.mk hs
    replace ho := Hid.mk ho
    replace hno := Hid.mk hno
    repeat' (first | simp -implicitDefEqProofs only [W_skip, W_reg, W_seq, W_rcond, W_cond, W_block, W_loop, W_exit, W_ret, thenQ_normal, thenQ_exit, thenQ_ret, blockQ_normal, blockQ_ret, blockQ_here, regQ_app, rcQ_app, cndK_t, cndK_f, RegW_nil, RegW_none, RegW_some, contW_app, grdK_tt, grdK_ff, grdK_tf, grdK_ft, grdK_undef, actK_p, actK_r, actK_a, actK_w, actK_call, actK_callV, heapK_app, allocK_app, writeK_app, ret1_ret, ret1_normal, ret0_ret, ret0_normal, ret2_ret2, thenK_app, retcv_ret, retcvK_app, optW_some, evs, Arg.ev, aP, aR, aA, aW, pMov, pBin, pUn, pConv, pPick, pFieldAddr, pNilCheck, pExtract, aBin, aUn, aInt, aNew, partL_f, upd, List.getElem?_cons_zero, List.getElem?_cons_succ, List.getD_cons_zero, List.getD_cons_succ, List.set_cons_zero, List.set_cons_succ, Nat.zero_add, Nat.add_zero, List.getElem?_toArray, List.take_zero, List.drop_zero, List.take_succ_cons, List.drop_succ_cons, if_true, if_false, decide_true, decide_false, Bool.false_eq_true, Bool.true_eq_false, Bool.not_true, Bool.not_false, not_true_eq_false, not_false_eq_true, ge_iff_le, gt_iff_lt, beq_self_eq_true, bne_self_eq_false, and_self, and_true, true_and, Option.isSome_some, Heap.get_alloc_same, Heap.alloc_getE, *] | with_reducible refine cndK_d (fun hc => ?_) (fun hc => ?_) | with_reducible refine grdK_d (fun hc => ?_) (fun hc => ?_) | with_reducible refine cndK_i (fun hc => ?_) (fun hc => ?_) | with_reducible refine grdK_i (fun hc => ?_) (fun hc => ?_))
    refine hasPrefix_c _ _ ?_
    cases hpf : g.isPrefixOf l with
    | false =>
      have hnx : (signsL.take (i + 1)).find? (·.isPrefixOf l) = none := by
        rw [List.take_add_one, hg.h, List.find?_append, hpre.h]
        simp [hpf]
      replace hnx := Hid.mk hnx
      clear hpf
      repeat' (first | simp -implicitDefEqProofs only [W_skip, W_reg, W_seq, W_rcond, W_cond, W_block, W_loop, W_exit, W_ret, thenQ_normal, thenQ_exit, thenQ_ret, blockQ_normal, blockQ_ret, blockQ_here, regQ_app, rcQ_app, cndK_t, cndK_f, RegW_nil, RegW_none, RegW_some, contW_app, grdK_tt, grdK_ff, grdK_tf, grdK_ft, grdK_undef, actK_p, actK_r, actK_a, actK_w, actK_call, actK_callV, heapK_app, allocK_app, writeK_app, ret1_ret, ret1_normal, ret0_ret, ret0_normal, ret2_ret2, thenK_app, retcv_ret, retcvK_app, optW_some, evs, Arg.ev, aP, aR, aA, aW, pMov, pBin, pUn, pConv, pPick, pFieldAddr, pNilCheck, pExtract, aBin, aUn, aInt, aNew, partL_f, upd, List.getElem?_cons_zero, List.getElem?_cons_succ, List.getD_cons_zero, List.getD_cons_succ, List.set_cons_zero, List.set_cons_succ, Nat.zero_add, Nat.add_zero, List.getElem?_toArray, List.take_zero, List.drop_zero, List.take_succ_cons, List.drop_succ_cons, if_true, if_false, decide_true, decide_false, Bool.false_eq_true, Bool.true_eq_false, Bool.not_true, Bool.not_false, not_true_eq_false, not_false_eq_true, ge_iff_le, gt_iff_lt, beq_self_eq_true, bne_self_eq_false, and_self, and_true, true_and, Option.isSome_some, Heap.get_alloc_same, Heap.alloc_getE, *] | with_reducible refine cndK_d (fun hc => ?_) (fun hc => ?_) | with_reducible refine grdK_d (fun hc => ?_) (fun hc => ?_) | with_reducible refine cndK_i (fun hc => ?_) (fun hc => ?_) | with_reducible refine grdK_i (fun hc => ?_) (fun hc => ?_))
      exact hR.h _ _ hlt ⟨rfl, hnx.h, _, _, rfl⟩
    | true =>
      have hfi : signsL.find? (·.isPrefixOf l) = some g := by
        rw [← List.take_append_drop i signsL, List.find?_append, hpre.h]
        have : signsL.drop i = g :: signsL.drop (i + 1) := by
          rw [List.drop_eq_getElem_cons (show i < signsL.length from hlt)]
          congr 1
          exact (List.getElem?_eq_some_iff.1 hg.h).2
        rw [this]
        simp [hpf]
      have hgl := pre_len hpf
      clear hpf
      replace hfi := Hid.mk hfi
      repeat' (first | simp -implicitDefEqProofs only [W_skip, W_reg, W_seq, W_rcond, W_cond, W_block, W_loop, W_exit, W_ret, thenQ_normal, thenQ_exit, thenQ_ret, blockQ_normal, blockQ_ret, blockQ_here, regQ_app, rcQ_app, cndK_t, cndK_f, RegW_nil, RegW_none, RegW_some, contW_app, grdK_tt, grdK_ff, grdK_tf, grdK_ft, grdK_undef, actK_p, actK_r, actK_a, actK_w, actK_call, actK_callV, heapK_app, allocK_app, writeK_app, ret1_ret, ret1_normal, ret0_ret, ret0_normal, ret2_ret2, thenK_app, retcv_ret, retcvK_app, optW_some, evs, Arg.ev, aP, aR, aA, aW, pMov, pBin, pUn, pConv, pPick, pFieldAddr, pNilCheck, pExtract, aBin, aUn, aInt, aNew, partL_f, upd, List.getElem?_cons_zero, List.getElem?_cons_succ, List.getD_cons_zero, List.getD_cons_succ, List.set_cons_zero, List.set_cons_succ, Nat.zero_add, Nat.add_zero, List.getElem?_toArray, List.take_zero, List.drop_zero, List.take_succ_cons, List.drop_succ_cons, if_true, if_false, decide_true, decide_false, Bool.false_eq_true, Bool.true_eq_false, Bool.not_true, Bool.not_false, not_true_eq_false, not_false_eq_true, ge_iff_le, gt_iff_lt, beq_self_eq_true, bne_self_eq_false, and_self, and_true, true_and, Option.isSome_some, Heap.get_alloc_same, Heap.alloc_getE, build2, *] | with_reducible refine cndK_d (fun hc => ?_) (fun hc => ?_) | with_reducible refine grdK_d (fun hc => ?_) (fun hc => ?_) | with_reducible refine cndK_i (fun hc => ?_) (fun hc => ?_) | with_reducible refine grdK_i (fun hc => ?_) (fun hc => ?_))
      refine take_c (t := ⟨4, g, 0, 0⟩) hgl hp _ fun h1 l1 gp1 => ?_
      have ho1 := ho.h.but hno.h l1
      have hle1 := Heap.leBut.le hle hp0 l1
      obtain ⟨v', h2, a1, a2, a3, a4, a5, a6⟩ := toks_append ho1 hle1 hts ⟨4, g, 0, m⟩
      have gp2 : h2.get p = some (.blk [str (l.drop g.length), .int .i64 m] true) := by rw [a4 p (by rw [gp1]; rfl) hno.h]; exact gp1
      have fin := fun x9 x12 x13 => hQ2.h g v' h2 x9 x12 x13 hfi.h a2 (a5 p (by rw [gp1]; rfl)) gp2 a3
      have bt := bslice_tok ⟨4, g, 0, m⟩
      replace fin := Hid.mk fin
      clear a2 a3 a4 a5 a6 gp2 gp1 l1 ho1 hle1
      repeat' (first | simp -implicitDefEqProofs only [W_skip, W_reg, W_seq, W_rcond, W_cond, W_block, W_loop, W_exit, W_ret, thenQ_normal, thenQ_exit, thenQ_ret, blockQ_normal, blockQ_ret, blockQ_here, regQ_app, rcQ_app, cndK_t, cndK_f, RegW_nil, RegW_none, RegW_some, contW_app, grdK_tt, grdK_ff, grdK_tf, grdK_ft, grdK_undef, actK_p, actK_r, actK_a, actK_w, actK_call, actK_callV, heapK_app, allocK_app, writeK_app, ret1_ret, ret1_normal, ret0_ret, ret0_normal, ret2_ret2, thenK_app, retcv_ret, retcvK_app, optW_some, evs, Arg.ev, aP, aR, aA, aW, pMov, pBin, pUn, pConv, pPick, pFieldAddr, pNilCheck, pExtract, aBin, aUn, aInt, aNew, partL_f, upd, List.getElem?_cons_zero, List.getElem?_cons_succ, List.getD_cons_zero, List.getD_cons_succ, List.set_cons_zero, List.set_cons_succ, Nat.zero_add, Nat.add_zero, List.getElem?_toArray, List.take_zero, List.drop_zero, List.take_succ_cons, List.drop_succ_cons, if_true, if_false, decide_true, decide_false, Bool.false_eq_true, Bool.true_eq_false, Bool.not_true, Bool.not_false, not_true_eq_false, not_false_eq_true, ge_iff_le, gt_iff_lt, beq_self_eq_true, bne_self_eq_false, and_self, and_true, true_and, Option.isSome_some, Heap.get_alloc_same, Heap.alloc_getE, *] | with_reducible refine cndK_d (fun hc => ?_) (fun hc => ?_) | with_reducible refine grdK_d (fun hc => ?_) (fun hc => ?_) | with_reducible refine cndK_i (fun hc => ?_) (fun hc => ?_) | with_reducible refine grdK_i (fun hc => ?_) (fun hc => ?_))
      exact fin.h _ _ _
end Go.Eng.Tk

set_option linter.unusedSimpArgs false
set_option linter.unusedVariables false
namespace Go.Eng.Tk
open Go Go.Eng Go.Proofs

/-- a text's tokens, from where nothing is to be passed over -/
def scanP : Nat → List UInt8 → Int → List Tok × Int × Bool
  | 0, _, m => ([], m, true)
  | _ + 1, [], m => ([], m, true)
  | k + 1, b :: r, m =>
    if 0 < runN (b :: r) then
      if (oneS ((b :: r).take (runN (b :: r)))).2 then
        ({ (oneS ((b :: r).take (runN (b :: r)))).1 with line := m } :: (scanP k (skip false ((b :: r).drop (runN (b :: r))) m).1 (skip false ((b :: r).drop (runN (b :: r))) m).2).1,
          (scanP k (skip false ((b :: r).drop (runN (b :: r))) m).1 (skip false ((b :: r).drop (runN (b :: r))) m).2).2)
      else ([], m, false)
    else match signsL.find? (·.isPrefixOf (b :: r)) with
      | some g => (⟨4, g, 0, m⟩ :: (scanP k (skip false ((b :: r).drop g.length) m).1 (skip false ((b :: r).drop g.length) m).2).1,
          (scanP k (skip false ((b :: r).drop g.length) m).1 (skip false ((b :: r).drop g.length) m).2).2)
      | none => ([], m, false)
/-- a text's tokens, the line at the end, or false: the line of what is wrong -/
def scanS (l : List UInt8) : List Tok × Int × Bool := scanP (l.length + 1) (skip false l 1).1 (skip false l 1).2

theorem oneS_text (l : List UInt8) : (oneS l).1.text = l := by
  unfold oneS; split
  · rfl
  · split <;> rfl
theorem skip_sum : ∀ (c : Bool) (l : List UInt8) (n : Int), (skip c l n).2 + (skip c l n).1.length ≤ n + l.length
  | _, [], n => by simp [skip]
  | true, b :: r, n => by
    unfold skip
    split
    · have := skip_sum false r (n + 1); simp only [List.length_cons]; omega
    · have := skip_sum true r n; simp only [List.length_cons]; omega
  | false, b :: r, n => by
    unfold skip
    split
    · have := skip_sum false r n; simp only [List.length_cons]; omega
    · split
      · have := skip_sum false r (n + 1); simp only [List.length_cons]; omega
      · split
        · have := skip_sum true r n; simp only [List.length_cons]; omega
        · simp only [List.length_cons]; omega
theorem signs_pos {g : List UInt8} {l : List UInt8} (h : signsL.find? (·.isPrefixOf l) = some g) : 0 < g.length ∧ g.length ≤ l.length := by
  have h1 := List.mem_of_find?_eq_some h
  have h2 := List.find?_some h
  refine ⟨?_, pre_len h2⟩
  have : ∀ g ∈ signsL, 0 < g.length := by decide
  exact this g h1

theorem scan_loop {p N : Nat} {h0 : Heap} (hp0 : h0.next ≤ p) {v0 v1 v2 v3 : Value} {Q' : AExit → List Value → Heap → Prop} : ∀ (k : Nat) {l : List UInt8} {m : Int} {h : Heap} {out : Value} {ts : List Tok} {x6 x7 x8 x9 x10 x11 x12 x13 : Value},
    l.length < k → h.get p = some (.blk [str l, .int .i64 m] true) → Toks h0 h out ts → notOf out p → h0.le h → ts.length + l.length ≤ 1000000 → 0 ≤ m → m + l.length ≤ 1000000 →
    (∀ out' h' x6 x7 x8 x9 x10 x11 x12 x13, (scanP k l m).2.2 = true → Toks h0 h' out' (ts ++ (scanP k l m).1) → notOf out' p → h'.get p = some (.blk [str [], .int .i64 (scanP k l m).2.1] true) → h0.le h' →
      Q' (.exit 0) [v0, v1, v2, v3, .pointer (some ⟨p, 0, none⟩), out', x6, x7, x8, x9, x10, x11, x12, x13] h') →
    (∀ e' h', (scanP k l m).2.2 = false → h0.le h' → e'[1]? = some (.slice none 0 0) → e'[2]? = some (.int .i64 50) → e'[3]? = some (.int .i64 (scanP k l m).2.1) → Q' .ret e' h') →
    LoopW Tryd.prog N c18.vars c18_l22 [v0, v1, v2, v3, .pointer (some ⟨p, 0, none⟩), out, x6, x7, x8, x9, x10, x11, x12, x13] h Q'
  | 0, l, m, h, out, ts, _, _, _, _, _, _, _, _, hk, _, _, _, _, _, _, _, _, _ => by omega
  | k + 1, [], m, h, out, ts, x6, x7, x8, x9, x10, x11, x12, x13, hk, hp, ho, hno, hle, hts, hm, hml, hQ1, hQ2 => by
    refine LoopW.round ?_
    have g := hQ1 out h x6 x7 x8 x9 x10 x11 x12 x13 rfl (by simpa [scanP] using ho) hno hp hle
    replace g := Hid.mk g
    clear hQ1 hQ2
    replace ho := Hid.mk ho
    replace hno := Hid.mk hno
    delta c18_l22 c18_r6
    repeat' (first | simp -implicitDefEqProofs only [W_skip, W_reg, W_seq, W_rcond, W_cond, W_block, W_loop, W_exit, W_ret, thenQ_normal, thenQ_exit, thenQ_ret, blockQ_normal, blockQ_ret, blockQ_here, regQ_app, rcQ_app, cndK_t, cndK_f, RegW_nil, RegW_none, RegW_some, contW_app, grdK_tt, grdK_ff, grdK_tf, grdK_ft, grdK_undef, actK_p, actK_r, actK_a, actK_w, actK_call, actK_callV, heapK_app, allocK_app, writeK_app, ret1_ret, ret1_normal, ret0_ret, ret0_normal, ret2_ret2, thenK_app, retcv_ret, retcvK_app, optW_some, evs, Arg.ev, aP, aR, aA, aW, pMov, pBin, pUn, pConv, pPick, pFieldAddr, pNilCheck, pExtract, aBin, aUn, aInt, aNew, partL_f, upd, List.getElem?_cons_zero, List.getElem?_cons_succ, List.getD_cons_zero, List.getD_cons_succ, List.set_cons_zero, List.set_cons_succ, Nat.zero_add, Nat.add_zero, List.getElem?_toArray, List.take_zero, List.drop_zero, List.take_succ_cons, List.drop_succ_cons, if_true, if_false, decide_true, decide_false, Bool.false_eq_true, Bool.true_eq_false, Bool.not_true, Bool.not_false, not_true_eq_false, not_false_eq_true, ge_iff_le, gt_iff_lt, beq_self_eq_true, bne_self_eq_false, and_self, and_true, true_and, Option.isSome_some, Heap.get_alloc_same, Heap.alloc_getE, ne_S, *] | with_reducible refine cndK_d (fun hc => ?_) (fun hc => ?_) | with_reducible refine grdK_d (fun hc => ?_) (fun hc => ?_) | with_reducible refine cndK_i (fun hc => ?_) (fun hc => ?_) | with_reducible refine grdK_i (fun hc => ?_) (fun hc => ?_))
    exact g.h
  | k + 1, b :: r, m, h, out, ts, x6, x7, x8, x9, x10, x11, x12, x13, hk, hp, ho, hno, hle, hts, hm, hml, hQ1, hQ2 => by
    obtain ⟨l, hl⟩ : ∃ l, b :: r = l := ⟨_, rfl⟩
    have hne : (l == []) = false := by rw [← hl]; rfl
    have hsp : scanP (k + 1) l m = if 0 < runN l then
      if (oneS (l.take (runN l))).2 then
        ({ (oneS (l.take (runN l))).1 with line := m } :: (scanP k (skip false (l.drop (runN l)) m).1 (skip false (l.drop (runN l)) m).2).1,
          (scanP k (skip false (l.drop (runN l)) m).1 (skip false (l.drop (runN l)) m).2).2)
      else ([], m, false)
    else match signsL.find? (·.isPrefixOf l) with
      | some g => (⟨4, g, 0, m⟩ :: (scanP k (skip false (l.drop g.length) m).1 (skip false (l.drop g.length) m).2).1,
          (scanP k (skip false (l.drop g.length) m).1 (skip false (l.drop g.length) m).2).2)
      | none => ([], m, false) := by rw [← hl]; rfl
    rw [hl] at hk hp hts hml hQ1 hQ2
    clear hl
    refine LoopW.round ?_
    -- behind a token: what is no token's is passed over, and on
    have tail : ∀ (t : Tok) (w : Nat) (out' : Value) (h' : Heap) (x6 x7 x8 x9 x10 x11 x12 x13 : Value), 0 < w → w ≤ l.length →
        scanP (k + 1) l m = (t :: (scanP k (skip false (l.drop w) m).1 (skip false (l.drop w) m).2).1, (scanP k (skip false (l.drop w) m).1 (skip false (l.drop w) m).2).2) →
        Toks h0 h' out' (ts ++ [t]) → notOf out' p → h'.get p = some (.blk [str (l.drop w), .int .i64 m] true) → h0.le h' →
        CallW Tryd.prog 32 [.pointer (some ⟨p, 0, none⟩)] h' fun _ h2 => LoopW Tryd.prog N c18.vars c18_l22 [v0, v1, v2, v3, .pointer (some ⟨p, 0, none⟩), out', x6, x7, x8, x9, x10, x11, x12, x13] h2 Q' := by
      intro t w out' h' x6 x7 x8 x9 x10 x11 x12 x13 hw0 hwl hs ho' hno' hp' hle'
      have hdl : (l.drop w).length = l.length - w := by simp
      refine pass_c (by omega) ⟨hm, by omega⟩ hp' _ fun h2 l2 gp2 => ?_
      have hsl := skip_len false (l.drop w) m
      have hss := skip_sum false (l.drop w) m
      rw [hs] at hQ1 hQ2
      refine scan_loop hp0 k (by omega) gp2 (ho'.but hno' l2) hno' (Heap.leBut.le hle' hp0 l2) (by simp; omega) (by omega) (by omega) ?_ ?_
      · intro out3 h3 y6 y7 y8 y9 y10 y11 y12 y13 c1 c2 c3 c4 c5
        exact hQ1 out3 h3 y6 y7 y8 y9 y10 y11 y12 y13 c1 (by simpa using c2) c3 c4 c5
      · exact hQ2
    replace tail := Hid.mk tail
    replace hQ1 := Hid.mk hQ1
    replace hQ2 := Hid.mk hQ2
    replace ho := Hid.mk ho
    replace hno := Hid.mk hno
    replace hsp := Hid.mk hsp
    replace hle := Hid.mk hle
    delta c18_l22 c18_r6 c18_r7 c18_r8 c18_r9 c18_r10 c18_r11 c18_r12 c18_r13 c18_r20 c18_r21
    repeat' (first | simp -implicitDefEqProofs only [W_skip, W_reg, W_seq, W_rcond, W_cond, W_block, W_loop, W_exit, W_ret, thenQ_normal, thenQ_exit, thenQ_ret, blockQ_normal, blockQ_ret, blockQ_here, regQ_app, rcQ_app, cndK_t, cndK_f, RegW_nil, RegW_none, RegW_some, contW_app, grdK_tt, grdK_ff, grdK_tf, grdK_ft, grdK_undef, actK_p, actK_r, actK_a, actK_w, actK_call, actK_callV, heapK_app, allocK_app, writeK_app, ret1_ret, ret1_normal, ret0_ret, ret0_normal, ret2_ret2, thenK_app, retcv_ret, retcvK_app, optW_some, evs, Arg.ev, aP, aR, aA, aW, pMov, pBin, pUn, pConv, pPick, pFieldAddr, pNilCheck, pExtract, aBin, aUn, aInt, aNew, partL_f, upd, List.getElem?_cons_zero, List.getElem?_cons_succ, List.getD_cons_zero, List.getD_cons_succ, List.set_cons_zero, List.set_cons_succ, Nat.zero_add, Nat.add_zero, List.getElem?_toArray, List.take_zero, List.drop_zero, List.take_succ_cons, List.drop_succ_cons, if_true, if_false, decide_true, decide_false, Bool.false_eq_true, Bool.true_eq_false, Bool.not_true, Bool.not_false, not_true_eq_false, not_false_eq_true, ge_iff_le, gt_iff_lt, beq_self_eq_true, bne_self_eq_false, and_self, and_true, true_and, Option.isSome_some, Heap.get_alloc_same, Heap.alloc_getE, ne_S, *] | with_reducible refine cndK_d (fun hc => ?_) (fun hc => ?_) | with_reducible refine grdK_d (fun hc => ?_) (fun hc => ?_) | with_reducible refine cndK_i (fun hc => ?_) (fun hc => ?_) | with_reducible refine grdK_i (fun hc => ?_) (fun hc => ?_))
    refine run_c (by omega) h _ fun h1 l1 => ?_
    have gp1 := l1.get hp
    have ho1 := Hid.mk (ho.h.mono l1)
    have hle1 := Hid.mk (hle.h.trans l1)
    by_cases hr : 0 < runN l
    · have hr' : (0 : Int) < (runN l : Int) := by omega
      have hrl := runN_le l
      have ct := cutHi_S hrl
      obtain ⟨t, ht⟩ : ∃ x, oneS (l.take (runN l)) = x := ⟨_, rfl⟩
      have htx : t.1.text.length = runN l := by rw [← ht, oneS_text]; simp; omega
      have hsp2 := hsp.h
      rw [if_pos hr, ht] at hsp2
      replace hsp2 := Hid.mk hsp2
      repeat' (first | simp -implicitDefEqProofs only [W_skip, W_reg, W_seq, W_rcond, W_cond, W_block, W_loop, W_exit, W_ret, thenQ_normal, thenQ_exit, thenQ_ret, blockQ_normal, blockQ_ret, blockQ_here, regQ_app, rcQ_app, cndK_t, cndK_f, RegW_nil, RegW_none, RegW_some, contW_app, grdK_tt, grdK_ff, grdK_tf, grdK_ft, grdK_undef, actK_p, actK_r, actK_a, actK_w, actK_call, actK_callV, heapK_app, allocK_app, writeK_app, ret1_ret, ret1_normal, ret0_ret, ret0_normal, ret2_ret2, thenK_app, retcv_ret, retcvK_app, optW_some, evs, Arg.ev, aP, aR, aA, aW, pMov, pBin, pUn, pConv, pPick, pFieldAddr, pNilCheck, pExtract, aBin, aUn, aInt, aNew, partL_f, upd, List.getElem?_cons_zero, List.getElem?_cons_succ, List.getD_cons_zero, List.getD_cons_succ, List.set_cons_zero, List.set_cons_succ, Nat.zero_add, Nat.add_zero, List.getElem?_toArray, List.take_zero, List.drop_zero, List.take_succ_cons, List.drop_succ_cons, if_true, if_false, decide_true, decide_false, Bool.false_eq_true, Bool.true_eq_false, Bool.not_true, Bool.not_false, not_true_eq_false, not_false_eq_true, ge_iff_le, gt_iff_lt, beq_self_eq_true, bne_self_eq_false, and_self, and_true, true_and, Option.isSome_some, Heap.get_alloc_same, Heap.alloc_getE, *] | with_reducible refine cndK_d (fun hc => ?_) (fun hc => ?_) | with_reducible refine grdK_d (fun hc => ?_) (fun hc => ?_) | with_reducible refine cndK_i (fun hc => ?_) (fun hc => ?_) | with_reducible refine grdK_i (fun hc => ?_) (fun hc => ?_))
      refine one_c (by simp; omega) h1 _ fun h2 l2 => ?_
      rw [ht]
      obtain ⟨t, ok⟩ := t
      simp only at htx hsp2 ⊢
      have gp2 := l2.get gp1
      have ho2 := ho1.h.mono l2
      have hle2 := hle1.h.trans l2
      obtain ⟨q, hqq⟩ : ∃ x, h2.next = x := ⟨_, rfl⟩
      have hpq : p < q := by rw [← hqq]; exact Heap.lt_of_get gp2
      have st := wStore_new (h := h2) (size := 4) (zs := [.int .i64 0, .string ⟨#[]⟩, .int .i64 0, .int .i64 0]) (v := t.val) rfl rfl rfl rfl
      obtain ⟨h3, hh3⟩ : ∃ x, h2.alloc (.blk t.cells true) = x := ⟨_, rfl⟩
      have l3 : h2.le h3 := by rw [← hh3]; exact (Heap.le.refl _).alloc _
      have gq3 : h3.get q = some (.blk [.int .i64 t.kind, str t.text, .int .i64 t.n, .int .i64 t.line] true) := by rw [← hh3, ← hqq]; exact Heap.get_alloc_same _ _
      have st' : wStore 4 (h2.alloc (.blk [.int .i64 0, .string ⟨#[]⟩, .int .i64 0, .int .i64 0] true)) [.pointer (some ⟨q, 0, none⟩), t.val] = some (undef, h3) := by rw [← hh3, ← hqq]; exact st
      have gp3 := l3.get gp2
      have ho3 := Hid.mk (ho2.mono l3)
      have hle3 := Hid.mk (hle2.trans l3)
      clear st ho2 hle2 l3 l2 l1 ho1 hle1 ht
      replace hh3 := Hid.mk hh3
      cases ok with
      | false =>
        have g := fun e' a b c => hQ2.h e' h3 (by rw [hsp2.h]; rfl) hle3.h a b c
        rw [hsp2.h] at g
        replace g := Hid.mk g
        repeat' (first | simp -implicitDefEqProofs only [W_skip, W_reg, W_seq, W_rcond, W_cond, W_block, W_loop, W_exit, W_ret, thenQ_normal, thenQ_exit, thenQ_ret, blockQ_normal, blockQ_ret, blockQ_here, regQ_app, rcQ_app, cndK_t, cndK_f, RegW_nil, RegW_none, RegW_some, contW_app, grdK_tt, grdK_ff, grdK_tf, grdK_ft, grdK_undef, actK_p, actK_r, actK_a, actK_w, actK_call, actK_callV, heapK_app, allocK_app, writeK_app, ret1_ret, ret1_normal, ret0_ret, ret0_normal, ret2_ret2, thenK_app, retcv_ret, retcvK_app, optW_some, evs, Arg.ev, aP, aR, aA, aW, pMov, pBin, pUn, pConv, pPick, pFieldAddr, pNilCheck, pExtract, aBin, aUn, aInt, aNew, partL_f, upd, List.getElem?_cons_zero, List.getElem?_cons_succ, List.getD_cons_zero, List.getD_cons_succ, List.set_cons_zero, List.set_cons_succ, Nat.zero_add, Nat.add_zero, List.getElem?_toArray, List.take_zero, List.drop_zero, List.take_succ_cons, List.drop_succ_cons, if_true, if_false, decide_true, decide_false, Bool.false_eq_true, Bool.true_eq_false, Bool.not_true, Bool.not_false, not_true_eq_false, not_false_eq_true, ge_iff_le, gt_iff_lt, beq_self_eq_true, bne_self_eq_false, and_self, and_true, true_and, Option.isSome_some, Heap.get_alloc_same, Heap.alloc_getE, extract0, extract1, *] | with_reducible refine cndK_d (fun hc => ?_) (fun hc => ?_) | with_reducible refine grdK_d (fun hc => ?_) (fun hc => ?_) | with_reducible refine cndK_i (fun hc => ?_) (fun hc => ?_) | with_reducible refine grdK_i (fun hc => ?_) (fun hc => ?_))
        exact g.h _ rfl rfl rfl
      | true =>
        have pt := part_tok t.kind t.n t.line t.text
        repeat' (first | simp -implicitDefEqProofs only [W_skip, W_reg, W_seq, W_rcond, W_cond, W_block, W_loop, W_exit, W_ret, thenQ_normal, thenQ_exit, thenQ_ret, blockQ_normal, blockQ_ret, blockQ_here, regQ_app, rcQ_app, cndK_t, cndK_f, RegW_nil, RegW_none, RegW_some, contW_app, grdK_tt, grdK_ff, grdK_tf, grdK_ft, grdK_undef, actK_p, actK_r, actK_a, actK_w, actK_call, actK_callV, heapK_app, allocK_app, writeK_app, ret1_ret, ret1_normal, ret0_ret, ret0_normal, ret2_ret2, thenK_app, retcv_ret, retcvK_app, optW_some, evs, Arg.ev, aP, aR, aA, aW, pMov, pBin, pUn, pConv, pPick, pFieldAddr, pNilCheck, pExtract, aBin, aUn, aInt, aNew, partL_f, upd, List.getElem?_cons_zero, List.getElem?_cons_succ, List.getD_cons_zero, List.getD_cons_succ, List.set_cons_zero, List.set_cons_succ, Nat.zero_add, Nat.add_zero, List.getElem?_toArray, List.take_zero, List.drop_zero, List.take_succ_cons, List.drop_succ_cons, if_true, if_false, decide_true, decide_false, Bool.false_eq_true, Bool.true_eq_false, Bool.not_true, Bool.not_false, not_true_eq_false, not_false_eq_true, ge_iff_le, gt_iff_lt, beq_self_eq_true, bne_self_eq_false, and_self, and_true, true_and, Option.isSome_some, Heap.get_alloc_same, Heap.alloc_getE, extract0, extract1, *] | with_reducible refine cndK_d (fun hc => ?_) (fun hc => ?_) | with_reducible refine grdK_d (fun hc => ?_) (fun hc => ?_) | with_reducible refine cndK_i (fun hc => ?_) (fun hc => ?_) | with_reducible refine grdK_i (fun hc => ?_) (fun hc => ?_))
        refine take_c (t := t) (by omega) gp3 _ fun h4 l4 gp4 => ?_
        rw [htx] at gp4
        have ho4 := ho3.h.but hno.h l4
        have hle4 := Heap.leBut.le hle3.h hp0 l4
        obtain ⟨v', h5, a1, a2, a3, a4, a5, a6⟩ := toks_append ho4 hle4 (by omega) { t with line := m }
        have gp5 : h5.get p = some (.blk [str (l.drop (runN l)), .int .i64 m] true) := by rw [a4 p (by rw [gp4]; rfl) hno.h]; exact gp4
        have tl := fun x6 x7 x8 x9 x10 x11 x12 x13 => tail.h { t with line := m } (runN l) v' h5 x6 x7 x8 x9 x10 x11 x12 x13 hr hrl (by rw [hsp2.h, if_pos rfl]) a2 (a5 p (by rw [gp4]; rfl)) gp5 a3
        have bt := bslice_tok { t with line := m }
        replace tl := Hid.mk tl
        clear a2 a3 a4 a5 a6 gp5 gp4 l4 ho4 hle4
        repeat' (first | simp -implicitDefEqProofs only [W_skip, W_reg, W_seq, W_rcond, W_cond, W_block, W_loop, W_exit, W_ret, thenQ_normal, thenQ_exit, thenQ_ret, blockQ_normal, blockQ_ret, blockQ_here, regQ_app, rcQ_app, cndK_t, cndK_f, RegW_nil, RegW_none, RegW_some, contW_app, grdK_tt, grdK_ff, grdK_tf, grdK_ft, grdK_undef, actK_p, actK_r, actK_a, actK_w, actK_call, actK_callV, heapK_app, allocK_app, writeK_app, ret1_ret, ret1_normal, ret0_ret, ret0_normal, ret2_ret2, thenK_app, retcv_ret, retcvK_app, optW_some, evs, Arg.ev, aP, aR, aA, aW, pMov, pBin, pUn, pConv, pPick, pFieldAddr, pNilCheck, pExtract, aBin, aUn, aInt, aNew, partL_f, upd, List.getElem?_cons_zero, List.getElem?_cons_succ, List.getD_cons_zero, List.getD_cons_succ, List.set_cons_zero, List.set_cons_succ, Nat.zero_add, Nat.add_zero, List.getElem?_toArray, List.take_zero, List.drop_zero, List.take_succ_cons, List.drop_succ_cons, if_true, if_false, decide_true, decide_false, Bool.false_eq_true, Bool.true_eq_false, Bool.not_true, Bool.not_false, not_true_eq_false, not_false_eq_true, ge_iff_le, gt_iff_lt, beq_self_eq_true, bne_self_eq_false, and_self, and_true, true_and, Option.isSome_some, Heap.get_alloc_same, Heap.alloc_getE, *] | with_reducible refine cndK_d (fun hc => ?_) (fun hc => ?_) | with_reducible refine grdK_d (fun hc => ?_) (fun hc => ?_) | with_reducible refine cndK_i (fun hc => ?_) (fun hc => ?_) | with_reducible refine grdK_i (fun hc => ?_) (fun hc => ?_))
        refine (tl.h (.int .i64 (runN l)) (.pointer (some ⟨q, 0, none⟩)) (.bool true) x9 x10 x11 x12 x13).mono fun _ h6 _ hL => ?_
        repeat' (first | simp -implicitDefEqProofs only [W_skip, W_reg, W_seq, W_rcond, W_cond, W_block, W_loop, W_exit, W_ret, thenQ_normal, thenQ_exit, thenQ_ret, blockQ_normal, blockQ_ret, blockQ_here, regQ_app, rcQ_app, cndK_t, cndK_f, RegW_nil, RegW_none, RegW_some, contW_app, grdK_tt, grdK_ff, grdK_tf, grdK_ft, grdK_undef, actK_p, actK_r, actK_a, actK_w, actK_call, actK_callV, heapK_app, allocK_app, writeK_app, ret1_ret, ret1_normal, ret0_ret, ret0_normal, ret2_ret2, thenK_app, retcv_ret, retcvK_app, optW_some, evs, Arg.ev, aP, aR, aA, aW, pMov, pBin, pUn, pConv, pPick, pFieldAddr, pNilCheck, pExtract, aBin, aUn, aInt, aNew, partL_f, upd, List.getElem?_cons_zero, List.getElem?_cons_succ, List.getD_cons_zero, List.getD_cons_succ, List.set_cons_zero, List.set_cons_succ, Nat.zero_add, Nat.add_zero, List.getElem?_toArray, List.take_zero, List.drop_zero, List.take_succ_cons, List.drop_succ_cons, if_true, if_false, decide_true, decide_false, Bool.false_eq_true, Bool.true_eq_false, Bool.not_true, Bool.not_false, not_true_eq_false, not_false_eq_true, ge_iff_le, gt_iff_lt, beq_self_eq_true, bne_self_eq_false, and_self, and_true, true_and, Option.isSome_some, Heap.get_alloc_same, Heap.alloc_getE, *] | with_reducible refine cndK_d (fun hc => ?_) (fun hc => ?_) | with_reducible refine grdK_d (fun hc => ?_) (fun hc => ?_) | with_reducible refine cndK_i (fun hc => ?_) (fun hc => ?_) | with_reducible refine grdK_i (fun hc => ?_) (fun hc => ?_))
        exact hL
    · have hr' : ¬ (0 : Int) < (runN l : Int) := by omega
      have hsp2 := hsp.h
      rw [if_neg hr] at hsp2
      replace hsp2 := Hid.mk hsp2
      repeat' (first | simp -implicitDefEqProofs only [W_skip, W_reg, W_seq, W_rcond, W_cond, W_block, W_loop, W_exit, W_ret, thenQ_normal, thenQ_exit, thenQ_ret, blockQ_normal, blockQ_ret, blockQ_here, regQ_app, rcQ_app, cndK_t, cndK_f, RegW_nil, RegW_none, RegW_some, contW_app, grdK_tt, grdK_ff, grdK_tf, grdK_ft, grdK_undef, actK_p, actK_r, actK_a, actK_w, actK_call, actK_callV, heapK_app, allocK_app, writeK_app, ret1_ret, ret1_normal, ret0_ret, ret0_normal, ret2_ret2, thenK_app, retcv_ret, retcvK_app, optW_some, evs, Arg.ev, aP, aR, aA, aW, pMov, pBin, pUn, pConv, pPick, pFieldAddr, pNilCheck, pExtract, aBin, aUn, aInt, aNew, partL_f, upd, List.getElem?_cons_zero, List.getElem?_cons_succ, List.getD_cons_zero, List.getD_cons_succ, List.set_cons_zero, List.set_cons_succ, Nat.zero_add, Nat.add_zero, List.getElem?_toArray, List.take_zero, List.drop_zero, List.take_succ_cons, List.drop_succ_cons, if_true, if_false, decide_true, decide_false, Bool.false_eq_true, Bool.true_eq_false, Bool.not_true, Bool.not_false, not_true_eq_false, not_false_eq_true, ge_iff_le, gt_iff_lt, beq_self_eq_true, bne_self_eq_false, and_self, and_true, true_and, Option.isSome_some, Heap.get_alloc_same, Heap.alloc_getE, *] | with_reducible refine cndK_d (fun hc => ?_) (fun hc => ?_) | with_reducible refine grdK_d (fun hc => ?_) (fun hc => ?_) | with_reducible refine cndK_i (fun hc => ?_) (fun hc => ?_) | with_reducible refine grdK_i (fun hc => ?_) (fun hc => ?_))
      refine signs_c h1 _ fun sv h2 hs l2 => ?_
      have gp2 := l2.get gp1
      have ho2 := ho1.h.mono l2
      have hle2 := hle1.h.trans l2
      have hlen := hs.len
      have hsl : (signsL.length : Int) = 25 := rfl
      rw [hsl] at hlen
      clear hsl
      replace hs := Hid.mk hs
      replace ho2 := Hid.mk ho2
      replace hle2 := Hid.mk hle2
      repeat' (first | simp -implicitDefEqProofs only [W_skip, W_reg, W_seq, W_rcond, W_cond, W_block, W_loop, W_exit, W_ret, thenQ_normal, thenQ_exit, thenQ_ret, blockQ_normal, blockQ_ret, blockQ_here, regQ_app, rcQ_app, cndK_t, cndK_f, RegW_nil, RegW_none, RegW_some, contW_app, grdK_tt, grdK_ff, grdK_tf, grdK_ft, grdK_undef, actK_p, actK_r, actK_a, actK_w, actK_call, actK_callV, heapK_app, allocK_app, writeK_app, ret1_ret, ret1_normal, ret0_ret, ret0_normal, ret2_ret2, thenK_app, retcv_ret, retcvK_app, optW_some, evs, Arg.ev, aP, aR, aA, aW, pMov, pBin, pUn, pConv, pPick, pFieldAddr, pNilCheck, pExtract, aBin, aUn, aInt, aNew, partL_f, upd, List.getElem?_cons_zero, List.getElem?_cons_succ, List.getD_cons_zero, List.getD_cons_succ, List.set_cons_zero, List.set_cons_succ, Nat.zero_add, Nat.add_zero, List.getElem?_toArray, List.take_zero, List.drop_zero, List.take_succ_cons, List.drop_succ_cons, if_true, if_false, decide_true, decide_false, Bool.false_eq_true, Bool.true_eq_false, Bool.not_true, Bool.not_false, not_true_eq_false, not_false_eq_true, ge_iff_le, gt_iff_lt, beq_self_eq_true, bne_self_eq_false, and_self, and_true, true_and, Option.isSome_some, Heap.get_alloc_same, Heap.alloc_getE, *] | with_reducible refine cndK_d (fun hc => ?_) (fun hc => ?_) | with_reducible refine grdK_d (fun hc => ?_) (fun hc => ?_) | with_reducible refine cndK_i (fun hc => ?_) (fun hc => ?_) | with_reducible refine grdK_i (fun hc => ?_) (fun hc => ?_))
      refine sign_loop gp2 hp0 hs.h ho2.h hno.h hle2.h (by omega) ?_ ?_
      · intro hf x9 x12 x13
        have hsp3 := hsp2.h
        rw [hf] at hsp3
        simp only at hsp3
        have g := fun e' a b c => hQ2.h e' h2 (by rw [hsp3]) hle2.h a b c
        rw [hsp3] at g
        replace g := Hid.mk g
        clear hsp3 hf
        repeat' (first | simp -implicitDefEqProofs only [W_skip, W_reg, W_seq, W_rcond, W_cond, W_block, W_loop, W_exit, W_ret, thenQ_normal, thenQ_exit, thenQ_ret, blockQ_normal, blockQ_ret, blockQ_here, regQ_app, rcQ_app, cndK_t, cndK_f, RegW_nil, RegW_none, RegW_some, contW_app, grdK_tt, grdK_ff, grdK_tf, grdK_ft, grdK_undef, actK_p, actK_r, actK_a, actK_w, actK_call, actK_callV, heapK_app, allocK_app, writeK_app, ret1_ret, ret1_normal, ret0_ret, ret0_normal, ret2_ret2, thenK_app, retcv_ret, retcvK_app, optW_some, evs, Arg.ev, aP, aR, aA, aW, pMov, pBin, pUn, pConv, pPick, pFieldAddr, pNilCheck, pExtract, aBin, aUn, aInt, aNew, partL_f, upd, List.getElem?_cons_zero, List.getElem?_cons_succ, List.getD_cons_zero, List.getD_cons_succ, List.set_cons_zero, List.set_cons_succ, Nat.zero_add, Nat.add_zero, List.getElem?_toArray, List.take_zero, List.drop_zero, List.take_succ_cons, List.drop_succ_cons, if_true, if_false, decide_true, decide_false, Bool.false_eq_true, Bool.true_eq_false, Bool.not_true, Bool.not_false, not_true_eq_false, not_false_eq_true, ge_iff_le, gt_iff_lt, beq_self_eq_true, bne_self_eq_false, and_self, and_true, true_and, Option.isSome_some, Heap.get_alloc_same, Heap.alloc_getE, *] | with_reducible refine cndK_d (fun hc => ?_) (fun hc => ?_) | with_reducible refine grdK_d (fun hc => ?_) (fun hc => ?_) | with_reducible refine cndK_i (fun hc => ?_) (fun hc => ?_) | with_reducible refine grdK_i (fun hc => ?_) (fun hc => ?_))
        exact g.h _ rfl rfl rfl
      · intro g out' h3 x9 x12 x13 hf c1 c2 c3 c4
        have hsp3 := hsp2.h
        rw [hf] at hsp3
        simp only at hsp3
        obtain ⟨hg0, hgl⟩ := signs_pos hf
        have tl := fun x6 x7 x8 x9 x10 x11 x12 x13 => tail.h ⟨4, g, 0, m⟩ g.length out' h3 x6 x7 x8 x9 x10 x11 x12 x13 hg0 hgl hsp3 c1 c2 c3 c4
        replace tl := Hid.mk tl
        clear hsp3 hf c1 c2 c3 c4
        repeat' (first | simp -implicitDefEqProofs only [W_skip, W_reg, W_seq, W_rcond, W_cond, W_block, W_loop, W_exit, W_ret, thenQ_normal, thenQ_exit, thenQ_ret, blockQ_normal, blockQ_ret, blockQ_here, regQ_app, rcQ_app, cndK_t, cndK_f, RegW_nil, RegW_none, RegW_some, contW_app, grdK_tt, grdK_ff, grdK_tf, grdK_ft, grdK_undef, actK_p, actK_r, actK_a, actK_w, actK_call, actK_callV, heapK_app, allocK_app, writeK_app, ret1_ret, ret1_normal, ret0_ret, ret0_normal, ret2_ret2, thenK_app, retcv_ret, retcvK_app, optW_some, evs, Arg.ev, aP, aR, aA, aW, pMov, pBin, pUn, pConv, pPick, pFieldAddr, pNilCheck, pExtract, aBin, aUn, aInt, aNew, partL_f, upd, List.getElem?_cons_zero, List.getElem?_cons_succ, List.getD_cons_zero, List.getD_cons_succ, List.set_cons_zero, List.set_cons_succ, Nat.zero_add, Nat.add_zero, List.getElem?_toArray, List.take_zero, List.drop_zero, List.take_succ_cons, List.drop_succ_cons, if_true, if_false, decide_true, decide_false, Bool.false_eq_true, Bool.true_eq_false, Bool.not_true, Bool.not_false, not_true_eq_false, not_false_eq_true, ge_iff_le, gt_iff_lt, beq_self_eq_true, bne_self_eq_false, and_self, and_true, true_and, Option.isSome_some, Heap.get_alloc_same, Heap.alloc_getE, *] | with_reducible refine cndK_d (fun hc => ?_) (fun hc => ?_) | with_reducible refine grdK_d (fun hc => ?_) (fun hc => ?_) | with_reducible refine cndK_i (fun hc => ?_) (fun hc => ?_) | with_reducible refine grdK_i (fun hc => ?_) (fun hc => ?_))
        refine (tl.h (.int .i64 (runN l)) x7 x8 x9 sv (.int .i64 25) x12 x13).mono fun _ h6 _ hL => ?_
        repeat' (first | simp -implicitDefEqProofs only [W_skip, W_reg, W_seq, W_rcond, W_cond, W_block, W_loop, W_exit, W_ret, thenQ_normal, thenQ_exit, thenQ_ret, blockQ_normal, blockQ_ret, blockQ_here, regQ_app, rcQ_app, cndK_t, cndK_f, RegW_nil, RegW_none, RegW_some, contW_app, grdK_tt, grdK_ff, grdK_tf, grdK_ft, grdK_undef, actK_p, actK_r, actK_a, actK_w, actK_call, actK_callV, heapK_app, allocK_app, writeK_app, ret1_ret, ret1_normal, ret0_ret, ret0_normal, ret2_ret2, thenK_app, retcv_ret, retcvK_app, optW_some, evs, Arg.ev, aP, aR, aA, aW, pMov, pBin, pUn, pConv, pPick, pFieldAddr, pNilCheck, pExtract, aBin, aUn, aInt, aNew, partL_f, upd, List.getElem?_cons_zero, List.getElem?_cons_succ, List.getD_cons_zero, List.getD_cons_succ, List.set_cons_zero, List.set_cons_succ, Nat.zero_add, Nat.add_zero, List.getElem?_toArray, List.take_zero, List.drop_zero, List.take_succ_cons, List.drop_succ_cons, if_true, if_false, decide_true, decide_false, Bool.false_eq_true, Bool.true_eq_false, Bool.not_true, Bool.not_false, not_true_eq_false, not_false_eq_true, ge_iff_le, gt_iff_lt, beq_self_eq_true, bne_self_eq_false, and_self, and_true, true_and, Option.isSome_some, Heap.get_alloc_same, Heap.alloc_getE, *] | with_reducible refine cndK_d (fun hc => ?_) (fun hc => ?_) | with_reducible refine grdK_d (fun hc => ?_) (fun hc => ?_) | with_reducible refine cndK_i (fun hc => ?_) (fun hc => ?_) | with_reducible refine grdK_i (fun hc => ?_) (fun hc => ?_))
        exact ⟨fun e => e.elim, hL⟩
end Go.Eng.Tk

set_option linter.unusedSimpArgs false
set_option linter.unusedVariables false
namespace Go.Eng.Tk
open Go Go.Eng Go.Proofs

/-- the token at the end -/
def endT (m : Int) : Tok := ⟨5, [], 0, m⟩
/-- what Scan tells: tokens, error, line -/
def scanR (l : List UInt8) : List Tok × Int × Int :=
  if 20000 < l.length then ([], 2, 0) else if (scanS l).2.2 then ((scanS l).1 ++ [endT (scanS l).2.1], 0, 0) else ([], 50, (scanS l).2.1)
theorem build5 (k m : Int) : pBuild [.int .i64 0, .string ⟨#[]⟩, .int .i64 0, .int .i64 0] [(0, 1), (3, 1)] [.int .i64 5, .int .i64 m] = some (Tok.val ⟨5, [], 0, m⟩) := by rfl
theorem scanP_len : ∀ (k : Nat) (l : List UInt8) (m : Int), (scanP k l m).1.length ≤ l.length
  | 0, l, m => by simp [scanP]
  | k + 1, [], m => by simp [scanP]
  | k + 1, b :: r, m => by
    unfold scanP
    split
    · split
      · have h1 := scanP_len k (skip false ((b :: r).drop (runN (b :: r))) m).1 (skip false ((b :: r).drop (runN (b :: r))) m).2
        have h2 := skip_len false ((b :: r).drop (runN (b :: r))) m
        have h3 : ((b :: r).drop (runN (b :: r))).length = (b :: r).length - runN (b :: r) := by simp
        have h4 := runN_le (b :: r)
        simp only [List.length_cons] at *
        omega
      · simp
    · split
      · rename_i g hg
        have h1 := scanP_len k (skip false ((b :: r).drop g.length) m).1 (skip false ((b :: r).drop g.length) m).2
        have h2 := skip_len false ((b :: r).drop g.length) m
        have h3 : ((b :: r).drop g.length).length = (b :: r).length - g.length := by simp
        have h4 := signs_pos hg
        simp only [List.length_cons] at *
        omega
      · simp
theorem Scan_c {l : List UInt8} {h0 : Heap} (h : Heap) (hle : h0.le h) (Q : Value → Heap → Prop)
    (hq : ∀ v h', Toks h0 h' v (scanR l).1 → h0.le h' → Q (.tuple #[v, .int .i64 (scanR l).2.1, .int .i64 (scanR l).2.2]) h') : CallW Tryd.prog 18 [str l] h Q := by
  refine call_of3 (k := 1) (j := 2) (i := 3) ok18 rfl rfl rfl fun N => ?_
  rw [show env0 c18 [str l] = [str l, undef, undef, undef, undef, undef, undef, undef, undef, undef, undef, undef, undef, undef] from rfl]
  delta c18 c18_r0 c18_r1 c18_r2 c18_r3 c18_r4 c18_r5 c18_r23
  replace hq := Hid.mk hq
  by_cases hbig : 20000 < l.length
  · have hbig' : (20000 : Int) < (l.length : Int) := by omega
    have g := hq.h (.slice none 0 0) h (by unfold scanR; rw [if_pos hbig]; exact .nil _ _ _) hle
    have hr : scanR l = ([], 2, 0) := by unfold scanR; rw [if_pos hbig]
    rw [hr] at g
    replace g := Hid.mk g
    clear hbig
    repeat' (first | simp -implicitDefEqProofs only [W_skip, W_reg, W_seq, W_rcond, W_cond, W_block, W_loop, W_exit, W_ret, thenQ_normal, thenQ_exit, thenQ_ret, blockQ_normal, blockQ_ret, blockQ_here, regQ_app, rcQ_app, cndK_t, cndK_f, RegW_nil, RegW_none, RegW_some, contW_app, grdK_tt, grdK_ff, grdK_tf, grdK_ft, grdK_undef, actK_p, actK_r, actK_a, actK_w, actK_call, actK_callV, heapK_app, allocK_app, writeK_app, ret1_ret, ret1_normal, ret0_ret, ret0_normal, ret2_ret2, thenK_app, retcv_ret, retcvK_app, optW_some, evs, Arg.ev, aP, aR, aA, aW, pMov, pBin, pUn, pConv, pPick, pFieldAddr, pNilCheck, pExtract, aBin, aUn, aInt, aNew, partL_f, upd, List.getElem?_cons_zero, List.getElem?_cons_succ, List.getD_cons_zero, List.getD_cons_succ, List.set_cons_zero, List.set_cons_succ, Nat.zero_add, Nat.add_zero, List.getElem?_toArray, List.take_zero, List.drop_zero, List.take_succ_cons, List.drop_succ_cons, if_true, if_false, decide_true, decide_false, Bool.false_eq_true, Bool.true_eq_false, Bool.not_true, Bool.not_false, not_true_eq_false, not_false_eq_true, ge_iff_le, gt_iff_lt, beq_self_eq_true, bne_self_eq_false, and_self, and_true, true_and, Option.isSome_some, Heap.get_alloc_same, Heap.alloc_getE, W_scope, W_label, len_S, ret3_ret, then3a_app, *] | with_reducible refine cndK_d (fun hc => ?_) (fun hc => ?_) | with_reducible refine grdK_d (fun hc => ?_) (fun hc => ?_) | with_reducible refine cndK_i (fun hc => ?_) (fun hc => ?_) | with_reducible refine grdK_i (fun hc => ?_) (fun hc => ?_))
    exact g.h
  · have hbig' : ¬ (20000 : Int) < (l.length : Int) := by omega
    have hr : scanR l = if (scanS l).2.2 then ((scanS l).1 ++ [endT (scanS l).2.1], 0, 0) else ([], 50, (scanS l).2.1) := by unfold scanR; rw [if_neg hbig]
    replace hr := Hid.mk hr
    obtain ⟨p, hpp⟩ : ∃ x, h.next = x := ⟨_, rfl⟩
    have bx : aBox [.agg #[str l, .int .i64 1]] = some ([str l, .int .i64 1], fun id => .pointer (some ⟨id, 0, none⟩)) := by simp [aBox, Value.cells, Value.oneCell']
    have bl : pBuild [.string ⟨#[]⟩, .int .i64 0] [(0, 1), (1, 1)] [str l, .int .i64 1] = some (.agg #[str l, .int .i64 1]) := rfl
    obtain ⟨h1, hh1⟩ : ∃ x, h.alloc (.blk [str l, .int .i64 1] true) = x := ⟨_, rfl⟩
    have g1 : h1.get p = some (.blk [str l, .int .i64 1] true) := by rw [← hh1, ← hpp]; exact Heap.get_alloc_same _ _
    have l1 : h0.le h1 := by rw [← hh1]; exact hle.alloc _
    have hp0 : h0.next ≤ p := by rw [← hpp]; exact hle.next
    replace l1 := Hid.mk l1
    repeat' (first | simp -implicitDefEqProofs only [W_skip, W_reg, W_seq, W_rcond, W_cond, W_block, W_loop, W_exit, W_ret, thenQ_normal, thenQ_exit, thenQ_ret, blockQ_normal, blockQ_ret, blockQ_here, regQ_app, rcQ_app, cndK_t, cndK_f, RegW_nil, RegW_none, RegW_some, contW_app, grdK_tt, grdK_ff, grdK_tf, grdK_ft, grdK_undef, actK_p, actK_r, actK_a, actK_w, actK_call, actK_callV, heapK_app, allocK_app, writeK_app, ret1_ret, ret1_normal, ret0_ret, ret0_normal, ret2_ret2, thenK_app, retcv_ret, retcvK_app, optW_some, evs, Arg.ev, aP, aR, aA, aW, pMov, pBin, pUn, pConv, pPick, pFieldAddr, pNilCheck, pExtract, aBin, aUn, aInt, aNew, partL_f, upd, List.getElem?_cons_zero, List.getElem?_cons_succ, List.getD_cons_zero, List.getD_cons_succ, List.set_cons_zero, List.set_cons_succ, Nat.zero_add, Nat.add_zero, List.getElem?_toArray, List.take_zero, List.drop_zero, List.take_succ_cons, List.drop_succ_cons, if_true, if_false, decide_true, decide_false, Bool.false_eq_true, Bool.true_eq_false, Bool.not_true, Bool.not_false, not_true_eq_false, not_false_eq_true, ge_iff_le, gt_iff_lt, beq_self_eq_true, bne_self_eq_false, and_self, and_true, true_and, Option.isSome_some, Heap.get_alloc_same, Heap.alloc_getE, W_scope, W_label, len_S, *] | with_reducible refine cndK_d (fun hc => ?_) (fun hc => ?_) | with_reducible refine grdK_d (fun hc => ?_) (fun hc => ?_) | with_reducible refine cndK_i (fun hc => ?_) (fun hc => ?_) | with_reducible refine grdK_i (fun hc => ?_) (fun hc => ?_))
    refine pass_c (by omega) ⟨by omega, by omega⟩ g1 _ fun h2 l2 gp2 => ?_
    have hle2 := Heap.leBut.le l1.h hp0 l2
    have hsl := skip_len false l 1
    have hss := skip_sum false l 1
    have he : scanS l = scanP (l.length + 1) (skip false l 1).1 (skip false l 1).2 := rfl
    obtain ⟨l2', m2, hs2⟩ : ∃ a b, skip false l 1 = (a, b) := ⟨_, _, rfl⟩
    rw [hs2] at gp2 hsl hss he
    simp only at gp2 hsl hss he
    clear hs2 l2
    replace hle2 := Hid.mk hle2
    repeat' (first | simp -implicitDefEqProofs only [W_skip, W_reg, W_seq, W_rcond, W_cond, W_block, W_loop, W_exit, W_ret, thenQ_normal, thenQ_exit, thenQ_ret, blockQ_normal, blockQ_ret, blockQ_here, regQ_app, rcQ_app, cndK_t, cndK_f, RegW_nil, RegW_none, RegW_some, contW_app, grdK_tt, grdK_ff, grdK_tf, grdK_ft, grdK_undef, actK_p, actK_r, actK_a, actK_w, actK_call, actK_callV, heapK_app, allocK_app, writeK_app, ret1_ret, ret1_normal, ret0_ret, ret0_normal, ret2_ret2, thenK_app, retcv_ret, retcvK_app, optW_some, evs, Arg.ev, aP, aR, aA, aW, pMov, pBin, pUn, pConv, pPick, pFieldAddr, pNilCheck, pExtract, aBin, aUn, aInt, aNew, partL_f, upd, List.getElem?_cons_zero, List.getElem?_cons_succ, List.getD_cons_zero, List.getD_cons_succ, List.set_cons_zero, List.set_cons_succ, Nat.zero_add, Nat.add_zero, List.getElem?_toArray, List.take_zero, List.drop_zero, List.take_succ_cons, List.drop_succ_cons, if_true, if_false, decide_true, decide_false, Bool.false_eq_true, Bool.true_eq_false, Bool.not_true, Bool.not_false, not_true_eq_false, not_false_eq_true, ge_iff_le, gt_iff_lt, beq_self_eq_true, bne_self_eq_false, and_self, and_true, true_and, Option.isSome_some, Heap.get_alloc_same, Heap.alloc_getE, W_scope, W_label, len_S, *] | with_reducible refine cndK_d (fun hc => ?_) (fun hc => ?_) | with_reducible refine grdK_d (fun hc => ?_) (fun hc => ?_) | with_reducible refine cndK_i (fun hc => ?_) (fun hc => ?_) | with_reducible refine grdK_i (fun hc => ?_) (fun hc => ?_))
    refine scan_loop hp0 (l.length + 1) (by omega) gp2 (ts := []) (.nil h0 h2 4) (fun n s e => by cases e) hle2.h (by simp; omega) (by omega) (by omega) ?_ ?_
    · intro out' h3 x6 x7 x8 x9 x10 x11 x12 x13 c1 c2 c3 c4 c5
      rw [← he] at c1 c2 c4
      obtain ⟨v', h5, a1, a2, a3, a4, a5, a6⟩ := toks_append c2 c5 (by have := scanP_len (l.length + 1) l2' m2; rw [← he] at this; simp; omega) (endT (scanS l).2.1)
      have hr2 := hr.h
      rw [c1, if_pos rfl] at hr2
      have g := hq.h v' h5 (by rw [hr2]; simpa using a2) a3
      rw [hr2] at g
      replace g := Hid.mk g
      have bt := bslice_tok (endT (scanS l).2.1)
      obtain ⟨m3, hm3⟩ : ∃ x, (scanS l).2.1 = x := ⟨_, rfl⟩
      rw [hm3] at a1 bt c4
      have b5 := build5 0 m3
      have hen : endT m3 = ⟨5, [], 0, m3⟩ := rfl
      rw [hen] at a1 bt
      clear a2 a3 a4 a5 a6 c1 c2 c3 c5 hr2 he hen
      repeat' (first | simp -implicitDefEqProofs only [W_skip, W_reg, W_seq, W_rcond, W_cond, W_block, W_loop, W_exit, W_ret, thenQ_normal, thenQ_exit, thenQ_ret, blockQ_normal, blockQ_ret, blockQ_here, regQ_app, rcQ_app, cndK_t, cndK_f, RegW_nil, RegW_none, RegW_some, contW_app, grdK_tt, grdK_ff, grdK_tf, grdK_ft, grdK_undef, actK_p, actK_r, actK_a, actK_w, actK_call, actK_callV, heapK_app, allocK_app, writeK_app, ret1_ret, ret1_normal, ret0_ret, ret0_normal, ret2_ret2, thenK_app, retcv_ret, retcvK_app, optW_some, evs, Arg.ev, aP, aR, aA, aW, pMov, pBin, pUn, pConv, pPick, pFieldAddr, pNilCheck, pExtract, aBin, aUn, aInt, aNew, partL_f, upd, List.getElem?_cons_zero, List.getElem?_cons_succ, List.getD_cons_zero, List.getD_cons_succ, List.set_cons_zero, List.set_cons_succ, Nat.zero_add, Nat.add_zero, List.getElem?_toArray, List.take_zero, List.drop_zero, List.take_succ_cons, List.drop_succ_cons, if_true, if_false, decide_true, decide_false, Bool.false_eq_true, Bool.true_eq_false, Bool.not_true, Bool.not_false, not_true_eq_false, not_false_eq_true, ge_iff_le, gt_iff_lt, beq_self_eq_true, bne_self_eq_false, and_self, and_true, true_and, Option.isSome_some, Heap.get_alloc_same, Heap.alloc_getE, ret3_ret, then3a_app, *] | with_reducible refine cndK_d (fun hc => ?_) (fun hc => ?_) | with_reducible refine grdK_d (fun hc => ?_) (fun hc => ?_) | with_reducible refine cndK_i (fun hc => ?_) (fun hc => ?_) | with_reducible refine grdK_i (fun hc => ?_) (fun hc => ?_))
      exact g.h
    · intro e' h3 c1 c2 c3 c4 c5
      rw [← he] at c1 c5
      have hr2 := hr.h
      rw [c1, if_neg (by simp)] at hr2
      have g := hq.h (.slice none 0 0) h3 (by rw [hr2]; exact .nil _ _ _) c2
      rw [hr2] at g
      replace g := Hid.mk g
      clear c1 hr2 he c2
      repeat' (first | simp -implicitDefEqProofs only [W_skip, W_reg, W_seq, W_rcond, W_cond, W_block, W_loop, W_exit, W_ret, thenQ_normal, thenQ_exit, thenQ_ret, blockQ_normal, blockQ_ret, blockQ_here, regQ_app, rcQ_app, cndK_t, cndK_f, RegW_nil, RegW_none, RegW_some, contW_app, grdK_tt, grdK_ff, grdK_tf, grdK_ft, grdK_undef, actK_p, actK_r, actK_a, actK_w, actK_call, actK_callV, heapK_app, allocK_app, writeK_app, ret1_ret, ret1_normal, ret0_ret, ret0_normal, ret2_ret2, thenK_app, retcv_ret, retcvK_app, optW_some, evs, Arg.ev, aP, aR, aA, aW, pMov, pBin, pUn, pConv, pPick, pFieldAddr, pNilCheck, pExtract, aBin, aUn, aInt, aNew, partL_f, upd, List.getElem?_cons_zero, List.getElem?_cons_succ, List.getD_cons_zero, List.getD_cons_succ, List.set_cons_zero, List.set_cons_succ, Nat.zero_add, Nat.add_zero, List.getElem?_toArray, List.take_zero, List.drop_zero, List.take_succ_cons, List.drop_succ_cons, if_true, if_false, decide_true, decide_false, Bool.false_eq_true, Bool.true_eq_false, Bool.not_true, Bool.not_false, not_true_eq_false, not_false_eq_true, ge_iff_le, gt_iff_lt, beq_self_eq_true, bne_self_eq_false, and_self, and_true, true_and, Option.isSome_some, Heap.get_alloc_same, Heap.alloc_getE, ret3_ret, then3a_app, *] | with_reducible refine cndK_d (fun hc => ?_) (fun hc => ?_) | with_reducible refine grdK_d (fun hc => ?_) (fun hc => ?_) | with_reducible refine cndK_i (fun hc => ?_) (fun hc => ?_) | with_reducible refine grdK_i (fun hc => ?_) (fun hc => ?_))
      exact g.h
end Go.Eng.Tk

set_option linter.unusedSimpArgs false
set_option linter.unusedVariables false
namespace Go.Eng.Tk
open Go Go.Eng Go.Proofs

def blanksL : List (List UInt8) := [[32], [32, 32], [9], [32, 9, 32], [10], [32, 10, 10], [32, 35, 32, 120, 32, 61, 32, 49, 59, 10], [35, 10, 9]]
theorem bslice_blanks : aBslice [.string ⟨#[]⟩, .string ⟨#[]⟩, .string ⟨#[]⟩, .string ⟨#[]⟩, .string ⟨#[]⟩, .string ⟨#[]⟩, .string ⟨#[]⟩, .string ⟨#[]⟩] [(0, 1), (1, 1), (2, 1), (3, 1), (4, 1), (5, 1), (6, 1), (7, 1)] 8 1 [.string ⟨#[32]⟩, .string ⟨#[32, 32]⟩, .string ⟨#[9]⟩, .string ⟨#[32, 9, 32]⟩, .string ⟨#[10]⟩, .string ⟨#[32, 10, 10]⟩, .string ⟨#[32, 35, 32, 120, 32, 61, 32, 49, 59, 10]⟩, .string ⟨#[35, 10, 9]⟩] = some ([.string ⟨#[32]⟩, .string ⟨#[32, 32]⟩, .string ⟨#[9]⟩, .string ⟨#[32, 9, 32]⟩, .string ⟨#[10]⟩, .string ⟨#[32, 10, 10]⟩, .string ⟨#[32, 35, 32, 120, 32, 61, 32, 49, 59, 10]⟩, .string ⟨#[35, 10, 9]⟩], fun id => .slice (some ⟨id, 0, none⟩) 8 1) := bslice_ones rfl rfl rfl (by simp [Value.cells, Value.oneCell'])
def blanksV : List Value := [.string ⟨#[32]⟩, .string ⟨#[32, 32]⟩, .string ⟨#[9]⟩, .string ⟨#[32, 9, 32]⟩, .string ⟨#[10]⟩, .string ⟨#[32, 10, 10]⟩, .string ⟨#[32, 35, 32, 120, 32, 61, 32, 49, 59, 10]⟩, .string ⟨#[35, 10, 9]⟩]
def namesL : List (List UInt8) := [[120], [121], [110], [95, 97], [66, 50], [105, 102, 115], [104, 97, 114, 116], [108, 111, 99, 107, 49], [88, 95, 121, 95, 90], [72, 97, 108, 116]]
theorem bslice_names : aBslice [.string ⟨#[]⟩, .string ⟨#[]⟩, .string ⟨#[]⟩, .string ⟨#[]⟩, .string ⟨#[]⟩, .string ⟨#[]⟩, .string ⟨#[]⟩, .string ⟨#[]⟩, .string ⟨#[]⟩, .string ⟨#[]⟩] [(0, 1), (1, 1), (2, 1), (3, 1), (4, 1), (5, 1), (6, 1), (7, 1), (8, 1), (9, 1)] 10 1 [.string ⟨#[120]⟩, .string ⟨#[121]⟩, .string ⟨#[110]⟩, .string ⟨#[95, 97]⟩, .string ⟨#[66, 50]⟩, .string ⟨#[105, 102, 115]⟩, .string ⟨#[104, 97, 114, 116]⟩, .string ⟨#[108, 111, 99, 107, 49]⟩, .string ⟨#[88, 95, 121, 95, 90]⟩, .string ⟨#[72, 97, 108, 116]⟩] = some ([.string ⟨#[120]⟩, .string ⟨#[121]⟩, .string ⟨#[110]⟩, .string ⟨#[95, 97]⟩, .string ⟨#[66, 50]⟩, .string ⟨#[105, 102, 115]⟩, .string ⟨#[104, 97, 114, 116]⟩, .string ⟨#[108, 111, 99, 107, 49]⟩, .string ⟨#[88, 95, 121, 95, 90]⟩, .string ⟨#[72, 97, 108, 116]⟩], fun id => .slice (some ⟨id, 0, none⟩) 10 1) := bslice_ones rfl rfl rfl (by simp [Value.cells, Value.oneCell'])
def namesV : List Value := [.string ⟨#[120]⟩, .string ⟨#[121]⟩, .string ⟨#[110]⟩, .string ⟨#[95, 97]⟩, .string ⟨#[66, 50]⟩, .string ⟨#[105, 102, 115]⟩, .string ⟨#[104, 97, 114, 116]⟩, .string ⟨#[108, 111, 99, 107, 49]⟩, .string ⟨#[88, 95, 121, 95, 90]⟩, .string ⟨#[72, 97, 108, 116]⟩]
theorem bslice_words' : aBslice [.string ⟨#[]⟩, .string ⟨#[]⟩, .string ⟨#[]⟩, .string ⟨#[]⟩, .string ⟨#[]⟩, .string ⟨#[]⟩, .string ⟨#[]⟩, .string ⟨#[]⟩, .string ⟨#[]⟩, .string ⟨#[]⟩, .string ⟨#[]⟩, .string ⟨#[]⟩, .string ⟨#[]⟩] [(0, 1), (1, 1), (2, 1), (3, 1), (4, 1), (5, 1), (6, 1), (7, 1), (8, 1), (9, 1), (10, 1), (11, 1), (12, 1)] 13 1 [.string ⟨#[104, 97, 114, 116, 115]⟩, .string ⟨#[100, 101, 118, 105, 99, 101]⟩, .string ⟨#[117, 97, 114, 116]⟩, .string ⟨#[116, 105, 109, 101, 114]⟩, .string ⟨#[103, 112, 105, 111]⟩, .string ⟨#[114, 101, 115, 111, 117, 114, 99, 101]⟩, .string ⟨#[116, 97, 115, 107]⟩, .string ⟨#[104, 97, 110, 100, 108, 101, 114]⟩, .string ⟨#[108, 111, 99, 107]⟩, .string ⟨#[105, 102]⟩, .string ⟨#[101, 108, 115, 101]⟩, .string ⟨#[114, 101, 112, 101, 97, 116]⟩, .string ⟨#[104, 97, 108, 116]⟩] = some ([.string ⟨#[104, 97, 114, 116, 115]⟩, .string ⟨#[100, 101, 118, 105, 99, 101]⟩, .string ⟨#[117, 97, 114, 116]⟩, .string ⟨#[116, 105, 109, 101, 114]⟩, .string ⟨#[103, 112, 105, 111]⟩, .string ⟨#[114, 101, 115, 111, 117, 114, 99, 101]⟩, .string ⟨#[116, 97, 115, 107]⟩, .string ⟨#[104, 97, 110, 100, 108, 101, 114]⟩, .string ⟨#[108, 111, 99, 107]⟩, .string ⟨#[105, 102]⟩, .string ⟨#[101, 108, 115, 101]⟩, .string ⟨#[114, 101, 112, 101, 97, 116]⟩, .string ⟨#[104, 97, 108, 116]⟩], fun id => .slice (some ⟨id, 0, none⟩) 13 1) := bslice_ones rfl rfl rfl (by simp [Value.cells, Value.oneCell'])
example : wordsL = [[104, 97, 114, 116, 115], [100, 101, 118, 105, 99, 101], [117, 97, 114, 116], [116, 105, 109, 101, 114], [103, 112, 105, 111], [114, 101, 115, 111, 117, 114, 99, 101], [116, 97, 115, 107], [104, 97, 110, 100, 108, 101, 114], [108, 111, 99, 107], [105, 102], [101, 108, 115, 101], [114, 101, 112, 101, 97, 116], [104, 97, 108, 116]] := rfl
def wordsV : List Value := [.string ⟨#[104, 97, 114, 116, 115]⟩, .string ⟨#[100, 101, 118, 105, 99, 101]⟩, .string ⟨#[117, 97, 114, 116]⟩, .string ⟨#[116, 105, 109, 101, 114]⟩, .string ⟨#[103, 112, 105, 111]⟩, .string ⟨#[114, 101, 115, 111, 117, 114, 99, 101]⟩, .string ⟨#[116, 97, 115, 107]⟩, .string ⟨#[104, 97, 110, 100, 108, 101, 114]⟩, .string ⟨#[108, 111, 99, 107]⟩, .string ⟨#[105, 102]⟩, .string ⟨#[101, 108, 115, 101]⟩, .string ⟨#[114, 101, 112, 101, 97, 116]⟩, .string ⟨#[104, 97, 108, 116]⟩]
theorem bslice_signs' : aBslice [.string ⟨#[]⟩, .string ⟨#[]⟩, .string ⟨#[]⟩, .string ⟨#[]⟩, .string ⟨#[]⟩, .string ⟨#[]⟩, .string ⟨#[]⟩, .string ⟨#[]⟩, .string ⟨#[]⟩, .string ⟨#[]⟩, .string ⟨#[]⟩, .string ⟨#[]⟩, .string ⟨#[]⟩, .string ⟨#[]⟩, .string ⟨#[]⟩, .string ⟨#[]⟩, .string ⟨#[]⟩, .string ⟨#[]⟩, .string ⟨#[]⟩, .string ⟨#[]⟩, .string ⟨#[]⟩, .string ⟨#[]⟩, .string ⟨#[]⟩, .string ⟨#[]⟩, .string ⟨#[]⟩] [(0, 1), (1, 1), (2, 1), (3, 1), (4, 1), (5, 1), (6, 1), (7, 1), (8, 1), (9, 1), (10, 1), (11, 1), (12, 1), (13, 1), (14, 1), (15, 1), (16, 1), (17, 1), (18, 1), (19, 1), (20, 1), (21, 1), (22, 1), (23, 1), (24, 1)] 25 1 [.string ⟨#[61, 61]⟩, .string ⟨#[33, 61]⟩, .string ⟨#[60, 60]⟩, .string ⟨#[62, 62]⟩, .string ⟨#[60, 46]⟩, .string ⟨#[43]⟩, .string ⟨#[45]⟩, .string ⟨#[42]⟩, .string ⟨#[47]⟩, .string ⟨#[37]⟩, .string ⟨#[38]⟩, .string ⟨#[124]⟩, .string ⟨#[94]⟩, .string ⟨#[60]⟩, .string ⟨#[61]⟩, .string ⟨#[33]⟩, .string ⟨#[126]⟩, .string ⟨#[40]⟩, .string ⟨#[41]⟩, .string ⟨#[123]⟩, .string ⟨#[125]⟩, .string ⟨#[91]⟩, .string ⟨#[93]⟩, .string ⟨#[59]⟩, .string ⟨#[46]⟩] = some ([.string ⟨#[61, 61]⟩, .string ⟨#[33, 61]⟩, .string ⟨#[60, 60]⟩, .string ⟨#[62, 62]⟩, .string ⟨#[60, 46]⟩, .string ⟨#[43]⟩, .string ⟨#[45]⟩, .string ⟨#[42]⟩, .string ⟨#[47]⟩, .string ⟨#[37]⟩, .string ⟨#[38]⟩, .string ⟨#[124]⟩, .string ⟨#[94]⟩, .string ⟨#[60]⟩, .string ⟨#[61]⟩, .string ⟨#[33]⟩, .string ⟨#[126]⟩, .string ⟨#[40]⟩, .string ⟨#[41]⟩, .string ⟨#[123]⟩, .string ⟨#[125]⟩, .string ⟨#[91]⟩, .string ⟨#[93]⟩, .string ⟨#[59]⟩, .string ⟨#[46]⟩], fun id => .slice (some ⟨id, 0, none⟩) 25 1) := bslice_ones rfl rfl rfl (by simp [Value.cells, Value.oneCell'])
example : signsL = [[61, 61], [33, 61], [60, 60], [62, 62], [60, 46], [43], [45], [42], [47], [37], [38], [124], [94], [60], [61], [33], [126], [40], [41], [123], [125], [91], [93], [59], [46]] := rfl
def signsV : List Value := [.string ⟨#[61, 61]⟩, .string ⟨#[33, 61]⟩, .string ⟨#[60, 60]⟩, .string ⟨#[62, 62]⟩, .string ⟨#[60, 46]⟩, .string ⟨#[43]⟩, .string ⟨#[45]⟩, .string ⟨#[42]⟩, .string ⟨#[47]⟩, .string ⟨#[37]⟩, .string ⟨#[38]⟩, .string ⟨#[124]⟩, .string ⟨#[94]⟩, .string ⟨#[60]⟩, .string ⟨#[61]⟩, .string ⟨#[33]⟩, .string ⟨#[126]⟩, .string ⟨#[40]⟩, .string ⟨#[41]⟩, .string ⟨#[123]⟩, .string ⟨#[125]⟩, .string ⟨#[91]⟩, .string ⟨#[93]⟩, .string ⟨#[59]⟩, .string ⟨#[46]⟩]

/-- pick: of c, one of n -/
def pick (c n : Int) : Int := (if c < 0 then IntKind.i64.wrap (0 - IntKind.i64.wrap (c + 1)) else c).tmod n
def inI (z : Int) : Prop := -9223372036854775808 ≤ z ∧ z ≤ 9223372036854775807
theorem pick_range {c n : Int} (hc : inI c) (hn : 0 < n) : 0 ≤ pick c n ∧ pick c n < n := by
  unfold pick inI at *
  split
  · rw [wrapI (z := c + 1) (by omega) (by omega), wrapI (by omega) (by omega)]
    exact ⟨Int.tmod_nonneg _ (by omega), Int.tmod_lt_of_pos _ hn⟩
  · exact ⟨Int.tmod_nonneg _ (by omega), Int.tmod_lt_of_pos _ hn⟩
theorem pick_c (c n : Int) (hn : n ≠ 0) (h : Heap) (Q : Value → Heap → Prop) (hq : Q (.int .i64 (pick c n)) h) : CallW Tryd.prog 17 [.int .i64 c, .int .i64 n] h Q := by
  refine call_of1 (k := 2) ok17 rfl rfl rfl fun N => ?_
  rw [show env0 c17 [.int .i64 c, .int .i64 n] = [.int .i64 c, .int .i64 n, undef] from rfl]
  delta c17 c17_r0 c17_r1 c17_r2 c17_r3
  replace hq := Hid.mk hq
  have hq1 : c < 0 → Q (.int .i64 ((IntKind.i64.wrap (0 - IntKind.i64.wrap (c + 1))).tmod n)) h := fun hc => by have := hq.h; rwa [pick, if_pos hc] at this
  have hq2 : ¬ c < 0 → Q (.int .i64 (c.tmod n)) h := fun hc => by have := hq.h; rwa [pick, if_neg hc] at this
  replace hq1 := Hid.mk hq1
  replace hq2 := Hid.mk hq2
  repeat' (first | simp -implicitDefEqProofs only [W_skip, W_reg, W_seq, W_rcond, W_cond, W_block, W_loop, W_exit, W_ret, thenQ_normal, thenQ_exit, thenQ_ret, blockQ_normal, blockQ_ret, blockQ_here, regQ_app, rcQ_app, cndK_t, cndK_f, RegW_nil, RegW_none, RegW_some, contW_app, grdK_tt, grdK_ff, grdK_tf, grdK_ft, grdK_undef, actK_p, actK_r, actK_a, actK_w, actK_call, actK_callV, heapK_app, allocK_app, writeK_app, ret1_ret, ret1_normal, ret0_ret, ret0_normal, ret2_ret2, thenK_app, retcv_ret, retcvK_app, optW_some, evs, Arg.ev, aP, aR, aA, aW, pMov, pBin, pUn, pConv, pPick, pFieldAddr, pNilCheck, pExtract, aBin, aUn, aInt, aNew, partL_f, upd, List.getElem?_cons_zero, List.getElem?_cons_succ, List.getD_cons_zero, List.getD_cons_succ, List.set_cons_zero, List.set_cons_succ, Nat.zero_add, Nat.add_zero, List.getElem?_toArray, List.take_zero, List.drop_zero, List.take_succ_cons, List.drop_succ_cons, if_true, if_false, decide_true, decide_false, Bool.false_eq_true, Bool.true_eq_false, Bool.not_true, Bool.not_false, not_true_eq_false, not_false_eq_true, ge_iff_le, gt_iff_lt, beq_self_eq_true, bne_self_eq_false, and_self, and_true, true_and, Option.isSome_some, Heap.get_alloc_same, Heap.alloc_getE, *] | with_reducible refine cndK_d (fun hc => ?_) (fun hc => ?_) | with_reducible refine grdK_d (fun hc => ?_) (fun hc => ?_) | with_reducible refine cndK_i (fun hc => ?_) (fun hc => ?_) | with_reducible refine grdK_i (fun hc => ?_) (fun hc => ?_))
  · exact hq1.h (by assumption)
  · exact hq2.h (by assumption)
/-- .. as a number from 0 on -/
def pickN (c : Int) (n : Nat) : Nat := (pick c n).toNat
theorem pickN_lt {c : Int} (hc : inI c) {n : Nat} (hn : 0 < n) : pickN c n < n ∧ ((pickN c n : Nat) : Int) = pick c n := by
  have := pick_range (n := (n : Int)) hc (by omega)
  unfold pickN; omega

/-! ### numbers' texts -/
def decL (n : Nat) : List UInt8 := if 10 ≤ n then decL (n / 10) ++ [UInt8.ofNat (48 + n % 10)] else [UInt8.ofNat (48 + n % 10)]
def hexD : List UInt8 := [48, 49, 50, 51, 52, 53, 54, 55, 56, 57, 97, 98, 99, 100, 101, 102]
def hexL (n : Nat) : List UInt8 := if 16 ≤ n then hexL (n / 16) ++ (hexD.take (n % 16 + 1)).drop (n % 16) else (hexD.take (n % 16 + 1)).drop (n % 16)
theorem decL_len : ∀ (k n : Nat), n < 10 ^ (k + 1) → (decL n).length ≤ k + 1
  | 0, n, h => by unfold decL; split <;> simp; omega
  | k + 1, n, h => by
    unfold decL
    split
    · have := decL_len k (n / 10) (by rw [Nat.pow_succ] at h; omega)
      simp; omega
    · simp
theorem hexL_len : ∀ (k n : Nat), n < 16 ^ (k + 1) → (hexL n).length ≤ k + 1
  | 0, n, h => by
    unfold hexL; split
    · omega
    · simp; omega
  | k + 1, n, h => by
    unfold hexL
    split
    · have := hexL_len k (n / 16) (by rw [Nat.pow_succ] at h; omega)
      simp; omega
    · simp; omega
theorem dec_byte (n : Nat) : (IntKind.u8.wrap (48 + ((n : Int).tmod 10))) = ((UInt8.ofNat (48 + n % 10)).toNat : Int) := by
  have h1 : (n : Int).tmod 10 = ((n % 10 : Nat) : Int) := by
    rw [Int.tmod_eq_emod_of_nonneg (by omega)]; omega
  rw [h1, wrap8 (by omega) (by omega)]
  simp
  omega
theorem bytesStr1 {h : Heap} {id : Nat} {b : UInt8} {o : Bool} (hg : h.get id = some (.blk [.int .u8 b.toNat] o)) : aR .bytesStr [.slice (some ⟨id, 0, none⟩) 1 1] h.get = some (str [b]) := by
  simp [aR, hg, bytesL]
theorem decimal_c (n : Nat) : ∀ (hn : n ≤ 9223372036854775807) (h : Heap) (Q : Value → Heap → Prop), (∀ h', h.le h' → Q (str (decL n)) h') → CallW Tryd.prog 24 [.int .i64 n] h Q := by
  induction n using Nat.strongRecOn with
  | _ n ih =>
  intro hn h Q hq
  have hb := dec_byte n
  have h48 : IntKind.i64.wrap (48 + (n : Int).tmod 10) = 48 + (n : Int).tmod 10 := by
    have h1 : (n : Int).tmod 10 = ((n % 10 : Nat) : Int) := by
      rw [Int.tmod_eq_emod_of_nonneg (by omega)]; omega
    rw [h1]; exact wrapI (by omega) (by omega)
  refine call_of1 (k := 1) ok24 rfl rfl rfl fun N => ?_
  rw [show env0 c24 [.int .i64 n] = [.int .i64 n, undef, undef] from rfl]
  delta c24 c24_r0 c24_r1 c24_r2 c24_r3 c24_r4
  replace hq := Hid.mk hq
  obtain ⟨q, hqq⟩ : ∃ x, h.next = x := ⟨_, rfl⟩
  have bs : aBslice [.int .u8 0] [(0, 1)] 1 1 [.int .u8 ((UInt8.ofNat (48 + n % 10)).toNat : Int)] = some ([.int .u8 ((UInt8.ofNat (48 + n % 10)).toNat : Int)], fun id => .slice (some ⟨id, 0, none⟩) 1 1) := aBslice_one rfl rfl rfl rfl
  obtain ⟨h1, hh1⟩ : ∃ x, h.alloc (.blk [.int .u8 ((UInt8.ofNat (48 + n % 10)).toNat : Int)] true) = x := ⟨_, rfl⟩
  have g1 : h1.get q = some (.blk [.int .u8 ((UInt8.ofNat (48 + n % 10)).toNat : Int)] true) := by rw [← hh1, ← hqq]; exact Heap.get_alloc_same _ _
  have l1 : h.le h1 := by rw [← hh1]; exact (Heap.le.refl _).alloc _
  have b1 := bytesStr1 g1
  have hq' : ∀ h', h1.le h' → Q (str (decL n)) h' := fun h' hl => hq.h h' (l1.trans hl)
  replace hq' := Hid.mk hq'
  clear hq l1
  have hun : decL n = if 10 ≤ n then decL (n / 10) ++ [UInt8.ofNat (48 + n % 10)] else [UInt8.ofNat (48 + n % 10)] := by rw [decL]
  have h100 : ¬ (10 : Int) = 0 := by decide
  by_cases h10 : 10 ≤ n
  · have h10' : (10 : Int) ≤ (n : Int) := by omega
    rw [if_pos h10] at hun
    have hdv : IntKind.i64.wrap ((n : Int).tdiv 10) = ((n / 10 : Nat) : Int) := by
      rw [Int.tdiv_eq_ediv_of_nonneg (by omega), wrapI (by omega) (by omega)]; omega
    replace ih := Hid.mk ih
    replace hun := Hid.mk hun
    repeat' (first | simp -implicitDefEqProofs only [W_skip, W_reg, W_seq, W_rcond, W_cond, W_block, W_loop, W_exit, W_ret, thenQ_normal, thenQ_exit, thenQ_ret, blockQ_normal, blockQ_ret, blockQ_here, regQ_app, rcQ_app, cndK_t, cndK_f, RegW_nil, RegW_none, RegW_some, contW_app, grdK_tt, grdK_ff, grdK_tf, grdK_ft, grdK_undef, actK_p, actK_r, actK_a, actK_w, actK_call, actK_callV, heapK_app, allocK_app, writeK_app, ret1_ret, ret1_normal, ret0_ret, ret0_normal, ret2_ret2, thenK_app, retcv_ret, retcvK_app, optW_some, evs, Arg.ev, aP, aA, aW, pMov, pBin, pUn, pConv, pPick, pFieldAddr, pNilCheck, pExtract, aBin, aUn, aInt, aNew, partL_f, upd, List.getElem?_cons_zero, List.getElem?_cons_succ, List.getD_cons_zero, List.getD_cons_succ, List.set_cons_zero, List.set_cons_succ, Nat.zero_add, Nat.add_zero, List.getElem?_toArray, List.take_zero, List.drop_zero, List.take_succ_cons, List.drop_succ_cons, if_true, if_false, decide_true, decide_false, Bool.false_eq_true, Bool.true_eq_false, Bool.not_true, Bool.not_false, not_true_eq_false, not_false_eq_true, ge_iff_le, gt_iff_lt, beq_self_eq_true, bne_self_eq_false, and_self, and_true, true_and, Option.isSome_some, Heap.get_alloc_same, Heap.alloc_getE, *] | with_reducible refine cndK_d (fun hc => ?_) (fun hc => ?_) | with_reducible refine grdK_d (fun hc => ?_) (fun hc => ?_) | with_reducible refine cndK_i (fun hc => ?_) (fun hc => ?_) | with_reducible refine grdK_i (fun hc => ?_) (fun hc => ?_))
    refine ih.h (n / 10) (by omega) (by omega) h1 _ fun h2 l2 => ?_
    have hlen := decL_len 18 (n / 10) (by omega)
    have ct := cat_S (a := decL (n / 10)) (b := [UInt8.ofNat (48 + n % 10)]) (by simp; omega)
    have g := hq'.h h2 l2
    rw [hun.h] at g
    replace g := Hid.mk g
    clear l2
    repeat' (first | simp -implicitDefEqProofs only [W_skip, W_reg, W_seq, W_rcond, W_cond, W_block, W_loop, W_exit, W_ret, thenQ_normal, thenQ_exit, thenQ_ret, blockQ_normal, blockQ_ret, blockQ_here, regQ_app, rcQ_app, cndK_t, cndK_f, RegW_nil, RegW_none, RegW_some, contW_app, grdK_tt, grdK_ff, grdK_tf, grdK_ft, grdK_undef, actK_p, actK_r, actK_a, actK_w, actK_call, actK_callV, heapK_app, allocK_app, writeK_app, ret1_ret, ret1_normal, ret0_ret, ret0_normal, ret2_ret2, thenK_app, retcv_ret, retcvK_app, optW_some, evs, Arg.ev, aP, aR, aA, aW, pMov, pBin, pUn, pConv, pPick, pFieldAddr, pNilCheck, pExtract, aBin, aUn, aInt, aNew, partL_f, upd, List.getElem?_cons_zero, List.getElem?_cons_succ, List.getD_cons_zero, List.getD_cons_succ, List.set_cons_zero, List.set_cons_succ, Nat.zero_add, Nat.add_zero, List.getElem?_toArray, List.take_zero, List.drop_zero, List.take_succ_cons, List.drop_succ_cons, if_true, if_false, decide_true, decide_false, Bool.false_eq_true, Bool.true_eq_false, Bool.not_true, Bool.not_false, not_true_eq_false, not_false_eq_true, ge_iff_le, gt_iff_lt, beq_self_eq_true, bne_self_eq_false, and_self, and_true, true_and, Option.isSome_some, Heap.get_alloc_same, Heap.alloc_getE, *] | with_reducible refine cndK_d (fun hc => ?_) (fun hc => ?_) | with_reducible refine grdK_d (fun hc => ?_) (fun hc => ?_) | with_reducible refine cndK_i (fun hc => ?_) (fun hc => ?_) | with_reducible refine grdK_i (fun hc => ?_) (fun hc => ?_))
    exact g.h
  · have h10' : ¬ (10 : Int) ≤ (n : Int) := by omega
    rw [if_neg h10] at hun
    have g := hq'.h h1 (Heap.le.refl _)
    rw [hun] at g
    replace g := Hid.mk g
    clear hun ih
    repeat' (first | simp -implicitDefEqProofs only [W_skip, W_reg, W_seq, W_rcond, W_cond, W_block, W_loop, W_exit, W_ret, thenQ_normal, thenQ_exit, thenQ_ret, blockQ_normal, blockQ_ret, blockQ_here, regQ_app, rcQ_app, cndK_t, cndK_f, RegW_nil, RegW_none, RegW_some, contW_app, grdK_tt, grdK_ff, grdK_tf, grdK_ft, grdK_undef, actK_p, actK_r, actK_a, actK_w, actK_call, actK_callV, heapK_app, allocK_app, writeK_app, ret1_ret, ret1_normal, ret0_ret, ret0_normal, ret2_ret2, thenK_app, retcv_ret, retcvK_app, optW_some, evs, Arg.ev, aP, aA, aW, pMov, pBin, pUn, pConv, pPick, pFieldAddr, pNilCheck, pExtract, aBin, aUn, aInt, aNew, partL_f, upd, List.getElem?_cons_zero, List.getElem?_cons_succ, List.getD_cons_zero, List.getD_cons_succ, List.set_cons_zero, List.set_cons_succ, Nat.zero_add, Nat.add_zero, List.getElem?_toArray, List.take_zero, List.drop_zero, List.take_succ_cons, List.drop_succ_cons, if_true, if_false, decide_true, decide_false, Bool.false_eq_true, Bool.true_eq_false, Bool.not_true, Bool.not_false, not_true_eq_false, not_false_eq_true, ge_iff_le, gt_iff_lt, beq_self_eq_true, bne_self_eq_false, and_self, and_true, true_and, Option.isSome_some, Heap.get_alloc_same, Heap.alloc_getE, *] | with_reducible refine cndK_d (fun hc => ?_) (fun hc => ?_) | with_reducible refine grdK_d (fun hc => ?_) (fun hc => ?_) | with_reducible refine cndK_i (fun hc => ?_) (fun hc => ?_) | with_reducible refine grdK_i (fun hc => ?_) (fun hc => ?_))
    exact g.h
end Go.Eng.Tk


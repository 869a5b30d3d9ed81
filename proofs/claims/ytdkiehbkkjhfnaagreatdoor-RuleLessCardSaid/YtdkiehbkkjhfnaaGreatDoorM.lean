/-
  Part of a proof of the laws of layer 08 (rule): the laws.
  Conditions: none.
-/
import Derived.Test.YtdkiehbkkjhfnaaGreatDoorEc
import Derived.Test.YtdkiehbkkjhfnaaGreatDoorProg
import Derived.KernelRfl
import Derived.Test.YtdkiehbkkjhfnaaGreatDoorBe
import Derived.Test.YtdkiehbkkjhfnaaGreatDoorBx
namespace Go.Eng.Sy
open Go Go.Eng Go.Proofs
noncomputable def c4_r0 : List SOp := [⟨0, .p .mov, [.c (.bool false)], none, false⟩]
noncomputable def c4_r1 : List SOp := [⟨0, .call 8, [], none, false⟩, ⟨1, .p .mov, [.t 0], none, false⟩]
noncomputable def c4_r2 : List SOp := [⟨0, .p .mov, [.v 0], none, false⟩, ⟨1, .call 9, [.t 0, .c (.bool false)], none, false⟩, ⟨2, .a (.new [.int .i64 0, .slice none 0 0, .slice none 0 0, .slice none 0 0]), [], none, false⟩, ⟨3, .w (.store 4), [.t 0, .t 1], none, false⟩]
noncomputable def c4_r3 : List SOp := [⟨0, .p .mov, [.v 1], none, false⟩, ⟨1, .p (.fieldAddr 3), [.v 5], none, false⟩, ⟨2, .r (.load false 1), [.t 0], none, false⟩, ⟨3, .p .lenS, [.t 0], none, false⟩, ⟨4, .call 13, [.t 3, .t 0], none, false⟩, ⟨5, .p .mov, [.t 0], none, false⟩]
noncomputable def c4_r4 : List SOp := [⟨0, .p (.fieldAddr 3), [.v 5], none, false⟩, ⟨1, .r (.load false 1), [.t 0], none, false⟩, ⟨2, .p .mov, [.v 6], none, false⟩, ⟨3, .p (.idxAddrS 6), [.t 1, .t 0], none, false⟩, ⟨4, .r (.load true 6), [.t 0], none, false⟩, ⟨5, .a (.new [.string ⟨#[]⟩, .bool false, .int .i64 0, .int .i64 0, .int .i64 0, .slice none 0 0]), [], none, false⟩, ⟨6, .w (.store 6), [.t 0, .t 1], none, false⟩]
noncomputable def c4_r5 : List SOp := [⟨0, .p (.fieldAddr 5), [.v 7], none, false⟩, ⟨1, .r (.load false 1), [.t 0], none, false⟩, ⟨2, .call 14, [.t 0, .c (.int .i64 (-1))], none, false⟩, ⟨3, .p .mov, [.t 0], none, false⟩, ⟨4, .p (.extract 0), [.t 0], none, false⟩, ⟨5, .p (.extract 1), [.t 1], none, false⟩, ⟨6, .p .mov, [.t 1], none, false⟩, ⟨7, .p .mov, [.t 1], none, false⟩]
noncomputable def c4_r6 : List SOp := [⟨2, .p .mov, [.v 2], none, false⟩, ⟨3, .p .mov, [.v 8], none, false⟩, ⟨4, .p (.minI true), [.t 0, .c (.int .i64 1)], none, false⟩, ⟨5, .call 13, [.t 2, .t 0], none, true⟩, ⟨0, .p (.fieldAddr 5), [.v 7], none, false⟩, ⟨1, .r (.load false 1), [.t 0], none, false⟩, ⟨6, .call 14, [.t 0, .t 2], none, false⟩, ⟨7, .p .mov, [.t 0], none, false⟩, ⟨8, .p (.extract 0), [.t 0], none, false⟩, ⟨10, .p (.fieldAddr 5), [.v 7], none, false⟩, ⟨11, .w (.store 1), [.t 0, .t 1], none, false⟩, ⟨9, .p (.extract 1), [.t 3], none, false⟩]
noncomputable def c4_r7 : List SOp := [⟨0, .p (.fieldAddr 3), [.v 5], none, false⟩, ⟨1, .r (.load false 1), [.t 0], none, false⟩, ⟨2, .p .mov, [.v 6], none, false⟩, ⟨3, .r (.load true 6), [.v 7], none, false⟩, ⟨4, .p (.idxAddrS 6), [.t 2, .t 1], none, false⟩, ⟨5, .w (.store 6), [.t 0, .t 1], none, false⟩]
noncomputable def c4_r8 : List SOp := [⟨0, .r (.load true 4), [.v 5], none, false⟩, ⟨1, .call 10, [.t 0], none, false⟩, ⟨2, .p .mov, [.t 0], none, false⟩, ⟨3, .p (.extract 0), [.t 0], none, false⟩, ⟨4, .p (.extract 1), [.t 1], none, false⟩, ⟨5, .a (.new [.int .i64 0, .int .i64 0]), [], none, false⟩, ⟨6, .p .mov, [.t 2], none, false⟩, ⟨7, .w (.store 2), [.t 1, .t 2], none, false⟩]
noncomputable def c4_r9 : List SOp := [⟨0, .p .mov, [.v 4], none, false⟩, ⟨1, .p .mov, [.t 0], none, false⟩, ⟨2, .p .mov, [.v 9], some (0, true), false⟩, ⟨3, .p (.bin .eql), [.t 0, .c (.int .i64 0)], some (1, true), false⟩, ⟨4, .p .pick, [.t 2, .t 0, .c (.bool false)], none, false⟩, ⟨5, .p .mov, [.t 0], none, false⟩, ⟨6, .r (.load true 2), [.v 10], some (0, true), false⟩, ⟨7, .p (.build [.int .i64 0, .int .i64 0] []), [], some (1, true), false⟩, ⟨8, .p (.eqK 31 (keyGood Tryz.prog 31) false), [.t 1, .t 0], some (2, true), false⟩, ⟨9, .p .pick, [.t 3, .t 0, .c (.bool false)], none, false⟩, ⟨10, .p .mov, [.t 0], none, false⟩]
noncomputable def c4 : CFn := { nargs := 3, vars := [0, 1, 2, 6, 7, 8, 9, 10, 12, 13, 14], results := [.var 3], body := (.seq (.reg c4_r0 [(3, 0)]) (.seq (.reg c4_r1 [(4, 0)]) (.seq (.reg c4_r2 [(5, 1)]) (.seq (.reg c4_r3 [(6, 0)]) (.seq (.reg c4_r4 [(7, 1)]) (.seq (.reg c4_r5 [(8, 0)]) (.seq (.reg c4_r6 []) (.seq (.reg c4_r7 []) (.seq (.reg c4_r8 [(9, 1), (10, 2)]) (.seq (.reg c4_r9 [(3, 0)]) .ret)))))))))) }
set_option maxRecDepth 100000 in
theorem ok4 : FnOk Tryz.prog 4 c4 := compF_ok (na := c4.nargs) (vars := c4.vars) (by kernel_rfl)
end Go.Eng.Sy
set_option linter.unusedSimpArgs false
set_option linter.unusedVariables false
namespace Go.Eng.Sy
open Go Go.Eng Go.Proofs
mutual
def cntS : St → Nat
  | .mk _ _ _ _ _ t e => 1 + cntSs t + cntSs e
def cntSs : List St → Nat
  | [] => 0
  | s :: r => cntS s + cntSs r
end
mutual
theorem cntS_flat (hs : List (List UInt8)) : ∀ (s : St), (flatS hs s).length = cntS s
  | .mk k m f n a t e => by
    simp only [flatS, List.length_cons, List.length_append, cntS]
    rw [cntSs_flat _ t, cntSs_flat _ e]; omega
theorem cntSs_flat (hs : List (List UInt8)) : ∀ (l : List St), (flatSs hs l).length = cntSs l
  | [] => rfl
  | s :: r => by simp only [flatSs, List.length_append, cntSs]; rw [cntS_flat hs s, cntSs_flat hs r]
end
theorem cntSs_app : ∀ (a b : List St), cntSs (a ++ b) = cntSs a + cntSs b
  | [], b => by simp [cntSs]
  | s :: a, b => by simp only [List.cons_append, cntSs, cntSs_app a b]; omega
mutual
def lessS : St → Int → List St
  | .mk kd m f n a t e, k => if k = 0 then [] else [.mk kd m f n a (lessSs t (k - 1)) (lessSs e (k - 1 - cntSs t))]
def lessSs : List St → Int → List St
  | [], _ => []
  | s :: r, k => lessS s k ++ lessSs r (k - cntS s)
end
theorem lessSs_app : ∀ (a b : List St) (k : Int), lessSs (a ++ b) k = lessSs a k ++ lessSs b (k - cntSs a)
  | [], b, k => by simp [lessSs, cntSs]
  | s :: a, b, k => by
    simp only [List.cons_append, lessSs, lessSs_app a b, cntSs, List.append_assoc]
    rw [show k - (cntS s : Int) - (cntSs a : Int) = k - ((cntS s + cntSs a : Nat) : Int) by omega]
section
variable {p : Prg} {nm : List (List UInt8)}
theorem okSs_app {hs : List (List UInt8)} {a b : List St} : okSs p nm hs (a ++ b) ↔ okSs p nm hs a ∧ okSs p nm hs b := by
  simp only [okSs_iff, List.mem_append]
  exact ⟨fun h => ⟨fun s hs => h s (.inl hs), fun s hs => h s (.inr hs)⟩, fun h s hs => hs.elim (h.1 s) (h.2 s)⟩
theorem okSs_one {hs : List (List UInt8)} {s : St} : okSs p nm hs [s] ↔ okS p nm hs s := by
  rw [okSs_iff]; simp
theorem okSs_cons {hs : List (List UInt8)} {s : St} {r : List St} : okSs p nm hs (s :: r) ↔ okS p nm hs s ∧ okSs p nm hs r := by
  simp only [okSs_iff, List.mem_cons]
  exact ⟨fun h => ⟨h s (.inl rfl), fun x hx => h x (.inr hx)⟩, fun h x hx => by rcases hx with rfl | hx; exact h.1; exact h.2 x hx⟩
mutual
theorem lessS_ok : ∀ (s : St) (hs : List (List UInt8)) (k : Int), okS p nm hs s → okSs p nm hs (lessS s k)
  | .mk kd m f n a t e, hs, k, h => by
    simp only [lessS]
    split
    · exact okSs_nil
    · obtain ⟨h1, h2, h3⟩ := okS_iff.1 h
      exact okSs_one.2 (okS_iff.2 ⟨h1, lessSs_ok t _ _ h2, lessSs_ok e _ _ h3⟩)
theorem lessSs_ok : ∀ (ss : List St) (hs : List (List UInt8)) (k : Int), okSs p nm hs ss → okSs p nm hs (lessSs ss k)
  | [], hs, k, h => okSs_nil
  | s :: r, hs, k, h => by
    obtain ⟨h1, h2⟩ := okSs_cons.1 h
    exact okSs_app.2 ⟨lessS_ok s hs k h1, lessSs_ok r hs _ h2⟩
end
end
mutual
theorem lessS_cnt : ∀ (s : St) (k : Int), cntSs (lessS s k) ≤ cntS s
  | .mk kd m f n a t e, k => by
    have h1 := lessSs_cnt t (k - 1)
    have h2 := lessSs_cnt e (k - 1 - cntSs t)
    simp only [lessS]
    split
    · simp [cntSs]
    · simp only [cntSs, cntS]; omega
theorem lessSs_cnt : ∀ (ss : List St) (k : Int), cntSs (lessSs ss k) ≤ cntSs ss
  | [], k => by simp [lessSs]
  | s :: r, k => by
    have h1 := lessS_cnt s k
    have h2 := lessSs_cnt r (k - cntS s)
    simp only [lessSs, cntSs_app, cntSs]; omega
end
mutual
theorem lessS_len : ∀ (s : St) (k : Int), (lessS s k).length ≤ 1
  | .mk kd m f n a t e, k => by simp only [lessS]; split <;> simp
theorem lessSs_len : ∀ (ss : List St) (k : Int), (lessSs ss k).length ≤ ss.length
  | [], k => by simp [lessSs]
  | s :: r, k => by
    have h1 := lessS_len s k
    have h2 := lessSs_len r (k - cntS s)
    simp only [lessSs, List.length_append, List.length_cons]; omega
end
mutual
theorem lessS_I : ∀ (s : St) (k : Int) (d : Nat), StI s d → ∀ x ∈ lessS s k, StI x d
  | .mk kd m f n a t e, k, d, h, x, hx => by
    have it := fun d (h : ∀ y ∈ t, StI y d) => lessSs_I t (k - 1) d h
    have ie := fun d (h : ∀ y ∈ e, StI y d) => lessSs_I e (k - 1 - cntSs t) d h
    simp only [lessS] at hx
    split at hx
    · simp at hx
    · rw [List.mem_singleton] at hx
      subst hx
      cases h with
      | set m a d h ha => exact .set _ _ _ h ha
      | get m f n d h hf hn => exact .get _ _ _ _ h hf hn
      | put m n a d h hn ha => exact .put _ _ _ _ h hn ha
      | store m a b d h ha hb => exact .store _ _ _ _ h ha hb
      | lock m thn d h ht => exact .lock _ _ _ h (it _ ht)
      | cond a thn els d ha ht he => exact .cond _ _ _ _ ha (it _ ht) (ie _ he)
      | rep n thn d hn ht => exact .rep _ _ _ hn (it _ ht)
      | halt d => exact .halt _
theorem lessSs_I : ∀ (ss : List St) (k : Int) (d : Nat), (∀ s ∈ ss, StI s d) → ∀ x ∈ lessSs ss k, StI x d
  | [], k, d, h, x, hx => by simp [lessSs] at hx
  | s :: r, k, d, h, x, hx => by
    simp only [lessSs, List.mem_append] at hx
    rcases hx with hx | hx
    · exact lessS_I s k d (h s (by simp)) x hx
    · exact lessSs_I r _ d (fun y hy => h y (by simp [hy])) x hx
end
theorem set_names {p : Prg} {k : Nat} {t : Tsk} (hk : p.tasks[k]? = some t) (b : List St) : namesP { p with tasks := p.tasks.set k { t with body := b } } = namesP p := by
  unfold namesP
  dsimp only
  congr 1
  rw [List.map_set]
  have : (p.tasks.map (·.name))[k]? = some t.name := by simp [hk]
  exact List.ext_getElem? fun i => by
    rw [List.getElem?_set]
    split
    · rename_i h; subst h
      rw [this]
      have hl : k < p.tasks.length := (List.getElem?_eq_some_iff.1 hk).1
      simp [hl]
    · rfl
end Go.Eng.Sy
set_option linter.unusedSimpArgs false
set_option linter.unusedVariables false
namespace Go.Eng.Sy
open Go Go.Eng Go.Proofs
theorem StCsB.get' {B : Nat → Prop} {h : Heap} : ∀ {l : List St} {xs : List (List Value)}, StCsB B h l xs → ∀ {i : Nat} {e : St}, l[i]? = some e → ∃ x, xs[i]? = some x ∧ StCB B h e x
  | [], _, _, i, e, hi => by simp at hi
  | _ :: _, _, ⟨x, xr, h1, h2, h3⟩, 0, e, hi => by simp at hi; subst hi; exact ⟨x, by rw [h1]; rfl, h2⟩
  | _ :: _, _, ⟨x, xr, h1, h2, h3⟩, i + 1, e, hi => by
    obtain ⟨y, hy, hz⟩ := StCsB.get' h3 (i := i) (by simpa using hi)
    exact ⟨y, by rw [h1]; simpa using hy, hz⟩
theorem cntS_eq (s : St) : cntS s = 1 + cntSs s.thn + cntSs s.els := by cases s; rfl
theorem lessS_eq (s : St) (k : Int) : lessS s k = if k = 0 then [] else [.mk s.kind s.name s.src s.n s.args (lessSs s.thn (k - 1)) (lessSs s.els (k - 1 - cntSs s.thn))] := by cases s; simp only [lessS, St.kind, St.name, St.src, St.n, St.args, St.thn, St.els]
theorem cnt_take {l : List St} {i : Nat} {s : St} (hi : l[i]? = some s) : cntSs (l.take (i + 1)) = cntSs (l.take i) + cntS s ∧ cntSs (l.take i) + cntS s ≤ cntSs l := by
  have e : l.take (i + 1) = l.take i ++ [s] := by rw [List.take_add_one, hi]; rfl
  have e2 : cntSs (l.take (i + 1)) = cntSs (l.take i) + cntS s := by rw [e, cntSs_app]; simp [cntSs]
  refine ⟨e2, ?_⟩
  have := cntSs_app (l.take (i + 1)) (l.drop (i + 1))
  rw [List.take_append_drop] at this
  omega
theorem less_take {l : List St} {i : Nat} {s : St} (hi : l[i]? = some s) (k : Int) : lessSs (l.take (i + 1)) k = lessSs (l.take i) k ++ lessS s (k - cntSs (l.take i)) := by
  have e : l.take (i + 1) = l.take i ++ [s] := by rw [List.take_add_one, hi]; rfl
  rw [e, lessSs_app]; simp [lessSs]
def LessC (m : Nat) : Prop := ∀ (ss : List St) (B : Nat → Prop) (v : Value) (h : Heap) (k : Int) (Q : Value → Heap → Prop), cntSs ss < m → cntSs ss ≤ 1000000 → -1000000000000 ≤ k - cntSs ss → k ≤ 1000000000000 → StsVB B h v ss → (∀ id, h.next ≤ id → B id) →
  (∀ h' v', h.le h' → StsVB B h' v' (lessSs ss k) → Q (.tuple #[v', .int .i64 (cntSs ss)]) h') → CallW Tryz.prog 14 [v, .int .i64 k] h Q
theorem cnt_len : ∀ (l : List St), l.length ≤ cntSs l
  | [] => by simp
  | s :: r => by have := cnt_len r; simp only [List.length_cons, cntSs, cntS_eq s]; omega
set_option maxHeartbeats 2000000 in
theorem less_of {m : Nat} (ih : LessC m) : LessC (m + 1) := by
  intro ss B v h k Q hm hbd hk1 hk2 hv hB hq
  have hln := hv.plain.len
  have hsl := cnt_len ss
  have hv0 : StsVB (fun id => B id ∧ id < h.next) h v ss := hv.to fun id cs own hb hg => ⟨⟨hb, Heap.lt_of_get hg⟩, hg⟩
  replace ih := Hid.mk ih; replace hv := Hid.mk hv; replace hB := Hid.mk hB; replace hv0 := Hid.mk hv0
  refine call_of2 (k := 2) (j := 3) ok14 rfl rfl rfl fun N => ?_
  rw [show env0 c14 [v, .int .i64 k] = [v, .int .i64 k, undef, undef, undef, undef, undef, undef, undef, undef, undef, undef, undef] from rfl]
  delta c14 c14_r0 c14_r1 c14_r2 c14_r3 c14_r4 c14_r5 c14_r6 c14_r7 c14_r8 c14_r9 c14_r10 c14_r11 c14_r12 c14_r13 c14_r14 c14_r15 c14_r16 c14_r18
  replace hq := Hid.mk hq
  repeat' (first | simp -implicitDefEqProofs only [walkL, aR, aW, aBin, aInt, Int.reduceBEq, Int.reduceBNe, Nat.reduceBEq, Int.reduceLT, Int.reduceLE, *] | with_reducible (first | refine kcd ?_ ?_ | refine kgd ?_ ?_ | refine kci ?_ ?_ | refine kgi ?_ ?_) <;> intro hc)
  refine LoopW.upto ss.length (fun i e h3 => ∃ vo xs x7 x8 x9 x10 x11 x12, e = [v, .int .i64 k, nilS, .int .i64 0, vo, .int .i64 (cntSs (ss.take i)), .int .i64 i, x7, x8, x9, x10, x11, x12] ∧ h.le h3 ∧ OwnS (emptyH h.next) h3 7 vo xs ∧ StCsB (fun id => B id ∧ notOf vo id) h3 (lessSs (ss.take i) k) xs) ?_ (Nat.zero_le _) ⟨nilS, [], _, _, _, _, _, _, rfl, Heap.le.refl _, OwnS.nil _ _ _, by simp only [List.take_zero, lessSs]; rfl⟩
  rintro i _ h3 R hi ⟨vo, xs, x7, x8, x9, x10, x11, x12, rfl, l3, ho3, hx3⟩ hR
  delta c14_l17 c14_r0 c14_r1 c14_r2 c14_r3 c14_r4 c14_r5 c14_r6 c14_r7 c14_r8 c14_r9 c14_r10 c14_r11 c14_r12 c14_r13 c14_r14 c14_r15 c14_r16 c14_r18
  by_cases hlt : i < ss.length
  case neg =>
    have hlt' : ¬ (i : Int) < ss.length := by omega
    rw [List.take_of_length_le (by omega)] at hx3
    rw [List.take_of_length_le (by omega)]
    have hxl := hx3.length
    have hll := lessSs_len ss k
    have g := hq.h h3 vo l3 ⟨xs, SlVB.to (Heap.toB_id fun id hb => hB.h id hb) (OwnS.slB ho3), by omega, hx3.to (Heap.toB_id fun id hb => hb.1)⟩
    replace g := Hid.mk g; replace l3 := Hid.mk l3; replace ho3 := Hid.mk ho3; replace hx3 := Hid.mk hx3
    repeat' (first | simp -implicitDefEqProofs only [walkL, aR, aW, aBin, aInt, Int.reduceBEq, Int.reduceBNe, Nat.reduceBEq, Int.reduceLT, Int.reduceLE, *] | with_reducible (first | refine kcd ?_ ?_ | refine kgd ?_ ?_ | refine kci ?_ ?_ | refine kgi ?_ ?_) <;> intro hc)
    exact g.h
  case pos =>
    have hlt' : (i : Int) < ss.length := by omega
    have hw : IntKind.i64.wrap ((i : Int) + 1) = ((i + 1 : Nat) : Int) := by rw [wrapI (by omega) (by omega)]; rfl
    obtain ⟨s, he⟩ : ∃ e, ss[i]? = some e := ⟨_, List.getElem?_eq_getElem hlt⟩
    obtain ⟨ct1, ct2⟩ := cnt_take he
    have lt1 := less_take he k
    have ceq := cntS_eq s
    obtain ⟨n, hn⟩ : ∃ n, cntSs (ss.take i) = n := ⟨_, rfl⟩
    rw [hn] at ct1 ct2 lt1
    rw [hn]
    obtain ⟨xs0, a1, a2, a3⟩ := hv0.h
    obtain ⟨x, hx, hxs⟩ := a3.get' he
    obtain ⟨id, off, cells, own, e1, e2, e3, _⟩ := (a1.plain.mono l3).elem hx
    obtain ⟨va, vu, vw, rfl, hva, hvu, hvw⟩ := hxs.cells
    have iA : IsS va := hva.isS
    have iU : IsS vu := hvu.isS
    have iW : IsS vw := hvw.isS
    have st : wStore 7 (h3.alloc (.blk zS true)) [.pointer (some ⟨h3.next, 0, none⟩), stV s.kind s.name s.src s.n va vu vw] = some (undef, h3.alloc (.blk [.int .i64 s.kind, str s.name, str s.src, .int .i64 s.n, va, vu, vw] true)) := by
      obtain ⟨_, _, _, rfl⟩ := iA; obtain ⟨_, _, _, rfl⟩ := iU; obtain ⟨_, _, _, rfl⟩ := iW; exact wStore_new rfl rfl rfl rfl
    have gq := Heap.get_alloc_same h3 (.blk [.int .i64 s.kind, str s.name, str s.src, .int .i64 s.n, va, vu, vw] true)
    have lh4 := (Heap.le.refl h3).alloc (.blk [.int .i64 s.kind, str s.name, str s.src, .int .i64 s.n, va, vu, vw] true)
    obtain ⟨q, eq⟩ : ∃ x_, h3.next = x_ := ⟨_, rfl⟩
    obtain ⟨h4, eh4⟩ : ∃ x_, h3.alloc (.blk [.int .i64 s.kind, str s.name, str s.src, .int .i64 s.n, va, vu, vw] true) = x_ := ⟨_, rfl⟩
    rw [eh4] at gq lh4
    rw [eq] at gq
    rw [eh4, eq] at st
    have hqn : h.next ≤ q := by have := l3.next; omega
    have hq3 : h3.next = q := eq
    have l4 := l3.trans lh4
    have hvo : ∀ id, h3.next ≤ id → notOf vo id := fun id hid => ho3.notOf_new hid
    have hB' : ∀ id, h4.next ≤ id → (B id ∧ notOf vo id) ∧ id ≠ q := fun id hid => ⟨⟨hB.h id (by have := l4.next; omega), hvo id (by have := lh4.next; omega)⟩, by have := Heap.lt_of_get gq; omega⟩
    have toN : ∀ hN : Heap, h.le hN → Heap.toB (fun id => B id ∧ id < h.next) (fun id => (B id ∧ notOf vo id) ∧ id ≠ q) h hN := fun hN hl id cs own hb hg => ⟨⟨⟨hb.1, ho3.notOf hb.2⟩, by have := hb.2; omega⟩, hl.get hg⟩
    have w1 : IntKind.i64.wrap ((n : Int) + 1) = ((n + 1 : Nat) : Int) := by rw [wrapI (by omega) (by omega)]; rfl
    have w2 : IntKind.i64.wrap (k - ((n + 1 : Nat) : Int)) = k - ((n + 1 : Nat) : Int) := by rw [wrapI (by omega) (by omega)]
    have w3 : IntKind.i64.wrap (((n + 1 : Nat) : Int) + (cntSs s.thn : Int)) = ((n + 1 + cntSs s.thn : Nat) : Int) := by rw [wrapI (by omega) (by omega)]; rfl
    have w4 : IntKind.i64.wrap (k - ((n + 1 + cntSs s.thn : Nat) : Int)) = k - ((n + 1 + cntSs s.thn : Nat) : Int) := by rw [wrapI (by omega) (by omega)]
    have w5 : IntKind.i64.wrap (((n + 1 + cntSs s.thn : Nat) : Int) + (cntSs s.els : Int)) = ((n + 1 + cntSs s.thn + cntSs s.els : Nat) : Int) := by rw [wrapI (by omega) (by omega)]; rfl
    obtain ⟨bh, hbh⟩ : ∃ b : Bool, decide ((n : Int) = k) = b := ⟨_, rfl⟩
    clear a1 a2 a3 hxs
    replace l3 := Hid.mk l3; replace ho3 := Hid.mk ho3; replace hx3 := Hid.mk hx3; replace lh4 := Hid.mk lh4; replace l4 := Hid.mk l4; replace hvo := Hid.mk hvo; replace hB' := Hid.mk hB'; replace toN := Hid.mk toN; replace hva := Hid.mk hva; replace hvu := Hid.mk hvu; replace hvw := Hid.mk hvw; replace ct1 := Hid.mk ct1; replace ct2 := Hid.mk ct2; replace lt1 := Hid.mk lt1; replace ceq := Hid.mk ceq; replace hqn := Hid.mk hqn; replace hn := Hid.mk hn; replace hq3 := Hid.mk hq3; replace iA := Hid.mk iA; replace iU := Hid.mk iU; replace iW := Hid.mk iW; replace hx := Hid.mk hx
    repeat' (first | simp -implicitDefEqProofs only [walkL, aR, aW, aBin, aInt, Int.reduceBEq, Int.reduceBNe, Nat.reduceBEq, Int.reduceLT, Int.reduceLE, partL7, *] | with_reducible (first | refine kcd ?_ ?_ | refine kgd ?_ ?_ | refine kci ?_ ?_ | refine kgi ?_ ?_) <;> intro hc)
    refine ih.h s.thn _ vu h4 _ _ (by have := ct1.h; have := ct2.h; have := ceq.h; omega) (by have := ct2.h; have := ceq.h; omega) (by have := ct2.h; have := ceq.h; omega) (by omega) (hvu.h.to (toN.h h4 l4.h)) hB'.h fun h5 v9 l5 hv9 => ?_
    have gq5 := l5.get gq
    have l05 := l4.h.trans l5
    replace l5 := Hid.mk l5; replace l05 := Hid.mk l05; replace hv9 := Hid.mk hv9
    repeat' (first | simp -implicitDefEqProofs only [walkL, aR, aW, aBin, aInt, Int.reduceBEq, Int.reduceBNe, Nat.reduceBEq, Int.reduceLT, Int.reduceLE, partL7, *] | with_reducible (first | refine kcd ?_ ?_ | refine kgd ?_ ?_ | refine kci ?_ ?_ | refine kgi ?_ ?_) <;> intro hc)
    refine ih.h s.els _ vw h5 _ _ (by have := ct1.h; have := ct2.h; have := ceq.h; omega) (by have := ct2.h; have := ceq.h; omega) (by have := ct2.h; have := ceq.h; omega) (by omega) (hvw.h.to (toN.h h5 l05.h)) (fun id hid => hB'.h id (by have := l5.h.next; omega)) fun h6 v11 l6 hv11 => ?_
    have gq6 := l6.get gq5
    have l06 := l05.h.trans l6
    have hv9' := hv9.h.to (l6.toB fun id h => h)
    have hva6 := hva.h.to (toN.h h6 l06)
    have i9 : IsS v9 := hv9'.isS
    have i11 : IsS v11 := hv11.isS
    have s5 : wStore 1 h6 [.pointer (some ⟨q, 5, none⟩), v9] = some (undef, h6.set q (.blk [.int .i64 s.kind, str s.name, str s.src, .int .i64 s.n, va, v9, vw] true)) := by
      obtain ⟨_, _, _, rfl⟩ := i9; exact wStore_one gq6 (by simp) rfl rfl
    obtain ⟨h7, eh7⟩ : ∃ x, h6.set q (.blk [.int .i64 s.kind, str s.name, str s.src, .int .i64 s.n, va, v9, vw] true) = x := ⟨_, rfl⟩
    have gq7 : h7.get q = some (.blk [.int .i64 s.kind, str s.name, str s.src, .int .i64 s.n, va, v9, vw] true) := by rw [← eh7]; exact Heap.set_getS _ _ _ (by rw [gq6]; rfl)
    rw [eh7] at s5
    have s6 : wStore 1 h7 [.pointer (some ⟨q, 6, none⟩), v11] = some (undef, h7.set q (.blk [.int .i64 s.kind, str s.name, str s.src, .int .i64 s.n, va, v9, v11] true)) := by
      obtain ⟨_, _, _, rfl⟩ := i11; exact wStore_one gq7 (by simp) rfl rfl
    obtain ⟨h8, eh8⟩ : ∃ x, h7.set q (.blk [.int .i64 s.kind, str s.name, str s.src, .int .i64 s.n, va, v9, v11] true) = x := ⟨_, rfl⟩
    have gq8 : h8.get q = some (.blk [.int .i64 s.kind, str s.name, str s.src, .int .i64 s.n, va, v9, v11] true) := by rw [← eh8]; exact Heap.set_getS _ _ _ (by rw [gq7]; rfl)
    rw [eh8] at s6
    have old8 : ∀ id, id ≠ q → h8.get id = h6.get id := fun id hne => by rw [← eh8, ← eh7, Heap.set_getE _ _ _ _ (by simpa using hne), Heap.set_getE _ _ _ _ (by simpa using hne)]
    have n68 : h6.next ≤ h8.next := by rw [← eh8, ← eh7]; exact Nat.le_refl _
    have tb8 : Heap.toB (fun id => (B id ∧ notOf vo id) ∧ id ≠ q) (fun id => B id ∧ notOf vo id) h6 h8 := fun id cs own hb hg => ⟨hb.1, by rw [old8 id hb.2]; exact hg⟩
    have hy8 : StCB (fun id => B id ∧ notOf vo id) h8 (.mk s.kind s.name s.src s.n s.args (lessSs s.thn (k - ((n + 1 : Nat) : Int))) (lessSs s.els (k - ((n + 1 + cntSs s.thn : Nat) : Int)))) [.int .i64 s.kind, str s.name, str s.src, .int .i64 s.n, va, v9, v11] := StCB.of (hva6.to tb8) (hv9'.to tb8) (hv11.to tb8)
    have l36 : h3.le h6 := lh4.h.trans (l5.h.trans l6)
    have ho8 : OwnS (emptyH h.next) h8 7 vo xs := ho3.h.get fun id hv hs => by
      obtain ⟨o, ho⟩ := Option.isSome_iff_exists.1 hs
      rw [old8 id (by have := Heap.lt_of_get ho; have := hq3.h; omega), l36.get ho, ho]
    have hx8 : StCsB (fun id => B id ∧ notOf vo id) h8 (lessSs (ss.take i) k) xs := hx3.h.to fun id cs own hb hg => ⟨hb, by rw [old8 id (by have := Heap.lt_of_get hg; have := hq3.h; omega)]; exact l36.get hg⟩
    have l08 : h.le h8 := ⟨fun id o hg => by rw [old8 id (by have := Heap.lt_of_get hg; have := hqn.h; omega)]; exact l06.get hg, Nat.le_trans l06.next n68⟩
    have elS : lessS s (k - (n : Int)) = if k - (n : Int) = 0 then [] else [.mk s.kind s.name s.src s.n s.args (lessSs s.thn (k - ((n + 1 : Nat) : Int))) (lessSs s.els (k - ((n + 1 + cntSs s.thn : Nat) : Int)))] := by
      rw [lessS_eq, show k - (n : Int) - 1 = k - ((n + 1 : Nat) : Int) by omega, show k - ((n + 1 : Nat) : Int) - (cntSs s.thn : Int) = k - ((n + 1 + cntSs s.thn : Nat) : Int) by omega]
    have ecn : n + 1 + cntSs s.thn + cntSs s.els = cntSs (ss.take (i + 1)) := by have := ct1.h; have := ceq.h; omega
    clear ih hq hv hv0 tb8 old8 hv9 hva6 eh7 eh8
    by_cases hnk : (n : Int) = k
    case pos =>
      have hnk' : ((n : Int) == k) = true := by simpa using hnk
      rw [if_pos (by omega)] at elS
      have hx9 : StCsB (fun id => B id ∧ notOf vo id) h8 (lessSs (ss.take (i + 1)) k) xs := by rw [lt1.h, elS, List.append_nil]; exact hx8
      rw [hnk'] at *
      have g := fun a b c d e f => hR.h [v, .int .i64 k, nilS, .int .i64 0, vo, .int .i64 (cntSs (ss.take (i + 1))), .int .i64 (i + 1 : Nat), a, b, c, d, e, f] h8 hlt ⟨vo, xs, a, b, c, d, e, f, rfl, l08, ho8, hx9⟩
      rw [← ecn] at g
      replace g := Hid.mk g; replace l6 := Hid.mk l6; replace l06 := Hid.mk l06; replace hv9' := Hid.mk hv9'; replace hv11 := Hid.mk hv11; replace hy8 := Hid.mk hy8; replace l36 := Hid.mk l36; replace ho8 := Hid.mk ho8; replace hx8 := Hid.mk hx8; replace l08 := Hid.mk l08; replace elS := Hid.mk elS; replace ecn := Hid.mk ecn; replace hx9 := Hid.mk hx9
      repeat' (first | simp -implicitDefEqProofs only [walkL, aR, aW, aBin, aInt, Int.reduceBEq, Int.reduceBNe, Nat.reduceBEq, Int.reduceLT, Int.reduceLE, partL7, *] | with_reducible (first | refine kcd ?_ ?_ | refine kgd ?_ ?_ | refine kci ?_ ?_ | refine kgi ?_ ?_) <;> intro hc)
      exact g.h _ _ _ _ _ _
    case neg =>
      have hnk' : ((n : Int) == k) = false := by simpa using hnk
      rw [if_neg (by omega)] at elS
      have hxl := hx8.length
      have hll := lessSs_len (ss.take i) k
      have htl : (ss.take i).length ≤ i := by rw [List.length_take]; omega
      obtain ⟨v', h9, ap, ho9, le9, k9, n9, nx9⟩ := ho8.append1 (x := [.int .i64 s.kind, str s.name, str s.src, .int .i64 s.n, va, v9, v11]) (emptyH_le l08.next) rfl (by omega) (b := 120) (by omega) (by omega)
      have u := bs_st1 hy8.ones
      have hk : Heap.toB (fun id => B id ∧ notOf vo id) (fun id => B id ∧ notOf v' id) h8 h9 := fun id cs own hb hg => ⟨⟨hb.1, n9 id (by rw [hg]; rfl)⟩, by rw [k9 id (by rw [hg]; rfl) hb.2]; exact hg⟩
      have hx9 : StCsB (fun id => B id ∧ notOf v' id) h9 (lessSs (ss.take (i + 1)) k) (xs ++ [[.int .i64 s.kind, str s.name, str s.src, .int .i64 s.n, va, v9, v11]]) := by rw [lt1.h, elS]; exact StCsB.snoc (hy8.to hk) (hx8.to hk)
      have l09 : h.le h9 := ⟨fun id o hg => by
        have h1 := l08.get hg
        rw [k9 id (by rw [h1]; rfl) (ho8.notOf (Heap.lt_of_get hg))]; exact h1, Nat.le_trans l08.next nx9⟩
      rw [hnk']
      have g := fun a b c d e f => hR.h [v, .int .i64 k, nilS, .int .i64 0, v', .int .i64 (cntSs (ss.take (i + 1))), .int .i64 (i + 1 : Nat), a, b, c, d, e, f] h9 hlt ⟨v', _, a, b, c, d, e, f, rfl, l09, ho9, hx9⟩
      rw [← ecn] at g
      replace g := Hid.mk g; replace l6 := Hid.mk l6; replace l06 := Hid.mk l06; replace hv9' := Hid.mk hv9'; replace hv11 := Hid.mk hv11; replace hy8 := Hid.mk hy8; replace l36 := Hid.mk l36; replace ho8 := Hid.mk ho8; replace hx8 := Hid.mk hx8; replace l08 := Hid.mk l08; replace elS := Hid.mk elS; replace ecn := Hid.mk ecn; replace hx9 := Hid.mk hx9; replace k9 := Hid.mk k9; replace n9 := Hid.mk n9; replace hk := Hid.mk hk; replace ho9 := Hid.mk ho9; replace le9 := Hid.mk le9; replace l09 := Hid.mk l09
      repeat' (first | simp -implicitDefEqProofs only [walkL, aR, aW, aBin, aInt, Int.reduceBEq, Int.reduceBNe, Nat.reduceBEq, Int.reduceLT, Int.reduceLE, partL7, *] | with_reducible (first | refine kcd ?_ ?_ | refine kgd ?_ ?_ | refine kci ?_ ?_ | refine kgi ?_ ?_) <;> intro hc)
      exact g.h _ _ _ _ _ _
theorem less_c : ∀ m, LessC m
  | 0 => fun _ _ _ _ _ _ h => by omega
  | m + 1 => less_of (less_c m)
end Go.Eng.Sy
set_option linter.unusedSimpArgs false
set_option linter.unusedVariables false
set_option linter.unusedSectionVars false
namespace Go.Eng.Sy
open Go Go.Eng Go.Proofs
theorem eq00b : pEqK (keyGood Tryz.prog 31) false [.agg #[.int .i64 0, .int .i64 0], .agg #[.int .i64 0, .int .i64 0]] = some (.bool true) := by kernel_rfl
theorem part22b (a b : Value) : partL true 0 2 [a, b] = some (.agg #[a, b]) := rfl
section
variable {p p2 : Prg} (hd : p2.devs = p.devs) (hr : p2.ress = p.ress) (nm hs : List (List UInt8))
include hd hr
theorem headE_p (k : Int) (m : List UInt8) : headE p2 nm hs k m = headE p nm hs k m := by unfold headE heldR; rw [hr]
mutual
theorem exprR_p : ∀ (e : Ex), exprR p2 nm hs e = exprR p nm hs e
  | .mk k o n m args => by simp only [exprR]; rw [headE_p hd hr, exprsR_p args]
theorem exprsR_p : ∀ (l : List Ex), exprsR p2 nm hs l = exprsR p nm hs l
  | [] => rfl
  | e :: r => by simp only [exprsR]; rw [exprR_p e, exprsR_p r]
end
theorem stmtR_p (s : St) : stmtR p2 nm hs s = stmtR p nm hs s := by
  have h1 : headS p2 nm hs s = headS p nm hs s := by unfold headS deviceR lockR heldR; rw [hd, hr]
  unfold stmtR; rw [h1, exprsR_p hd hr]
theorem okSs_p (ss : List St) : okSs p2 nm hs ss ↔ okSs p nm hs ss := by
  unfold okSs
  constructor
  · intro h x hx; rw [← stmtR_p hd hr]; exact h x hx
  · intro h x hx; rw [stmtR_p hd hr]; exact h x hx
end
def keyT (t : Tsk) : Bool × Int × Int × Int := (t.handler, t.hart, t.prio, t.line)
theorem TasksOk.key {p p2 : Prg} (h : TasksOk p) (hh : p2.harts = p.harts) (hk : p2.tasks.map keyT = p.tasks.map keyT) : TasksOk p2 := by
  have mem : ∀ t ∈ p2.tasks, ∃ t' ∈ p.tasks, keyT t' = keyT t := fun t ht => by
    have : keyT t ∈ p2.tasks.map keyT := List.mem_map.2 ⟨t, ht, rfl⟩
    rw [hk] at this
    obtain ⟨t', h1, h2⟩ := List.mem_map.1 this
    exact ⟨t', h1, h2⟩
  have f : ∀ {a b : Tsk}, keyT a = keyT b → a.handler = b.handler ∧ a.hart = b.hart ∧ a.prio = b.prio ∧ a.line = b.line := fun e => by
    simpa [keyT] using e
  refine ⟨fun t ht => ?_, ?_, fun t ht htt x hx hxx hxh => ?_⟩
  · obtain ⟨t', h1, h2⟩ := mem t ht
    rw [hh, ← (f h2).2.1]; exact h.hart t' h1
  · have e : ∀ l : List Tsk, l.Pairwise twoOk ↔ (l.map keyT).Pairwise (fun a b => (a.1 = false → b.1 = false → a.2.1 ≠ b.2.1) ∧ (a.1 = true → b.1 = true → a.2.2.2 ≠ b.2.2.2)) := fun l => by
      rw [List.pairwise_map]; rfl
    rw [e, hk, ← e]; exact h.two
  · obtain ⟨t', h1, h2⟩ := mem t ht
    obtain ⟨x', h3, h4⟩ := mem x hx
    obtain ⟨a1, a2, a3, a4⟩ := f h2
    obtain ⟨c1, c2, c3, c4⟩ := f h4
    rw [← a3, ← c3]
    exact h.below t' h1 (by rw [a1]; exact htt) x' h3 (by rw [c1]; exact hxx) (by rw [c2, a2]; exact hxh)
def putB (p : Prg) (k : Nat) (t : Tsk) (b : List St) : Prg := { p with tasks := p.tasks.set k { t with body := b } }
theorem putB_zero {p : Prg} {nd nr H nh : Nat} (hf : Facts p nd nr H nh) (hr : rightP p = true) {k : Nat} {t : Tsk} (hk : p.tasks[k]? = some t) {b : List St} (hI : ∀ s ∈ b, StI s 30) (ho : okSs p (namesP p) [] b) {e i n : Int} (hc : CheckIs (putB p k t b) e i n) : e = 0 ∧ i = 0 ∧ n = 0 := by
  have hn : namesP (putB p k t b) = namesP p := set_names hk b
  have hm := List.mem_of_getElem? hk
  have hlt := (List.getElem?_eq_some_iff.1 hk).1
  refine hc.zero ?_ (by rw [hn]; exact hf.nodup) (hf.tasks.key rfl ?_) fun t' ht' => ?_
  · have hr0 := hr
    simp only [rightP, Bool.and_eq_true, decide_eq_true_eq, List.all_eq_true] at hr0 ⊢
    obtain ⟨⟨h1, h2⟩, h3⟩ := hr0
    obtain ⟨⟨⟨⟨a1, a2⟩, a3⟩, a4⟩, a5⟩ := h1
    refine ⟨⟨⟨⟨⟨⟨a1, a2⟩, a3⟩, ?_⟩, a5⟩, h2⟩, fun t' ht' => ?_⟩
    · show (p.tasks.set k _).length ≤ 16; rw [List.length_set]; exact a4
    · have ht' : t' ∈ p.tasks.set k { t with body := b } := ht'
      rcases List.mem_or_eq_of_mem_set ht' with h | rfl
      · exact h3 t' h
      · have ht := h3 t hm
        simp only [taskOk, Bool.and_eq_true, wellSs_all, List.all_eq_true] at ht ⊢
        exact ⟨ht.1, fun s hs => (wellS_iff 30 s).2 (hI s hs)⟩
  · show (p.tasks.set k _).map keyT = _
    rw [List.map_set]
    refine List.ext_getElem? fun j => ?_
    rw [List.getElem?_set]
    split
    · rename_i h; subst h
      rw [List.getElem?_map, hk, if_pos (by simpa using hlt)]; rfl
    · rfl
  · rw [hn]
    refine (okSs_p (p := p) (p2 := putB p k t b) rfl rfl _ _ _).2 ?_
    have ht' : t' ∈ p.tasks.set k { t with body := b } := ht'
    rcases List.mem_or_eq_of_mem_set ht' with h | rfl
    · exact hf.body t' h
    · exact ho
theorem pick8_c (c n : Int) (hn : n ≠ 0) (h : Heap) (Q : Value → Heap → Prop) (hq : Q (.int .i64 (pick c n)) h) : CallW Tryz.prog 13 [.int .i64 c, .int .i64 n] h Q := by
  refine call_of1 (k := 2) ok13 rfl rfl rfl fun N => ?_
  rw [show env0 c13 [.int .i64 c, .int .i64 n] = [.int .i64 c, .int .i64 n, undef] from rfl]
  delta c13 c13_r0 c13_r1 c13_r2 c13_r3
  replace hq := Hid.mk hq
  have hq1 : c < 0 → Q (.int .i64 ((IntKind.i64.wrap (0 - IntKind.i64.wrap (c + 1))).tmod n)) h := fun hc => by have := hq.h; rwa [pick, if_pos hc] at this
  have hq2 : ¬ c < 0 → Q (.int .i64 (c.tmod n)) h := fun hc => by have := hq.h; rwa [pick, if_neg hc] at this
  replace hq1 := Hid.mk hq1
  replace hq2 := Hid.mk hq2
  repeat' (first | simp -implicitDefEqProofs only [walkL, aR, aW, aBin, aInt, Int.reduceBEq, Int.reduceBNe, Nat.reduceBEq, Int.reduceLT, Int.reduceLE, *] | with_reducible (first | refine kcd ?_ ?_ | refine kgd ?_ ?_ | refine kci ?_ ?_ | refine kgi ?_ ?_) <;> intro hc)
  · exact hq1.h (by assumption)
  · exact hq2.h (by assumption)
end Go.Eng.Sy
set_option linter.unusedSimpArgs false
set_option linter.unusedVariables false
namespace Go.Eng.Sy
open Go Go.Eng Go.Proofs
set_option maxHeartbeats 1000000 in
theorem RuleLess_c {h : Heap} {v : Value} {raw : List Int} (hv : Ints h v raw) (hin : ∀ z ∈ raw, inI z) {z1 z2 : Int} (j1 : inI z1) (j2 : inI z2) (Q : Value → Heap → Prop) (hq : ∀ h', Q (.bool true) h') : CallW Tryz.prog 4 [v, .int .i64 z1, .int .i64 z2] h Q := by
  replace hv := Hid.mk hv
  refine call_of1 (k := 3) ok4 rfl rfl rfl fun N => ?_
  rw [show env0 c4 [v, .int .i64 z1, .int .i64 z2] = [v, .int .i64 z1, .int .i64 z2, undef, undef, undef, undef, undef, undef, undef, undef] from rfl]
  delta c4 c4_r0 c4_r1 c4_r2 c4_r3 c4_r4 c4_r5 c4_r6 c4_r7 c4_r8 c4_r9
  replace hq := Hid.mk hq
  repeat' (first | simp -implicitDefEqProofs only [walkL, aR, aW, aBin, aInt, Int.reduceBEq, Int.reduceBNe, Nat.reduceBEq, Int.reduceLT, Int.reduceLE, *] | with_reducible (first | refine kcd ?_ ?_ | refine kgd ?_ ?_ | refine kci ?_ ?_ | refine kgi ?_ ?_) <;> intro hc)
  refine awake_c _ _ ?_
  repeat' (first | simp -implicitDefEqProofs only [walkL, aR, aW, aBin, aInt, Int.reduceBEq, Int.reduceBNe, Nat.reduceBEq, Int.reduceLT, Int.reduceLE, *] | with_reducible (first | refine kcd ?_ ?_ | refine kgd ?_ ?_ | refine kci ?_ ?_ | refine kgi ?_ ?_) <;> intro hc)
  refine Prog_c hv.h hin false _ fun h1 d r t xs l1 hm => ?_
  obtain ⟨iD, iR, iT⟩ := hm.isS
  obtain ⟨nd, nr, H, nh, hf⟩ := progL_facts raw
  have hg := progL_good raw false
  generalize progL raw false = p at *
  have st := st_PA h1 p.harts iD iR iT
  obtain ⟨n, hn⟩ : ∃ n, h.next = n := ⟨_, rfl⟩
  rw [hn] at hm
  have hn1 : n ≤ h1.next := by rw [← hn]; exact l1.next
  have gq := Heap.get_alloc_same h1 (.blk [.int .i64 p.harts, d, r, t] true)
  have lh2 := (Heap.le.refl h1).alloc (.blk [.int .i64 p.harts, d, r, t] true)
  obtain ⟨q, eq⟩ : ∃ x_, h1.next = x_ := ⟨_, rfl⟩
  obtain ⟨h2, eh2⟩ : ∃ x_, h1.alloc (.blk [.int .i64 p.harts, d, r, t] true) = x_ := ⟨_, rfl⟩
  rw [eh2] at gq lh2
  rw [eq] at gq
  rw [eh2, eq] at st
  have hm2 := hm.le lh2
  have hidq : ∀ id a b, t = .slice (some ⟨id, 0, none⟩) a b → id < q := fun id a b e => by
    obtain ⟨o, ho⟩ := Option.isSome_iff_exists.1 (hm.ht.blk_lt id a b e).2
    have := Heap.lt_of_get ho
    omega
  have lt : pLenS [t] = some (.int .i64 p.tasks.length) := by
    have := SlV.len hm2.ht.sl
    rw [hm2.hts.length] at this; exact this
  have b3 := hg.tl
  have r5 := pick_range j1 (n := (p.tasks.length : Int)) (by omega)
  obtain ⟨k, hk⟩ : ∃ k : Nat, pick z1 (p.tasks.length : Int) = (k : Int) := ⟨(pick z1 (p.tasks.length : Int)).toNat, by omega⟩
  have hkl : k < p.tasks.length := by omega
  obtain ⟨tk, hkt⟩ : ∃ tk, p.tasks[k]? = some tk := ⟨_, List.getElem?_eq_getElem hkl⟩
  have hnz : (p.tasks.length : Int) ≠ 0 := by omega
  obtain ⟨id, vb, hid, hidn, gid, e1, e2, hvb⟩ := hm2.at hkt
  have hbd : cntSs tk.body ≤ 1000 := by rw [← cntSs_flat []]; exact good_bd hg tk (List.mem_of_getElem? hkt)
  have hn2 : n ≤ h2.next := Nat.le_trans hn1 lh2.next
  have sz6 := st_T h2 tk.name tk.handler tk.hart tk.prio tk.line hvb.isS
  have hidq' := hidq id _ _ hid
  clear r5 hm
  replace l1 := Hid.mk l1; replace hm2 := Hid.mk hm2; replace hidq := Hid.mk hidq; replace hf := Hid.mk hf; replace hg := Hid.mk hg; replace lh2 := Hid.mk lh2; replace hk := Hid.mk hk; replace hnz := Hid.mk hnz; replace hid := Hid.mk hid; replace hkt := Hid.mk hkt
  repeat' (first | simp -implicitDefEqProofs only [walkL, aR, aW, aBin, aInt, Int.reduceBEq, Int.reduceBNe, Nat.reduceBEq, Int.reduceLT, Int.reduceLE, *] | with_reducible (first | refine kcd ?_ ?_ | refine kgd ?_ ?_ | refine kci ?_ ?_ | refine kgi ?_ ?_) <;> intro hc)
  refine pick8_c _ _ hnz.h _ _ ?_
  rw [hk.h]
  have gq2 := Heap.get_alloc_same h2 (.blk [str tk.name, .bool tk.handler, .int .i64 tk.hart, .int .i64 tk.prio, .int .i64 tk.line, vb] true)
  have lh3 := (Heap.le.refl h2).alloc (.blk [str tk.name, .bool tk.handler, .int .i64 tk.hart, .int .i64 tk.prio, .int .i64 tk.line, vb] true)
  obtain ⟨q2, eq2⟩ : ∃ x_, h2.next = x_ := ⟨_, rfl⟩
  obtain ⟨h3, eh3⟩ : ∃ x_, h2.alloc (.blk [str tk.name, .bool tk.handler, .int .i64 tk.hart, .int .i64 tk.prio, .int .i64 tk.line, vb] true) = x_ := ⟨_, rfl⟩
  rw [eh3] at gq2 lh3
  rw [eq2] at gq2
  rw [eh3, eq2] at sz6
  have gq3 := lh3.get gq
  have hB3 : ∀ i, h3.next ≤ i → PB n [t] i ∧ i ≠ q2 := fun i hi => ⟨⟨by have := lh3.next; omega, fun w hw => by rw [List.mem_singleton.1 hw]; exact hm2.h.ht.notOf_new (by have := lh3.next; omega)⟩, by have := Heap.lt_of_get gq2; omega⟩
  have hv3 : StsVB (fun i => PB n [t] i ∧ i ≠ q2) h3 vb tk.body := hvb.to fun i cs own hb hg => ⟨⟨hb, by have := Heap.lt_of_get hg; omega⟩, lh3.get hg⟩
  have gid3 := lh3.get gid
  replace hvb := Hid.mk hvb; replace lh3 := Hid.mk lh3; replace hB3 := Hid.mk hB3; replace hv3 := Hid.mk hv3
  repeat' (first | simp -implicitDefEqProofs only [walkL, aR, aW, aBin, aInt, Int.reduceBEq, Int.reduceBNe, Nat.reduceBEq, Int.reduceLT, Int.reduceLE, partL6, *] | with_reducible (first | refine kcd ?_ ?_ | refine kgd ?_ ?_ | refine kci ?_ ?_ | refine kgi ?_ ?_) <;> intro hc)
  refine less_c (cntSs tk.body + 1) tk.body _ vb h3 (-1) _ (by omega) (by omega) (by omega) (by omega) hv3.h hB3.h fun h4 w4 l4 hw4 => ?_
  have gq4 := l4.get gq3
  have gq24 := l4.get gq2
  have gid4 := l4.get gid3
  have hv4 := hv3.h.to (l4.toB (B' := fun i => PB n [t] i ∧ i ≠ q2) fun i h => h)
  obtain ⟨c, hc⟩ : ∃ c, cntSs tk.body = c := ⟨_, rfl⟩
  rw [hc]
  rw [hc] at hbd
  obtain ⟨mx, hmx⟩ : ∃ m : Nat, pMinI true [.int .i64 (c : Int), .int .i64 1] = some (.int .i64 (m : Int)) ∧ 0 < m ∧ m ≤ 1000 := by
    by_cases h0 : (1 : Int) > c
    · exact ⟨1, by simp only [pMinI, if_true]; rw [if_pos h0]; rfl, by omega, by omega⟩
    · exact ⟨c, by simp only [pMinI, if_true]; rw [if_neg h0], by omega, by omega⟩
  obtain ⟨hmx, hmx0, hmx1⟩ := hmx
  have r6 := pick_range j2 (n := (mx : Int)) (by omega)
  obtain ⟨kk, hkk⟩ : ∃ kk : Int, pick z2 (mx : Int) = kk := ⟨_, rfl⟩
  rw [hkk] at r6
  replace l4 := Hid.mk l4; replace hw4 := Hid.mk hw4; replace hv4 := Hid.mk hv4; replace hkk := Hid.mk hkk; replace hc := Hid.mk hc
  repeat' (first | simp -implicitDefEqProofs only [walkL, aR, aW, aBin, aInt, Int.reduceBEq, Int.reduceBNe, Nat.reduceBEq, Int.reduceLT, Int.reduceLE, partL6, *] | with_reducible (first | refine kcd ?_ ?_ | refine kgd ?_ ?_ | refine kci ?_ ?_ | refine kgi ?_ ?_) <;> intro hc)
  refine pick8_c _ _ (by omega) _ _ (turn0 (Heap.le.refl _).ext ?_)
  rw [hkk.h]
  repeat' (first | simp -implicitDefEqProofs only [walkL, aR, aW, aBin, aInt, Int.reduceBEq, Int.reduceBNe, Nat.reduceBEq, Int.reduceLT, Int.reduceLE, partL6, *] | with_reducible (first | refine kcd ?_ ?_ | refine kgd ?_ ?_ | refine kci ?_ ?_ | refine kgi ?_ ?_) <;> intro hc)
  refine less_c (cntSs tk.body + 1) tk.body _ vb h4 kk _ (by omega) (by have := hc.h; omega) (by have := hc.h; omega) (by omega) hv4.h (fun i hi => hB3.h i (by have := l4.h.next; omega)) fun h5 w5 l5 hw5 => ?_
  have gq5 := l5.get gq4
  have gq25 := l5.get gq24
  have gid5 := l5.get gid4
  have i5 : IsS w5 := hw5.isS
  have s5 : wStore 1 h5 [.pointer (some ⟨q2, 5, none⟩), w5] = some (undef, h5.set q2 (.blk [str tk.name, .bool tk.handler, .int .i64 tk.hart, .int .i64 tk.prio, .int .i64 tk.line, w5] true)) := by
    obtain ⟨_, _, _, rfl⟩ := i5; exact wStore_one gq25 (by simp) rfl rfl
  obtain ⟨h6, eh6⟩ : ∃ x, h5.set q2 (.blk [str tk.name, .bool tk.handler, .int .i64 tk.hart, .int .i64 tk.prio, .int .i64 tk.line, w5] true) = x := ⟨_, rfl⟩
  rw [eh6] at s5
  have l26 : h2.le h6 := by rw [← eh6]; exact (lh3.h.trans (l4.h.trans l5)).set (by omega) _
  have gq26 : h6.get q2 = some (.blk [str tk.name, .bool tk.handler, .int .i64 tk.hart, .int .i64 tk.prio, .int .i64 tk.line, w5] true) := by rw [← eh6]; exact Heap.set_getS _ _ _ (by rw [gq25]; rfl)
  have gq6 := l26.get gq
  have hw6 : StsVB (PB n [t]) h6 w5 (lessSs tk.body kk) := hw5.to (by rw [← eh6]; exact Heap.toB_set _ fun i hb => ⟨hb.2, hb.1⟩)
  obtain ⟨cc, stc, hmd⟩ := (hm2.h.le l26).put hid.h hkt.h { tk with body := lessSs tk.body kk } hw6
  have stc' : wStore 6 h6 [.pointer (some ⟨id, k * 6, none⟩), tsV tk.name tk.handler tk.hart tk.prio tk.line w5] = some (undef, h6.set id cc) := stc
  obtain ⟨h7, eh7⟩ : ∃ x_, h6.set id cc = x_ := ⟨_, rfl⟩
  rw [eh7] at stc' hmd
  have gq7 : h7.get q = some (.blk [.int .i64 p.harts, d, r, t] true) := by rw [← eh7, Heap.set_getE _ _ _ _ (by have := hidq'; simp; omega)]; exact gq6
  have hp7 : PrC h7 (putB p k tk (lessSs tk.body kk)) [.int .i64 p.harts, d, r, t] := hmd.prc
  have hz : ∀ e i n, CheckIs (putB p k tk (lessSs tk.body kk)) e i n → e = 0 ∧ i = 0 ∧ n = 0 := fun e i n hc => putB_zero hf.h hg.h.right hkt.h (lessSs_I _ _ _ (rightP_st hg.h.right tk (List.mem_of_getElem? hkt.h))) (lessSs_ok _ _ _ (hf.h.body tk (List.mem_of_getElem? hkt.h))) hc
  have bl : ∀ t' ∈ (putB p k tk (lessSs tk.body kk)).tasks, (flatSs [] t'.body).length < 4611686018427387904 := fun t' ht' => by
    have ht' : t' ∈ p.tasks.set k { tk with body := lessSs tk.body kk } := ht'
    rcases List.mem_or_eq_of_mem_set ht' with h | rfl
    · have := good_bd hg.h t' h; omega
    · have h1 := lessSs_cnt tk.body kk
      have h2 := hc.h
      rw [cntSs_flat]; show cntSs (lessSs tk.body kk) < _; omega
  clear stc
  replace l5 := Hid.mk l5; replace hw5 := Hid.mk hw5; replace l26 := Hid.mk l26; replace hw6 := Hid.mk hw6; replace hmd := Hid.mk hmd; replace hp7 := Hid.mk hp7; replace hz := Hid.mk hz; replace bl := Hid.mk bl; replace i5 := Hid.mk i5
  repeat' (first | simp -implicitDefEqProofs only [walkL, aR, aW, aBin, aInt, Int.reduceBEq, Int.reduceBNe, Nat.reduceBEq, Int.reduceLT, Int.reduceLE, partL6, partL4, *] | with_reducible (first | refine kcd ?_ ?_ | refine kgd ?_ ?_ | refine kci ?_ ?_ | refine kgi ?_ ?_) <;> intro hc)
  refine Check_c hp7.h bl.h _ fun h8 e i n hci l8 => ?_
  obtain ⟨rfl, rfl, rfl⟩ := hz.h e i n hci
  clear hci
  have st2 : wStore 2 (h8.alloc (.blk [.int .i64 0, .int .i64 0] true)) [.pointer (some ⟨h8.next, 0, none⟩), .agg #[.int .i64 0, .int .i64 0]] = some (undef, h8.alloc (.blk [.int .i64 0, .int .i64 0] true)) := wStore_new rfl rfl rfl rfl
  have gp5 := Heap.get_alloc_same h8 (.blk [.int .i64 0, .int .i64 0] true)
  have lh9 := (Heap.le.refl h8).alloc (.blk [.int .i64 0, .int .i64 0] true)
  obtain ⟨p5, ep5⟩ : ∃ x_, h8.next = x_ := ⟨_, rfl⟩
  obtain ⟨h9, eh9⟩ : ∃ x_, h8.alloc (.blk [.int .i64 0, .int .i64 0] true) = x_ := ⟨_, rfl⟩
  rw [eh9] at gp5 lh9
  rw [ep5] at gp5
  rw [eh9, ep5] at st2
  replace l8 := Hid.mk l8; replace lh9 := Hid.mk lh9
  repeat' (first | simp -implicitDefEqProofs only [walkL, aR, aW, aBin, aInt, Int.reduceBEq, Int.reduceBNe, Nat.reduceBEq, Int.reduceLT, Int.reduceLE, pb0, eq00b, part22b, *] | with_reducible (first | refine kcd ?_ ?_ | refine kgd ?_ ?_ | refine kci ?_ ?_ | refine kgi ?_ ?_) <;> intro hc)
  exact hq.h _
end Go.Eng.Sy

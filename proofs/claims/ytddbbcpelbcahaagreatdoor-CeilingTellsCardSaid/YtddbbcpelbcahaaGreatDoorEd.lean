/-
  Part of a proof of the laws of layer 09 (ceiling): an order-free machine for the code, and that it is sound.
  Conditions: none.
-/
import Derived.Test.YtddbbcpelbcahaaGreatDoorEc
import Derived.RecoverIn
import Derived.Test.YtddbbcpelbcahaaGreatDoorEb
set_option linter.unusedSimpArgs false
set_option linter.unusedVariables false
namespace Go.Eng
open Go
variable {P:Program}
structure DFn where
 nargs:Nat
 vars:List Nat
 pre:List CCode
 caps:List Nat
 clo:FuncId
 rest:CCode
 results:List ResArg
structure DeferOk (N:Nat) (vars caps:List Nat) (clo:FuncId) (o1 o2:Oper) (t:Nat) (cs:Array Operand) (c:Call):Prop where
 op1:o1.op = .makeFunc (.func clo) #[] cs
 dst1:o1.dst=some t
 g1:o1.guard=none
 op2:o2.op = .defer c
 dst2:o2.dst=none
 g2:o2.guard=none
 fn:c.callee = .value (.tmp t)
 args:c.args = #[]
 out:t ∉ vars
 lt:t < N
 caps:All2 (fun k x=>∃ s,x=Operand.tmp s∧vars[k]? = some s) caps cs.toList
def uz (P:Program) (N:Nat) (vars caps:List Nat) (clo:FuncId):List CCode→CCode→Code→Prop
 | [],rest,.seq (.region _ ops false) y=>(∃ o1 o2 t cs c,ops = #[o1,o2]∧DeferOk N vars caps clo o1 o2 t cs c)∧yi P N vars rest y
 | c::pre,rest,.seq x y=>yi P N vars c x∧uz P N vars caps clo pre rest y
 | _,_,_=>False
inductive PreT (P:Program) (N:Nat) (vars:List Nat):List CCode→lVq→Heap→Bool→lVq→Heap→Prop
 | nil {env h}:PreT P N vars [] env h true env h
 | cons {c r env h e1 h1 b e2 h2}(hn:c.noRange=true) (t:CodeT P N vars c env h .normal e1 h1) (r' : PreT P N vars r e1 h1 b e2 h2):PreT P N vars (c::r) env h b e2 h2
 | stop {c r env h e1 h1}(hn:c.noRange=true) (t:CodeT P N vars c env h .ret e1 h1):PreT P N vars (c::r) env h false e1 h1
theorem PreT.step {N:Nat}{vars:List Nat}{l:List CCode}{env e1:lVq}{h h1:Heap}{b:Bool}(t:PreT P N vars l env h b e1 h1):h.step h1:=by
 induction t with
 | nil=>exact Heap.step.refl _
 | cons _ t _ ih=>exact t.1.trans ih
 | stop _ t=>exact t.1
def J0 (env:lVq):List Nat→Option (lVq)
 | []=>some []
 | k::r=>match env[k]?,J0 env r with
  | some v,some l=>some (v::l)
  | _,_=>none
theorem pre_ok {N:Nat}{vars caps:List Nat}{clo:FuncId}{rest:CCode}{base:Nat}{l:List CCode}{env e1:lVq}{h h1:Heap}{b:Bool}(t:PreT P N vars l env h b e1 h1):∀ {code:Code},uz P N vars caps clo l rest code →
  ∀ (G:Nat→Option AObj) (ρ:Ren) (w:World) (a:Act),h.into G→Fresh ρ h.next h1.next→Sim base G ρ w→EnvR ρ N vars env a.tmps → ∀ Q:Exit→Act→World→Prop,
   (b=false → ∀ a' ρ' w',Left true base G ρ w a N vars h h1 e1 a' ρ' w' → Q .ret a' w') →
   (b=true → ∀ code',uz P N vars caps clo [] rest code' → ∀ a' ρ' w',Left true base G ρ w a N vars h h1 e1 a' ρ' w' → code'.wpIn (vj none) 0 P Q a' w')→code.wpIn (vj none) 0 P Q a w:=by
 induction t with
 | nil=>intro code hc G ρ w a hG hfr hS henv Q _ h2;exact h2 rfl code hc a ρ w ⟨Agree.refl _ _ _,henv,yp4,Sim.congr hS (y0 hG),WStep.refl _ _⟩
 | @cons c r env h e1 h1 b e2 h2 hn t r' ih =>
  intro code hc G ρ w a hG hfr hS henv Q q1 q2;cases code<;>simp only [uz] at hc;refine wpIn_seq (t.2 _ hc.1 base G ρ w a none (fun _=>rfl) hG (hfr.left r'.step.next) hS henv _ fun a' ρ' w' hl=>?_);have tr:∀ {a2 ρ2 w2},Left true base (vv h1 G) ρ' w' a' N vars h1 h2 e2 a2 ρ2 w2→Left true base G ρ w a N vars h h2 e2 a2 ρ2 w2:=fun hl2=>hl.trans t.1 r'.step (fun _=>⟨hn,rfl⟩) hl2;exact ih hc.2 (vv h1 G) ρ' w' a' (yx _ _) (hfr.right t.1.next hl.agree) hl.sim hl.env Q (fun hb a2 ρ2 w2 hl2=>q1 hb a2 ρ2 w2 (tr hl2)) (fun hb code' hc' a2 ρ2 w2 hl2=>q2 hb code' hc' a2 ρ2 w2 (tr hl2))
 | @stop c r env h e1 h1 hn t =>
  intro code hc G ρ w a hG hfr hS henv Q q1 q2;cases code<;>simp only [uz] at hc;refine wpIn_seq (t.2 _ hc.1 base G ρ w a none (fun _=>rfl) hG hfr hS henv _ fun a' ρ' w' hl=>?_);exact q1 rfl a' ρ' w' (hl.weak fun _=>hn)
theorem defer_wp {N:Nat}{vars caps:List Nat}{clo:FuncId}{o1 o2:Oper}{t:Nat}{cs:Array Operand}{c:Call}(hd:DeferOk N vars caps clo o1 o2 t cs c){id:Nat}{ρ:Ren}{env vs:lVq}{a:Act}{w:World}(henv:EnvR ρ N vars env a.tmps) (hv:J0 env caps=some vs){Q:Exit→Act→World→Prop}
  (hq:∀ a' vs',VRs ρ vs vs' → EnvR ρ N vars env a'.tmps→a'.defers = { target:=.fn (.func clo) vs'.toArray,args:=#[] }::a.defers→Q .normal a' w):(Code.region id #[o1,o2] false).wpIn (vj none) 0 P Q a w:=by
 refine wpIn_region ?_;show wpOpsIn (vj none) 0 P #[o1,o2] Q [0,1] a w;obtain ⟨vs',h1,h2⟩:∃ vs',cs.toList.map a.eval=vs' ∧ VRs ρ vs vs':=by
  refine ⟨_,rfl,?_⟩;have:∀ {ks:List Nat}{xs:List Operand},All2 (fun k x=>∃ s,x=Operand.tmp s∧vars[k]? = some s) ks xs → ∀ {vs:lVq},J0 env ks=some vs→VRs ρ vs (xs.map a.eval):=by
   intro ks xs h;induction h with
   | nil=>intro vs hv;cases hv;exact .nil
   | @cons k x ks xs hk hr ih =>
    intro vs hv;obtain ⟨s,rfl,hs⟩:=hk;simp only [J0] at hv;split at hv<;>first | (cases hv;done) | skip
    rename_i v l hv1 hl;cases hv;obtain ⟨v',e1,e2⟩:=henv.get k s v hs hv1;refine .cons _ _ _ _ ?_ (ih hl);simp only [Act.eval,Array.getD_eq_getD_getElem?,e1];exact e2
  exact this hd.caps hv
 have w1:Region.wanted o1 (yielded #[o1,o2] a.tmps)=true:=by simp [Region.wanted,hd.g1]
 have hsz:=henv.size;have r1:(o1.semAt none a.eval).run P w = .ok (.value (.func (.func clo) #[] vs'.toArray)) w:=by
  rw [Oper.semAt_none];simp [execOp,hd.op1,Instr.makeFunc,← h1,← Array.toList_inj]
 simp only [wpOpsIn,List.getElem?_toArray,List.getElem?_cons_zero,w1,if_true,Oper.wpIn];refine ⟨fun _ _=>trivial,?_⟩;show Oper.uponIn _ _ _ _ _ _ _ ((o1.semAt none a.eval).run P w);rw [r1,Oper.uponIn_value];have w2:∀ b:Array Value,Region.wanted o2 (yielded #[o1,o2] b)=true:=fun b=>by simp [Region.wanted,hd.g2]
 simp only [List.getElem?_cons_succ,List.getElem?_cons_zero,w2,if_true];refine ⟨fun _ _=>trivial,?_⟩;show Oper.uponIn _ _ _ _ _ _ _ ((o2.semAt none (a.put o1.dst (.func (.func clo) #[] vs'.toArray)).eval).run P w);rw [hd.dst1];have ht:(a.put (some t) (.func (.func clo) #[] vs'.toArray)).eval (.tmp t) = .func (.func clo) #[] vs'.toArray:=by
  simp only [Act.eval,Array.getD_eq_getD_getElem?];rw [Act.put_same (by rw [hsz];exact hd.lt)];rfl
 have r2:(o2.semAt none (a.put (some t) (.func (.func clo) #[] vs'.toArray)).eval).run P w = .ok (.defer { target:=.fn (.func clo) vs'.toArray,args:=#[] }) w:=by
  rw [Oper.semAt_none];simp [execOp,hd.op2,resolve,hd.fn,hd.args,ht,Deferred.ofValue]
 rw [r2,Oper.uponIn_defer,hd.dst2];refine hq _ vs' h2 ⟨?_,henv.len,fun k s v hk hv=>?_⟩ rfl
 ·rw [Act.put_size];show (a.put (some t) _).tmps.size=N;rw [Act.put_size];exact hsz
 ·obtain ⟨v',e1,e2⟩:=henv.get k s v hk hv;refine ⟨v',?_,e2⟩;show (a.put (some t) _).tmps[s]? = some v';rw [Act.put_get fun e=>by cases e;exact hd.out (List.mem_of_getElem? hk)];exact e1
structure DFnOk (P:Program) (f:FuncId) (d:DFn):Prop where
 fn : ∃ fn code, P.funcs[f]? = some fn ∧ fn.body = some code ∧ (fn.name == "runtime.NumGoroutine") = false ∧ uz P fn.ntmps d.vars d.caps d.clo d.pre d.rest code ∧ All2 (yj2 P d.vars) fn.results.toList d.results ∧ d.nargs ≤ fn.ntmps ∧
  (∀ (k:Nat) s,d.vars[k]? = some s→(k < d.nargs→s=k)∧(d.nargs≤k→d.nargs≤s∧s < fn.ntmps))∧d.nargs≤d.vars.length
structure CloRet (P:Program) (f:FuncId) (n:Nat):Prop where
 enters:Jg P f
 ret:∀ (args:Array Value) (w:World),args.size=n→Yr w.heap.size w→CallsDIn Fence.wide 0 P f args .returning w fun e u' w'=>u' = .returning∧(∃ v,e = .returned v)∧WStep w.heap.size w w'
theorem yf5 {ρ:Ren}{vs vs' : lVq}(e1:VRs ρ vs vs'):VR ρ (yl vs) (yl vs'):=by
 cases e1 with
 | nil=>exact .tuple [] [] .nil
 | cons x x' r r' hx hr=>cases hr with
  | nil=>exact hx
  | cons y y' r2 r2' hy hr=>exact .tuple _ _ (.cons _ _ _ _ hx (.cons _ _ _ _ hy hr))
theorem Uc {fn:Func}{tmps:Array Value}{vs' : lVq}{w2:World}(e2:(fn.results.toList.mapM (fun | .tmp t=>pure (tmps.getD t undef) | .cell p t=>do loadVar t (← asAddr (tmps.getD p undef)):ResultVar→Sem Value)).run P w2 = .ok vs' w2):(results fn tmps).run P w2 = .ok (yl vs') w2:=by
 unfold results;rw [Array.mapM_eq_mapM_toList];simp only [Sem.run_bind,Sem.run_map]
 erw [e2]
 simp only [Result.andThen_ok];cases vs' with
 | nil=>rfl
 | cons x r=>cases r with
  | nil=>rfl
  | cons y r=>simp [yl]
theorem Sim.after {base:Nat}{G:Nat→Option AObj}{ρ:Ren}{w w' : World}(hS:Sim base G ρ w) (hst:WStep w.heap.size w w'):Sim base G ρ w' ∧ WStep base w w' :=
 ⟨⟨hS.dom,Nat.le_trans hS.size hst.size,fun id l hl=>Nat.lt_of_lt_of_le (hS.rng id l hl) hst.size,fun id o l hg hl=>(hS.obj id o l hg hl).mono (Ren.le_refl _) (hst.low _ (hS.rng id l hl)),hS.inj,km (fun b hb=>hst.low b (Nat.lt_of_lt_of_le hb hS.size)) hS.glob⟩,
 ⟨hst.size,fun b hb=>hst.low b (Nat.lt_of_lt_of_le hb hS.size),hst.tape,hst.os,hst.output,fun a ha=>hst.froz a (Nat.lt_of_lt_of_le ha hS.size)⟩⟩
def DBodyT (P:Program) (N:Nat) (d:DFn) (args:lVq) (h:Heap) (v:Value) (h' : Heap):Prop :=
 (∃ env vs,PreT P N d.vars d.pre (args++List.replicate (d.vars.length - args.length) undef) h false env h' ∧ qo env h' d.results=some vs∧v=yl vs) ∨
 (d.rest.noRange=true ∧ ∃ env h1 env2 cs x vs,PreT P N d.vars d.pre (args++List.replicate (d.vars.length - args.length) undef) h true env h1∧J0 env d.caps=some cs∧CodeT P N d.vars d.rest env h1 x env2 h' ∧ (x = .normal∨x = .ret)∧qo env2 h' d.results=some vs∧v=yl vs)
theorem za8 {env:lVq}:∀ {ks:List Nat}{vs:lVq},J0 env ks=some vs→vs.length=ks.length
 | [],vs,h=>by cases h;rfl
 | k::r,vs,h=>by
  simp only [J0] at h;split at h<;>first | (cases h;done) | skip
  rename_i hl;cases h;simp [za8 hl]
theorem CallT.of_dbody {f:FuncId}{d:DFn}(hf:DFnOk P f d) (hclo:CloRet P d.clo d.caps.length){args:lVq}{h h' : Heap}{v:Value}(hn:args.length=d.nargs){fn:Func}(hfn:P.funcs[f]? = some fn) (hb:DBodyT P fn.ntmps d args h v h'):CallT P f args h v h':=by
 obtain ⟨fn',code,h1,h2,h3,h4,h5,h6,h7,h8⟩:=hf.fn;rw [hfn] at h1;cases h1;have henter:Jg P f:=by
  intro args w;have h3' : ¬ fn.name = "runtime.NumGoroutine" := by simpa using h3
  simp [callFunc,hfn,h3',h2]
 have hst:h.step h':=by
  rcases hb with ⟨env,vs,hp,_⟩ | ⟨_,env,h1,env2,cs,x,vs,hp,_,hc,_⟩
  ·exact hp.step
  ·exact hp.step.trans hc.1
 refine ⟨henter,hst,fun base G ρ w args' hG hfr hS hargs=>?_⟩;have hl:args'.length=d.nargs:=by rw [← hargs.length];exact hn
 refine callsIn_wide.1 (callsIn_of_wp_marks (n:=0) hfn h2 trivial ?_);have hwide:vj none=Fence.wide:=rfl;rw [← hwide];have henv:EnvR ρ fn.ntmps d.vars (args++List.replicate (d.vars.length - args.length) undef) (args'.toArray++Array.replicate (fn.ntmps - args'.toArray.size) undef):=by
  refine ⟨by simp;omega,by simp;omega,fun k s v hk hv=>?_⟩;obtain ⟨ha,hb⟩:=h7 k s hk;by_cases hka:k < d.nargs
  ·obtain rfl:=ha hka;rw [List.getElem?_append_left (by omega)] at hv;obtain ⟨v',e1,e2⟩:=hargs.get s v hv;refine ⟨v',?_,e2⟩;rw [Array.getElem?_append_left (by simp;omega)];simpa using e1
  ·obtain ⟨hb1,hb2⟩:=hb (by omega);rw [List.getElem?_append_right (by omega)] at hv;have hvu:v=undef:=by
    have:=List.mem_of_getElem? hv;exact (List.mem_replicate.1 this).2
   subst hvu;refine ⟨undef,?_,.same _ rfl⟩;rw [Array.getElem?_append_right (by simp;omega),Array.getElem?_replicate,if_pos];simp only [List.size_toArray];omega
 -- what is read at the end
 have fin:∀ {env:lVq}{vs:lVq}{a' : Act}{ρ' : Ren}{w' : World},qo env h' d.results=some vs→v=yl vs→Agree ρ ρ' h.next h'.next→EnvR ρ' fn.ntmps d.vars env a'.tmps→Sim base (vv h' G) ρ' w' → WStep base w w' →
   LeavesInM (vj none) 0 P fn a'.tmps (fun e w'=>∃ v' ρ',e = .returned v' ∧ StepOk base G ρ w h h' v v' ρ' w') [] .returning w':=by
  intro env vs a' ρ' w' hres hv hag he hs hst;obtain ⟨vs',hr1,hr2⟩:=yl8 he hs (yx h' G) h5 hres;refine ⟨yl vs',?_,yl vs',ρ',rfl,hag,?_,hs,hst⟩
  ·exact Uc hr2
  ·rw [hv];exact yf5 hr1
 rcases hb with ⟨env,vs,hp,hres,hv⟩ | ⟨hnr,env,h1',env2,cs,x,vs,hp,hcs,hc,hx,hres,hv⟩
 ·refine pre_ok hp h4 G ρ w _ hG hfr hS henv _ (fun _ a' ρ' w' hl=>?_) (fun hb=>by cases hb);obtain ⟨ds,_,hdef,hz⟩:=hl.defers;rw [hz rfl] at hdef;show LeavesInM _ _ _ _ _ _ a'.defers .returning w';rw [hdef];exact fin hres hv hl.agree hl.env hl.sim hl.step
 ·refine pre_ok hp h4 G ρ w _ hG (hfr.left hc.1.next) hS henv _ (fun hb=>by cases hb) (fun _ code' hc' a' ρ' w' hl=>?_);obtain ⟨ds,_,hdef,hz⟩:=hl.defers;rw [hz rfl] at hdef;cases code' <;> first | (simp only [uz] at hc';done) | skip
  rename_i c1 y;cases c1<;>first | (simp only [uz] at hc';done) | skip
  rename_i id ops draw;cases draw<;>simp only [uz] at hc';obtain ⟨⟨o1,o2,t,cap,c,rfl,hd⟩,hrest⟩:=hc';refine wpIn_seq (defer_wp hd hl.env hcs fun a2 cs' hrel henv2 hdef2=>?_);refine hc.2 y hrest base (vv h1' G) ρ' w' a2 none (fun _=>rfl) (yx _ _) (hfr.right hp.step.next hl.agree) hl.sim henv2 _ fun a3 ρ3 w3 hl3=>?_;obtain ⟨ds3,_,hdef3,hz3⟩:=hl3.defers;rw [hz3 hnr] at hdef3;have hds:a3.defers=[{ target:=.fn (.func d.clo) cs'.toArray,args:=#[] }]:=by rw [hdef3,hdef2,hdef];rfl
  have key:LeavesInM (vj none) 0 P fn a3.tmps (fun e w'=>∃ v' ρ',e = .returned v' ∧ StepOk base G ρ w h h' v v' ρ' w') a3.defers .returning w3:=by
   rw [hds];refine ⟨by simp,.inr ⟨fun hd=>by simp [vj,Fence.wide] at hd,.func d.clo,cs'.toArray,d.clo,cs'.toArray,rfl,?_,fun _ _=>trivial,?_⟩⟩
   ·have:=hd.op1;simp only [invoke];have hcl:Jg P d.clo:=hclo.enters;rw [hcl];simp
   ·refine (hclo.ret cs'.toArray w3 (by simp only [List.size_toArray];rw [← hrel.length];exact za8 hcs) (Va hl3.sim.size hl3.sim.glob)).mono ?_;rintro e u' w4 ⟨rfl,⟨rv,rfl⟩,hst4⟩;have hS3:Sim base (vv h' G) ρ3 w3:=Sim.congr hl3.sim fun id=>(zl8 hc.1 G id).symm;obtain ⟨hS4,hst5⟩:=hS3.after hst4;exact fin hres hv (hl.agree.trans hl3.agree hp.step.next hc.1.next) hl3.env hS4 ((hl.step.trans hl3.step).trans hst5)
  rcases hx with rfl | rfl
  ·exact key
  ·exact key
theorem Sim.empty {base:Nat}{w:World}(hg:Yr base w) (hs:base≤w.heap.size):Sim w.heap.size (fun _=>none) (fun _=>none) w :=
 ⟨fun _=>rfl,Nat.le_refl _,fun _ _ h=>(by cases h),fun _ _ _ h _=>(by cases h),fun _ _ _ _ _ _ h _ _ _ _ _ _=>(by cases h),Va hs hg⟩
section
variable {ops:Array Oper}{Q:Exit→Act→List Frame→World→Prop}{rest:List Nat}{a:Act}{cs:List Frame}{w:World}{i:Nat}{o:Oper}
theorem kn {v:Value}{w' : World}(ho:ops[i]? = some o) (hg:o.guard=none) (hr:(execOp a.eval o).run P w = .ok (.value v) w') (h:wpOpsSIn Fence.wide 0 P ops Q rest (a.put o.dst v) cs w'):wpOpsSIn Fence.wide 0 P ops Q (i::rest) a cs w:=by
 have hw:Region.wanted o (yielded ops a.tmps)=true:=by simp [Region.wanted,hg]
 simp only [wpOpsSIn,ho,hw,if_true,hr];exact ⟨fun _ _=>trivial,h⟩
theorem yo5 {w' : World}(ho:ops[i]? = some o) (hg:o.guard=none) (hr:(execOp a.eval o).run P w = .ok .skip w') (h:wpOpsSIn Fence.wide 0 P ops Q rest (a.put o.dst undef) cs w'):wpOpsSIn Fence.wide 0 P ops Q (i::rest) a cs w:=by
 have hw:Region.wanted o (yielded ops a.tmps)=true:=by simp [Region.wanted,hg]
 simp only [wpOpsSIn,ho,hw,if_true,hr];exact ⟨fun _ _=>trivial,h⟩
theorem yo6 {w' : World}(ho:ops[i]? = some o) (hg:o.guard=none) (hr:(execOp a.eval o).run P w = .ok .recover w') (hc:recoverD cs=none) (h:wpOpsSIn Fence.wide 0 P ops Q rest (a.put o.dst .nilIface) cs w'):wpOpsSIn Fence.wide 0 P ops Q (i::rest) a cs w:=by
 have hw:Region.wanted o (yielded ops a.tmps)=true:=by simp [Region.wanted,hg]
 simp only [wpOpsSIn,ho,hw,if_true,hr,hc];exact ⟨fun _ _=>trivial,h⟩
end
structure RecOk (P:Program) (f:FuncId) (tW:TypeId) (z:lVq):Prop where
 code : ∃ fn id id1 ops ops1 x, P.funcs[f]? = some fn ∧ fn.body = some (.seq (.region id ops false) (.seq (.region id1 ops1 false) (.cond (.tmp 9) x .skip))) ∧ fn.ntmps = 14 ∧ fn.results = #[] ∧ (fn.name == "runtime.NumGoroutine") = false ∧
  (∃ o0 o1 o2 o3 o4 o5 o6 o7 c0 xT,ops = #[o0,o1,o2,o3,o4,o5,o6,o7]∧(o0.op = .call c0∧o0.dst=some 5∧o0.guard=none∧c0.callee = .builtin .recover∧c0.args = #[])∧(o1.op = .typeAssert (.tmp 5) xT tW true∧o1.dst=some 6∧o1.guard=none) ∧
   (o2.op = .move (.tmp 6)∧o2.dst=some 4∧o2.guard=none)∧(o3.op = .extract (.tmp 4) 0∧o3.dst=some 7∧o3.guard=none)∧(o4.op = .extract (.tmp 4) 1∧o4.dst=some 8∧o4.guard=none) ∧
   (o5.op = .alloc tW∧o5.dst=some 2∧o5.guard=none)∧(o6.op = .store tW (.tmp 2) (.tmp 7)∧o6.dst=none∧o6.guard=none)∧(o7.op = .assign (.tmp 8)∧o7.dst=some 3∧o7.guard=none)) ∧
  (∃ p0,ops1 = #[p0]∧p0.op = .move (.tmp 3)∧p0.dst=some 9∧p0.guard=none)
 zero:zero? P tW=some z
 und:(Yl P tW).isSome=true
 held:heldT P tW=false
 size:sizeOf? P tW=some z.length
theorem clo_ret {f:FuncId}{tW:TypeId}{z:lVq}(hr:RecOk P f tW z):CloRet P f 2:=by
 obtain ⟨fn,id,id1,ops,ops1,x,hf,hb,hN,hres,hname,⟨o0,o1,o2,o3,o4,o5,o6,o7,c0,xT,rfl,⟨a1,a2,a3,a4,a5⟩,⟨b1,b2,b3⟩,⟨d1,d2,d3⟩,⟨e1,e2,e3⟩,⟨f1,f2,f3⟩,⟨g1,g2,g3⟩,⟨h1,h2,h3⟩,⟨i1,i2,i3⟩⟩,⟨p0,rfl,j1,j2,j3⟩⟩:=hr.code;refine ⟨?_,fun args w hn hglob=>?_⟩
 ·intro args w;have h3' : ¬ fn.name = "runtime.NumGoroutine" := by simpa using hname
  simp [callFunc,hf,h3',hb]
 obtain ⟨zv,hz1,hz2,hz3,hz4⟩:=kh hr.zero;obtain ⟨fs,hu⟩:∃ fs,P.underlying tW=some (.struct fs):=by
  have:=hr.und;unfold Yl at this;split at this
  ·rename_i fs h;exact ⟨fs,h⟩
  ·cases this
 obtain ⟨q0,q1,rfl⟩:∃ q0 q1,args = #[q0,q1]:=by
  obtain ⟨l⟩:=args
  match l,hn with
  | [a,b],_=>exact ⟨a,b,rfl⟩
 clear hn;refine callsDIn_of_wpSIn hf hb trivial fun c₀ cs hu'=>?_;have t0 : #[q0,q1]++Array.replicate (fn.ntmps - #[q0,q1].size) undef = #[q0,q1,undef,undef,undef,undef,undef,undef,undef,undef,undef,undef,undef,undef]:=by rw [hN];rfl
 rw [t0];apply wpSIn_seq;apply wpSIn_region;change wpOpsSIn _ _ _ _ _ [0,1,2,3,4,5,6,7] _ _ _;refine yo6 (o:=o0) (w':=w) rfl a3 (by simp [execOp,a1,resolve,a4,a5,invoke,builtin]) (by simp [recoverD,hu']) ?_;rw [a2];refine kn (o:=o1) (v:=.tuple #[zv,.bool false]) (w':=w) rfl b3 ?_ ?_
 ·simp [execOp,b1,Act.eval,Act.put,Instr.typeAssert,run_underlying hu,hz1]
 rw [b2];refine kn (o:=o2) (v:=.tuple #[zv,.bool false]) (w':=w) rfl d3 ?_ ?_
 ·simp [execOp,d1,Act.eval,Act.put]
 rw [d2];refine kn (o:=o3) (v:=zv) (w':=w) rfl e3 ?_ ?_
 ·simp [execOp,e1,Act.eval,Act.put,Instr.extract]
 rw [e2];refine kn (o:=o4) (v:=.bool false) (w':=w) rfl f3 ?_ ?_
 ·simp [execOp,f1,Act.eval,Act.put,Instr.extract]
 rw [f2];generalize hA:Act.put _ (some 8) _=A;have hA7:A.eval (.tmp 7)=zv:=by rw [← hA];simp [Act.eval,Act.put]
 have hA8:A.tmps[8]? = some (.bool false):=by rw [← hA];simp [Act.put]
 have hAs:A.tmps.size=14:=by rw [← hA];simp [Act.put]
 have hAd:A.defers=[]:=by rw [← hA];rfl
 clear hA;have hS:=Sim.empty hglob (Nat.le_refl _);have hk5:zm P o5.op=some (.a (.new z),[]):=by simp [g1,zm,W0,hr.zero,hr.held]
 obtain ⟨l,v5,w5,k1,k2,k3,k4⟩:=yd1 (ev:=A.eval) hk5 (vs:=[]) .nil hS (cells:=z) (mk:=fun id=>.pointer (some ⟨id,0,none⟩)) rfl (id:=0) rfl;refine kn (o:=o5) (v:=v5) (w':=w5) rfl g3 (k4 o5 rfl) ?_;rw [g2];have hk6:zm P o6.op=some (.w (.store z.length),[.tmp 2,.tmp 7]):=by simp [h1,zm,hr.size]
 let hp:Heap:=⟨1,fun id=>if id=0 then some (.blk z true) else .none,fun id hid=>by rw [if_neg (by omega)]⟩;have hG:hp.into (vl (fun _=>.none) 0 (.blk z true)):=fun id o ho=>ho;have hvr:∀ ρ,VR ρ zv zv:=fun ρ=>by
  have key:Value.plain zv=true ∨ ∃ c,zv = .agg c:=by
   cases zv<;>first | exact .inr ⟨_,rfl⟩ | (left;exact hz3 _ (by rw [← hz2];simp [Value.cells]))
  rcases key with h | ⟨c,rfl⟩
  ·exact .same _ h
  ·have hc:c.toList=z:=hz2;have:=VR.agg (ρ:=ρ) c.toList c.toList (VRs.plain (by rw [hc];exact hz3)) (by rw [hc];exact hz4);simpa using this
 have hw6:aW (.store z.length) [.pointer (some ⟨0,0,none⟩),zv] hp=some (undef,hp.set 0 (.blk (z.take 0++zv.cells.toList++z.drop (0 + z.length)) true)):=by
  have e1:hp.get 0=some (.blk z true):=rfl;simp only [aW,zt,e1,hz2];rw [if_pos ⟨trivial,by omega,by rw [List.all_eq_true];exact hz4⟩]
 generalize hB:Act.put A (some 2) v5=B;have hB2:B.eval (.tmp 2)=v5:=by rw [← hB];simp only [Act.eval,Array.getD_eq_getD_getElem?];rw [Act.put_same (by omega)];rfl
 have hB7:B.eval (.tmp 7)=zv:=by
  rw [← hA7,← hB];simp only [Act.eval,Array.getD_eq_getD_getElem?];rw [Act.put_get (by simp)]
 have hB8:B.tmps[8]? = some (.bool false):=by rw [← hB,Act.put_get (by simp)];exact hA8
 have hBs:B.tmps.size=14:=by rw [← hB,Act.put_size];exact hAs
 have hBd:B.defers=[]:=by rw [← hB,Act.put_defers'];exact hAd
 obtain ⟨v6,ρ6,w6,m1,m2⟩:=zx6 (ev:=B.eval) hk6 (vs:=[.pointer (some ⟨0,0,none⟩),zv]) (by rw [List.map_cons,List.map_cons,hB2,hB7];exact .cons _ _ _ _ k1 (.cons _ _ _ _ (hvr _) .nil)) k2 hG hw6 (fun id h1 h2=>absurd h2 (by simp;exact h1));have hst:=k3.trans m2.step;have go6:wpOpsSIn Fence.wide 0 P #[o0,o1,o2,o3,o4,o5,o6,o7] (Exit.thenS (((Code.region id1 #[p0] false).seq (.cond (.tmp 9) x .skip)).wpSIn Fence.wide 0 P (bodyPostS P fn c₀ cs fun e u' w'=>u' = .returning∧(∃ v,e = .returned v)∧WStep w.heap.size w w')) (bodyPostS P fn c₀ cs fun e u' w'=>u' = .returning∧(∃ v,e = .returned v)∧WStep w.heap.size w w')) [7] B (c₀::cs) w6:=by
  refine kn (o:=o7) (v:=.bool false) (w':=w6) rfl i3 ?_ ?_
  ·simp [execOp,i1,Act.eval,hB8]
  rw [i2];apply wpSIn_seq;apply wpSIn_region;change wpOpsSIn _ _ _ _ _ [0] _ _ _;generalize hC:Act.put B (some 3) _=D;have hD3:D.tmps[3]? = some (.bool false):=by rw [← hC];exact Act.put_same (by omega)
  have hDs:D.tmps.size=14:=by rw [← hC,Act.put_size];exact hBs
  have hDd:D.defers=[]:=by rw [← hC,Act.put_defers'];exact hBd
  refine kn (o:=p0) (v:=.bool false) (w':=w6) rfl j3 (by simp [execOp,j1,Act.eval,hD3]) ?_;rw [j2];show (Code.cond (.tmp 9) x .skip).wpSIn _ _ _ _ _ _ _;refine wpSIn_cond (t:=false) (by simp only [Act.eval,Array.getD_eq_getD_getElem?];rw [Act.put_same (by omega)];rfl) ?_;refine wpSIn_of_wpIn rfl (wpIn_skip ?_);refine ⟨by rw [Act.put_defers'];exact hDd,.returning,by cases c₀;simp_all,.tuple #[],?_,rfl,⟨_,rfl⟩,hst⟩;simp [results,hres]
 have hm:=m1 o6 rfl;rcases hm with hm | ⟨hm,_⟩
 ·refine kn (o:=o6) (v:=v6) (w':=w6) rfl h3 hm ?_;rw [h2];exact go6
 ·exact yo5 (o:=o6) (w':=w6) rfl h3 hm (by rw [h2];exact go6)
end Go.Eng
namespace Go.Eng
open Go
noncomputable section
def forceI {α:Type}(z:Int) (K:Int→α):α:=match z with
 | .ofNat n=>(match n with | 0=>K (.ofNat 0) | m + 1=>K (.ofNat (m + 1)))
 | .negSucc n=>(match n with | 0=>K (.negSucc 0) | m + 1=>K (.negSucc (m + 1)))
def Jw {α:Type}(n:Nat) (K:Nat→α):α:=match n with | 0=>K 0 | m + 1=>K (m + 1)
def zn8 {α β:Type}(l:List β):(List β→α)→α:=List.rec (motive:=fun _=>(List β→α)→α) (fun K=>K []) (fun b _ ih K=>ih fun l=>K (b::l)) l
def yt1 (l:lVq):Option Value:=zn8 l fun l=>some (.agg ⟨l⟩)
def zn7 {α:Type}(v:Value) (K:Value→α):α:=match v with
 | .int k z=>forceI z fun z=>K (.int k z)
 | .bool b=>(match b with | true=>K (.bool true) | false=>K (.bool false))
 | .string ⟨⟨l⟩⟩=>zn8 l fun l=>K (.string ⟨⟨l⟩⟩)
 | .pointer (some ⟨i,o,none⟩)=>Jw o fun o=>K (.pointer (some ⟨i,o,none⟩))
 | .slice (some ⟨i,o,none⟩) n s=>Jw o fun o=>Jw n fun n=>K (.slice (some ⟨i,o,none⟩) n s)
 | .agg ⟨l⟩=>zn8 l fun l=>K (.agg ⟨l⟩)
 | v=>K v
theorem yt0 {α:Type}(z:Int) (K:Int→α):forceI z K=K z:=by
 cases z<;>rename_i n<;>cases n<;>rfl
theorem ug {α:Type}(n:Nat) (K:Nat→α):Jw n K=K n:=by cases n<;>rfl
theorem Z9 {α β:Type}:∀ (l:List β) (K:List β→α),zn8 l K=K l
 | [],K=>rfl
 | b::r,K=>Z9 r fun l=>K (b::l)
theorem zn9 (l:lVq):yt1 l=some (.agg l.toArray):=Z9 _ _
theorem Vc {α:Type}(v:Value) (K:Value→α):zn7 v K=K v:=by
 unfold zn7;split
 ·rw [yt0]
 ·rename_i b;cases b<;>rfl
 ·rw [Z9]
 ·rw [ug]
 ·rw [ug,ug]
 ·rw [Z9]
 ·rfl
def eqI:Int→Int→Bool
 | .ofNat m,.ofNat n=>Nat.beq m n
 | .negSucc m,.negSucc n=>Nat.beq m n
 | _,_=>false
def ltI:Int→Int→Bool
 | .ofNat m,.ofNat n=>Nat.blt m n
 | .negSucc _,.ofNat _=>true
 | .ofNat _,.negSucc _=>false
 | .negSucc m,.negSucc n=>Nat.blt n m
def wrapF (k:IntKind) (z:Int):Int:=match k with
 | .i64=>(match z with
  | .ofNat n=>(match Nat.blt n 9223372036854775808 with | true=>.ofNat n | false=>IntKind.wrap .i64 (.ofNat n))
  | .negSucc n=>(match Nat.blt n 9223372036854775808 with | true=>.negSucc n | false=>IntKind.wrap .i64 (.negSucc n)))
 | k=>k.wrap z
def eqU (a b:UInt8):Bool:=Nat.beq a.toNat b.toNat
def eqL (l m:lBq):Bool:=List.rec (motive:=fun _=>lBq→Bool) (fun m=>match m with | []=>true | _::_=>false) (fun a _ ih m=>match m with | []=>false | b::s=>match eqU a b with | true=>ih s | false=>false) l m
def yr1 {α:Type}(l:List α):Nat:=List.rec (motive:=fun _=>Nat) 0 (fun _ _ n=>n + 1) l
def takeF {α:Type}(l:List α) (n:Nat):List α:=List.rec (motive:=fun _=>Nat→List α) (fun _=>[]) (fun a _ ih n=>match n with | 0=>[] | k + 1=>a::ih k) l n
def dropF {α:Type}(l:List α) (n:Nat):List α:=List.rec (motive:=fun _=>Nat→List α) (fun _=>[]) (fun a r ih n=>match n with | 0=>a::r | k + 1=>ih k) l n
def appF {α:Type}(l m:List α):List α:=List.rec (motive:=fun _=>List α) m (fun a _ ih=>a::ih) l
def yp1 {α:Type}(l:List α) (n:Nat):Option α:=List.rec (motive:=fun _=>Nat→Option α) (fun _=>none) (fun a _ ih n=>match n with | 0=>some a | k + 1=>ih k) l n
theorem eqI_eq (a b:Int):eqI a b=(a == b):=by
 cases a<;>cases b<;>simp [eqI]<;>rw [Bool.eq_iff_iff]<;>simp<;>omega
theorem ltI_eq (a b:Int):ltI a b=decide (a < b):=by
 cases a<;>cases b<;>simp only [ltI]<;>rw [Bool.eq_iff_iff]<;>simp [Nat.blt]<;>omega
theorem wrapF_eq (k:IntKind) (z:Int):wrapF k z=k.wrap z:=by
 unfold wrapF;split
 ·split
  ·rename_i n;split
   ·rename_i h;have h1:n < 9223372036854775808:=by have:=Nat.le_of_ble_eq_true h;omega
    rw [IntKind.wrap_i64];show (n:Int)=((n:Int) + 9223372036854775808) % 18446744073709551616 - 9223372036854775808;omega
   ·rfl
  ·rename_i n;split
   ·rename_i h;have h1:n < 9223372036854775808:=by have:=Nat.le_of_ble_eq_true h;omega
    rw [IntKind.wrap_i64];omega
   ·rfl
 ·rfl
theorem eqU_eq (a b:UInt8):eqU a b=(a == b):=by
 unfold eqU;rw [Bool.eq_iff_iff];constructor
 ·intro h;exact beq_iff_eq.2 (UInt8.toNat_inj.1 (Nat.eq_of_beq_eq_true h))
 ·intro h;rw [beq_iff_eq.1 h];exact Nat.beq_refl _
theorem zo5:∀ (l m:lBq),eqL l m=(l == m)
 | [],[]=>rfl
 | [],_::_=>rfl
 | _::_,[]=>rfl
 | a::l,b::m=>by
  show (match eqU a b with | true=>eqL l m | false=>false)=((a == b) && (l == m));rw [eqU_eq,zo5 l m];cases a == b<;>rfl
theorem Z6 {α:Type}:∀ (l:List α),yr1 l=l.length
 | []=>rfl
 | a::l=>by show yr1 l + 1=_;rw [Z6 l];rfl
theorem zc2 {α:Type}:∀ (l:List α) (n:Nat),takeF l n=l.take n
 | [],n=>by cases n<;>rfl
 | a::l,0=>rfl
 | a::l,n + 1=>by show a::takeF l n=_;rw [zc2 l n];rfl
theorem zf3 {α:Type}:∀ (l:List α) (n:Nat),dropF l n=l.drop n
 | [],n=>by cases n<;>rfl
 | a::l,0=>rfl
 | a::l,n + 1=>by show dropF l n=_;rw [zf3 l n];rfl
theorem qb6 {α:Type}:∀ (l m:List α),appF l m=l++m
 | [],m=>rfl
 | a::l,m=>by show a::appF l m=_;rw [qb6 l m];rfl
theorem Yy {α:Type}:∀ (l:List α) (n:Nat),yp1 l n=l[n]?
 | [],n=>rfl
 | a::l,0=>rfl
 | a::l,n + 1=>by show yp1 l n=_;rw [Yy l n];simp
def yi9 (op:BinOp) (a b:Value):Option Value:=match a with
 | .int k x=>(match b with
  | .int k' y=>(match op with
   | .add=>if k=k' then some (.int k (wrapF k (x + y))) else none
   | .sub=>if k=k' then some (.int k (wrapF k (x - y))) else none
   | .eql=>if k=k' then some (.bool (eqI x y)) else none
   | .neq=>if k=k' then some (.bool (!eqI x y)) else none
   | .lss=>if k=k' then some (.bool (ltI x y)) else none
   | .leq=>if k=k' then some (.bool (!ltI y x)) else none
   | .gtr=>if k=k' then some (.bool (ltI y x)) else none
   | .geq=>if k=k' then some (.bool (!ltI x y)) else none
   | op=>ze op (.int k x) (.int k' y))
  | b=>ze op (.int k x) b)
 | .string ⟨⟨l⟩⟩=>(match b with
  | .string ⟨⟨m⟩⟩=>(match op with
   | .eql=>some (.bool (eqL l m))
   | .neq=>some (.bool (!eqL l m))
   | .add=>if yr1 l + yr1 m≤9223372036854775807 then some (.string ⟨⟨appF l m⟩⟩) else none
   | op=>ze op (.string ⟨⟨l⟩⟩) (.string ⟨⟨m⟩⟩))
  | b=>ze op (.string ⟨⟨l⟩⟩) b)
 | a=>ze op a b
theorem aBinF_eq (op:BinOp) (a b:Value):yi9 op a b=ze op a b:=by
 cases a<;>try rfl
 case int k x =>
  cases b<;>try rfl
  rename_i k' y;cases op<;>try rfl
  all_goals simp only [yi9,ze,zf,wrapF_eq,eqI_eq,ltI_eq]
  all_goals by_cases hk:k=k' <;> simp only [hk,if_true,if_false]
  ·rw [bne]
  all_goals congr 2;rw [Bool.eq_iff_iff];simp
  all_goals omega
 case string s =>
  obtain ⟨⟨l⟩⟩:=s;cases b<;>try rfl
  rename_i s;obtain ⟨⟨m⟩⟩:=s;have hl:∀ l:lBq,ByteArray.toList ⟨⟨l⟩⟩=l:=fun l=>by simp [ByteArray.toList_eq]
  cases op<;>try rfl
  ·simp only [yi9,ze,yj7,Z6,qb6];have e1:(ByteArray.size ⟨⟨l⟩⟩)=l.length:=rfl;have e2:(ByteArray.size ⟨⟨m⟩⟩)=m.length:=rfl;rw [e1,e2];have e3:(⟨⟨l++m⟩⟩:ByteArray)=⟨⟨l⟩⟩++⟨⟨m⟩⟩:=by
    apply ByteArray.ext;rw [ByteArray.data_append];simp
   rw [e3]
  ·simp only [yi9,ze,yj7,zo5,hl]
  ·simp only [yi9,ze,yj7,zo5,hl]
theorem str_get (l:lBq) (i:Nat):(⟨⟨l⟩⟩:ByteArray)[i]? = l[i]?:=by
 by_cases h:i < l.length
 ·rw [List.getElem?_eq_getElem h,getElem?_pos (⟨⟨l⟩⟩:ByteArray) i (by exact h)];rfl
 ·rw [List.getElem?_eq_none (by omega),getElem?_neg (⟨⟨l⟩⟩:ByteArray) i (by exact h)]
def Yw (cells:lVq):Nat→lVq→Option (lVq):=List.rec (motive:=fun _=>Nat→lVq→Option (lVq)) (fun o vs=>match o with
  | 0=>(match vs with | []=>some [] | _::_=>none)
  | _ + 1=>none)
 (fun c r ih o vs=>match o with
  | 0=>(match vs with | []=>some (c::r) | v::s=>(match ih 0 s with | some l=>some (v::l) | none=>none))
  | k + 1=>(match ih k vs with | some l=>some (c::l) | none=>none)) cells
theorem Jj:∀ (cells:lVq) (o:Nat) (vs:lVq),Yw cells o vs=if o + vs.length≤cells.length then some (cells.take o++vs++cells.drop (o + vs.length)) else none
 | [],0,[]=>rfl
 | [],0,v::s=>by simp [Yw]
 | [],o + 1,vs=>by simp [Yw]
 | c::r,0,[]=>by simp [Yw]
 | c::r,0,v::s=>by
  show (match Yw r 0 s with | some l=>some (v::l) | none=>none)=_;rw [Jj r 0 s];by_cases h:s.length≤r.length
  ·rw [if_pos (by omega),if_pos (by simp;exact h)];simp
  ·rw [if_neg (by omega),if_neg (by simp;omega)]
 | c::r,k + 1,vs=>by
  show (match Yw r k vs with | some l=>some (c::l) | none=>none)=_;rw [Jj r k vs];by_cases h:k + vs.length≤r.length
  ·rw [if_pos h,if_pos (by simp;omega)];simp [show k + 1 + vs.length=(k + vs.length) + 1 by omega]
  ·rw [if_neg h,if_neg (by simp;omega)]
def oneF (v:Value):Bool:=match v with
 | .int .. | .string _ | .bool _ | .pointer _ | .slice ..=>true
 | v=>v.oneCell'
def yo7 (l:lVq):Bool:=List.rec (motive:=fun _=>Bool) true (fun v _ ih=>match oneF v with | true=>ih | false=>false) l
def Jz (v:Value):lVq:=match v with | .agg ⟨l⟩=>l | v=>[v]
theorem oneF_eq (v:Value):oneF v=v.oneCell':=by unfold oneF;split<;>rfl
theorem zd2:∀ (l:lVq),yo7 l=l.all (·.oneCell')
 | []=>rfl
 | v::r=>by
  show (match oneF v with | true=>yo7 r | false=>false)=_;rw [zd2 r,oneF_eq,List.all_cons];cases v.oneCell' <;> rfl
theorem zo8 (v:Value):Jz v=v.cells.toList:=by cases v<;>rfl
def yg3 (cells:lVq) (off size:Nat) (v:Value):Option (lVq):=match Nat.beq (yr1 (Jz v)) size && yo7 (Jz v) with
 | true=>Yw cells off (Jz v)
 | false=>none
theorem zd9 (cells:lVq) (off size:Nat) (v:Value):yg3 cells off size v=if v.cells.toList.length=size∧off + size≤cells.length∧v.cells.toList.all (·.oneCell')=true then some (cells.take off++v.cells.toList++cells.drop (off + size)) else none:=by
 unfold yg3;rw [Z6,zd2,zo8,Jj];by_cases h1:v.cells.toList.length=size
 ·subst h1;rw [Nat.beq_refl,Bool.true_and];cases h2:v.cells.toList.all (·.oneCell') with
  | false=>simp [h2]
  | true=>simp
 ·have:Nat.beq v.cells.toList.length size=false:=by
   cases hb:Nat.beq v.cells.toList.length size with
   | false=>rfl
   | true=>exact absurd (Nat.eq_of_beq_eq_true hb) h1
  rw [this,Bool.false_and,if_neg (fun h=>h1 (And.left h))]
def yh0 (parts:List (Nat × Nat)):lVq→lVq→Option (lVq):=List.rec (motive:=fun _=>lVq→lVq→Option (lVq)) (fun cells vs=>match vs with | []=>some cells | _::_=>none)
 (fun p _ ih cells vs=>match vs with
  | []=>none
  | v::s=>match p with
   | (off,size)=>match yg3 cells off size v with
    | some c=>ih c s
    | none=>none) parts
theorem ze9:∀ (parts:List (Nat × Nat)) (cells vs:lVq),yh0 parts cells vs=if parts.length=vs.length then Zj cells (parts.zip vs) else none
 | [],cells,[]=>rfl
 | [],cells,v::s=>by simp [yh0]
 | p::r,cells,[]=>by simp [yh0]
 | (off,size)::r,cells,v::s=>by
  show (match yg3 cells off size v with | some c=>yh0 r c s | none=>none)=_;rw [zd9];simp only [List.zip_cons_cons,Zj,List.length_cons,Nat.add_right_cancel_iff];by_cases h:v.cells.toList.length=size∧off + size≤cells.length∧v.cells.toList.all (·.oneCell')=true
  ·rw [if_pos h,if_pos h];exact ze9 r _ s
  ·rw [if_neg h,if_neg h];simp
def yn9 (agg:Bool) (off size:Nat) (cs:lVq):Option Value:=match agg with
 | true=>(match Nat.ble (off + size) (yr1 cs) with | true=>yt1 (takeF (dropF cs off) size) | false=>none)
 | false=>yp1 cs off
theorem zz3 (agg:Bool) (off size:Nat) (cs:lVq):yn9 agg off size cs=qu agg off size cs:=by
 cases agg
 ·exact Yy cs off
 ·unfold yn9 qu;rw [Z6];simp only [zn9,zc2,zf3,if_true];by_cases h:off + size≤cs.length
  ·rw [if_pos h,show Nat.ble (off + size) cs.length=true from Nat.ble_eq.mpr h]
  ·rw [if_neg h];cases hb:Nat.ble (off + size) cs.length with
   | false=>rfl
   | true=>exact absurd (Nat.le_of_ble_eq_true hb) h
def someS (v:Value):Option Value:=zn7 v some
def optS (v:Option Value):Option Value:=match v with | some v=>zn7 v some | none=>none
theorem someS_eq (v:Value):someS v=some v:=Vc v some
theorem zs5 (v:Option Value):optS v=v:=by cases v;rfl;exact Vc _ some
def aPF (k:PK) (vs:lVq):Option Value:=match k with
 | .mov=>(match vs with
  | [x]=>some x
  | _=>none)
 | .bin op=>(match vs with
  | [x,y]=>optS (yi9 op x y)
  | _=>none)
 | .fieldAddr off=>(match vs with
  | [.pointer (some ⟨id,o,none⟩)]=>Jw (o + off) fun o=>some (.pointer (some ⟨id,o,none⟩))
  | _=>none)
 | .field agg off size=>(match vs with
  | [.agg ⟨l⟩]=>yn9 agg off size l
  | _=>none)
 | .build zero parts=>(match yh0 parts zero vs with
  | some l=>yt1 l
  | none=>none)
 | .lenStr=>(match vs with
  | [.string ⟨⟨l⟩⟩]=>Jw (yr1 l) fun n=>some (.int .i64 (.ofNat n))
  | _=>none)
 | .idxStr=>(match vs with
  | [.string ⟨⟨l⟩⟩,.int _ (.ofNat i)]=>(match yp1 l i with | some b=>Jw b.toNat fun n=>some (.int .u8 (.ofNat n)) | none=>none)
  | _=>none)
 | .sliceStr lo hi=>(match vs with
  | .string ⟨⟨l⟩⟩::r=>(match Uh lo hi (yr1 l) r with | some (a,b)=>someS (.string ⟨⟨dropF (takeF l b) a⟩⟩) | none=>none)
  | _=>none)
 | .nilCheck=>pNilCheck vs
 | .extract i=>pExtract i vs
 | .pick=>pPick vs
 | .idxAddrS size=>optS (zp size vs)
 | .lenS=>optS (ua vs)
 | k=>optS (aP k vs)
theorem aPF_eq (k:PK) (vs:lVq):aPF k vs=aP k vs:=by
 cases k
 case mov=>rcases vs with _ | ⟨a,_ | ⟨b,r⟩⟩<;>rfl
 case bin op =>
  simp only [aPF,aP,zs5];rcases vs with _ | ⟨a,_ | ⟨b,_ | ⟨c,r⟩⟩⟩<;>first | rfl | exact aBinF_eq _ _ _
 case fieldAddr off =>
  simp only [aPF,aP,ug];unfold pFieldAddr;split<;>(split<;>first | rfl | contradiction | (rename_i h _;exact absurd rfl (h _ _)) | (rename_i h;exact absurd rfl (h _ _)) | simp_all)
 case field agg off size =>
  simp only [aPF,aP,zz3];unfold yo2;split
  ·rfl
  ·rename_i h;split
   ·rename_i cs;exact absurd rfl (h cs.toList)
   ·rfl
 case build zero parts =>
  simp only [aPF,aP,ze9,zn9];unfold yo;split
  ·rename_i h;split at h<;>first | (cases h;done) | skip
   rename_i hl;rw [if_pos hl,h];rfl
  ·rename_i h;split at h
   ·rename_i hl;rw [if_pos hl,h];rfl
   ·rename_i hl;rw [if_neg hl]
 case lenStr =>
  simp only [aPF,aP,ug];unfold Wo;split
  ·rename_i l;rw [Z6];rfl
  ·rename_i h;split
   ·rename_i s;exact absurd rfl (h s.data.toList)
   ·rfl
 case idxStr =>
  simp only [aPF,aP,ug];unfold Wp;split
  ·rename_i l k i;rw [Yy];have h0:(0:Int)≤Int.ofNat i:=by simp
   simp only [h0,if_true];have:(⟨⟨l⟩⟩:ByteArray)[(Int.ofNat i).toNat]? = l[i]?:=by
    show (⟨⟨l⟩⟩:ByteArray)[i]? = l[i]?;exact str_get l i
   rw [this];cases l[i]? <;> rfl
  ·rename_i h;split
   ·rename_i s k i;cases i with
    | ofNat i=>exact absurd rfl (h s.data.toList k i)
    | negSucc i=>simp
   ·rfl
 case sliceStr lo hi =>
  simp only [aPF,aP,someS_eq];unfold Z1;split
  ·rename_i l r;rw [Z6];show _=(Uh lo hi l.length r).map _;cases Uh lo hi l.length r with
   | none=>rfl
   | some p =>
    obtain ⟨a,b⟩:=p;simp only [Option.map_some,zf3,zc2]
    congr 2
    apply ByteArray.ext;rw [ByteArray.data_extract];simp [List.drop_take]
  ·rename_i h;split
   ·rename_i s r;exact absurd rfl (h s.data.toList r)
   ·rfl
 all_goals simp only [aPF,aP,zs5]
def aRF (k:RK) (vs:lVq) (G:Nat→Option AObj):Option Value:=match k with
 | .load agg size=>(match vs with
  | [.pointer (some ⟨id,o,none⟩)]=>(match G id with
   | some (.blk cells _)=>yn9 agg o size cells
   | some (.tblk cells _ _)=>yn9 agg o size cells
   | _=>none)
  | _=>none)
 | k=>optS (aR k vs G)
theorem aRF_eq (k:RK) (vs:lVq) (G:Nat→Option AObj):aRF k vs G=aR k vs G:=by
 cases k
 case load agg size =>
  simp only [aRF,zz3];split
  ·rfl
  ·rename_i h;unfold aR;split<;>first | rfl | (rename_i heq;cases heq;exact absurd rfl (h _ _)) | (rename_i h1 h2;cases h1;exact absurd h2 (h _ _)) | contradiction
 all_goals simp only [aRF,zs5]
def aAF (k:AK) (vs:lVq):Option (lVq × (Nat→Value)):=match k with
 | .box=>(match vs with
  | [v]=>(match yo7 (Jz v) with | true=>some (Jz v,fun id=>.pointer (some ⟨id,0,none⟩)) | false=>none)
  | _=>none)
 | .bslice zs parts len size=>(match yh0 parts zs vs with
  | some l=>zn8 l fun l=>some (l,fun id=>.slice (some ⟨id,0,none⟩) len size)
  | none=>none)
 | k=>aA k vs
theorem aAF_eq (k:AK) (vs:lVq):aAF k vs=aA k vs:=by
 cases k
 case box =>
  simp only [aAF,aA];rcases vs with _ | ⟨v,_ | ⟨b,r⟩⟩<;>first | rfl | skip
  show (match yo7 (Jz v) with | true=>some (Jz v,fun id=>Value.pointer (some ⟨id,0,none⟩)) | false=>none)=Je [v];rw [zd2,zo8];simp only [Je];cases h:v.cells.toList.all (·.oneCell')<;>simp
 case bslice zs parts len size =>
  simp only [aAF,aA,ze9,Z9];unfold yj;split
  ·rename_i h;split at h<;>first | (cases h;done) | skip
   rename_i hl;rw [if_pos hl,h];rfl
  ·rename_i h;split at h
   ·rename_i hl;rw [if_pos hl,h];rfl
   ·rename_i hl;rw [if_neg hl]
 all_goals rfl
def Arg.evF (ts env:lVq):Arg→Option Value
 | .t d=>yp1 ts d
 | .v k=>yp1 env k
 | .c x=>some x
 | .f i=>some (.func (.func i) #[] #[])
def evsF (ts env:lVq) (l:List Arg):Option (lVq):=List.rec (motive:=fun _=>Option (lVq)) (some []) (fun s _ ih=>match s.evF ts env with
 | some x=>(match ih with | some l=>some (x::l) | none=>none)
 | none=>none) l
def setF (l:lVq) (v:Value):Nat→lVq:=List.rec (motive:=fun _=>Nat→lVq) (fun _=>[]) (fun a r ih n=>match n with | 0=>v::r | k + 1=>a::ih k) l
def updF (ts:lVq) (l:List (Nat × Nat)):lVq→lVq:=List.rec (motive:=fun _=>lVq→lVq) (fun e=>e) (fun p _ ih e=>match p with
 | (k,d)=>match yp1 ts d with
  | some v=>ih (setF e v k)
  | none=>ih (setF e undef k)) l
theorem Arg.evF_eq (ts env:lVq) (a:Arg):a.evF ts env=a.ev ts env:=by cases a<;>simp [Arg.evF,Arg.ev,Yy]
theorem yu3 (ts env:lVq):∀ (l:List Arg),evsF ts env l=evs ts env l
 | []=>rfl
 | s::r=>by
  show (match s.evF ts env with | some x=>(match evsF ts env r with | some l=>some (x::l) | none=>none) | none=>none)=_;rw [yu3 ts env r,Arg.evF_eq];simp only [evs];cases s.ev ts env<;>cases evs ts env r<;>rfl
theorem yl5 (v:Value):∀ (l:lVq) (n:Nat),setF l v n=l.set n v
 | [],n=>by cases n<;>rfl
 | a::l,0=>rfl
 | a::l,n + 1=>by show a::setF l v n=_;rw [yl5 v l n];rfl
theorem yk3 (ts:lVq):∀ (l:List (Nat × Nat)) (e:lVq),updF ts l e=upd ts l e
 | [],e=>rfl
 | (k,d)::r,e=>by
  show (match yp1 ts d with | some v=>updF ts r (setF e v k) | none=>updF ts r (setF e undef k))=_;rw [Yy];simp only [upd,List.getD_eq_getElem?_getD];cases ts[d]? <;> simp [yk3 ts r,yl5]
end
variable {P:Program}
theorem uy {a b:Nat}:Nat.ble a b=true↔a≤b:=by rw [Nat.ble_eq]
inductive HObj where
 | obj (o:AObj)
 | loop (env:lVq) (vars:List Nat) (N:Nat) (ps:List Nat) (a b:CCode) (st:LoopState) (j:AExit)
def HObj.toA (P:Program):HObj→AObj
 | .obj o=>o
 | .loop env vars N ps a b st j=>.loop env vars N (J6 P N vars ps a b) st (qj j)
inductive Tr where
 | nil
 | node (v:Option HObj) (l r:Tr)
noncomputable section
def Tr.get (t:Tr):Nat→Option HObj:=Tr.rec (motive:=fun _=>Nat→Option HObj) (fun _=>none) (fun v _ _ gl gr i=>match i with
  | 0=>v
  | k + 1=>match k % 2 with
   | 0=>gl (k / 2)
   | _ + 1=>gr (k / 2)) t
def Tr.set (o:HObj) (f:Nat):Tr→Nat→Tr:=Nat.rec (motive:=fun _=>Tr→Nat→Tr) (fun t _=>t) (fun _ ih t i=>match t with
 | .nil=>(match i with
  | 0=>.node (some o) .nil .nil
  | k + 1=>match k % 2 with
   | 0=>.node none (ih .nil (k / 2)) .nil
   | _ + 1=>.node none .nil (ih .nil (k / 2)))
 | .node v l r=>match i with
  | 0=>.node (some o) l r
  | k + 1=>match k % 2 with
   | 0=>.node v (ih l (k / 2)) r
   | _ + 1=>.node v l (ih r (k / 2))) f
def Tr.map (g:Nat→HObj→HObj):Tr→Tr
 | .nil=>.nil
 | .node v l r=>.node (v.map (g 0)) (l.map fun j=>g (2 * j + 1)) (r.map fun j=>g (2 * j + 2))
theorem Tr.get_nil (i:Nat):Tr.nil.get i=none:=rfl
theorem Tr.get_odd (v:Option HObj) (l r:Tr) (j:Nat):(Tr.node v l r).get (2 * j + 1)=l.get j:=by
 have h1:2 * j % 2=0:=by omega
 have h2:2 * j / 2=j:=by omega
 show (match (2 * j) % 2 with | 0=>l.get (2 * j / 2) | _ + 1=>r.get (2 * j / 2))=_;rw [h1,h2]
theorem Tr.get_even (v:Option HObj) (l r:Tr) (j:Nat):(Tr.node v l r).get (2 * j + 2)=r.get j:=by
 have h1:(2 * j + 1) % 2=1:=by omega
 have h2:(2 * j + 1) / 2=j:=by omega
 show (match (2 * j + 1) % 2 with | 0=>l.get ((2 * j + 1) / 2) | _ + 1=>r.get ((2 * j + 1) / 2))=_;rw [h1,h2]
theorem Tr.idx (i:Nat):i=0∨(∃ j,i=2 * j + 1) ∨ ∃ j,i=2 * j + 2:=by
 rcases Nat.eq_zero_or_pos i with h | h
 ·exact .inl h
 ·right;by_cases e:i % 2=1
  ·exact .inl ⟨i / 2,by omega⟩
  ·exact .inr ⟨i / 2 - 1,by omega⟩
theorem Tr.set_zero (o:HObj) (f:Nat) (v:Option HObj) (l r:Tr):Tr.set o (f + 1) (.node v l r) 0 = .node (some o) l r:=rfl
theorem Tr.set_odd (o:HObj) (f:Nat) (v:Option HObj) (l r:Tr) (j:Nat):Tr.set o (f + 1) (.node v l r) (2 * j + 1) = .node v (Tr.set o f l j) r:=by
 have h1:2 * j % 2=0:=by omega
 have h2:2 * j / 2=j:=by omega
 show (match (2 * j) % 2 with | 0=>Tr.node v (Tr.set o f l (2 * j / 2)) r | _ + 1=>Tr.node v l (Tr.set o f r (2 * j / 2)))=_;rw [h1,h2]
theorem Tr.set_even (o:HObj) (f:Nat) (v:Option HObj) (l r:Tr) (j:Nat):Tr.set o (f + 1) (.node v l r) (2 * j + 2) = .node v l (Tr.set o f r j):=by
 have h1:(2 * j + 1) % 2=1:=by omega
 have h2:(2 * j + 1) / 2=j:=by omega
 show (match (2 * j + 1) % 2 with | 0=>Tr.node v (Tr.set o f l ((2 * j + 1) / 2)) r | _ + 1=>Tr.node v l (Tr.set o f r ((2 * j + 1) / 2)))=_;rw [h1,h2]
theorem Tr.set_nil (o:HObj) (f i:Nat):Tr.set o (f + 1) .nil i=Tr.set o (f + 1) (.node none .nil .nil) i:=by
 cases i<;>rfl
theorem Tr.get_empty (i:Nat):(Tr.node none .nil .nil).get i=none:=by
 rcases Tr.idx i with rfl | ⟨j,rfl⟩ | ⟨j,rfl⟩
 ·rfl
 ·rw [Tr.get_odd,Tr.get_nil]
 ·rw [Tr.get_even,Tr.get_nil]
theorem Tr.get_set (o:HObj):∀ (f:Nat) (t:Tr) (i j:Nat),i + 1 < 2 ^ f→(Tr.set o f t i).get j=if j=i then some o else t.get j
 | 0,t,i,j,h=>by simp at h
 | f + 1,t,i,j,h=>by
  have key:∀ v l r,(Tr.set o (f + 1) (.node v l r) i).get j=if j=i then some o else (Tr.node v l r).get j:=by
   intro v l r;have h' : i + 1 < 2 * 2 ^ f:=by rw [Nat.pow_succ] at h;omega
   rcases Tr.idx i with rfl | ⟨a,rfl⟩ | ⟨a,rfl⟩
   ·rw [Tr.set_zero];rcases Tr.idx j with rfl | ⟨b,rfl⟩ | ⟨b,rfl⟩
    ·rfl
    ·rw [Tr.get_odd,Tr.get_odd,if_neg (by omega)]
    ·rw [Tr.get_even,Tr.get_even,if_neg (by omega)]
   ·rw [Tr.set_odd];rcases Tr.idx j with rfl | ⟨b,rfl⟩ | ⟨b,rfl⟩
    ·rw [if_neg (by omega)];rfl
    ·rw [Tr.get_odd,Tr.get_odd,Tr.get_set o f l a b (by omega)];by_cases e:b=a
     ·rw [if_pos e,if_pos (by omega)]
     ·rw [if_neg e,if_neg (by omega)]
    ·rw [Tr.get_even,Tr.get_even,if_neg (by omega)]
   ·rw [Tr.set_even];rcases Tr.idx j with rfl | ⟨b,rfl⟩ | ⟨b,rfl⟩
    ·rw [if_neg (by omega)];rfl
    ·rw [Tr.get_odd,Tr.get_odd,if_neg (by omega)]
    ·rw [Tr.get_even,Tr.get_even,Tr.get_set o f r a b (by omega)];by_cases e:b=a
     ·rw [if_pos e,if_pos (by omega)]
     ·rw [if_neg e,if_neg (by omega)]
  cases t with
  | nil=>rw [Tr.set_nil,key,Tr.get_empty];rfl
  | node v l r=>exact key v l r
theorem Tr.get_map:∀ (t:Tr) (g:Nat→HObj→HObj) (i:Nat),(t.map g).get i=(t.get i).map (g i)
 | .nil,g,i=>rfl
 | .node v l r,g,i=>by
  rcases Tr.idx i with rfl | ⟨j,rfl⟩ | ⟨j,rfl⟩
  ·rfl
  ·rw [Tr.map,Tr.get_odd,Tr.get_odd,Tr.get_map l]
  ·rw [Tr.map,Tr.get_even,Tr.get_even,Tr.get_map r]
structure HL where
 next:Nat
 tr:Tr
 log:List Nat
def HL.at (x:HL) (i:Nat):Option HObj:=match Nat.ble x.next i with | true=>none | false=>x.tr.get i
def HL.get (P:Program) (x:HL) (i:Nat):Option AObj:=(x.at i).map (·.toA P)
def HL.toH (P:Program) (x:HL):Heap where
 next:=x.next
 get:=x.get P
 wf:=fun i hi=>by simp [HL.get,HL.at,uy.2 hi]
def HL.alloc (x:HL) (o:HObj):HL:=match x with
 | ⟨n,t,l⟩=>match n with
  | 0=>⟨1,Tr.set o 24 t 0,l⟩
  | k + 1=>⟨k + 2,Tr.set o 24 t (k + 1),l⟩
def HL.put (x:HL) (i:Nat) (o:HObj):HL:=⟨x.next,Tr.set o 24 x.tr i,i::x.log⟩
def HL.sweep (x:HL) (n:Nat):HL:=⟨x.next,x.tr.map fun i o=>match o with
 | .obj .defd=>match Nat.ble n i with | true=>.obj .dead | false=>o
 | _=>o,x.log⟩
def HL.clear (x:HL):HL:=⟨x.next,x.tr,[]⟩
def u5:Nat:=16777000
theorem HL.alloc_eq (x:HL) (o:HObj):x.alloc o=⟨x.next + 1,Tr.set o 24 x.tr x.next,x.log⟩:=by
 obtain ⟨n,t,l⟩:=x;cases n<;>rfl
theorem HL.at_lt {x:HL}{i:Nat}{o:HObj}(h:x.at i=some o):i < x.next∧x.tr.get i=some o:=by
 unfold HL.at at h;split at h
 ·cases h
 ·rename_i hb;refine ⟨?_,h⟩;rcases Nat.lt_or_ge i x.next with h1 | h1
  ·exact h1
  ·rw [uy.2 h1] at hb;cases hb
theorem HL.at_of {x:HL}{i:Nat}(h:i < x.next):x.at i=x.tr.get i:=by
 unfold HL.at;split
 ·rename_i hb;have:=uy.1 hb;omega
 ·rfl
theorem HL.at_ge {x:HL}{i:Nat}(h:x.next≤i):x.at i=none:=by
 unfold HL.at;rw [uy.2 h]
theorem HL.at_alloc {x:HL}(o:HObj) (hs:x.next < u5) (i:Nat):(x.alloc o).at i=if i=x.next then some o else x.at i:=by
 rw [HL.alloc_eq];by_cases e:i=x.next
 ·subst e;rw [HL.at_of (by simp),if_pos rfl,Tr.get_set _ _ _ _ _ (by unfold u5 at hs;omega),if_pos rfl]
 ·rw [if_neg e];rcases Nat.lt_or_ge i x.next with h | h
  ·rw [HL.at_of (by show i < x.next + 1;omega),HL.at_of h,Tr.get_set _ _ _ _ _ (by unfold u5 at hs;omega),if_neg e]
  ·rw [HL.at_ge (by show x.next + 1≤i;omega),HL.at_ge h]
theorem HL.at_put {x:HL}{i:Nat}(o:HObj) (hs:x.next < u5) (hi:i < x.next) (j:Nat):(x.put i o).at j=if j=i then some o else x.at j:=by
 by_cases e:j=i
 ·subst e;rw [HL.at_of (show j < (x.put j o).next from hi),if_pos rfl];show (Tr.set o 24 x.tr j).get j=_;rw [Tr.get_set _ _ _ _ _ (by unfold u5 at hs;omega),if_pos rfl]
 ·rw [if_neg e];rcases Nat.lt_or_ge j x.next with h | h
  ·rw [HL.at_of (show j < (x.put i o).next from h),HL.at_of h];show (Tr.set o 24 x.tr i).get j=_;rw [Tr.get_set _ _ _ _ _ (by unfold u5 at hs;omega),if_neg e]
  ·rw [HL.at_ge (show (x.put i o).next≤j from h),HL.at_ge h]
theorem Heap.ext' {a b:Heap}(h1:a.next=b.next) (h2:∀ i,a.get i=b.get i):a=b:=by
 obtain ⟨n,g,w⟩:=a;obtain ⟨m,k,w'⟩:=b;simp only at h1 h2;subst h1;have:g=k:=funext h2;subst this;rfl
theorem HL.toH_alloc {x:HL}(o:HObj) (hs:x.next < u5):(x.alloc o).toH P=(x.toH P).alloc (o.toA P):=by
 refine Heap.ext' (by rw [HL.alloc_eq];rfl) fun i=>?_;rw [Heap.get_alloc];show ((x.alloc o).at i).map _=if i=x.next then _ else (x.at i).map _
 rw [HL.at_alloc o hs];split<;>rfl
theorem HL.toH_put {x:HL}{i:Nat}(o:HObj) (hs:x.next < u5) (hi:i < x.next):(x.put i o).toH P=(x.toH P).set i (o.toA P):=by
 refine Heap.ext' rfl fun j=>?_;rw [Heap.get_set];show ((x.put i o).at j).map _=if j=i∧i < x.next then _ else (x.at j).map _
 rw [HL.at_put o hs hi];by_cases e:j=i
 ·rw [if_pos e,if_pos ⟨e,hi⟩];rfl
 ·rw [if_neg e,if_neg (fun h=>e h.1)]
theorem HL.toH_sweep {x:HL}(n:Nat):(x.sweep n).toH P=(x.toH P).sweep n:=by
 refine Heap.ext' rfl fun i=>?_;show ((x.sweep n).at i).map _=match (x.at i).map (HObj.toA P) with | some .defd=>if n≤i then some .dead else some .defd | o=>o
 rcases Nat.lt_or_ge i x.next with h | h
 ·rw [HL.at_of (show i < (x.sweep n).next from h),HL.at_of h];show ((x.tr.map _).get i).map _=_;rw [Tr.get_map];cases hx:x.tr.get i with
  | none=>rfl
  | some o =>
   cases o with
   | loop=>rfl
   | obj o =>
    cases o<;>try rfl
    simp only [Option.map_some,HObj.toA];by_cases e:n≤i
    ·rw [uy.2 e,if_pos e]
    ·rw [if_neg e];have:Nat.ble n i=false:=by
      cases hb:Nat.ble n i with
      | false=>rfl
      | true=>exact absurd (uy.1 hb) e
     rw [this]
 ·rw [HL.at_ge (show (x.sweep n).next≤i from h),HL.at_ge h];rfl
structure Kept (P:Program) (x y:HL):Prop where
 next:x.next≤y.next
 log:∃ l,y.log=l++x.log ∧ ∀ i o,(x.toH P).get i=some o→i ∉ l→(y.toH P).get i=some o∨(y.toH P).get i=some .dead
 dead:∀ i,x.at i=some (.obj .dead)→y.at i=some (.obj .dead)
 loop:∀ i env vars N ps a b st j,x.at i=some (.loop env vars N ps a b st j)→(∃ st' j',y.at i=some (.loop env vars N ps a b st' j'))∨y.at i=some (.obj .dead)
theorem Kept.refl (x:HL):Kept P x x:=⟨Nat.le_refl _,⟨[],rfl,fun _ _ h _=>.inl h⟩,fun _ h=>h,fun _ _ _ _ _ _ _ st j h=>.inl ⟨st,j,h⟩⟩
theorem Kept.trans {x y z:HL}(h:Kept P x y) (h' : Kept P y z):Kept P x z:=by
 obtain ⟨n1,⟨l1,e1,k1⟩,d1,p1⟩:=h;obtain ⟨n2,⟨l2,e2,k2⟩,d2,p2⟩:=h';refine ⟨Nat.le_trans n1 n2,⟨l2++l1,by rw [e2,e1,List.append_assoc],fun i o hi hn=>?_⟩,fun i h=>d2 i (d1 i h),fun i env vars N ps a b st j hi=>?_⟩
 ·have hn1:i ∉ l1:=fun h=>hn (List.mem_append_right _ h);have hn2:i ∉ l2:=fun h=>hn (List.mem_append_left _ h);rcases k1 i o hi hn1 with h | h
  ·exact k2 i o h hn2
  ·rcases k2 i _ h hn2 with h | h<;>exact .inr h
 ·rcases p1 i _ _ _ _ _ _ _ _ hi with ⟨st',j',h⟩ | h
  ·exact p2 i _ _ _ _ _ _ _ _ h
  ·exact .inr (d2 i h)
theorem Kept.alloc {x:HL}(o:HObj) (hs:x.next < u5):Kept P x (x.alloc o):=by
 have old:∀ i q,x.at i=some q→(x.alloc o).at i=some q:=fun i q h=>by
  rw [HL.at_alloc o hs,if_neg (by have:=(HL.at_lt h).1;omega)];exact h
 refine ⟨by rw [HL.alloc_eq];simp,⟨[],by rw [HL.alloc_eq];rfl,fun i q h _=>.inl ?_⟩,fun i h=>old i _ h,fun i _ _ _ _ _ _ st j h=>.inl ⟨st,j,old i _ h⟩⟩;rw [HL.toH_alloc o hs,Heap.get_alloc_lt (Heap.lt_of_get h)];exact h
theorem Kept.put {x:HL}{i:Nat}{q o:HObj}(hs:x.next < u5) (hi:x.at i=some q) (hd:q ≠ .obj .dead) (hl:∀ env vars N ps a b st j,q = .loop env vars N ps a b st j→(∃ st' j',o = .loop env vars N ps a b st' j')∨o = .obj .dead):Kept P x (x.put i o):=by
 have hlt:=(HL.at_lt hi).1;refine ⟨Nat.le_refl _,⟨[i],rfl,fun k r h hn=>.inl ?_⟩,fun k h=>?_,fun k _ _ _ _ _ _ st j h=>?_⟩
 ·rw [HL.toH_put o hs hlt,Heap.get_set,if_neg (fun e=>hn (by rw [e.1];simp))];exact h
 ·rw [HL.at_put o hs hlt];by_cases e:k=i
  ·subst e;rw [hi] at h;cases h;exact absurd rfl hd
  ·rw [if_neg e];exact h
 ·rw [HL.at_put o hs hlt];by_cases e:k=i
  ·subst e;rw [hi] at h;cases h;rw [if_pos rfl];rcases hl _ _ _ _ _ _ _ _ rfl with ⟨st',j',rfl⟩ | rfl
   ·exact .inl ⟨st',j',rfl⟩
   ·exact .inr rfl
  ·rw [if_neg e];exact .inl ⟨st,j,h⟩
theorem Kept.sweep {x:HL}(n:Nat):Kept P x (x.sweep n):=by
 have hat:∀ i,(x.sweep n).at i=(x.at i).map fun o=>match o with | .obj .defd=>(match Nat.ble n i with | true=>.obj .dead | false=>o) | _=>o:=fun i=>by
  rcases Nat.lt_or_ge i x.next with h | h
  ·rw [HL.at_of (show i < (x.sweep n).next from h),HL.at_of h];exact Tr.get_map _ _ _
  ·rw [HL.at_ge (show (x.sweep n).next≤i from h),HL.at_ge h];rfl
 refine ⟨Nat.le_refl _,⟨[],rfl,fun i o h _=>?_⟩,fun i h=>by rw [hat,h];rfl,fun i _ _ _ _ _ _ st j h=>.inl ⟨st,j,by rw [hat,h];rfl⟩⟩;rw [HL.toH_sweep];rcases Heap.sweep_get n (x.toH P) i with e | ⟨e,_,_⟩
 ·rw [e];exact .inl h
 ·exact .inr e
inductive Task where
 | code (N:Nat) (vars:List Nat) (c:CCode) (env:lVq)
 | loop (N:Nat) (vars:List Nat) (c:CCode) (env:lVq)
 | call (f:FuncId) (args:lVq)
 | val (fv:Value) (args:lVq)
inductive Res where
 | code (x:AExit) (env:lVq)
 | val (v:Value)
abbrev Ih:=Task→HL→Option (Res × HL)
def zs3 (x:HL) (h' : Heap) (b:Option Nat):Option HL :=
 let y:Option HL:=match b with
  | some i=>(match x.at i with
   | some (.obj .dead)=>none
   | some (.loop ..)=>none
   | some (.obj _)=>(match h'.get i with | some o=>some (x.put i (.obj o)) | none=>none)
   | none=>some x)
  | none=>some x
 match y with
 | none=>none
 | some y=>match Nat.ble h'.next x.next with
  | true=>some y
  | false=>match h'.get x.next with
   | some o=>some (y.alloc (.obj o))
   | none=>none
def exW (P:Program) (k:WK) (vs:lVq) (x:HL):Option (Value × HL):=match k with
 | .store size=>(match vs with
  | [.pointer (some ⟨id,o,none⟩),v]=>(match x.at id with
   | some (.obj (.blk cells true))=>(match yg3 cells o size v with | some c=>some (undef,x.put id (.obj (.blk c true))) | none=>none)
   | some (.obj (.tblk cells e full))=>(match yg3 cells o size v with | some c=>some (undef,x.put id (.obj (.tblk c e full))) | none=>none)
   | _=>none)
  | _=>none)
 | k=>match aW k vs (x.toH P) with
  | some (v,h')=>(match zs3 x h' (yi2 vs) with | some y=>zn7 v fun v=>some (v,y) | none=>none)
  | none=>none
def Y2 (x y:HL):List Nat:=y.log.filter fun i=>Nat.blt i x.next
def exAct (P:Program) (ih:Ih) (k:K) (q:Bool) (D:List Nat) (vs:lVq) (x:HL):Option (List Nat × Value × HL) :=
 match Nat.blt x.next u5 with
 | false=>none
 | true=>match k with
  | .p k=>(match aPF k vs with | some v=>some (D,v,x) | none=>none)
  | .r k=>(match (match yi2 vs with | some id=>D.contains id | none=>false) with
   | true=>none
   | false=>match aRF k vs (x.get P) with | some v=>some (D,v,x) | none=>none)
  | .a k=>(match aAF k vs with | some (cells,mk)=>some (D,mk x.next,x.alloc (.obj (.blk cells true))) | none=>none)
  | .w k=>(match exW P k vs x.clear with
   | some (v,y)=>some (match q with | true=>y.log++D | false=>D,v,⟨y.next,y.tr,y.log++x.log⟩)
   | none=>none)
  | .call f=>(match ih (.call f vs) x.clear with
   | some (.val v,y)=>some (match q with | true=>Y2 x y++D | false=>D,v,⟨y.next,y.tr,Y2 x y++x.log⟩)
   | _=>none)
  | .callV=>match vs with
   | fv::args=>(match ih (.val fv args) x.clear with
    | some (.val v,y)=>some (match q with | true=>Y2 x y++D | false=>D,v,⟨y.next,y.tr,Y2 x y++x.log⟩)
    | _=>none)
   | []=>none
def yt8 (P:Program) (ih:Ih) (l:List SOp):List Nat→lVq→lVq→HL→Option (lVq × HL) :=
 List.rec (motive:=fun _=>List Nat→lVq→lVq→HL→Option (lVq × HL)) (fun _ ts _ x=>some (ts,x))
  (fun s _ next D ts env x=>match (match s.g with
   | none=>some true
   | some (d,want)=>match yp1 ts d with
    | some (.bool b)=>some (match want with | true=>b | false=>!b)
    | some _=>some false
    | none=>none) with
  | none=>none
  | some false=>next D (undef::ts) env x
  | some true=>match evsF ts env s.args with
   | none=>none
   | some vs=>match exAct P ih s.k s.q D vs x with
    | none=>none
    | some (D',v,y)=>next D' (v::ts) env y) l
def yu0 (P:Program) (ih:Ih) (N:Nat) (vars:List Nat) (c:CCode) (env:lVq) (x:HL):Option (Res × HL) :=
 match c with
 | .skip=>some (.code .normal env,x)
 | .reg s o=>(match yt8 P ih s [] [] env x with | some (ts,y)=>some (.code .normal (updF ts o env),y) | none=>none)
 | .seq a b=>(match ih (.code N vars a env) x with
  | some (.code .normal e,y)=>ih (.code N vars b e) y
  | r=>r)
 | .rcond s o d a b=>(match yt8 P ih s [] [] env x with
  | some (ts,y)=>(match yp1 ts d with
   | some (.bool true)=>ih (.code N vars a (updF ts o env)) y
   | some (.bool false)=>ih (.code N vars b (updF ts o env)) y
   | _=>none)
  | none=>none)
 | .cond z a b=>(match z.ev [] env with
  | some (.bool true)=>ih (.code N vars a env) x
  | some (.bool false)=>ih (.code N vars b env) x
  | _=>none)
 | .block id c=>(match ih (.code N vars c env) x with
  | some (.code (.exit i) e,y)=>some (.code (match Nat.beq i id with | true=>.normal | false=>.exit i) e,y)
  | r=>r)
 | .loop c=>ih (.loop N vars c env) x
 | .exit id=>some (.code (.exit id) env,x)
 | .ret=>some (.code .ret env,x)
 | .scope c=>ih (.code N vars c env) x
 | .label=>some (.code .normal env,x)
 | .never=>none
 | .range g ps a b=>(match Nat.blt (x.next + 2) u5 with
  | false=>none
  | true=>match g.ev [] env with
   | some (.func (.func f) first cap)=>(match ih (.call f (first.toList++[.func (.yield (x.next + 1)) #[] #[]]++cap.toList)) ((x.alloc (.obj .defd)).alloc (.loop env vars N ps a b .ready .normal)) with
    | some (.val _,y)=>(match Nat.blt y.next u5 with
     | false=>none
     | true=>match y.at (x.next + 1) with
      | some (.loop _ _ _ _ _ _ st j)=>(match st with
       | .busy=>none
       | _=>some (.code j env,y.put (x.next + 1) (.obj .dead)))
      | _=>none)
    | _=>none)
   | _=>none)
def exVal (ih:Ih) (fv:Value) (args:lVq) (x:HL):Option (Res × HL) :=
 match fv with
 | .func (.func f) first cap=>ih (.call f (first.toList++args++cap.toList)) x
 | .func (.yield L) ⟨[]⟩ ⟨[]⟩=>(match x.at L with
  | some (.loop env vars N ps a b .ready j)=>(match Wr vars && (a.noRange && b.noRange) && Nat.beq ps.length args.length with
   | false=>none
   | true=>match ih (.code N vars a (Wi ps args env)) x with
    | some (.code .normal ea,y)=>(match Nat.blt y.next u5 with
     | false=>none
     | true=>match y.at L with
      | some (.loop _ _ _ _ _ _ .ready j1)=>(match decide (j1=j) with
       | false=>none
       | true=>match ih (.code N vars b ea) (y.put L (.loop env vars N ps a b .busy j)) with
        | some (.code jx _,z)=>(match Nat.blt z.next u5 with
         | false=>none
         | true=>match z.at L with
          | some (.loop _ _ _ _ _ _ .busy j2)=>(match decide (j2=j) with
           | false=>none
           | true=>some (.val (.bool (qj jx).isNone),z.put L (.loop env vars N ps a b (if (qj jx).isNone then .ready else .done) jx)))
          | _=>none)
        | _=>none)
      | _=>none)
    | _=>none)
  | _=>none)
 | _=>none
def finL (nr:Bool) (n:Nat) (x:HL):HL:=match nr with | true=>x | false=>x.sweep n
inductive XFn where
 | fn (c:CFn)
 | dfn (d:DFn)
 /-- what is known of it -/
 | sum (g:lVq→Option Value)
def exPre (ih:Ih) (N:Nat) (vars:List Nat):List CCode→lVq→HL→Option (Bool × lVq × HL)
 | [],env,x=>some (true,env,x)
 | c::r,env,x=>match c.noRange with
  | false=>none
  | true=>match ih (.code N vars c env) x with
   | some (.code .normal e,y)=>exPre ih N vars r e y
   | some (.code .ret e,y)=>some (false,e,y)
   | _=>none
def yt7 (P:Program) (rs:List ResArg) (env:lVq) (y:HL):Option (Res × HL):=match qo env (y.toH P) rs with
 | some vs=>some (.val (yl vs),y)
 | none=>none
def exD (P:Program) (ih:Ih) (N:Nat) (d:DFn) (args:lVq) (x:HL):Option (Res × HL) :=
 match exPre ih N d.vars d.pre (args++List.replicate (d.vars.length - args.length) undef) x with
 | some (false,env,y)=>yt7 P d.results env y
 | some (true,env,y)=>(match (J0 env d.caps).isSome && d.rest.noRange with
  | false=>none
  | true=>match ih (.code N d.vars d.rest env) y with
   | some (.code .normal e,z)=>yt7 P d.results e z
   | some (.code .ret e,z)=>yt7 P d.results e z
   | _=>none)
 | none=>none
def yu2 (P:Program) (cf:FuncId→Option XFn) (NT:FuncId→Nat) (ih:Ih) (f:FuncId) (args:lVq) (x:HL):Option (Res × HL) :=
 match cf f with
 | none=>none
 | some (.sum g)=>(match g args with | some v=>some (.val v,x) | none=>none)
 | some (.dfn d)=>(match Nat.beq args.length d.nargs with
  | false=>none
  | true=>exD P ih (NT f) d args x)
 | some (.fn c)=>match Nat.beq args.length c.nargs with
  | false=>none
  | true=>match ih (.code (NT f) c.vars c.body (Ug c args)) x with
   | some (.code r e,y)=>(match r with
    | .exit _=>none
    | _=>match qo e ((finL c.body.noRange x.next y).toH P) c.results with
     | some vs=>some (.val (yl vs),finL c.body.noRange x.next y)
     | none=>none)
   | _=>none
def zo4 (P:Program) (cf:FuncId→Option XFn) (NT:FuncId→Nat) (ih:Ih):Ih
 | .code N vars c env,x=>yu0 P ih N vars c env x
 | .loop N vars c env,x=>(match ih (.code N vars c env) x with
  | some (.code .normal e,y)=>ih (.loop N vars c e) y
  | r=>r)
 | .call f args,x=>yu2 P cf NT ih f args x
 | .val fv args,x=>exVal ih fv args x
def exN (P:Program) (cf:FuncId→Option XFn) (NT:FuncId→Nat) (n:Nat):Ih:=Nat.rec (fun _ _=>none) (fun _ ih=>zo4 P cf NT ih) n
end
end Go.Eng
namespace Go.Eng
open Go
variable {P:Program}
theorem zq5 {a b:Nat}(h:Nat.blt a b=true):a < b:=uy.1 h
theorem aW_touch {k:WK}{vs:lVq}{h h' : Heap}{v:Value}(hw:aW k vs h=some (v,h')):(∀ i,yi2 vs≠some i→i≠h.next→h'.get i=h.get i)∧(h'.next=h.next∨h'.next=h.next + 1):=by
 have key:∀ (i:Nat) (o:AObj) (j:Nat),j≠i→(h.set i o).get j=h.get j:=fun i o j hj=>by rw [Heap.get_set,if_neg (fun e=>hj e.1)]
 have keyA:∀ (g:Heap) (o:AObj) (j:Nat),j≠g.next→(g.alloc o).get j=g.get j:=fun g o j hj=>by rw [Heap.get_alloc,if_neg hj]
 cases k with
 | store size =>
  simp only [aW] at hw;unfold zt at hw;split at hw<;>first | (cases hw;done) | skip
  split at hw<;>first | (cases hw;done) | skip
  all_goals
   split at hw<;>first | (cases hw;done) | skip
   cases hw
   exact ⟨fun i hi _=>key _ _ _ (fun e=>hi (by rw [e];rfl)),.inl rfl⟩
 | append size bytes =>
  simp only [aW] at hw;unfold yq at hw;split at hw<;>first | (cases hw;done) | skip
  split at hw<;>first | (cases hw;done) | skip
  split at hw
  ·split at hw<;>first | (cases hw;done) | skip
   cases hw;exact ⟨fun _ _ _=>rfl,.inl rfl⟩
  ·split at hw<;>first | (cases hw;done) | skip
   ·split at hw<;>first | (cases hw;done) | skip
    cases hw;exact ⟨fun i _ hn=>keyA _ _ _ hn,.inr rfl⟩
   ·split at hw<;>first | (cases hw;done) | skip
    split at hw<;>first | (cases hw;done) | skip
    cases hw;exact ⟨fun i _ hn=>keyA _ _ _ hn,.inr rfl⟩
   ·split at hw<;>first | (cases hw;done) | skip
    split at hw<;>first | (cases hw;done) | skip
    cases hw
    refine ⟨fun i hi hn=>?_,.inr rfl⟩;rw [Heap.get_alloc,if_neg (by exact hn)];exact key _ _ _ (fun e=>hi (by rw [e];rfl))
 | mkMap =>
  cases vs with
  | nil=>simp only [aW] at hw;cases hw;exact ⟨fun i _ hn=>keyA _ _ _ hn,.inr rfl⟩
  | cons=>simp [aW] at hw
 | mapSet good =>
  simp only [aW] at hw;unfold Zl at hw;split at hw<;>first | (cases hw;done) | skip
  split at hw<;>first | (cases hw;done) | skip
  split at hw<;>first | (cases hw;done) | skip
  cases hw
  exact ⟨fun i hi _=>key _ _ _ (fun e=>hi (by rw [e];rfl)),.inl rfl⟩
 | clearS s z =>
  simp only [aW] at hw;unfold Wa at hw;split at hw<;>first | (cases hw;done) | skip
  ·cases hw;exact ⟨fun i _ _=>rfl,.inl rfl⟩
  ·split at hw<;>first | (cases hw;done) | skip
   split at hw<;>first | (cases hw;done) | skip
   cases hw
   exact ⟨fun i hi _=>key _ _ _ (fun e=>hi (by rw [e];rfl)),.inl rfl⟩
 | strBytes =>
  simp only [aW] at hw;split at hw<;>first | (cases hw;done) | contradiction | skip
  cases hw
  exact ⟨fun i _ hn=>keyA _ _ _ hn,.inr rfl⟩
 | newT e cells =>
  cases vs with
  | nil=>simp only [aW] at hw;cases hw;exact ⟨fun i _ hn=>keyA _ _ _ hn,.inr rfl⟩
  | cons=>simp [aW] at hw
 | boxT e =>
  cases vs with
  | nil=>simp [aW] at hw
  | cons v r=>cases r with
   | nil =>
    simp only [aW] at hw;split at hw<;>first | (cases hw;done) | skip
    cases hw;exact ⟨fun i _ hn=>keyA _ _ _ hn,.inr rfl⟩
   | cons=>simp [aW] at hw
 | appendT e bytes =>
  simp only [aW] at hw;unfold Qa at hw;split at hw<;>first | (cases hw;done) | skip
  split at hw<;>first | (cases hw;done) | skip
  split at hw
  ·split at hw<;>first | (cases hw;done) | skip
   cases hw;exact ⟨fun _ _ _=>rfl,.inl rfl⟩
  ·split at hw<;>first | (cases hw;done) | skip
   ·split at hw<;>first | (cases hw;done) | skip
    cases hw;exact ⟨fun i _ hn=>keyA _ _ _ hn,.inr rfl⟩
   ·split at hw<;>first | (cases hw;done) | skip
    split at hw<;>first | (cases hw;done) | skip
    cases hw
    refine ⟨fun i hi hn=>?_,.inr rfl⟩;rw [Heap.get_alloc,if_neg (by exact hn)];exact key _ _ _ (fun e=>hi (by rw [e];rfl))
 | unsStr e =>
  simp only [aW] at hw;unfold X9 at hw;split at hw<;>first | (cases hw;done) | skip
  ·cases hw;exact ⟨fun _ _ _=>rfl,.inl rfl⟩
  ·split at hw<;>first | (cases hw;done) | skip
   split at hw<;>first | (cases hw;done) | skip
   obtain ⟨l,_,he⟩:=Option.map_eq_some_iff.1 hw;cases he;exact ⟨fun i hi _=>key _ _ _ (fun e=>hi (by rw [e];rfl)),.inl rfl⟩
theorem ye9 {x y:HL}{h' : Heap}{b:Option Nat}(hs:x.next < u5) (hst:(x.toH P).step h') (ht:∀ i,b≠some i→i≠x.next→h'.get i=(x.toH P).get i) (hn:h'.next=x.next∨h'.next=x.next + 1) (hr:zs3 x h' b=some y):y.toH P=h' ∧ Kept P x y:=by
 unfold zs3 at hr;simp only at hr
 -- the first part
 obtain ⟨z,hz,hr⟩:∃ z:HL,(z.next=x.next∧(∀ i,i≠x.next→(z.toH P).get i=h'.get i)∧Kept P x z)∧(match Nat.ble h'.next x.next with
  | true=>some z
  | false=>match h'.get x.next with
   | some o=>some (z.alloc (.obj o))
   | none=>none)=some y:=by
  split at hr
  ·cases hr
  ·rename_i z hz;refine ⟨z,?_,hr⟩;split at hz
   ·rename_i i;split at hz
    ·cases hz
    ·cases hz
    ·rename_i o0 hnd hat;split at hz<;>first | (cases hz;done) | skip
     rename_i o ho;cases hz;have hlt:=(HL.at_lt hat).1;refine ⟨rfl,fun j hj=>?_,Kept.put hs hat (by intro e;cases e;exact hnd rfl) (fun _ _ _ _ _ _ _ _ e=>by cases e)⟩;rw [HL.toH_put _ hs hlt,Heap.get_set];by_cases e:j=i
     ·subst e;rw [if_pos ⟨rfl,hlt⟩,ho];rfl
     ·rw [if_neg (fun h=>e h.1),ht j (fun h=>e (by cases h;rfl)) hj]
    ·rename_i hat;cases hz;refine ⟨rfl,fun j hj=>?_,Kept.refl _⟩;by_cases e:j=i
     ·subst e;have h0:(x.toH P).get j=none:=by show (x.at j).map _=none;rw [hat];rfl
      rw [h0];rcases Nat.lt_or_ge j x.next with hl | hl
      ·exact (hst.back j hl h0).symm
      ·exact (h'.wf j (by omega)).symm
     ·exact (ht j (fun h=>e (by cases h;rfl)) hj).symm
   ·cases hz
    exact ⟨rfl,fun j hj=>(ht j (by simp) hj).symm,Kept.refl _⟩
 obtain ⟨h1,h2,h3⟩:=hz;split at hr
 ·rename_i hb;cases hr;have hle:=uy.1 hb;have hnx:h'.next=x.next:=by omega
  refine ⟨Heap.ext' (by rw [hnx];exact h1) fun i=>?_,h3⟩;by_cases e:i=x.next
  ·rw [h'.wf i (by omega),(y.toH P).wf i (by show y.next≤i;omega)]
  ·exact h2 i e
 ·rename_i hb;split at hr<;>first | (cases hr;done) | skip
  rename_i o ho;cases hr;have hnx:h'.next=x.next + 1:=by
   rcases hn with h | h
   ·rw [h,uy.2 (Nat.le_refl _)] at hb;cases hb
   ·exact h
  have hs' : z.next < u5:=by omega
  refine ⟨?_,h3.trans (Kept.alloc _ hs')⟩;rw [HL.toH_alloc _ hs'];refine Heap.ext' (by rw [hnx];show z.next + 1=_;omega) fun i=>?_;rw [Heap.get_alloc];by_cases e:i=x.next
  ·subst e;rw [if_pos (show x.next=(z.toH P).next from h1.symm),ho];rfl
  ·rw [if_neg (by show ¬ i=z.next;omega)];exact h2 i e
theorem exW_ok {k:WK}{vs:lVq}{x y:HL}{v:Value}(hs:x.next < u5) (he:exW P k vs x=some (v,y)):aW k vs (x.toH P)=some (v,y.toH P)∧Kept P x y:=by
 unfold exW at he;split at he
 ·rename_i size;split at he<;>first | (cases he;done) | skip
  rename_i id o u;split at he<;>first | (cases he;done) | skip
  ·rename_i cells hat;rw [zd9] at he;split at he<;>first | (cases he;done) | skip
   rename_i c hc;cases he;have hg:(x.toH P).get id=some (.blk cells true):=by show (x.at id).map _=_;rw [hat];rfl
   refine ⟨?_,Kept.put hs hat (by simp) (fun _ _ _ _ _ _ _ _ e=>by cases e)⟩;rw [HL.toH_put _ hs (HL.at_lt hat).1];simp only [aW,zt,hg];split at hc<;>first | (cases hc;done) | skip
   rename_i hcond;cases hc;rw [if_pos hcond];rfl
  ·rename_i cells el full hat;rw [zd9] at he;split at he<;>first | (cases he;done) | skip
   rename_i c hc;cases he;have hg:(x.toH P).get id=some (.tblk cells el full):=by show (x.at id).map _=_;rw [hat];rfl
   refine ⟨?_,Kept.put hs hat (by simp) (fun _ _ _ _ _ _ _ _ e=>by cases e)⟩;rw [HL.toH_put _ hs (HL.at_lt hat).1];simp only [aW,zt,hg];split at hc<;>first | (cases hc;done) | skip
   rename_i hcond;cases hc;rw [if_pos hcond];rfl
 ·split at he<;>first | (cases he;done) | skip
  rename_i v' h' hw;split at he<;>first | (cases he;done) | skip
  rename_i y' hr;rw [Vc] at he;cases he;obtain ⟨t1,t2⟩:=aW_touch hw;obtain ⟨r1,r2⟩:=ye9 hs (qb9 hw) t1 t2 hr;rw [r1];exact ⟨hw,r2⟩
def yj1 (P:Program):Task→HL→Res→HL→Prop
 | .code N vars c env,x,.code r e,y=>CodeT P N vars c env (x.toH P) r e (y.toH P)
 | .loop N vars c env,x,.code r e,y=>LoopT P N vars c env (x.toH P) r e (y.toH P)
 | .call f args,x,.val v,y=>CallT P f args (x.toH P) v (y.toH P)
 | .val fv args,x,.val v,y=>ValT P fv args (x.toH P) v (y.toH P)
 | _,_,_,_=>False
def yd6 (P:Program) (ih:Ih):Prop:=∀ t x r y,ih t x=some (r,y)→yj1 P t x r y∧Kept P x y
theorem U7 {x y:HL}(hk:Kept P x.clear y):Kept P x ⟨y.next,y.tr,Y2 x y++x.log⟩∧(x.toH P).extD (Y2 x y) (y.toH P):=by
 obtain ⟨n,⟨l,e,k⟩,d,p⟩:=hk;have hl:y.log=l:=by rw [e];show l++[]=l;simp
 have key:∀ i o,(x.toH P).get i=some o→i ∉ Y2 x y→(y.toH P).get i=some o∨(y.toH P).get i=some .dead:=fun i o hi hn=>k i o hi fun h=>hn (by
  rw [← hl] at h;exact List.mem_filter.2 ⟨h,uy.2 (Heap.lt_of_get hi)⟩)
 exact ⟨⟨n,⟨_,rfl,key⟩,d,p⟩,fun i o hn hi=>key i o hi hn⟩
theorem kept_log {x y:HL}(hk:Kept P x.clear y):Kept P x ⟨y.next,y.tr,y.log++x.log⟩∧(x.toH P).extD y.log (y.toH P):=by
 obtain ⟨n,⟨l,e,k⟩,d,p⟩:=hk;have hl:y.log=l:=by rw [e];show l++[]=l;simp
 exact ⟨⟨n,⟨_,rfl,fun i o hi hn=>k i o hi (by rw [← hl];exact hn)⟩,d,p⟩,fun i o hn hi=>k i o hi (by rw [← hl];exact hn)⟩
theorem exAct_ok {ih:Ih}(hih:yd6 P ih){k:K}{q:Bool}{D D' : List Nat}{vs:lVq}{x y:HL}{v:Value}(he:exAct P ih k q D vs x=some (D',v,y)) :
  ActT P k vs (x.toH P) v (y.toH P)∧(∀ i ∈ D,i ∈ D')∧(q=true→(x.toH P).extD D' (y.toH P))∧(k.isR=true→okD D vs)∧Kept P x y:=by
 have keep:∀ i ∈ D,i ∈ D:=fun _ h=>h;unfold exAct at he;split at he<;>first | (cases he;done) | skip
 rename_i hs;have hs:=zq5 hs;split at he
 ·split at he<;>first | (cases he;done) | skip
  rename_i h;cases he;rw [aPF_eq] at h;exact ⟨⟨h,rfl⟩,keep,fun _ i o _ h=>.inl h,(fun e=>by simp [K.isR] at e),Kept.refl _⟩
 ·split at he<;>first | (cases he;done) | skip
  rename_i hd;split at he<;>first | (cases he;done) | skip
  rename_i h;cases he;rw [aRF_eq] at h;refine ⟨⟨h,rfl⟩,keep,fun _ i o _ h=>.inl h,fun _ id hid hin=>?_,Kept.refl _⟩;rw [hid] at hd;simp [hin] at hd
 ·split at he<;>first | (cases he;done) | skip
  rename_i cells mk h;rw [aAF_eq] at h;cases he;refine ⟨⟨cells,mk,h,rfl,HL.toH_alloc _ hs⟩,keep,fun _ i o _ h=>.inl ?_,(fun e=>by simp [K.isR] at e),Kept.alloc _ hs⟩;rw [HL.toH_alloc _ hs,Heap.get_alloc_lt (Heap.lt_of_get h)];exact h
 ·split at he<;>first | (cases he;done) | skip
  rename_i w z h;obtain ⟨h1,h2⟩:=exW_ok (x:=x.clear) hs h;obtain ⟨h3,h4⟩:=kept_log h2;cases he;refine ⟨h1,?_,?_,(fun e=>by simp [K.isR] at e),h3⟩
  ·cases q
   ·exact keep
   ·exact fun i hi=>List.mem_append_right _ hi
  ·rintro rfl;exact fun i o hn hi=>h4 i o (fun h=>hn (List.mem_append_left _ h)) hi
 ·split at he<;>first | (cases he;done) | skip
  rename_i w z h;obtain ⟨h1,h2⟩:=hih _ _ _ _ h;obtain ⟨h3,h4⟩:=U7 h2;cases he;refine ⟨h1,?_,?_,(fun e=>by simp [K.isR] at e),h3⟩
  ·cases q
   ·exact keep
   ·exact fun i hi=>List.mem_append_right _ hi
  ·rintro rfl;exact fun i o hn hi=>h4 i o (fun h=>hn (List.mem_append_left _ h)) hi
 ·split at he<;>first | (cases he;done) | skip
  split at he<;>first | (cases he;done) | skip
  rename_i w z h;obtain ⟨h1,h2⟩:=hih _ _ _ _ h;obtain ⟨h3,h4⟩:=U7 h2;cases he;refine ⟨h1,?_,?_,(fun e=>by simp [K.isR] at e),h3⟩
  ·cases q
   ·exact keep
   ·exact fun i hi=>List.mem_append_right _ hi
  ·rintro rfl;exact fun i o hn hi=>h4 i o (fun h=>hn (List.mem_append_left _ h)) hi
theorem Kn {ih:Ih}(hih:yd6 P ih){env:lVq}:∀ {l:List SOp}{D:List Nat}{ts ts' : lVq}{x y:HL},yt8 P ih l D ts env x=some (ts',y)→RegT P l D ts env (x.toH P) ts' (y.toH P)∧Kept P x y
 | [],D,ts,ts',x,y,he=>by cases he;exact ⟨⟨rfl,rfl⟩,Kept.refl _⟩
 | s::r,D,ts,ts',x,y,he=>by
  have he:(match (match s.g with
   | none=>some true
   | some (d,want)=>match yp1 ts d with
    | some (.bool b)=>some (match want with | true=>b | false=>!b)
    | some _=>some false
    | none=>none) with
  | none=>none
  | some false=>yt8 P ih r D (undef::ts) env x
  | some true=>match evsF ts env s.args with
   | none=>none
   | some vs=>match exAct P ih s.k s.q D vs x with
    | none=>none
    | some (D',v,y)=>yt8 P ih r D' (v::ts) env y)=some (ts',y):=he
  have hwb:∀ (b want:Bool),(match want with | true=>b | false=>!b)=(b == want):=by decide
  simp only [Yy,yu3,hwb] at he;split at he
  ·cases he
  ·rename_i hg;obtain ⟨h1,h2⟩:=Kn hih he;refine ⟨⟨undef,_,D,⟨false,?_,fun _ h=>h,by simp⟩,h1⟩,h2⟩;unfold vx;split at hg
   ·cases hg
   ·rename_i d want hgd;rw [hgd];simp only;split at hg
    ·rename_i b hb;rw [hb];simpa using hg
    ·rename_i v hnb hv;rw [hv];cases v<;>first | rfl | exact absurd rfl (hnb _)
    ·cases hg
  ·rename_i hg;split at he<;>first | (cases he;done) | skip
   rename_i vs hvs;split at he<;>first | (cases he;done) | skip
   rename_i D' v z hact;obtain ⟨h1,h2⟩:=Kn hih he;obtain ⟨a1,a2,a3,a4,a5⟩:=exAct_ok hih hact;refine ⟨⟨v,_,D',⟨true,?_,a2,by simpa using ⟨vs,hvs,a1,a3,a4⟩⟩,h1⟩,a5.trans h2⟩;unfold vx;split at hg
   ·rename_i hgn;rw [hgn]
   ·rename_i d want hgd;rw [hgd];simp only;split at hg
    ·rename_i b hb;rw [hb];simpa using hg
    ·cases hg
    ·cases hg
theorem yt9 {ih:Ih}(hih:yd6 P ih){N:Nat}{vars:List Nat}{c:CCode}{env:lVq}{x y:HL}{r:Res}(he:yu0 P ih N vars c env x=some (r,y)):yj1 P (.code N vars c env) x r y∧Kept P x y:=by
 unfold yu0 at he;simp only [yk3,Yy] at he;split at he
 ·cases he;exact ⟨CodeT.skip,Kept.refl _⟩
 ·split at he<;>first | (cases he;done) | skip
  rename_i h;cases he;obtain ⟨h1,h2⟩:=Kn hih h;exact ⟨CodeT.reg h1,h2⟩
 ·split at he
  ·rename_i h;obtain ⟨h1,h2⟩:=hih _ _ _ _ h;obtain ⟨h3,h4⟩:=hih _ _ _ _ he;cases r with
   | val v=>exact h3.elim
   | code xx e=>exact ⟨CodeT.seq h1 h3,h2.trans h4⟩
  ·rename_i hne;obtain ⟨h1,h2⟩:=hih _ _ _ _ he;cases r with
   | val v=>exact h1.elim
   | code xx e =>
    refine ⟨CodeT.seq_exit h1 ?_,h2⟩;rintro rfl;exact hne _ _ he
 ·split at he<;>first | (cases he;done) | skip
  rename_i h;obtain ⟨h1,h2⟩:=Kn hih h;split at he<;>first | (cases he;done) | skip
  ·rename_i hd;obtain ⟨h3,h4⟩:=hih _ _ _ _ he;cases r with
   | val v=>exact h3.elim
   | code xx e=>exact ⟨CodeT.rcond h1 hd h3,h2.trans h4⟩
  ·rename_i hd;obtain ⟨h3,h4⟩:=hih _ _ _ _ he;cases r with
   | val v=>exact h3.elim
   | code xx e=>exact ⟨CodeT.rcond h1 hd h3,h2.trans h4⟩
 ·split at he<;>first | (cases he;done) | skip
  ·rename_i hd;obtain ⟨h3,h4⟩:=hih _ _ _ _ he;cases r with
   | val v=>exact h3.elim
   | code xx e=>exact ⟨CodeT.cond hd h3,h4⟩
  ·rename_i hd;obtain ⟨h3,h4⟩:=hih _ _ _ _ he;cases r with
   | val v=>exact h3.elim
   | code xx e=>exact ⟨CodeT.cond hd h3,h4⟩
 ·rename_i id c;split at he
  ·rename_i i e z h;obtain ⟨h1,h2⟩:=hih _ _ _ _ h;cases he;have hb:=CodeT.block (id:=id) h1;refine ⟨?_,h2⟩;cases hbi:Nat.beq i id with
   | true =>
    obtain rfl:=Nat.eq_of_beq_eq_true hbi;rw [if_pos rfl] at hb;exact hb
   | false =>
    rw [if_neg (fun e=>by cases e;rw [Nat.beq_refl] at hbi;cases hbi)] at hb;exact hb
  ·rename_i hne;obtain ⟨h1,h2⟩:=hih _ _ _ _ he;cases r with
   | val v=>exact h1.elim
   | code xx e =>
    have hb:=CodeT.block (id:=id) h1;rw [if_neg (by rintro rfl;exact hne _ _ _ he)] at hb;exact ⟨hb,h2⟩
 ·obtain ⟨h3,h4⟩:=hih _ _ _ _ he;cases r with
  | val v=>exact h3.elim
  | code xx e=>exact ⟨CodeT.loop h3,h4⟩
 ·cases he;exact ⟨CodeT.exit,Kept.refl _⟩
 ·cases he;exact ⟨CodeT.ret,Kept.refl _⟩
 ·obtain ⟨h3,h4⟩:=hih _ _ _ _ he;cases r with
  | val v=>exact h3.elim
  | code xx e=>exact ⟨CodeT.scope h3,h4⟩
 ·cases he;exact ⟨CodeT.label,Kept.refl _⟩
 ·cases he
 ·rename_i g ps a b;split at he<;>first | (cases he;done) | skip
  rename_i hs2;have hs2:=zq5 hs2;have hs0:x.next < u5:=by omega
  split at he<;>first | (cases he;done) | skip
  rename_i f first cap hg
  split at he<;>first | (cases he;done) | skip
  rename_i v z h;have e1:(x.alloc (.obj .defd)).next=x.next + 1:=by rw [HL.alloc_eq]
  have hs1:(x.alloc (.obj .defd)).next < u5:=by rw [e1];omega
  obtain ⟨h1,h2⟩:=hih _ _ _ _ h;have hx:((x.alloc (.obj .defd)).alloc (.loop env vars N ps a b .ready .normal)).toH P=qr P N vars ps a b env (x.toH P):=by
   rw [HL.toH_alloc _ hs1,HL.toH_alloc _ hs0];rfl
  have h1' : CallT P f (first.toList++[.func (.yield ((x.toH P).next + 1)) #[] #[]]++cap.toList) (qr P N vars ps a b env (x.toH P)) v (z.toH P):=by rw [← hx];exact h1
  split at he<;>first | (cases he;done) | skip
  rename_i hs3;have hs3:=zq5 hs3;split at he<;>first | (cases he;done) | skip
  rename_i env2 vars2 N2 ps2 a2 b2 st j hat;have hl:((x.alloc (.obj .defd)).alloc (.loop env vars N ps a b .ready .normal)).at (x.next + 1)=some (.loop env vars N ps a b .ready .normal):=by
   rw [HL.at_alloc _ hs1,if_pos e1.symm]
  have hsame:env2=env∧vars2=vars∧N2=N∧ps2=ps∧a2=a∧b2=b:=by
   rcases h2.loop _ _ _ _ _ _ _ _ _ hl with ⟨st',j',hh⟩ | hh
   ·rw [hh] at hat;cases hat;exact ⟨rfl,rfl,rfl,rfl,rfl,rfl⟩
   ·rw [hh] at hat;cases hat
  obtain ⟨rfl,rfl,rfl,rfl,rfl,rfl⟩:=hsame;have hL:(z.toH P).get ((x.toH P).next + 1)=some (.loop env2 vars2 N2 (J6 P N2 vars2 ps2 a2 b2) st (qj j)):=by
   show (z.at (x.next + 1)).map _=_;rw [hat];rfl
  have hb:st ≠ .busy:=by
   rintro rfl;simp at he
  have hy:some (.code j env2,z.put (x.next + 1) (.obj .dead))=some (r,y):=by
   cases st<;>first | exact he | exact absurd rfl hb
  cases hy
  have hr:=CodeT.range (P:=P) (h:=x.toH P) hg h1' hL hb;have hlt:=(HL.at_lt hat).1;refine ⟨?_,?_⟩
  ·show CodeT P N2 vars2 _ env2 (x.toH P) j env2 ((z.put (x.next + 1) (.obj .dead)).toH P);rw [HL.toH_put _ hs3 hlt];exact hr
  ·exact (((Kept.alloc _ hs0).trans (Kept.alloc _ hs1)).trans h2).trans (Kept.put hs3 hat (by simp) fun _ _ _ _ _ _ _ _ _=>.inr rfl)
theorem exVal_ok {ih:Ih}(hih:yd6 P ih){fv:Value}{args:lVq}{x y:HL}{r:Res}(he:exVal ih fv args x=some (r,y)):yj1 P (.val fv args) x r y∧Kept P x y:=by
 unfold exVal at he;split at he
 ·obtain ⟨h1,h2⟩:=hih _ _ _ _ he;cases r with
  | code=>exact h1.elim
  | val v=>exact ⟨CallT.val h1,h2⟩
 ·rename_i L;split at he<;>first | (cases he;done) | skip
  rename_i env vars N ps a b j hat;split at he<;>first | (cases he;done) | skip
  rename_i hc;simp only [Bool.and_eq_true] at hc;obtain ⟨⟨hnd,hna,hnb⟩,hlen⟩:=hc;have hlen:=Nat.eq_of_beq_eq_true hlen;split at he<;>first | (cases he;done) | skip
  rename_i ea z hA;obtain ⟨a1,a2⟩:=hih _ _ _ _ hA;split at he<;>first | (cases he;done) | skip
  rename_i hs;have hs:=zq5 hs;split at he<;>first | (cases he;done) | skip
  rename_i env2 vars2 N2 ps2 c2 d2 j1 hat2;have hsame:env2=env∧vars2=vars∧N2=N∧ps2=ps∧c2=a∧d2=b:=by
   rcases a2.loop _ _ _ _ _ _ _ _ _ hat with ⟨st',j',hh⟩ | hh
   ·rw [hh] at hat2;cases hat2;exact ⟨rfl,rfl,rfl,rfl,rfl,rfl⟩
   ·rw [hh] at hat2;cases hat2
  obtain ⟨rfl,rfl,rfl,rfl,rfl,rfl⟩:=hsame;split at he<;>first | (cases he;done) | skip
  rename_i hj;obtain rfl:=of_decide_eq_true hj;split at he<;>first | (cases he;done) | skip
  rename_i jx eb u hB;obtain ⟨b1,b2⟩:=hih _ _ _ _ hB;split at he<;>first | (cases he;done) | skip
  rename_i hs2;have hs2:=zq5 hs2;split at he<;>first | (cases he;done) | skip
  rename_i env3 vars3 N3 ps3 c3 d3 j2 hat3;have hlt2:=(HL.at_lt hat2).1;have hput:(z.put L (.loop env2 vars2 N2 ps2 c2 d2 .busy j1)).at L=some (.loop env2 vars2 N2 ps2 c2 d2 .busy j1):=by rw [HL.at_put _ hs hlt2,if_pos rfl]
  have hsame:env3=env2∧vars3=vars2∧N3=N2∧ps3=ps2∧c3=c2∧d3=d2:=by
   rcases b2.loop _ _ _ _ _ _ _ _ _ hput with ⟨st',j',hh⟩ | hh
   ·rw [hh] at hat3;cases hat3;exact ⟨rfl,rfl,rfl,rfl,rfl,rfl⟩
   ·rw [hh] at hat3;cases hat3
  obtain ⟨rfl,rfl,rfl,rfl,rfl,rfl⟩:=hsame;split at he<;>first | (cases he;done) | skip
  rename_i hj2;obtain rfl:=of_decide_eq_true hj2;cases he;have hlt3:=(HL.at_lt hat3).1;have b1' : CodeT P N3 vars3 d3 ea ((z.toH P).set L (.loop env3 vars3 N3 (J6 P N3 vars3 ps3 c3 d3) .busy (qj j2))) jx eb (u.toH P):=by
   have:=b1;show CodeT P N3 vars3 d3 ea _ jx eb (u.toH P);rw [show ((z.toH P).set L (.loop env3 vars3 N3 (J6 P N3 vars3 ps3 c3 d3) .busy (qj j2)))=(z.put L (.loop env3 vars3 N3 ps3 c3 d3 .busy j2)).toH P from (HL.toH_put (P:=P) (.loop env3 vars3 N3 ps3 c3 d3 .busy j2) hs hlt2).symm];exact this
  have hy:=zx4 (P:=P) (L:=L) (args:=args) (Z2 hnd) hlen hna hnb (pend:=qj j2) (h:=x.toH P) (by show (x.at L).map _=_;rw [hat];rfl) a1 (by show (z.at L).map _=_;rw [hat2];rfl) b1' (by show (u.at L).map _=_;rw [hat3];rfl);refine ⟨?_,?_⟩
  ·show ValT P _ args (x.toH P) _ ((u.put L _).toH P);rw [HL.toH_put _ hs2 hlt3];exact hy
  ·exact ((a2.trans (Kept.put hs hat2 (by simp) fun _ _ _ _ _ _ _ _ e=>by cases e;exact .inl ⟨_,_,rfl⟩)).trans b2).trans (Kept.put hs2 hat3 (by simp) fun _ _ _ _ _ _ _ _ e=>by cases e;exact .inl ⟨_,_,rfl⟩)
 ·cases he
theorem finL_ok (nr:Bool) (n:Nat) (x:HL):(finL nr n x).toH P=fin nr n (x.toH P)∧Kept P x (finL nr n x):=by
 cases nr
 ·exact ⟨HL.toH_sweep n,Kept.sweep n⟩
 ·exact ⟨rfl,Kept.refl _⟩
def XOk (P:Program) (f:FuncId):XFn→Prop
 | .fn c=>FnOk P f c
 | .dfn d=>DFnOk P f d∧CloRet P d.clo d.caps.length
 | .sum g=>∀ args v,g args=some v → ∀ h,CallT P f args h v h
theorem zf1 {ih:Ih}(hih:yd6 P ih){N:Nat}{vars:List Nat}:∀ {l:List CCode}{env e:lVq}{x y:HL}{b:Bool},exPre ih N vars l env x=some (b,e,y)→PreT P N vars l env (x.toH P) b e (y.toH P)∧Kept P x y
 | [],env,e,x,y,b,he=>by cases he;exact ⟨.nil,Kept.refl _⟩
 | c::r,env,e,x,y,b,he=>by
  unfold exPre at he;split at he<;>first | (cases he;done) | skip
  rename_i hn;split at he<;>first | (cases he;done) | skip
  ·rename_i h;obtain ⟨h1,h2⟩:=hih _ _ _ _ h;obtain ⟨h3,h4⟩:=zf1 hih he;exact ⟨.cons hn h1 h3,h2.trans h4⟩
  ·rename_i h;obtain ⟨h1,h2⟩:=hih _ _ _ _ h;cases he;exact ⟨.stop hn h1,h2⟩
theorem zf0 {rs:List ResArg}{env:lVq}{y z:HL}{r:Res}(he:yt7 P rs env y=some (r,z)):z=y ∧ ∃ vs,qo env (y.toH P) rs=some vs∧r = .val (yl vs):=by
 unfold yt7 at he;split at he<;>first | (cases he;done) | skip
 rename_i vs hvs;cases he;exact ⟨rfl,vs,hvs,rfl⟩
theorem exD_ok {ih:Ih}(hih:yd6 P ih){f:FuncId}{d:DFn}(hd:DFnOk P f d) (hclo:CloRet P d.clo d.caps.length){fn:Func}(hfn:P.funcs[f]? = some fn){args:lVq}(hlen:args.length=d.nargs){x y:HL}{r:Res}(he:exD P ih fn.ntmps d args x=some (r,y)):yj1 P (.call f args) x r y∧Kept P x y:=by
 unfold exD at he;split at he<;>first | (cases he;done) | skip
 ·rename_i env z hp;obtain ⟨h1,h2⟩:=zf1 hih hp;obtain ⟨rfl,vs,h3,rfl⟩:=zf0 he;exact ⟨CallT.of_dbody hd hclo hlen hfn (.inl ⟨_,vs,h1,h3,rfl⟩),h2⟩
 ·rename_i env z hp;obtain ⟨h1,h2⟩:=zf1 hih hp;split at he<;>first | (cases he;done) | skip
  rename_i hc;simp only [Bool.and_eq_true,Option.isSome_iff_exists] at hc;obtain ⟨⟨cs,hcs⟩,hnr⟩:=hc;split at he<;>first | (cases he;done) | skip
  ·rename_i e u hr;obtain ⟨h4,h5⟩:=hih _ _ _ _ hr;obtain ⟨rfl,vs,h3,rfl⟩:=zf0 he;exact ⟨CallT.of_dbody hd hclo hlen hfn (.inr ⟨hnr,_,_,_,cs,_,vs,h1,hcs,h4,.inl rfl,h3,rfl⟩),h2.trans h5⟩
  ·rename_i e u hr;obtain ⟨h4,h5⟩:=hih _ _ _ _ hr;obtain ⟨rfl,vs,h3,rfl⟩:=zf0 he;exact ⟨CallT.of_dbody hd hclo hlen hfn (.inr ⟨hnr,_,_,_,cs,_,vs,h1,hcs,h4,.inr rfl,h3,rfl⟩),h2.trans h5⟩
theorem yu1 {ih:Ih}(hih:yd6 P ih){cf:FuncId→Option XFn}{NT:FuncId→Nat}(hcf:∀ f c,cf f=some c→XOk P f c) (hnt:∀ f fn,P.funcs[f]? = some fn→NT f=fn.ntmps){f:FuncId}{args:lVq}{x y:HL}{r:Res}(he:yu2 P cf NT ih f args x=some (r,y)):yj1 P (.call f args) x r y∧Kept P x y:=by
 unfold yu2 at he;split at he<;>first | (cases he;done) | skip
 ·rename_i g hc;split at he<;>first | (cases he;done) | skip
  rename_i v hv;cases he;exact ⟨hcf f _ hc args v hv _,Kept.refl _⟩
 ·rename_i d hc;obtain ⟨hd,hclo⟩:=hcf f _ hc;split at he<;>first | (cases he;done) | skip
  rename_i hlen;obtain ⟨fn,code,g1,g2⟩:=hd.fn;rw [hnt f fn g1] at he;exact exD_ok hih hd hclo g1 (Nat.eq_of_beq_eq_true hlen) he
 rename_i c hc;have hfn:FnOk P f c:=hcf f _ hc;split at he<;>first | (cases he;done) | skip
 rename_i hlen;have hlen:=Nat.eq_of_beq_eq_true hlen;split at he<;>first | (cases he;done) | skip
 rename_i r0 e z hB;obtain ⟨b1,b2⟩:=hih _ _ _ _ hB;obtain ⟨f1,f2⟩:=finL_ok (P:=P) c.body.noRange x.next z;have key:(r0 = .normal∨r0 = .ret)→(match qo e ((finL c.body.noRange x.next z).toH P) c.results with
     | some vs=>some (Res.val (yl vs),finL c.body.noRange x.next z)
     | none=>none)=some (r,y)→yj1 P (.call f args) x r y∧Kept P x y:=by
  intro hr0 he;split at he<;>first | (cases he;done) | skip
  rename_i vs hvs;cases he;obtain ⟨fn,code,g1,g2,g3⟩:=hfn.fn;have hn:=hnt f fn g1;refine ⟨?_,b2.trans f2⟩;refine CallT.of_body_at hfn hlen g1 ?_;rw [← hn];refine ⟨r0,e,vs,z.toH P,b1,hr0,f1,?_,rfl⟩;exact hvs
 cases r0 with
 | exit i=>cases he
 | normal=>exact key (.inl rfl) he
 | ret=>exact key (.inr rfl) he
theorem zo3 {ih:Ih}(hih:yd6 P ih){cf:FuncId→Option XFn}{NT:FuncId→Nat}(hcf:∀ f c,cf f=some c→XOk P f c) (hnt:∀ f fn,P.funcs[f]? = some fn→NT f=fn.ntmps):yd6 P (zo4 P cf NT ih):=by
 intro t x r y he;cases t with
 | code N vars c env=>exact yt9 hih he
 | call f args=>exact yu1 hih hcf hnt he
 | val fv args=>exact exVal_ok hih he
 | loop N vars c env =>
  simp only [zo4] at he;split at he
  ·rename_i h;obtain ⟨h1,h2⟩:=hih _ _ _ _ h;obtain ⟨h3,h4⟩:=hih _ _ _ _ he;cases r with
   | val v=>exact h3.elim
   | code xx e=>exact ⟨LoopT.next h1 h3,h2.trans h4⟩
  ·rename_i hne;obtain ⟨h1,h2⟩:=hih _ _ _ _ he;cases r with
   | val v=>exact h1.elim
   | code xx e=>exact ⟨LoopT.stop h1 (by rintro rfl;exact hne _ _ he),h2⟩
theorem exN_ok {cf:FuncId→Option XFn}{NT:FuncId→Nat}(hcf:∀ f c,cf f=some c→XOk P f c) (hnt:∀ f fn,P.funcs[f]? = some fn→NT f=fn.ntmps):∀ n,yd6 P (exN P cf NT n)
 | 0=>fun _ _ _ _ he=>by cases he
 | n + 1=>zo3 (exN_ok hcf hnt n) hcf hnt
def Heap.none:Heap:=⟨0,fun _=>.none,fun _ _=>rfl⟩
theorem CallT.closed {f:FuncId}{args:lVq}{v:Value}{h1:Heap}(hc:CallT P f args Heap.none v h1) (ha:∀ a ∈ args,Value.plain a=true) (hv:Value.plain v=true) (h:Heap):CallT P f args h v h:=by
 refine ⟨hc.1,Heap.step.refl h,fun base G ρ w args' hG hfr hS hargs=>?_⟩;have he:args' = args:=by
  have:∀ {l l' : lVq},VRs ρ l l' → (∀ a ∈ l,Value.plain a=true)→l' = l:=by
   intro l;induction l with
   | nil=>intro l' h _;cases h;rfl
   | cons a r ih =>
    intro l' h hp;cases h with
    | cons _ a' _ r' h hr =>
     rw [ih hr fun x hx=>hp x (by simp [hx])];have hpa:=hp a (by simp)
     congr 1
     exact VR.plain_inv hpa h
  exact this hargs ha
 subst he;have hr:=hc.2.2 w.heap.size (fun _=>.none) (fun _=>.none) w args' (fun _ _ h=>by cases h) (fun _ _ _=>rfl) (Sim.empty hS.glob hS.size) (VRs.plain ha);refine hr.mono fun e w' ⟨v',ρ',he,hok⟩=>?_;have hv' : v' = v:=VR.plain_inv hv hok.val;subst hv';refine ⟨v',ρ,he,fun _ _=>rfl,.same _ hv,?_,?_⟩
 ·have hS2:Sim base G ρ w':=by
   refine ⟨hS.dom,Nat.le_trans hS.size hok.step.size,fun id l hl=>Nat.lt_of_lt_of_le (hS.rng id l hl) hok.step.size,fun id o l hg hl=>(hS.obj id o l hg hl).mono (Ren.le_refl _) (hok.step.low _ (hS.rng id l hl)),hS.inj,km (fun b hb=>hok.step.low b (Nat.lt_of_lt_of_le hb hS.size)) hS.glob⟩
  exact Sim.congr hS2 (y0 hG)
 ·exact ⟨hok.step.size,fun b hb=>hok.step.low b (Nat.lt_of_lt_of_le hb hS.size),hok.step.tape,hok.step.os,hok.step.output,fun a ha=>hok.step.froz a (Nat.lt_of_lt_of_le ha hS.size)⟩
noncomputable def told (P:Program) (cf:FuncId→Option XFn) (NT:FuncId→Nat) (n:Nat) (f:FuncId):Bool:=match exN P cf NT n (.call f []) ⟨0,.nil,[]⟩ with
 | some (.val (.bool true),_)=>true
 | _=>false
theorem zx8 {f:FuncId}{args:lVq}{v:Value}(hc:∀ Q:vPq,(∀ h',Heap.none.le h' → Q v h')→CallW P f args Heap.none Q) (ha:∀ a ∈ args,Value.plain a=true) (hv:Value.plain v=true) (h:Heap):CallT P f args h v h:=by
 obtain ⟨v',h',ht,rfl⟩:=hc (fun u _=>u=v) (fun _ _=>rfl);exact CallT.closed ht ha hv h
end Go.Eng
namespace Go.Eng
open Go
variable {P:Program}
def zm3 (vars:List Nat):List Operand→Option (List Nat)
 | []=>some []
 | .tmp s::r=>match mkV vars s,zm3 vars r with
  | some k,some l=>some (k::l)
  | _,_=>none
 | _::_=>none
def zs7 (N:Nat) (vars:List Nat) (ops:Array Oper):Option (List Nat × FuncId) :=
 match ops.toList with
 | [o1,o2]=>match o1.op,o1.dst,o1.guard,o2.op,o2.dst,o2.guard with
  | .makeFunc (.func clo) first cs,some t,none,.defer c,none,none=>match c.callee with
   | .value (.tmp t')=>if t' = t∧c.args.size=0∧first.size=0∧t ∉ vars∧t < N then (zm3 vars cs.toList).map fun ks=>(ks,clo) else none
   | _=>none
  | _,_,_,_,_,_=>none
 | _=>none
def yu9 (N:Nat) (vars:List Nat):Code→Option (List Nat × FuncId)
 | .region _ ops false=>zs7 N vars ops
 | _=>none
def zf7 (P:Program) (N:Nat) (vars:List Nat):Code→Option (List CCode × List Nat × FuncId × CCode)
 | .seq x y=>match yu9 N vars x with
  | some (ks,clo)=>(uv P N vars 4000 y).map fun c=>([],ks,clo,c)
  | none=>match uv P N vars 4000 x,zf7 P N vars y with
   | some c,some (pre,ks,clo,rest)=>some (c::pre,ks,clo,rest)
   | _,_=>none
 | _=>none
def compD (P:Program) (f:FuncId) (na:Nat) (vars:List Nat):Option DFn :=
 match P.funcs[f]? with
 | some fn =>
  match fn.body with
  | some code =>
   if !(fn.name == "runtime.NumGoroutine") && varsB na fn.ntmps vars then
    match zf7 P fn.ntmps vars code,Yh P vars fn.results.toList with
    | some (pre,caps,clo,rest),some results=>some { nargs:=na,vars,pre,caps,clo,rest,results }
    | _,_=>none
   else none
  | none=>none
 | none=>none
theorem zm2 {vars:List Nat}:∀ {cs:List Operand}{ks:List Nat},zm3 vars cs=some ks→All2 (fun k x=>∃ s,x=Operand.tmp s∧vars[k]? = some s) ks cs
 | [],ks,h=>by cases h;exact .nil
 | x::r,ks,h=>by
  unfold zm3 at h;split at h<;>first | (cases h;done) | skip
  ·rename_i heq;cases heq
  ·rename_i s r' heq;cases heq;split at h<;>first | (cases h;done) | skip
   rename_i h1 h2;cases h;exact .cons ⟨s,rfl,yp8 h1⟩ (zm2 h2)
theorem yf9 {N:Nat}{vars ks:List Nat}{clo:FuncId}{ops:Array Oper}(h:zs7 N vars ops=some (ks,clo)):∃ o1 o2 t cs c,ops = #[o1,o2]∧DeferOk N vars ks clo o1 o2 t cs c:=by
 unfold zs7 at h;split at h<;>first | (cases h;done) | skip
 rename_i o1 o2 hops;split at h<;>first | (cases h;done) | skip
 rename_i clo' first cs t c p1 p2 p3 p4 p5 p6
 split at h<;>first | (cases h;done) | skip
 rename_i t' hcal;split at h<;>first | (cases h;done) | skip
 rename_i hc;obtain ⟨rfl,ha,hf,hv,hN⟩:=hc;cases hk:zm3 vars cs.toList with
 | none=>rw [hk] at h;cases h
 | some l =>
  rw [hk] at h;cases h;have hf' : first = #[]:=Array.eq_empty_of_size_eq_zero hf
  subst hf';exact ⟨o1,o2,t',cs,c,by rw [← Array.toList_inj];exact hops,p1,p2,p3,p4,p5,p6,hcal,Array.eq_empty_of_size_eq_zero ha,hv,hN,zm2 hk⟩
theorem yh6 {N:Nat}{vars ks:List Nat}{clo:FuncId}{rest:CCode}:∀ {code:Code}{pre:List CCode},zf7 P N vars code=some (pre,ks,clo,rest)→uz P N vars ks clo pre rest code:=by
 intro code;induction code with
 | seq x y _ ih =>
  intro pre h;unfold zf7 at h;split at h
  ·rename_i ks' clo' hd;cases hc:uv P N vars 4000 y with
   | none=>rw [hc] at h;cases h
   | some c =>
    rw [hc] at h;cases h;unfold yu9 at hd;split at hd<;>first | (cases hd;done) | skip
    exact ⟨yf9 hd,jp hc⟩
  ·split at h<;>first | (cases h;done) | skip
   rename_i c pre' ks' clo' rest' h1 h2;cases h;exact ⟨jp h1,ih h2⟩
 | _=>intro pre h;cases h
theorem compD_ok {f:FuncId}{na:Nat}{vars:List Nat}{d:DFn}(h:compD P f na vars=some d):DFnOk P f d:=by
 unfold compD at h;split at h<;>first | (cases h;done) | skip
 rename_i fn hfn;split at h<;>first | (cases h;done) | skip
 rename_i code hcode;split at h<;>first | (cases h;done) | skip
 rename_i hc;split at h<;>first | (cases h;done) | skip
 rename_i pre caps clo rest results hb hr;cases h;simp only [Bool.and_eq_true,Bool.not_eq_true'] at hc;obtain ⟨hname,hv⟩:=hc;unfold varsB at hv;simp only [Bool.and_eq_true,decide_eq_true_eq] at hv;obtain ⟨⟨h1,h2⟩,h3⟩:=hv;refine ⟨fn,code,hfn,hcode,hname,yh6 hb,Yz hr,h1,fun k s hk=>?_,h2⟩;have:=List.all_eq_true.1 h3 k (List.mem_range.2 (List.getElem?_eq_some_iff.1 hk).1);have hk' : vars[k]? = some s:=hk;simp only [hk',Bool.and_eq_true,Bool.or_eq_true,decide_eq_true_eq,beq_iff_eq] at this;show (k < na→s=k)∧(na≤k→na≤s∧s < fn.ntmps);omega
inductive VT where
 | nil
 | node (na:Nat) (vars:List Nat) (l r:VT)
noncomputable def VT.get (t:VT):Nat→Option (Nat × List Nat):=VT.rec (motive:=fun _=>Nat→Option (Nat × List Nat)) (fun _=>none) (fun na vars _ _ gl gr i=>match i with
  | 0=>some (na,vars)
  | k + 1=>match k % 2 with
   | 0=>gl (k / 2)
   | _ + 1=>gr (k / 2)) t
noncomputable def cfOf (P:Program) (sm:FuncId→Option (lVq→Option Value)) (t:VT) (dna:Nat) (dvars:List Nat) (dclo dcaps:Nat) (df:FuncId) (f:FuncId):Option XFn:=match Nat.beq f df with
 | true=>(match compD P f dna dvars with
  | some d=>(match Nat.beq d.clo dclo && Nat.beq d.caps.length dcaps with | true=>some (.dfn d) | false=>none)
  | none=>none)
 | false=>match sm f with
  | some g=>some (.sum g)
  | none=>match t.get f with
  | some (na,vars)=>(match compF P f na vars with | some c=>some (.fn c) | none=>none)
  | none=>none
theorem cfOf_ok {sm:FuncId→Option (lVq→Option Value)}(hsm:∀ f g,sm f=some g→XOk P f (.sum g)){t:VT}{dna:Nat}{dvars:List Nat}{dclo dcaps:Nat}{df:FuncId}(hclo:CloRet P dclo dcaps) (f:FuncId) (c:XFn) (h:cfOf P sm t dna dvars dclo dcaps df f=some c):XOk P f c:=by
 unfold cfOf at h;split at h
 ·split at h<;>first | (cases h;done) | skip
  rename_i d hd;split at h<;>first | (cases h;done) | skip
  rename_i hc;cases h;simp only [Bool.and_eq_true] at hc;have e1:=Nat.eq_of_beq_eq_true hc.1;have e2:=Nat.eq_of_beq_eq_true hc.2;exact ⟨compD_ok hd,by rw [e1,e2];exact hclo⟩
 ·split at h
  ·rename_i g hg;cases h;exact hsm f g hg
  split at h<;>first | (cases h;done) | skip
  split at h<;>first | (cases h;done) | skip
  rename_i hc;cases h;exact yb6 hc
def ntOf (P:Program) (f:FuncId):Nat:=((P.funcs[f]?).map (·.ntmps)).getD 0
theorem yp2 (f:FuncId) (fn:Func) (h:P.funcs[f]? = some fn):ntOf P f=fn.ntmps:=by
 unfold ntOf;rw [h];rfl
end Go.Eng

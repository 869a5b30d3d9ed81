/-
  Part of a proof of the laws of layer 06 (syntax): the laws.
  Conditions: none.
-/
import Derived.Test.YtgjipdebbflbpaaGreatDoorEc
import Derived.Test.YtgjipdebbflbpaaGreatDoorProg
import Derived.KernelRfl
import Derived.Test.YtgjipdebbflbpaaGreatDoorY
set_option linter.unusedSimpArgs false
set_option linter.unusedVariables false
namespace Go.Eng.Sy
open Go Go.Eng Go.Proofs
noncomputable def c3_l11:CCode:=(.seq (.reg [bl 0 19 18] [(20,0)]) (.seq (.cond (.v 20) .skip (.exit 0)) (.seq (.block 1 (.seq (.reg [cj 0 4 17 19,am 1 4,dd 2,ab 3 4 0 1] [(7,1)]) (.seq (.reg [a6 0 4 7,ai 1 9,E 2 0,be 3 0 0,be 4 1 1,E 5 1,E 6 1] [(8,1),(9,0)]) (.seq (.reg [a6 0 4 7,ai 1 10,E 2 0,be 3 0 0,be 4 1 1,E 5 1,E 6 1] [(10,1),(11,0)]) (.rcond [A 0 8,A 1 10,cz 2 1,E 3 0,ah 4 9 0,ah 5 11 1,bp 6 1 2,af 7 3,E 8 0,dc 9 7 0,⟨10,.call 11,[.t 0],some (1,false),true⟩,dc 11 7 2,ft 12 12 3,gw 13 2 4,af 14 5,E 15 0,dc 16 7 0,dc 17 6 1,⟨18,.call 13,[.t 1,.t 0],some (2,false),true⟩,dc 19 7 3,dc 20 6 4,⟨21,.call 14,[.t 1,.t 0],some (5,false),false⟩,gw 22 3 6,af 23 7,E 24 0,dc 25 7 0,⟨26,.call 15,[.t 0],some (1,false),true⟩,dc 27 7 2,ft 28 16 3,bp 29 2 4,af 30 5] [] 0 (.seq (.reg [Y 0] [(4,0)]) .ret) .skip))))) (.reg [bm 0 19,E 1 0] [(19,0)]))))
noncomputable def c3_l20:CCode:=(.seq (.reg [bl 0 23 22] [(24,0)]) (.seq (.cond (.v 24) .skip (.exit 2)) (.seq (.block 3 (.seq (.reg [cj 0 5 21 23,am 1 5,ck 2,ab 3 5 0 1] [(12,1)]) (.seq (.reg [a6 0 5 12,ai 1 19,E 2 0,be 3 0 0,be 4 1 1,E 5 1,E 6 1] [(13,1),(14,0)]) (.seq (.reg [a6 0 5 12,ai 1 20,E 2 0,be 3 0 0,be 4 1 1,E 5 1,E 6 1] [(15,1),(16,0)]) (.rcond [A 0 13,A 1 15,cz 2 1,E 3 0,ah 4 14 0,ah 5 16 1,bp 6 1 2,af 7 3] [] 0 (.seq (.reg [Y 0] [(4,0)]) .ret) .skip))))) (.reg [bm 0 23,E 1 0] [(23,0)]))))
noncomputable def c3:CFn:={ nargs:=4,vars:=[0,1,2,3,8,9,10,12,13,14,15,16,18,19,20,21,22,32,33,34,35,84,85,86,87],results:=[.var 4],body:=(.seq (.reg [Y 0] [(4,0)]) (.seq (.reg [⟨0,.call 6,[],none,false⟩,E 1 0] [(5,0)]) (.seq (.reg [A 0 1,ai 1 7,dd 2,ab 3 4 0 1] [(6,1)]) (.seq (.seq (.reg [A 0 0,b9 1 7,A 2 2,A 3 3,dt 4 8 1,a6 5 4 6,⟨6,.a (.bslice [.int .i64 0,.slice none 0 0,.slice none 0 0,.slice none 0 0,.int .i64 0,.slice none 0 0,.slice none 0 0,.slice none 0 0,.int .i64 0,.slice none 0 0,.slice none 0 0,.slice none 0 0] [(0,4),(4,4),(8,4)] 3 4),[.t 4,.t 1,.t 0],none,false⟩,ae 7,U 8 0] [(17,2),(18,1),(19,0)]) (.block 0 (.loop c3_l11))) (.seq (.seq (.reg [A 0 0,ai 1 17,A 2 2,ai 3 18,eu 4 2 0,ae 5,U 6 0] [(21,2),(22,1),(23,0)]) (.block 2 (.loop c3_l20))) (.seq (.reg [A 0 5,E 1 0] [(4,0)]) .ret)))))) }
set_option maxRecDepth 100000 in
theorem ok3:FnOk Tryz.prog 3 c3:=zh (na:=c3.nargs) (vars:=c3.vars) (by kernel_rfl)
end Go.Eng.Sy
namespace Go.Eng.Sy
open Go Go.Eng Go.Proofs
theorem textE_n {e:Ex}{d:Nat}(h:ExI e d):(zq e).length + 4≤30 * Kt e:=by
 induction h with
 | num n d h =>
  have:=xz 9 n (by omega)
  simp only [zq,kq,if_true,Int.toNat_natCast,Kt,yc]
  omega
 | var m d h =>
  have:=yv h
  simp only [zq,kq,Kt,yc]
  simp
  omega
 | one o a d h ha ih =>
  have h1:=wg o
  have h2:=jo a 9 (zq a)
  simp only [zq,Zl,kq,Kt,yc]
  simp
  omega
 | two o a b d h ha hb iha ihb =>
  have h1:=wg o
  have h2:=jo a (z7 o) (zq a)
  have h3:=jo b (z7 o + 1) (zq b)
  simp only [zq,Zl,kq,Kt,yc]
  simp
  omega
 | idx m a d h ha ih =>
  have:=yv h
  simp only [zq,Zl,kq,Kt,yc]
  simp
  omega
theorem Js {t:Nat}:∀ {l:List St},(∀ s ∈ l,(ym t s).length≤300 * vz s)→(zj t l).length≤300 * zr l
 | [],_=>by simp [zj]
 | a::r,h=>by
  have h1:=h a (by simp)
  have h2:=Js (l:=r) fun s hs=>h s (by simp [hs])
  simp only [zj,List.length_append,zr];omega
theorem zg4:∀ (d:Nat) (s:St),StI s d → ∀ t,t + d≤60→(ym t s).length≤300 * vz s
 | 0,s,h,t,_=>by cases h
 | d + 1,s,h,t,ht=>by
  have e5:∀ {a:Ex},ExI a 30→(zq a).length + 4≤30 * Kt a:=fun h=>textE_n h
  have sub:∀ {l:List St},(∀ s ∈ l,StI s d)→(zj (t + 1) l).length≤300 * zr l:=fun {l} hs=>Js fun s h=>zg4 d s (hs s h) (t + 1) (by omega)
  cases h with
  | set m a d h ha =>
   have:=yv h;have:=e5 ha
   simp [ym,kz,yu,zm,za4,vz,yc,zr];omega
  | get m f n d h hf hn =>
   have:=yv h;have:=yv hf;have:=Zz (n:=n) (by omega)
   simp [ym,kz,yu,zm,vz,yc,zr];omega
  | put m n a d h hn ha =>
   have:=yv h;have:=e5 ha;have:=Zz (n:=n) (by omega)
   simp [ym,kz,yu,zm,za4,vz,yc,zr];omega
  | store m a b d h ha hb =>
   have:=yv h;have:=e5 ha;have:=e5 hb
   simp [ym,kz,yu,zm,za4,arg1,vz,yc,zr];omega
  | lock m thn d h hs =>
   have:=yv h;have:=sub hs
   simp [ym,kz,yu,zm,qj,zj,vz,yc,zr];omega
  | cond a thn els d ha hs hs' =>
   have:=e5 ha;have:=sub hs;have:=sub hs'
   simp [ym,kz,yu,zm,qj,za4,vz,yc]
   split<;>simp<;>omega
  | rep n thn d hn hs =>
   have:=Zz (n:=n) (by omega);have:=sub hs
   simp [ym,kz,yu,zm,qj,zj,vz,yc,zr];omega
  | halt d=>simp [ym,kz,yu,zm,vz];omega
theorem Uj {t:Tsk}(h:jk t=true):zp t.name=true∧(0≤t.hart∧t.hart≤3)∧(1≤t.prio∧t.prio≤7)∧(0≤t.line∧t.line≤7) ∧ ∀ s ∈ t.body,StI s 30:=by
 simp only [jk,Bool.and_eq_true,decide_eq_true_eq,kj,List.all_eq_true] at h
 obtain ⟨⟨⟨⟨h1,h2⟩,h3⟩,h4⟩,h5⟩:=h
 exact ⟨h1,h2,h3,by cases hb:t.handler<;>simp [hb] at h4<;>omega,fun s hs=>(Zq 30 s).1 (h5 s hs)⟩
theorem printT_n {t:Tsk}(ht:jk t=true) (hn:zr t.body≤100000):(yl t).length≤40000000:=by
 obtain ⟨h1,h2,h3,h4,h5⟩:=Uj ht
 have h1:=yv h1
 have h5:=Js (t:=1) fun s hs=>zg4 30 s (h5 s hs) 1 (by omega)
 have d1:=Zz (n:=t.hart.toNat) (by omega)
 have d2:=Zz (n:=t.prio.toNat) (by omega)
 have d3:=Zz (n:=t.line.toNat) (by omega)
 unfold yl
 split<;>simp [yu,zm,Qe]<;>omega
theorem X3 {g:Prg}(hg:jq g=true) (hn:∀ t ∈ g.tasks,zr t.body≤100000):(vd g).length≤ka:=by
 have hg':=hg
 simp only [jq,Bool.and_eq_true,decide_eq_true_eq,List.all_eq_true] at hg'
 obtain ⟨⟨⟨⟨⟨⟨h0,l1⟩,l2⟩,l3⟩,q1⟩,q2⟩,q3⟩:=hg'
 have h2:∀ d ∈ g.devs,(qm d).length≤100:=fun d hd=>by
  have:=q1 d hd
  simp only [vm,Bool.and_eq_true,decide_eq_true_eq] at this
  obtain ⟨a,b,c⟩:=this
  have:=yv a
  have:=zo1 ⟨d.n.toNat,by omega⟩
  simp [qm,yu,zm] at *;omega
 have h3:∀ d ∈ g.ress,(qt d).length≤100:=fun d hd=>by
  have:=q2 d hd
  simp only [vc,Bool.and_eq_true,decide_eq_true_eq] at this
  obtain ⟨a,b,c⟩:=this
  have:=yv a
  have:=Zz (n:=d.n.toNat) (by omega)
  simp [qt,yu,zm];omega
 have f1:=flat_len h2
 have f2:=flat_len h3
 have f3:=flat_len (f:=yl) (K:=40000000) fun t ht=>printT_n (q3 t ht) (hn t ht)
 have d1:=Zz (n:=g.harts.toNat) (by omega)
 have:(yu 0 [[104,97,114,116,115,32],yj g.harts.toNat]).length≤30:=by simp [yu,zm];omega
 unfold vd
 simp only [List.length_append]
 have m1:g.devs.length * 100≤8 * 100:=Nat.mul_le_mul_right _ l1
 have m2:g.ress.length * 100≤8 * 100:=Nat.mul_le_mul_right _ l2
 have m3:g.tasks.length * 40000000≤16 * 40000000:=Nat.mul_le_mul_right _ l3
 show _≤140737488355328
 omega
theorem qh (s:List Int) (n:Nat):(ze s n).2.length≤s.length∧((ze s n).1≠0→(ze s n).2.length + 1≤s.length):=by
 cases s with
 | nil=>exact ⟨Nat.le_refl _,fun h=>absurd rfl h⟩
 | cons z r=>exact ⟨by simp [ze],fun _=>by simp [ze]⟩
theorem Zv (any:Bool) (s:List Int) (l:List (List UInt8)):(yk any s l).2.length≤s.length:=by
 unfold yk;split
 ·exact (qh s 300).1
 ·exact (qh s l.length).1
theorem lockL_r (c:Sco) (s:List Int):(vr c s).2.2.length≤s.length:=by
 unfold vr
 split
 ·exact Zv _ _ _
 ·exact Nat.le_trans (qh _ _).1 (Zv _ _ _)
theorem numL_r (s:List Int):Kt (za9 s).1=1∧(za9 s).2.length≤s.length:=by
 refine ⟨rfl,?_⟩
 have h1:=(qh s 10).1
 have h2:=(qh (ze s 10).2 300).1
 have h3:=(qh (ze (ze s 10).2 300).2 4294967296).1
 have h4:=(qh (ze (ze (ze s 10).2 300).2 4294967296).2 3).1
 show (ze (ze (ze (ze s 10).2 300).2 4294967296).2 3).2.length≤_
 omega
theorem Yk (c:Sco):∀ (d:Nat) (s:List Int),Kt (ye c d s).1 + 2 * (ye c d s).2.length≤2 * s.length + 1
 | 0,s=>by
  obtain ⟨h1,h2⟩:=numL_r (ze s 8).2
  have h3:=(qh s 8).1
  show Kt (za9 (ze s 8).2).1 + 2 * (za9 (ze s 8).2).2.length≤_
  omega
 | d + 1,s=>by
  obtain ⟨h1,h2⟩:=qh s 8
  unfold ye
  dsimp only
  split
  ·obtain ⟨k1,k2⟩:=numL_r (ze s 8).2
   omega
  split
  ·have:=Zv c.any (ze s 8).2 Ko
   simp only [Kt,yc];omega
  split
  ·have k1:=Yk c d (ze (ze s 8).2 3).2
   have k2:=(qh (ze s 8).2 3).1
   have:=h2 (by omega)
   simp only [Kt,yc];omega
  split
  ·have k1:=Yk c d (yk c.any (ze s 8).2 c.held).2
   have k2:=Zv c.any (ze s 8).2 c.held
   have:=h2 (by omega)
   simp only [Kt,yc];omega
  ·have k1:=Yk c d (ze (ze s 8).2 14).2
   have k3:=Yk c d (ye c d (ze (ze s 8).2 14).2).2
   have k2:=(qh (ze s 8).2 14).1
   have:=h2 (by omega)
   simp only [Kt,yc];omega
theorem stmtB_r {rec:Option (Sco→List Int→List St × List Int)}(hr:∀ f,rec=some f → ∀ (c:Sco) (s:List Int),zr (f c s).1 + 3 * (f c s).2.length≤3 * s.length) (c:Sco) (loc:List UInt8) (k:Nat) (s:List Int) :
  vz (Zn rec c loc k s).1 + 3 * (Zn rec c loc k s).2.length≤3 * s.length + (if k=0 then 1 else 4):=by
 have ex:=Yk c
 unfold Zn
 split
 ·have h1:=Zv c.any s c.devs
  have h2:=(qh (yk c.any s c.devs).2 4).1
  dsimp only
  simp only [vz,yc,zr]
  split<;>omega
 split
 ·have h1:=Zv c.any s c.devs
  have h2:=(qh (yk c.any s c.devs).2 4).1
  have h3:=ex 3 (ze (yk c.any s c.devs).2 4).2
  dsimp only
  simp only [vz,yc,zr]
  split<;>omega
 split
 ·have h1:=Zv c.any s c.held
  have h3:=ex 2 (yk c.any s c.held).2
  have h4:=ex 3 (ye c 2 (yk c.any s c.held).2).2
  dsimp only
  simp only [vz,yc,zr]
  split<;>omega
 split
 ·simp only [vz,yc,zr]
  split<;>omega
 split
 ·have h3:=ex 4 s
  simp only [vz,yc,zr]
  split<;>omega
 ·rename_i rec'
  split
  ·have h1:=lockL_r c s
   have h2:=hr _ rfl (inSco c (vr c s).1 (vr c s).2.1) (vr c s).2.2
   dsimp only
   simp only [vz,yc,zr]
   split<;>omega
  split
  ·have h3:=ex 3 s
   have h1:=hr _ rfl c (ye c 3 s).2
   have h2:=hr _ rfl c (rec' c (ye c 3 s).2).2
   dsimp only
   simp only [vz,yc,zr]
   split<;>omega
  split
  ·have h1:=(qh s 5).1
   have h2:=hr _ rfl c (ze s 5).2
   dsimp only
   simp only [vz,yc,zr]
   split<;>omega
  ·have h3:=ex 4 s
   simp only [vz,yc,zr]
   split<;>omega
theorem stmtW_r {rec:Option (Sco→List Int→List St × List Int)}(hr:∀ f,rec=some f → ∀ (c:Sco) (s:List Int),zr (f c s).1 + 3 * (f c s).2.length≤3 * s.length) (c:Sco) (s:List Int) :
  vz (wz rec c s).1 + 3 * (wz rec c s).2.length≤3 * s.length + 1:=by
 unfold wz
 have h1:=Zv c.any s Ko
 obtain ⟨h2,h3⟩:=qh (yk c.any s Ko).2 12
 have h4:=stmtB_r hr c (yk c.any s Ko).1 (ze (yk c.any s Ko).2 12).1 (ze (yk c.any s Ko).2 12).2
 split at h4
 ·omega
 ·rename_i hk
  have:=h3 hk
  omega
theorem zf3 {one:List Int→St × List Int}(h:∀ s,vz (one s).1 + 3 * (one s).2.length≤3 * s.length + 1):∀ (n:Nat) (s:List Int),zr (jl one n s).1 + 3 * (jl one n s).2.length≤3 * s.length + n
 | 0,s=>by simp [jl,zr]
 | n + 1,s=>by
  have h1:=h s
  have h2:=zf3 h n (one s).2
  simp only [jl,zr];omega
theorem Xw:∀ (d:Nat) (c:Sco) (s:List Int),zr (js d c s).1 + 3 * (js d c s).2.length≤3 * s.length
 | d,c,s=>by
  rw [Jk]
  have hw:∀ s,vz (wz (Qw d) c s).1 + 3 * (wz (Qw d) c s).2.length≤3 * s.length + 1:=fun s=>stmtW_r (fun f hf c s=>by
   cases d with
   | zero=>cases hf
   | succ d=>cases hf;exact Xw d c s) c s
  have h1:=zf3 hw (ze s 4).1 (ze s 4).2
  obtain ⟨h2,h3⟩:=qh s 4
  by_cases h0:(ze s 4).1=0
  ·omega
  ·have:=h3 h0
   have:=yn s (n:=4) (by omega)
   omega
def nTs:List Tsk→Nat
 | []=>0
 | t::r=>zr t.body + nTs r
theorem zv8:∀ a b:List Tsk,nTs (a++b)=nTs a + nTs b
 | [],b=>by simp [nTs]
 | t::r,b=>by simp only [List.cons_append,nTs,zv8 r b];omega
theorem zr5 (c:Sco):∀ (k j:Nat) (s:List Int),nTs (kf c k j s).1 + 3 * (kf c k j s).2.length≤3 * s.length
 | 0,j,s=>by simp [kf,nTs]
 | k + 1,j,s=>by
  have h1:=(qh s 3).1
  have h2:=Xw 3 c (ze s 3).2
  have h3:=zr5 c k (j + 1) (js 3 c (ze s 3).2).2
  simp only [kf,nTs];omega
theorem zw8 (c:Sco) (hn:Nat):∀ (k j:Nat) (s:List Int),nTs (kw c hn k j s).1 + 3 * (kw c hn k j s).2.length≤3 * s.length
 | 0,j,s=>by simp [kw,nTs]
 | k + 1,j,s=>by
  have h1:=(qh s hn).1
  have h1':=(qh (ze s hn).2 4).1
  have h1'':=(qh (ze (ze s hn).2 4).2 2).1
  have h2:=Xw 2 c (ze (ze (ze s hn).2 4).2 2).2
  have h3:=zw8 c hn k (j + 1) (js 2 c (ze (ze (ze s hn).2 4).2 2).2).2
  simp only [kw,nTs];omega
theorem zv5 (ns:List (List UInt8)) (m:Nat):∀ (k j:Nat) (s:List Int),(wi ns m k j s).2.length≤s.length
 | 0,j,s=>Nat.le_refl _
 | k + 1,j,s=>Nat.le_trans (zv5 ns m k (j + 1) _) (qh s m).1
theorem zu2 (raw:List Int) (all:Bool):nTs (X2 raw all).tasks≤1200:=by
 unfold X2
 dsimp only
 rw [zv8]
 have h0:(raw.take 400).length≤400:=by rw [List.length_take];omega
 have h1:=(qh (raw.take 400) 3).1
 generalize ze (raw.take 400) 3=a at *
 have h2:=(qh a.2 3).1
 generalize ze a.2 3=nd at *
 have h3:=zv5 devNs 3 (nd.1 + 1) 0 nd.2
 generalize wi devNs 3 (nd.1 + 1) 0 nd.2=ds at *
 have h4:=(qh ds.2 3).1
 generalize ze ds.2 3=nr at *
 have h5:=zv5 resNs 8 nr.1 0 nr.2
 generalize wi resNs 8 nr.1 0 nr.2=rs at *
 generalize (⟨ds.1.map (·.name),rs.1.map (·.name),0,[],all⟩:Sco)=c
 have h6:=zr5 c (1 + a.1) 0 rs.2
 generalize kf c (1 + a.1) 0 rs.2=ts at *
 have h7:=(qh ts.2 4).1
 generalize ze ts.2 4=nh at *
 have h8:=zw8 c (1 + a.1) nh.1 0 nh.2
 omega
end Go.Eng.Sy
namespace Go.Eng.Sy
open Go Go.Eng Go.Proofs
theorem zn1:∀ (M:Nat) (l:List Ex),yc l≤M → ∀ (v:Value) (h:Heap) (Q:Value→Heap→Prop),ExsV h v l→Q (.int .i64 (IntKind.i64.wrap (yc l))) h→CallW Tryz.prog 83 [v] h Q:=by
 intro M
 induction M using Nat.strongRecOn with
 | _ M ih =>
 intro l hM v h Q hv hq
 have hln:=hv.len
 have hle:=hv.le
 replace ih:=zb ih;replace hv:=zb hv
 refine zi (k:=1) ok83 rfl rfl rfl fun N=>?_
 rw [show y0 c83 [v]=[v,undef,undef,undef] from rfl]
 delta c83
 replace hq:=zb hq
 have h0:(l.length:Int)=IntKind.i64.wrap ((l.length:Int) + ((yc (l.take 0):Int) - ((0:Nat):Int))):=by
  have e0:(l.length:Int) + ((yc (l.take 0):Int) - ((0:Nat):Int))=l.length:=by simp [yc]
  rw [e0];exact wid (by omega) (by omega)
 replace h0:=Hid.mk h0
 repeat' (first | simp only [za,aR,aW,zf,zg,Int.reduceBEq,Int.reduceBNe,Nat.reduceBEq,Int.reduceLT,Int.reduceLE, *] | with_reducible (first | refine kcd ?_ ?_ | refine kgd ?_ ?_ | refine kci ?_ ?_ | refine kgi ?_ ?_)<;>intro hc)
 refine LoopW.upto l.length (fun i e h1=>h1=h∧e=[v,.int .i64 0,.int .i64 (IntKind.i64.wrap ((l.length:Int) + ((yc (l.take i):Int) - i))),.int .i64 (i:Int)]) ?_ (Nat.zero_le _) ⟨rfl,by rw [← h0.h];rfl⟩
 rintro i _ h1 R hi ⟨rfl,rfl⟩ hR
 delta c83_l6
 by_cases hlt:i < l.length
 ·have hlt' : (i:Int) < l.length:=by omega
  obtain ⟨e,he⟩:∃ e,l[i]? = some e:=⟨_,List.getElem?_eq_getElem hlt⟩
  obtain ⟨id,off,cells,own,x,e1,e2,e3,hex,e4⟩:=hv.h.elem he
  obtain ⟨u,hval,hargs⟩:=hex.cells
  have f4:cells[off + 4]? = some u:=by rw [e4 4 (by omega),hval];rfl
  have hw:IntKind.i64.wrap ((i:Int) + 1)=((i + 1:Nat):Int):=by rw [z6 (by omega) (by omega)];rfl
  have hmem:=Z1 he
  have hce:=Wq e
  have htk:=Qh l i e he
  have ws:=wadd ((l.length:Int) + ((yc (l.take i):Int) - i)) (yc e.args)
  have ei:(l.length:Int) + ((yc (l.take i):Int) - i) + yc e.args=(l.length:Int) + ((yc (l.take (i + 1)):Int) - ((i + 1:Nat):Int)):=by omega
  rw [ei] at ws
  have g:=hR.h _ h1 hlt ⟨rfl,rfl⟩
  have hb:yc e.args < M:=by omega
  clear ei hce htk hmem hR hex hval e3 e4 hv
  replace g:=zb g;replace hargs:=zb hargs;replace hb:=zb hb
  repeat' (first | simp only [za,aR,aW,zf,zg,Int.reduceBEq,Int.reduceBNe,Nat.reduceBEq,Int.reduceLT,Int.reduceLE, *] | with_reducible (first | refine kcd ?_ ?_ | refine kgd ?_ ?_ | refine kci ?_ ?_ | refine kgi ?_ ?_)<;>intro hc)
  refine ih.h (yc e.args) hb.h e.args (Nat.le_refl _) u _ _ hargs.h ?_
  repeat' (first | simp only [za,aR,aW,zf,zg,Int.reduceBEq,Int.reduceBNe,Nat.reduceBEq,Int.reduceLT,Int.reduceLE, *] | with_reducible (first | refine kcd ?_ ?_ | refine kgd ?_ ?_ | refine kci ?_ ?_ | refine kgi ?_ ?_)<;>intro hc)
  exact g.h
 ·have hlt' : ¬ (i:Int) < l.length:=by omega
  have hi2:i=l.length:=by omega
  subst hi2
  have g:=hq.h
  have ee:(l.length:Int) + ((yc (l.take l.length):Int) - (l.length:Int))=(yc l:Int):=by rw [List.take_length];omega
  rw [← ee] at g
  clear ee hR
  replace g:=zb g
  repeat' (first | simp only [za,aR,aW,zf,zg,Int.reduceBEq,Int.reduceBNe,Nat.reduceBEq,Int.reduceLT,Int.reduceLE, *] | with_reducible (first | refine kcd ?_ ?_ | refine kgd ?_ ?_ | refine kci ?_ ?_ | refine kgi ?_ ?_)<;>intro hc)
  exact g.h
end Go.Eng.Sy
namespace Go.Eng.Sy
open Go Go.Eng Go.Proofs
theorem wadd3 (n a b c:Int):IntKind.i64.wrap (IntKind.i64.wrap (IntKind.i64.wrap (IntKind.i64.wrap n + IntKind.i64.wrap a) + IntKind.i64.wrap b) + IntKind.i64.wrap c)=IntKind.i64.wrap (n + (a + b + c)):=by
 simp only [IntKind.wrap_i64]
 omega
theorem zt4:∀ (M:Nat) (l:List St),zr l≤M → ∀ (v:Value) (h:Heap) (Q:Value→Heap→Prop),StsV h v l→Q (.int .i64 (IntKind.i64.wrap (zr l))) h→CallW Tryz.prog 51 [v] h Q:=by
 intro M
 induction M using Nat.strongRecOn with
 | _ M ih =>
 intro l hM v h Q hv hq
 have hln:=hv.len
 have hle:=hv.le
 replace ih:=zb ih;replace hv:=zb hv
 refine zi (k:=1) ok51 rfl rfl rfl fun N=>?_
 rw [show y0 c51 [v]=[v,undef,undef,undef] from rfl]
 delta c51
 replace hq:=zb hq
 have h0:(l.length:Int)=IntKind.i64.wrap ((l.length:Int) + ((zr (l.take 0):Int) - ((0:Nat):Int))):=by
  have e0:(l.length:Int) + ((zr (l.take 0):Int) - ((0:Nat):Int))=l.length:=by simp [zr]
  rw [e0];exact wid (by omega) (by omega)
 replace h0:=Hid.mk h0
 repeat' (first | simp only [za,aR,aW,zf,zg,Int.reduceBEq,Int.reduceBNe,Nat.reduceBEq,Int.reduceLT,Int.reduceLE, *] | with_reducible (first | refine kcd ?_ ?_ | refine kgd ?_ ?_ | refine kci ?_ ?_ | refine kgi ?_ ?_)<;>intro hc)
 refine LoopW.upto l.length (fun i e h1=>h1=h∧e=[v,.int .i64 0,.int .i64 (IntKind.i64.wrap ((l.length:Int) + ((zr (l.take i):Int) - i))),.int .i64 (i:Int)]) ?_ (Nat.zero_le _) ⟨rfl,by rw [← h0.h];rfl⟩
 rintro i _ h1 R hi ⟨rfl,rfl⟩ hR
 delta c51_l6
 by_cases hlt:i < l.length
 ·have hlt' : (i:Int) < l.length:=by omega
  obtain ⟨e,he⟩:∃ e,l[i]? = some e:=⟨_,List.getElem?_eq_getElem hlt⟩
  obtain ⟨id,off,cells,own,x,e1,e2,e3,hex,e4⟩:=hv.h.elem he
  obtain ⟨v1,v2,v3,hval,hargs,hthn,hels⟩:=hex.cells
  have f4:cells[off + 4]? = some v1:=by rw [e4 4 (by omega),hval];rfl
  have f5:cells[off + 5]? = some v2:=by rw [e4 5 (by omega),hval];rfl
  have f6:cells[off + 6]? = some v3:=by rw [e4 6 (by omega),hval];rfl
  have hw:IntKind.i64.wrap ((i:Int) + 1)=((i + 1:Nat):Int):=by rw [z6 (by omega) (by omega)];rfl
  have hmem:=Z0 he
  have hce:=Wp e
  have htk:=Qg l i e he
  have ws:=wadd3 ((l.length:Int) + ((zr (l.take i):Int) - i)) (yc e.args) (zr e.thn) (zr e.els)
  have ei:(l.length:Int) + ((zr (l.take i):Int) - i) + (yc e.args + zr e.thn + zr e.els)=(l.length:Int) + ((zr (l.take (i + 1)):Int) - ((i + 1:Nat):Int)):=by omega
  rw [ei] at ws
  have g:=hR.h _ h1 hlt ⟨rfl,rfl⟩
  have hb:zr e.thn < M∧zr e.els < M:=by omega
  clear ei hce htk hmem hR hex hval e3 e4 hv
  replace g:=zb g;replace hargs:=zb hargs;replace hthn:=zb hthn;replace hels:=zb hels;replace hb:=zb hb
  repeat' (first | simp only [za,aR,aW,zf,zg,Int.reduceBEq,Int.reduceBNe,Nat.reduceBEq,Int.reduceLT,Int.reduceLE,wx, *] | with_reducible (first | refine kcd ?_ ?_ | refine kgd ?_ ?_ | refine kci ?_ ?_ | refine kgi ?_ ?_)<;>intro hc)
  refine zn1 _ e.args (Nat.le_refl _) v1 _ _ hargs.h (jr (Heap.le.refl _).ext ?_)
  repeat' (first | simp only [za,aR,aW,zf,zg,Int.reduceBEq,Int.reduceBNe,Nat.reduceBEq,Int.reduceLT,Int.reduceLE,wx, *] | with_reducible (first | refine kcd ?_ ?_ | refine kgd ?_ ?_ | refine kci ?_ ?_ | refine kgi ?_ ?_)<;>intro hc)
  refine ih.h (zr e.thn) hb.h.1 e.thn (Nat.le_refl _) v2 _ _ hthn.h (jr (Heap.le.refl _).ext ?_)
  repeat' (first | simp only [za,aR,aW,zf,zg,Int.reduceBEq,Int.reduceBNe,Nat.reduceBEq,Int.reduceLT,Int.reduceLE, *] | with_reducible (first | refine kcd ?_ ?_ | refine kgd ?_ ?_ | refine kci ?_ ?_ | refine kgi ?_ ?_)<;>intro hc)
  refine ih.h (zr e.els) hb.h.2 e.els (Nat.le_refl _) v3 _ _ hels.h ?_
  repeat' (first | simp only [za,aR,aW,zf,zg,Int.reduceBEq,Int.reduceBNe,Nat.reduceBEq,Int.reduceLT,Int.reduceLE, *] | with_reducible (first | refine kcd ?_ ?_ | refine kgd ?_ ?_ | refine kci ?_ ?_ | refine kgi ?_ ?_)<;>intro hc)
  exact g.h
 ·have hlt' : ¬ (i:Int) < l.length:=by omega
  have hi2:i=l.length:=by omega
  subst hi2
  have g:=hq.h
  have ee:(l.length:Int) + ((zr (l.take l.length):Int) - (l.length:Int))=(zr l:Int):=by rw [List.take_length];omega
  rw [← ee] at g
  clear ee hR
  replace g:=zb g
  repeat' (first | simp only [za,aR,aW,zf,zg,Int.reduceBEq,Int.reduceBNe,Nat.reduceBEq,Int.reduceLT,Int.reduceLE, *] | with_reducible (first | refine kcd ?_ ?_ | refine kgd ?_ ?_ | refine kci ?_ ?_ | refine kgi ?_ ?_)<;>intro hc)
  exact g.h
theorem zt1 {h:Heap}{p:Prg}{x:List Value}(hx:PrC h p x) (Q:Value→Heap→Prop) (hq:∀ h',h.le h' → Q (.int .i64 (IntKind.i64.wrap (cntP p))) h'):CallW Tryz.prog 16 [.agg x.toArray] h Q:=by
 obtain ⟨d,r,t,rfl,hd,hr,ht⟩:=hx
 obtain ⟨n,devs,ress,tasks⟩:=p
 simp only at hd hr ht ⊢
 have b1:=Yd (n:=n) hd.one hr.one ht.one
 obtain ⟨q,h0,eq,eh0,gq,lh0⟩:=zo h [.int .i64 n,d,r,t]
 have ht0:=ht.mono lh0
 have hln:=ht.len
 have hle:=ht.le
 replace ht0:=zb ht0;replace lh0:=zb lh0
 clear hd hr ht
 refine zi (k:=2) ok16 rfl rfl rfl fun N=>?_
 rw [show y0 c16 [prV n d r t]=[prV n d r t,undef,undef,undef,undef] from rfl]
 delta c16
 replace hq:=zb hq
 have z0:(0:Int)=IntKind.i64.wrap (Ze (tasks.take 0)):=by simp [Ze];rfl
 replace z0:=Hid.mk z0
 repeat' (first | simp only [za,aR,aW,zf,zg,Int.reduceBEq,Int.reduceBNe,Nat.reduceBEq,Int.reduceLT,Int.reduceLE, *] | with_reducible (first | refine kcd ?_ ?_ | refine kgd ?_ ?_ | refine kci ?_ ?_ | refine kgi ?_ ?_)<;>intro hc)
 refine LoopW.upto tasks.length (fun i e h1=>h1=h0∧e=[prV n d r t,.pointer (some ⟨q,0,none⟩),.int .i64 0,.int .i64 (IntKind.i64.wrap (Ze (tasks.take i))),.int .i64 (i:Int)]) ?_ (Nat.zero_le _) ⟨rfl,by rw [← z0.h];rfl⟩
 rintro i _ h1 R hi ⟨rfl,rfl⟩ hR
 delta c16_l6
 by_cases hlt:i < tasks.length
 ·have hlt' : (i:Int) < tasks.length:=by omega
  obtain ⟨e,he⟩:∃ e,tasks[i]? = some e:=⟨_,List.getElem?_eq_getElem hlt⟩
  obtain ⟨xs,a,c,b⟩:=ht0.h
  obtain ⟨x,k1,u,rfl,hb⟩:=b.get i e he
  obtain ⟨id,off,cells,own,g1,g2,g3,g4⟩:=a.elem k1
  have f5:cells[off + 5]? = some u:=g4 5 (by omega)
  have hw:IntKind.i64.wrap ((i:Int) + 1)=((i + 1:Nat):Int):=by rw [z6 (by omega) (by omega)];rfl
  have htk:=Qf tasks i e he
  have ws:=wadd (Ze (tasks.take i)) (zr e.body)
  have ei:(Ze (tasks.take i):Int) + zr e.body=((Ze (tasks.take (i + 1)):Nat):Int):=by omega
  rw [ei] at ws
  have g:=hR.h _ h1 hlt ⟨rfl,rfl⟩
  clear ei htk hR g3 g4 a b c k1 ht0
  replace g:=zb g;replace hb:=zb hb
  repeat' (first | simp only [za,aR,aW,zf,zg,Int.reduceBEq,Int.reduceBNe,Nat.reduceBEq,Int.reduceLT,Int.reduceLE, *] | with_reducible (first | refine kcd ?_ ?_ | refine kgd ?_ ?_ | refine kci ?_ ?_ | refine kgi ?_ ?_)<;>intro hc)
  refine zt4 _ e.body (Nat.le_refl _) u _ _ hb.h ?_
  repeat' (first | simp only [za,aR,aW,zf,zg,Int.reduceBEq,Int.reduceBNe,Nat.reduceBEq,Int.reduceLT,Int.reduceLE, *] | with_reducible (first | refine kcd ?_ ?_ | refine kgd ?_ ?_ | refine kci ?_ ?_ | refine kgi ?_ ?_)<;>intro hc)
  exact g.h
 ·have hlt' : ¬ (i:Int) < tasks.length:=by omega
  have hi2:i=tasks.length:=by omega
  subst hi2
  have g:=hq.h h1 lh0.h
  have ee:cntP ⟨n,devs,ress,tasks⟩=Ze (tasks.take tasks.length):=by rw [List.take_length];rfl
  rw [ee] at g
  clear ee hR
  replace g:=zb g
  repeat' (first | simp only [za,aR,aW,zf,zg,Int.reduceBEq,Int.reduceBNe,Nat.reduceBEq,Int.reduceLT,Int.reduceLE, *] | with_reducible (first | refine kcd ?_ ?_ | refine kgd ?_ ?_ | refine kci ?_ ?_ | refine kgi ?_ ?_)<;>intro hc)
  exact g.h
end Go.Eng.Sy
namespace Go.Eng
open Go
theorem Heap.le.but' {h0 h h' : Heap}{p:Nat}(hl:h0.le h) (hp:h0.next≤p) (hb:h.leBut p h'):h0.le h' :=
 ⟨fun i o ho=>by
  have h1:=hl.get ho
  have h2:=Heap.lt_of_get ho
  rw [hb.get i (by omega) (by rw [h1];rfl)];exact h1,Nat.le_trans hl.next hb.next⟩
theorem Heap.le.set' {h0 h:Heap}{p:Nat}(hl:h0.le h) (hp:h0.next≤p) (o:AObj):h0.le (h.set p o) :=
 ⟨fun i o' ho=>by
  have h1:=hl.get ho
  have h2:=Heap.lt_of_get ho
  rw [Heap.set_getE _ _ _ _ (by simp;omega)];exact h1,hl.next⟩
end Go.Eng
namespace Go.Eng.Sy
open Go Go.Eng Go.Proofs
abbrev Bx (L:List Nat) (vs:List Value) (id:Nat):Prop:=id ∉ L ∧ ∀ v ∈ vs,notOf v id
structure WSt (n:Nat) (L:List Nat) (h:Heap) (g:Prg) (d r t:Value) (xs:List (List Value)):Prop where
 rows:Rows n h [(d,2,g.devs.map nmC),(r,2,g.ress.map nmC),(t,6,xs)]
 apart:∀ v ∈ [d,r,t],∀ i ∈ L,notOf v i
 hts:TsCsB (Bx L [d,r,t]) h g.tasks xs
 dl:g.devs.length≤140737488355328
 rl:g.ress.length≤140737488355328
 tl:xs.length≤140737488355328
theorem three {d r t:Value}{a b c:List (List Value)}{x:Row}(hx:x ∈ [(d,2,a),(r,2,b),(t,6,c)]):x.1 ∈ [d,r,t]:=by
 simp only [List.mem_cons,List.not_mem_nil,or_false] at hx ⊢
 rcases hx with rfl | rfl | rfl<;>simp
theorem WSt.to {n:Nat}{L:List Nat}{h h' : Heap}{g:Prg}{d r t:Value}{xs:List (List Value)}(hm:WSt n L h g d r t xs) (hk:∀ i,i ∉ L→(h.get i).isSome=true→h'.get i=h.get i):WSt n L h' g d r t xs :=
 ⟨⟨fun x hx=>(hm.rows.own x hx).get fun id hv hs=>hk id (fun hi=>hm.apart x.1 (three hx) id hi _ _ hv) hs,hm.rows.sep⟩,hm.apart,hm.hts.to fun id cs own hb hg=>⟨hb,by rw [hk id hb.1 (by rw [hg];rfl)];exact hg⟩,hm.dl,hm.rl,hm.tl⟩
theorem WSt.le {n:Nat}{L:List Nat}{h h' : Heap}{g:Prg}{d r t:Value}{xs:List (List Value)}(hm:WSt n L h g d r t xs) (hl:h.le h'):WSt n L h' g d r t xs:=hm.to fun i _ hs=>hl.getE i hs
theorem WSt.but {n:Nat}{L:List Nat}{h h' : Heap}{g:Prg}{d r t:Value}{xs:List (List Value)}(hm:WSt n L h g d r t xs){p:Nat}(hp:p ∈ L) (hl:h.leBut p h'):WSt n L h' g d r t xs:=hm.to fun i hi hs=>hl.get i (fun e=>hi (e ▸ hp)) hs
theorem WSt.set {n:Nat}{L:List Nat}{h:Heap}{g:Prg}{d r t:Value}{xs:List (List Value)}(hm:WSt n L h g d r t xs){p:Nat}(hp:p ∈ L) (o:AObj):WSt n L (h.set p o) g d r t xs:=hm.to fun i hi hs=>Heap.set_getE _ _ _ _ (by simp;intro e;exact hi (e ▸ hp))
theorem WSt.more {n:Nat}{L:List Nat}{h:Heap}{g:Prg}{d r t:Value}{xs:List (List Value)}(hm:WSt n L h g d r t xs){i:Nat}(hi:h.next≤i):WSt n (i::L) h g d r t xs:=by
 refine ⟨hm.rows,fun v hv j hj=>?_,hm.hts.to fun id cs own hb hg=>⟨⟨fun h=>?_,hb.2⟩,hg⟩,hm.dl,hm.rl,hm.tl⟩
 ·rcases List.mem_cons.1 hj with rfl | hj
  ·simp only [List.mem_cons,List.not_mem_nil,or_false] at hv
   rcases hv with rfl | rfl | rfl
   ·exact OwnS.notOf_new (hm.rows.own (v,2,g.devs.map nmC) (by simp)) hi
   ·exact OwnS.notOf_new (hm.rows.own (v,2,g.ress.map nmC) (by simp)) hi
   ·exact OwnS.notOf_new (hm.rows.own (v,6,xs) (by simp)) hi
  ·exact hm.apart v hv j hj
 ·have:=Heap.lt_of_get hg
  rcases List.mem_cons.1 h with rfl | h
  ·omega
  ·exact hb.1 h
theorem MadeR.st {n:Nat}{h:Heap}{g:Prg}{d r t:Value}{xs:List (List Value)}(hm:MadeR n h g d r t xs){L:List Nat}(hL:∀ i ∈ L,i < n):WSt n L h g d r t xs:=by
 refine ⟨hm.rows,fun v hv i hi=>?_,hm.hts.to (Heap.toB_id fun id hb=>⟨fun hi=>?_,hb.2⟩),by have:=hm.dl;omega,by have:=hm.rl;omega,by have:=hm.tl;omega⟩
 ·simp only [List.mem_cons,List.not_mem_nil,or_false] at hv
  rcases hv with rfl | rfl | rfl
  ·exact hm.rows.notOf (r:=(v,2,g.devs.map nmC)) (by simp) (.inl (hL i hi))
  ·exact hm.rows.notOf (r:=(v,2,g.ress.map nmC)) (by simp) (.inl (hL i hi))
  ·exact hm.rows.notOf (r:=(v,6,xs)) (by simp) (.inl (hL i hi))
 ·have h1:=hL id hi
  have h2:=hb.1
  omega
theorem WSt.made {n:Nat}{L:List Nat}{h:Heap}{g:Prg}{d r t:Value}{xs:List (List Value)}(hm:WSt n L h g d r t xs):Made 0 h g d r t xs:=by
 have hs:=hm.rows.sep
 simp only [List.pairwise_cons] at hs
 have s1:=(hs.1 (t,6,xs) (by simp)).1
 have s2:=(hs.2.1 (t,6,xs) (by simp)).1
 have hr:Rows 0 h [(d,2,g.devs.map nmC),(r,2,g.ress.map nmC),(t,6,xs)]:=⟨fun x hx=>(hm.rows.own x hx).weak (Nat.zero_le _),hm.rows.sep⟩
 exact ⟨Q5 hr (r:=(d,2,g.devs.map nmC)) (by simp) s1,Q5 hr (r:=(r,2,g.ress.map nmC)) (by simp) s2,hr.own (t,6,xs) (by simp),hm.hts.to (Heap.toB_id fun id hb=>⟨Nat.zero_le _,fun v hv=>by rw [List.mem_singleton.1 hv];exact hb.2 t (by simp)⟩),hm.dl,hm.rl,hm.tl⟩
theorem WSt.isS {n:Nat}{L:List Nat}{h:Heap}{g:Prg}{d r t:Value}{xs:List (List Value)}(hm:WSt n L h g d r t xs):IsS d∧IsS r∧IsS t :=
 ⟨OwnS.isS (hm.rows.own (d,2,g.devs.map nmC) (by simp)),OwnS.isS (hm.rows.own (r,2,g.ress.map nmC) (by simp)),OwnS.isS (hm.rows.own (t,6,xs) (by simp))⟩
theorem WSt.dev {n:Nat}{L:List Nat}{h:Heap}{g:Prg}{d r t:Value}{xs:List (List Value)}(hm:WSt n L h g d r t xs) (hn:n≤h.next) (hL:∀ i ∈ L,(h.get i).isSome=true) (hb:g.devs.length≤1000) (m:Nm) :
  ∃ d' h',jj 2 24 (h.alloc (.blk (nmC m) true)) [d,.slice (some ⟨h.next,0,none⟩) 1 2]=some (d',h')∧WSt n L h' { g with devs:=g.devs++[m] } d' r t xs∧Heap.toB (Bx L [d,r,t]) (Bx L [d',r,t]) h h' ∧ (∀ i,i ∈ L∨i < n→(h.get i).isSome=true→h'.get i=h.get i)∧h.next≤h'.next:=by
 obtain ⟨d',h',e1,hR,k1,k2,nx⟩:=Rows.push (l1:=[]) hm.rows hn (x:=nmC m) rfl (by omega) (b:=24) (by simp;omega) (by simp;omega)
 have tb:Heap.toB (Bx L [d,r,t]) (Bx L [d',r,t]) h h':=fun id cs own hb hg=>by
  have hs:(h.get id).isSome=true:=by rw [hg];rfl
  refine ⟨⟨hb.1,fun v hv=>?_⟩,by rw [k1 id hs (hb.2 d (by simp))];exact hg⟩
  rcases List.mem_cons.1 hv with rfl | hv
  ·exact k2 id hs
  ·exact hb.2 v (List.mem_cons_of_mem _ hv)
 refine ⟨d',h',e1,⟨by simpa using hR,fun v hv i hi=>?_,hm.hts.to tb,by simp;omega,hm.rl,hm.tl⟩,tb,fun i hi hs=>k1 i hs (hi.elim (fun hi=>hm.apart d (by simp) i hi) fun hi=>OwnS.notOf (hm.rows.own (d,2,g.devs.map nmC) (by simp)) hi),nx⟩
 rcases List.mem_cons.1 hv with rfl | hv
 ·exact k2 i (hL i hi)
 ·exact hm.apart v (List.mem_cons_of_mem _ hv) i hi
theorem WSt.res {n:Nat}{L:List Nat}{h:Heap}{g:Prg}{d r t:Value}{xs:List (List Value)}(hm:WSt n L h g d r t xs) (hn:n≤h.next) (hL:∀ i ∈ L,(h.get i).isSome=true) (hb:g.ress.length≤1000) (m:Nm) :
  ∃ r' h',jj 2 24 (h.alloc (.blk (nmC m) true)) [r,.slice (some ⟨h.next,0,none⟩) 1 2]=some (r',h')∧WSt n L h' { g with ress:=g.ress++[m] } d r' t xs∧Heap.toB (Bx L [d,r,t]) (Bx L [d,r',t]) h h' ∧ (∀ i,i ∈ L∨i < n→(h.get i).isSome=true→h'.get i=h.get i)∧h.next≤h'.next:=by
 obtain ⟨r',h',e1,hR,k1,k2,nx⟩:=Rows.push (l1:=[(d,2,g.devs.map nmC)]) hm.rows hn (x:=nmC m) rfl (by omega) (b:=24) (by simp;omega) (by simp;omega)
 have tb:Heap.toB (Bx L [d,r,t]) (Bx L [d,r',t]) h h':=fun id cs own hb hg=>by
  have hs:(h.get id).isSome=true:=by rw [hg];rfl
  refine ⟨⟨hb.1,fun v hv=>?_⟩,by rw [k1 id hs (hb.2 r (by simp))];exact hg⟩
  simp only [List.mem_cons,List.not_mem_nil,or_false] at hv
  rcases hv with rfl | rfl | rfl
  ·exact hb.2 v (by simp)
  ·exact k2 id hs
  ·exact hb.2 v (by simp)
 refine ⟨r',h',e1,⟨by simpa using hR,fun v hv i hi=>?_,hm.hts.to tb,hm.dl,by simp;omega,hm.tl⟩,tb,fun i hi hs=>k1 i hs (hi.elim (fun hi=>hm.apart r (by simp) i hi) fun hi=>OwnS.notOf (hm.rows.own (r,2,g.ress.map nmC) (by simp)) hi),nx⟩
 simp only [List.mem_cons,List.not_mem_nil,or_false] at hv
 rcases hv with rfl | rfl | rfl
 ·exact hm.apart v (by simp) i hi
 ·exact k2 i (hL i hi)
 ·exact hm.apart v (by simp) i hi
theorem WSt.prc {n:Nat}{L:List Nat}{h:Heap}{g:Prg}{d r t:Value}{xs:List (List Value)}(hm:WSt n L h g d r t xs):PrC h g [.int .i64 g.harts,d,r,t]:=hm.made.prc
theorem WSt.put {n:Nat}{L:List Nat}{h:Heap}{g:Prg}{d r t:Value}{xs:List (List Value)}(hm:WSt n L h g d r t xs){k:Nat}{tk:Tsk}(hk:g.tasks[k]? = some tk) (tk' : Tsk){v:Value}(hv:StsVB (Bx L [d,r,t]) h v tk'.body) :
  ∃ id c xs',yx 6 [t,.int .i64 (k:Int)]=some (.pointer (some ⟨id,k * 6,none⟩))∧yh 6 h [.pointer (some ⟨id,k * 6,none⟩),tsV tk'.name tk'.handler tk'.hart tk'.prio tk'.line v]=some (undef,h.set id c)∧WSt n L (h.set id c) { g with tasks:=g.tasks.set k tk' } d r t xs' ∧ id ∉ L∧n≤id:=by
 obtain ⟨id,u,e1,e2,e3,e4,e5,e6⟩:=hm.made.at hk
 obtain ⟨x,hx,_⟩:=hm.hts.get hk
 have hlt:k < xs.length:=(List.getElem?_eq_some_iff.1 hx).1
 obtain ⟨s1,s2⟩:=OwnS.put (u:=tsV tk'.name tk'.handler tk'.hart tk'.prio tk'.line v) e1 (hm.rows.own (t,6,xs) (by simp)) hlt (y:=[str tk'.name,.bool tk'.handler,.int .i64 tk'.hart,.int .i64 tk'.prio,.int .i64 tk'.line,v]) rfl (by simpa [Value.oneCell'] using hv.one) rfl
 have hs:=hm.rows.sep
 have hs':=hs
 simp only [List.pairwise_cons] at hs'
 have p1:=(hs'.1 (t,6,xs) (by simp)).1
 have p2:=(hs'.2.1 (t,6,xs) (by simp)).1
 have hb:Heap.toB (Bx L [d,r,t]) (Bx L [d,r,t]) h (h.set id (.blk (xs.set k [str tk'.name,.bool tk'.handler,.int .i64 tk'.hart,.int .i64 tk'.prio,.int .i64 tk'.line,v]).flatten true)):=Heap.toB_set _ fun i hb=>⟨fun e=>by subst e;exact hb.2 t (by simp) _ _ e1,hb⟩
 refine ⟨id,_,_,e4,s1,⟨⟨fun x hx=>?_,?_⟩,hm.apart,TsCsB.set (hm.hts.to hb) ⟨v,rfl,hv.to hb⟩,hm.dl,hm.rl,by rw [List.length_set];exact hm.tl⟩,fun hi=>hm.apart t (by simp) id hi _ _ e1,((hm.rows.own (t,6,xs) (by simp)).blk_lt id _ _ e1).1⟩
 ·simp only [List.mem_cons,List.not_mem_nil,or_false] at hx
  rcases hx with rfl | rfl | rfl
  ·exact (hm.rows.own (d,2,g.devs.map nmC) (by simp)).get fun j hv hs=>Heap.set_getE _ _ _ _ (by simp;intro e;subst e;exact p1 _ _ _ hv _ _ e1)
  ·exact (hm.rows.own (r,2,g.ress.map nmC) (by simp)).get fun j hv hs=>Heap.set_getE _ _ _ _ (by simp;intro e;subst e;exact p2 _ _ _ hv _ _ e1)
  ·exact s2
 ·simpa [List.pairwise_cons] using hs
end Go.Eng.Sy
namespace Go.Eng.Sy
open Go Go.Eng Go.Proofs
def oddN:List (List UInt8):=[[],[120],[114,97],[100],[116,97],[105,102],[49,97],[121],[114,98],[104,97]]
def oddV:List Value:=[.string ⟨#[]⟩,.string ⟨#[120]⟩,.string ⟨#[114,97]⟩,.string ⟨#[100]⟩,.string ⟨#[116,97]⟩,.string ⟨#[105,102]⟩,.string ⟨#[49,97]⟩,.string ⟨#[121]⟩,.string ⟨#[114,98]⟩,.string ⟨#[104,97]⟩]
def zn8 (s:List Int):List UInt8:=oddN.getD (ze s 10).1 []
theorem oddV_get {k:Nat}(h:k < 10):oddV[k]? = some (str (oddN.getD k [])):=by
 have:k=0∨k=1∨k=2∨k=3∨k=4∨k=5∨k=6∨k=7∨k=8∨k=9:=by omega
 rcases this with rfl | rfl | rfl | rfl | rfl | rfl | rfl | rfl | rfl | rfl<;>rfl
theorem zg8 (s:List Int):(zn8 s).length≤1000000000:=by
 unfold zn8
 generalize (ze s 10).1=k
 by_cases h:k < 10
 ·have:k=0∨k=1∨k=2∨k=3∨k=4∨k=5∨k=6∨k=7∨k=8∨k=9:=by omega
  rcases this with rfl | rfl | rfl | rfl | rfl | rfl | rfl | rfl | rfl | rfl<;>decide
 ·rw [List.getD_eq_getElem?_getD,List.getElem?_eq_none (by show 10≤k;omega)];simp
theorem zn7 {h:Heap}{p:Nat}{raw:List Int}(hs:Src h p raw) (Q:Value→Heap→Prop)
  (hq:∀ h',h.leBut p h' → Src h' p (ze raw 10).2→Q (str (zn8 raw)) h'):CallW Tryz.prog 24 [.pointer (some ⟨p,0,none⟩)] h Q:=by
 have hpl:=hs.lt
 obtain ⟨q,h1,eq,eh1,gq,lh1⟩:=zo h oddV
 have hs1:=hs.le lh1
 have hqp:p≠q:=by omega
 have bs:yi [.string ⟨#[]⟩,.string ⟨#[]⟩,.string ⟨#[]⟩,.string ⟨#[]⟩,.string ⟨#[]⟩,.string ⟨#[]⟩,.string ⟨#[]⟩,.string ⟨#[]⟩,.string ⟨#[]⟩,.string ⟨#[]⟩] [(0,1),(1,1),(2,1),(3,1),(4,1),(5,1),(6,1),(7,1),(8,1),(9,1)] 10 1 [.string ⟨#[]⟩,.string ⟨#[120]⟩,.string ⟨#[114,97]⟩,.string ⟨#[100]⟩,.string ⟨#[116,97]⟩,.string ⟨#[105,102]⟩,.string ⟨#[49,97]⟩,.string ⟨#[121]⟩,.string ⟨#[114,98]⟩,.string ⟨#[104,97]⟩]=some (oddV,fun id=>.slice (some ⟨id,0,none⟩) 10 1):=rfl
 clear hs
 replace hs1:=zb hs1;replace lh1:=zb lh1
 refine zi (k:=1) ok24 rfl rfl rfl fun N=>?_
 rw [show y0 c24 [.pointer (some ⟨p,0,none⟩)]=[.pointer (some ⟨p,0,none⟩),undef] from rfl]
 delta c24
 replace hq:=zb hq
 repeat' (first | simp only [za,aR,aW,zf,zg,Int.reduceBEq,Int.reduceBNe,Nat.reduceBEq,Int.reduceLT,Int.reduceLE, *] | with_reducible (first | refine kcd ?_ ?_ | refine kgd ?_ ?_ | refine kci ?_ ?_ | refine kgi ?_ ?_)<;>intro hc)
 refine yf (n:=10) hs1.h (by omega) (by omega) _ fun h2 l2 _ hs2=>?_
 have hlt:=z8 hs1.h.in (n:=10) (by omega)
 have ix:=idx1 (id:=q) (n:=10) hlt
 have bg:=oddV_get hlt
 have gq2:=l2.keep (i:=q) (by omega) gq
 have g:=hq.h h2 (Heap.leBut.of_le lh1.h l2) hs2
 unfold zn8 at g
 clear l2 hs2
 replace g:=zb g;replace hlt:=zb hlt
 repeat' (first | simp only [za,aR,aW,zf,zg,Int.reduceBEq,Int.reduceBNe,Nat.reduceBEq,Int.reduceLT,Int.reduceLE, *] | with_reducible (first | refine kcd ?_ ?_ | refine kgd ?_ ?_ | refine kci ?_ ?_ | refine kgi ?_ ?_)<;>intro hc)
 exact g.h
end Go.Eng.Sy
namespace Go.Eng.Sy
open Go Go.Eng Go.Proofs
noncomputable def zq8:CCode:=(.seq (.reg U7 []) (.seq (.reg U6 []) .ret))
theorem wld_end {h0 h:Heap}{n q1 q6 q8:Nat}{L:List Nat}{g:Prg}{d r t:Value}{xs:List (List Value)}{k:Nat}{tk:Tsk}{tb:Value}
  (h0l:h0.le h) (ho:h0.next≤n∧h0.next≤q1) (m1:q1 ∈ L) (m6:q6 ∈ L) (hne:q1 < q6)
  (g1:h.get q1=some (.blk zP true)) (g6:h.get q6=some (.blk [.int .i64 g.harts,d,r,t] true)) (g8:h.get q8=some (.blk [str tk.name,.bool tk.handler,.int .i64 tk.hart,.int .i64 tk.prio,.int .i64 tk.line,tb] true))
  (hm:WSt n L h g d r t xs) (hk:k < g.tasks.length) (hb:StsVB (Bx L [d,r,t]) h tb tk.body)
  (ok:g.ok) (sz:∀ t ∈ g.tasks,zr t.body≤100000) (szt:zr tk.body≤100000)
  {N:Nat}{vars:List Nat}{x0 x2 x3 x4 x5 x9 x10 x11 x12:Value}(Q:Value→Heap→Prop) (hq:∀ h' g' y,h0.le h' → PrC h' g' y→g'.ok→(∀ t ∈ g'.tasks,zr t.body≤100000)→Q (.agg y.toArray) h') :
  W Tryz.prog N vars zq8 (zs7 1 true 4 Q) [x0,.pointer (some ⟨q1,0,none⟩),x2,x3,x4,x5,.pointer (some ⟨q6,0,none⟩),.int .i64 (k:Int),.pointer (some ⟨q8,0,none⟩),x9,x10,x11,x12] h:=by
 obtain ⟨old,hold⟩:∃ o,g.tasks[k]? = some o:=⟨_,List.getElem?_eq_getElem hk⟩
 obtain ⟨id,c,xs',e4,st,hm2,hid,hidn⟩:=hm.put hold tk hb
 have st' : yh 6 h [.pointer (some ⟨id,k * 6,none⟩),tsV tk.name tk.handler tk.hart tk.prio tk.line tb]=some (undef,h.set id c):=st
 have l2:=h0l.set' (p:=id) (by omega) c
 obtain ⟨h2,eh2⟩:∃ x,h.set id c=x:=⟨_,rfl⟩
 have g62:h2.get q6=some (.blk [.int .i64 g.harts,d,r,t] true):=by rw [← eh2];exact (Heap.set_getE _ _ _ _ (by simp;intro e;exact hid (e ▸ m6))).trans g6
 have g12:h2.get q1=some (.blk zP true):=by rw [← eh2];exact (Heap.set_getE _ _ _ _ (by simp;intro e;exact hid (e ▸ m1))).trans g1
 rw [eh2] at st st' hm2 l2
 obtain ⟨o1,o2,o3⟩:=hm.isS
 have stq:yh 4 h2 [.pointer (some ⟨q1,0,none⟩),.agg #[.int .i64 g.harts,d,r,t]]=some (undef,h2.set q1 (.blk [.int .i64 g.harts,d,r,t] true)):=ji g12 rfl rfl rfl (by simpa [Value.oneCell'] using ⟨o1.cell.2,o2.cell.2,o3.cell.2⟩)
 have gqZ:(h2.set q1 (.blk [.int .i64 g.harts,d,r,t] true)).get q1=_:=Heap.set_getS _ _ _ (by rw [g12];rfl)
 have hmZ:=hm2.set m1 (.blk [.int .i64 g.harts,d,r,t] true)
 have lZ:=l2.set' ho.2 (.blk [.int .i64 g.harts,d,r,t] true)
 obtain ⟨hZ,ehZ⟩:∃ x,h2.set q1 (.blk [.int .i64 g.harts,d,r,t] true)=x:=⟨_,rfl⟩
 rw [ehZ] at stq gqZ hmZ lZ
 have g':=hq hZ _ _ lZ hmZ.prc ⟨ok.devs,ok.ress⟩ (fun u hu=>by
  rcases List.mem_or_eq_of_mem_set hu with hu | rfl
  ·exact sz u hu
  ·exact szt)
 have hgt:=K9
 clear hq hmZ lZ l2 hm2 ok sz szt hm hb hold st h0l ho eh2 ehZ o1 o2 o3 g1 m1 m6
 replace g':=zb g';replace hid:=zb hid;replace hk:=zb hk;replace hne:=zb hne;replace hidn:=zb hidn;replace hgt:=zb hgt
 delta zq8 U7 U6
 repeat' (first | simp only [za,aR,aW,zf,zg,Int.reduceBEq,Int.reduceBNe,Nat.reduceBEq,Int.reduceLT,Int.reduceLE,Zt,K9, *] | with_reducible (first | refine kcd ?_ ?_ | refine kgd ?_ ?_ | refine kci ?_ ?_ | refine kgi ?_ ?_)<;>intro hc)
 exact g'.h
noncomputable def Ye:CCode:=(.seq (.rcond Kc [] 0 (.reg Kb []) .skip) zq8)
theorem wld_rest {h0 h:Heap}{n q1 q6 q8 q9:Nat}{L:List Nat}{g:Prg}{d r t:Value}{xs:List (List Value)}{k kind:Nat}{tk:Tsk}{tb:Value}{s:St}{x:List Value}
  (h0l:h0.le h) (ho:h0.next≤n∧h0.next≤q1) (hL:∀ i ∈ L,(h.get i).isSome=true) (m1:q1 ∈ L) (m6:q6 ∈ L) (m8:q8 ∈ L) (m9:q9 ∈ L) (hne:q1 < q6∧q6 < q8∧q8 < q9)
  (g1:h.get q1=some (.blk zP true)) (g6:h.get q6=some (.blk [.int .i64 g.harts,d,r,t] true)) (g8:h.get q8=some (.blk [str tk.name,.bool tk.handler,.int .i64 tk.hart,.int .i64 tk.prio,.int .i64 tk.line,tb] true)) (g9:h.get q9=some (.blk x true))
  (hm:WSt n L h g d r t xs) (hk:k < g.tasks.length) (hb:StsVB (Bx L [d,r,t]) h tb tk.body) (hbl:tk.body.length≤1000) (hx:StCB (Bx L [d,r,t]) h s x)
  (ok:g.ok) (sz:∀ t ∈ g.tasks,zr t.body≤50000) (szt:zr tk.body≤50000) (szs:vz s≤50000)
  {N:Nat}{vars:List Nat}{x0 x2 x4 x5 x10 x11 x12:Value}(Q:Value→Heap→Prop) (hq:∀ h' g' y,h0.le h' → PrC h' g' y→g'.ok→(∀ t ∈ g'.tasks,zr t.body≤100000)→Q (.agg y.toArray) h') :
  W Tryz.prog N vars Ye (zs7 1 true 4 Q) [x0,.pointer (some ⟨q1,0,none⟩),x2,.int .i64 (kind:Int),x4,x5,.pointer (some ⟨q6,0,none⟩),.int .i64 (k:Int),.pointer (some ⟨q8,0,none⟩),.pointer (some ⟨q9,0,none⟩),x10,x11,x12] h:=by
 have fin:=fun {vars:List Nat}{h:Heap}{tk:Tsk}{tb x9:Value}(h0l:h0.le h) g1 g6 g8 (hm:WSt n L h g d r t xs) hb szt=>@wld_end h0 h n q1 q6 q8 L g d r t xs k tk tb h0l ho m1 m6 hne.1 g1 g6 g8 hm hk hb ok (fun t ht=>Nat.le_trans (sz t ht) (by omega)) szt N vars x0 x2 (.int .i64 (kind:Int)) x4 x5 x9 x10 x11 x12 Q hq
 clear hq ok sz
 by_cases hc:4 < kind∧kind < 9
 ·have c1:(4:Int) < (kind:Int):=by omega
  have c2:(kind:Int) < 9:=by omega
  obtain ⟨va,ha,ap1,la,hmore⟩:=more_row hb hbl fun i hi=>⟨fun h=>by
   obtain ⟨o,ho⟩:=Option.isSome_iff_exists.1 (hL i h)
   have:=Heap.lt_of_get ho
   omega,fun w hw=>by
   simp only [List.mem_cons,List.not_mem_nil,or_false] at hw
   rcases hw with rfl | rfl | rfl
   ·exact OwnS.notOf_new (hm.rows.own (w,2,g.devs.map nmC) (by simp)) hi
   ·exact OwnS.notOf_new (hm.rows.own (w,2,g.ress.map nmC) (by simp)) hi
   ·exact OwnS.notOf_new (hm.rows.own (w,6,xs) (by simp)) hi⟩
  obtain ⟨vb,hb',ap2,lb,hvb⟩:=hmore hx
  obtain ⟨wa,wu,ww,rfl,t1,t2,t3⟩:=hx.cells
  have bs:=Xn hx.ones
  have g9a:=la.get g9
  have g8a:=la.get g8
  have g8b:=lb.get g8
  have ob:=StsVB.isS hvb
  obtain ⟨ca1,ca2⟩:=IsS.cell ob
  have st5:=zx (off:=5) g8b (by simp) ca1 ca2
  simp only [List.set_cons_zero,List.set_cons_succ] at st5
  obtain ⟨hc',ehc⟩:∃ x_,hb'.set q8 (.blk [str tk.name,.bool tk.handler,.int .i64 tk.hart,.int .i64 tk.prio,.int .i64 tk.line,vb] true)=x_:=⟨_,rfl⟩
  have hq8:h0.next≤q8:=by omega
  have lc:h0.le hc':=by rw [← ehc];exact (h0l.trans lb).set' hq8 _
  have g8c:hc'.get q8=some (.blk [str tk.name,.bool tk.handler,.int .i64 tk.hart,.int .i64 tk.prio,.int .i64 tk.line,vb] true):=by rw [← ehc];exact Heap.set_getS _ _ _ (by rw [g8b];rfl)
  have g1c:hc'.get q1=some (.blk zP true):=by rw [← ehc];exact (Heap.set_getE _ _ _ _ (by simp;omega)).trans (lb.get g1)
  have g6c:hc'.get q6=some (.blk [.int .i64 g.harts,d,r,t] true):=by rw [← ehc];exact (Heap.set_getE _ _ _ _ (by simp;omega)).trans (lb.get g6)
  have hmc:WSt n L hc' g d r t xs:=by rw [← ehc];exact (hm.le lb).set m8 _
  have hvc:StsVB (Bx L [d,r,t]) hc' vb (tk.body++[s]):=hvb.to (by rw [← ehc];exact Heap.toB_set _ fun i hb=>⟨fun e=>hb.1 (e ▸ m8),hb⟩)
  have szc:zr (tk.body++[s])≤100000:=by
   have:∀ l:List St,zr (l++[s])=zr l + vz s:=fun l=>by
    induction l with
    | nil=>simp [zr]
    | cons a r ih=>simp only [List.cons_append,zr,ih];omega
   rw [this];omega
  rw [ehc] at st5
  have g:=fun (vars:List Nat) (x9:Value)=>@fin vars hc' { tk with body:=tk.body++[s] } vb x9 lc g1c g6c g8c hmc hvc szc
  clear fin hmore hvb hmc hvc szc szt szs hx hb hm h0l hL lc g1 g6 t1 t2 t3 ob ca1 ca2 hq8 ehc g1c g6c g8c lb g9 hk m1 m6 m8 m9 ho
  replace g:=zb g;replace la:=zb la;replace hne:=zb hne;replace hbl:=zb hbl;replace hc:=zb hc
  delta Ye Kc Kb
  repeat' (first | simp only [za,aR,aW,zf,zg,Int.reduceBEq,Int.reduceBNe,Nat.reduceBEq,Int.reduceLT,Int.reduceLE,jm, *] | with_reducible (first | refine kcd ?_ ?_ | refine kgd ?_ ?_ | refine kci ?_ ?_ | refine kgi ?_ ?_)<;>intro hc)
  refine jr la.h.ext ?_
  repeat' (first | simp only [za,aR,aW,zf,zg,Int.reduceBEq,Int.reduceBNe,Nat.reduceBEq,Int.reduceLT,Int.reduceLE,jm, *] | with_reducible (first | refine kcd ?_ ?_ | refine kgd ?_ ?_ | refine kci ?_ ?_ | refine kgi ?_ ?_)<;>intro hc)
  exact g.h _ _
 ·have g:=fun (vars:List Nat) (x9:Value)=>@fin vars h tk tb x9 h0l g1 g6 g8 hm hb (by omega)
  clear fin hx hb hm h0l hL g1 g6 g8 g9 szt szs hbl hk m1 m6 m8 m9 ho
  replace g:=zb g;replace hne:=zb hne
  by_cases c1:(4:Int) < (kind:Int)
  ·have c2:¬ (kind:Int) < 9:=by omega
   clear hc
   delta Ye Kc Kb
   repeat' (first | simp only [za,aR,aW,zf,zg,Int.reduceBEq,Int.reduceBNe,Nat.reduceBEq,Int.reduceLT,Int.reduceLE, *] | with_reducible (first | refine kcd ?_ ?_ | refine kgd ?_ ?_ | refine kci ?_ ?_ | refine kgi ?_ ?_)<;>intro hc)
   exact g.h _ _
  ·clear hc
   delta Ye Kc Kb
   repeat' (first | simp only [za,aR,aW,zf,zg,Int.reduceBEq,Int.reduceBNe,Nat.reduceBEq,Int.reduceLT,Int.reduceLE, *] | with_reducible (first | refine kcd ?_ ?_ | refine kgd ?_ ?_ | refine kci ?_ ?_ | refine kgi ?_ ?_)<;>intro hc)
   exact g.h _ _
end Go.Eng.Sy
namespace Go.Eng.Sy
open Go Go.Eng Go.Proofs
structure WQ (h0:Heap) (n q1 p q5 q6 q8 q9:Nat):Prop where
 a:h0.next≤n
 b:h0.next≤q1
 c:q1 < p
 d:p < q5
 e:q5 < n
 f:n≤q6
 g:q6 < q8
 i:q8 < q9
abbrev LL (q1 p q5 q6 q8 q9:Nat):List Nat:=[q9,q8,q6,q5,p,q1]
structure WB (h0:Heap) (n q1 p q5 q6 q8 q9:Nat) (h:Heap) (raw:List Int) (g:Prg) (d r t:Value) (xs:List (List Value)) (tk:Tsk) (tb:Value):Prop where
 l0:h0.le h
 src:Src h p raw
 g1:h.get q1=some (.blk zP true)
 g5:h.get q5=some (.blk [zw,zw,.int .i64 0,zw,.bool true] true)
 g6:h.get q6=some (.blk [.int .i64 g.harts,d,r,t] true)
 g8:h.get q8=some (.blk [str tk.name,.bool tk.handler,.int .i64 tk.hart,.int .i64 tk.prio,.int .i64 tk.line,tb] true)
 g9:(h.get q9).isSome=true
 hm:WSt n (LL q1 p q5 q6 q8 q9) h g d r t xs
 hb:StsVB (Bx (LL q1 p q5 q6 q8 q9) [d,r,t]) h tb tk.body
section
variable {h0 h h' : Heap}{n q1 p q5 q6 q8 q9:Nat}{raw raw' : List Int}{g:Prg}{d r t:Value}{xs:List (List Value)}{tk:Tsk}{tb:Value}
theorem Src.some' (hs:Src h p raw):(h.get p).isSome=true:=by obtain ⟨v,hg,_⟩:=hs;rw [hg];rfl
theorem WB.hL (w:WB h0 n q1 p q5 q6 q8 q9 h raw g d r t xs tk tb):∀ i ∈ LL q1 p q5 q6 q8 q9,(h.get i).isSome=true:=fun i hi=>by
 simp only [List.mem_cons,List.not_mem_nil,or_false] at hi
 rcases hi with rfl | rfl | rfl | rfl | rfl | rfl
 ·exact w.g9
 ·rw [w.g8];rfl
 ·rw [w.g6];rfl
 ·rw [w.g5];rfl
 ·exact w.src.some'
 ·rw [w.g1];rfl
theorem WB.but (q:WQ h0 n q1 p q5 q6 q8 q9) (w:WB h0 n q1 p q5 q6 q8 q9 h raw g d r t xs tk tb) (hl:h.leBut p h') (hs:Src h' p raw'):WB h0 n q1 p q5 q6 q8 q9 h' raw' g d r t xs tk tb:=by
 obtain ⟨qa,qb,qc,qd,qe,qf,qg,qi⟩:=q
 exact ⟨w.l0.but' (by omega) hl,hs,hl.keep (by omega) w.g1,hl.keep (by omega) w.g5,hl.keep (by omega) w.g6,hl.keep (by omega) w.g8,by rw [hl.get q9 (by omega) w.g9];exact w.g9,w.hm.but (by simp) hl,w.hb.to (hl.toB fun id hb=>⟨fun e=>hb.1 (by simp [e]),hb⟩)⟩
theorem WB.le (w:WB h0 n q1 p q5 q6 q8 q9 h raw g d r t xs tk tb) (hl:h.le h'):WB h0 n q1 p q5 q6 q8 q9 h' raw g d r t xs tk tb :=
 ⟨w.l0.trans hl,w.src.le hl,hl.get w.g1,hl.get w.g5,hl.get w.g6,hl.get w.g8,by rw [hl.getE q9 w.g9];exact w.g9,w.hm.le hl,w.hb.to (hl.toB fun id hb=>hb)⟩
theorem toL {i:Nat}(hi:i ∈ LL q1 p q5 q6 q8 q9){vs:List Value}(o:AObj):Heap.toB (Bx (LL q1 p q5 q6 q8 q9) vs) (Bx (LL q1 p q5 q6 q8 q9) vs) h (h.set i o):=Heap.toB_set _ fun j hb=>⟨fun e=>hb.1 (e ▸ hi),hb⟩
theorem WB.set9 (q:WQ h0 n q1 p q5 q6 q8 q9) (w:WB h0 n q1 p q5 q6 q8 q9 h raw g d r t xs tk tb) (c:List Value):WB h0 n q1 p q5 q6 q8 q9 (h.set q9 (.blk c true)) raw g d r t xs tk tb∧(h.set q9 (.blk c true)).get q9=some (.blk c true):=by
 obtain ⟨qa,qb,qc,qd,qe,qf,qg,qi⟩:=q
 have hg:(h.set q9 (.blk c true)).get q9=some (.blk c true):=Heap.set_getS _ _ _ w.g9
 exact ⟨⟨w.l0.set' (by omega) _,w.src.set (by omega) _,(Heap.set_getE _ _ _ _ (by simp;omega)).trans w.g1,(Heap.set_getE _ _ _ _ (by simp;omega)).trans w.g5,(Heap.set_getE _ _ _ _ (by simp;omega)).trans w.g6,(Heap.set_getE _ _ _ _ (by simp;omega)).trans w.g8,by rw [hg];rfl,w.hm.set (by simp) _,w.hb.to (toL (by simp) _)⟩,hg⟩
theorem WB.set8 (q:WQ h0 n q1 p q5 q6 q8 q9) (w:WB h0 n q1 p q5 q6 q8 q9 h raw g d r t xs tk tb) (tk' : Tsk) (hb:tk'.body=tk.body):WB h0 n q1 p q5 q6 q8 q9 (h.set q8 (.blk [str tk'.name,.bool tk'.handler,.int .i64 tk'.hart,.int .i64 tk'.prio,.int .i64 tk'.line,tb] true)) raw g d r t xs tk' tb:=by
 obtain ⟨qa,qb,qc,qd,qe,qf,qg,qi⟩:=q
 exact ⟨w.l0.set' (by omega) _,w.src.set (by omega) _,(Heap.set_getE _ _ _ _ (by simp;omega)).trans w.g1,(Heap.set_getE _ _ _ _ (by simp;omega)).trans w.g5,(Heap.set_getE _ _ _ _ (by simp;omega)).trans w.g6,Heap.set_getS _ _ _ (by rw [w.g8];rfl),by rw [Heap.set_getE _ _ _ _ (by simp;omega)];exact w.g9,w.hm.set (by simp) _,by rw [hb];exact w.hb.to (toL (by simp) _)⟩
theorem WB.set6 (q:WQ h0 n q1 p q5 q6 q8 q9) (w:WB h0 n q1 p q5 q6 q8 q9 h raw g d r t xs tk tb) (z:Int):WB h0 n q1 p q5 q6 q8 q9 (h.set q6 (.blk [.int .i64 z,d,r,t] true)) raw { g with harts:=z } d r t xs tk tb:=by
 obtain ⟨qa,qb,qc,qd,qe,qf,qg,qi⟩:=q
 have hm:=w.hm.set (p:=q6) (by simp) (.blk [.int .i64 z,d,r,t] true)
 exact ⟨w.l0.set' (by omega) _,w.src.set (by omega) _,(Heap.set_getE _ _ _ _ (by simp;omega)).trans w.g1,(Heap.set_getE _ _ _ _ (by simp;omega)).trans w.g5,Heap.set_getS _ _ _ (by rw [w.g6];rfl),(Heap.set_getE _ _ _ _ (by simp;omega)).trans w.g8,by rw [Heap.set_getE _ _ _ _ (by simp;omega)];exact w.g9,⟨hm.rows,hm.apart,hm.hts,hm.dl,hm.rl,hm.tl⟩,w.hb.to (toL (by simp) _)⟩
end
structure WZ (g:Prg) (k:Nat) (tk:Tsk) (s:St):Prop where
 hk:k < g.tasks.length
 hbl:tk.body.length≤1000
 ok:g.ok
 sz:∀ t ∈ g.tasks,zr t.body≤50000
 szt:zr tk.body≤50000
 szs:vz s≤40000
theorem Yp {h0 h:Heap}{n q1 p q5 q6 q8 q9:Nat}{raw:List Int}{g:Prg}{d r t:Value}{xs:List (List Value)}{k kind:Nat}{tk:Tsk}{tb:Value}{s:St}{x:List Value}
  (q:WQ h0 n q1 p q5 q6 q8 q9) (w:WB h0 n q1 p q5 q6 q8 q9 h raw g d r t xs tk tb) (g9:h.get q9=some (.blk x true)) (hx:StCB (Bx (LL q1 p q5 q6 q8 q9) [d,r,t]) h s x) (z:WZ g k tk s)
  {N:Nat}{vars:List Nat}{x0 x2 x4 x5 x10 x11 x12:Value}(Q:Value→Heap→Prop) (hq:∀ h' g' y,h0.le h' → PrC h' g' y→g'.ok→(∀ t ∈ g'.tasks,zr t.body≤100000)→Q (.agg y.toArray) h') :
  W Tryz.prog N vars Ye (zs7 1 true 4 Q) [x0,.pointer (some ⟨q1,0,none⟩),x2,.int .i64 (kind:Int),x4,x5,.pointer (some ⟨q6,0,none⟩),.int .i64 (k:Int),.pointer (some ⟨q8,0,none⟩),.pointer (some ⟨q9,0,none⟩),x10,x11,x12] h :=
 wld_rest w.l0 ⟨q.a,q.b⟩ w.hL (by simp) (by simp) (by simp) (by simp) ⟨by have:=q.c;have:=q.d;have:=q.e;have:=q.f;omega,q.g,q.i⟩ w.g1 w.g6 w.g8 g9 w.hm z.hk w.hb z.hbl hx z.ok z.sz z.szt (Nat.le_trans z.szs (by omega)) Q hq
noncomputable def Qv:CCode:=(.seq (.seq (.reg uy [(12,0)]) (.block 2 (.rcond uw [] 0 (.reg uv []) (.rcond uu [] 0 (.seq (.reg ut []) (.reg us [])) (.rcond ur [] 0 (.seq (.reg uq []) (.reg uo [])) (.rcond um [] 0 (.reg ul []) (.rcond uk [] 0 (.reg uj []) (.rcond ui [] 0 (.reg uh []) (.rcond ug [] 0 (.seq (.reg uf [(11,0)]) (.block 3 (.loop ya9))) (.rcond ue [] 0 (.reg ud []) .skip)))))))))) Ye)
def Kn (kind:Nat):Prop:=∀ {h0 h:Heap}{n q1 p q5 q6 q8 q9:Nat}{raw:List Int}{g:Prg}{d r t:Value}{xs:List (List Value)}{k:Nat}{tk:Tsk}{tb:Value}{s:St}{x:List Value}
  (q:WQ h0 n q1 p q5 q6 q8 q9) (w:WB h0 n q1 p q5 q6 q8 q9 h raw g d r t xs tk tb) (g9:h.get q9=some (.blk x true)) (hx:StCB (Bx (LL q1 p q5 q6 q8 q9) [d,r,t]) h s x) (z:WZ g k tk s) (szs:vz s≤10000) (bd:g.devs.length≤1000) (br:g.ress.length≤1000)
  {N:Nat}{vars:List Nat}{x0 x4 x10 x11 x12:Value}(Q:Value→Heap→Prop) (hq:∀ h' g' y,h0.le h' → PrC h' g' y→g'.ok→(∀ t ∈ g'.tasks,zr t.body≤100000)→Q (.agg y.toArray) h'),
  W Tryz.prog N vars Qv (zs7 1 true 4 Q) [x0,.pointer (some ⟨q1,0,none⟩),.pointer (some ⟨p,0,none⟩),.int .i64 (kind:Int),x4,.pointer (some ⟨q5,0,none⟩),.pointer (some ⟨q6,0,none⟩),.int .i64 (k:Int),.pointer (some ⟨q8,0,none⟩),.pointer (some ⟨q9,0,none⟩),x10,x11,x12] h
theorem wld_8:Kn 8:=by
 intro h0 h n q1 p q5 q6 q8 q9 raw g d r t xs k tk tb s x q w g9 hx z szs bd br N vars x0 x4 x10 x11 x12 Q hq
 have zk:((8:Nat):Int)=8:=rfl
 have fin:=fun vars x2 x5 x12=>Yp (kind:=8) q w g9 hx z (N:=N) (vars:=vars) (x0:=x0) (x2:=x2) (x4:=x4) (x5:=x5) (x10:=x10) (x11:=x11) (x12:=x12) Q hq
 clear hq w q hx z bd br
 rw [zk] at fin
 replace fin:=zb fin
 delta Qv uy uw uv uu ut us ur uq uo um ul uk uj ui uh ug uf ue ud
 repeat' (first | simp only [za,aR,aW,zf,zg,Int.reduceBEq,Int.reduceBNe,Nat.reduceBEq,Int.reduceLT,Int.reduceLE, *] | with_reducible (first | refine kcd ?_ ?_ | refine kgd ?_ ?_ | refine kci ?_ ?_ | refine kgi ?_ ?_)<;>intro hc)
 exact fin.h _ _ _ _
theorem wld_9:Kn 9:=by
 intro h0 h n q1 p q5 q6 q8 q9 raw g d r t xs k tk tb s x q w g9 hx z szs bd br N vars x0 x4 x10 x11 x12 Q hq
 have zk:((9:Nat):Int)=9:=rfl
 have fin:=fun vars x2 x5 x12=>Yp (kind:=9) q w g9 hx z (N:=N) (vars:=vars) (x0:=x0) (x2:=x2) (x4:=x4) (x5:=x5) (x10:=x10) (x11:=x11) (x12:=x12) Q hq
 clear hq w q hx z bd br
 rw [zk] at fin
 replace fin:=zb fin
 delta Qv uy uw uv uu ut us ur uq uo um ul uk uj ui uh ug uf ue ud
 repeat' (first | simp only [za,aR,aW,zf,zg,Int.reduceBEq,Int.reduceBNe,Nat.reduceBEq,Int.reduceLT,Int.reduceLE, *] | with_reducible (first | refine kcd ?_ ?_ | refine kgd ?_ ?_ | refine kci ?_ ?_ | refine kgi ?_ ?_)<;>intro hc)
 exact fin.h _ _ _ _
theorem wld_0:Kn 0:=by
 intro h0 h n q1 p q5 q6 q8 q9 raw g d r t xs k tk tb s x q w g9 hx z szs bd br N vars x0 x4 x10 x11 x12 Q hq
 have zk:((0:Nat):Int)=0:=rfl
 have src:=w.src
 have fin:=fun h' (hl:h.leBut p h') (hs:Src h' p (ze raw 7).2) (v:Int) vars x2 x5 x12=>Yp (kind:=0) (g:={ g with harts:=v }) (s:=s) q ((w.but q hl hs).set6 q v) ((Heap.set_getE _ _ _ _ (by have:=q.g;have:=q.i;simp;omega)).trans (hl.keep (by have:=q.d;have:=q.e;have:=q.f;have:=q.g;have:=q.i;omega) g9)) ((hx.to (hl.toB fun id hb=>⟨fun e=>hb.1 (by simp [e]),hb⟩)).to (toL (by simp) _)) ⟨z.hk,z.hbl,⟨z.ok.devs,z.ok.ress⟩,z.sz,z.szt,z.szs⟩ (N:=N) (vars:=vars) (x0:=x0) (x2:=x2) (x4:=x4) (x5:=x5) (x10:=x10) (x11:=x11) (x12:=x12) Q hq
 have g6:=fun h' (hl:h.leBut p h')=>hl.keep (i:=q6) (by have:=q.d;have:=q.e;have:=q.f;omega) w.g6
 clear hq w q hx z bd br g9
 rw [zk] at fin ⊢
 replace fin:=zb fin;replace g6:=zb g6;replace src:=zb src
 delta Qv uy uw uv uu ut us ur uq uo um ul uk uj ui uh ug uf ue ud
 repeat' (first | simp only [za,aR,aW,zf,zg,Int.reduceBEq,Int.reduceBNe,Nat.reduceBEq,Int.reduceLT,Int.reduceLE, *] | with_reducible (first | refine kcd ?_ ?_ | refine kgd ?_ ?_ | refine kci ?_ ?_ | refine kgi ?_ ?_)<;>intro hc)
 refine yf (n:=7) src.h (by omega) (by omega) _ fun h2 l2 _ hs2=>?_
 have f6:=g6.h h2 l2
 have st:=fun v=>zx (v:=.int .i64 v) (off:=0) f6 (by simp) rfl rfl
 simp only [List.set_cons_zero] at st
 have f:=fin.h h2 l2 hs2
 clear fin g6 l2 hs2
 replace f:=zb f
 repeat' (first | simp only [za,aR,aW,zf,zg,Int.reduceBEq,Int.reduceBNe,Nat.reduceBEq,Int.reduceLT,Int.reduceLE, *] | with_reducible (first | refine kcd ?_ ?_ | refine kgd ?_ ?_ | refine kci ?_ ?_ | refine kgi ?_ ?_)<;>intro hc)
 exact f.h _ _ _ _ _
end Go.Eng.Sy
namespace Go.Eng.Sy
open Go Go.Eng Go.Proofs
structure WA (h0:Heap) (n q1 p q5 q6 q8 q9:Nat) (h:Heap) (raw:List Int) (g:Prg) (d r t:Value) (xs:List (List Value)) (tk:Tsk) (tb:Value) (s:St) (x:List Value):Prop where
 w:WB h0 n q1 p q5 q6 q8 q9 h raw g d r t xs tk tb
 g9:h.get q9=some (.blk x true)
 hx:StCB (Bx (LL q1 p q5 q6 q8 q9) [d,r,t]) h s x
section
variable {h0 h h' : Heap}{n q1 p q5 q6 q8 q9:Nat}{raw raw' : List Int}{g:Prg}{d r t:Value}{xs:List (List Value)}{tk:Tsk}{tb:Value}{s:St}{x:List Value}
theorem WA.but (q:WQ h0 n q1 p q5 q6 q8 q9) (a:WA h0 n q1 p q5 q6 q8 q9 h raw g d r t xs tk tb s x) (hl:h.leBut p h') (hs:Src h' p raw'):WA h0 n q1 p q5 q6 q8 q9 h' raw' g d r t xs tk tb s x :=
 ⟨a.w.but q hl hs,hl.keep (by have:=q.d;have:=q.e;have:=q.f;have:=q.g;have:=q.i;omega) a.g9,a.hx.to (hl.toB fun id hb=>⟨fun e=>hb.1 (by simp [e]),hb⟩)⟩
theorem WA.le (a:WA h0 n q1 p q5 q6 q8 q9 h raw g d r t xs tk tb s x) (hl:h.le h'):WA h0 n q1 p q5 q6 q8 q9 h' raw g d r t xs tk tb s x :=
 ⟨a.w.le hl,hl.get a.g9,a.hx.to (hl.toB fun id hb=>hb)⟩
theorem WA.set8 (q:WQ h0 n q1 p q5 q6 q8 q9) (a:WA h0 n q1 p q5 q6 q8 q9 h raw g d r t xs tk tb s x) (tk' : Tsk) (hb:tk'.body=tk.body):WA h0 n q1 p q5 q6 q8 q9 (h.set q8 (.blk [str tk'.name,.bool tk'.handler,.int .i64 tk'.hart,.int .i64 tk'.prio,.int .i64 tk'.line,tb] true)) raw g d r t xs tk' tb s x :=
 ⟨a.w.set8 q tk' hb,(Heap.set_getE _ _ _ _ (by have:=q.i;simp;omega)).trans a.g9,a.hx.to (toL (by simp) _)⟩
theorem WA.fin (q:WQ h0 n q1 p q5 q6 q8 q9) (a:WA h0 n q1 p q5 q6 q8 q9 h raw g d r t xs tk tb s x){k:Nat}(z:WZ g k tk s){kind:Nat}
  {N:Nat}{vars:List Nat}{x0 x2 x4 x5 x10 x11 x12:Value}(Q:Value→Heap→Prop) (hq:∀ h' g' y,h0.le h' → PrC h' g' y→g'.ok→(∀ t ∈ g'.tasks,zr t.body≤100000)→Q (.agg y.toArray) h') :
  W Tryz.prog N vars Ye (zs7 1 true 4 Q) [x0,.pointer (some ⟨q1,0,none⟩),x2,.int .i64 (kind:Int),x4,x5,.pointer (some ⟨q6,0,none⟩),.int .i64 (k:Int),.pointer (some ⟨q8,0,none⟩),.pointer (some ⟨q9,0,none⟩),x10,x11,x12] h :=
 Yp q a.w a.g9 a.hx z Q hq
theorem WB.fresh (w:WB h0 n q1 p q5 q6 q8 q9 h raw g d r t xs tk tb):∀ id,h.next≤id→Bx (LL q1 p q5 q6 q8 q9) [d,r,t] id:=fun i hi=>⟨fun hm=>by
  obtain ⟨o,ho⟩:=Option.isSome_iff_exists.1 (w.hL i hm)
  have:=Heap.lt_of_get ho
  omega,fun v hv=>by
  simp only [List.mem_cons,List.not_mem_nil,or_false] at hv
  rcases hv with rfl | rfl | rfl
  ·exact OwnS.notOf_new (w.hm.rows.own (v,2,g.devs.map nmC) (by simp)) hi
  ·exact OwnS.notOf_new (w.hm.rows.own (v,2,g.ress.map nmC) (by simp)) hi
  ·exact OwnS.notOf_new (w.hm.rows.own (v,6,xs) (by simp)) hi⟩
end
theorem wld_1:Kn 1:=by
 intro h0 h n q1 p q5 q6 q8 q9 raw g d r t xs k tk tb s x q w g9 hx z szs bd br N vars x0 x4 x10 x11 x12 Q hq
 have zk:((1:Nat):Int)=1:=rfl
 have a:WA h0 n q1 p q5 q6 q8 q9 h raw g d r t xs tk tb s x:=⟨w,g9,hx⟩
 have src:=w.src
 clear w g9 hx bd br szs
 rw [zk]
 replace hq:=Hid.mk hq
 replace a:=zb a;replace q:=zb q;replace z:=zb z;replace src:=zb src
 delta Qv uy uw uv uu ut us ur uq uo um ul uk uj ui uh ug uf ue ud
 repeat' (first | simp only [za,aR,aW,zf,zg,Int.reduceBEq,Int.reduceBNe,Nat.reduceBEq,Int.reduceLT,Int.reduceLE, *] | with_reducible (first | refine kcd ?_ ?_ | refine kgd ?_ ?_ | refine kci ?_ ?_ | refine kgi ?_ ?_)<;>intro hc)
 refine zn7 src.h _ fun h2 l2 hs2=>?_
 have a2:=a.h.but q.h l2 hs2
 have st:=zx (v:=str (zn8 raw)) (off:=0) a2.w.g8 (by simp) rfl rfl
 simp only [List.set_cons_zero] at st
 have a3:=a2.set8 q.h { tk with name:=zn8 raw } rfl
 obtain ⟨h3,eh3⟩:∃ x,h2.set q8 (.blk [str (zn8 raw),.bool tk.handler,.int .i64 tk.hart,.int .i64 tk.prio,.int .i64 tk.line,tb] true)=x:=⟨_,rfl⟩
 have a3:WA h0 n q1 p q5 q6 q8 q9 h3 _ g d r t xs { tk with name:=zn8 raw } tb s x:=eh3 ▸ a3
 rw [eh3] at st
 clear a a2 l2 hs2 src eh3
 replace a3:=zb a3
 repeat' (first | simp only [za,aR,aW,zf,zg,Int.reduceBEq,Int.reduceBNe,Nat.reduceBEq,Int.reduceLT,Int.reduceLE, *] | with_reducible (first | refine kcd ?_ ?_ | refine kgd ?_ ?_ | refine kci ?_ ?_ | refine kgi ?_ ?_)<;>intro hc)
 refine yf (n:=10) a3.h.w.src (by omega) (by omega) _ fun h4 l4 _ hs4=>?_
 have a4:=a3.h.but q.h l4 hs4
 have st2:=fun v=>zx (v:=.int .i64 v) (off:=4) a4.w.g8 (by simp) rfl rfl
 simp only [List.set_cons_zero,List.set_cons_succ] at st2
 have f:=fun (v:Int) vars x2 x5 x12=>(a4.set8 q.h { tk with name:=zn8 raw,line:=v } rfl).fin q.h ⟨z.h.hk,z.h.hbl,z.h.ok,z.h.sz,z.h.szt,z.h.szs⟩ (kind:=1) (N:=N) (vars:=vars) (x0:=x0) (x2:=x2) (x4:=x4) (x5:=x5) (x10:=x10) (x11:=x11) (x12:=x12) Q hq.h
 rw [zk] at f
 clear a3 a4 l4 hs4 hq z q
 replace f:=zb f
 repeat' (first | simp only [za,aR,aW,zf,zg,Int.reduceBEq,Int.reduceBNe,Nat.reduceBEq,Int.reduceLT,Int.reduceLE, *] | with_reducible (first | refine kcd ?_ ?_ | refine kgd ?_ ?_ | refine kci ?_ ?_ | refine kgi ?_ ?_)<;>intro hc)
 exact f.h _ _ _ _ _
theorem wld_2:Kn 2:=by
 intro h0 h n q1 p q5 q6 q8 q9 raw g d r t xs k tk tb s x q w g9 hx z szs bd br N vars x0 x4 x10 x11 x12 Q hq
 have zk:((2:Nat):Int)=2:=rfl
 have a:WA h0 n q1 p q5 q6 q8 q9 h raw g d r t xs tk tb s x:=⟨w,g9,hx⟩
 have src:=w.src
 clear w g9 hx bd br szs
 rw [zk]
 replace hq:=Hid.mk hq
 replace a:=zb a;replace q:=zb q;replace z:=zb z;replace src:=zb src
 delta Qv uy uw uv uu ut us ur uq uo um ul uk uj ui uh ug uf ue ud
 repeat' (first | simp only [za,aR,aW,zf,zg,Int.reduceBEq,Int.reduceBNe,Nat.reduceBEq,Int.reduceLT,Int.reduceLE, *] | with_reducible (first | refine kcd ?_ ?_ | refine kgd ?_ ?_ | refine kci ?_ ?_ | refine kgi ?_ ?_)<;>intro hc)
 refine yf (n:=6) src.h (by omega) (by omega) _ fun h2 l2 _ hs2=>?_
 obtain ⟨hv,ehv⟩:∃ v,IntKind.i64.wrap (((ze raw 6).1:Int) - 1)=v:=⟨_,rfl⟩
 have a2:=a.h.but q.h l2 hs2
 have st:=zx (v:=.int .i64 hv) (off:=2) a2.w.g8 (by simp) rfl rfl
 simp only [List.set_cons_zero,List.set_cons_succ] at st
 have a3:=a2.set8 q.h { tk with hart:=hv } rfl
 obtain ⟨h3,eh3⟩:∃ x,h2.set q8 (.blk [str tk.name,.bool tk.handler,.int .i64 hv,.int .i64 tk.prio,.int .i64 tk.line,tb] true)=x:=⟨_,rfl⟩
 have a3:WA h0 n q1 p q5 q6 q8 q9 h3 _ g d r t xs { tk with hart:=hv } tb s x:=eh3 ▸ a3
 rw [eh3] at st
 clear a a2 l2 hs2 src eh3
 replace a3:=zb a3
 repeat' (first | simp only [za,aR,aW,zf,zg,Int.reduceBEq,Int.reduceBNe,Nat.reduceBEq,Int.reduceLT,Int.reduceLE, *] | with_reducible (first | refine kcd ?_ ?_ | refine kgd ?_ ?_ | refine kci ?_ ?_ | refine kgi ?_ ?_)<;>intro hc)
 refine yf (n:=10) a3.h.w.src (by omega) (by omega) _ fun h4 l4 _ hs4=>?_
 have a4:=a3.h.but q.h l4 hs4
 have st2:=fun v=>zx (v:=.int .i64 v) (off:=3) a4.w.g8 (by simp) rfl rfl
 simp only [List.set_cons_zero,List.set_cons_succ] at st2
 have f:=fun (v:Int) vars x2 x5 x12=>(a4.set8 q.h { tk with hart:=hv,prio:=v } rfl).fin q.h ⟨z.h.hk,z.h.hbl,z.h.ok,z.h.sz,z.h.szt,z.h.szs⟩ (kind:=2) (N:=N) (vars:=vars) (x0:=x0) (x2:=x2) (x4:=x4) (x5:=x5) (x10:=x10) (x11:=x11) (x12:=x12) Q hq.h
 rw [zk] at f
 clear a3 a4 l4 hs4 hq z q
 replace f:=zb f
 repeat' (first | simp only [za,aR,aW,zf,zg,Int.reduceBEq,Int.reduceBNe,Nat.reduceBEq,Int.reduceLT,Int.reduceLE, *] | with_reducible (first | refine kcd ?_ ?_ | refine kgd ?_ ?_ | refine kci ?_ ?_ | refine kgi ?_ ?_)<;>intro hc)
 exact f.h _ _ _ _ _
end Go.Eng.Sy
namespace Go.Eng.Sy
open Go Go.Eng Go.Proofs
theorem StsVB.new1 {B:Nat→Prop}{h:Heap}{e:St}{x:List Value}(hx:StCB B h e x) (hB:B h.next):StsVB B (h.alloc (.blk x true)) (.slice (some ⟨h.next,0,none⟩) 1 7) [e]:=by
 refine ⟨[x],.inr ⟨h.next,0,rfl,.inr ⟨hB,?_⟩⟩,by simp,x,[],rfl,hx.to (((Heap.le.refl h).alloc _).toB fun _ h=>h),rfl⟩
 rcases SlV.new h (s:=7) (xs:=[x]) (by simpa using hx.ones.1) (cells:=x) (by simp) rfl with ⟨e,_⟩ | ⟨id,off,e,ha⟩
 ·cases e
 ·cases e
  rcases ha with ha | ha
  ·cases ha
  ·exact ha
theorem ExsVB.new1 {B:Nat→Prop}{h:Heap}{e:Ex}{x:List Value}(hx:ExCB B h e x) (hB:B h.next):ExsVB B (h.alloc (.blk x true)) (.slice (some ⟨h.next,0,none⟩) 1 5) [e]:=by
 refine ⟨[x],.inr ⟨h.next,0,rfl,.inr ⟨hB,?_⟩⟩,by simp,x,[],rfl,hx.to (((Heap.le.refl h).alloc _).toB fun _ h=>h),rfl⟩
 rcases SlV.new h (s:=5) (xs:=[x]) (by simpa using hx.ones.1) (cells:=x) (by simp) rfl with ⟨e,_⟩ | ⟨id,off,e,ha⟩
 ·cases e
 ·cases e
  rcases ha with ha | ha
  ·cases ha
  ·exact ha
section
variable {h0 h h' : Heap}{n q1 p q5 q6 q8 q9:Nat}{raw raw' : List Int}{g:Prg}{d r t:Value}{xs:List (List Value)}{tk:Tsk}{tb:Value}{s:St}{x:List Value}
theorem WA.row (q:WQ h0 n q1 p q5 q6 q8 q9) (a:WA h0 n q1 p q5 q6 q8 q9 h raw g d r t xs tk tb s x){g' : Prg}{d' r' : Value}(hg:g'.harts=g.harts) (hm:WSt n (LL q1 p q5 q6 q8 q9) h' g' d' r' t xs)
  (tbb:Heap.toB (Bx (LL q1 p q5 q6 q8 q9) [d,r,t]) (Bx (LL q1 p q5 q6 q8 q9) [d',r',t]) h h') (keep:∀ i,i ∈ LL q1 p q5 q6 q8 q9∨i < n→(h.get i).isSome=true→h'.get i=h.get i) (nx:h.next≤h'.next) :
  h'.get q6=some (.blk [.int .i64 g.harts,d,r,t] true)∧WA h0 n q1 p q5 q6 q8 q9 (h'.set q6 (.blk [.int .i64 g.harts,d',r',t] true)) raw g' d' r' t xs tk tb s x:=by
 obtain ⟨qa,qb,qc,qd,qe,qf,qg,qi⟩:=q
 have kp:∀ {i:Nat}{o:AObj},i ∈ LL q1 p q5 q6 q8 q9∨i < n→h.get i=some o→h'.get i=some o:=fun hi ho=>by rw [keep _ hi (by rw [ho];rfl)];exact ho
 have g6:=kp (.inl (by simp)) a.w.g6
 refine ⟨g6,⟨Heap.le.set' ⟨fun i o ho=>kp (.inr (by have:=Heap.lt_of_get ho;omega)) (a.w.l0.get ho),Nat.le_trans a.w.l0.next nx⟩ (by omega) _,?_,(Heap.set_getE _ _ _ _ (by simp;omega)).trans (kp (.inl (by simp)) a.w.g1),(Heap.set_getE _ _ _ _ (by simp;omega)).trans (kp (.inl (by simp)) a.w.g5),by rw [hg];exact Heap.set_getS _ _ _ (by rw [g6];rfl),(Heap.set_getE _ _ _ _ (by simp;omega)).trans (kp (.inl (by simp)) a.w.g8),by rw [Heap.set_getE _ _ _ _ (by simp;omega),kp (.inl (by simp)) a.g9];rfl,hm.set (by simp) _,(a.w.hb.to tbb).to (toL (by simp) _)⟩,(Heap.set_getE _ _ _ _ (by simp;omega)).trans (kp (.inl (by simp)) a.g9),(a.hx.to tbb).to (toL (by simp) _)⟩
 obtain ⟨v,s1,s2,s3⟩:=a.w.src
 exact Src.set ⟨v,kp (.inl (by simp)) s1,s2.to fun id cs own hb hg=>⟨hb,kp (.inr (by have:id < p:=hb;omega)) hg⟩,s3⟩ (by omega) _
end
theorem wld_3:Kn 3:=by
 intro h0 h n q1 p q5 q6 q8 q9 raw g d r t xs k tk tb s x q w g9 hx z szs bd br N vars x0 x4 x10 x11 x12 Q hq
 have zk:((3:Nat):Int)=3:=rfl
 have hqp:(q6 == p)=false:=by have:=q.d;have:=q.e;have:=q.f;simp;omega
 have a:WA h0 n q1 p q5 q6 q8 q9 h raw g d r t xs tk tb s x:=⟨w,g9,hx⟩
 have src:=w.src
 clear w g9 hx br szs
 rw [zk]
 replace hq:=Hid.mk hq
 replace a:=zb a;replace q:=zb q;replace z:=zb z;replace src:=zb src;replace bd:=zb bd
 delta Qv uy uw uv uu ut us ur uq uo um ul uk uj ui uh ug uf ue ud
 repeat' (first | simp only [za,aR,aW,zf,zg,Int.reduceBEq,Int.reduceBNe,Nat.reduceBEq,Int.reduceLT,Int.reduceLE, *] | with_reducible (first | refine kcd ?_ ?_ | refine kgd ?_ ?_ | refine kci ?_ ?_ | refine kgi ?_ ?_)<;>intro hc)
 refine zn7 src.h _ fun h2 l2 hs2=>jw l2 ?_
 have a2:=a.h.but q.h l2 hs2
 have nl:=zg8 raw
 obtain ⟨nm,hnm⟩:∃ m,zn8 raw=m:=⟨_,rfl⟩
 rw [hnm] at nl
 rw [hnm]
 clear a l2 src hnm
 replace a2:=zb a2;replace hs2:=zb hs2;replace nl:=zb nl
 repeat' (first | simp only [za,aR,aW,zf,zg,Int.reduceBEq,Int.reduceBNe,Nat.reduceBEq,Int.reduceLT,Int.reduceLE, *] | with_reducible (first | refine kcd ?_ ?_ | refine kgd ?_ ?_ | refine kci ?_ ?_ | refine kgi ?_ ?_)<;>intro hc)
 refine yf (n:=5) hs2.h (by omega) (by omega) _ fun h3 l3 _ hs3=>jw l3 ?_
 have hlt:=z8 hs2.h.in (n:=5) (by omega)
 have a3:=a2.h.but q.h l3 hs3
 obtain ⟨kd,hkd⟩:∃ m,(ze (ze raw 10).2 5).1=m:=⟨_,rfl⟩
 rw [hkd] at hlt
 rw [hkd]
 have f6:=a3.w.g6
 have hn3:n≤h3.next:=by have:=Heap.lt_of_get f6;have:=q.h.f;omega
 obtain ⟨d',h4,e1,hm4,tbb,keep,nx⟩:=a3.w.hm.dev hn3 a3.w.hL bd.h ⟨nm,(kd:Int)⟩
 have e1:jj 2 24 (h3.alloc (.blk [str nm,.int .i64 (kd:Int)] true)) [d,.slice (some ⟨h3.next,0,none⟩) 1 2]=some (d',h4):=e1
 obtain ⟨f4,a4⟩:=a3.row q.h (g':={ g with devs:=g.devs++[⟨nm,(kd:Int)⟩] }) rfl hm4 tbb keep nx
 obtain ⟨ca1,ca2⟩:=hm4.isS.1.cell
 have st:=zx (off:=1) f4 (by simp) ca1 ca2
 simp only [List.set_cons_zero,List.set_cons_succ] at st
 have ok' : ({ g with devs:=g.devs++[⟨nm,(kd:Int)⟩] }:Prg).ok:=⟨fun y hy=>by
  rcases List.mem_append.1 hy with hy | hy
  ·exact z.h.ok.devs y hy
  ·rw [List.mem_singleton.1 hy];exact ⟨by show inI (kd:Int);unfold inI;omega,nl.h⟩,z.h.ok.ress⟩
 have f:=fun vars x2 x5 x12=>a4.fin q.h ⟨z.h.hk,z.h.hbl,ok',z.h.sz,z.h.szt,z.h.szs⟩ (kind:=3) (N:=N) (vars:=vars) (x0:=x0) (x2:=x2) (x4:=x4) (x5:=x5) (x10:=x10) (x11:=x11) (x12:=x12) Q hq.h
 rw [zk] at f
 have b1:=Jb nm (kd:Int)
 have b2:=bs_nm nm (kd:Int)
 clear a2 a3 hs2 l3 hs3 hq z q bd hm4 tbb keep nx f4 a4 ca1 ca2 ok' hn3 hkd hlt nl
 replace f:=zb f
 repeat' (first | simp only [za,aR,aW,zf,zg,Int.reduceBEq,Int.reduceBNe,Nat.reduceBEq,Int.reduceLT,Int.reduceLE, *] | with_reducible (first | refine kcd ?_ ?_ | refine kgd ?_ ?_ | refine kci ?_ ?_ | refine kgi ?_ ?_)<;>intro hc)
 exact f.h _ _ _ _
theorem wld_4:Kn 4:=by
 intro h0 h n q1 p q5 q6 q8 q9 raw g d r t xs k tk tb s x q w g9 hx z szs bd br N vars x0 x4 x10 x11 x12 Q hq
 have zk:((4:Nat):Int)=4:=rfl
 have hqp:(q6 == p)=false:=by have:=q.d;have:=q.e;have:=q.f;simp;omega
 have a:WA h0 n q1 p q5 q6 q8 q9 h raw g d r t xs tk tb s x:=⟨w,g9,hx⟩
 have src:=w.src
 clear w g9 hx bd szs
 rw [zk]
 replace hq:=Hid.mk hq
 replace a:=zb a;replace q:=zb q;replace z:=zb z;replace src:=zb src;replace br:=zb br
 delta Qv uy uw uv uu ut us ur uq uo um ul uk uj ui uh ug uf ue ud
 repeat' (first | simp only [za,aR,aW,zf,zg,Int.reduceBEq,Int.reduceBNe,Nat.reduceBEq,Int.reduceLT,Int.reduceLE, *] | with_reducible (first | refine kcd ?_ ?_ | refine kgd ?_ ?_ | refine kci ?_ ?_ | refine kgi ?_ ?_)<;>intro hc)
 refine zn7 src.h _ fun h2 l2 hs2=>jw l2 ?_
 have a2:=a.h.but q.h l2 hs2
 have nl:=zg8 raw
 obtain ⟨nm,hnm⟩:∃ m,zn8 raw=m:=⟨_,rfl⟩
 rw [hnm] at nl
 rw [hnm]
 clear a l2 src hnm
 replace a2:=zb a2;replace hs2:=zb hs2;replace nl:=zb nl
 repeat' (first | simp only [za,aR,aW,zf,zg,Int.reduceBEq,Int.reduceBNe,Nat.reduceBEq,Int.reduceLT,Int.reduceLE, *] | with_reducible (first | refine kcd ?_ ?_ | refine kgd ?_ ?_ | refine kci ?_ ?_ | refine kgi ?_ ?_)<;>intro hc)
 refine yf (n:=10) hs2.h (by omega) (by omega) _ fun h3 l3 _ hs3=>jw l3 ?_
 have hlt:=z8 hs2.h.in (n:=10) (by omega)
 have a3:=a2.h.but q.h l3 hs3
 obtain ⟨kd,hkd⟩:∃ m,(ze (ze raw 10).2 10).1=m:=⟨_,rfl⟩
 rw [hkd] at hlt
 rw [hkd]
 have f6:=a3.w.g6
 have hn3:n≤h3.next:=by have:=Heap.lt_of_get f6;have:=q.h.f;omega
 obtain ⟨r',h4,e1,hm4,tbb,keep,nx⟩:=a3.w.hm.res hn3 a3.w.hL br.h ⟨nm,(kd:Int)⟩
 have e1:jj 2 24 (h3.alloc (.blk [str nm,.int .i64 (kd:Int)] true)) [r,.slice (some ⟨h3.next,0,none⟩) 1 2]=some (r',h4):=e1
 obtain ⟨f4,a4⟩:=a3.row q.h (g':={ g with ress:=g.ress++[⟨nm,(kd:Int)⟩] }) rfl hm4 tbb keep nx
 obtain ⟨ca1,ca2⟩:=hm4.isS.2.1.cell
 have st:=zx (off:=2) f4 (by simp) ca1 ca2
 simp only [List.set_cons_zero,List.set_cons_succ] at st
 have ok' : ({ g with ress:=g.ress++[⟨nm,(kd:Int)⟩] }:Prg).ok:=⟨z.h.ok.devs,fun y hy=>by
  rcases List.mem_append.1 hy with hy | hy
  ·exact z.h.ok.ress y hy
  ·rw [List.mem_singleton.1 hy];exact ⟨by show inI (kd:Int);unfold inI;omega,nl.h⟩⟩
 have f:=fun vars x2 x5 x12=>a4.fin q.h ⟨z.h.hk,z.h.hbl,ok',z.h.sz,z.h.szt,z.h.szs⟩ (kind:=4) (N:=N) (vars:=vars) (x0:=x0) (x2:=x2) (x4:=x4) (x5:=x5) (x10:=x10) (x11:=x11) (x12:=x12) Q hq.h
 rw [zk] at f
 have b1:=Jb nm (kd:Int)
 have b2:=bs_nm nm (kd:Int)
 clear a2 a3 hs2 l3 hs3 hq z q br hm4 tbb keep nx f4 a4 ca1 ca2 ok' hn3 hkd hlt nl
 replace f:=zb f
 repeat' (first | simp only [za,aR,aW,zf,zg,Int.reduceBEq,Int.reduceBNe,Nat.reduceBEq,Int.reduceLT,Int.reduceLE, *] | with_reducible (first | refine kcd ?_ ?_ | refine kgd ?_ ?_ | refine kci ?_ ?_ | refine kgi ?_ ?_)<;>intro hc)
 exact f.h _ _ _ _
end Go.Eng.Sy
namespace Go.Eng.Sy
open Go Go.Eng Go.Proofs
section
variable {h0 h h' : Heap}{n q1 p q5 q6 q8 q9:Nat}{raw raw' : List Int}{g:Prg}{d r t:Value}{xs:List (List Value)}{tk:Tsk}{tb:Value}{s:St}{x:List Value}
theorem WB.put9 (q:WQ h0 n q1 p q5 q6 q8 q9) (w:WB h0 n q1 p q5 q6 q8 q9 h raw g d r t xs tk tb) (hx:StCB (Bx (LL q1 p q5 q6 q8 q9) [d,r,t]) h s x):WA h0 n q1 p q5 q6 q8 q9 (h.set q9 (.blk x true)) raw g d r t xs tk tb s x:=by
 obtain ⟨w',g⟩:=w.set9 q x
 exact ⟨w',g,hx.to (toL (by simp) _)⟩
end
theorem bHalt1 {v:Value}(hv:IsS v):yy zS [(0,1),(5,1)] [.int .i64 8,v]=some (stV 8 [] [] 0 zw v zw):=by obtain ⟨_,_,_,rfl⟩:=hv;rfl
theorem bIf1 {v w:Value}(hv:IsS v) (hw:IsS w):yy zS [(0,1),(4,1),(6,1)] [.int .i64 6,v,w]=some (stV 6 [] [] 0 v zw w):=by
 obtain ⟨_,_,_,rfl⟩:=hv;obtain ⟨_,_,_,rfl⟩:=hw;rfl
theorem wld_7:Kn 7:=by
 intro h0 h n q1 p q5 q6 q8 q9 raw g d r t xs k tk tb s x q w g9 hx z szs bd br N vars x0 x4 x10 x11 x12 Q hq
 have zk:((7:Nat):Int)=7:=rfl
 obtain ⟨wa,wu,ww,rfl,t1,t2,t3⟩:=hx.cells
 have bs:=Xn hx.ones
 have u:=StsVB.new1 hx (w.fresh h.next (Nat.le_refl _))
 obtain ⟨qx,h2,eqx,eh2,gqx,lh2⟩:=zo h [.int .i64 s.kind,str s.name,str s.src,.int .i64 s.n,wa,wu,ww]
 rw [eh2,eqx] at u
 have bb:=bHalt1 u.isS
 have w2:=w.le lh2
 have g92:=lh2.get g9
 have st:=ji (size:=7) (v:=stV 8 [] [] 0 zw (.slice (some ⟨qx,0,none⟩) 1 7) zw) (cs:=[.int .i64 8,str [],str [],.int .i64 0,zw,.slice (some ⟨qx,0,none⟩) 1 7,zw]) g92 rfl rfl rfl rfl
 have a3:=w2.put9 q (StCB.of (k:=8) (m:=[]) (f:=[]) (n:=0) ExsVB.nil u StsVB.nil)
 have hc:vz (.mk 8 [] [] 0 [] [s] [])≤40000:=by simp only [vz,zr,yc];omega
 have f:=fun vars x2 x5 x12=>a3.fin q ⟨z.hk,z.hbl,z.ok,z.sz,z.szt,hc⟩ (kind:=7) (N:=N) (vars:=vars) (x0:=x0) (x2:=x2) (x4:=x4) (x5:=x5) (x10:=x10) (x11:=x11) (x12:=x12) Q hq
 rw [zk] at f ⊢
 clear w hx u z q bd br szs t1 t2 t3 w2 a3 hc hq lh2 gqx
 replace f:=zb f
 delta Qv uy uw uv uu ut us ur uq uo um ul uk uj ui uh ug uf ue ud
 repeat' (first | simp only [za,aR,aW,zf,zg,Int.reduceBEq,Int.reduceBNe,Nat.reduceBEq,Int.reduceLT,Int.reduceLE,jm, *] | with_reducible (first | refine kcd ?_ ?_ | refine kgd ?_ ?_ | refine kci ?_ ?_ | refine kgi ?_ ?_)<;>intro hc)
 exact f.h _ _ _ _
theorem wld_5:Kn 5:=by
 intro h0 h n q1 p q5 q6 q8 q9 raw g d r t xs k tk tb s x q w g9 hx z szs bd br N vars x0 x4 x10 x11 x12 Q hq
 have zk:((5:Nat):Int)=5:=rfl
 have hqp:(q9 == p)=false:=by have:=q.d;have:=q.e;have:=q.f;have:=q.g;have:=q.i;simp;omega
 have a:WA h0 n q1 p q5 q6 q8 q9 h raw g d r t xs tk tb s x:=⟨w,g9,hx⟩
 have src:=w.src
 have g5:=w.g5
 clear w g9 hx bd br
 rw [zk]
 replace hq:=Hid.mk hq
 replace a:=zb a;replace q:=zb q;replace z:=zb z;replace src:=zb src;replace szs:=zb szs
 delta Qv uy uw uv uu ut us ur uq uo um ul uk uj ui uh ug uf ue ud
 repeat' (first | simp only [za,aR,aW,zf,zg,Int.reduceBEq,Int.reduceBNe,Nat.reduceBEq,Int.reduceLT,Int.reduceLE,zn, *] | with_reducible (first | refine kcd ?_ ?_ | refine kgd ?_ ?_ | refine kci ?_ ?_ | refine kgi ?_ ?_)<;>intro hc)
 refine xj Zg 2 (by omega) _ h p _ _ src.h (Kl p h) fun h2 y l2 hs2 hy=>jw l2 ?_
 have a2:=a.h.but q.h l2 hs2
 have hce:=Yk Zg 2 raw
 have hln:raw.length≤1000:=by obtain ⟨_,_,_,_,e⟩:=src.h;exact e
 obtain ⟨e,he⟩:∃ e,(ye Zg 2 raw).1=e:=⟨_,rfl⟩
 rw [he] at hy hce
 have hy' : ExCB (Bx (LL q1 p q5 q6 q8 q9) [d,r,t]) h2 e y:=hy.to (Heap.toB_id fun id hb=>a.h.w.fresh id hb)
 have b1:=wn hy.ones
 have u1:=ExsVB.new1 hy' (a2.w.fresh h2.next (Nat.le_refl _))
 obtain ⟨qa,h3,eqa,eh3,gqa,lh3⟩:=zo h2 y
 rw [eh3,eqa] at u1
 have a3:=a2.le lh3
 obtain ⟨wa,wu,ww,rfl,t1,t2,t3⟩:=a3.hx.cells
 have b2:=Xn a3.hx.ones
 have u2:=StsVB.new1 a3.hx (a3.w.fresh h3.next (Nat.le_refl _))
 have g93:=a3.g9
 obtain ⟨qx,h4,eqx,eh4,gqx,lh4⟩:=zo h3 [.int .i64 s.kind,str s.name,str s.src,.int .i64 s.n,wa,wu,ww]
 rw [eh4,eqx] at u2
 have u1:ExsVB (Bx (LL q1 p q5 q6 q8 q9) [d,r,t]) h4 (.slice (some ⟨qa,0,none⟩) 1 5) [e]:=u1.to (lh4.toB fun id hb=>hb)
 have bb:=bIf1 u1.isS u2.isS
 have w4:=a3.w.le lh4
 have g94:=lh4.get g93
 have st:=ji (size:=7) (v:=stV 6 [] [] 0 (.slice (some ⟨qa,0,none⟩) 1 5) zw (.slice (some ⟨qx,0,none⟩) 1 7)) (cs:=[.int .i64 6,str [],str [],.int .i64 0,.slice (some ⟨qa,0,none⟩) 1 5,zw,.slice (some ⟨qx,0,none⟩) 1 7]) g94 rfl rfl rfl rfl
 have a5:=w4.put9 q.h (StCB.of (k:=6) (m:=[]) (f:=[]) (n:=0) u1 StsVB.nil u2)
 have hc:vz (.mk 6 [] [] 0 [e] [] [s])≤40000:=by have:=szs.h;simp only [vz,zr,yc];omega
 have f:=fun vars x2 x5 x12=>a5.fin q.h ⟨z.h.hk,z.h.hbl,z.h.ok,z.h.sz,z.h.szt,hc⟩ (kind:=5) (N:=N) (vars:=vars) (x0:=x0) (x2:=x2) (x4:=x4) (x5:=x5) (x10:=x10) (x11:=x11) (x12:=x12) Q hq.h
 rw [zk] at f
 clear a a2 a3 hs2 l2 hy hy' hce hln he u1 u2 w4 a5 hc hq z q szs t1 t2 t3 src gqa gqx lh3 lh4 g94
 replace f:=zb f
 repeat' (first | simp only [za,aR,aW,zf,zg,Int.reduceBEq,Int.reduceBNe,Nat.reduceBEq,Int.reduceLT,Int.reduceLE,jm, *] | with_reducible (first | refine kcd ?_ ?_ | refine kgd ?_ ?_ | refine kci ?_ ?_ | refine kgi ?_ ?_)<;>intro hc)
 exact f.h _ _ _ _
end Go.Eng.Sy
namespace Go.Eng.Sy
open Go Go.Eng Go.Proofs
theorem bRep1 {v:Value}(hv:IsS v):yy zS [(0,1),(3,1),(5,1)] [.int .i64 7,.int .i64 1,v]=some (stV 7 [] [] 1 zw v zw):=by obtain ⟨_,_,_,rfl⟩:=hv;rfl
theorem wld_6:Kn 6:=by
 intro h0 h n q1 p q5 q6 q8 q9 raw g d r t xs k tk tb s x q w g9 hx z szs bd br N vars x0 x4 x10 x11 x12 Q hq
 have zk:((6:Nat):Int)=6:=rfl
 have a:WA h0 n q1 p q5 q6 q8 q9 h raw g d r t xs tk tb s x:=⟨w,g9,hx⟩
 have src:=w.src
 clear w g9 hx bd br
 rw [zk]
 replace hq:=Hid.mk hq
 replace a:=zb a;replace q:=zb q;replace z:=zb z;replace src:=zb src;replace szs:=zb szs
 delta Qv uy uw uv uu ut us ur uq uo um ul uk uj ui uh ug uf ue ud
 repeat' (first | simp only [za,aR,aW,zf,zg,Int.reduceBEq,Int.reduceBNe,Nat.reduceBEq,Int.reduceLT,Int.reduceLE, *] | with_reducible (first | refine kcd ?_ ?_ | refine kgd ?_ ?_ | refine kci ?_ ?_ | refine kgi ?_ ?_)<;>intro hc)
 refine yf (n:=40) src.h (by omega) (by omega) _ fun h2 l2 _ hs2=>?_
 have hlt:=z8 src.h.in (n:=40) (by omega)
 have a2:=a.h.but q.h l2 hs2
 obtain ⟨c,hc⟩:∃ c,(ze raw 40).1=c:=⟨_,rfl⟩
 rw [hc] at hlt
 rw [hc]
 clear a l2 hs2 src hc
 replace a2:=zb a2;replace hlt:=zb hlt
 repeat' (first | simp only [za,aR,aW,zf,zg,Int.reduceBEq,Int.reduceBNe,Nat.reduceBEq,Int.reduceLT,Int.reduceLE, *] | with_reducible (first | refine kcd ?_ ?_ | refine kgd ?_ ?_ | refine kci ?_ ?_ | refine kgi ?_ ?_)<;>intro hc)
 refine LoopW.down (fun m e h3=>∃ s x,WA h0 n q1 p q5 q6 q8 q9 h3 (ze raw 40).2 g d r t xs tk tb s x∧vz s + m≤10040∧m < 40∧e=[x0,.pointer (some ⟨q1,0,none⟩),.pointer (some ⟨p,0,none⟩),.int .i64 6,x4,.pointer (some ⟨q5,0,none⟩),.pointer (some ⟨q6,0,none⟩),.int .i64 (k:Int),.pointer (some ⟨q8,0,none⟩),.pointer (some ⟨q9,0,none⟩),x10,.int .i64 (m:Int),.int .i64 6]) ?_ (m:=c) ⟨s,x,a2.h,by have:=szs.h;have:=hlt.h;omega,hlt.h,rfl⟩
 clear a2 szs hlt
 rintro m _ h3 R ⟨s,x,a3,hs,hm,rfl⟩ hR
 delta ya9 ya8 ya7 ya6 ya5 ya4 ya3 ya2 ya1 ya0 zz9 U9 U8 uy uw uv uu ut us ur uq uo um ul uk uj ui uh ug uf ue ud Kc Kb U7 U6
 cases m with
 | zero =>
  have z0:¬ (0:Int) < ((0:Nat):Int):=by decide
  have f:=fun vars x2 x5 x11 x12=>a3.fin q.h ⟨z.h.hk,z.h.hbl,z.h.ok,z.h.sz,z.h.szt,by omega⟩ (kind:=6) (N:=N) (vars:=vars) (x0:=x0) (x2:=x2) (x4:=x4) (x5:=x5) (x10:=x10) (x11:=x11) (x12:=x12) Q hq.h
  rw [zk] at f
  clear a3 hR hq q z
  replace f:=zb f;replace hs:=zb hs;replace hm:=zb hm
  repeat' (first | simp only [za,aR,aW,zf,zg,Int.reduceBEq,Int.reduceBNe,Nat.reduceBEq,Int.reduceLT,Int.reduceLE, *] | with_reducible (first | refine kcd ?_ ?_ | refine kgd ?_ ?_ | refine kci ?_ ?_ | refine kgi ?_ ?_)<;>intro hc)
  exact f.h _ _ _ _ _
 | succ m =>
  have z0:(0:Int) < ((m + 1:Nat):Int):=by omega
  have hw:IntKind.i64.wrap (((m + 1:Nat):Int) - 1)=(m:Int):=by rw [z6 (by omega) (by omega)];omega
  obtain ⟨wa,wu,ww,rfl,t1,t2,t3⟩:=a3.hx.cells
  have bs:=Xn a3.hx.ones
  have u:=StsVB.new1 a3.hx (a3.w.fresh h3.next (Nat.le_refl _))
  have g9:=a3.g9
  obtain ⟨qx,h4,eqx,eh4,gqx,lh4⟩:=zo h3 [.int .i64 s.kind,str s.name,str s.src,.int .i64 s.n,wa,wu,ww]
  rw [eh4,eqx] at u
  have bb:=bRep1 u.isS
  have w4:=a3.w.le lh4
  have g94:=lh4.get g9
  have st:=ji (size:=7) (v:=stV 7 [] [] 1 zw (.slice (some ⟨qx,0,none⟩) 1 7) zw) (cs:=[.int .i64 7,str [],str [],.int .i64 1,zw,.slice (some ⟨qx,0,none⟩) 1 7,zw]) g94 rfl rfl rfl rfl
  have a5:=w4.put9 q.h (StCB.of (k:=7) (m:=[]) (f:=[]) (n:=1) ExsVB.nil u StsVB.nil)
  have hc:vz (.mk 7 [] [] 1 [] [s] []) + m≤10040:=by simp only [vz,zr,yc];omega
  have f:=hR.h m _ _ (by omega) ⟨_,_,a5,hc,by omega,rfl⟩
  clear a3 hR hq q z u t1 t2 t3 w4 g94 a5 hc lh4 gqx
  replace f:=zb f;replace hs:=zb hs;replace hm:=zb hm
  repeat' (first | simp only [za,aR,aW,zf,zg,Int.reduceBEq,Int.reduceBNe,Nat.reduceBEq,Int.reduceLT,Int.reduceLE,jm, *] | with_reducible (first | refine kcd ?_ ?_ | refine kgd ?_ ?_ | refine kci ?_ ?_ | refine kgi ?_ ?_)<;>intro hc)
  exact f.h
theorem wld_sw {kind:Nat}(hk:kind < 10):Kn kind:=by
 have:kind=0∨kind=1∨kind=2∨kind=3∨kind=4∨kind=5∨kind=6∨kind=7∨kind=8∨kind=9:=by omega
 rcases this with rfl | rfl | rfl | rfl | rfl | rfl | rfl | rfl | rfl | rfl
 ·exact @wld_0
 ·exact @wld_1
 ·exact @wld_2
 ·exact @wld_3
 ·exact @wld_4
 ·exact @wld_5
 ·exact @wld_6
 ·exact @wld_7
 ·exact @wld_8
 ·exact @wld_9
end Go.Eng.Sy
namespace Go.Eng.Sy
open Go Go.Eng Go.Proofs
section
variable {h0 h h' : Heap}{n q1 p q5 q6 q8 q9:Nat}{raw raw' : List Int}{g:Prg}{d r t:Value}{xs:List (List Value)}{tk:Tsk}{tb:Value}
theorem WB.rel (q:WQ h0 n q1 p q5 q6 q8 q9) (w:WB h0 n q1 p q5 q6 q8 q9 h raw g d r t xs tk tb) (hk:∀ i,i≠p→i≠q9→(h.get i).isSome=true→h'.get i=h.get i) (nx:h.next≤h'.next) (hs:Src h' p raw') (g9:(h'.get q9).isSome=true):WB h0 n q1 p q5 q6 q8 q9 h' raw' g d r t xs tk tb:=by
 obtain ⟨qa,qb,qc,qd,qe,qf,qg,qi⟩:=q
 have kp:∀ {i:Nat}{o:AObj},i≠p→i≠q9→h.get i=some o→h'.get i=some o:=fun h1 h2 ho=>by rw [hk _ h1 h2 (by rw [ho];rfl)];exact ho
 refine ⟨⟨fun i o ho=>kp (by have:=Heap.lt_of_get ho;omega) (by have:=Heap.lt_of_get ho;omega) (w.l0.get ho),Nat.le_trans w.l0.next nx⟩,hs,kp (by omega) (by omega) w.g1,kp (by omega) (by omega) w.g5,kp (by omega) (by omega) w.g6,kp (by omega) (by omega) w.g8,g9,w.hm.to fun i hi hs=>hk i (fun e=>hi (by simp [e])) (fun e=>hi (by simp [e])) hs,w.hb.to fun id cs own hb hg=>⟨hb,kp (fun e=>hb.1 (by simp [e])) (fun e=>hb.1 (by simp [e])) hg⟩⟩
end
theorem ExCsB.snoc {B:Nat→Prop}{h:Heap}{e:Ex}{x:List Value}(hx:ExCB B h e x):∀ {l:List Ex}{xs:List (List Value)},ExCsB B h l xs→ExCsB B h (l++[e]) (xs++[x])
 | [],_,hl=>by rw [show _=[] from hl];exact ⟨x,[],rfl,hx,rfl⟩
 | _::_,_,⟨y,yr,h1,h2,h3⟩=>by rw [h1];exact ⟨y,yr++[x],rfl,h2,ExCsB.snoc hx h3⟩
theorem zp3 (l:List Ex) (e:Ex):yc (l++[e])=yc l + Kt e:=by
 induction l with
 | nil=>simp [yc]
 | cons a r ih=>simp only [List.cons_append,yc,ih];omega
noncomputable def zb3:CCode:=(.seq (.seq (.reg U8 [(10,0)]) (.block 0 (.loop yb0))) Qv)
theorem wld_args {h0 h:Heap}{n q1 p q5 q6 q8 q9:Nat}{raw:List Int}{g:Prg}{d r t:Value}{xs:List (List Value)}{k kind:Nat}{tk:Tsk}{tb:Value}{kd num:Int}{nm src:List UInt8}(hkd:kind < 10)
  (q:WQ h0 n q1 p q5 q6 q8 q9) (w:WB h0 n q1 p q5 q6 q8 q9 h raw g d r t xs tk tb) (g9:h.get q9=some (.blk [.int .i64 kd,str nm,str src,.int .i64 num,zw,zw,zw] true)) (z:∀ s,vz s≤40000→WZ g k tk s) (bd:g.devs.length≤1000) (br:g.ress.length≤1000)
  {N:Nat}{vars:List Nat}{x0 x4 x10 x11 x12:Value}(Q:Value→Heap→Prop) (hq:∀ h' g' y,h0.le h' → PrC h' g' y→g'.ok→(∀ t ∈ g'.tasks,zr t.body≤100000)→Q (.agg y.toArray) h') :
  W Tryz.prog N vars zb3 (zs7 1 true 4 Q) [x0,.pointer (some ⟨q1,0,none⟩),.pointer (some ⟨p,0,none⟩),.int .i64 (kind:Int),x4,.pointer (some ⟨q5,0,none⟩),.pointer (some ⟨q6,0,none⟩),.int .i64 (k:Int),.pointer (some ⟨q8,0,none⟩),.pointer (some ⟨q9,0,none⟩),x10,x11,x12] h:=by
 have hqp:(q9 == p)=false:=by have:=q.d;have:=q.e;have:=q.f;have:=q.g;have:=q.i;simp;omega
 have hsr:=w.src
 have fin:=fun (h' : Heap) (raw' : List Int) (s:St) (x:List Value) (w:WB h0 n q1 p q5 q6 q8 q9 h' raw' g d r t xs tk tb) g9 hx (hs:vz s≤10000) vars x10=>wld_sw hkd q w g9 (s:=s) (x:=x) hx (z s (by omega)) hs bd br (N:=N) (vars:=vars) (x0:=x0) (x4:=x4) (x10:=x10) (x11:=x11) (x12:=x12) Q hq
 clear hq z bd br
 replace fin:=zb fin;replace w:=zb w;replace q:=zb q;replace hsr:=zb hsr;replace hkd:=zb hkd
 delta zb3 U8
 repeat' (first | simp only [za,aR,aW,zf,zg,Int.reduceBEq,Int.reduceBNe,Nat.reduceBEq,Int.reduceLT,Int.reduceLE, *] | with_reducible (first | refine kcd ?_ ?_ | refine kgd ?_ ?_ | refine kci ?_ ?_ | refine kgi ?_ ?_)<;>intro hc)
 refine yf (n:=4) hsr.h (by omega) (by omega) _ fun h2 l2 _ hs2=>?_
 have hlt:=z8 hsr.h.in (n:=4) (by omega)
 have w2:=w.h.but q.h l2 hs2
 have g92:=l2.keep (i:=q9) (by simpa using hqp) g9
 obtain ⟨c,hc⟩:∃ c,(ze raw 4).1=c:=⟨_,rfl⟩
 obtain ⟨r2,hr2⟩:∃ c,(ze raw 4).2=c:=⟨_,rfl⟩
 rw [hr2] at hs2 w2
 rw [hc] at hlt
 rw [hc]
 clear w l2 hsr hc hr2 g9
 replace w2:=zb w2;replace hlt:=zb hlt;replace hs2:=zb hs2
 repeat' (first | simp only [za,aR,aW,zf,zg,Int.reduceBEq,Int.reduceBNe,Nat.reduceBEq,Int.reduceLT,Int.reduceLE, *] | with_reducible (first | refine kcd ?_ ?_ | refine kgd ?_ ?_ | refine kci ?_ ?_ | refine kgi ?_ ?_)<;>intro hc)
 refine LoopW.down (fun m e h3=>∃ r3 v xa l,(∀ i,i≠p→i≠q9→(h2.get i).isSome=true→h3.get i=h2.get i)∧h2.next≤h3.next∧Src h3 p r3∧h3.get q9=some (.blk [.int .i64 kd,str nm,str src,.int .i64 num,v,zw,zw] true)∧OwnS (xf h2.next) h3 5 v xa∧ExCsB (fun id=>h2.next≤id∧notOf v id) h3 l xa∧yc l + 2001 * m≤8004∧xa.length + m≤4 ∧
  e=[x0,.pointer (some ⟨q1,0,none⟩),.pointer (some ⟨p,0,none⟩),.int .i64 (kind:Int),x4,.pointer (some ⟨q5,0,none⟩),.pointer (some ⟨q6,0,none⟩),.int .i64 (k:Int),.pointer (some ⟨q8,0,none⟩),.pointer (some ⟨q9,0,none⟩),.int .i64 (m:Int),x11,x12]) ?_ (m:=c) ⟨r2,zw,[],[],fun _ _ _ _=>rfl,Nat.le_refl _,hs2.h,g92,OwnS.nil _ _ _,rfl,by have:=hlt.h;simp only [yc];omega,by have:=hlt.h;simp only [List.length_nil];omega,rfl⟩
 clear hs2 hlt g92
 rintro m _ h3 R ⟨r3,v,xa,l,rel,nx,hs3,g93,ho,hx,hcn,hln,rfl⟩ hR
 delta yb0 ya8 ya7 ya6 ya5 ya4 ya3 ya2 ya1 ya0 zz9 U9 U8 uy uw uv uu ut us ur uq uo um ul uk uj ui uh ug uf ue ud Kc Kb U7 U6
 have hq:=q.h
 have hq9n:=Heap.lt_of_get g93
 have hq9:q9 < h2.next:=by obtain ⟨o,ho⟩:=Option.isSome_iff_exists.1 w2.h.g9;exact Heap.lt_of_get ho
 have hp9:p < q9:=by have:=hq.d;have:=hq.e;have:=hq.f;have:=hq.g;have:=hq.i;omega
 cases m with
 | zero =>
  have z0:¬ (0:Int) < ((0:Nat):Int):=by decide
  have w3:=w2.h.rel hq rel nx hs3 (by rw [g93];rfl)
  have hv:ExsVB (Bx (LL q1 p q5 q6 q8 q9) [d,r,t]) h3 v l:=⟨xa,(OwnS.slB ho).to (Heap.toB_id fun id hb=>w2.h.fresh id hb),by omega,hx.to (Heap.toB_id fun id hb=>w2.h.fresh id hb.1)⟩
  have f:=fun vars x10=>fin.h _ _ _ _ w3 g93 (StCB.of hv StsVB.nil StsVB.nil) (by simp only [vz,zr];omega) vars x10
  clear w3 hv hR fin q w2 rel ho hx hs3 hq
  replace f:=zb f;replace hcn:=zb hcn;replace hln:=zb hln
  repeat' (first | simp only [za,aR,aW,zf,zg,Int.reduceBEq,Int.reduceBNe,Nat.reduceBEq,Int.reduceLT,Int.reduceLE, *] | with_reducible (first | refine kcd ?_ ?_ | refine kgd ?_ ?_ | refine kci ?_ ?_ | refine kgi ?_ ?_)<;>intro hc)
  exact f.h _ _
 | succ m =>
  have z0:(0:Int) < ((m + 1:Nat):Int):=by omega
  have hw:IntKind.i64.wrap (((m + 1:Nat):Int) - 1)=(m:Int):=by rw [z6 (by omega) (by omega)];omega
  have g53:h3.get q5=some (.blk [zw,zw,.int .i64 0,zw,.bool true] true):=by rw [rel q5 (by have:=hq.d;omega) (by have:=hq.e;have:=hq.f;have:=hq.g;have:=hq.i;omega) (by rw [w2.h.g5];rfl)];exact w2.h.g5
  replace rel:=zb rel;replace nx:=zb nx;replace hs3:=zb hs3;replace ho:=zb ho;replace hx:=zb hx;replace hcn:=zb hcn;replace hln:=zb hln;replace hq:=zb hq
  repeat' (first | simp only [za,aR,aW,zf,zg,Int.reduceBEq,Int.reduceBNe,Nat.reduceBEq,Int.reduceLT,Int.reduceLE,zn, *] | with_reducible (first | refine kcd ?_ ?_ | refine kgd ?_ ?_ | refine kci ?_ ?_ | refine kgi ?_ ?_)<;>intro hc)
  refine xj Zg 2 (by omega) _ h3 p _ _ hs3.h (Kl p h3) fun h4 y l4 hs4 hy=>jw l4 ?_
  have hce:=Yk Zg 2 r3
  have hrl:r3.length≤1000:=by obtain ⟨_,_,_,_,e⟩:=hs3.h;exact e
  obtain ⟨e,he⟩:∃ e,(ye Zg 2 r3).1=e:=⟨_,rfl⟩
  obtain ⟨r4,hr4⟩:∃ e,(ye Zg 2 r3).2=e:=⟨_,rfl⟩
  rw [he] at hy hce
  rw [hr4] at hs4 hce
  have g94:=l4.keep (i:=q9) (by omega) g93
  have ho4:=ho.h.keepBut (p:=p) (by omega) l4
  have hx4:ExCsB (fun id=>h2.next≤id∧notOf v id) h4 l xa:=hx.h.to (l4.toB fun id hb=>⟨by have:=hb.1;omega,hb⟩)
  have hn4:h2.next≤h4.next:=Nat.le_trans nx.h l4.next
  obtain ⟨v',h5,ap,ho5,le5,k1,k2,nx5⟩:=ho4.append1 (vl hn4) hy.ones.1 (by omega) (b:=64) (by have:=hln.h;omega) (by have:=hln.h;omega)
  have b1:=wn hy.ones
  have low:∀ i,i < h2.next→(h4.get i).isSome=true→h5.get i=h4.get i:=fun i hi hs=>k1 i hs (OwnS.notOf ho4 hi)
  have g95:h5.get q9=some (.blk [.int .i64 kd,str nm,str src,.int .i64 num,v,zw,zw] true):=by rw [low q9 hq9 (by rw [g94];rfl)];exact g94
  obtain ⟨ca1,ca2⟩:=(OwnS.isS ho5).cell
  have st:=zx (off:=4) g95 (by simp) ca1 ca2
  simp only [List.set_cons_zero,List.set_cons_succ] at st
  obtain ⟨h6,eh6⟩:∃ x,h5.set q9 (.blk [.int .i64 kd,str nm,str src,.int .i64 num,v',zw,zw] true)=x:=⟨_,rfl⟩
  rw [eh6] at st
  have s6:∀ i,i≠q9→h6.get i=h5.get i:=fun i hi=>by rw [← eh6];exact Heap.set_getE _ _ _ _ (by simpa using hi)
  have rel6:∀ i,i≠p→i≠q9→(h2.get i).isSome=true→h6.get i=h2.get i:=fun i h1 h2' hs=>by
   have hi:i < h2.next:=by obtain ⟨o,ho⟩:=Option.isSome_iff_exists.1 hs;exact Heap.lt_of_get ho
   have e1:=rel.h i h1 h2' hs
   have e2:=l4.get i h1 (by rw [e1];exact hs)
   rw [s6 i h2',low i hi (by rw [e2,e1];exact hs),e2,e1]
  have hs6:Src h6 p r4:=by
   obtain ⟨u,s1,s2,s3⟩:=hs4
   have e1:h5.get p=h4.get p:=low p (by omega) (by rw [s1];rfl)
   rw [← eh6]
   exact Src.set ⟨u,e1.trans s1,s2.to fun id cs own hb hg=>⟨hb,by rw [low id (by have:id < p:=hb;omega) (by rw [hg];rfl)];exact hg⟩,s3⟩ hp9 _
  have g96:h6.get q9=some (.blk [.int .i64 kd,str nm,str src,.int .i64 num,v',zw,zw] true):=by rw [← eh6];exact Heap.set_getS _ _ _ (by rw [g95];rfl)
  have ho6:OwnS (xf h2.next) h6 5 v' (xa++[y]):=ho5.get fun id hv hs=>s6 id (by
   have:=(ho5.blk_lt id _ _ hv).1
   omega)
  have hx5:ExCsB (fun id=>h2.next≤id∧notOf v id) h4 (l++[e]) (xa++[y]):=ExCsB.snoc (hy.to (Heap.toB_id fun id hb=>⟨Nat.le_trans nx.h hb,OwnS.notOf_new ho.h hb⟩)) hx4
  have hx6:ExCsB (fun id=>h2.next≤id∧notOf v' id) h6 (l++[e]) (xa++[y]):=hx5.to fun id cs own hb hg=>⟨⟨hb.1,k2 id (by rw [hg];rfl)⟩,by rw [s6 id (by have:=hb.1;omega),k1 id (by rw [hg];rfl) hb.2];exact hg⟩
  have f:=hR.h m _ h6 (by omega) ⟨r4,v',xa++[y],l++[e],rel6,by rw [← eh6];exact Nat.le_trans hn4 nx5,hs6,g96,ho6,hx6,by rw [zp3];have:=hcn.h;omega,by rw [List.length_append];have:=hln.h;simp only [List.length_cons,List.length_nil];omega,rfl⟩
  clear hR fin q w2 rel ho hx hs3 hq rel6 hs6 ho6 hx5 hx6 g96 low k1 k2 ho5 le5 ho4 hx4 hs4 l4 hy hce hcn hln hrl s6 eh6 g95 ca1 ca2 he hr4 nx nx5 hn4 hkd
  replace f:=zb f
  repeat' (first | simp only [za,aR,aW,zf,zg,Int.reduceBEq,Int.reduceBNe,Nat.reduceBEq,Int.reduceLT,Int.reduceLE, *] | with_reducible (first | refine kcd ?_ ?_ | refine kgd ?_ ?_ | refine kci ?_ ?_ | refine kgi ?_ ?_)<;>intro hc)
  exact f.h
end Go.Eng.Sy
namespace Go.Eng.Sy
open Go Go.Eng Go.Proofs
def numV:List Value:=[.int .i64 0,.int .i64 0,.int .i64 3,.int .i64 4,.int .i64 20,.int .i64 21,.int .i64 (-1)]
theorem numV_get {k:Nat}(h:k < 7):∃ z,numV[k]? = some (.int .i64 z):=by
 have:k=0∨k=1∨k=2∨k=3∨k=4∨k=5∨k=6:=by omega
 rcases this with rfl | rfl | rfl | rfl | rfl | rfl | rfl<;>exact ⟨_,rfl⟩
theorem zr6 (o:List UInt8){k:Nat}(h:k < 3):∃ m,[Value.string ⟨#[]⟩,Value.string ⟨#[]⟩,str o][k]? = some (str m):=by
 have:k=0∨k=1∨k=2:=by omega
 rcases this with rfl | rfl | rfl
 ·exact ⟨[],rfl⟩
 ·exact ⟨[],rfl⟩
 ·exact ⟨o,rfl⟩
theorem bX (kd num:Int) (nm src:List UInt8):yy zS [(0,1),(1,1),(2,1),(3,1)] [.int .i64 kd,str nm,str src,.int .i64 num]=some (stV kd nm src num zw zw zw):=rfl
theorem st_X (h:Heap) (kd num:Int) (nm src:List UInt8):yh 7 (h.alloc (.blk zS true)) [.pointer (some ⟨h.next,0,none⟩),stV kd nm src num zw zw zw]=some (undef,h.alloc (.blk [.int .i64 kd,str nm,str src,.int .i64 num,zw,zw,zw] true)):=zy rfl rfl rfl rfl
noncomputable def wldX:CCode:=(.seq (.reg U9 [(9,1)]) zb3)
theorem wld_x {h0 h:Heap}{n q1 p q5 q6 q8:Nat}{raw:List Int}{g:Prg}{d r t:Value}{xs:List (List Value)}{k kind:Nat}{tk:Tsk}{tb:Value}(hkd:kind < 10)
  (q:h0.next≤n∧h0.next≤q1∧q1 < p∧p < q5∧q5 < n∧n≤q6∧q6 < q8) (l0:h0.le h) (src:Src h p raw) (g1:h.get q1=some (.blk zP true)) (g5:h.get q5=some (.blk [zw,zw,.int .i64 0,zw,.bool true] true)) (g6:h.get q6=some (.blk [.int .i64 g.harts,d,r,t] true)) (g8:h.get q8=some (.blk [str tk.name,.bool tk.handler,.int .i64 tk.hart,.int .i64 tk.prio,.int .i64 tk.line,tb] true))
  (hm:WSt n [q8,q6,q5,p,q1] h g d r t xs) (hb:StsVB (Bx [q8,q6,q5,p,q1] [d,r,t]) h tb tk.body) (z:∀ s,vz s≤40000→WZ g k tk s) (bd:g.devs.length≤1000) (br:g.ress.length≤1000)
  {N:Nat}{vars:List Nat}{x0 x4 x9 x10 x11 x12:Value}(Q:Value→Heap→Prop) (hq:∀ h' g' y,h0.le h' → PrC h' g' y→g'.ok→(∀ t ∈ g'.tasks,zr t.body≤100000)→Q (.agg y.toArray) h') :
  W Tryz.prog N vars wldX (zs7 1 true 4 Q) [x0,.pointer (some ⟨q1,0,none⟩),.pointer (some ⟨p,0,none⟩),.int .i64 (kind:Int),x4,.pointer (some ⟨q5,0,none⟩),.pointer (some ⟨q6,0,none⟩),.int .i64 (k:Int),.pointer (some ⟨q8,0,none⟩),x9,x10,x11,x12] h:=by
 have hq8:=Heap.lt_of_get g8
 have fin:=fun {h6:Heap}(lB:h.leBut p h6){raw' : List Int}(hs6:Src h6 p raw'){h8 h9:Heap}(l68:h6.le h8) (l89:h8.le h9){q9:Nat}{kd num:Int}{nm src:List UInt8}(e9:h8.next=q9) (g9:h9.get q9=some (.blk [.int .i64 kd,str nm,str src,.int .i64 num,zw,zw,zw] true)) =>
  have l69:=l68.trans l89
  have nx:=lB.next
  have nx2:=l68.next
  have hm8:=((hm.but (p:=p) (by simp) lB).le l68).more (i:=q9) (by omega)
  have hb8:StsVB (Bx (LL q1 p q5 q6 q8 q9) [d,r,t]) h9 tb tk.body:=(hb.to (lB.toB fun id hb=>⟨fun e=>hb.1 (by simp [e]),hb⟩):StsVB (Bx [q8,q6,q5,p,q1] [d,r,t]) h6 tb tk.body).to fun id cs own hb hg=>⟨⟨fun hi=>(by
   have h1:=Heap.lt_of_get (l68.get hg)
   rcases List.mem_cons.1 hi with rfl | hi
   ·omega
   ·exact hb.1 hi),hb.2⟩,l69.get hg⟩
  have w:WB h0 n q1 p q5 q6 q8 q9 h9 raw' g d r t xs tk tb:=⟨(l0.but' (by omega) lB).trans l69,hs6.le l69,l69.get (lB.keep (by omega) g1),l69.get (lB.keep (by omega) g5),l69.get (lB.keep (by omega) g6),l69.get (lB.keep (by omega) g8),by rw [g9];rfl,hm8.le l89,hb8⟩
  have qq:WQ h0 n q1 p q5 q6 q8 q9:=⟨q.1,q.2.1,q.2.2.1,q.2.2.2.1,q.2.2.2.2.1,q.2.2.2.2.2.1,q.2.2.2.2.2.2,by omega⟩
  fun vars x10=>wld_args hkd qq w g9 z bd br (N:=N) (vars:=vars) (x0:=x0) (x4:=x4) (x10:=x10) (x11:=x11) (x12:=x12) Q hq
 have fin:=fun (h6:Heap) (lB:h.leBut p h6) (raw' : List Int) (hs6:Src h6 p raw') (h8 h9:Heap) (l68:h6.le h8) (l89:h8.le h9) (q9:Nat) (kd num:Int) (nm src:List UInt8) (e9:h8.next=q9) g9=>@fin h6 lB raw' hs6 h8 h9 l68 l89 q9 kd num nm src e9 g9
 clear hq z bd br hm hb g1 g5 g6 g8 l0 q hq8 hkd
 replace fin:=zb fin;replace src:=zb src
 delta wldX U9
 repeat' (first | simp only [za,aR,aW,zf,zg,Int.reduceBEq,Int.reduceBNe,Nat.reduceBEq,Int.reduceLT,Int.reduceLE, *] | with_reducible (first | refine kcd ?_ ?_ | refine kgd ?_ ?_ | refine kci ?_ ?_ | refine kgi ?_ ?_)<;>intro hc)
 refine yf (n:=11) src.h (by omega) (by omega) _ fun h2 l2 _ hs2=>?_
 obtain ⟨k0,hk0⟩:∃ k,(ze raw 11).1=k:=⟨_,rfl⟩
 rw [hk0]
 clear src hk0
 replace l2:=zb l2;replace hs2:=zb hs2
 repeat' (first | simp only [za,aR,aW,zf,zg,Int.reduceBEq,Int.reduceBNe,Nat.reduceBEq,Int.reduceLT,Int.reduceLE, *] | with_reducible (first | refine kcd ?_ ?_ | refine kgd ?_ ?_ | refine kci ?_ ?_ | refine kgi ?_ ?_)<;>intro hc)
 refine zn7 hs2.h _ fun h3 l3 hs3=>?_
 obtain ⟨nm,hnm⟩:∃ k,zn8 (ze raw 11).2=k:=⟨_,rfl⟩
 rw [hnm]
 replace l3:=l2.h.trans l3
 clear l2 hs2 hnm
 replace l3:=zb l3;replace hs3:=zb hs3
 repeat' (first | simp only [za,aR,aW,zf,zg,Int.reduceBEq,Int.reduceBNe,Nat.reduceBEq,Int.reduceLT,Int.reduceLE, *] | with_reducible (first | refine kcd ?_ ?_ | refine kgd ?_ ?_ | refine kci ?_ ?_ | refine kgi ?_ ?_)<;>intro hc)
 refine zn7 hs3.h _ fun h4 l4 hs4=>?_
 obtain ⟨o2,ho2⟩:∃ k,zn8 (ze (ze raw 11).2 10).2=k:=⟨_,rfl⟩
 rw [ho2]
 replace l4:=l3.h.trans l4
 clear l3 hs3 ho2
 replace l4:=zb l4;replace hs4:=zb hs4
 repeat' (first | simp only [za,aR,aW,zf,zg,Int.reduceBEq,Int.reduceBNe,Nat.reduceBEq,Int.reduceLT,Int.reduceLE, *] | with_reducible (first | refine kcd ?_ ?_ | refine kgd ?_ ?_ | refine kci ?_ ?_ | refine kgi ?_ ?_)<;>intro hc)
 refine yf (n:=3) hs4.h (by omega) (by omega) _ fun h5 l5 _ hs5=>?_
 have hk3:=z8 hs4.h.in (n:=3) (by omega)
 obtain ⟨k3,ek3⟩:∃ k,(ze (ze (ze (ze raw 11).2 10).2 10).2 3).1=k:=⟨_,rfl⟩
 rw [ek3] at hk3
 rw [ek3]
 replace l5:=l4.h.trans l5
 clear l4 hs4 ek3
 replace l5:=zb l5;replace hs5:=zb hs5;replace hk3:=zb hk3
 repeat' (first | simp only [za,aR,aW,zf,zg,Int.reduceBEq,Int.reduceBNe,Nat.reduceBEq,Int.reduceLT,Int.reduceLE, *] | with_reducible (first | refine kcd ?_ ?_ | refine kgd ?_ ?_ | refine kci ?_ ?_ | refine kgi ?_ ?_)<;>intro hc)
 refine yf (n:=7) hs5.h (by omega) (by omega) _ fun h6 l6 _ hs6=>jw l6 ?_
 have hk7:=z8 hs5.h.in (n:=7) (by omega)
 obtain ⟨k7,ek7⟩:∃ k,(ze (ze (ze (ze (ze raw 11).2 10).2 10).2 3).2 7).1=k:=⟨_,rfl⟩
 rw [ek7] at hk7
 rw [ek7]
 replace l6:=l5.h.trans l6
 clear l5 hs5 ek7
 have hp6:=hs6.lt
 have bs:yi [.string ⟨#[]⟩,.string ⟨#[]⟩,.string ⟨#[]⟩] [(0,1),(1,1),(2,1)] 3 1 [.string ⟨#[]⟩,.string ⟨#[]⟩,str o2]=some ([.string ⟨#[]⟩,.string ⟨#[]⟩,str o2],fun id=>.slice (some ⟨id,0,none⟩) 3 1):=bs_3 [] [] o2
 obtain ⟨qa,h7,eqa,eh7,gqa,lh7⟩:=zo h6 [.string ⟨#[]⟩,.string ⟨#[]⟩,str o2]
 have bn:yi [.int .i64 0,.int .i64 0,.int .i64 0,.int .i64 0,.int .i64 0,.int .i64 0,.int .i64 0] [(0,1),(1,1),(2,1),(3,1),(4,1),(5,1),(6,1)] 7 1 [.int .i64 0,.int .i64 0,.int .i64 3,.int .i64 4,.int .i64 20,.int .i64 21,.int .i64 (-1)]=some (numV,fun id=>.slice (some ⟨id,0,none⟩) 7 1):=rfl
 obtain ⟨qb,h8,eqb,eh8,gqb,lh8⟩:=zo h7 numV
 have ix1:=idx1 (id:=qa) (n:=3) hk3.h
 have ix2:=idx1 (id:=qb) (n:=7) hk7
 obtain ⟨src,vs⟩:=zr6 o2 hk3.h
 obtain ⟨num,vn⟩:=numV_get hk7
 have bx:=bX (IntKind.i64.wrap ((k0:Int) - 1)) num nm src
 have sz:=st_X h8 (IntKind.i64.wrap ((k0:Int) - 1)) num nm src
 obtain ⟨q9,h9,eq9,eh9,gq9,lh9⟩:=zo h8 [.int .i64 (IntKind.i64.wrap ((k0:Int) - 1)),str nm,str src,.int .i64 num,zw,zw,zw]
 rw [eh9,eq9] at sz
 have hqa:(qa == p)=false:=by simp;omega
 have hqb:(qb == p)=false:=by have:=lh7.next;simp;omega
 have f:=fin.h h6 l6 _ hs6 h8 h9 (lh7.trans lh8) lh9 q9 _ _ _ _ eq9 gq9
 clear fin l6 hs6 hk3 hk7 lh7 lh8 lh9 hp6 gq9
 replace f:=zb f
 repeat' (first | simp only [za,aR,aW,zf,zg,Int.reduceBEq,Int.reduceBNe,Nat.reduceBEq,Int.reduceLT,Int.reduceLE, *] | with_reducible (first | refine kcd ?_ ?_ | refine kgd ?_ ?_ | refine kci ?_ ?_ | refine kgi ?_ ?_)<;>intro hc)
 exact f.h _ _
end Go.Eng.Sy
namespace Go.Eng.Sy
open Go Go.Eng Go.Proofs
theorem WSt.at {n:Nat}{L:List Nat}{h:Heap}{g:Prg}{d r t:Value}{xs:List (List Value)}(hm:WSt n L h g d r t xs){k:Nat}{tk:Tsk}(hk:g.tasks[k]? = some tk) :
  ∃ id v,yx 6 [t,.int .i64 (k:Int)]=some (.pointer (some ⟨id,k * 6,none⟩))∧h.get id=some (.blk xs.flatten true)∧qk true (k * 6) 6 xs.flatten=some (tsV tk.name tk.handler tk.hart tk.prio tk.line v)∧StsVB (Bx L [d,r,t]) h v tk.body:=by
 obtain ⟨x,hx,v,rfl,hv⟩:=hm.hts.get hk
 obtain ⟨id,e1,e2,e3,e4,e5⟩:=OwnS.at (s:=6) (hm.rows.own (t,6,xs) (by simp)) (by decide) hx
 exact ⟨id,v,e4,e3,e5,hv⟩
theorem nSs_le {ts:List Tsk}:∀ t ∈ ts,zr t.body≤nTs ts:=by
 intro t ht
 induction ts with
 | nil=>cases ht
 | cons a r ih =>
  rcases List.mem_cons.1 ht with rfl | ht
  ·simp only [nTs];omega
  ·have:=ih ht;simp only [nTs];omega
set_option maxHeartbeats 1000000 in
theorem Wild_c {h:Heap}{v:Value}{raw:List Int}(hv:Ints h v raw) (hin:∀ z ∈ raw,inI z) (Q:Value→Heap→Prop)
  (hq:∀ h' g y,h.le h' → PrC h' g y→g.ok→(∀ t ∈ g.tasks,zr t.body≤100000)→Q (.agg y.toArray) h'):CallW Tryz.prog 7 [v] h Q:=by
 obtain ⟨q1,h1,eq1,eh1,gq1,lh1⟩:=zo h zP
 obtain ⟨v',hv',hcase⟩:=zd0 hv lh1 400
 rw [show ((400:Nat):Int)=400 from rfl] at hcase
 have lv:=Ints.len hv
 have hvS:=SlV.isS hv'
 have ub:=bSrc hvS
 have bx:=Ua hvS
 have hin' : ∀ z ∈ raw.take 400,inI z:=fun z hz=>hin z (List.mem_of_mem_take hz)
 have hlen' : (raw.take 400).length≤1000:=by rw [List.length_take];omega
 obtain ⟨p,h2,ep,eh2,gp,lh2⟩:=zo h1 [v']
 have hvB:SlVB (· < p) h2 1 v' ((raw.take 400).map fun z=>[.int .i64 z]):=(SlV.below hv').to (lh2.toB fun id hb=>by rw [← ep];exact hb)
 have hsrc:Src h2 p (raw.take 400):=⟨v',gp,hvB,hin',hlen'⟩
 have g1:=lh2.get gq1
 have hq1p:=Heap.lt_of_get gq1
 rw [ep] at hq1p
 have hq1h:h.next=q1:=eq1
 have lh12:=lh1.trans lh2
 clear hv hin hlen' hv' gp
 replace hsrc:=zb hsrc;replace lh12:=zb lh12;replace g1:=zb g1;replace hq1p:=zb hq1p;replace hq1h:=zb hq1h;replace hcase:=zb hcase;replace hvS:=zb hvS;replace hvB:=zb hvB;replace hin':=zb hin'
 refine Z9 (k:=1) (agg:=true) (size:=4) ok7 rfl rfl rfl fun N=>?_
 show W Tryz.prog N _ ((.seq (.reg ya8 [(1,0)]) (.seq (.rcond ya7 [] 0 (.reg ya6 [(0,0)]) .skip) (.seq (.reg ya5 [(2,0)]) (.seq (.reg ya4 [(3,0)]) (.seq (.reg ya3 [(4,0)]) (.seq (.reg ya2 [(5,1)]) (.seq (.reg ya1 [(6,1)]) (.seq (.reg ya0 [(7,0)]) (.seq (.reg zz9 [(8,1)]) wldX)))))))))) _ [v,undef,undef,undef,undef,undef,undef,undef,undef,undef,undef,undef,undef] _
 delta ya8 ya7 ya6 ya5 ya4 ya3 ya2 ya1 ya0 zz9
 replace hq:=Hid.mk hq
 refine cut2 (G:=?G) ?b ?main
 case b =>
  intro main
  rcases hcase.h with ⟨z,e⟩ | ⟨z,rfl⟩
  ·repeat' (first | simp only [za,aR,aW,zf,zg,Int.reduceBEq,Int.reduceBNe,Nat.reduceBEq,Int.reduceLT,Int.reduceLE,bC', *] | with_reducible (first | refine kcd ?_ ?_ | refine kgd ?_ ?_ | refine kci ?_ ?_ | refine kgi ?_ ?_)<;>intro hc)
   first | done | exact main
  ·repeat' (first | simp only [za,aR,aW,zf,zg,Int.reduceBEq,Int.reduceBNe,Nat.reduceBEq,Int.reduceLT,Int.reduceLE,bC', *] | with_reducible (first | refine kcd ?_ ?_ | refine kgd ?_ ?_ | refine kci ?_ ?_ | refine kgi ?_ ?_)<;>intro hc)
   first | done | exact main
 case main =>
  clear hcase lv ub bx gq1 eh1 eh2 eq1 ep
  refine yf (n:=10) hsrc.h (by omega) (by omega) _ fun h3 l3 _ hs3=>?_
  have hk10:=z8 hsrc.h.in (n:=10) (by omega)
  obtain ⟨kind,ek⟩:∃ k,(ze (raw.take 400) 10).1=k:=⟨_,rfl⟩
  obtain ⟨r3,er3⟩:∃ k,(ze (raw.take 400) 10).2=k:=⟨_,rfl⟩
  rw [ek] at hk10
  rw [er3] at hs3
  rw [ek]
  clear hsrc ek er3
  replace l3:=zb l3;replace hs3:=zb hs3;replace hk10:=zb hk10
  repeat' (first | simp only [za,aR,aW,zf,zg,Int.reduceBEq,Int.reduceBNe,Nat.reduceBEq,Int.reduceLT,Int.reduceLE, *] | with_reducible (first | refine kcd ?_ ?_ | refine kgd ?_ ?_ | refine kci ?_ ?_ | refine kgi ?_ ?_)<;>intro hc)
  refine yf (n:=2) hs3.h (by omega) (by omega) _ fun h4 l4 _ hs4=>?_
  obtain ⟨al,eal⟩:∃ b,(((ze r3 2).1:Int) == 1)=b:=⟨_,rfl⟩
  replace l4:=l3.h.trans l4
  have sz5:=st_C h4 true
  obtain ⟨q5,h5,eq5,eh5,gq5,lh5⟩:=zo h4 [zw,zw,.int .i64 0,zw,.bool true]
  rw [eh5,eq5] at sz5
  have hs5:=hs4.le lh5
  have l5:=l4.le' lh5
  have hv5:Ints h5 v' (raw.take 400):=SlVB.plain (hvB.h.to (l5.toB fun id hb=>⟨by have:id < p:=hb;omega,hb⟩))
  have hp4:=hs4.lt
  have hp5:p < q5:=by omega
  clear l3 hs3 l4 hs4 hvB lh5
  replace hs5:=zb hs5;replace l5:=zb l5;replace hv5:=zb hv5;replace hp5:=zb hp5;replace hp4:=zb hp4
  repeat' (first | simp only [za,aR,aW,zf,zg,Int.reduceBEq,Int.reduceBNe,Nat.reduceBEq,Int.reduceLT,Int.reduceLE,bC', *] | with_reducible (first | refine kcd ?_ ?_ | refine kgd ?_ ?_ | refine kci ?_ ?_ | refine kgi ?_ ?_)<;>intro hc)
  refine Prog_c hv5.h hin'.h al _ fun h6 d r t xs l6 hmd=>?_
  have good:=K8 (raw.take 400) al
  have szs:=zu2 (raw.take 400) al
  obtain ⟨g,hg⟩:∃ p,X2 (raw.take 400) al=p:=⟨_,rfl⟩
  rw [hg] at hmd good szs
  rw [hg]
  have hq5n:=Heap.lt_of_get gq5
  have hm6:=hmd.st (L:=[q5,p,q1]) fun i hi=>by
   have h1:=hp5.h
   have h2:=hq1p.h
   simp only [List.mem_cons,List.not_mem_nil,or_false] at hi
   rcases hi with rfl | rfl | rfl<;>omega
  obtain ⟨s1,s2,s3⟩:=hm6.isS
  have sz6:=st_PA h6 g.harts s1 s2 s3
  obtain ⟨q6,h7,eq6,eh7,gq6,lh7⟩:=zo h6 [.int .i64 g.harts,d,r,t]
  rw [eh7,eq6] at sz6
  have hm7:=(hm6.more (i:=q6) (by omega)).le lh7
  have hs7:=(hs5.h.le l6).le lh7
  have l7:=(l5.h.le' l6).le' lh7
  have g57:=lh7.get (l6.get gq5)
  have tl1:=good.tl
  have hln:Yb [t]=some (.int .i64 (g.tasks.length:Int)):=by
   have:=(hm7.rows.own (t,6,xs) (by simp)).sl.len
   rw [hm7.hts.length] at this;exact this
  have hn6:h5.next≤q6:=by have:=l6.next;omega
  clear hmd hm6 s1 s2 s3 l6 lh7 hs5 hv5 hin' gq5 hvS l5 eal
  replace hm7:=zb hm7;replace hs7:=zb hs7;replace l7:=zb l7;replace hg:=zb hg;replace good:=zb good;replace szs:=zb szs
  repeat' (first | simp only [za,aR,aW,zf,zg,Int.reduceBEq,Int.reduceBNe,Nat.reduceBEq,Int.reduceLT,Int.reduceLE, *] | with_reducible (first | refine kcd ?_ ?_ | refine kgd ?_ ?_ | refine kci ?_ ?_ | refine kgi ?_ ?_)<;>intro hc)
  refine yf (n:=g.tasks.length) hs7.h (by omega) (by omega) _ fun h8 l8 _ hs8=>?_
  have hkt:=z8 hs7.h.in (n:=g.tasks.length) (by omega)
  obtain ⟨k,ekk⟩:∃ k,(ze (ze r3 2).2 g.tasks.length).1=k:=⟨_,rfl⟩
  rw [ekk] at hkt
  rw [ekk]
  have hp5':=hp5.h
  have hq1p':=hq1p.h
  have hq1h':=hq1h.h
  have g68:=l8.keep (i:=q6) (by omega) gq6
  have g58:=l8.keep (i:=q5) (by omega) g57
  have hm8:=hm7.h.but (p:=p) (by simp) l8
  replace l8:=l7.h.trans l8
  obtain ⟨tk,htk⟩:∃ o,g.tasks[k]? = some o:=⟨_,List.getElem?_eq_getElem hkt⟩
  obtain ⟨id,tb,e4,eg,e5,hb8⟩:=hm8.at htk
  have szT:=st_T h8 tk.name tk.handler tk.hart tk.prio tk.line hb8.isS
  obtain ⟨q8,h9,eq8,eh9,gq8,lh9⟩:=zo h8 [str tk.name,.bool tk.handler,.int .i64 tk.hart,.int .i64 tk.prio,.int .i64 tk.line,tb]
  rw [eh9,eq8] at szT
  have hq68:=Heap.lt_of_get g68
  have hm9:=(hm8.more (i:=q8) (by omega)).le lh9
  have hb9:StsVB (Bx [q8,q6,q5,p,q1] [d,r,t]) h9 tb tk.body:=hb8.to fun id cs own hb hg=>⟨⟨fun hi=>(by
   have h1:=Heap.lt_of_get hg
   rcases List.mem_cons.1 hi with rfl | hi
   ·omega
   ·exact hb.1 hi),hb.2⟩,lh9.get hg⟩
  have l9:=l8.le' lh9
  have l0:h.le h9:=lh12.h.but' (by omega) l9
  have g19:=l9.keep (i:=q1) (by omega) g1.h
  have gd:=good.h
  have hbt:∀ u ∈ g.tasks,zr u.body≤50000:=fun u hu=>Nat.le_trans (nSs_le u hu) (by have:=szs.h;omega)
  have htm:=List.mem_of_getElem? htk
  have hbody:tk.body.length≤1000:=by
   have:=(gd.tasks tk htm).len
   omega
  have f:=fun (x10 x11 x12:Value) vars=>wld_x (h0:=h) (n:=h5.next) (kind:=kind) hk10.h ⟨by have:=l9.next;have:=lh12.h.next;have:=l7.h.next;omega,by omega,hq1p',hp5',by omega,hn6,by omega⟩ l0 (hs8.le lh9) g19 (lh9.get g58) (lh9.get g68) gq8 hm9 hb9 (fun s hs=>⟨hkt,hbody,gd.ok,hbt,hbt tk htm,hs⟩) (by have:=gd.dl;omega) (by have:=gd.rl;omega) (N:=N) (vars:=vars) (x0:=v') (x4:=.bool al) (x9:=undef) (x10:=x10) (x11:=x11) (x12:=x12) Q hq.h
  clear hq hm7 hs7 l7 good szs hs8 l8 hm8 htk hb8 hm9 hb9 l9 l0 g19 gd hbt htm hbody hkt hk10 lh9 g58 gq8 hq68 hg tl1
  replace f:=zb f
  repeat' (first | simp only [za,aR,aW,zf,zg,Int.reduceBEq,Int.reduceBNe,Nat.reduceBEq,Int.reduceLT,Int.reduceLE,K9, *] | with_reducible (first | refine kcd ?_ ?_ | refine kgd ?_ ?_ | refine kci ?_ ?_ | refine kgi ?_ ?_)<;>intro hc)
  exact f.h _ _ _ _
end Go.Eng.Sy
namespace Go.Eng.Sy
open Go Go.Eng Go.Proofs
structure OQ (h0:Heap) (q1 p q3 q4:Nat):Prop where
 a:h0.next≤q1
 b:q1 < p
 c:p < q3
 d:q3 < q4
abbrev Bo (q1 p q4:Nat) (id:Nat):Prop:=id≠p∧id≠q1∧id≠q4
structure OB (h0:Heap) (q1 p q3 q4:Nat) (h:Heap) (raw:List Int) (e:Ex) (va:Value):Prop where
 l0:h0.le h
 src:Src h p raw
 g1:h.get q1=some (.blk zEx true)
 g3:h.get q3=some (.blk [zw,zw,.int .i64 0,zw,.bool true] true)
 g4:h.get q4=some (.blk [.int .i64 e.kind,.int .i64 e.op,.int .i64 e.n,str e.name,va] true)
 hva:ExsVB (Bo q1 p q4) h va e.args
 len:e.args.length≤1000
section
variable {h0 h h' : Heap}{q1 p q3 q4:Nat}{raw raw' : List Int}{e:Ex}{va:Value}
theorem OB.but (q:OQ h0 q1 p q3 q4) (o:OB h0 q1 p q3 q4 h raw e va) (hl:h.leBut p h') (hs:Src h' p raw'):OB h0 q1 p q3 q4 h' raw' e va:=by
 obtain ⟨qa,qb,qc,qd⟩:=q
 exact ⟨o.l0.but' (by omega) hl,hs,hl.keep (by omega) o.g1,hl.keep (by omega) o.g3,hl.keep (by omega) o.g4,o.hva.to (hl.toB fun id hb=>⟨hb.1,hb⟩),o.len⟩
theorem OB.le (o:OB h0 q1 p q3 q4 h raw e va) (hl:h.le h'):OB h0 q1 p q3 q4 h' raw e va :=
 ⟨o.l0.trans hl,o.src.le hl,hl.get o.g1,hl.get o.g3,hl.get o.g4,o.hva.to (hl.toB fun id hb=>hb),o.len⟩
theorem OB.put (q:OQ h0 q1 p q3 q4) (o:OB h0 q1 p q3 q4 h raw e va) (k op n:Int) (m:List UInt8){l:List Ex}{va' : Value}(hv:ExsVB (Bo q1 p q4) h va' l) (hl:l.length≤1000):OB h0 q1 p q3 q4 (h.set q4 (.blk [.int .i64 k,.int .i64 op,.int .i64 n,str m,va'] true)) raw (.mk k op n m l) va':=by
 obtain ⟨qa,qb,qc,qd⟩:=q
 exact ⟨o.l0.set' (by omega) _,o.src.set (by omega) _,(Heap.set_getE _ _ _ _ (by simp;omega)).trans o.g1,(Heap.set_getE _ _ _ _ (by simp;omega)).trans o.g3,Heap.set_getS _ _ _ (by rw [o.g4];rfl),hv.to (Heap.toB_set _ fun id hb=>⟨hb.2.2,hb⟩),hl⟩
theorem OB.ex (o:OB h0 q1 p q3 q4 h raw e va):ExCB (Bo q1 p q4) h e [.int .i64 e.kind,.int .i64 e.op,.int .i64 e.n,str e.name,va]:=by
 have h1:=o.hva
 cases e
 obtain ⟨xs,a,b,c⟩:=h1
 exact ⟨va,xs,rfl,a,b,c⟩
theorem OB.fresh (o:OB h0 q1 p q3 q4 h raw e va):∀ id,h.next≤id→Bo q1 p q4 id:=fun id hi=>by
 have h1:=Heap.lt_of_get o.g1
 have h2:=Heap.lt_of_get o.g4
 have h3:=o.src.lt
 exact ⟨by omega,by omega,by omega⟩
end
theorem bInv {v:Value}(hv:IsS v):yy [.int .i64 0,.int .i64 0,.int .i64 0,.string ⟨#[]⟩,.slice none 0 0] [(0,1),(1,1),(4,1)] [.int .i64 3,.int .i64 17,v]=some (exV 3 17 0 [] v):=by obtain ⟨_,_,_,rfl⟩:=hv;rfl
noncomputable def zv1:CCode:=(.seq (.seq (.reg V1 [(5,0)]) (.block 1 (.loop zd4))) (.seq (.reg V0 []) .ret))
theorem odd_end {h0 h:Heap}{q1 p q3 q4:Nat}{raw:List Int}{e:Ex}{va:Value}(q:OQ h0 q1 p q3 q4) (o:OB h0 q1 p q3 q4 h raw e va)
  {N:Nat}{vars:List Nat}{x0 x5 x6:Value}(Q:Value→Heap→Prop) (hq:∀ h' e y,h0.le h' → ExC h' e y→Q (.agg y.toArray) h') :
  W Tryz.prog N vars zv1 (zs7 1 true 5 Q) [x0,.pointer (some ⟨q1,0,none⟩),.pointer (some ⟨p,0,none⟩),.pointer (some ⟨q3,0,none⟩),.pointer (some ⟨q4,0,none⟩),x5,x6] h:=by
 have src:=o.src
 replace hq:=Hid.mk hq
 replace q:=zb q;replace o:=zb o;replace src:=zb src
 delta zv1 V1 V0
 repeat' (first | simp only [za,aR,aW,zf,zg,Int.reduceBEq,Int.reduceBNe,Nat.reduceBEq,Int.reduceLT,Int.reduceLE, *] | with_reducible (first | refine kcd ?_ ?_ | refine kgd ?_ ?_ | refine kci ?_ ?_ | refine kgi ?_ ?_)<;>intro hc)
 refine yf (n:=60) src.h (by omega) (by omega) _ fun h2 l2 _ hs2=>?_
 have hlt:=z8 src.h.in (n:=60) (by omega)
 have o2:=o.h.but q.h l2 hs2
 obtain ⟨c,hc⟩:∃ k,(ze raw 60).1=k:=⟨_,rfl⟩
 rw [hc] at hlt
 rw [hc]
 clear o src l2 hs2 hc
 replace o2:=zb o2;replace hlt:=zb hlt
 repeat' (first | simp only [za,aR,aW,zf,zg,Int.reduceBEq,Int.reduceBNe,Nat.reduceBEq,Int.reduceLT,Int.reduceLE, *] | with_reducible (first | refine kcd ?_ ?_ | refine kgd ?_ ?_ | refine kci ?_ ?_ | refine kgi ?_ ?_)<;>intro hc)
 refine LoopW.down (fun m e1 h3=>∃ e va,OB h0 q1 p q3 q4 h3 (ze raw 60).2 e va∧m < 60∧e1=[x0,.pointer (some ⟨q1,0,none⟩),.pointer (some ⟨p,0,none⟩),.pointer (some ⟨q3,0,none⟩),.pointer (some ⟨q4,0,none⟩),.int .i64 (m:Int),x6]) ?_ (m:=c) ⟨e,va,o2.h,hlt.h,rfl⟩
 clear o2 hlt
 rintro m _ h3 R ⟨e,va,o3,hm,rfl⟩ hR
 delta zd4 zk4 zk3 zk2 zk1 zk0 zj9 zj8 zj7 zj6 zj5 V8 V7 V6 V5 V4 V3 V2 V1 V0
 have g4:=o3.g4
 by_cases hc:25 < m
 ·have hc' : (25:Int) < (m:Int):=by omega
  have hw:IntKind.i64.wrap ((m:Int) - 1)=((m - 1:Nat):Int):=by rw [z6 (by omega) (by omega)];omega
  have bs:=wn o3.ex.ones
  have u:=ExsVB.new1 o3.ex (o3.fresh h3.next (Nat.le_refl _))
  obtain ⟨qx,h4,eqx,eh4,gqx,lh4⟩:=zo h3 [.int .i64 e.kind,.int .i64 e.op,.int .i64 e.n,str e.name,va]
  rw [eh4,eqx] at u
  have bb:=bInv u.isS
  have o4:=o3.le lh4
  have g44:=lh4.get g4
  have st:=ji (size:=5) (v:=exV 3 17 0 [] (.slice (some ⟨qx,0,none⟩) 1 5)) (cs:=[.int .i64 3,.int .i64 17,.int .i64 0,str [],.slice (some ⟨qx,0,none⟩) 1 5]) g44 rfl rfl rfl rfl
  have o5:=o4.put q.h 3 17 0 [] u (by simp)
  have f:=hR.h (m - 1) _ _ (by omega) ⟨_,_,o5,by omega,rfl⟩
  clear o3 hR hq q u o4 g44 o5 lh4 gqx
  replace f:=zb f;replace hm:=zb hm;replace hc:=zb hc
  repeat' (first | simp only [za,aR,aW,zf,zg,Int.reduceBEq,Int.reduceBNe,Nat.reduceBEq,Int.reduceLT,Int.reduceLE,zn, *] | with_reducible (first | refine kcd ?_ ?_ | refine kgd ?_ ?_ | refine kci ?_ ?_ | refine kgi ?_ ?_)<;>intro hc)
  exact f.h
 ·have hc' : ¬ (25:Int) < (m:Int):=by omega
  have ov:=o3.hva.isS.cell.2
  have stq:yh 5 h3 [.pointer (some ⟨q1,0,none⟩),.agg #[.int .i64 e.kind,.int .i64 e.op,.int .i64 e.n,str e.name,va]]=some (undef,h3.set q1 (.blk [.int .i64 e.kind,.int .i64 e.op,.int .i64 e.n,str e.name,va] true)):=ji o3.g1 rfl rfl rfl (by simpa [Value.oneCell'] using ov)
  have gqZ:(h3.set q1 (.blk [.int .i64 e.kind,.int .i64 e.op,.int .i64 e.n,str e.name,va] true)).get q1=_:=Heap.set_getS _ _ _ (by rw [o3.g1];rfl)
  have xZ:ExCB (Bo q1 p q4) (h3.set q1 (.blk [.int .i64 e.kind,.int .i64 e.op,.int .i64 e.n,str e.name,va] true)) e _:=o3.ex.to (Heap.toB_set _ fun id hb=>⟨hb.2.1,hb⟩)
  have f:=hq.h _ _ _ (o3.l0.set' q.h.a _) xZ.plain
  obtain ⟨hZ,ehZ⟩:∃ x,h3.set q1 (.blk [.int .i64 e.kind,.int .i64 e.op,.int .i64 e.n,str e.name,va] true)=x:=⟨_,rfl⟩
  rw [ehZ] at stq gqZ f
  clear o3 hR hq q xZ ov ehZ
  replace f:=zb f;replace hm:=zb hm;replace hc:=zb hc
  repeat' (first | simp only [za,aR,aW,zf,zg,Int.reduceBEq,Int.reduceBNe,Nat.reduceBEq,Int.reduceLT,Int.reduceLE,zn, *] | with_reducible (first | refine kcd ?_ ?_ | refine kgd ?_ ?_ | refine kci ?_ ?_ | refine kgi ?_ ?_)<;>intro hc)
  exact f.h
end Go.Eng.Sy
namespace Go.Eng.Sy
open Go Go.Eng Go.Proofs
theorem ExCsB.length' {B:Nat→Prop}{h:Heap}:∀ {l:List Ex}{xs:List (List Value)},ExCsB B h l xs→xs.length=l.length
 | [],_,hl=>by rw [show _=[] from hl];rfl
 | _::_,_,⟨y,yr,h1,h2,h3⟩=>by rw [h1];simp [ExCsB.length' h3]
def num4V:List Value:=[.int .i64 (-1),.int .i64 1,.int .i64 4294967296,.int .i64 4294967295]
theorem zv2 {k:Nat}(h:k < 4):∃ z,num4V[k]? = some (.int .i64 z):=by
 have:k=0∨k=1∨k=2∨k=3:=by omega
 rcases this with rfl | rfl | rfl | rfl<;>exact ⟨_,rfl⟩
noncomputable def oddSw:CCode:=(.seq (.seq (.reg zj8 [(6,0)]) (.block 0 (.rcond zj7 [] 0 (.reg zj6 []) (.rcond zj5 [] 0 (.reg V8 []) (.rcond V7 [] 0 (.reg V6 []) (.rcond V5 [] 0 (.reg V4 []) (.rcond V3 [] 0 (.reg V2 []) .skip))))))) zv1)
theorem odd_sw {h0 h:Heap}{q1 p q3 q4:Nat}{raw:List Int}{e:Ex}{va:Value}(q:OQ h0 q1 p q3 q4) (o:OB h0 q1 p q3 q4 h raw e va) (hle:e.args.length≤100)
  {N:Nat}{vars:List Nat}{x0 x5 x6:Value}(Q:Value→Heap→Prop) (hq:∀ h' e y,h0.le h' → ExC h' e y→Q (.agg y.toArray) h') :
  W Tryz.prog N vars oddSw (zs7 1 true 5 Q) [x0,.pointer (some ⟨q1,0,none⟩),.pointer (some ⟨p,0,none⟩),.pointer (some ⟨q3,0,none⟩),.pointer (some ⟨q4,0,none⟩),x5,x6] h:=by
 have src:=o.src
 have hqp:(q4 == p)=false:=by have:=q.c;have:=q.d;simp;omega
 have fin:=fun (h' : Heap) (raw' : List Int) (e' : Ex) (va' : Value) (o:OB h0 q1 p q3 q4 h' raw' e' va') vars x6=>odd_end q o (N:=N) (vars:=vars) (x0:=x0) (x5:=x5) (x6:=x6) Q hq
 clear hq
 replace fin:=zb fin;replace q:=zb q;replace o:=zb o;replace src:=zb src;replace hle:=zb hle
 delta oddSw zj8 zj7 zj6 zj5 V8 V7 V6 V5 V4 V3 V2
 repeat' (first | simp only [za,aR,aW,zf,zg,Int.reduceBEq,Int.reduceBNe,Nat.reduceBEq,Int.reduceLT,Int.reduceLE, *] | with_reducible (first | refine kcd ?_ ?_ | refine kgd ?_ ?_ | refine kci ?_ ?_ | refine kgi ?_ ?_)<;>intro hc)
 refine yf (n:=6) src.h (by omega) (by omega) _ fun h2 l2 _ hs2=>?_
 have hlt:=z8 src.h.in (n:=6) (by omega)
 have o2:=o.h.but q.h l2 hs2
 obtain ⟨c,hc⟩:∃ k,(ze raw 6).1=k:=⟨_,rfl⟩
 obtain ⟨r2,hr⟩:∃ k,(ze raw 6).2=k:=⟨_,rfl⟩
 rw [hc] at hlt
 rw [hr] at o2 hs2
 rw [hc]
 clear o src l2 hc hr
 replace o2:=zb o2;replace hs2:=zb hs2
 have:c=0∨c=1∨c=2∨c=3∨c=4∨c=5:=by omega
 clear hlt
 rcases this with rfl | rfl | rfl | rfl | rfl | rfl
 ·have zk:((0:Nat):Int)=0:=rfl
  repeat' (first | simp only [za,aR,aW,zf,zg,Int.reduceBEq,Int.reduceBNe,Nat.reduceBEq,Int.reduceLT,Int.reduceLE, *] | with_reducible (first | refine kcd ?_ ?_ | refine kgd ?_ ?_ | refine kci ?_ ?_ | refine kgi ?_ ?_)<;>intro hc)
  refine yf (n:=8) hs2.h (by omega) (by omega) _ fun h3 l3 _ hs3=>?_
  have o3:=o2.h.but q.h l3 hs3
  have st:=fun v=>zx (v:=.int .i64 v) (off:=0) o3.g4 (by simp) rfl rfl
  simp only [List.set_cons_zero,List.set_cons_succ] at st
  have f:=fun (v:Int) vars x6=>fin.h _ _ _ _ (o3.put q.h v e.op e.n e.name o3.hva o3.len) vars x6
  clear fin o2 o3 hs2 l3 hs3
  replace f:=zb f
  repeat' (first | simp only [za,aR,aW,zf,zg,Int.reduceBEq,Int.reduceBNe,Nat.reduceBEq,Int.reduceLT,Int.reduceLE, *] | with_reducible (first | refine kcd ?_ ?_ | refine kgd ?_ ?_ | refine kci ?_ ?_ | refine kgi ?_ ?_)<;>intro hc)
  exact f.h _ _ _
 ·have zk:((1:Nat):Int)=1:=rfl
  repeat' (first | simp only [za,aR,aW,zf,zg,Int.reduceBEq,Int.reduceBNe,Nat.reduceBEq,Int.reduceLT,Int.reduceLE, *] | with_reducible (first | refine kcd ?_ ?_ | refine kgd ?_ ?_ | refine kci ?_ ?_ | refine kgi ?_ ?_)<;>intro hc)
  refine yf (n:=20) hs2.h (by omega) (by omega) _ fun h3 l3 _ hs3=>?_
  have o3:=o2.h.but q.h l3 hs3
  have st:=fun v=>zx (v:=.int .i64 v) (off:=1) o3.g4 (by simp) rfl rfl
  simp only [List.set_cons_zero,List.set_cons_succ] at st
  have f:=fun (v:Int) vars x6=>fin.h _ _ _ _ (o3.put q.h e.kind v e.n e.name o3.hva o3.len) vars x6
  clear fin o2 o3 hs2 l3 hs3
  replace f:=zb f
  repeat' (first | simp only [za,aR,aW,zf,zg,Int.reduceBEq,Int.reduceBNe,Nat.reduceBEq,Int.reduceLT,Int.reduceLE, *] | with_reducible (first | refine kcd ?_ ?_ | refine kgd ?_ ?_ | refine kci ?_ ?_ | refine kgi ?_ ?_)<;>intro hc)
  exact f.h _ _ _
 ·have zk:((2:Nat):Int)=2:=rfl
  have bn:yi [.int .i64 0,.int .i64 0,.int .i64 0,.int .i64 0] [(0,1),(1,1),(2,1),(3,1)] 4 1 [.int .i64 (-1),.int .i64 1,.int .i64 4294967296,.int .i64 4294967295]=some (num4V,fun id=>.slice (some ⟨id,0,none⟩) 4 1):=rfl
  obtain ⟨qb,h3,eqb,eh3,gqb,lh3⟩:=zo h2 num4V
  have hp2:=hs2.h.lt
  have o3:=o2.h.le lh3
  have hs3:=hs2.h.le lh3
  clear o2 hs2 lh3
  replace o3:=zb o3;replace hs3:=zb hs3
  repeat' (first | simp only [za,aR,aW,zf,zg,Int.reduceBEq,Int.reduceBNe,Nat.reduceBEq,Int.reduceLT,Int.reduceLE, *] | with_reducible (first | refine kcd ?_ ?_ | refine kgd ?_ ?_ | refine kci ?_ ?_ | refine kgi ?_ ?_)<;>intro hc)
  refine yf (n:=4) hs3.h (by omega) (by omega) _ fun h4 l4 _ hs4=>?_
  have hlt:=z8 hs3.h.in (n:=4) (by omega)
  obtain ⟨k4,ek⟩:∃ k,(ze r2 4).1=k:=⟨_,rfl⟩
  rw [ek] at hlt
  rw [ek]
  have o4:=o3.h.but q.h l4 hs4
  have gb:=l4.keep (i:=qb) (by omega) gqb
  have ix:=idx1 (id:=qb) (n:=4) hlt
  obtain ⟨num,vn⟩:=zv2 hlt
  have st:=fun v=>zx (v:=.int .i64 v) (off:=2) o4.g4 (by simp) rfl rfl
  simp only [List.set_cons_zero,List.set_cons_succ] at st
  have f:=fun (v:Int) vars x6=>fin.h _ _ _ _ (o4.put q.h e.kind e.op v e.name o4.hva o4.len) vars x6
  clear fin o3 o4 hs3 l4 hs4 hlt ek
  replace f:=zb f
  repeat' (first | simp only [za,aR,aW,zf,zg,Int.reduceBEq,Int.reduceBNe,Nat.reduceBEq,Int.reduceLT,Int.reduceLE, *] | with_reducible (first | refine kcd ?_ ?_ | refine kgd ?_ ?_ | refine kci ?_ ?_ | refine kgi ?_ ?_)<;>intro hc)
  exact f.h _ _ _
 ·have zk:((3:Nat):Int)=3:=rfl
  repeat' (first | simp only [za,aR,aW,zf,zg,Int.reduceBEq,Int.reduceBNe,Nat.reduceBEq,Int.reduceLT,Int.reduceLE, *] | with_reducible (first | refine kcd ?_ ?_ | refine kgd ?_ ?_ | refine kci ?_ ?_ | refine kgi ?_ ?_)<;>intro hc)
  refine zn7 hs2.h _ fun h3 l3 hs3=>?_
  have o3:=o2.h.but q.h l3 hs3
  have st:=fun m=>zx (v:=str m) (off:=3) o3.g4 (by simp) rfl rfl
  simp only [List.set_cons_zero,List.set_cons_succ] at st
  have f:=fun (m:List UInt8) vars x6=>fin.h _ _ _ _ (o3.put q.h e.kind e.op e.n m o3.hva o3.len) vars x6
  clear fin o2 o3 hs2 l3 hs3
  replace f:=zb f
  repeat' (first | simp only [za,aR,aW,zf,zg,Int.reduceBEq,Int.reduceBNe,Nat.reduceBEq,Int.reduceLT,Int.reduceLE, *] | with_reducible (first | refine kcd ?_ ?_ | refine kgd ?_ ?_ | refine kci ?_ ?_ | refine kgi ?_ ?_)<;>intro hc)
  exact f.h _ _ _
 ·have zk:((4:Nat):Int)=4:=rfl
  have g3:=o2.h.g3
  repeat' (first | simp only [za,aR,aW,zf,zg,Int.reduceBEq,Int.reduceBNe,Nat.reduceBEq,Int.reduceLT,Int.reduceLE,zn, *] | with_reducible (first | refine kcd ?_ ?_ | refine kgd ?_ ?_ | refine kci ?_ ?_ | refine kgi ?_ ?_)<;>intro hc)
  refine xj Zg 2 (by omega) _ h2 p _ _ hs2.h (Kl p h2) fun h3 y l3 hs3 hy=>jw l3 ?_
  have o3:=o2.h.but q.h l3 hs3
  obtain ⟨e1,he1⟩:∃ x,(ye Zg 2 r2).1=x:=⟨_,rfl⟩
  rw [he1] at hy
  have b1:=wn hy.ones
  have hy' : ExCB (Bo q1 p q4) h3 e1 y:=hy.to (Heap.toB_id fun id hb=>o2.h.fresh id hb)
  have hn3:=o3.fresh
  obtain ⟨qa,h4,eqa,eh4,gqa,lh4⟩:=zo h3 y
  have o4:=o3.le lh4
  have hw:OwnS (xf h3.next) h4 5 (.slice (some ⟨qa,0,none⟩) 1 5) [y]:=.inr ⟨qa,rfl,by show h3.next≤qa;omega,by simpa using gqa,by simpa using hy.ones.1⟩
  obtain ⟨xa,a1,a2,a3⟩:=o3.hva
  have hxl:=a3.length'
  obtain ⟨v',h5,ap,ho5,_,k1,k2,nx⟩:=hw.append (vl lh4.next) (SlV.mono lh4 a1.plain) (by omega) (b:=64) (by have:=hle.h;simp only [List.length_cons,List.length_nil];omega) (by have:=hle.h;simp only [List.length_cons,List.length_nil];omega)
  have low:∀ {i:Nat}{x:AObj},i≠qa→h4.get i=some x→h5.get i=some x:=fun hi hg=>by
   rw [k1 _ (by rw [hg];rfl) (fun n s e=>by cases e;exact hi rfl)];exact hg
  have hqa3:h3.next=qa:=by omega
  have o5:OB h0 q1 p q3 q4 h5 (ye Zg 2 r2).2 e va:=by
   have e1:=Heap.lt_of_get o3.g1
   have e3:=Heap.lt_of_get o3.g3
   have e4:=Heap.lt_of_get o3.g4
   have e5:=hs3.lt
   refine ⟨⟨fun i x hx=>low (by have:=Heap.lt_of_get (o3.l0.get hx);omega) (o4.l0.get hx),Nat.le_trans o4.l0.next nx⟩,?_,low (by omega) o4.g1,low (by omega) o4.g3,low (by omega) o4.g4,(o3.hva.to fun id cs own hb hg=>⟨hb,low (by have:=Heap.lt_of_get hg;omega) (lh4.get hg)⟩),o4.len⟩
   obtain ⟨u,s1,s2,s3⟩:=o4.src
   exact ⟨u,low (by omega) s1,s2.to fun id cs own hb hg=>⟨hb,low (by have:id < p:=hb;omega) hg⟩,s3⟩
  have up:Heap.toB (Bo q1 p q4) (Bo q1 p q4) h3 h5:=fun id cs own hb hg=>⟨hb,low (by have:=Heap.lt_of_get hg;omega) (lh4.get hg)⟩
  have hv5:ExsVB (Bo q1 p q4) h5 v' (e1::e.args):=⟨y::xa,(OwnS.slB ho5).to (Heap.toB_id fun id hb=>hn3 id hb),by have:=hle.h;simp only [List.length_cons];omega,y,xa,rfl,hy'.to up,a3.to up⟩
  obtain ⟨ca1,ca2⟩:=hv5.isS.cell
  have g44:=o4.g4
  have st:=zx (off:=4) o5.g4 (by simp) ca1 ca2
  simp only [List.set_cons_zero,List.set_cons_succ] at st
  have f:=fun vars x6=>fin.h _ _ _ _ (o5.put q.h e.kind e.op e.n e.name hv5 (by have:=hle.h;simp only [List.length_cons];omega)) vars x6
  clear fin o2 o3 hs2 l3 hs3 hy hy' hn3 lh4 hw a1 a2 a3 hxl ho5 k1 k2 nx low o5 up hv5 o4 ca1 ca2 he1 hqa3
  replace f:=zb f
  repeat' (first | simp only [za,aR,aW,zf,zg,Int.reduceBEq,Int.reduceBNe,Nat.reduceBEq,Int.reduceLT,Int.reduceLE, *] | with_reducible (first | refine kcd ?_ ?_ | refine kgd ?_ ?_ | refine kci ?_ ?_ | refine kgi ?_ ?_)<;>intro hc)
  exact f.h _ _
 ·have zk:((5:Nat):Int)=5:=rfl
  have f:=fun vars x6=>fin.h _ _ _ _ o2.h vars x6
  clear fin o2 hs2
  replace f:=zb f
  repeat' (first | simp only [za,aR,aW,zf,zg,Int.reduceBEq,Int.reduceBNe,Nat.reduceBEq,Int.reduceLT,Int.reduceLE, *] | with_reducible (first | refine kcd ?_ ?_ | refine kgd ?_ ?_ | refine kci ?_ ?_ | refine kgi ?_ ?_)<;>intro hc)
  exact f.h _ _
end Go.Eng.Sy
namespace Go.Eng.Sy
open Go Go.Eng Go.Proofs
theorem zo6 (c:Sco) (d:Nat) (s:List Int):(ye c d s).1.args.length≤100:=by
 have h1:∀ d s,(ye c d s).1.args.length≤2:=by
  intro d s
  cases d with
  | zero =>
   show (za9 (ze s 8).2).1.args.length≤2
   simp [za9,Ex.args]
  | succ d =>
   unfold ye
   dsimp only
   (repeat' split)<;>simp [za9,Ex.args]
 have:=h1 d s
 omega
theorem Odd_c {h:Heap}{v:Value}{raw:List Int}(hv:Ints h v raw) (hin:∀ z ∈ raw,inI z) (Q:Value→Heap→Prop)
  (hq:∀ h' e y,h.le h' → ExC h' e y→Q (.agg y.toArray) h'):CallW Tryz.prog 17 [v] h Q:=by
 obtain ⟨q1,h1,eq1,eh1,gq1,lh1⟩:=zo h zEx
 obtain ⟨v',hv',hcase⟩:=zd0 hv lh1 100
 rw [show ((100:Nat):Int)=100 from rfl] at hcase
 have lv:=Ints.len hv
 have hvS:=SlV.isS hv'
 have ub:=bSrc hvS
 have bx:=Ua hvS
 have hin' : ∀ z ∈ raw.take 100,inI z:=fun z hz=>hin z (List.mem_of_mem_take hz)
 have hlen' : (raw.take 100).length≤1000:=by rw [List.length_take];omega
 obtain ⟨p,h2,ep,eh2,gp,lh2⟩:=zo h1 [v']
 have hsrc:Src h2 p (raw.take 100):=⟨v',gp,(SlV.below hv').to (lh2.toB fun id hb=>by rw [← ep];exact hb),hin',hlen'⟩
 have g1:=lh2.get gq1
 have hq1p:=Heap.lt_of_get gq1
 rw [ep] at hq1p
 have hq1h:h.next=q1:=eq1
 have sz3:=st_C h2 true
 obtain ⟨q3,h3,eq3,eh3,gq3,lh3⟩:=zo h2 [zw,zw,.int .i64 0,zw,.bool true]
 rw [eh3,eq3] at sz3
 have hs3:=hsrc.le lh3
 have hp3:=hsrc.lt
 have l03:h.le h3:=(lh1.trans lh2).trans lh3
 have g13:=lh3.get g1
 clear hv hin hlen' hv' gp hin' hsrc lh1 lh2 lh3 g1
 replace l03:=zb l03;replace g13:=zb g13;replace hq1p:=zb hq1p;replace hq1h:=zb hq1h;replace hcase:=zb hcase;replace hvS:=zb hvS;replace hs3:=zb hs3;replace hp3:=zb hp3
 refine Z9 (k:=1) (agg:=true) (size:=5) ok17 rfl rfl rfl fun N=>?_
 show W Tryz.prog N _ ((.seq (.reg zk4 [(1,0)]) (.seq (.rcond zk3 [] 0 (.reg zk2 [(0,0)]) .skip) (.seq (.reg zk1 [(2,0)]) (.seq (.reg zk0 [(3,1)]) (.seq (.reg zj9 [(4,1)]) oddSw)))))) _ [v,undef,undef,undef,undef,undef,undef] _
 delta zk4 zk3 zk2 zk1 zk0 zj9
 replace hq:=Hid.mk hq
 refine cut2 (G:=?G) ?b ?main
 case b =>
  intro main
  rcases hcase.h with ⟨z,e⟩ | ⟨z,rfl⟩
  ·repeat' (first | simp only [za,aR,aW,zf,zg,Int.reduceBEq,Int.reduceBNe,Nat.reduceBEq,Int.reduceLT,Int.reduceLE,bC',zn, *] | with_reducible (first | refine kcd ?_ ?_ | refine kgd ?_ ?_ | refine kci ?_ ?_ | refine kgi ?_ ?_)<;>intro hc)
   first | done | exact main
  ·repeat' (first | simp only [za,aR,aW,zf,zg,Int.reduceBEq,Int.reduceBNe,Nat.reduceBEq,Int.reduceLT,Int.reduceLE,bC',zn, *] | with_reducible (first | refine kcd ?_ ?_ | refine kgd ?_ ?_ | refine kci ?_ ?_ | refine kgi ?_ ?_)<;>intro hc)
   first | done | exact main
 case main =>
  refine xj Zg 3 (by omega) _ h3 p _ _ hs3.h (Kl p h3) fun h4 y l4 hs4 hy=>?_
  have ha:=zo6 Zg 3 (raw.take 100)
  obtain ⟨e,he⟩:∃ e,(ye Zg 3 (raw.take 100)).1=e:=⟨_,rfl⟩
  rw [he] at hy ha
  have hp3':=hp3.h
  have hq1p':=hq1p.h
  have hq1h':=hq1h.h
  have g14:=l4.keep (i:=q1) (by omega) g13.h
  have g34:=l4.keep (i:=q3) (by omega) gq3
  have l04:=l03.h.but' (by omega) l4
  have hq3n:=Heap.lt_of_get gq3
  have nx4:=l4.next
  obtain ⟨va,rfl,hva⟩:=hy.cells
  have sz4:=st_Ex h4 (ExCB.of (k:=e.kind) (o:=e.op) (n:=e.n) (m:=e.name) hva).plain
  obtain ⟨q4,h5,eq4,eh5,gq4,lh5⟩:=zo h4 [.int .i64 e.kind,.int .i64 e.op,.int .i64 e.n,str e.name,va]
  rw [eh5,eq4] at sz4
  have o5:OB h q1 p q3 q4 h5 _ e va:=⟨l04.trans lh5,hs4.le lh5,lh5.get g14,lh5.get g34,gq4,hva.to fun id cs own hb hg=>⟨⟨by have:h3.next≤id:=hb;omega,by have:h3.next≤id:=hb;omega,by have:=Heap.lt_of_get hg;omega⟩,lh5.get hg⟩,by omega⟩
  have qq:OQ h q1 p q3 q4:=⟨by omega,hq1p',by omega,by omega⟩
  have f:=fun vars x5 x6=>odd_sw (h0:=h) qq o5 ha (N:=N) (vars:=vars) (x0:=v') (x5:=x5) (x6:=x6) Q hq.h
  clear hcase lv ub bx hq l4 hs4 hy ha l04 g14 g34 hva lh5 o5 he
  replace f:=zb f
  repeat' (first | simp only [za,aR,aW,zf,zg,Int.reduceBEq,Int.reduceBNe,Nat.reduceBEq,Int.reduceLT,Int.reduceLE, *] | with_reducible (first | refine kcd ?_ ?_ | refine kgd ?_ ?_ | refine kci ?_ ?_ | refine kgi ?_ ?_)<;>intro hc)
  exact f.h _ _ _
end Go.Eng.Sy
namespace Go.Eng.Sy
open Go Go.Eng Go.Proofs
theorem st_Pq (h:Heap){p:Prg}{x:List Value}(hx:PrC h p x):yh 4 (h.alloc (.blk zP true)) [.pointer (some ⟨h.next,0,none⟩),.agg x.toArray]=some (undef,h.alloc (.blk x true)):=by
 obtain ⟨d,r,t,rfl,hd,hr,ht⟩:=hx
 exact zy rfl rfl rfl (by simpa [Value.oneCell'] using ⟨hd.one,hr.one,ht.one⟩)
theorem PrC.ones {h:Heap}{p:Prg}{x:List Value}(hx:PrC h p x):x.length=4∧x.all (·.oneCell')=true:=by
 obtain ⟨d,r,t,rfl,hd,hr,ht⟩:=hx
 exact ⟨rfl,by simpa [Value.oneCell'] using ⟨hd.one,hr.one,ht.one⟩⟩
theorem bs_pr3 {x y z:List Value}(hx:x.length=4∧x.all (·.oneCell')=true) (hy:y.length=4∧y.all (·.oneCell')=true) (hz:z.length=4∧z.all (·.oneCell')=true) :
  yi [.int .i64 0,.slice none 0 0,.slice none 0 0,.slice none 0 0,.int .i64 0,.slice none 0 0,.slice none 0 0,.slice none 0 0,.int .i64 0,.slice none 0 0,.slice none 0 0,.slice none 0 0] [(0,4),(4,4),(8,4)] 3 4 [.agg x.toArray,.agg y.toArray,.agg z.toArray]=some (x++y++z,fun id=>.slice (some ⟨id,0,none⟩) 3 4):=by
 have four:∀ {l:List Value},l.length=4 → ∃ a b c d,l=[a,b,c,d]:=fun {l} h=>by
  match l,h with
  | [a,b,c,d],_=>exact ⟨a,b,c,d,rfl⟩
 obtain ⟨x1,x2,x3,x4,rfl⟩:=four hx.1
 obtain ⟨y1,y2,y3,y4,rfl⟩:=four hy.1
 obtain ⟨z1,z2,z3,z4,rfl⟩:=four hz.1
 have e1:=hx.2
 have e2:=hy.2
 have e3:=hz.2
 simp only [List.all_cons,List.all_nil,Bool.and_true,Bool.and_eq_true] at e1 e2 e3
 simp [yi,Zo,Value.cells,e1,e2,e3]
theorem nes_S (l:List UInt8):zq3 .neq ⟨l.toArray⟩ ⟨l.toArray⟩=some (.bool false):=by rw [zb0];simp
set_option maxHeartbeats 2000000 in
theorem zm3 {h:Heap}{v1 v2 v3:Value}{one two raw:List Int}(h1:Ints h v1 one) (i1:∀ z ∈ one,inI z) (h2:Ints h v2 two) (i2:∀ z ∈ two,inI z) (h3:Ints h v3 raw) (i3:∀ z ∈ raw,inI z) (all:Bool) (Q:Value→Heap→Prop) (hq:∀ h',Q (.bool true) h'):CallW Tryz.prog 3 [v1,v2,v3,.bool all] h Q:=by
 replace h1:=zb h1;replace i1:=zb i1;replace h2:=zb h2;replace i2:=zb i2;replace h3:=zb h3;replace i3:=zb i3
 refine zi (k:=4) ok3 rfl rfl rfl fun N=>?_
 rw [show y0 c3 [v1,v2,v3,.bool all]=[v1,v2,v3,.bool all,undef,undef,undef,undef,undef,undef,undef,undef,undef,undef,undef,undef,undef,undef,undef,undef,undef,undef,undef,undef,undef] from rfl]
 delta c3
 replace hq:=zb hq
 repeat' (first | simp only [za,aR,aW,zf,zg,Int.reduceBEq,Int.reduceBNe,Nat.reduceBEq,Int.reduceLT,Int.reduceLE, *] | with_reducible (first | refine kcd ?_ ?_ | refine kgd ?_ ?_ | refine kci ?_ ?_ | refine kgi ?_ ?_)<;>intro hc)
 refine awake_c h _ fun hA lA=>?_
 have a1:=SlV.mono lA h1.h
 have a2:=SlV.mono lA h2.h
 have a3:=SlV.mono lA h3.h
 clear h1 h2 h3 lA
 replace a1:=zb a1;replace a2:=zb a2;replace a3:=zb a3
 repeat' (first | simp only [za,aR,aW,zf,zg,Int.reduceBEq,Int.reduceBNe,Nat.reduceBEq,Int.reduceLT,Int.reduceLE, *] | with_reducible (first | refine kcd ?_ ?_ | refine kgd ?_ ?_ | refine kci ?_ ?_ | refine kgi ?_ ?_)<;>intro hc)
 refine Wild_c a2.h i2.h _ fun hB q yq lB hyq okq szq=>?_
 have stq:=st_Pq hB hyq
 obtain ⟨q6,hC,eq6,ehC,gq6,lhC⟩:=zo hB yq
 rw [ehC,eq6] at stq
 have xq:=hyq.mono lhC
 have l:=lB.trans lhC
 have a1:=SlV.mono l a1.h
 have a3:=SlV.mono l a3.h
 clear hyq lB lhC l a2
 replace a1:=zb a1;replace a3:=zb a3;replace okq:=zb okq;replace szq:=zb szq;replace xq:=zb xq
 repeat' (first | simp only [za,aR,aW,zf,zg,Int.reduceBEq,Int.reduceBNe,Nat.reduceBEq,Int.reduceLT,Int.reduceLE, *] | with_reducible (first | refine kcd ?_ ?_ | refine kgd ?_ ?_ | refine kci ?_ ?_ | refine kgi ?_ ?_)<;>intro hc)
 refine Wild_c a1.h i1.h _ fun hD g1 y1 lD hy1 ok1 sz1=>jr lD.ext ?_
 have a1:=SlV.mono lD a1.h
 have a3:=SlV.mono lD a3.h
 have xq:=xq.h.mono lD
 have gq6:=lD.get gq6
 clear lD
 replace a1:=zb a1;replace a3:=zb a3;replace xq:=zb xq;replace hy1:=zb hy1;replace ok1:=zb ok1;replace sz1:=zb sz1
 repeat' (first | simp only [za,aR,aW,zf,zg,Int.reduceBEq,Int.reduceBNe,Nat.reduceBEq,Int.reduceLT,Int.reduceLE, *] | with_reducible (first | refine kcd ?_ ?_ | refine kgd ?_ ?_ | refine kci ?_ ?_ | refine kgi ?_ ?_)<;>intro hc)
 refine Prog_c a3.h i3.h all _ fun hE d r t xs lE hmd=>jr lE.ext ?_
 have good:=K8 raw all
 have szp:=zu2 raw all
 obtain ⟨p,hp⟩:∃ p,X2 raw all=p:=⟨_,rfl⟩
 rw [hp] at hmd good szp
 rw [hp]
 have xp:=hmd.prc
 have xq:=xq.h.mono lE
 have x1:=hy1.h.mono lE
 have gq6:=lE.get gq6
 have a1:=SlV.mono lE a1.h
 have a3:=SlV.mono lE a3.h
 have bs:=bs_pr3 x1.ones xp.ones xq.ones
 obtain ⟨yp,eyp⟩:∃ y:List Value,[Value.int .i64 p.harts,d,r,t]=y:=⟨_,rfl⟩
 have agp:Value.agg #[Value.int .i64 p.harts,d,r,t] = .agg yp.toArray:=by rw [← eyp]
 rw [eyp] at xp bs
 have sl:=SlV.new hE (s:=4) (xs:=[y1,yp,yq]) (fun x hx=>by
  simp only [List.mem_cons,List.not_mem_nil,or_false] at hx
  rcases hx with rfl | rfl | rfl
  ·exact x1.ones.1
  ·exact xp.ones.1
  ·exact xq.ones.1) (cells:=y1++yp++yq) (by simp) (n:=3) rfl
 obtain ⟨qw,hF,eqw,ehF,gqw,lhF⟩:=zo hE (y1++yp++yq)
 rw [ehF,eqw] at sl
 have all3:∀ (i:Nat) (y:List Value),[y1,yp,yq][i]? = some y → ∃ g,PrC hF g y∧g.ok∧(jq g=true→(vd g).length≤ka):=fun i y hy=>by
  have:i=0∨i=1∨i=2:=by
   have:=(List.getElem?_eq_some_iff.1 hy).1
   simp only [List.length_cons,List.length_nil] at this;omega
  rcases this with rfl | rfl | rfl
  ·cases hy;exact ⟨g1,x1.mono lhF,ok1.h,fun hr=>X3 hr sz1.h⟩
  ·cases hy;exact ⟨p,xp.mono lhF,good.ok,fun hr=>X3 hr fun u hu=>Nat.le_trans (nSs_le u hu) (by omega)⟩
  ·cases hy;exact ⟨q,xq.mono lhF,okq.h,fun hr=>X3 hr szq.h⟩
 have xqF:=xq.mono lhF
 have gq6F:=lhF.get gq6
 have a1:=SlV.mono lhF a1
 have a3:=SlV.mono lhF a3
 have l6:yq.length=4:=xq.ones.1
 have pq:qk true 0 4 yq=some (.agg yq.toArray):=by
  simp only [qk,List.drop_zero,if_true]
  rw [if_pos (by omega),List.take_of_length_le (by omega)]
 clear xp xq x1 hmd good szp hp eyp hy1 ok1 sz1 szq lE lhF gqw
 replace a1:=zb a1;replace a3:=zb a3;replace all3:=zb all3;replace sl:=zb sl;replace xqF:=zb xqF
 rw [agp]
 repeat' (first | simp only [za,aR,aW,zf,zg,Int.reduceBEq,Int.reduceBNe,Nat.reduceBEq,Int.reduceLT,Int.reduceLE, *] | with_reducible (first | refine kcd ?_ ?_ | refine kgd ?_ ?_ | refine kci ?_ ?_ | refine kgi ?_ ?_)<;>intro hc)
 have z0:((0:Nat):Int)=0:=rfl
 refine LoopW.upto 3 (fun i e h2=>hF.le h2 ∧ ∃ x7 x8 x9 x10 x11 x20,e=[v1,v2,v3,.bool all,.bool false,.bool true,.pointer (some ⟨q6,0,none⟩),x7,x8,x9,x10,x11,undef,undef,undef,undef,undef,.slice (some ⟨qw,0,none⟩) 3 4,.int .i64 3,.int .i64 (i:Int),x20,undef,undef,undef,undef]) ?_ (Nat.zero_le _) ⟨.refl _,undef,undef,undef,undef,undef,undef,rfl⟩
 rintro i _ hG R hi ⟨lG,x7,x8,x9,x10,x11,x20,rfl⟩ hR
 delta c3_l11
 by_cases hlt:i < 3
 ·have hlt' : (i:Int) < 3:=by omega
  have hw:IntKind.i64.wrap ((i:Int) + 1)=((i + 1:Nat):Int):=by rw [z6 (by omega) (by omega)];rfl
  obtain ⟨y,hy⟩:∃ y,[y1,yp,yq][i]? = some y:=⟨_,List.getElem?_eq_getElem (by simpa using hlt)⟩
  obtain ⟨g,hg,okg,szg⟩:=all3.h i y hy
  obtain ⟨id,off,cells,own,e1,e2,e3,_⟩:=(SlV.mono lG sl.h).elem hy
  have hg:=hg.mono lG
  have st:=st_Pq hG hg
  have ly:y.length=4:=hg.ones.1
  have py:qk true 0 4 y=some (.agg y.toArray):=by
   simp only [qk,List.drop_zero,if_true]
   rw [if_pos (by omega),List.take_of_length_le (by omega)]
  obtain ⟨q7,hH,eq7,ehH,gq7,lhH⟩:=zo hG y
  rw [ehH,eq7] at st
  have xg:=hg.mono lhH
  have lH:=lG.trans lhH
  have xqH:=xqF.h.mono lH
  have gq6H:=lH.get gq6F
  clear hy hg lhH lG
  replace xg:=zb xg;replace okg:=zb okg;replace szg:=zb szg;replace lH:=zb lH;replace xqH:=zb xqH
  repeat' (first | simp only [za,aR,aW,zf,zg,Int.reduceBEq,Int.reduceBNe,Nat.reduceBEq,Int.reduceLT,Int.reduceLE, *] | with_reducible (first | refine kcd ?_ ?_ | refine kgd ?_ ?_ | refine kci ?_ ?_ | refine kgi ?_ ?_)<;>intro hc)
  refine yd8 xg.h szg.h _ fun h5 l5=>?_
  have gq6H:=l5.get gq6H
  have gq7:=l5.get gq7
  have xg:=xg.h.mono l5
  have xqH:=xqH.h.mono l5
  have lH:=lH.h.trans l5
  obtain ⟨s,hs⟩:∃ s,(if jq g then vd g else [])=s:=⟨_,rfl⟩
  obtain ⟨er,her⟩:∃ s:Int,(if jq g then 0 else 1)=s:=⟨_,rfl⟩
  rw [hs,her]
  clear l5
  replace xg:=zb xg;replace lH:=zb lH;replace xqH:=zb xqH;replace hs:=zb hs;replace her:=zb her
  repeat' (first | simp only [za,aR,aW,zf,zg,Int.reduceBEq,Int.reduceBNe,Nat.reduceBEq,Int.reduceLT,Int.reduceLE, *] | with_reducible (first | refine kcd ?_ ?_ | refine kgd ?_ ?_ | refine kci ?_ ?_ | refine kgi ?_ ?_)<;>intro hc)
  refine zm9 xg.h szg.h _ fun h5 l5=>?_
  have gq6H:=l5.get gq6H
  have gq7:=l5.get gq7
  have xg:=xg.h.mono l5
  have xqH:=xqH.h.mono l5
  have lH:=lH.h.trans l5
  rw [hs.h,her.h]
  have ns:=nes_S s
  clear l5 hs her szg
  replace xg:=zb xg;replace lH:=zb lH;replace xqH:=zb xqH
  repeat' (first | simp only [za,aR,aW,zf,zg,Int.reduceBEq,Int.reduceBNe,Nat.reduceBEq,Int.reduceLT,Int.reduceLE, *] | with_reducible (first | refine kcd ?_ ?_ | refine kgd ?_ ?_ | refine kci ?_ ?_ | refine kgi ?_ ?_)<;>intro hc)
  refine Uc xg.h _ fun h5 l5=>jr l5.ext ?_
  have gq6H:=l5.get gq6H
  have gq7:=l5.get gq7
  have xg:=xg.h.mono l5
  have xqH:=xqH.h.mono l5
  have lH:=lH.h.trans l5
  obtain ⟨rb,hrb⟩:∃ s,jq g=s:=⟨_,rfl⟩
  rw [hrb]
  clear l5
  replace xg:=zb xg;replace lH:=zb lH;replace xqH:=zb xqH;replace hrb:=zb hrb
  repeat' (first | simp only [za,aR,aW,zf,zg,Int.reduceBEq,Int.reduceBNe,Nat.reduceBEq,Int.reduceLT,Int.reduceLE, *] | with_reducible (first | refine kcd ?_ ?_ | refine kgd ?_ ?_ | refine kci ?_ ?_ | refine kgi ?_ ?_)<;>intro hc)
  refine K7 xg.h _ fun h5 l5=>?_
  have gq6H:=l5.get gq6H
  have gq7:=l5.get gq7
  have xg:=xg.h.mono l5
  have xqH:=xqH.h.mono l5
  have lH:=lH.h.trans l5
  rw [hrb.h]
  have eb:pEqB true [.bool rb,.bool rb]=some (.bool false):=by cases rb<;>rfl
  clear l5 hrb
  replace xg:=zb xg;replace lH:=zb lH;replace xqH:=zb xqH
  repeat' (first | simp only [za,aR,aW,zf,zg,Int.reduceBEq,Int.reduceBNe,Nat.reduceBEq,Int.reduceLT,Int.reduceLE, *] | with_reducible (first | refine kcd ?_ ?_ | refine kgd ?_ ?_ | refine kci ?_ ?_ | refine kgi ?_ ?_)<;>intro hc)
  refine yd2 xg.h xqH.h okg.h okq.h _ fun k1 h5 hk1 l5=>jr l5.ext ?_
  have gq6H:=l5.get gq6H
  have gq7:=l5.get gq7
  have xg:=xg.h.mono l5
  have xqH:=xqH.h.mono l5
  have lH:=lH.h.trans l5
  clear l5
  replace xg:=zb xg;replace lH:=zb lH;replace xqH:=zb xqH;replace hk1:=zb hk1
  repeat' (first | simp only [za,aR,aW,zf,zg,Int.reduceBEq,Int.reduceBNe,Nat.reduceBEq,Int.reduceLT,Int.reduceLE, *] | with_reducible (first | refine kcd ?_ ?_ | refine kgd ?_ ?_ | refine kci ?_ ?_ | refine kgi ?_ ?_)<;>intro hc)
  refine zt2 xg.h xqH.h okg.h okq.h _ fun k2 h5 hk2 l5=>?_
  have ek:k2=k1:=by rw [Bool.eq_iff_iff,hk1.h,hk2]
  subst ek
  have gq6H:=l5.get gq6H
  have gq7:=l5.get gq7
  have xg:=xg.h.mono l5
  have lH:=lH.h.trans l5
  have eb2:pEqB true [.bool k2,.bool k2]=some (.bool false):=by cases k2<;>rfl
  clear l5 hk1 hk2 xqH
  replace xg:=zb xg;replace lH:=zb lH
  repeat' (first | simp only [za,aR,aW,zf,zg,Int.reduceBEq,Int.reduceBNe,Nat.reduceBEq,Int.reduceLT,Int.reduceLE, *] | with_reducible (first | refine kcd ?_ ?_ | refine kgd ?_ ?_ | refine kci ?_ ?_ | refine kgi ?_ ?_)<;>intro hc)
  refine Size_c xg.h _ fun h5 l5=>jr l5.ext ?_
  have gq6H:=l5.get gq6H
  have gq7:=l5.get gq7
  have xg:=xg.h.mono l5
  have lH:=lH.h.trans l5
  obtain ⟨z,hz⟩:∃ z,IntKind.i64.wrap (cntP g)=z:=⟨_,rfl⟩
  rw [hz]
  clear l5
  replace xg:=zb xg;replace lH:=zb lH;replace hz:=zb hz
  repeat' (first | simp only [za,aR,aW,zf,zg,Int.reduceBEq,Int.reduceBNe,Nat.reduceBEq,Int.reduceLT,Int.reduceLE, *] | with_reducible (first | refine kcd ?_ ?_ | refine kgd ?_ ?_ | refine kci ?_ ?_ | refine kgi ?_ ?_)<;>intro hc)
  refine zt1 xg.h _ fun h5 l5=>?_
  rw [hz.h]
  have eb3:(z != z)=false:=by simp
  have f:=fun x7 x8 x9 x10 x11 x20=>hR.h _ h5 hlt ⟨lH.h.trans l5,x7,x8,x9,x10,x11,x20,rfl⟩
  clear hR l5 lH xg hz
  replace f:=zb f
  repeat' (first | simp only [za,aR,aW,zf,zg,Int.reduceBEq,Int.reduceBNe,Nat.reduceBEq,Int.reduceLT,Int.reduceLE, *] | with_reducible (first | refine kcd ?_ ?_ | refine kgd ?_ ?_ | refine kci ?_ ?_ | refine kgi ?_ ?_)<;>intro hc)
  exact f.h _ _ _ _ _ _
 have hi3:i=3:=by omega
 subst hi3
 have hlt' : ¬ ((3:Nat):Int) < 3:=by decide
 have b1:=SlV.mono lG a1.h
 have b3:=SlV.mono lG a3.h
 clear hR hlt all3 sl xqF okq a1 a3 lG gq6F hi
 replace b1:=zb b1;replace b3:=zb b3
 repeat' (first | simp only [za,aR,aW,zf,zg,Int.reduceBEq,Int.reduceBNe,Nat.reduceBEq,Int.reduceLT,Int.reduceLE, *] | with_reducible (first | refine kcd ?_ ?_ | refine kgd ?_ ?_ | refine kci ?_ ?_ | refine kgi ?_ ?_)<;>intro hc)
 refine Odd_c b1.h i1.h _ fun hJ ea ya lJ hea=>?_
 have b3:=SlV.mono lJ b3.h
 clear lJ b1
 replace b3:=zb b3;replace hea:=zb hea
 repeat' (first | simp only [za,aR,aW,zf,zg,Int.reduceBEq,Int.reduceBNe,Nat.reduceBEq,Int.reduceLT,Int.reduceLE, *] | with_reducible (first | refine kcd ?_ ?_ | refine kgd ?_ ?_ | refine kci ?_ ?_ | refine kgi ?_ ?_)<;>intro hc)
 refine Raw_c b3.h i3.h _ fun hK yb lK heb=>?_
 have xa:=hea.h.mono lK
 have xb:=heb.plain
 obtain ⟨eb,heb'⟩:∃ e,rawL raw=e:=⟨_,rfl⟩
 rw [heb'] at xb
 have bs:=Kh xa.ones xb.ones
 have sl:=SlV.new hK (s:=5) (xs:=[ya,yb]) (fun x hx=>by
  simp only [List.mem_cons,List.not_mem_nil,or_false] at hx
  rcases hx with rfl | rfl
  ·exact xa.ones.1
  ·exact xb.ones.1) (cells:=ya++yb) (by simp) (n:=2) rfl
 obtain ⟨qv,hL,eqv,ehL,gqv,lhL⟩:=zo hK (ya++yb)
 rw [ehL,eqv] at sl
 have all2:∀ (i:Nat) (y:List Value),[ya,yb][i]? = some y → ∃ e,ExC hL e y:=fun i y hy=>by
  have:i=0∨i=1:=by
   have:=(List.getElem?_eq_some_iff.1 hy).1
   simp only [List.length_cons,List.length_nil] at this;omega
  rcases this with rfl | rfl
  ·cases hy;exact ⟨ea,xa.mono lhL⟩
  ·cases hy;exact ⟨eb,xb.mono lhL⟩
 clear xa xb hea heb heb' lK lhL b3 gqv
 replace all2:=zb all2;replace sl:=zb sl
 repeat' (first | simp only [za,aR,aW,zf,zg,Int.reduceBEq,Int.reduceBNe,Nat.reduceBEq,Int.reduceLT,Int.reduceLE, *] | with_reducible (first | refine kcd ?_ ?_ | refine kgd ?_ ?_ | refine kci ?_ ?_ | refine kgi ?_ ?_)<;>intro hc)
 refine LoopW.upto 2 (fun i e h2=>hL.le h2 ∧ ∃ x12 x13 x14 x15 x16 x24,e=[v1,v2,v3,.bool all,.bool false,.bool true,.pointer (some ⟨q6,0,none⟩),x7,x8,x9,x10,x11,x12,x13,x14,x15,x16,.slice (some ⟨qw,0,none⟩) 3 4,.int .i64 3,.int .i64 ((3:Nat):Int),.bool false,.slice (some ⟨qv,0,none⟩) 2 5,.int .i64 2,.int .i64 (i:Int),x24]) ?_ (Nat.zero_le _) ⟨.refl _,undef,undef,undef,undef,undef,undef,rfl⟩
 rintro j _ hM R hj ⟨lM,x12,x13,x14,x15,x16,x24,rfl⟩ hR
 delta c3_l20
 by_cases hlt:j < 2
 ·have hlt' : (j:Int) < 2:=by omega
  have hw:IntKind.i64.wrap ((j:Int) + 1)=((j + 1:Nat):Int):=by rw [z6 (by omega) (by omega)];rfl
  obtain ⟨y,hy⟩:∃ y,[ya,yb][j]? = some y:=⟨_,List.getElem?_eq_getElem (by simpa using hlt)⟩
  obtain ⟨e,he⟩:=all2.h j y hy
  obtain ⟨id,off,cells,own,e1,e2,e3,_⟩:=(SlV.mono lM sl.h).elem hy
  have he:=he.mono lM
  have st:=st_Ex hM he
  have ly:y.length=5:=he.ones.1
  have py:qk true 0 5 y=some (.agg y.toArray):=by
   simp only [qk,List.drop_zero,if_true]
   rw [if_pos (by omega),List.take_of_length_le (by omega)]
  obtain ⟨q12,hN,eq12,ehN,gq12,lhN⟩:=zo hM y
  rw [ehN,eq12] at st
  have xg:=he.mono lhN
  have lH:=lM.trans lhN
  clear hy he lhN lM
  replace xg:=zb xg;replace lH:=zb lH
  repeat' (first | simp only [za,aR,aW,zf,zg,Int.reduceBEq,Int.reduceBNe,Nat.reduceBEq,Int.reduceLT,Int.reduceLE, *] | with_reducible (first | refine kcd ?_ ?_ | refine kgd ?_ ?_ | refine kci ?_ ?_ | refine kgi ?_ ?_)<;>intro hc)
  refine Expr_c xg.h _ fun h5 l5=>?_
  have gq12:=l5.get gq12
  have xg:=xg.h.mono l5
  have lH:=lH.h.trans l5
  obtain ⟨s,hs⟩:∃ s,(if yg e 30 then zq e else [])=s:=⟨_,rfl⟩
  obtain ⟨er,her⟩:∃ s:Int,(if yg e 30 then 0 else 1)=s:=⟨_,rfl⟩
  rw [hs,her]
  clear l5
  replace xg:=zb xg;replace lH:=zb lH;replace hs:=zb hs;replace her:=zb her
  repeat' (first | simp only [za,aR,aW,zf,zg,Int.reduceBEq,Int.reduceBNe,Nat.reduceBEq,Int.reduceLT,Int.reduceLE, *] | with_reducible (first | refine kcd ?_ ?_ | refine kgd ?_ ?_ | refine kci ?_ ?_ | refine kgi ?_ ?_)<;>intro hc)
  refine zt5 xg.h _ fun h5 l5=>?_
  rw [hs.h,her.h]
  have ns:=nes_S s
  have f:=fun x12 x13 x14 x15 x16 x24=>hR.h _ h5 hlt ⟨lH.h.trans l5,x12,x13,x14,x15,x16,x24,rfl⟩
  clear hR l5 lH xg hs her
  replace f:=zb f
  repeat' (first | simp only [za,aR,aW,zf,zg,Int.reduceBEq,Int.reduceBNe,Nat.reduceBEq,Int.reduceLT,Int.reduceLE, *] | with_reducible (first | refine kcd ?_ ?_ | refine kgd ?_ ?_ | refine kci ?_ ?_ | refine kgi ?_ ?_)<;>intro hc)
  exact f.h _ _ _ _ _ _
 have hlt' : ¬ (j:Int) < 2:=by omega
 have g:=Hid.mk (hq.h hM)
 clear hR hlt all2 sl lM hj hq
 repeat' (first | simp only [za,aR,aW,zf,zg,Int.reduceBEq,Int.reduceBNe,Nat.reduceBEq,Int.reduceLT,Int.reduceLE, *] | with_reducible (first | refine kcd ?_ ?_ | refine kgd ?_ ?_ | refine kci ?_ ?_ | refine kgi ?_ ?_)<;>intro hc)
 exact g.h
end Go.Eng.Sy

/-
  Part of a proof of the laws of layer 09 (ceiling): what each function does.
  Conditions: none.
-/
import Derived.Test.YtddbbcpelbcahaaGreatDoorBa
import Derived.Test.YtddbbcpelbcahaaGreatDoorEd
set_option linter.unusedSimpArgs false
set_option linter.unusedVariables false
namespace Go.Eng.Sy
open Go Go.Eng Go.Proofs
noncomputable section
def nmF (b:UInt8):Bool:=Nat.ble 97 b.toNat && Nat.ble b.toNat 122 || Nat.ble 65 b.toNat && Nat.ble b.toNat 90 || Nat.beq b.toNat 95 || Nat.ble 48 b.toNat && Nat.ble b.toNat 57
theorem ble_d (a b:Nat):Nat.ble a b=decide (a≤b):=by
 rw [Bool.eq_iff_iff];simp
theorem beq_d (a b:Nat):Nat.beq a b=decide (a=b):=by
 rw [Bool.eq_iff_iff];simp
theorem nmF_eq (b:UInt8):nmF b=nm b:=by
 unfold nmF nm nmZ;simp only [ble_d,beq_d];rw [Bool.eq_iff_iff];simp;omega
def runF (l:lBq):Nat:=List.rec (motive:=fun _=>Nat) 0 (fun b _ n=>match nmF b with | true=>n + 1 | false=>0) l
theorem zr9:∀ (l:lBq),runF l=Kh l
 | []=>rfl
 | b::r=>by
  show (match nmF b with | true=>runF r + 1 | false=>0)=_;rw [nmF_eq,zr9 r];unfold Kh;rw [List.takeWhile_cons];cases nm b<;>rfl
def inF (s:lBq) (l:List (lBq)):Bool:=List.rec (motive:=fun _=>Bool) false (fun w _ ih=>match eqL w s with | true=>true | false=>ih) l
theorem yr8 (s:lBq):∀ (l:List (lBq)),inF s l=l.contains s
 | []=>rfl
 | w::r=>by
  show (match eqL w s with | true=>true | false=>inF s r)=_;rw [zo5,yr8 s r,List.contains_cons];rw [show (s == w)=(w == s) from by rw [Bool.eq_iff_iff,beq_iff_eq,beq_iff_eq];exact eq_comm];cases w == s<;>rfl
def nameF (l:lBq):Bool:=match l with
 | []=>false
 | b::r=>Nat.ble (yr1 (b::r)) 20 && Nat.beq (runF (b::r)) (yr1 (b::r)) && Nat.blt 57 b.toNat && !inF (b::r) wordsL
theorem nameF_eq (l:lBq):nameF l=zo l:=by
 cases l with
 | nil=>rfl
 | cons b r =>
  simp only [nameF,zo,Zf,yr8,zr9,Z6,ble_d,beq_d,Nat.blt];rw [Bool.eq_iff_iff];simp;omega
def prefF (p:lBq):lBq→Bool:=List.rec (motive:=fun _=>lBq→Bool) (fun _=>true) (fun a _ ih l=>match l with
 | []=>false
 | b::s=>match eqU a b with | true=>ih s | false=>false) p
theorem zz2:∀ (p l:lBq),prefF p l=p.isPrefixOf l
 | [],l=>by cases l<;>rfl
 | a::p,[]=>rfl
 | a::p,b::s=>by
  show (match eqU a b with | true=>prefF p s | false=>false)=_;rw [eqU_eq,zz2 p s,List.isPrefixOf];cases a == b<;>rfl
def gWord (args:lVq):Option Value:=match args with | [.string ⟨⟨l⟩⟩]=>some (.bool (inF l wordsL)) | _=>none
def gName (args:lVq):Option Value:=match args with | [.string ⟨⟨l⟩⟩]=>some (.bool (nameF l)) | _=>none
def gRun (args:lVq):Option Value:=match args with | [.string ⟨⟨l⟩⟩]=>(match Nat.ble (yr1 l) 1000000 with | true=>Jw (runF l) fun n=>some (iI (.ofNat n)) | false=>none) | _=>none
def gPref (args:lVq):Option Value:=match args with | [.string ⟨⟨l⟩⟩,.string ⟨⟨p⟩⟩]=>some (.bool (prefF p l)) | _=>none
def smOf (f:FuncId):Option (lVq→Option Value):=match Nat.beq f 103 with
 | true=>some gPref
 | false=>match Nat.beq f 99 with
  | true=>some gRun
  | false=>match Nat.beq f 106 with
   | true=>some gWord
   | false=>match Nat.beq f 66 with
    | true=>some gName
    | false=>none
end
theorem smOf_ok (f:FuncId) (g:lVq→Option Value) (h:smOf f=some g):XOk Tryz.prog f (.sum g):=by
 unfold smOf at h;split at h
 ·rename_i hf;cases h;obtain rfl:=Nat.eq_of_beq_eq_true hf;intro args v hv;unfold gPref at hv;split at hv<;>first | (cases hv;done) | skip
  rename_i l p;cases hv;refine zx8 (fun Q hq=>?_) (by intro a ha;simp at ha;rcases ha with rfl | rfl<;>rfl) rfl;exact zu0 (l:=l) (p:=p) _ Q (by rw [← zz2];exact hq _ (Heap.le.refl _))
 ·split at h
  ·rename_i hf;cases h;obtain rfl:=Nat.eq_of_beq_eq_true hf;intro args v hv;unfold gRun at hv;split at hv<;>first | (cases hv;done) | skip
   rename_i l;split at hv<;>first | (cases hv;done) | skip
   rename_i hl;rw [ug] at hv;cases hv;rw [Z6] at hl;refine zx8 (fun Q hq=>?_) (by intro a ha;simp at ha;subst ha;rfl) rfl;exact run_c (l:=l) (by have:=Nat.le_of_ble_eq_true hl;omega) _ Q (by rw [← zr9];exact hq)
  ·split at h
   ·rename_i hf;cases h;obtain rfl:=Nat.eq_of_beq_eq_true hf;intro args v hv;unfold gWord at hv;split at hv<;>first | (cases hv;done) | skip
    rename_i l;cases hv;refine zx8 (fun Q hq=>?_) (by intro a ha;simp at ha;subst ha;rfl) rfl;exact word_c (l:=l) _ Q (by unfold Zf;rw [← yr8];exact hq)
   ·split at h<;>first | (cases h;done) | skip
    rename_i hf;cases h;obtain rfl:=Nat.eq_of_beq_eq_true hf;intro args v hv;unfold gName at hv;split at hv<;>first | (cases hv;done) | skip
    rename_i l;cases hv;refine zx8 (fun Q hq=>?_) (by intro a ha;simp at ha;subst ha;rfl) rfl;exact Yp (l:=l) _ Q (by rw [← nameF_eq];exact hq)
end Go.Eng.Sy
namespace Go.Eng
open Go Go.Eng Go.Proofs
theorem Sim.hush {base:Nat}{G G' : Nat→Option AObj}{ρ:Ren}{w:World}(h:Sim base G ρ w) (hk:∀ id,G' id=G id∨G' id=some .dead∧(G id).isSome=true):Sim base G' ρ w where
 dom:=fun id=>by
  rcases hk id with e | ⟨e,e'⟩
  ·rw [e];exact h.dom id
  ·rw [← h.dom id,e,e'];rfl
 size:=h.size
 rng:=h.rng
 obj:=fun id o l h1 h2=>by
  rcases hk id with e | ⟨e,_⟩
  ·exact h.obj id o l (e ▸ h1) h2
  ·rw [e] at h1;cases h1;trivial
 inj:=fun i j oi oj li lj h1 h2 h3 h4 h5 h6 h7=>by
  have a:G i=some oi:=by
   rcases hk i with e | ⟨e,_⟩
   ·rwa [e] at h1
   ·rw [e] at h1;cases h1;cases h6
  have b:G j=some oj:=by
   rcases hk j with e | ⟨e,_⟩
   ·rwa [e] at h2
   ·rw [e] at h2;cases h2;exact absurd rfl h7
  exact h.inj i j oi oj li lj a b h3 h4 h5 h6 h7
 glob:=h.glob
theorem CallT.kill {P:Program}{f:FuncId}{args:lVq}{v:Value}{h1 h2:Heap}(hc:CallT P f args Heap.none v h1) (hn:h2.next=h1.next) (hk:∀ id,h2.get id=h1.get id∨h2.get id=some .dead∧(h1.get id).isSome=true):CallT P f args Heap.none v h2:=by
 refine ⟨hc.1,⟨Nat.zero_le _,fun id h=>absurd h (by show ¬ (none:Option AObj).isSome=true;simp),fun id h=>absurd h (Nat.not_lt_zero _),fun id h=>absurd (show (none:Option AObj)=some AObj.defd from h) (by simp)⟩,fun base G ρ w args' hG hfr hS hargs=>?_⟩;rw [hn] at hfr;refine (hc.2.2 base G ρ w args' hG hfr hS hargs).mono fun e w' ⟨v',ρ',he,hok⟩=>⟨v',ρ',he,hn ▸ hok.agree,hok.val,hok.sim.hush fun id=>?_,hok.step⟩;rcases hk id with e | ⟨e,e'⟩
 ·left;unfold vv;rw [e]
 ·right;unfold vv;rw [e];refine ⟨rfl,?_⟩;cases hh:h1.get id with
  | none=>rw [hh] at e';cases e'
  | some o=>rfl
noncomputable def yr3 (ids:List Nat) (i:Nat) (o:HObj):HObj:=match List.rec (motive:=fun _=>Bool) false (fun a _ ih=>match Nat.beq a i with | true=>true | false=>ih) ids with
 | true=>o
 | false=>.obj .dead
theorem kill_ok {P:Program}{f:FuncId}{args:lVq}{v:Value}{y:HL}{N:Nat}{t:Tr}{ids:List Nat}(hc:CallT P f args Heap.none v (y.toH P)) (hn:y.next=N) (ht:y.tr.map (yr3 ids)=t):CallT P f args Heap.none v ((⟨N,t,[]⟩:HL).toH P):=by
 subst hn;subst ht;refine hc.kill rfl fun i=>?_;show ((⟨y.next,y.tr.map (yr3 ids),[]⟩:HL).at i).map (HObj.toA P)=(y.at i).map (HObj.toA P)∨((⟨y.next,y.tr.map (yr3 ids),[]⟩:HL).at i).map (HObj.toA P)=_∧((y.at i).map (HObj.toA P)).isSome=true;unfold HL.at;dsimp only;cases Nat.ble y.next i with
 | true=>exact .inl rfl
 | false =>
  dsimp only;rw [Tr.get_map];cases hg:y.tr.get i with
  | none=>exact .inl rfl
  | some o =>
   simp only [Option.map_some];unfold yr3;split
   ·exact .inl rfl
   ·exact .inr ⟨rfl,rfl⟩
noncomputable def exH (P:Program) (cf:FuncId→Option XFn) (NT:FuncId→Nat) (hk:Ih) (n:Nat):Ih:=Nat.rec (fun _ _=>none) (fun _ ih t x=>match hk t x with
 | some r=>some r
 | none=>zo4 P cf NT ih t x) n
theorem exH_ok {P:Program}{cf:FuncId→Option XFn}{NT:FuncId→Nat}{hk:Ih}(hcf:∀ f c,cf f=some c→XOk P f c) (hnt:∀ f fn,P.funcs[f]? = some fn→NT f=fn.ntmps) (hh:yd6 P hk):∀ n,yd6 P (exH P cf NT hk n)
 | 0=>fun _ _ _ _ he=>by cases he
 | n + 1=>fun t x r y he=>by
  change (match hk t x with | some r=>some r | none=>zo4 P cf NT (exH P cf NT hk n) t x)=some (r,y) at he;split at he
  ·rename_i h;cases he;exact hh t x _ _ h
  ·exact zo3 (exH_ok hcf hnt hh n) hcf hnt t x r y he
noncomputable def hookC (f:FuncId) (l:lBq) (v:Value) (s:HL):Ih:=fun t x=>match t with
 | .call g args=>(match Nat.beq g f with
  | true=>(match x with
   | ⟨0,.nil,[]⟩=>(match args with
    | [.string ⟨⟨k⟩⟩]=>(match eqL k l with | true=>some (.val v,s) | false=>none)
    | _=>none)
   | _=>none)
  | false=>none)
 | _=>none
theorem HL.none_toH {P:Program}:(⟨0,.nil,[]⟩:HL).toH P=Heap.none:=Heap.ext' rfl fun i=>by
 show ((⟨0,.nil,[]⟩:HL).at i).map (HObj.toA P) = .none;rw [HL.at_ge (Nat.zero_le i)];rfl
theorem hookC_ok {P:Program}{f:FuncId}{l:lBq}{v:Value}{s:HL}(hc:CallT P f [.string ⟨⟨l⟩⟩] Heap.none v (s.toH P)):yd6 P (hookC f l v s):=by
 intro t x r y he;unfold hookC at he;split at he<;>first | (cases he;done) | skip
 split at he<;>first | (cases he;done) | skip
 rename_i g args hg;obtain rfl:=Nat.eq_of_beq_eq_true hg;split at he<;>first | (cases he;done) | skip
 split at he<;>first | (cases he;done) | skip
 split at he<;>first | (cases he;done) | skip
 rename_i hl;cases he;rw [zo5,beq_iff_eq] at hl;subst hl;refine ⟨?_,⟨Nat.zero_le _,⟨s.log,by simp,fun i o h=>?_⟩,fun i h=>?_,fun i _ _ _ _ _ _ _ _ h=>?_⟩⟩
 ·show CallT P _ _ ((⟨0,.nil,[]⟩:HL).toH P) v (s.toH P);rw [HL.none_toH];exact hc
 ·rw [HL.none_toH] at h;cases h
 ·rw [HL.at_ge (Nat.zero_le i)] at h;cases h
 ·rw [HL.at_ge (Nat.zero_le i)] at h;cases h
noncomputable def deadT (N f:Nat):Nat→Nat→Tr:=Nat.rec (motive:=fun _=>Nat→Nat→Tr) (fun _ _=>.nil) (fun _ ih a b=>match Nat.ble N b with
 | true=>.nil
 | false=>.node (some (.obj .dead)) (ih (2 * a) (a + b)) (ih (2 * a) (2 * a + b))) f
noncomputable def toldH (P:Program) (cf:FuncId→Option XFn) (NT:FuncId→Nat) (hk:Ih) (n:Nat) (f:FuncId):Bool:=match exH P cf NT hk n (.call f []) ⟨0,.nil,[]⟩ with
 | some (.val (.bool true),_)=>true
 | _=>false
theorem toldH_c {P:Program}{cf:FuncId→Option XFn}{NT:FuncId→Nat}{hk:Ih}(hcf:∀ f c,cf f=some c→XOk P f c) (hnt:∀ f fn,P.funcs[f]? = some fn→NT f=fn.ntmps) (hh:yd6 P hk){n:Nat}{f:FuncId}(ht:toldH P cf NT hk n f=true){h:Heap}{Q:vPq}(hq:Q (.bool true) h):CallW P f [] h Q:=by
 unfold toldH at ht;split at ht
 ·rename_i y he;obtain ⟨h1,_⟩:=exH_ok hcf hnt hh n _ _ _ _ he;refine ⟨_,_,CallT.closed (h1:=y.toH P) ?_ (by simp) rfl h,hq⟩;rw [← HL.none_toH (P:=P)];exact h1
 ·cases ht
end Go.Eng
namespace Go.Eng.Sy
open Go Go.Eng Go.Proofs
theorem rec_ok:RecOk Tryz.prog 56 101 [iI 0,iI 0] where
 code:=⟨Tryz.f56,_,_,_,_,_,Tryz.func56,rfl,Tryz.ntmps56,Tryz.results56,rfl,⟨_,_,_,_,_,_,_,_,_,_,rfl,⟨rfl,rfl,rfl,rfl,rfl⟩,⟨rfl,rfl,rfl⟩,⟨rfl,rfl,rfl⟩,⟨rfl,rfl,rfl⟩,⟨rfl,rfl,rfl⟩,⟨rfl,rfl,rfl⟩,⟨rfl,rfl,rfl⟩,⟨rfl,rfl,rfl⟩⟩,⟨_,rfl,rfl,rfl,rfl⟩⟩
 zero:=by kernel_rfl
 und:=by kernel_rfl
 held:=by kernel_rfl
 size:=by kernel_rfl
noncomputable def vtA:VT:=(.node 0 [] (.node 0 [] (.node 0 [] (.node 0 [] (.node 0 [] (.node 0 [] (.node 2 [0,1,4,5] (.node 4 [0,1,2,3,8,9] .nil .nil) (.node 2 [0,1,4] .nil .nil)) (.node 4 [0,1,2,3,8,9,10,11] (.node 2 [0,1,4] .nil .nil) (.node 0 [] .nil .nil))) (.node 0 [] (.node 2 [0,1,4,5,7,8,9] (.node 2 [0,1,2,3] .nil .nil) (.node 1 [0,2] .nil .nil)) (.node 0 [] (.node 2 [0,1,4,5,7,8,9] .nil .nil) (.node 1 [0,2] .nil .nil)))) (.node 0 [] (.node 1 [0,2,3,4,5] (.node 2 [0,1,4] (.node 1 [0,2] .nil .nil) (.node 2 [0,1,4] .nil .nil)) (.node 2 [0,1,4] (.node 2 [0,1,4,5] .nil .nil) (.node 3 [0,1,2,6,7] .nil .nil))) (.node 1 [0,2,3,4,5,6,7,8,9,11,56,57,58,59] (.node 3 [0,1,2,6,7] .nil .nil) (.node 3 [0,1,2,3,6,7] (.node 5 [0,1,2,3,4,10,11] .nil .nil) .nil)))) (.node 0 [] (.node 0 [] (.node 3 [0,1,2,4] (.node 3 [0,1,2,6] (.node 5 [0,1,2,3,4,10] .nil .nil) (.node 1 [0,2,3,4,5,6,7,8,9,10,11,12] .nil .nil)) (.node 1 [0,2,3,5,6,7] (.node 2 [0,1,4] .nil .nil) (.node 1 [0,2,3,4] .nil .nil))) (.node 2 [0,1,4,5,7,8,9] (.node 0 [] (.node 2 [0,1,4] .nil .nil) (.node 1 [0,2,3,4,8,11,14,17] .nil .nil)) (.node 3 [0,1,2] (.node 2 [0,1,4] .nil .nil) (.node 1 [0,2] .nil .nil)))) (.node 0 [] (.node 1 [0,2,3,4] (.node 1 [0,2,4,6,8,13,14,15,16,32,33,34,35,51,52,53,54] (.node 2 [0,1,4] .nil .nil) (.node 1 [0] .nil .nil)) (.node 2 [0,1,3,4] (.node 1 [0,2,3,4] .nil .nil) (.node 1 [0,2,3] .nil .nil))) (.node 1 [0,2] (.node 3 [0,1,2,6,7] .nil (.node 1 [0,2,3] .nil .nil)) (.node 0 [] (.node 1 [0,2] .nil .nil) .nil))))) (.node 0 [] (.node 0 [0,1,2,4,5,6] (.node 0 [] (.node 2 [0,1,4,5,6,7] (.node 1 [0,1,2] (.node 1 [0,2] .nil .nil) (.node 1 [0,1,2,3,4,9] .nil .nil)) (.node 1 [0,2] (.node 2 [0,1,4] .nil .nil) (.node 3 [0,1,2,6,7,8] .nil .nil))) (.node 2 [0,1,2,3,4] (.node 0 [] (.node 1 [0,2] .nil .nil) (.node 2 [0,1,4,5,6,7] .nil .nil)) (.node 2 [0,1,2,3] (.node 2 [0,1,4] .nil .nil) (.node 1 [0,2] .nil .nil)))) (.node 0 [] (.node 2 [0,1,4,5,6,7] (.node 2 [0,1,4] (.node 2 [0,1,4] .nil .nil) (.node 3 [0,1,2,6] .nil .nil)) (.node 2 [0,1,4] (.node 2 [0,1,4,5,7,8,9] .nil .nil) (.node 2 [0,1,4,5,6,7,9] .nil .nil))) (.node 2 [0,1,4,5] (.node 3 [0,1,2,6,7,8,9,10] .nil (.node 1 [0,2] .nil .nil)) (.node 3 [0,1,2,6,8,9,10,11,12,13,17] (.node 2 [0,1,4,5] .nil .nil) .nil)))) (.node 0 [] (.node 0 [] (.node 3 [0,1,2,5] (.node 1 [0,1,2] (.node 2 [0,1,4,5,6] .nil .nil) (.node 1 [0,2] .nil .nil)) (.node 2 [0,1,3,4] (.node 3 [0,1,2,6,7,8,9] .nil .nil) (.node 2 [0,1,4,5,25] .nil .nil))) (.node 4 [0,1,2,3,8,9,10,11,12,13,14,15,16,17,18] (.node 4 [0,1,2,3,8,9] .nil (.node 2 [0,1,2,3,4] .nil .nil)) (.node 2 [0,1,4] (.node 2 [0,1,4,5] .nil .nil) .nil))) (.node 1 [0,1,2,3] (.node 0 [] (.node 2 [0,1,2,3,4] (.node 0 [0] .nil .nil) (.node 1 [0,2] .nil .nil)) (.node 2 [0,1,4,5,7,8,9] (.node 2 [0,1,3,4] .nil .nil) (.node 5 [0,1,2,3,4,10,11,12,13,14,15,16,17,18] .nil .nil))) (.node 1 [0,2,3,4,5,9,10,11,12] (.node 2 [0,1,4] (.node 5 [0,1,2,3,4,10] .nil .nil) (.node 1 [0,2] .nil .nil)) (.node 0 [] (.node 1 [0,2] .nil .nil) .nil)))))) (.node 0 [] (.node 0 [] (.node 0 [] (.node 4 [0,1,2,3,4,8,9,11,22,23,24,25] (.node 0 [] (.node 2 [0,1,4,5] (.node 1 [0,2] .nil .nil) (.node 2 [0,1,2,3,4,5] .nil .nil)) (.node 1 [0,2] (.node 1 [0,2,3,4,5] .nil .nil) (.node 2 [0,1,4] .nil .nil))) (.node 1 [0,1,2,3,4,5,6,7,8,9,10,11,12,27,28,29,41,42,43,44,50,51,52] (.node 2 [0,1,2,3] (.node 2 [0,1,2,4,5,6] .nil .nil) (.node 2 [0,1,4] .nil .nil)) (.node 2 [0,1,2,3] .nil (.node 1 [0,2] .nil .nil)))) (.node 1 [0,2,3,4,5,6,7] (.node 0 [] (.node 2 [0,1,4] (.node 1 [0,2,3,4,5,6,7,8,9,10] .nil .nil) (.node 2 [0,1,4] .nil .nil)) (.node 1 [0] (.node 3 [0,1,2,6,7] .nil .nil) (.node 0 [0] .nil .nil))) (.node 2 [0,1,2,3] (.node 3 [0,1,2,6,7,8,9,10] .nil (.node 1 [0,2] .nil .nil)) (.node 3 [0,1,2,6] (.node 2 [0,1] .nil .nil) .nil)))) (.node 1 [0,1,2,3,4,6,8,9,17,18,19,30,31,32,33,39,40,41,42] (.node 2 [0,1,2,4,5,7,13,14,15,16] (.node 2 [0,1] (.node 1 [0,1,2] (.node 1 [0,2] .nil .nil) (.node 2 [0,1,4,5,6,7,8,9,10,11,12,13,14,15,16,175,176,177] .nil .nil)) (.node 1 [0,2,3,4,5] (.node 2 [0,1,4,5] .nil .nil) (.node 1 [0,2] .nil .nil))) (.node 3 [0,1,2,6,7,8,9] (.node 0 [] (.node 3 [0,1,2,4] .nil .nil) (.node 2 [0,1,4,5,7,8,9] .nil .nil)) (.node 3 [0,1,2,6,8,9,10,11,12,13] (.node 0 [] .nil .nil) .nil))) (.node 0 [] (.node 1 [0,1,2,3,4,5] (.node 2 [0,1,4,5,6,22] (.node 2 [0,1,4] .nil .nil) (.node 2 [0,1,4] .nil .nil)) (.node 2 [0,1,4,5,7,8,9] (.node 2 [0,1,4] .nil .nil) (.node 2 [0,1,4,5,6,7,8,9,10,11,12,13,14,15,16] .nil .nil))) (.node 2 [0,1,4,5] (.node 3 [0,1,2,6,7,8,9,10] .nil (.node 1 [0,2] .nil .nil)) (.node 0 [] (.node 2 [0,1,4,5,6,7,8,9,11,12,14,15,16,68,69,70] .nil .nil) .nil))))) (.node 0 [] (.node 0 [] (.node 3 [0,1,2,3,5,6,7] (.node 2 [0,1,2,4,5,6,8,9,10,11] (.node 1 [0,2] (.node 3 [0,1,2,6] .nil .nil) .nil) (.node 1 [0,2] (.node 2 [0,1,4,5,6] .nil .nil) (.node 1 [0,2,3,4] .nil .nil))) (.node 0 [] (.node 0 [] (.node 2 [0,1,2,3,4] .nil .nil) (.node 1 [0,2,3,4] .nil .nil)) (.node 2 [0,1,2,3] (.node 1 [0,2,3] .nil .nil) (.node 1 [0,2] .nil .nil)))) (.node 0 [] (.node 2 [0,1] (.node 0 [] (.node 1 [0] .nil .nil) (.node 3 [0,1,2,6] .nil .nil)) (.node 1 [0,2] (.node 2 [0,1,4,5,7,8,9] .nil .nil) (.node 1 [0,2] .nil .nil))) (.node 2 [0,1] (.node 3 [0,1,2,6,7,8,9,10,11,12,49] .nil (.node 0 [] .nil .nil)) (.node 0 [] (.node 2 [0,1,4] .nil .nil) .nil)))) (.node 0 [] (.node 2 [0,1,2,4,5] (.node 1 [0,2] (.node 1 [0,1,2,3] (.node 2 [0,1,4] .nil .nil) (.node 1 [0,2,3,4,5] .nil .nil)) (.node 0 [0] (.node 1 [0,2,3,4,5,6,7,8,9,10] .nil .nil) (.node 2 [0,1,4,5,6,7,8] .nil .nil))) (.node 1 [0,2] (.node 5 [0,1,2,3,4,10,11,12,13,14,15,16,17,18,19,20,21,22,23,24] .nil .nil) (.node 2 [0,1,4] (.node 3 [0,1,2,6,7,8,9,10,11,12,13,15,16,17,85,99,100,101,102] .nil .nil) .nil))) (.node 2 [0,1,2,4,6,7,8,9,10] (.node 0 [] (.node 3 [0,1,2,4,6,8] (.node 2 [0,1,4] .nil .nil) (.node 2 [0,1,4,5,6] .nil .nil)) (.node 0 [] (.node 2 [0,1,2,3] .nil .nil) (.node 1 [0,2] .nil .nil))) (.node 1 [0,2] (.node 4 [0,1,2,3,8,9,10] (.node 4 [0,1,2,3,8,9] .nil .nil) (.node 0 [] .nil .nil)) (.node 5 [0,1,2,3,4,10,11] (.node 3 [0,1,2,6,7,8,9] .nil .nil) .nil)))))))
noncomputable def cfA:FuncId→Option XFn:=cfOf Tryz.prog smOf vtA 2 [0,1,4,5,6,7] 56 2 41
theorem cfA_ok:∀ f c,cfA f=some c→XOk Tryz.prog f c:=cfOf_ok smOf_ok (clo_ret rec_ok)
noncomputable def txA:lBq:=[104,97,114,116,115,32,49,32,114,101,115,111,117,114,99,101,32,114,32,49,32,116,97,115,107,32,116,32,48,32,49,32,123,32,108,111,99,107,32,114,32,123,32,125,32,125,32,104,97,110,100,108,101,114,32,104,32,48,32,53,32,48,32,123,32,105,102,32,40,49,41,32,123,32,108,111,99,107,32,114,32,123,32,125,32,125,32,125,32,104,97,110,100,108,101,114,32,103,32,48,32,54,32,49,32,123,32,125]
noncomputable def vP:Value:=.tuple #[.agg #[iI (.ofNat 1),nSq,.slice (some ⟨329,0,none⟩) 1 2,.slice (some ⟨452,0,none⟩) 3 6],iI (.ofNat 0),iI (.ofNat 0)]
noncomputable def idsP:List Nat:=[329,352,415,428,432,452]
noncomputable def tP:Tr:=Tr.set (.obj (.blk [.string ⟨⟨[114]⟩⟩,iI (.ofNat 1)] true)) 24 (Tr.set (.obj (.blk [iI (.ofNat 5),.string ⟨⟨[114]⟩⟩,.string ⟨⟨[]⟩⟩,iI (.ofNat 0),nSq,nSq,nSq] true)) 24 (Tr.set (.obj (.blk [iI (.ofNat 1),iI (.ofNat 0),iI (.ofNat 1),.string ⟨⟨[]⟩⟩,nSq] true)) 24 (Tr.set (.obj (.blk [iI (.ofNat 5),.string ⟨⟨[114]⟩⟩,.string ⟨⟨[]⟩⟩,iI (.ofNat 0),nSq,nSq,nSq] true)) 24 (Tr.set (.obj (.blk [iI (.ofNat 6),.string ⟨⟨[]⟩⟩,.string ⟨⟨[]⟩⟩,iI (.ofNat 0),.slice (some ⟨415,0,none⟩) 1 5,.slice (some ⟨428,0,none⟩) 1 7,nSq] true)) 24 (Tr.set (.obj (.blk [.string ⟨⟨[116]⟩⟩,.bool false,iI (.ofNat 0),iI (.ofNat 1),iI (.ofNat 0),.slice (some ⟨352,0,none⟩) 1 7,.string ⟨⟨[104]⟩⟩,.bool true,iI (.ofNat 0),iI (.ofNat 5),iI (.ofNat 0),.slice (some ⟨432,0,none⟩) 1 7,.string ⟨⟨[103]⟩⟩,.bool true,iI (.ofNat 0),iI (.ofNat 6),iI (.ofNat 1),nSq] true)) 24 (deadT 495 24 1 0) 452) 432) 428) 415) 352) 329
set_option maxRecDepth 100000 in
theorem yo0:(exN Tryz.prog cfA (ntOf Tryz.prog) 2900 (.call 24 [.string ⟨⟨txA⟩⟩]) ⟨0,.nil,[]⟩).map (fun p=>(p.1,p.2.next,p.2.tr.map (yr3 idsP)))=some (.val vP,495,tP):=by kernel_rfl
theorem parse_ok:CallT Tryz.prog 24 [.string ⟨⟨txA⟩⟩] Heap.none vP ((⟨495,tP,[]⟩:HL).toH Tryz.prog):=by
 have h:=yo0;cases he:exN Tryz.prog cfA (ntOf Tryz.prog) 2900 (.call 24 [.string ⟨⟨txA⟩⟩]) ⟨0,.nil,[]⟩ with
 | none=>rw [he] at h;cases h
 | some p =>
  obtain ⟨r,y⟩:=p;rw [he] at h;simp only [Option.map_some,Option.some.injEq,Prod.mk.injEq] at h;obtain ⟨h1,h2,h3⟩:=h;subst h1;have h4:CallT Tryz.prog 24 [.string ⟨⟨txA⟩⟩] ((⟨0,.nil,[]⟩:HL).toH Tryz.prog) vP (y.toH Tryz.prog):=(exN_ok cfA_ok yp2 _ _ _ _ _ he).1;rw [HL.none_toH] at h4;exact kill_ok h4 h2 h3
set_option maxRecDepth 100000 in
theorem yi4:toldH Tryz.prog cfA (ntOf Tryz.prog) (hookC 24 txA vP ⟨495,tP,[]⟩) 3000 9=true:=by kernel_rfl
theorem awake_c (h:Heap) (Q:vPq) (hq:Q (.bool true) h):CallW Tryz.prog 9 [] h Q:=toldH_c cfA_ok yp2 (hookC_ok parse_ok) yi4 hq
end Go.Eng.Sy

/-
  Part of a proof of the laws of layer 08 (rule): what each function does.
  Conditions: none.
-/
import Derived.Test.YthjpcgfcmblkhaaGreatDoorBa
import Derived.Test.YthjpcgfcmblkhaaGreatDoorEd
set_option linter.unusedSimpArgs false
set_option linter.unusedVariables false
namespace Go.Eng.Sy
open Go Go.Eng Go.Proofs
noncomputable section
def nmF (b:UInt8):Bool:=Nat.ble 97 b.toNat && Nat.ble b.toNat 122 || Nat.ble 65 b.toNat && Nat.ble b.toNat 90 || Nat.beq b.toNat 95 || Nat.ble 48 b.toNat && Nat.ble b.toNat 57
theorem ble_d (a b:Nat):Nat.ble a b=decide (a≤b):=by
 rw [Bool.eq_iff_iff]; simp
theorem beq_d (a b:Nat):Nat.beq a b=decide (a=b):=by
 rw [Bool.eq_iff_iff]; simp
theorem nmF_eq (b:UInt8):nmF b=nm b:=by
 unfold nmF nm nmZ
 simp only [ble_d,beq_d]
 rw [Bool.eq_iff_iff]
 simp
 omega
def runF (l:List UInt8):Nat:=List.rec (motive:=fun _=>Nat) 0 (fun b _ n=>match nmF b with | true=>n + 1 | false=>0) l
theorem runF_eq:∀ (l:List UInt8),runF l=runN l
 | []=>rfl
 | b::r=>by
  show (match nmF b with | true=>runF r + 1 | false=>0)=_
  rw [nmF_eq,runF_eq r]
  unfold runN
  rw [List.takeWhile_cons]
  cases nm b<;>rfl
def inF (s:List UInt8) (l:List (List UInt8)):Bool:=List.rec (motive:=fun _=>Bool) false (fun w _ ih=>match eqL w s with | true=>true | false=>ih) l
theorem inF_eq (s:List UInt8):∀ (l:List (List UInt8)),inF s l=l.contains s
 | []=>rfl
 | w::r=>by
  show (match eqL w s with | true=>true | false=>inF s r)=_
  rw [eqL_eq,inF_eq s r,List.contains_cons]
  rw [show (s == w)=(w == s) from by rw [Bool.eq_iff_iff,beq_iff_eq,beq_iff_eq]; exact eq_comm]
  cases w == s<;>rfl
def nameF (l:List UInt8):Bool:=match l with
 | []=>false
 | b::r=>Nat.ble (lenL (b::r)) 20 && Nat.beq (runF (b::r)) (lenL (b::r)) && Nat.blt 57 b.toNat && !inF (b::r) wordsL
theorem nameF_eq (l:List UInt8):nameF l=isName l:=by
 cases l with
 | nil=>rfl
 | cons b r =>
  simp only [nameF,isName,isWord,inF_eq,runF_eq,lenL_eq,ble_d,beq_d,Nat.blt]
  rw [Bool.eq_iff_iff]
  simp
  omega
def prefF (p:List UInt8):List UInt8→Bool:=List.rec (motive:=fun _=>List UInt8→Bool) (fun _=>true) (fun a _ ih l=>match l with
 | []=>false
 | b::s=>match eqU a b with | true=>ih s | false=>false) p
theorem prefF_eq:∀ (p l:List UInt8),prefF p l=p.isPrefixOf l
 | [],l=>by cases l<;>rfl
 | a::p,[]=>rfl
 | a::p,b::s=>by
  show (match eqU a b with | true=>prefF p s | false=>false)=_
  rw [eqU_eq,prefF_eq p s,List.isPrefixOf]
  cases a == b<;>rfl
def gWord (args:List Value):Option Value:=match args with | [.string ⟨⟨l⟩⟩]=>some (.bool (inF l wordsL)) | _=>none
def gName (args:List Value):Option Value:=match args with | [.string ⟨⟨l⟩⟩]=>some (.bool (nameF l)) | _=>none
def gRun (args:List Value):Option Value:=match args with | [.string ⟨⟨l⟩⟩]=>(match Nat.ble (lenL l) 1000000 with | true=>forceN (runF l) fun n=>some (.int .i64 (.ofNat n)) | false=>none) | _=>none
def gPref (args:List Value):Option Value:=match args with | [.string ⟨⟨l⟩⟩,.string ⟨⟨p⟩⟩]=>some (.bool (prefF p l)) | _=>none
def smOf (f:FuncId):Option (List Value→Option Value):=match Nat.beq f 80 with
 | true=>some gPref
 | false=>match Nat.beq f 69 with
  | true=>some gRun
  | false=>match Nat.beq f 70 with
   | true=>some gWord
   | false=>match Nat.beq f 38 with
    | true=>some gName
    | false=>none
end
theorem smOf_ok (f:FuncId) (g:List Value→Option Value) (h:smOf f=some g):XOk Tryz.prog f (.sum g):=by
 unfold smOf at h
 split at h
 ·rename_i hf
  cases h
  obtain rfl:=Nat.eq_of_beq_eq_true hf
  intro args v hv
  unfold gPref at hv
  split at hv<;>first | (cases hv; done) | skip
  rename_i l p
  cases hv
  refine sum_of (fun Q hq=>?_) (by intro a ha; simp at ha; rcases ha with rfl | rfl<;>rfl) rfl
  exact hasPrefix_c (l:=l) (p:=p) _ Q (by rw [← prefF_eq]; exact hq _ (Heap.le.refl _))
 ·split at h
  ·rename_i hf
   cases h
   obtain rfl:=Nat.eq_of_beq_eq_true hf
   intro args v hv
   unfold gRun at hv
   split at hv<;>first | (cases hv; done) | skip
   rename_i l
   split at hv<;>first | (cases hv; done) | skip
   rename_i hl
   rw [forceN_eq] at hv
   cases hv
   rw [lenL_eq] at hl
   refine sum_of (fun Q hq=>?_) (by intro a ha; simp at ha; subst ha; rfl) rfl
   exact run_c (l:=l) (by have:=Nat.le_of_ble_eq_true hl; omega) _ Q (by rw [← runF_eq]; exact hq)
  ·split at h
   ·rename_i hf
    cases h
    obtain rfl:=Nat.eq_of_beq_eq_true hf
    intro args v hv
    unfold gWord at hv
    split at hv<;>first | (cases hv; done) | skip
    rename_i l
    cases hv
    refine sum_of (fun Q hq=>?_) (by intro a ha; simp at ha; subst ha; rfl) rfl
    exact word_c (l:=l) _ Q (by unfold isWord; rw [← inF_eq]; exact hq)
   ·split at h<;>first | (cases h; done) | skip
    rename_i hf
    cases h
    obtain rfl:=Nat.eq_of_beq_eq_true hf
    intro args v hv
    unfold gName at hv
    split at hv<;>first | (cases hv; done) | skip
    rename_i l
    cases hv
    refine sum_of (fun Q hq=>?_) (by intro a ha; simp at ha; subst ha; rfl) rfl
    exact name_c (l:=l) _ Q (by rw [← nameF_eq]; exact hq)
end Go.Eng.Sy
namespace Go.Eng.Sy
open Go Go.Eng Go.Proofs
theorem rec_ok:RecOk Tryz.prog 57 104 [.int .i64 0,.int .i64 0] where
 code:=⟨Tryz.f57,_,_,_,_,_,Tryz.func57,rfl,Tryz.ntmps57,Tryz.results57,rfl,⟨_,_,_,_,_,_,_,_,_,_,rfl,⟨rfl,rfl,rfl,rfl,rfl⟩,⟨rfl,rfl,rfl⟩,⟨rfl,rfl,rfl⟩,⟨rfl,rfl,rfl⟩,⟨rfl,rfl,rfl⟩,⟨rfl,rfl,rfl⟩,⟨rfl,rfl,rfl⟩,⟨rfl,rfl,rfl⟩⟩,⟨_,rfl,rfl,rfl,rfl⟩⟩
 zero:=by kernel_rfl
 und:=by kernel_rfl
 held:=by kernel_rfl
 size:=by kernel_rfl
noncomputable def vtA:VT:=(.node 0 [] (.node 0 [] (.node 0 [] (.node 0 [] (.node 0 [] (.node 2 [0,1] (.node 1 [0,2] (.node 2 [0,1,4,5,6,7,8,9,11,12,14,15,16,68,69,70] .nil .nil) .nil) (.node 1 [0] (.node 1 [0,2,3,4] .nil .nil) .nil)) (.node 2 [0,1,2,3] (.node 0 [0] (.node 1 [0,2] .nil .nil) .nil) (.node 2 [0,1,4,5] (.node 1 [0,2] .nil .nil) .nil))) (.node 2 [0,1,2,3,4] (.node 3 [0,1,2,6] (.node 2 [0,1,3,4] (.node 1 [0,2] .nil .nil) .nil) (.node 2 [0,1,4] (.node 1 [0,2] .nil .nil) .nil)) (.node 3 [0,1,2,6,8,9,10,11,12,13,17] (.node 2 [0,1,4] (.node 0 [] .nil .nil) .nil) (.node 0 [] .nil .nil)))) (.node 2 [0,1,2,3,4] (.node 0 [] (.node 0 [] (.node 0 [] (.node 1 [0,2,3,4,8,11,14,17] .nil .nil) .nil) (.node 2 [0,1,4,5,7,8,9] (.node 2 [0,1,4,5,6,7,8] .nil .nil) .nil)) (.node 2 [0,1,4] (.node 2 [0,1,4,5,7,8,9] (.node 2 [0,1,4,5,6,7] .nil .nil) .nil) (.node 1 [0,1,2,3,4,9] .nil .nil))) (.node 2 [0,1,4,5,7,8,9] (.node 2 [0,1,4] (.node 3 [0,1,2,4] (.node 3 [0,1,2,6] .nil .nil) .nil) (.node 2 [0,1,4] (.node 1 [0,2] .nil .nil) .nil)) (.node 2 [0,1] (.node 2 [0,1,4,5,6] (.node 0 [] .nil .nil) .nil) (.node 2 [0,1] .nil .nil))))) (.node 0 [] (.node 0 [] (.node 1 [0,1,2,3,6,7,8] (.node 2 [0,1,4] (.node 2 [0,1,4,5] (.node 3 [0,1,2,6,7,8,9] .nil .nil) .nil) (.node 0 [] (.node 1 [0,2] .nil .nil) .nil)) (.node 3 [0,1,2] (.node 1 [0] (.node 1 [0,2] .nil .nil) .nil) (.node 2 [0,1,4] (.node 1 [0,2] .nil .nil) .nil))) (.node 2 [0,1,4,5,7,8,9] (.node 1 [0,1,2] (.node 1 [0,2] (.node 2 [0,1,4] .nil .nil) .nil) (.node 2 [0,1,4] (.node 2 [0,1,4,5,6,7,8,9,10,11,12,13,14,15,16] .nil .nil) .nil)) (.node 2 [0,1,2,3] (.node 2 [0,1,2,4,5,6] (.node 1 [0,2] .nil .nil) .nil) (.node 3 [0,1,2,6,7,8,9,10,11,12,13,15,16,17,85,99,100,101,102] .nil .nil)))) (.node 0 [] (.node 1 [0,2,4,6,8,13,14,15,16,32,33,34,35,51,52,53,54] (.node 1 [0,1,2] (.node 1 [0,2,3,5,6,7] (.node 1 [0,2,3,4,5,6,7,8,9,10,11,12] .nil .nil) .nil) (.node 2 [0,1,4] (.node 0 [0] .nil .nil) .nil)) (.node 3 [0,1,2,3,6,7] (.node 1 [0,2] (.node 1 [0,2] .nil .nil) .nil) (.node 1 [0,2,3] .nil .nil))) (.node 0 [] (.node 2 [0,1,4] (.node 1 [0,2,3,4,5] (.node 1 [0] .nil .nil) .nil) (.node 3 [0,1,2,6,7,8,9] (.node 1 [0,2] .nil .nil) .nil)) (.node 2 [0,1,4,5] (.node 1 [0,2,3,4,5,6,7,8,9,10] (.node 2 [0,1,4] .nil .nil) .nil) (.node 2 [0,1,4] .nil .nil)))))) (.node 0 [] (.node 0 [] (.node 0 [0,1,2,4,5,6,7,9,10,11] (.node 1 [0,2,3,4,5,6,7] (.node 1 [0,2,3,4] (.node 2 [0,1,4,5] (.node 1 [0,2] .nil .nil) .nil) (.node 2 [0,1,4] (.node 1 [0,2,3,4] .nil .nil) .nil)) (.node 2 [0,1,2,3] (.node 2 [0,1,4] (.node 2 [0,1,4,5,6] .nil .nil) .nil) (.node 3 [0,1,2,6,7] (.node 1 [0,2] .nil .nil) .nil))) (.node 3 [0,1,2,4,6,8] (.node 1 [0,1,2] (.node 2 [0,1,4,5,7,8,9] (.node 1 [0,2,3,4,5] .nil .nil) .nil) (.node 1 [0,2,3,4,5] (.node 1 [0,2,3] .nil .nil) .nil)) (.node 1 [0,2,3,4,5,6,7,8,9,11,56,57,58,59] (.node 2 [0,1,2,3] (.node 1 [0,2,3] .nil .nil) .nil) (.node 2 [0,1,4,5] .nil .nil)))) (.node 2 [0,1,2,3,4] (.node 1 [0,1,2,3,4,5] (.node 0 [] (.node 0 [] (.node 2 [0,1,2,3,4] .nil .nil) .nil) (.node 1 [0,2,3,4] (.node 3 [0,1,2,6,7] .nil .nil) .nil)) (.node 2 [0,1,4] (.node 0 [] (.node 1 [0,2,3,4] .nil .nil) .nil) (.node 2 [0,1,4] .nil .nil))) (.node 2 [0,1,2,3] (.node 2 [0,1,4] (.node 1 [0,2] (.node 3 [0,1,2,6] .nil .nil) .nil) (.node 2 [0,1,4,5] (.node 1 [0,2] .nil .nil) .nil)) (.node 1 [0,2] (.node 2 [0,1,4] (.node 0 [] .nil .nil) .nil) (.node 2 [0,1,4,5] .nil .nil))))) (.node 0 [] (.node 1 [0,1,2,3,4,5,6,7,8,9,10,11,12,27,28,29,41,42,43,44,50,51,52] (.node 0 [] (.node 2 [0,1,4,6,7,8,9,10] (.node 2 [0,1,4] (.node 2 [0,1,4,5,7,8,9] .nil .nil) .nil) (.node 0 [] (.node 2 [0,1,4,5,25] .nil .nil) .nil)) (.node 3 [0,1,2,6,8,9,10,11,12,13] (.node 2 [0,1,4] (.node 2 [0,1,4] .nil .nil) .nil) (.node 2 [0,1,2,3,4,5] .nil .nil))) (.node 2 [0,1,2,3] (.node 1 [0,1,2,3] (.node 2 [0,1,4] (.node 2 [0,1,4] .nil .nil) .nil) (.node 2 [0,1,4,5,6] (.node 5 [0,1,2,3,4,10,11,12,13,14,15,16,17,18] .nil .nil) .nil)) (.node 2 [0,1,4,5] (.node 2 [0,1,4,5,7,8,9] (.node 1 [0,2] .nil .nil) .nil) (.node 5 [0,1,2,3,4,10,11] .nil .nil)))) (.node 0 [] (.node 2 [0,1,4,5,6,22] (.node 1 [0,2] (.node 1 [0,2] (.node 2 [0,1,4,5,6,7,8,9,10,11,12,13,14,15,16,175,176,177] .nil .nil) .nil) (.node 2 [0,1,3,4] (.node 2 [0,1,4,5,6,7,9] .nil .nil) .nil)) (.node 3 [0,1,2,6] (.node 0 [0] (.node 1 [0,2] .nil .nil) .nil) (.node 2 [0,1,4] .nil .nil))) (.node 2 [0,1,4,5,6,7] (.node 2 [0,1,2,3] (.node 2 [0,1,3,4] (.node 2 [0,1,4] .nil .nil) .nil) (.node 1 [0,2,3,4,5,6,7,8,9,10] (.node 1 [0,2] .nil .nil) .nil)) (.node 1 [0,2,3,4,5,9,10,11,12] (.node 2 [0,1,4] (.node 3 [0,1,2,6,7,8] .nil .nil) .nil) (.node 1 [0,2] .nil .nil)))))))
set_option maxRecDepth 100000 in
theorem awake_told:told Tryz.prog (cfOf Tryz.prog smOf vtA 2 [0,1,4,5,6,7] 57 2 30) (ntOf Tryz.prog) 3000 8=true:=by kernel_rfl
theorem awake_c (h:Heap) (Q:Value→Heap→Prop) (hq:Q (.bool true) h):CallW Tryz.prog 8 [] h Q:=told_c (cfOf_ok smOf_ok (clo_ret rec_ok)) ntOf_ok awake_told hq
end Go.Eng.Sy

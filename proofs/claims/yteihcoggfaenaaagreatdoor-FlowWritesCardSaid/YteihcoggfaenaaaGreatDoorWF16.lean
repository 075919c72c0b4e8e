/- Parts of the proof: M2, A1, A2. No condition. -/
import Derived.Test.YteihcoggfaenaaaGreatDoorProg
import Derived.Test.YteihcoggfaenaaaGreatDoorWF10
import Derived.KernelRfl
import Derived.Test.YteihcoggfaenaaaGreatDoorWF15
import Derived.Test.YteihcoggfaenaaaGreatDoorWF14
namespace Go.Eng
open Go.Proofs
set_option linter.unusedVariables false
set_option linter.unusedSimpArgs false
set_option maxRecDepth 100000
set_option maxHeartbeats 1000000
theorem kJ_ {α:Type} {p:α->Bool} {l:List α} {i:Nat} {d:α} (h:i < l.length) (ht:(l.take i).any p=false) (hd:p (l.getD i d)=false):(l.take (i+1)).any p=false:=by
 rw [List.take_succ_eq_append_getElem h,List.any_append,ht,Bool.false_or,List.any_cons,List.any_nil,Bool.or_false]
 rwa [List.getD_eq_getElem?_getD,List.getElem?_eq_getElem h] at hd
theorem YJ_ {α:Type} {p:α->Bool} {l:List α} {i:Nat} (h:l.length<=i) (ht:(l.take i).any p=false):l.any p=false:=by
 rwa [List.take_of_length_le h] at ht
theorem YI_ {α:Type} {p:α->Bool} {l:List α} {i:Nat} {d:α} (h:i < l.length) (hd:p (l.getD i d)=true):l.any p=true:=
 List.any_eq_true.2 ⟨_,zu_ h d,hd⟩
theorem Zn_ {α:Type} {f:α->Bool} {l:List α} {i:Nat} {d:α} (h:i < l.length) (ht:(l.take i).all f=true) (hd:f (l.getD i d)=true):(l.take (i+1)).all f=true:=by
 rw [List.take_succ_eq_append_getElem h,List.all_append,ht,Bool.true_and,List.all_cons,List.all_nil,Bool.and_true]
 rwa [List.getD_eq_getElem?_getD,List.getElem?_eq_getElem h] at hd
theorem ZK_ {α:Type} {f:α->Bool} {l:List α} {i:Nat} (h:l.length<=i) (ht:(l.take i).all f=true):l.all f=true:=by
 rwa [List.take_of_length_le h] at ht
theorem ZA_ {α:Type} {f:α->Bool} {l:List α} {i:Nat} {d:α} (h:i < l.length) (hd:f (l.getD i d)=false):l.all f=false:=by
 rw [List.all_eq_false]
 exact ⟨l.getD i d,zu_ h d,by rw [hd];decide⟩
def uf_ (c f:Int):Bool:=decide (c ≠ 32768) || !fIs f || decide (qx_ f < 0)
def wo_ (l:List OV) (c f:Int):Bool:=if uf_ c f=true then true else l.any (mtO (qx_ f) (Kg_ f))
def zcv_:IR:=
(sq (kr [0,1] [oD 3 (.boxv 1),
oD 4 (.mov cF)])
(sq (kr [0,3] [oA 8 1 3,
oL 9 8,
oC 10 170 [9],
oM 7 10,
oX 11 7 0,
oX 12 7 1,
oD 5 (.box [.int .i64 0,.int .i64 0,.kb false,.int .i64 0,.imm (.int .u64) []]),
oS 5 5 11,
oM 6 12])
(sq (sq (kr [0,3,5,6] [oA 13 0 3,
oL 14 13,
oB 15 .neq 14 (cI 32768),
oM 16 15,
oF 16 17 (.mov 6),
oF 16 18 (.un .not 17),
oP 19 16 cT 18,
oM 20 19,
oF 20 21 (.fieldAddr 3 5),
oF 20 22 (.load none 21),
oF 20 23 (.bin .lss 22 (cI 0)),
oP 24 20 cT 23])
(.cond 24
(sq (kr [] [oD 4 (.mov cT)])
.ret)
.skip))
(sq (kr [0,5] [oM 25 0,
oD 26 (.mkfn 175 [] [5]),
oC 27 116 [25,26],
oM 4 27])
.ret))))
def zbl_:List RD:=[.tmp 4 true none]
theorem zbP_:zk_ Tryz.prog Tryz.f151 zcv_ zbl_=true:=by kernel_rfl
def yH_:List AV->List Obj->Option (Prop × AV)
 | [.imm (.cons (.int .i64) (.cons (.int .i64) (.cons .bool (.cons (.int .u64) (.cons (.sl (.int .u8)) (.cons (.sl (.int .u8)) .nil)))))) l,.agg [.int .i64 c,.int .i64 f,.bool h,.int .u64 x,.imm (.int .u8) v,.imm (.int .u8) m]],[]=>some ((True,.bool (wo_ l c f)))
 | _,_=>none
theorem H2_:zd_ Tryz.prog 151 (RoF yH_).sum:=by
 refine zi_ Tryz.func151 zbP_ (za_ (s:=RoF jw_) J0_ (za_ (s:=RoF KQ_) W0_ (za_ (s:=RoF zC_) zU_ (zc_ _)))) fun args objs p v e=>?_
 unfold yH_ at e
 split at e
 ·rename_i l c f h x v m
  cases e
  refine ⟨rfl,fun hw ho hp=>?_⟩
  change List Int at v
  change List Int at m
  change List OV at l
  clear hw ho
  cases hn:uf_ c f with
  | true=>
    have e:wo_ l c f=true:=by unfold wo_;rw [if_pos hn]
    rw [e]
    repeat'(intro t ht;first|(cases t<;>first|(cases ht;done)|(try simp only[zg_]at ht;try(exfalso;first|contradiction|omega)))|((first|refine zb_ ht ?_|refine ht ?_ ?_|refine ht.1 ?_ ?_|refine ht ?_)<;>clear ht))
    all_goals first
     | exact True.intro
     | exact ⟨rfl,rfl⟩
     | (exfalso;unfold uf_ at hn;simp_all;done)
     | (exfalso;unfold uf_ at hn;simp_all;omega)
  | false=>
    have e:wo_ l c f=l.any (mtO (qx_ f) (Kg_ f)):=by unfold wo_;rw [hn];rfl
    rw [e]
    repeat'(intro t ht;first|(cases t<;>first|(cases ht;done)|(try simp only[zg_]at ht;try(exfalso;first|contradiction|omega)))|((first|refine zb_ ht ?_|refine ht ?_ ?_|refine ht.1 ?_ ?_|refine ht ?_)<;>clear ht))
    all_goals first
     | exact True.intro
     | exact ⟨rfl,rfl⟩
     | (exfalso;unfold uf_ at hn;simp_all;done)
     | (exfalso;unfold uf_ at hn;simp_all;omega)
 ·cases e
def ckS:List OV->List OV->Int × Int
 | _,[]=>(0,0)
 | pre,o :: r=>if pre.any (fun x=>alO x o)=true then (((pre.length:Nat):Int),1035) else if wo_ pre o.1 o.2.1=true then ckS (pre++[o]) r else (((pre.length:Nat):Int),1034)
theorem zgw_ {l:List OV} {i:Nat} (h:l.length<=i):ckS (l.take i) (l.drop i)=(0,0):=by
 rw [List.drop_of_length_le h];unfold ckS;rfl
theorem zj4_ {α:Type} {b:List α} {k j:Nat} {d:α} (h:j < k):(b.take k).getD j d=b.getD j d:=by
 rw [List.getD_eq_getElem?_getD,List.getD_eq_getElem?_getD,List.getElem?_take,if_pos h]
theorem WU_ {α:Type} {l:List α} {i:Nat} (h:i<=l.length):(l.take i).length=i:=by rw [List.length_take];omega
theorem zgv_ {l:List OV} {i:Nat} {d:OV} (h:i < l.length) (hk:(l.take i).any (fun x=>alO x (l.getD i d))=true):ckS (l.take i) (l.drop i)=(((i:Nat):Int),1035):=by
 rw [zz_ h d];unfold ckS;rw [if_pos hk,WU_ (by omega)]
theorem zc1_ {l:List OV} {i:Nat} {d:OV} (h:i < l.length) (hk:(l.take i).any (fun x=>alO x (l.getD i d))=false) (hm:wo_ (l.take i) (l.getD i d).1 (l.getD i d).2.1=false):ckS (l.take i) (l.drop i)=(((i:Nat):Int),1034):=by
 rw [zz_ h d];unfold ckS;rw [if_neg (by rw [hk];decide),if_neg (by rw [hm];decide),WU_ (by omega)]
theorem zjq_ {l:List OV} {i:Nat} {d:OV} (h:i < l.length) (hk:(l.take i).any (fun x=>alO x (l.getD i d))=false) (hm:wo_ (l.take i) (l.getD i d).1 (l.getD i d).2.1=true):ckS (l.take i) (l.drop i)=ckS (l.take (i+1)) (l.drop (i+1)):=by
 have e:l.take (i+1)=l.take i++[l.getD i d]:=by
  rw [List.take_succ_eq_append_getElem h,List.getD_eq_getElem?_getD,List.getElem?_eq_getElem h];rfl
 rw [e,zz_ h d]
 conv=>lhs;unfold ckS
 rw [if_neg (by rw [hk];decide),if_pos hm]
def hr_:IR:=
(sq (kr [0] [oD 2 (.mov (cI 0)),
oD 3 (.mov (cI 0))])
(.scope
(sq (.reg [oD 4 (.mov (cI 0)),
oD 5 (.mov (cI 0))])
(sq .skip
(sq (sq (.reg [oM 8 0,
oE 9 8,
oD 10 (.mov (cI 0))])
(.block 0
(.loop
(sq (kr [0,4,5,8,9,10] [oB 11 .lss 10 9])
(sq (.cond 11
.skip
(.exit 0))
(sq (.block 1
(sq (kr [0,4,5,8,9,10] [oM 12 10,
oI 13 6 8 10,
oK 14 6 13,
oD 7 (.box [.int .i64 0,.int .i64 0,.kb false,.int .u64 0,.imm (.int .u8) [],.imm (.int .u8) []]),
oM 6 12,
oS 6 7 14])
(.block 2
(sq (kr [0,4,5,6,7,8,9,10] [oM 16 0,
oM 17 6,
oD 18 (.slice 6 16 none (some 17) none),
oD 19 (.mkfn 149 [] [7]),
oC 20 116 [18,19],
oM 15 20])
(.cond 15
(sq (kr [6] [oM 21 6,
oM 4 21,
oD 5 (.mov (cI 1035))])
(.exit 0))
(sq (kd [0,4,5,6,7,8,9,10] [(oM 23 0,[]),
(oM 24 6,[0]),
(oD 25 (.slice 6 23 none (some 24) none),[]),
(oK 26 6 7,[0,0,0]),
(oC 27 151 [25,26],[]),
(oD 28 (.un .not 27),[]),
(oM 22 28,[])])
(.cond 22
(sq (kr [6] [oM 29 6,
oM 4 29,
oD 5 (.mov (cI 1034))])
(.exit 0))
.skip)))))))
(kr [0,4,5,8,9,10] [oB 30 .add 10 (cI 1),
oM 10 30])))))))
(sq (kr [4,5] [oM 31 4,
oM 32 5,
oM 2 31,
oM 3 32])
.ret))))))
def Gr_:List RD:=[.tmp 2 true none,.tmp 3 true none]
theorem GV_:zk_ Tryz.prog Tryz.f119 hr_ Gr_=true:=by kernel_rfl
def KR_:List AV->List Obj->Option (Prop × AV)
 | [.imm (.cons (.int .i64) (.cons (.int .i64) (.cons .bool (.cons (.int .u64) (.cons (.sl (.int .u8)) (.cons (.sl (.int .u8)) .nil)))))) l],[]=>some ((True,.tup [.int .i64 (ckS [] l).1,.int .i64 (ckS [] l).2]))
 | _,_=>none
theorem W1_:zd_ Tryz.prog 119 (RoF KR_).sum:=by
 refine zi_ Tryz.func119 GV_ (za_ (s:=RoF kb_) Jl_ (za_ (s:=RoF zC_) zU_ (za_ (s:=RoF yH_) H2_ (zc_ _)))) fun args objs p v e=>?_
 unfold KR_ at e
 split at e
 ·rename_i l
  cases e
  refine ⟨rfl,fun hw ho hp=>?_⟩
  change List OV at l
  have hl:l.length<=maxLen:=(hw (.imm Y1 l) (by simp)).2
  unfold maxLen at hl
  clear hw ho
  repeat'(intro t ht;first|(cases t<;>first|(cases ht;done)|(try simp only[zg_]at ht))|((first|refine zb_ ht ?_|refine ht ?_ ?_|refine ht.1 ?_ ?_|refine ht ?_)<;>clear ht))
  all_goals first
   | (intro r h1 h2;clear h1;refine h2 ⟨[0,4,5,8,9,10],Nat,(fun i=>i<=l.length/\ckS [] l=ckS (l.take i) (l.drop i)),fun i=>[.imm Y1 l,.int .i64 0,.int .i64 0,.imm Y1 l,.int .i64 l.length,.int .i64 i],fun _=>[],fun i=>l.length - i,⟨0,⟨Nat.zero_le _,rfl⟩,rfl,rfl⟩,?_⟩;clear h2)
  rintro i ⟨hi,he⟩
  repeat'(intro t ht;first|(cases t<;>first|(cases ht;done)|(try simp only[zg_]at ht;try(exfalso;first|contradiction|omega)))|((first|refine zb_ ht ?_|refine ht ?_ ?_|refine ht.1 ?_ ?_|refine ht ?_)<;>clear ht))
  all_goals (try generalize (Ty.dflt Y1)=od at*)
  all_goals first
   | exact True.intro
   | ((try simp only [zm_,zn_,zl_] at*);omega)
   | (rw [he,zgw_ (by omega)];exact ⟨rfl,rfl⟩)
   | (have hk:(l.take i).any (fun x=>alO x (l.getD i od))=true:=by assumption
      rw [he,zgv_ (by omega) hk];exact ⟨rfl,rfl⟩)
   | (have hk:(l.take i).any (fun x=>alO x (l.getD i od))=false:=by assumption
      first
       | (have hm:wo_ (l.take i) (l.getD i od).1 (l.getD i od).2.1=false:=by assumption
          rw [he,zc1_ (by omega) hk hm];exact ⟨rfl,rfl⟩)
       | (have hm:wo_ (l.take i) (l.getD i od).1 (l.getD i od).2.1=true:=by assumption
          exact ⟨i+1,⟨by omega,he.trans (zjq_ (by omega) hk hm)⟩,by dsimp only;omega,rfl,rfl⟩))
 ·cases e
def mrV (nd:Int) (vals:List Int) (c f:Int) (h:Bool) (v:List Int):Bool:=decide (c=32768) && decide (f=nd) && (if vals.length=0 then v.any nzB else vals.any fun y=>!h && decide (v=ze_ y (z2_ nd)))
def mrO (nd:Int) (vals:List Int) (o:OV):Bool:=mrV nd vals o.1 o.2.1 o.2.2.1 o.2.2.2.2.1
theorem ziy_ {nd:Int} {vals:List Int} {o:OV} (hv:vals.length=0) (h1:o.1=32768) (h2:o.2.1=nd):mrO nd vals o=o.2.2.2.2.1.any nzB:=by
 unfold mrO mrV;rw [if_pos hv,h1,h2];simp
theorem zkw_ {nd S:Int} {vals:List Int} {o:OV} (hv:¬ vals.length=0) (h1:o.1=32768) (h2:o.2.1=nd) (hS:z2_ nd=S):mrO nd vals o=vals.any fun y=>!o.2.2.1 && decide (o.2.2.2.2.1=ze_ y S):=by
 unfold mrO mrV;rw [if_neg hv,h1,h2,hS];simp
theorem nz_f {v:List Int} {k:Nat} (h:v.getD k 0=0):nzB (v.getD k 0)=false:=by unfold nzB;rw [h];rfl
theorem nz_t {v:List Int} {k:Nat} (h:¬ v.getD k 0=0):nzB (v.getD k 0)=true:=decide_eq_true h
theorem zfX_ {v:List Int} (hb:∀ x ∈ v,0<=x/\x<=255) (h:v.length<=8):ue_ v=Zz_ v:=by
 have key:∀ i,i<=v.length->ue_ (v.take i)=Yk_ v i:=by
  intro i
  induction i with
  | zero=>intro _;rfl
  | succ i ih=>
    intro hi
    have hk:=hb _ (zu_ (α:=Int) (show i < v.length by omega) 0)
    have hn:=zfY_ hb i (by omega)
    have e8:(2:Int) ^ min (Int.toNat 8) IntKind.u64.bits=256:=by decide
    rw [Hb_ (by omega),Hc_ (by omega),ih (by omega),e8,jC_ ⟨by rw [Yp_];omega,by rw [uy_];omega⟩,jC_ ⟨by rw [Yp_];omega,by rw [uy_];omega⟩]
    exact zfS_ hn.1 (by omega) hk.1 hk.2
 have:=key v.length (Nat.le_refl _)
 rwa [List.take_length,zbV_ (Nat.le_refl _)] at this
def zlf_ (k:Nat):Bool:=decide ((Kg_ (k:Nat)).length=0) || ((Kg_ (k:Nat)).all fun y=>decide (0<=y) && decide (y<=65535) && (decide (z2_ (qx_ (k:Nat))=2) || (decide (z2_ (qx_ (k:Nat))=1) && decide (y<=255))))
theorem zm0_:∀ k < 40,qx_ (k:Nat)=kn_ (k:Nat)/\Kg_ (k:Nat)=kl_ (k:Nat)/\zlf_ k=true:=by decide+kernel
theorem law9 (f:Int):qx_ f=kn_ f/\Kg_ f=kl_ f/\∀ y ∈ Kg_ f,0<=y/\y<=65535/\(z2_ (qx_ f)=2\/(z2_ (qx_ f)=1/\y<=255)):=by
 cases h:fIs f with
 | true=>
   have hn:=ql_.1 h
   have:=zm0_ f.toNat (by omega)
   unfold zlf_ at this
   rw [Int.toNat_of_nonneg hn.1] at this
   refine ⟨this.1,this.2.1,fun y hy=>?_⟩
   have h3:=this.2.2
   rw [Bool.or_eq_true] at h3
   rcases h3 with h3 | h3
   ·have:Kg_ f=[]:=List.eq_nil_of_length_eq_zero (of_decide_eq_true h3)
    rw [this] at hy;cases hy
   ·have:=List.all_eq_true.1 h3 y hy
    simp only [Bool.and_eq_true,Bool.or_eq_true,decide_eq_true_eq] at this
    exact ⟨this.1.1,this.1.2,this.2⟩
 | false=>
   unfold qx_ Kg_ kn_ kl_;rw [h];exact ⟨rfl,rfl,fun y hy=>by cases hy⟩
theorem zlE_ {v:List Int} {y z:Int} (hb:∀ x ∈ v,0<=x/\x<=255) (hy:0<=y/\y<=65535/\(z=2\/(z=1/\y<=255))):decide (v=ze_ y z)=(decide ((v.length:Int)=z) && decide (ue_ v=y)):=by
 rw [Bool.eq_iff_iff]
 simp only [Bool.and_eq_true,decide_eq_true_eq]
 obtain ⟨h1,h2,h3⟩:=hy
 have hn:Zz_ (ze_ y z)=y:=by
  rcases h3 with rfl | ⟨rfl,h3⟩
  ·exact num2 ⟨h1,h2⟩
  ·rw [zjx_ ⟨h1,h3⟩];show 0*256+y=y;omega
 have hz:(ze_ y z).length=z:=zj_ (by omega)
 constructor
 ·intro e
  have hl:(v.length:Int)=z:=by rw [e];exact hz
  exact ⟨hl,by rw [zfX_ hb (by omega),e];exact hn⟩
 ·rintro ⟨e1,e2⟩
  rw [zfX_ hb (by omega)] at e2
  have:=xL_ v.length v (by omega) rfl hb
  rw [e2,e1] at this;exact this.symm
theorem zkz_ {k:Int} {o:OV} (hb:∀ x ∈ o.2.2.2.2.1,0<=x/\x<=255):mrO (qx_ k) (Kg_ k) o=mtO (qx_ k) (Kg_ k) o:=by
 obtain ⟨_,_,h3⟩:=law9 k
 have hs:kp_ (qx_ k)=z2_ (qx_ k):=(law8 (qx_ k)).2.1
 unfold mrO mtO mrV metV
 congr 1
 by_cases hv:(Kg_ k).length=0
 ·rw [if_pos hv,if_pos hv]
 ·rw [if_neg hv,if_neg hv,hs]
  have:∀ l:List Int,(∀ y ∈ l,0<=y/\y<=65535/\(z2_ (qx_ k)=2\/(z2_ (qx_ k)=1/\y<=255)))->(l.any fun y=>!o.2.2.1 && decide (o.2.2.2.2.1=ze_ y (z2_ (qx_ k))))=(decide ((o.2.2.2.2.1.length:Int)=z2_ (qx_ k)) && !o.2.2.1 && l.any fun y=>decide (ue_ o.2.2.2.2.1=y)):=by
   intro l
   induction l with
   | nil=>intro _;simp
   | cons y l ih=>
     intro h
     rw [List.any_cons,List.any_cons,ih fun y hy=>h y (List.mem_cons_of_mem _ hy),zlE_ hb (h y (List.mem_cons_self ..))]
     cases o.2.2.1<;>cases decide ((o.2.2.2.2.1.length:Int)=z2_ (qx_ k))<;>cases decide (ue_ o.2.2.2.2.1=y)<;>simp
  exact this _ h3
def bysO (o:OV):Prop:=0<=o.2.2.2.1/\(∀ x ∈ o.2.2.2.2.1,0<=x/\x<=255)/\(∀ x ∈ o.2.2.2.2.2.1,0<=x/\x<=255)
theorem zik_ {l:List OV} (h:Ty.wf (.sl Y1) l):∀ o ∈ l,bysO o:=fun o ho=>by
 obtain ⟨h1,h2,h3,h4,h5,h6,_⟩:=h.1 o ho
 refine ⟨?_,fun x hx=>?_,fun x hx=>?_⟩
 ·unfold Ty.wf inK at h4;rw [Yp_] at h4;exact h4.1
 ·have:=h5.1 x hx;unfold Ty.wf inK at this;rw [zey_,zeB_] at this;exact this
 ·have:=h6.1 x hx;unfold Ty.wf inK at this;rw [zey_,zeB_] at this;exact this
def zeZ_:IR:=
(sq (kr [0,1] [oD 3 (.boxv 1),
oD 4 (.mov cF)])
(sq (kr [0,3] [oA 14 1 3,
oL 15 14,
oC 16 138 [15],
oM 13 16,
oX 17 13 0,
oX 18 13 1,
oD 5 (.box [.str [],.int .i64 0,.int .i64 0,.kb false,.int .i64 0,.imm (.int .u64) []]),
oS 6 5 17,
oM 6 18])
(sq (sq (kr [0,3,5,6] [oA 19 0 3,
oL 20 19,
oB 21 .neq 20 (cI 32768),
oM 22 21,
oF 22 23 (.mov 6),
oF 22 24 (.un .not 23),
oP 25 22 cT 24,
oM 26 25,
oF 26 27 (.fieldAddr 4 5),
oF 26 28 (.load none 27),
oF 26 29 (.bin .lss 28 (cI 0)),
oP 30 26 cT 29])
(.cond 30
(sq (kr [] [oD 4 (.mov cT)])
.ret)
.skip))
(sq (kr [0,5] [oA 32 4 5,
oL 33 32,
oC 34 138 [33],
oM 31 34,
oX 35 31 0,
oX 36 31 1,
oD 7 (.box [.str [],.int .i64 0,.int .i64 0,.kb false,.int .i64 0,.imm (.int .u64) []]),
oS 6 7 35,
oM 8 36])
(sq (sq (kr [0,5,7] [oD 9 (.mov (cI 0))])
(.block 0
(.loop
(sq (sq (kr [0,5,7,9] [oM 37 9,
oM 38 0,
oE 39 38,
oB 40 .lss 37 39])
(.cond 40
.skip
(.exit 0)))
(sq (.block 1
(sq (kr [0,5,7,9] [oM 43 0,
oM 44 9,
oI 45 6 43 44,
oK 46 6 45,
oD 10 (.box [.int .i64 0,.int .i64 0,.kb false,.int .u64 0,.imm (.int .u8) [],.imm (.int .u8) []]),
oS 6 10 46])
(sq (sq (kr [0,5,7,9,10] [oA 47 0 10,
oL 48 47,
oB 49 .neq 48 (cI 32768),
oM 50 49,
oF 50 51 (.fieldAddr 1 10),
oF 50 52 (.load none 51),
oF 50 53 (.fieldAddr 4 5),
oF 50 54 (.load none 53),
oF 50 55 (.bin .neq 52 54),
oP 56 50 cT 55])
(.cond 56
(.exit 1)
.skip))
(sq (sq (kr [0,5,7,9,10] [oA 57 5 5,
oL 58 57,
oE 59 58,
oB 60 .eql 59 (cI 0)])
(.cond 60
(sq (sq (.reg [oD 11 (.mov (cI 0))])
(.block 2
(.loop
(sq (sq (kr [0,5,7,9,10,11] [oM 61 11,
oA 62 4 10,
oL 63 62,
oE 64 63,
oB 65 .lss 61 64])
(.cond 65
.skip
(.exit 2)))
(sq (.block 3
(sq (kr [0,5,7,9,10,11] [oA 68 4 10,
oL 69 68,
oM 70 11,
oI 71 1 69 70,
oL 72 71,
oB 73 .neq 72 (.c (.int .u8 0))])
(.cond 73
(sq (kr [] [oD 4 (.mov cT)])
.ret)
.skip)))
(kr [0,5,7,9,10,11] [oM 66 11,
oB 67 .add 66 (cI 1),
oM 11 67]))))))
(.exit 1))
.skip))
(sq (kr [0,5,7,9,10] [oD 12 (.mov (cI 0))])
(.block 4
(.loop
(sq (sq (kr [0,5,7,9,10,12] [oM 74 12,
oA 75 5 5,
oL 76 75,
oE 77 76,
oB 78 .lss 74 77])
(.cond 78
.skip
(.exit 4)))
(sq (.block 5
(sq (kd [0,5,7,9,10,12] [(oA 81 2 10,[]),
(oL 82 81,[]),
(oD 83 (.un .not 82),[]),
(oM 84 83,[]),
(oT 84 85 (.fieldAddr 4 10),[]),
(oT 84 86 (.load none 85),[]),
(oT 84 87 (.fieldAddr 5 5),[0,0]),
(oT 84 88 (.load none 87),[1,0]),
(oT 84 89 (.mov 12),[0,0,0,0]),
(oT 84 90 (.indexSl 1 88 89),[3,0]),
(oT 84 91 (.load none 90),[4,0]),
(oT 84 92 (.fieldAddr 2 7),[0,0,0,0,0,0,0]),
(oT 84 93 (.load none 92),[1,0,0,0,0,0,0]),
(oT 84 94 (.call false (.f 88) [91,93]),[7,0]),
(oT 84 95 (.call false (.f 13) [86,94]),[]),
(oP 96 84 95 cF,[])])
(.cond 96
(sq (kr [] [oD 4 (.mov cT)])
.ret)
.skip)))
(kr [0,5,7,9,10,12] [oM 79 12,
oB 80 .add 79 (cI 1),
oM 12 80]))))))))))
(kr [0,5,7,9] [oM 41 9,
oB 42 .add 41 (cI 1),
oM 9 42]))))))
(sq (kr [] [oD 4 (.mov cF)])
.ret))))))
def zdV_:List RD:=[.tmp 4 true none]
theorem zeo_:zk_ Tryz.prog Tryz.f141 zeZ_ zdV_=true:=by kernel_rfl
def vW_:List AV->List Obj->Option (Prop × AV)
 | [.imm (.cons (.int .i64) (.cons (.int .i64) (.cons .bool (.cons (.int .u64) (.cons (.sl (.int .u8)) (.cons (.sl (.int .u8)) .nil)))))) l,.agg [.int .i64 c,.int .i64 f,.bool h,.int .u64 x,.imm (.int .u8) v,.imm (.int .u8) m]],[]=>some ((True,.bool (wo_ l c f)))
 | _,_=>none
theorem zaU_:zd_ Tryz.prog 141 (RoF vW_).sum:=by
 refine zi_ Tryz.func141 zeo_ (za_ (s:=RoF jo_) K8_ (za_ (s:=RwF Qf_) qL_ (za_ (s:=RoF Kp_) j0_ (zc_ _)))) fun args objs p v e=>?_
 unfold vW_ at e
 split at e
 ·rename_i l c f h x v m
  cases e
  refine ⟨rfl,fun hw ho hp=>?_⟩
  change List Int at v
  change List Int at m
  change List OV at l
  have hl:l.length<=maxLen:=(hw (.imm Y1 l) (by simp)).2
  have hby:=zik_ (l:=l) (hw (.imm Y1 l) (by simp))
  unfold maxLen at hl
  have hvl:∀ o ∈ l,o.2.2.2.2.1.length<=9223372036854775807:=fun o ho=>by
   have:=((hw (.imm Y1 l) (by simp)).1 o ho).2.2.2.2.1.2
   unfold maxLen at this;exact this
  have hvs:(kl_ f).length<=10:=by
   cases h:fIs f with
   | true=>
     have hn:=ql_.1 h
     have:∀ k < 40,(kl_ (k:Nat)).length<=10:=by decide+kernel
     have:=this f.toNat (by omega)
     rwa [Int.toNat_of_nonneg hn.1] at this
   | false=>unfold kl_;rw [h];exact Nat.zero_le _
  clear hw ho
  obtain ⟨w1,w2,w3⟩:=law9 f
  have hsz:=zh8_ (kn_ f)
  have hlaw:∀ o ∈ l,mrO (kn_ f) (kl_ f) o=mtO (qx_ f) (Kg_ f) o:=fun o ho=>by
   rw [<- w1,<- w2];exact zkz_ (hby o ho).2.1
  have hany:l.any (mtO (qx_ f) (Kg_ f))=l.any (mrO (kn_ f) (kl_ f)):=by
   rw [Bool.eq_iff_iff,List.any_eq_true,List.any_eq_true]
   constructor
   ·rintro ⟨o,ho,hk⟩;exact ⟨o,ho,(hlaw o ho).trans hk⟩
   ·rintro ⟨o,ho,hk⟩;exact ⟨o,ho,(hlaw o ho).symm.trans hk⟩
  cases hn:uf_ c f with
  | true=>
    have e:wo_ l c f=true:=by unfold wo_;rw [if_pos hn]
    rw [e]
    repeat'(intro t ht;first|(cases t<;>first|(cases ht;done)|(try simp only[zg_]at ht;try(exfalso;first|contradiction|omega)))|((first|refine zb_ ht ?_|refine ht ?_ ?_|refine ht.1 ?_ ?_|refine ht ?_)<;>clear ht))
    all_goals first
     | exact True.intro
     | exact ⟨rfl,rfl⟩
     | (exfalso;unfold uf_ at hn;simp_all;done)
     | (exfalso;unfold uf_ at hn;simp_all;omega)
  | false=>
    have e:wo_ l c f=l.any (mrO (kn_ f) (kl_ f)):=by rw [<- hany];unfold wo_;rw [hn];rfl
    rw [e]
    clear e hany
    have hn1:c=32768:=Classical.byContradiction fun h=>by unfold uf_ at hn;simp [h] at hn
    have hn2:fIs f=true:=by cases hf:fIs f with | true=>rfl | false=>unfold uf_ at hn;simp [hf] at hn
    have hn3:¬ kn_ f < 0:=fun h=>by rw [<- w1] at h;unfold uf_ at hn;simp [h] at hn
    clear hn hlaw
    generalize hS:z2_ (kn_ f)=S at*
    generalize hN:kn_ f=nd at*
    generalize hV:kl_ f=vals at*
    repeat'(intro t ht;first|(cases t<;>first|(cases ht;done)|(try simp only[zg_]at ht;try(exfalso;first|contradiction|omega)))|((first|refine zb_ ht ?_|refine ht ?_ ?_|refine ht.1 ?_ ?_|refine ht ?_)<;>clear ht))
    all_goals first
     | exact True.intro
     | (intro r h1 h2;clear h1;refine h2 ⟨[0,5,7,9],Nat,(fun i=>i<=l.length/\(l.take i).any (mrO nd vals)=false),fun i=>[.imm Y1 l,.ptr 0 0,.ptr 1 0,.int .i64 i],fun _=>[.box [.str (xs_ f),.int .i64 (qc_ f),.int .i64 (z2_ f),.bool (KB_ f),.int .i64 nd,.imm (.int .u64) vals],.box [.str (xs_ nd),.int .i64 (qc_ nd),.int .i64 S,.bool (KB_ nd),.int .i64 (kn_ nd),.imm (.int .u64) (kl_ nd)]],fun i=>l.length - i,⟨0,⟨Nat.zero_le _,rfl⟩,rfl,(by rw [hN,hV,hS])⟩,?_⟩;clear h2)
     | (exfalso;rw [hn2] at ht;cases ht)
    rintro i ⟨hi,he⟩
    repeat'(intro t ht;first|(cases t<;>first|(cases ht;done)|(try simp only[zg_]at ht;try(exfalso;first|contradiction|omega)))|((first|refine zb_ ht ?_|refine ht ?_ ?_|refine ht.1 ?_ ?_|refine ht ?_)<;>clear ht))
    all_goals (try generalize (Ty.dflt Y1)=od at*)
    all_goals first
     | exact True.intro
     | ((try simp only [zm_,zn_,zl_] at*);omega)
     | (rw [YJ_ (by omega) he];exact ⟨rfl,rfl⟩)
     | (have hm:mrO nd vals (l.getD i od)=false:=by
         unfold mrO mrV
         first
          | (rw [decide_eq_false (show ¬ (l.getD i od).1=32768 by assumption)];rfl)
          | (rw [decide_eq_false (show ¬ (l.getD i od).2.1=nd by assumption)];simp;done)
        exact ⟨i+1,⟨by omega,kJ_ (d:=od) (by omega) he hm⟩,by dsimp only;omega,rfl,rfl⟩)
     | (intro r h1 h2;clear h1;refine h2 ⟨[0,5,7,9,10,11],Nat,(fun k=>k<=(l.getD i od).2.2.2.2.1.length/\((l.getD i od).2.2.2.2.1.take k).any nzB=false),fun k=>[.imm Y1 l,.ptr 0 0,.ptr 1 0,.int .i64 i,.ptr 2 0,.int .i64 k],fun _=>[.box [.str (xs_ f),.int .i64 (qc_ f),.int .i64 (z2_ f),.bool (KB_ f),.int .i64 nd,.imm (.int .u64) vals],.box [.str (xs_ nd),.int .i64 (qc_ nd),.int .i64 S,.bool (KB_ nd),.int .i64 (kn_ nd),.imm (.int .u64) (kl_ nd)],.box [.int .i64 ((l.getD i od).1),.int .i64 ((l.getD i od).2.1),.bool ((l.getD i od).2.2.1),.int .u64 ((l.getD i od).2.2.2.1),.imm (.int .u8) ((l.getD i od).2.2.2.2.1),.imm (.int .u8) ((l.getD i od).2.2.2.2.2.1)]],fun k=>(l.getD i od).2.2.2.2.1.length - k,⟨0,⟨Nat.zero_le _,rfl⟩,rfl,rfl⟩,?_⟩;clear h2)
     | (intro r h1 h2;clear h1;refine h2 ⟨[0,5,7,9,10,12],Nat,(fun k=>k<=vals.length/\((vals.take k).any fun y=>!(l.getD i od).2.2.1 && decide ((l.getD i od).2.2.2.2.1=ze_ y S))=false),fun k=>[.imm Y1 l,.ptr 0 0,.ptr 1 0,.int .i64 i,.ptr 2 0,.int .i64 k],fun _=>[.box [.str (xs_ f),.int .i64 (qc_ f),.int .i64 (z2_ f),.bool (KB_ f),.int .i64 nd,.imm (.int .u64) vals],.box [.str (xs_ nd),.int .i64 (qc_ nd),.int .i64 S,.bool (KB_ nd),.int .i64 (kn_ nd),.imm (.int .u64) (kl_ nd)],.box [.int .i64 ((l.getD i od).1),.int .i64 ((l.getD i od).2.1),.bool ((l.getD i od).2.2.1),.int .u64 ((l.getD i od).2.2.2.1),.imm (.int .u8) ((l.getD i od).2.2.2.2.1),.imm (.int .u8) ((l.getD i od).2.2.2.2.2.1)]],fun k=>vals.length - k,⟨0,⟨Nat.zero_le _,rfl⟩,rfl,rfl⟩,?_⟩;clear h2)
    all_goals rintro k ⟨hk,hke⟩
    all_goals (have hvli:=hvl _ (zu_ (show i < l.length by omega) od))
    all_goals repeat'(intro t ht;first|(cases t<;>first|(cases ht;done)|(try simp only[zg_]at ht;try(exfalso;first|contradiction|omega)))|((first|refine zb_ ht ?_|refine ht ?_ ?_|refine ht.1 ?_ ?_|refine ht ?_)<;>clear ht))
    all_goals first
     | exact True.intro
     | ((try simp only [zm_,zn_,zl_] at*);omega)
     | (have hm:=ziy_ (nd:=nd) (vals:=vals) (o:=l.getD i od) (by omega) (by assumption) (by assumption)
        first
         | (rw [YJ_ (by omega) hke] at hm
            exact ⟨i+1,⟨by omega,kJ_ (d:=od) (by omega) he hm⟩,by dsimp only;omega,rfl,rfl⟩)
         | (have hz:=nz_t (v:=(l.getD i od).2.2.2.2.1) (k:=k) (by assumption)
            rw [YI_ (show k < (l.getD i od).2.2.2.2.1.length by omega) hz] at hm
            rw [YI_ (show i < l.length by omega) hm];exact ⟨rfl,rfl⟩)
         | exact ⟨k+1,⟨by omega,kJ_ (d:=0) (by omega) hke (nz_f (by assumption))⟩,by dsimp only;omega,rfl,rfl⟩)
     | (have hm:=zkw_ (nd:=nd) (vals:=vals) (o:=l.getD i od) (show ¬ vals.length=0 by omega) (by assumption) (by assumption) hS
        first
         | (rw [YJ_ (by omega) hke] at hm
            exact ⟨i+1,⟨by omega,kJ_ (d:=od) (by omega) he hm⟩,by dsimp only;omega,rfl,rfl⟩)
         | (have hh:(l.getD i od).2.2.1=true:=by assumption
            exact ⟨k+1,⟨by omega,kJ_ (p:=fun y=>!(l.getD i od).2.2.1 && decide ((l.getD i od).2.2.2.2.1=ze_ y S)) (d:=0) (by omega) hke (by (try dsimp only);rw [hh];rfl)⟩,by dsimp only;omega,rfl,rfl⟩)
         | (have hh:(l.getD i od).2.2.1=false:=by assumption
            have hq:(l.getD i od).2.2.2.2.1=ze_ (vals.getD k 0) S:=by assumption
            rw [YI_ (p:=fun y=>!(l.getD i od).2.2.1 && decide ((l.getD i od).2.2.2.2.1=ze_ y S)) (d:=0) (show k < vals.length by omega) (by (try dsimp only);rw [hh,decide_eq_true hq];rfl)] at hm
            rw [YI_ (show i < l.length by omega) hm];exact ⟨rfl,rfl⟩)
         | (have hq:¬ (l.getD i od).2.2.2.2.1=ze_ (vals.getD k 0) S:=by assumption
            exact ⟨k+1,⟨by omega,kJ_ (p:=fun y=>!(l.getD i od).2.2.1 && decide ((l.getD i od).2.2.2.2.1=ze_ y S)) (d:=0) (by omega) hke (by (try dsimp only);rw [decide_eq_false hq,Bool.and_false])⟩,by dsimp only;omega,rfl,rfl⟩))
 ·cases e
def BP_:IR:=
(sq (kr [0] [oD 2 (.mov (cI 0)),
oD 3 (.mov (cI 0))])
(sq (sq (.reg [oD 4 (.mov (cI 0))])
(.block 0
(.loop
(sq (sq (kr [0,4] [oM 6 4,
oM 7 0,
oE 8 7,
oB 9 .lss 6 8])
(.cond 9
.skip
(.exit 0)))
(sq (.block 1
(sq (sq (.reg [oD 5 (.mov (cI 0))])
(.block 2
(.loop
(sq (sq (kr [0,4,5] [oM 12 5,
oM 13 4,
oB 14 .lss 12 13])
(.cond 14
.skip
(.exit 2)))
(sq (.block 3
(sq (kd [0,4,5] [(oM 17 0,[]),
(oM 18 5,[0]),
(oI 19 6 17 18,[]),
(oK 20 6 19,[]),
(oM 21 0,[0,0,0,0]),
(oM 22 4,[0,0,0,0,0]),
(oI 23 6 21 22,[2,0,0,0]),
(oK 24 6 23,[3,0,0,0]),
(oC 25 140 [20,24],[])])
(.cond 25
(sq (kr [4] [oM 26 4,
oM 2 26,
oD 3 (.mov (cI 1035))])
.ret)
.skip)))
(kr [0,4,5] [oM 15 5,
oB 16 .add 15 (cI 1),
oM 5 16]))))))
(sq (kd [0,4] [(oM 27 0,[]),
(oM 28 4,[0]),
(oD 29 (.slice 6 27 none (some 28) none),[]),
(oM 30 0,[0,0,0]),
(oM 31 4,[0,0,0,0]),
(oI 32 6 30 31,[2,0,0]),
(oK 33 6 32,[3,0,0]),
(oC 34 141 [29,33],[]),
(oD 35 (.un .not 34),[])])
(.cond 35
(sq (kr [4] [oM 36 4,
oM 2 36,
oD 3 (.mov (cI 1034))])
.ret)
.skip))))
(kr [0,4] [oM 10 4,
oB 11 .add 10 (cI 1),
oM 4 11]))))))
(sq (kr [] [oD 2 (.mov (cI 0)),
oD 3 (.mov (cI 0))])
.ret)))
def bp_:List RD:=[.tmp 2 true none,.tmp 3 true none]
theorem b2_:zk_ Tryz.prog Tryz.f104 BP_ bp_=true:=by kernel_rfl
def x0_:List AV->List Obj->Option (Prop × AV)
 | [.imm (.cons (.int .i64) (.cons (.int .i64) (.cons .bool (.cons (.int .u64) (.cons (.sl (.int .u8)) (.cons (.sl (.int .u8)) .nil)))))) l],[]=>some ((True,.tup [.int .i64 (ckS [] l).1,.int .i64 (ckS [] l).2]))
 | _,_=>none
theorem g7_:zd_ Tryz.prog 104 (RoF x0_).sum:=by
 refine zi_ Tryz.func104 b2_ (za_ (s:=RoF jQ_) XL_ (za_ (s:=RoF vW_) zaU_ (zc_ _))) fun args objs p v e=>?_
 unfold x0_ at e
 split at e
 ·rename_i l
  cases e
  refine ⟨rfl,fun hw ho hp=>?_⟩
  change List OV at l
  have hl:l.length<=maxLen:=(hw (.imm Y1 l) (by simp)).2
  unfold maxLen at hl
  clear hw ho
  repeat'(intro t ht;first|(cases t<;>first|(cases ht;done)|(try simp only[zg_]at ht))|((first|refine zb_ ht ?_|refine ht ?_ ?_|refine ht.1 ?_ ?_|refine ht ?_)<;>clear ht))
  all_goals first
   | (intro r h1 h2;clear h1;refine h2 ⟨[0,4],Nat,(fun i=>i<=l.length/\ckS [] l=ckS (l.take i) (l.drop i)),fun i=>[.imm Y1 l,.int .i64 i],fun _=>[],fun i=>l.length - i,⟨0,⟨Nat.zero_le _,rfl⟩,rfl,rfl⟩,?_⟩;clear h2)
  rintro i ⟨hi,he⟩
  repeat'(intro t ht;first|(cases t<;>first|(cases ht;done)|(try simp only[zg_]at ht))|((first|refine zb_ ht ?_|refine ht ?_ ?_|refine ht.1 ?_ ?_|refine ht ?_)<;>clear ht))
  all_goals first
   | exact True.intro
   | ((try simp only [zm_,zn_,zl_] at*);omega)
   | (rw [he,zgw_ (by omega)];exact ⟨rfl,rfl⟩)
   | (intro r h1 h2;clear h1;refine h2 ⟨[0,4,5],Nat,(fun k=>k<=i/\(((l.take i).take k).any (fun x=>alO x (l.getD i (Ty.dflt Y1))))=false),fun k=>[.imm Y1 l,.int .i64 i,.int .i64 k],fun _=>[],fun k=>i - k,⟨0,⟨Nat.zero_le _,rfl⟩,rfl,rfl⟩,?_⟩;clear h2)
  all_goals rintro k ⟨hk,hke⟩
  all_goals have hlt:i < l.length:=by omega
  all_goals have htk:(l.take i).length=i:=WU_ (by omega)
  all_goals repeat'(intro t ht;first|(cases t<;>first|(cases ht;done)|(try simp only[zg_]at ht;try(exfalso;first|contradiction|omega)))|((first|refine zb_ ht ?_|refine ht ?_ ?_|refine ht.1 ?_ ?_|refine ht ?_)<;>clear ht))
  all_goals (try generalize (Ty.dflt Y1)=od at*)
  all_goals first
   | exact True.intro
   | ((try simp only [zm_,zn_,zl_] at*);omega)
   | (have hka:=YJ_ (by omega) hke
      first
       | (have hm:wo_ (l.take i) (l.getD i od).1 (l.getD i od).2.1=false:=by assumption
          rw [he,zc1_ hlt hka hm];exact ⟨rfl,rfl⟩)
       | (have hm:wo_ (l.take i) (l.getD i od).1 (l.getD i od).2.1=true:=by assumption
          exact ⟨i+1,⟨by omega,he.trans (zjq_ (by omega) hka hm)⟩,by dsimp only;omega,rfl,rfl⟩))
   | (have hg:(l.take i).getD k od=l.getD k od:=zj4_ (by omega)
      first
       | (have hm:=zlx_ ht
          rw [<- hg] at hm
          have hka:=YI_ (p:=fun x=>alO x (l.getD i od)) (d:=od) (show k < (l.take i).length by omega) hm
          rw [he,zgv_ hlt hka];exact ⟨rfl,rfl⟩)
       | (have hm:=zly_ ht
          rw [<- hg] at hm
          exact ⟨k+1,⟨by omega,kJ_ (p:=fun x=>alO x (l.getD i od)) (d:=od) (by omega) hke hm⟩,by dsimp only;omega,rfl,rfl⟩))
 ·cases e
def zI_ (t:Int):List Int:=if t=0 then [4,2,-6] else if t=22\/t=21\/t=65535 then [4] else if t=15\/t=23 then [1,-3] else if t=17\/t=19\/t=26\/t=20 then [2,-2] else if t=11\/t=12\/t=16\/t=18\/t=24\/t=27 then [-4] else []
def Gg_ (t:Int):Bool:=decide (t=0\/(t=22\/t=21\/t=65535)\/(t=15\/t=23)\/(t=17\/t=19\/t=26\/t=20)\/(t=11\/t=12\/t=16\/t=18\/t=24\/t=27))
theorem zfM_ {t:Int} (h:¬ (t=0\/(t=22\/t=21\/t=65535)\/(t=15\/t=23)\/(t=17\/t=19\/t=26\/t=20)\/(t=11\/t=12\/t=16\/t=18\/t=24\/t=27))):zI_ t=[]/\Gg_ t=false:=by
 refine ⟨?_,decide_eq_false h⟩
 unfold zI_
 rw [if_neg (by omega),if_neg (by omega),if_neg (by omega),if_neg (by omega),if_neg (by omega)]
theorem zib_ {t:Int} (h:Gg_ t=true):t=0\/(t=22\/t=21\/t=65535)\/(t=15\/t=23)\/(t=17\/t=19\/t=26\/t=20)\/(t=11\/t=12\/t=16\/t=18\/t=24\/t=27):=of_decide_eq_true h
theorem zfL_ (t:Int):zI_ t=[4,2,-6]\/zI_ t=[4]\/zI_ t=[1,-3]\/zI_ t=[2,-2]\/zI_ t=[-4]\/zI_ t=[]:=by
 unfold zI_
 repeat' split
 all_goals simp
theorem gC_ (t:Int):0<=zo_ (zI_ t)/\zo_ (zI_ t)<=2:=by
 rcases zfL_ t with h | h | h | h | h | h<;>rw [h]<;>decide
theorem u5_ (t:Int):0<=zP_ (zI_ t)/\zP_ (zI_ t)<=12:=by
 rcases zfL_ t with h | h | h | h | h | h<;>rw [h]<;>decide
def hO_ (t n:Int):Int:=if t=0 then (if n=0 then 517 else 0) else if t=22 then (if 4294967040 < n then 522 else 0) else if t=17 then (if n ≠ 33024/\n ≠ 34984 then 518 else 0) else if t=19 then (if n ≠ 34887/\n ≠ 34888 then 518 else 0) else if t=26 then (if n ≠ 35047 then 518 else 0) else 0
def gk_:IR:=
(sq (kr [0] [oD 2 (.mov (.c (.imm (.int .i64) []))),
oD 3 (.mov cF)])
(sq (sq (.reg [oM 4 0])
(.block 0
(sq (.block 7
(.block 6
(sq (.block 5
(.block 4
(sq (.block 3
(sq (.block 2
(sq (.block 1
(sq (sq (sq (.reg [oB 6 .eql 4 (cI 0),
oM 5 6])
(.cond 5
(.exit 1)
.skip))
(sq (sq (sq (.reg [oB 8 .eql 4 (cI 22),
oM 7 8])
(.cond 7
.skip
(sq (kr [4] [oB 9 .eql 4 (cI 21),
oM 7 9])
(.cond 7
.skip
(.reg [oB 10 .eql 4 (cI 65535),
oM 7 10])))))
(.cond 7
(.exit 2)
.skip))
(sq (sq (sq (kr [4] [oB 12 .eql 4 (cI 15),
oM 11 12])
(.cond 11
.skip
(.reg [oB 13 .eql 4 (cI 23),
oM 11 13])))
(.cond 11
(.exit 3)
.skip))
(sq (sq (sq (.reg [oB 15 .eql 4 (cI 17),
oM 14 15])
(.cond 14
.skip
(sq (kr [4] [oB 16 .eql 4 (cI 19),
oM 14 16])
(.cond 14
.skip
(.reg [oB 17 .eql 4 (cI 26),
oM 14 17])))))
(.cond 14
(.exit 4)
.skip))
(sq (sq (kr [4] [oB 19 .eql 4 (cI 20),
oM 18 19])
(.cond 18
(.exit 5)
.skip))
(sq (sq (sq (.reg [oB 21 .eql 4 (cI 11),
oM 20 21])
(.cond 20
.skip
(sq (.reg [oB 22 .eql 4 (cI 12),
oM 20 22])
(.cond 20
.skip
(kr [4] [oB 23 .eql 4 (cI 16),
oM 20 23])))))
(.cond 20
(.exit 6)
.skip))
(sq (sq (kr [4] [oB 25 .eql 4 (cI 18),
oM 24 25])
(.cond 24
.skip
(sq (.reg [oB 26 .eql 4 (cI 24),
oM 24 26])
(.cond 24
.skip
(.reg [oB 27 .eql 4 (cI 27),
oM 24 27])))))
(.cond 24
(.exit 7)
.skip))))))))
(.exit 0)))
(sq (sq (kr [] [oD 28 (.sliceAll (.int .i64) 3 [(0,1,(cI 4)),(1,1,(cI 2)),(2,1,(cI (-6)))]),
oM 2 28,
oD 3 (.mov cT)])
.ret)
(.exit 0))))
(sq (sq (kr [] [oD 29 (.sliceAll (.int .i64) 1 [(0,1,(cI 4))]),
oM 2 29,
oD 3 (.mov cT)])
.ret)
(.exit 0))))
(sq (sq (kr [] [oD 30 (.sliceAll (.int .i64) 2 [(0,1,(cI 1)),(1,1,(cI (-3)))]),
oM 2 30,
oD 3 (.mov cT)])
.ret)
(.exit 0)))))
(sq (sq (kr [] [oD 31 (.sliceAll (.int .i64) 2 [(0,1,(cI 2)),(1,1,(cI (-2)))]),
oM 2 31,
oD 3 (.mov cT)])
.ret)
(.exit 0)))))
(sq (sq (kr [] [oD 32 (.sliceAll (.int .i64) 1 [(0,1,(cI (-4)))]),
oM 2 32,
oD 3 (.mov cT)])
.ret)
(.exit 0)))))
(sq (kr [] [oD 2 (.mov (.c (.imm (.int .i64) []))),
oD 3 (.mov cF)])
.ret)))
def Us_:List RD:=[.tmp 2 true (some (.int .i64)),.tmp 3 true none]
theorem UV_:zk_ Tryz.prog Tryz.f212 gk_ Us_=true:=by kernel_rfl
def qA_:List AV->List Obj->Option (Prop × AV)
 | [.int .i64 q],[]=>some ((True,.tup [.imm (.int .i64) (zI_ q),.bool (Gg_ q)]))
 | _,_=>none
theorem QB_:zd_ Tryz.prog 212 (RoF qA_).sum:=by
 refine zi_ Tryz.func212 UV_ (zc_ _) fun args objs p v e=>?_
 unfold qA_ at e
 split at e
 ·rename_i q
  cases e
  refine ⟨rfl,fun hw ho hp=>?_⟩
  clear hw ho
  repeat'(intro t ht;first|(cases t<;>first|(cases ht;done)|(try simp only[zg_]at ht;try(exfalso;first|contradiction|omega)))|((first|refine zb_ ht ?_|refine ht ?_ ?_|refine ht.1 ?_ ?_|refine ht ?_)<;>clear ht))
  all_goals first
   | exact True.intro
   | (have h:=zfM_ (t:=q) (by omega)
      rw [h.1,h.2];exact ⟨rfl,rfl⟩)
   | (subst_vars;exact ⟨rfl,rfl⟩)
   | (have h:q=0\/(q=22\/q=21\/q=65535)\/(q=15\/q=23)\/(q=17\/q=19\/q=26\/q=20)\/(q=11\/q=12\/q=16\/q=18\/q=24\/q=27):=by omega
      rcases h with rfl | (rfl | rfl | rfl) | (rfl | rfl) | (rfl | rfl | rfl | rfl) | (rfl | rfl | rfl | rfl | rfl | rfl)<;>first | (exfalso;omega) | exact ⟨rfl,rfl⟩)
 ·cases e
def up_:IR:=
(sq (kr [0,1] [oD 4 (.mov (cI 0))])
(sq (.block 0
(sq (kr [0,1] [oM 6 0,
oB 7 .eql 6 (cI 0),
oM 8 7,
oT 8 9 (.mov 1),
oT 8 10 (.bin .eql 9 (.c (.int .u64 0))),
oP 11 8 10 cF,
oM 5 11])
(.cond 5
(sq (kr [] [oD 4 (.mov (cI 517))])
.ret)
(sq (kr [0,1] [oM 13 0,
oB 14 .eql 13 (cI 22),
oM 15 14,
oT 15 16 (.mov 1),
oT 15 17 (.bin .gtr 16 (.c (.int .u64 4294967040))),
oP 18 15 17 cF,
oM 12 18])
(.cond 12
(sq (kr [] [oD 4 (.mov (cI 522))])
.ret)
(sq (kr [0,1] [oM 20 0,
oB 21 .eql 20 (cI 17),
oM 22 21,
oT 22 23 (.mov 1),
oT 22 24 (.bin .neq 23 (.c (.int .u64 33024))),
oP 25 22 24 cF,
oM 26 25,
oT 26 27 (.mov 1),
oT 26 28 (.bin .neq 27 (.c (.int .u64 34984))),
oP 29 26 28 cF,
oM 19 29])
(.cond 19
(sq (kr [] [oD 4 (.mov (cI 518))])
.ret)
(sq (kr [0,1] [oM 31 0,
oB 32 .eql 31 (cI 19),
oM 33 32,
oT 33 34 (.mov 1),
oT 33 35 (.bin .neq 34 (.c (.int .u64 34887))),
oP 36 33 35 cF,
oM 37 36,
oT 37 38 (.mov 1),
oT 37 39 (.bin .neq 38 (.c (.int .u64 34888))),
oP 40 37 39 cF,
oM 30 40])
(.cond 30
(sq (kr [] [oD 4 (.mov (cI 518))])
.ret)
(sq (kr [0,1] [oM 42 0,
oB 43 .eql 42 (cI 26),
oM 44 43,
oT 44 45 (.mov 1),
oT 44 46 (.bin .neq 45 (.c (.int .u64 35047))),
oP 47 44 46 cF,
oM 41 47])
(.cond 41
(sq (kr [] [oD 4 (.mov (cI 518))])
.ret)
.skip)))))))))))
(sq (kr [] [oD 4 (.mov (cI 0))])
.ret)))
def V1_:List RD:=[.tmp 4 true none]
theorem uc_:zk_ Tryz.prog Tryz.f221 up_ V1_=true:=by kernel_rfl
def kg_:List AV->List Obj->Option (Prop × AV)
 | [.int .i64 q,.int .u64 n],[]=>some ((True,.int .i64 (hO_ q n)))
 | _,_=>none
theorem Jr_:zd_ Tryz.prog 221 (RoF kg_).sum:=by
 refine zi_ Tryz.func221 uc_ (zc_ _) fun args objs p v e=>?_
 unfold kg_ at e
 split at e
 ·rename_i q n
  cases e
  refine ⟨rfl,fun hw ho hp=>?_⟩
  clear hw ho
  repeat'(intro t ht;first|(cases t<;>first|(cases ht;done)|(try simp only[zg_]at ht;try(exfalso;first|contradiction|omega)))|((first|refine zb_ ht ?_|refine ht ?_ ?_|refine ht.1 ?_ ?_|refine ht ?_)<;>clear ht))
  all_goals first
   | exact True.intro
   | (refine ⟨congrArg (AV.int .i64) ?_,rfl⟩;unfold hO_;repeat' split
      all_goals first | rfl | omega)
 ·cases e
def yj_:IR:=
(sq (kr [0] [oD 1 (.boxv 0),
oD 2 (.mov cF)])
(sq (kr [1] [oA 3 0 1,
oL 4 3,
oB 5 .eql 4 (cI 32768),
oM 6 5,
oT 6 7 (.fieldAddr 2 1),
oT 6 8 (.load none 7),
oT 6 9 (.un .not 8),
oP 10 6 9 cF,
oM 11 10,
oT 11 12 (.fieldAddr 1 1),
oT 11 13 (.load none 12),
oT 11 14 (.call false (.f 227) [13]),
oP 15 11 14 cF,
oM 16 15,
oT 16 17 (.load (some 6) 1),
oT 16 18 (.call false (.f 118) [17]),
oP 19 16 18 cF,
oM 2 19])
.ret))
def X9_:List RD:=[.tmp 2 true none]
theorem yd_:zk_ Tryz.prog Tryz.f219 yj_ X9_=true:=by kernel_rfl
def kf_:List AV->List Obj->Option (Prop × AV)
 | [.agg [.int .i64 c,.int .i64 f,.bool h,.int .u64 x,.imm (.int .u8) v,.imm (.int .u8) m]],[]=>some ((v.length<=1000000/\m.length<=1000000,.bool (decide (c=32768) && !h && XS_ f && zG_ c f h x v m)))
 | _,_=>none
theorem XC_:zd_ Tryz.prog 219 (RoF kf_).sum:=by
 refine zi_ Tryz.func219 yd_ (za_ (s:=RoF Qg_) jb_ (za_ (s:=RoF QM_) kR_ (zc_ _))) fun args objs p v e=>?_
 unfold kf_ at e
 split at e
 ·rename_i c f h x v m
  cases e
  refine ⟨rfl,fun hw ho hp=>?_⟩
  change List Int at v
  change List Int at m
  clear hw ho
  cases h
  all_goals repeat'(intro t ht;first|(cases t<;>first|(cases ht;done)|(try simp only[zg_]at ht;try(exfalso;first|contradiction|omega)))|((first|refine zb_ ht ?_|refine ht ?_ ?_|refine ht.1 ?_ ?_|refine ht ?_)<;>clear ht))
  all_goals first
   | exact True.intro
   | exact hp
   | (refine ⟨congrArg AV.bool ?_,rfl⟩;simp_all;done)
 ·cases e
def gl_:IR:=
(sq (kr [0] [oD 1 (.boxv 0),
oD 2 (.mov cF)])
(sq (.reg [oK 3 6 1,
oD 4 (.build [.int .i64 0,.int .i64 0,.kb false,.int .u64 0,.imm (.int .u8) [],.imm (.int .u8) []] []),
oC 5 228 [3,4],
oM 2 5])
.ret))
def Ut_:List RD:=[.tmp 2 true none]
theorem UW_:zk_ Tryz.prog Tryz.f220 gl_ Ut_=true:=by kernel_rfl
def Jh_:List AV->List Obj->Option (Prop × AV)
 | [.agg [.int .i64 c,.int .i64 f,.bool h,.int .u64 x,.imm (.int .u8) v,.imm (.int .u8) m]],[]=>some ((True,.bool (Kz_ c f h x v m 0 0 false 0 [] [])))
 | _,_=>none
theorem VR_:zd_ Tryz.prog 220 (RoF Jh_).sum:=by
 refine zi_ Tryz.func220 UW_ (za_ (s:=RoF yG_) H1_ (zc_ _)) fun args objs p v e=>?_
 unfold Jh_ at e
 split at e
 ·rename_i c f h x v m
  cases e
  refine ⟨rfl,fun hw ho hp=>?_⟩
  change List Int at v
  change List Int at m
  clear hw ho
  repeat'(intro t ht;first|(cases t<;>first|(cases ht;done)|(try simp only[zg_]at ht;try(exfalso;first|contradiction|omega)))|((first|refine zb_ ht ?_|refine ht ?_ ?_|refine ht.1 ?_ ?_|refine ht ?_)<;>clear ht))
  all_goals first
   | exact True.intro
   | exact ⟨rfl,rfl⟩
 ·cases e
def jf_ (t a b:Int):List Int:=[a,b].take (zo_ (zI_ t)).toNat
def z4_ (R:Bool) (t a b c f:Int) (h:Bool) (x:Int) (v m d:List Int):Bool:=
 if t=25 then decide (a=0) && decide (b=0) && decide (d.length=0) && (decide (c=32768) && !h && XS_ f && R)
 else Gg_ t && Kz_ c f h x v m 0 0 false 0 [] [] && decide (hO_ t a=0) && ZM_ (zI_ t) (jf_ t a b) && (decide (2<=zo_ (zI_ t)) || decide (b=0)) && (decide (1<=zo_ (zI_ t)) || decide (a=0)) && (if t=65535 then decide ((d.length:Int).tmod 8=0) && decide ((d.length:Int)<=65520) else decide (d.length=0))
def uq_:IR:=
(sq (kr [0] [oD 1 (.boxv 0),
oD 2 (.mov cF)])
(sq (sq (.reg [oA 8 0 1,
oL 9 8,
oB 10 .eql 9 (cI 25)])
(.cond 10
(sq (kr [1] [oA 11 1 1,
oL 12 11,
oB 13 .eql 12 (.c (.int .u64 0)),
oM 14 13,
oT 14 15 (.fieldAddr 2 1),
oT 14 16 (.load none 15),
oT 14 17 (.bin .eql 16 (.c (.int .u64 0))),
oP 18 14 17 cF,
oM 19 18,
oT 19 20 (.fieldAddr 9 1),
oT 19 21 (.load none 20),
oT 19 22 (.len 21),
oT 19 23 (.bin .eql 22 (cI 0)),
oP 24 19 23 cF,
oM 25 24,
oT 25 26 (.fieldAddr 3 1),
oT 25 27 (.load (some 6) 26),
oT 25 28 (.call false (.f 219) [27]),
oP 29 25 28 cF,
oM 2 29])
.ret)
.skip))
(sq (kr [1] [oA 31 0 1,
oL 32 31,
oC 33 212 [32],
oM 30 33,
oX 34 30 0,
oX 35 30 1,
oM 3 34,
oM 4 35])
(sq (sq (kr [1,3,4] [oM 36 4,
oD 37 (.un .not 36),
oM 38 37,
oF 38 39 (.fieldAddr 3 1),
oF 38 40 (.load (some 6) 39),
oF 38 41 (.call false (.f 220) [40]),
oF 38 42 (.un .not 41),
oP 43 38 cT 42,
oM 44 43,
oF 44 45 (.fieldAddr 0 1),
oF 44 46 (.load none 45),
oF 44 47 (.fieldAddr 1 1),
oF 44 48 (.load none 47),
oF 44 49 (.call false (.f 221) [46,48]),
oF 44 50 (.bin .neq 49 (cI 0)),
oP 51 44 cT 50])
(.cond 51
(sq (kr [] [oD 2 (.mov cF)])
.ret)
.skip))
(sq (kr [1,3] [oM 52 3,
oC 53 114 [52],
oM 5 53])
(sq (kr [1,3,5] [oM 55 3,
oA 56 1 1,
oL 57 56,
oA 58 2 1,
oL 59 58,
oD 60 (.sliceAll (.int .u64) 2 [(0,1,57),(1,1,59)]),
oM 61 5,
oD 62 (.slice 1 60 none (some 61) none),
oC 63 64 [55,62],
oM 54 63,
oX 64 54 0,
oX 65 54 1,
oM 6 64,
oM 7 65])
(sq (sq (kr [1,5,7] [oM 66 7,
oD 67 (.un .not 66),
oM 68 67,
oF 68 69 (.mov 5),
oF 68 70 (.bin .lss 69 (cI 2)),
oF 68 71 (.mov 70),
oT 71 72 (.fieldAddr 2 1),
oT 71 73 (.load none 72),
oT 71 74 (.bin .neq 73 (.c (.int .u64 0))),
oF 68 75 (.pick 71 74 cF),
oP 76 68 cT 75,
oM 77 76,
oF 77 78 (.mov 5),
oF 77 79 (.bin .lss 78 (cI 1)),
oF 77 80 (.mov 79),
oT 80 81 (.fieldAddr 1 1),
oT 80 82 (.load none 81),
oT 80 83 (.bin .neq 82 (.c (.int .u64 0))),
oF 77 84 (.pick 80 83 cF),
oP 85 77 cT 84])
(.cond 85
(sq (kr [] [oD 2 (.mov cF)])
.ret)
.skip))
(sq (sq (kr [1] [oA 86 0 1,
oL 87 86,
oB 88 .neq 87 (cI 65535)])
(.cond 88
(sq (kr [1] [oA 89 9 1,
oL 90 89,
oE 91 90,
oB 92 .eql 91 (cI 0),
oM 2 92])
.ret)
.skip))
(sq (kr [1] [oA 93 9 1,
oL 94 93,
oE 95 94,
oB 96 .rem 95 (cI 8),
oB 97 .eql 96 (cI 0),
oM 98 97,
oT 98 99 (.fieldAddr 9 1),
oT 98 100 (.load none 99),
oT 98 101 (.len 100),
oT 98 102 (.bin .leq 101 (cI 65520)),
oP 103 98 102 cF,
oM 2 103])
.ret)))))))))
def V2_:List RD:=[.tmp 2 true none]
theorem ud_:zk_ Tryz.prog Tryz.f210 uq_ V2_=true:=by kernel_rfl
def kh_:List AV->List Obj->Option (Prop × AV)
 | [.agg [.int .i64 q,.int .u64 a,.int .u64 b,.int .i64 c,.int .i64 f,.bool h,.int .u64 x,.imm (.int .u8) v,.imm (.int .u8) m,.imm (.int .u8) d]],[]=>some ((v.length<=1000000/\m.length<=1000000,.bool (z4_ (zG_ c f h x v m) q a b c f h x v m d)))
 | _,_=>none
theorem Js_:zd_ Tryz.prog 210 (RoF kh_).sum:=by
 refine zi_ Tryz.func210 ud_ (za_ (s:=RoF kf_) XC_ (za_ (s:=RoF qA_) QB_ (za_ (s:=RoF Jh_) VR_ (za_ (s:=RoF kg_) Jr_ (za_ (s:=RoF QL_) kQ_ (za_ (s:=RoF Xq_) v9_ (zc_ _))))))) fun args objs p v e=>?_
 unfold kh_ at e
 split at e
 ·rename_i q a b c f h x v m d
  cases e
  refine ⟨rfl,fun hw ho hp=>?_⟩
  change List Int at v
  change List Int at m
  change List Int at d
  have hdl:d.length<=maxLen:=(hw _ (List.mem_cons_self ..) (.imm (.int .u8) d) (by simp)).2
  unfold maxLen at hdl
  clear hw ho
  have hcn:=gC_ q
  by_cases h25:q=25
  ·subst h25
   repeat'(intro t ht;first|(cases t<;>first|(cases ht;done)|(try simp only[zg_]at ht;try(exfalso;first|contradiction|omega)))|((first|refine zb_ ht ?_|refine ht ?_ ?_|refine ht.1 ?_ ?_|refine ht ?_)<;>clear ht))
   all_goals first
    | exact True.intro
    | exact hp
    | ((try simp only [zm_,zn_,zl_] at*);omega)
    | (refine ⟨congrArg AV.bool ?_,rfl⟩;unfold z4_;rw [if_pos rfl];simp_all;done)
  ·repeat'(intro t ht;first|(cases t<;>first|(cases ht;done)|(try simp only[zg_]at ht;try(exfalso;first|contradiction|omega)))|((first|refine zb_ ht ?_|refine ht ?_ ?_|refine ht.1 ?_ ?_|refine ht ?_)<;>clear ht))
   all_goals first
    | exact True.intro
    | exact hp
    | ((try simp only [zm_,zn_,zl_] at*);omega)
    | (refine ⟨congrArg AV.bool ?_,rfl⟩;unfold z4_ jf_;rw [if_neg h25];simp_all;done)
    | (refine ⟨congrArg AV.bool ?_,rfl⟩;unfold z4_ jf_;rw [if_neg h25];simp_all;omega)
 ·cases e
def y0_ (R:Bool) (S:Int) (t a b c f:Int) (h:Bool) (x:Int) (v m d:List Int):Int:=if z4_ R t a b c f h x v m d=true then (if t=25 then (4+S+8 - 1).tdiv 8*8 else 4+zP_ (zI_ t)+d.length) else 0
theorem zdA_ {R:Bool} {t a b c f:Int} {h:Bool} {x:Int} {v m d:List Int} (hr:z4_ R t a b c f h x v m d=true):d.length<=65520:=by
 unfold z4_ at hr
 split at hr
 ·simp only [Bool.and_eq_true,decide_eq_true_eq] at hr;omega
 ·simp only [Bool.and_eq_true] at hr
  have:=hr.2
  split at this
  ·simp only [Bool.and_eq_true,decide_eq_true_eq] at this;omega
  ·simp only [decide_eq_true_eq] at this;omega
theorem zaX_ {c f:Int} {h:Bool} {x:Int} {v m:List Int} (hv:v.length<=1000000) (hm:m.length<=1000000):0<=Qi_ c f h x v m/\Qi_ c f h x v m<=3000000:=by
 unfold Qi_ Zd_;repeat' split
 all_goals omega
def gm_:IR:=
(sq (kr [0] [oD 1 (.boxv 0),
oD 2 (.mov (cI 0))])
(sq (sq (.reg [oK 5 10 1,
oC 6 210 [5],
oD 7 (.un .not 6)])
(.cond 7
(sq (.reg [oD 2 (.mov (cI 0))])
.ret)
.skip))
(sq (sq (kr [1] [oA 8 0 1,
oL 9 8,
oB 10 .eql 9 (cI 25)])
(.cond 10
(sq (kr [1] [oA 11 3 1,
oK 12 6 11,
oC 13 120 [12],
oB 14 .add (cI 4) 13,
oB 15 .add 14 (cI 8),
oB 16 .sub 15 (cI 1),
oB 17 .quo 16 (cI 8),
oB 18 .mul 17 (cI 8),
oM 2 18])
.ret)
.skip))
(sq (kr [1] [oA 20 0 1,
oL 21 20,
oC 22 212 [21],
oM 19 22,
oX 23 19 0,
oX 24 19 1,
oM 3 23,
oM 4 24])
(sq (kd [1,3] [(oM 25 3,[]),
(oC 26 94 [25],[]),
(oB 27 .add (cI 4) 26,[]),
(oA 28 9 1,[0,0,0]),
(oL 29 28,[1,0,0]),
(oE 30 29,[2,0,0]),
(oB 31 .add 27 30,[]),
(oM 2 31,[])])
.ret)))))
def Uu_:List RD:=[.tmp 2 true none]
theorem UX_:zk_ Tryz.prog Tryz.f209 gm_ Uu_=true:=by kernel_rfl
def k2_:List AV->List Obj->Option (Prop × AV)
 | [.agg [.int .i64 q,.int .u64 a,.int .u64 b,.int .i64 c,.int .i64 f,.bool h,.int .u64 x,.imm (.int .u8) v,.imm (.int .u8) m,.imm (.int .u8) d]],[]=>some ((v.length<=1000000/\m.length<=1000000,.int .i64 (y0_ (zG_ c f h x v m) (Qi_ c f h x v m) q a b c f h x v m d)))
 | _,_=>none
theorem w0_:zd_ Tryz.prog 209 (RoF k2_).sum:=by
 refine zi_ Tryz.func209 UX_ (za_ (s:=RoF kh_) Js_ (za_ (s:=RoF jp_) JV_ (za_ (s:=RoF qA_) QB_ (za_ (s:=RoF QG_) QX_ (zc_ _))))) fun args objs p v e=>?_
 unfold k2_ at e
 split at e
 ·rename_i q a b c f h x v m d
  cases e
  refine ⟨rfl,fun hw ho hp=>?_⟩
  change List Int at v
  change List Int at m
  change List Int at d
  clear hw ho
  have hs:=zaX_ (c:=c) (f:=f) (h:=h) (x:=x) hp.1 hp.2
  have hz:=u5_ q
  have htd:(4+Qi_ c f h x v m+8 - 1).tdiv 8=(4+Qi_ c f h x v m+8 - 1) / 8:=Int.tdiv_eq_ediv_of_nonneg (by omega)
  cases hr:z4_ (zG_ c f h x v m) q a b c f h x v m d with
  | false=>
    repeat'(intro t ht;first|(cases t<;>first|(cases ht;done)|(try simp only[zg_]at ht;try(exfalso;first|contradiction|omega)))|((first|refine zb_ ht ?_|refine ht ?_ ?_|refine ht.1 ?_ ?_|refine ht ?_)<;>clear ht))
    all_goals first
     | exact True.intro
     | exact hp
     | (exfalso;simp_all;done)
     | (refine ⟨?_,rfl⟩;unfold y0_;rw [hr];rfl)
  | true=>
    have hl:=zdA_ hr
    repeat'(intro t ht;first|(cases t<;>first|(cases ht;done)|(try simp only[zg_]at ht;try(exfalso;first|contradiction|omega)))|((first|refine zb_ ht ?_|refine ht ?_ ?_|refine ht.1 ?_ ?_|refine ht ?_)<;>clear ht))
    all_goals first
     | exact True.intro
     | exact hp
     | (exfalso;simp_all;done)
     | ((try simp only [zm_,zn_,zl_] at*);omega)
     | (rw [htd];(try simp only [zm_,zn_,zl_] at*);omega)
     | (refine ⟨congrArg (AV.int .i64) ?_,rfl⟩;unfold y0_;rw [if_pos hr,if_pos (by assumption)];done)
     | (refine ⟨congrArg (AV.int .i64) ?_,rfl⟩;unfold y0_;rw [if_pos hr,if_neg (by assumption)];done)
 ·cases e
def xB_:IR:=
(sq (kr [0] [oD 2 (.mov (cI 0))])
(sq (sq (.reg [oM 3 0,
oC 4 66 [3]])
(.cond 4
(sq (.reg [oD 2 (.mov (cI 0))])
.ret)
.skip))
(sq (kr [0] [oM 5 0,
oD 6 (.nilck 5),
oA 7 0 6,
oL 8 7,
oE 9 8,
oM 2 9])
.ret)))
def xf_:List RD:=[.tmp 2 true none]
theorem xn_:zk_ Tryz.prog Tryz.f222 xB_ xf_=true:=by kernel_rfl
def Qn_:List AV->List Obj->Option (Prop × AV)
 | [.ptr 0 0],[.box [.own 1,.int .i64 room,.mapv 2,.int .i64 e],.row false (.int .u8) l,.map sq (.int .i64) (.int .i64) h]=>some ((True,.int .i64 l.length))
 | _,_=>none
theorem w7_:zd_ Tryz.prog 222 (RoF Qn_).sum:=by
 refine zi_ Tryz.func222 xn_ (za_ (s:=RoF z1_) Zj_ (zc_ _)) fun args objs p v e=>?_
 unfold Qn_ at e
 split at e
 ·rename_i room e l sq h
  cases e
  refine ⟨rfl,fun hw ho hp=>?_⟩
  change List Int at l
  repeat'(intro t ht;first|(cases t<;>first|(cases ht;done)|(try simp only[zg_]at ht))|((first|refine zb_ ht ?_|refine ht ?_ ?_|refine ht.1 ?_ ?_|refine ht ?_)<;>clear ht))
  all_goals first
   | exact True.intro
   | exact ⟨rfl,rfl⟩
 ·cases e
def evZ (s:Int) (n:Nat):List Int:=List.replicate ((s - (n:Int).tmod s).tmod s).toNat 0
theorem yQ_ {a s:Int} (ha:0<=a) (hs:1<=s):0<=a.tmod s/\a.tmod s < s:=by
 rw [Int.tmod_eq_emod_of_nonneg ha];exact ⟨Int.emod_nonneg _ (by omega),Int.emod_lt_of_pos _ (by omega)⟩
def WQ_:IR:=
(sq (sq (kr [0,1] [oM 4 1,
oB 5 .lss 4 (cI 1),
oM 6 5,
oF 6 7 (.mov 1),
oF 6 8 (.bin .gtr 7 (cI 64)),
oP 9 6 cT 8])
(.cond 9
(sq (kr [0] [oM 10 0,
oC 11 34 [10,(cI 10001)]])
.ret)
.skip))
(kr [0,1] [oM 12 0,
oM 13 1,
oM 14 0,
oC 15 222 [14],
oM 16 1,
oB 17 .rem 15 16,
oB 18 .sub 13 17,
oM 19 1,
oB 20 .rem 18 19,
oD 21 (.mkrow (.int .u8) 1 (0:Int) 20 20),
oC 22 65 [12,21]]))
def Wl_:List RD:=[]
theorem WB_:zk_ Tryz.prog Tryz.f211 WQ_ Wl_=true:=by kernel_rfl
def q5_:List AV->List Obj->Option (Prop × AV × List Obj)
 | [.ptr 0 0,.int .i64 s],[.box [.own 1,.int .i64 room,.mapv 2,.int .i64 e],.row false (.int .u8) l,.map sq (.int .i64) (.int .i64) h]=>some ((0<=room/\room<=1000000/\l.length<=1000000/\1<=s/\s<=64,.tup [],[.box [.own 3,.int .i64 room,.mapv 2,.int .i64 (QT_ (evZ s l.length) l room e)],.dead,.map sq (.int .i64) (.int .i64) h,.row false (.int .u8) (kH_ (evZ s l.length) l room e)]))
 | _,_=>none
theorem J5_:zd_ Tryz.prog 211 (RwF q5_).sum:=by
 refine qa_ Tryz.func211 WB_ (za_ (s:=RwF zA_) zD_ (za_ (s:=RoF Qn_) w7_ (za_ (s:=RwF zv_) zB_ (zc_ _)))) fun args objs p v o e=>?_
 unfold q5_ at e
 split at e
 ·rename_i s room e l sq h
  cases e
  refine ⟨rfl,fun hw ho hp=>?_⟩
  change List Int at l
  clear hw ho
  have b1:=yQ_ (a:=(l.length:Int)) (s:=s) (by omega) (by omega)
  have b2:=yQ_ (a:=s - (l.length:Int).tmod s) (s:=s) (by omega) (by omega)
  repeat'(intro t ht;first|(cases t<;>first|(cases ht;done)|(try simp only[zg_]at ht;try(exfalso;first|contradiction|omega)))|((first|refine zb_ ht ?_|refine ht ?_ ?_|refine ht.1 ?_ ?_|refine ht ?_)<;>clear ht))
  all_goals first
   | exact True.intro
   | ((try simp only [zm_,zn_,zl_] at*);omega)
   | exact ⟨hp.1,hp.2.1,hp.2.2.1,by rw [List.length_replicate];omega⟩
   | exact ⟨rfl,rfl⟩
 ·cases e
def ZQ_ (t a b:Int) (E d:List Int):List Int:=if t=25 then E++List.replicate ((8 - (4+E.length) % 8) % 8) 0 else zR_ (zI_ t) (jf_ t a b)++d
def yr_ (t a b:Int) (E d:List Int):List Int:=ze_ t 2++ze_ (4+(ZQ_ t a b E d).length) 2++ZQ_ t a b E d
theorem h0_ {a n:Int} (ha:0<=a/\a<=65535) (hn:0<=n/\n<=65535):zR_ [2,2] [a,n]=ze_ a 2++ze_ n 2/\ZM_ [2,2] [a,n]=true:=by
 have e1:a.fdiv (2 ^ 16)=0:=by rw [Int.fdiv_eq_ediv_of_nonneg _ (by decide)];omega
 have e2:n.fdiv (2 ^ 16)=0:=by rw [Int.fdiv_eq_ediv_of_nonneg _ (by decide)];omega
 have h:Ka_ [2,2] [a,n]=some (ze_ a 2++ze_ n 2):=by
  unfold Ka_
  rw [if_pos ⟨by decide,(by decide:zo_ [2,2]=2)⟩]
  have m:min (8*(2:Int)).toNat 64=16:=by decide
  simp only [qQ_,m]
  rw [if_neg (by decide),if_neg (by rintro ⟨_,h⟩;exact h e1),if_neg (by decide),if_neg (by rintro ⟨_,h⟩;exact h e2)]
  rfl
 unfold zR_ ZM_;rw [h];exact ⟨rfl,rfl⟩
theorem xM_ {x l:List Int} {room:Int} (h:(x.length:Int)<=room - l.length):kH_ x l room 0=l++x/\QT_ x l room 0=0:=by
 have hb:JI_ x l room 0=true:=by unfold JI_;rw [decide_eq_true h];rfl
 exact ⟨by unfold kH_;rw [if_pos hb],by unfold QT_;rw [if_pos rfl,if_pos h]⟩
theorem H9_ {w xs l:List Int} {room:Int} (hk:ZM_ w xs=true) (h:((zR_ w xs).length:Int)<=room - l.length):qr_ w xs l room 0=l++zR_ w xs/\qK_ w xs l room 0=0:=by
 unfold qr_ qK_;rw [if_pos hk,if_pos hk];exact xM_ h
theorem Q9_ {x l:List Int} {room e:Int} (h:l.length<=1000000) (hr:room<=1000000):(kH_ x l room e).length<=1000000:=by
 unfold kH_ JI_;split
 ·rename_i hb;simp only [Bool.and_eq_true,decide_eq_true_eq] at hb;rw [List.length_append];omega
 ·exact h
theorem Ju_ {w xs l:List Int} {room e:Int} (h:l.length<=1000000) (hr:room<=1000000):(qr_ w xs l room e).length<=1000000:=by
 unfold qr_;split
 ·exact Q9_ h hr
 ·exact h
theorem K2_ {w xs:List Int} (hk:ZM_ w xs=true):((zR_ w xs).length:Int)=zP_ w:=by
 unfold ZM_ at hk
 obtain ⟨r,hr⟩:=Option.isSome_iff_exists.1 hk
 have hb:zR_ w xs=r:=by unfold zR_;rw [hr];rfl
 rw [hb]
 unfold Ka_ at hr
 split at hr
 ·rename_i h
  have:=Ya_ w xs [] r (Zk_.1 h.1).2 hr
  unfold zP_;rw [if_pos h.1,this];simp
 ·cases hr
theorem zne_ (n:Nat):evZ 8 n=List.replicate ((8 - n % 8) % 8) 0:=by
 unfold evZ;congr 1
 have h1:(n:Int).tmod 8=(n:Int) % 8:=Int.tmod_eq_emod_of_nonneg (by omega)
 rw [h1,Int.tmod_eq_emod_of_nonneg (by omega)];omega
theorem K1_ {R:Bool} {t a b c f:Int} {h:Bool} {x:Int} {v m d:List Int} (ht:t=25) (hr:z4_ R t a b c f h x v m d=true):a=0/\b=0/\d=[]/\c=32768/\h=false/\XS_ f=true/\R=true:=by
 unfold z4_ at hr;rw [if_pos ht] at hr
 simp only [Bool.and_eq_true,decide_eq_true_eq,Bool.not_eq_true'] at hr
 obtain ⟨⟨⟨h1,h2⟩,h3⟩,⟨⟨h4,h5⟩,h6⟩,h7⟩:=hr
 exact ⟨h1,h2,List.eq_nil_of_length_eq_zero h3,h4,h5,h6,h7⟩
theorem QE_ {R:Bool} {t a b c f:Int} {h:Bool} {x:Int} {v m d:List Int} (ht:¬ t=25) (hr:z4_ R t a b c f h x v m d=true):Gg_ t=true/\Kz_ c f h x v m 0 0 false 0 [] []=true/\hO_ t a=0/\ZM_ (zI_ t) (jf_ t a b)=true/\(2<=zo_ (zI_ t)\/b=0)/\(1<=zo_ (zI_ t)\/a=0)/\((t=65535/\(d.length:Int).tmod 8=0/\(d.length:Int)<=65520)\/(¬ t=65535/\d=[])):=by
 unfold z4_ at hr;rw [if_neg ht] at hr
 simp only [Bool.and_eq_true,Bool.or_eq_true,decide_eq_true_eq] at hr
 obtain ⟨⟨⟨⟨⟨⟨h1,h2⟩,h3⟩,h4⟩,h5⟩,h6⟩,h7⟩:=hr
 refine ⟨h1,h2,h3,h4,h5,h6,?_⟩
 split at h7
 ·rename_i h8
  simp only [Bool.and_eq_true,decide_eq_true_eq] at h7;exact .inl ⟨h8,h7⟩
 ·rename_i h8
  simp only [decide_eq_true_eq] at h7;exact .inr ⟨h8,List.eq_nil_of_length_eq_zero h7⟩
theorem k5_ {c f:Int} {h:Bool} {x:Int} {v m:List Int} (hr:zG_ c f h x v m=true):Qi_ c f h x v m=(Zv_ c f h x v m).length/\(Zv_ c f h x v m).length<=300:=by
 have h1:Qi_ c f h x v m=((Zx_ c f h x v m).length:Int):=by rw [zh7_,if_pos hr]
 have hrn:=Z8_ hr
 have hl2:=zj_ (n:=c) (w:=2) (by decide)
 have:((Zx_ c f h x v m).length:Int)=4+Zd_ c v m:=by
  rw [hrn.2.2.2.2.2.2.2];unfold Zx_;simp only [List.length_append,List.length_cons,List.length_nil];omega
 rw [YB_ hr]
 exact ⟨h1,by omega⟩
theorem uu_ {t:Int} (h:Gg_ t=true\/t=25):0<=t/\t<=65535:=by
 rcases h with h | h
 ·have:=zib_ h;omega
 ·omega
theorem Jt_ {t a b c f:Int} {h:Bool} {x:Int} {v m d:List Int} (hr:z4_ (zG_ c f h x v m) t a b c f h x v m d=true):y0_ (zG_ c f h x v m) (Qi_ c f h x v m) t a b c f h x v m d=4+((ZQ_ t a b (Zv_ c f h x v m) d).length:Int)/\(ZQ_ t a b (Zv_ c f h x v m) d).length<=65524/\(4+(ZQ_ t a b (Zv_ c f h x v m) d).length) % 8=0/\8<=4+(ZQ_ t a b (Zv_ c f h x v m) d).length:=by
 unfold y0_ ZQ_
 rw [if_pos hr]
 by_cases ht:t=25
 ·rw [if_pos ht,if_pos ht]
  obtain ⟨_,_,_,_,_,_,hR⟩:=K1_ ht hr
  obtain ⟨e1,e2⟩:=k5_ hR
  have h4:4<=(Zv_ c f h x v m).length:=by
   have:Qi_ c f h x v m=4+Zd_ c v m:=by unfold Qi_;rw [if_pos hR]
   have hrest:0<=Zd_ c v m:=by unfold Zd_;split<;>omega
   omega
  rw [e1,List.length_append,List.length_replicate,Int.tdiv_eq_ediv_of_nonneg (by omega)]
  omega
 ·rw [if_neg ht,if_neg ht]
  obtain ⟨k1,_,_,k4,_,_,k7⟩:=QE_ ht hr
  have hs:=K2_ k4
  have hz:=u5_ t
  rw [List.length_append]
  have hq:zP_ (zI_ t)=4\/zP_ (zI_ t)=12:=by
   have:=zib_ k1
   rcases this with rfl | (rfl | rfl | rfl) | (rfl | rfl) | (rfl | rfl | rfl | rfl) | (rfl | rfl | rfl | rfl | rfl | rfl)<;>decide
  rcases k7 with ⟨k8,k9,k10⟩ | ⟨_,rfl⟩
  ·have:zP_ (zI_ t)=4:=by rw [k8];decide
   rw [Int.tmod_eq_emod_of_nonneg (by omega)] at k9
   omega
  ·simp only [List.length_nil];omega
def vt_:IR:=
(sq (kr [0] [oD 1 (.boxv 0),
oD 2 (.mov (.c (.imm (.int .u8) []))),
oD 3 (.mov (cI 0))])
(sq (sq (.reg [oK 9 10 1,
oC 10 210 [9],
oD 11 (.un .not 10)])
(.cond 11
(sq (kr [] [oD 2 (.mov (.c (.imm (.int .u8) []))),
oD 3 (.mov (cI 10001))])
.ret)
.skip))
(sq (kr [1] [oK 12 10 1,
oC 13 209 [12],
oC 14 27 [13],
oM 4 14])
(sq (kd [1,4] [(oM 15 4,[]),
(oD 16 (.sliceAll (.int .i64) 2 [(0,1,(cI 2)),(1,1,(cI 2))]),[0]),
(oA 17 0 1,[0,0]),
(oL 18 17,[1,0]),
(oD 19 (.conv .u64 18),[2,0]),
(oK 20 10 1,[0,0,0,0,0]),
(oC 21 209 [20],[1,0,0,0,0]),
(oD 22 (.conv .u64 21),[2,0,0,0,0]),
(oD 23 (.sliceAll (.int .u64) 2 [(0,1,19),(1,1,22)]),[6,0]),
(oC 24 28 [15,16,23],[])])
(sq (sq (kr [1,4] [oA 25 0 1,
oL 26 25,
oB 27 .eql 26 (cI 25)])
(.cond 27
(sq (kr [1,4] [oA 29 3 1,
oK 30 6 29,
oC 31 71 [30],
oM 28 31,
oX 32 28 0,
oX 33 28 1,
oM 5 32,
oM 6 33])
(sq (kr [4,5] [oM 34 4,
oM 35 5,
oC 36 65 [34,35]])
(sq (.reg [oM 37 4,
oC 38 211 [37,(cI 8)]])
(sq (kr [4] [oM 39 4,
oC 40 29 [39],
oX 41 40 0,
oX 42 40 1,
oM 2 41,
oM 3 42])
.ret))))
.skip))
(sq (kr [1,4] [oA 44 0 1,
oL 45 44,
oC 46 212 [45],
oM 43 46,
oX 47 43 0,
oX 48 43 1,
oM 7 47,
oM 8 48])
(sq (kd [1,4,7] [(oM 49 4,[]),
(oM 50 7,[0]),
(oA 51 1 1,[0,0]),
(oL 52 51,[1,0]),
(oA 53 2 1,[0,0,0,0]),
(oL 54 53,[1,0,0,0]),
(oD 55 (.sliceAll (.int .u64) 2 [(0,1,52),(1,1,54)]),[4,0]),
(oM 56 7,[0,0,0,0,0,0,0]),
(oC 57 114 [56],[1,0,0,0,0,0,0]),
(oD 58 (.slice 1 55 none (some 57) none),[7,0]),
(oC 59 28 [49,50,58],[])])
(sq (kr [1,4] [oM 60 4,
oA 61 9 1,
oL 62 61,
oC 63 65 [60,62]])
(sq (kr [4] [oM 64 4,
oC 65 29 [64],
oX 66 65 0,
oX 67 65 1,
oM 2 66,
oM 3 67])
.ret)))))))))
def vb_:List RD:=[.tmp 2 true (some (.int .u8)),.tmp 3 true none]
theorem vk_:zk_ Tryz.prog Tryz.f195 vt_ vb_=true:=by kernel_rfl
def Ku_:List AV->List Obj->Option (Prop × AV)
 | [.agg [.int .i64 q,.int .u64 a,.int .u64 b,.int .i64 c,.int .i64 f,.bool h,.int .u64 x,.imm (.int .u8) v,.imm (.int .u8) m,.imm (.int .u8) d]],[]=>some ((v.length<=1000000/\m.length<=1000000,.tup [.imm (.int .u8) (if z4_ (zG_ c f h x v m) q a b c f h x v m d=true then yr_ q a b (Zv_ c f h x v m) d else []),.int .i64 (if z4_ (zG_ c f h x v m) q a b c f h x v m d=true then 0 else 10001)]))
 | _,_=>none
theorem yY_:zd_ Tryz.prog 195 (RoF Ku_).sum:=by
 refine zi_ Tryz.func195 vk_ (za_ (s:=RoF kh_) Js_ (za_ (s:=RoF k2_) w0_ (za_ (s:=RwF Z6_) qg_ (za_ (s:=RwF zH_) zK_ (za_ (s:=RoF KO_) WY_ (za_ (s:=RwF zv_) zB_ (za_ (s:=RwF q5_) J5_ (za_ (s:=RwF Ze_) ZL_ (za_ (s:=RoF qA_) QB_ (za_ (s:=RoF QL_) kQ_ (zc_ _))))))))))) fun args objs p v e=>?_
 unfold Ku_ at e
 split at e
 ·rename_i q a b c f h x v m d
  cases e
  refine ⟨rfl,fun hw ho hp=>?_⟩
  change List Int at v
  change List Int at m
  change List Int at d
  clear hw ho
  cases hr:z4_ (zG_ c f h x v m) q a b c f h x v m d with
  | false=>
    repeat'(intro t ht;first|(cases t<;>first|(cases ht;done)|(try simp only[zg_]at ht;try(exfalso;first|contradiction|omega)))|((first|refine zb_ ht ?_|refine ht ?_ ?_|refine ht.1 ?_ ?_|refine ht ?_)<;>clear ht))
    all_goals first
     | exact True.intro
     | exact hp
     | (exfalso;simp_all;done)
     | exact ⟨rfl,rfl⟩
  | true=>
    obtain ⟨hS,hS1,hS2,hS3⟩:=Jt_ hr
    obtain ⟨S,hSd⟩:∃ S,y0_ (zG_ c f h x v m) (Qi_ c f h x v m) q a b c f h x v m d=S:=⟨_,rfl⟩
    rw [hSd] at hS
    have hroom:w1_ S=S:=zfN_ (by omega) (by omega)
    have hfl:(yr_ q a b (Zv_ c f h x v m) d).length=4+(ZQ_ q a b (Zv_ c f h x v m) d).length:=by
     unfold yr_
     have g2:=zj_ (n:=q) (w:=2) (by decide)
     have g3:=zj_ (n:=(4+(ZQ_ q a b (Zv_ c f h x v m) d).length)) (w:=2) (by decide)
     simp only [List.length_append];omega
    have hcn:=gC_ q
    by_cases h25:q=25
    ·have ht:=uu_ (.inr h25)
     obtain ⟨r1,r2⟩:=h0_ ht (show 0<=S/\S<=65535 by omega)
     have l2:=zj_ (n:=q) (w:=2) (by decide)
     have l3:=zj_ (n:=S) (w:=2) (by decide)
     obtain ⟨w1,w2⟩:=H9_ (l:=[]) (room:=S) r2 (by rw [r1,List.length_append,List.length_nil];omega)
     rw [List.nil_append,r1] at w1
     obtain ⟨_,_,_,_,_,_,hR⟩:=K1_ h25 hr
     obtain ⟨e1,e2⟩:=k5_ hR
     have hB:ZQ_ q a b (Zv_ c f h x v m) d=Zv_ c f h x v m++List.replicate ((8 - (4+(Zv_ c f h x v m).length) % 8) % 8) 0:=if_pos h25
     have hBl:(ZQ_ q a b (Zv_ c f h x v m) d).length=(Zv_ c f h x v m).length+(8 - (4+(Zv_ c f h x v m).length) % 8) % 8:=by rw [hB,List.length_append,List.length_replicate]
     obtain ⟨u1,u2⟩:=xM_ (x:=Zv_ c f h x v m) (l:=ze_ q 2++ze_ S 2) (room:=S) (by rw [List.length_append];omega)
     have hlen:(ze_ q 2++ze_ S 2++Zv_ c f h x v m).length=4+(Zv_ c f h x v m).length:=by simp only [List.length_append];omega
     have hz:=zne_ (4+(Zv_ c f h x v m).length)
     obtain ⟨y1,y2⟩:=xM_ (x:=List.replicate ((8 - (4+(Zv_ c f h x v m).length) % 8) % 8) (0:Int)) (l:=ze_ q 2++ze_ S 2++Zv_ c f h x v m) (room:=S) (by rw [hlen,List.length_replicate];omega)
     have hfin:yr_ q a b (Zv_ c f h x v m) d=ze_ q 2++ze_ S 2++Zv_ c f h x v m++List.replicate ((8 - (4+(Zv_ c f h x v m).length) % 8) % 8) (0:Int):=by
      unfold yr_;rw [<- hS,hB];simp only [List.append_assoc]
     repeat'(intro t ht;first|(cases t<;>first|(cases ht;done)|(try simp only[zg_]at ht;try(exfalso;first|contradiction|omega)))|((first|refine zb_ ht ?_|refine ht ?_ ?_|refine ht.1 ?_ ?_|refine ht ?_)<;>clear ht))
     all_goals (try simp only [hSd] at*)
     all_goals (try simp only [hroom,w1,w2,hR,if_true,u1,u2,hlen,hz,y1,y2,<- hfin] at*)
     all_goals first
      | exact True.intro
      | exact hp
      | omega
      | ((try simp only [zm_,zn_,zl_] at*);omega)
      | exact ⟨by omega,by omega,by simp only [List.length_nil];omega⟩
      | exact ⟨by omega,by omega,by simp only [List.length_append];omega,by omega⟩
      | exact ⟨by omega,by omega,by omega,by decide,by decide⟩
      | exact ⟨by omega,by decide⟩
      | (constructor<;>(simp only [List.length_append,List.length_replicate,List.length_nil];omega))
      | (unfold qI_ kq_ jj_;exact ⟨rfl,by first | rfl | exact True.intro⟩)
      | (exfalso;simp_all;done)
    ·obtain ⟨k1,k2,k3,k4,k5,k6,k7⟩:=QE_ h25 hr
     have ht:=uu_ (.inl k1)
     obtain ⟨r1,r2⟩:=h0_ ht (show 0<=S/\S<=65535 by omega)
     have l2:=zj_ (n:=q) (w:=2) (by decide)
     have l3:=zj_ (n:=S) (w:=2) (by decide)
     obtain ⟨w1,w2⟩:=H9_ (l:=[]) (room:=S) r2 (by rw [r1,List.length_append,List.length_nil];omega)
     rw [List.nil_append,r1] at w1
     have hB:ZQ_ q a b (Zv_ c f h x v m) d=zR_ (zI_ q) (jf_ q a b)++d:=if_neg h25
     have hBl:(ZQ_ q a b (Zv_ c f h x v m) d).length=(zR_ (zI_ q) (jf_ q a b)).length+d.length:=by rw [hB,List.length_append]
     obtain ⟨u1,u2⟩:=H9_ (l:=ze_ q 2++ze_ S 2) (room:=S) k4 (by rw [List.length_append];omega)
     unfold jf_ at u1 u2 k4 hB hBl
     obtain ⟨y1,y2⟩:=xM_ (x:=d) (l:=ze_ q 2++ze_ S 2++zR_ (zI_ q) ([a,b].take (zo_ (zI_ q)).toNat)) (room:=S) (by simp only [List.length_append];omega)
     have hfin:yr_ q a b (Zv_ c f h x v m) d=ze_ q 2++ze_ S 2++zR_ (zI_ q) ([a,b].take (zo_ (zI_ q)).toNat)++d:=by
      unfold yr_;rw [<- hS,hB];simp only [List.append_assoc]
     repeat'(intro t ht;first|(cases t<;>first|(cases ht;done)|(try simp only[zg_]at ht;try(exfalso;first|contradiction|omega)))|((first|refine zb_ ht ?_|refine ht ?_ ?_|refine ht.1 ?_ ?_|refine ht ?_)<;>clear ht))
     all_goals (try simp only [hSd] at*)
     all_goals (try simp only [hroom,w1,w2,u1,u2,y1,y2,<- hfin] at*)
     all_goals first
      | exact True.intro
      | exact hp
      | omega
      | ((try simp only [zm_,zn_,zl_] at*);omega)
      | exact ⟨by omega,by omega,by simp only [List.length_nil];omega⟩
      | exact ⟨by omega,by omega,by simp only [List.length_append];omega⟩
      | exact ⟨by omega,by omega,by simp only [List.length_append];omega,by omega⟩
      | exact ⟨by omega,by decide⟩
      | (constructor<;>(simp only [List.length_append,List.length_nil];omega))
      | (unfold qI_ kq_ jj_;exact ⟨rfl,by first | rfl | exact True.intro⟩)
      | (exfalso;simp_all;done)
 ·cases e
end Go.Eng

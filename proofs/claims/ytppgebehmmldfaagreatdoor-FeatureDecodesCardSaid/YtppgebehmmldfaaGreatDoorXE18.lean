/- Parts of the proof: TI, S2, S3, S5, S6, S7. No condition. -/
import Derived.Test.YtppgebehmmldfaaGreatDoorProg
import Derived.Test.YtppgebehmmldfaaGreatDoorXE10
import Derived.KernelRfl
import Derived.Test.YtppgebehmmldfaaGreatDoorXE17
import Derived.Test.YtppgebehmmldfaaGreatDoorXE13
namespace Go.Eng
open Go.Proofs
set_option linter.unusedVariables false
set_option linter.unusedSimpArgs false
set_option maxRecDepth 100000
set_option maxHeartbeats 1000000
theorem Xl_ {b y:List Int} {c:Int} (h:¬ y.length=0) (h1:tbX y=c) (h0:c ≠ 0) (j:(fdG b).2.1=(fdG y).2.1):fdE b=c/\fdL b=[]:=by
 have hx:¬ tbX y=0:=by rw [h1];exact h0
 have e:(fdG b).2.1=c:=by rw [j,Gz_ h hx];exact h1
 refine ⟨e,?_⟩
 unfold fdL;rw [e,if_neg h0]
theorem za1_ {y:List Int} {c:Int} (h:fE y=c) (h0:c ≠ 0):tbX y=c:=by unfold tbX;rw [h,if_neg h0]
theorem u2_ {y:List Int} (h:fE y=0):tbX y=(fF y).2:=by unfold tbX;rw [if_pos h]
theorem rE_n {y:List Int} (h:ze_ (y.take 2) < 64\/¬ (ze_ (y.take 2)).tmod 8=0\/(y.length:Int) < ze_ (y.take 2)):rE y=3332:=if_pos h
theorem rE_z {y:List Int} (h:¬ (ze_ (y.take 2) < 64\/¬ (ze_ (y.take 2)).tmod 8=0\/(y.length:Int) < ze_ (y.take 2))):rE y=if ¬ ze_ ((y.take 8).drop 3)=0 then 3333 else if idY y=255 then 266 else if Wo_ (nmY y)=false then 3333 else 0:=if_neg h
theorem rE_2 {y:List Int} (h1:¬ ze_ (y.take 2) < 64) (h2:(ze_ (y.take 2)).tmod 8=0) (h3:¬ (y.length:Int) < ze_ (y.take 2)):rE y=if ¬ ze_ ((y.take 8).drop 3)=0 then 3333 else if idY y=255 then 266 else if Wo_ (nmY y)=false then 3333 else 0:=rE_z fun c=>by
 rcases c with c | c | c
 ·exact h1 c
 ·exact c h2
 ·exact h3 c
theorem bq_ {y:List Int} {n a:Nat} (h:n<=y.length):((y.take n).drop a).length=n - a:=by rw [List.length_drop,List.length_take];omega
theorem zbd_ {y:List Int} {n a:Nat} {fs:List FV} (h:fF y=fsG fs 0 ((y.take n).drop a)) (hn:n<=a):fF y=(fs,0):=h.trans (Xh_ (by rw [List.length_drop,List.length_take];omega))
theorem zbf_ {y z:List Int} {fs:List FV} (h:fF y=fsG fs 0 z) (h0:fE y=0) (hz:¬ z.length=0) (h1:¬ tlK z=0):tbX y=tlK z:=by
 rw [u2_ h0,h,uC_ hz h1];rfl
theorem zbc_ {y:List Int} {n a:Nat} {fs:List FV} (h:fF y=fsG fs 0 ((y.take n).drop a)) (h1:tlK ((y.take n).drop a)=0) (h2:ftX fs ((y.take n).drop a)=0):fF y=fsG (fs++[ftV fs ((y.take n).drop a)]) 0 ((y.take n).drop (a+(tlN ((y.take n).drop a)).toNat)):=by
 rw [h,v7_ h1,h2,List.drop_drop];rfl
theorem zcD_ {acc:List FV} {y:List Int} {g:Int} (h:tlK y=0) (h1:ftX acc y=g) (h0:g ≠ 0):(fsG acc 0 y).2=g:=by
 rw [v7_ h,h1];exact za9_ _ _ _ _ (Nat.le_refl _) h0
theorem zbe_ {y z:List Int} {fs:List FV} {g:Int} (h:fF y=fsG fs 0 z) (h0:fE y=0) (h1:tlK z=0) (h2:ftX fs z=g) (h3:g ≠ 0):tbX y=g:=by
 rw [u2_ h0,h];exact zcD_ h1 h2 h3
theorem b5_ {acc:List FV} {y:List Int} (h:ftX acc y=0):((tT y,rfN ((tyL acc).contains (tT y)) (tT y) (bd y),ftD (tT y) (bd y),()):FV)=ftV acc y:=by
 unfold ftV;rw [zch_ h]
def vz_:IR:=
(sq (kr [0] [oD 2 (.nilrow YA),
oD 3 (.mov (cI 0))])
(sq (.reg [oM 18 0,
oE 19 18,
oM 4 19])
(sq (.reg [oD 5 (.nilrow YA)])
(sq (.block 0
(.loop
(sq (sq (kr [0,4,5] [oM 20 0,
oE 21 20,
oB 22 .gtr 21 (cI 0)])
(.cond 22
.skip
(.exit 0)))
(.block 1
(sq (sq (.reg [oM 23 0,
oE 24 23,
oB 25 .lss 24 (cI 64)])
(.cond 25
(sq (kr [] [oD 2 (.nilrow YA),
oD 3 (.mov (cI 3332))])
.ret)
.skip))
(sq (kr [0,4,5] [oM 26 0,
oD 27 (.slice 1 26 none (some (cI 2)) none),
oC 28 31 [27],
oD 29 (.conv .i64 28),
oM 6 29])
(sq (sq (kr [0,4,5,6] [oM 30 6,
oB 31 .lss 30 (cI 64),
oM 32 31,
oF 32 33 (.mov 6),
oF 32 34 (.bin .rem 33 (cI 8)),
oF 32 35 (.bin .neq 34 (cI 0)),
oP 36 32 cT 35,
oM 37 36,
oF 37 38 (.mov 6),
oF 37 39 (.mov 0),
oF 37 40 (.len 39),
oF 37 41 (.bin .gtr 38 40),
oP 42 37 cT 41])
(.cond 42
(sq (kr [] [oD 2 (.nilrow YA),
oD 3 (.mov (cI 3332))])
.ret)
.skip))
(sq (sq (kr [0,4,5,6] [oM 43 0,
oD 44 (.slice 1 43 (some (cI 3)) (some (cI 8)) none),
oC 45 31 [44],
oB 46 .neq 45 (.c (.int .u64 0))])
(.cond 46
(sq (.reg [oD 2 (.nilrow YA),
oD 3 (.mov (cI 3333))])
.ret)
.skip))
(sq (sq (kr [0,4,5,6] [oM 47 0,
oD 48 (.indexSl 1 47 (cI 2)),
oL 49 48,
oB 50 .eql 49 (.c (.int .u8 255))])
(.cond 50
(sq (.reg [oD 2 (.nilrow YA),
oD 3 (.mov (cI 266))])
.ret)
.skip))
(sq (kr [0,4,5,6] [oM 52 0,
oD 53 (.slice 1 52 (some (cI 8)) (some (cI 40)) none),
oC 54 32 [53],
oM 51 54,
oX 55 51 0,
oX 56 51 1,
oM 7 55,
oM 8 56])
(sq (sq (kr [0,4,5,6,7,8] [oM 57 8,
oD 58 (.un .not 57)])
(.cond 58
(sq (.reg [oD 2 (.nilrow YA),
oD 3 (.mov (cI 3333))])
.ret)
.skip))
(sq (kr [0,4,5,6,7] [oD 60 (.sliceAll (.int .i64) 4 [(0,1,(cI 8)),(1,1,(cI 8)),(2,1,(cI 4)),(3,1,(cI 4))]),
oM 61 0,
oD 62 (.slice 1 61 (some (cI 40)) none none),
oC 63 33 [60,62],
oM 59 63,
oX 64 59 0,
oX 65 59 1,
oM 9 64,
oM 10 65])
(sq (kd [0,4,5,6,7,9] [(oM 66 0,[]),
(oD 67 (.indexSl 1 66 (cI 2)),[]),
(oL 68 67,[]),
(oD 69 (.conv .u64 68),[]),
(oM 70 7,[0,0,0,0]),
(oM 71 9,[0,0,0,0,0]),
(oD 72 (.indexSl 1 71 (cI 0)),[1,0,0,0,0]),
(oL 73 72,[2,0,0,0,0]),
(oM 74 9,[0,0,0,0,0,0,0,0]),
(oD 75 (.indexSl 1 74 (cI 1)),[1,0,0,0,0,0,0,0]),
(oL 76 75,[2,0,0,0,0,0,0,0]),
(oM 77 9,[0,0,0,0,0,0,0,0,0,0,0]),
(oD 78 (.indexSl 1 77 (cI 2)),[1,0,0,0,0,0,0,0,0,0,0]),
(oL 79 78,[2,0,0,0,0,0,0,0,0,0,0]),
(oM 80 9,[0,0,0,0,0,0,0,0,0,0,0,0,0,0]),
(oD 81 (.indexSl 1 80 (cI 3)),[1,0,0,0,0,0,0,0,0,0,0,0,0,0]),
(oL 82 81,[2,0,0,0,0,0,0,0,0,0,0,0,0,0]),
(oD 83 (.build [.int .u64 0,.str [],.int .u64 0,.int .u64 0,.int .u64 0,.int .u64 0,.nils] [(0,1,69),(1,1,70),(2,1,73),(3,1,76),(4,1,79),(5,1,82)]),[]),
(oD 11 (.box [.int .u64 0,.str [],.int .u64 0,.int .u64 0,.int .u64 0,.int .u64 0,.nils]),[0,0,0,0,0,0,0,0,0,0,0,0,0,0,0,0,0,0]),
(oS 7 11 83,[])])
(sq (sq (kr [0,4,5,6,11] [oD 12 (.mov (cI 64))])
(.block 2
(.loop
(sq (sq (kr [0,4,5,6,11,12] [oM 84 12,
oM 85 6,
oB 86 .lss 84 85])
(.cond 86
.skip
(.exit 2)))
(.block 3
(sq (kr [0,4,5,6,11,12] [oD 88 (.buildAll 5 [(0,1,(cI 4)),(1,1,(cI 8)),(2,1,cT),(3,1,(cI 3332)),(4,1,(cI 3333))]),
oM 89 0,
oM 90 12,
oM 91 6,
oD 92 (.slice 1 89 (some 90) (some 91) none),
oC 93 34 [88,92],
oM 87 93,
oX 94 87 0,
oX 95 87 1,
oX 96 87 2,
oD 13 (.box [.int .i64 0,.nils]),
oS 2 13 94,
oM 14 95,
oM 15 96])
(sq (sq (kr [0,4,5,6,11,12,13,14,15] [oM 97 15,
oB 98 .neq 97 (cI 0)])
(.cond 98
(sq (.reg [oM 99 15,
oD 2 (.nilrow YA),
oM 3 99])
.ret)
.skip))
(sq (kr [0,4,5,6,11,12,13,14] [oK 101 2 13,
oA 102 6 11,
oL 103 102,
oD 104 (.call true (.f 35) [101,103]),
oM 100 104,
oX 105 100 0,
oX 106 100 1,
oD 16 (.box [.int .i64 0,.nils,.nils]),
oS 3 16 105,
oM 17 106])
(sq (sq (kr [0,4,5,6,11,12,14,16,17] [oM 107 17,
oB 108 .neq 107 (cI 0)])
(.cond 108
(sq (.reg [oM 109 17,
oD 2 (.nilrow YA),
oM 3 109])
.ret)
.skip))
(sq (kr [0,4,5,6,11,12,14,16] [oA 110 6 11,
oL 111 110,
oK 112 3 16,
oD 113 (.sliceAll (.cons (.int .i64) (.cons (.sl (.int .u64)) (.cons (.sl (.int .u8)) .nil))) 1 [(0,3,112)]),
oD 114 (.append (.cons (.int .i64) (.cons (.sl (.int .u64)) (.cons (.sl (.int .u8)) .nil))) 56 111 113),
oA 115 6 11,
oS 1 115 114])
(.reg [oM 116 12,
oM 117 14,
oB 118 .add 116 117,
oM 12 118])))))))))))
(sq (kr [0,4,5,6,11] [oM 119 5,
oK 120 7 11,
oD 121 (.sliceAll YA 1 [(0,7,120)]),
oD 122 (.append YA 80 119 121),
oM 5 122])
(.reg [oM 123 0,
oM 124 6,
oD 125 (.slice 1 123 (some 124) none none),
oM 0 125]))))))))))))))))
(sq (sq (kr [4,5] [oM 126 4,
oB 127 .gtr 126 (cI 65528)])
(.cond 127
(sq (.reg [oD 2 (.nilrow YA),
oD 3 (.mov (cI 3332))])
.ret)
.skip))
(sq (.reg [oM 128 5,
oM 2 128,
oD 3 (.mov (cI 0))])
.ret))))))
def vj_:List RD:=[.tmp 2 true (some YA),.tmp 3 true none]
theorem vr_:zo_ Tryz.prog Tryz.f9 vz_ vj_=true:=by kernel_rfl
def jQ_:List AV->List Obj->Option (Prop × AV)
 | [.imm (.int .u8) b],[]=>some ((b.length<=60000,.tup [.imm YA (fdL b),.int .i64 (fdE b)]))
 | _,_=>none
theorem yT_:zf_ Tryz.prog 9 (RoF jQ_).sum:=by
 refine zw_ Tryz.func9 vr_ (zb_ (s:=RoF q9_) Q0_ (zb_ (s:=RoF WE_) VG_ (zb_ (s:=RoF XB_) Ub_ (zb_ (s:=RoF Xz_) u9_ (zb_ (s:=RwF WF_) VH_ (zg_ _)))))) fun args objs p v e=>?_
 unfold jQ_ at e
 split at e
 ·rename_i b
  cases e
  refine ⟨rfl,fun hw ho hp=>?_⟩
  change List Int at b
  have hb:∀ x ∈ (b:List Int),(0:Int)<=x/\x<=255:=fun x hx=>(hw (.imm (.int .u8) b) (by simp)).1 x hx
  clear hw ho
  change List Int at b
  repeat'(intro t ht;first|(cases t<;>first|(cases ht;done)|(try simp only[zh_]at ht;try(exfalso;first|contradiction|omega)))|((first|refine za_ ht ?_|refine ht ?_ ?_|refine ht.1 ?_ ?_|refine ht ?_)<;>clear ht))
  all_goals first
   | exact True.intro
   | (intro r h1 h2;clear h1;refine h2 ⟨[0,4,5],Nat × List TV,(fun a=>a.1<=b.length/\a.2.length<=a.1/\(fdG b).1=a.2++(fdG (b.drop a.1)).1/\(fdG b).2.1=(fdG (b.drop a.1)).2.1),fun a=>[.imm (.int .u8) (b.drop a.1),.int .i64 b.length,.own 0],fun a=>[.row false YA a.2],fun a=>b.length - a.1,⟨(0,[]),⟨Nat.zero_le _,by simp,rfl,rfl⟩,rfl,rfl⟩,?_⟩;clear h2)
  rintro ⟨q,acc⟩ ⟨hq,hl,hJ,hE⟩
  dsimp only at hq hl hJ hE
  have hdl:(b.drop q).length=b.length - q:=List.length_drop
  have hyb:∀ z ∈ b.drop q,0<=z/\z<=255:=fun z hz=>hb z (List.mem_of_mem_drop hz)
  by_cases hs:((b.drop q).length:Int) < 64
  ·have hn:¬ (b.drop q).length=0->fdE b=3332/\fdL b=[]:=fun h=>Xl_ h (za1_ (show fE (b.drop q)=3332 from if_pos hs) (by decide)) (by decide) hE
   have hz:(b.drop q).length=0->fdE b=0/\fdL b=acc:=fun h=>by
    rw [YJ_ h] at hJ hE
    refine ⟨hE,?_⟩
    unfold fdL;rw [hE,if_pos rfl,hJ,List.append_nil]
   repeat'(intro t ht;first|(cases t<;>first|(cases ht;done)|(try simp only[zh_]at ht;try(exfalso;first|contradiction|omega)))|((first|refine za_ ht ?_|refine ht ?_ ?_|refine ht.1 ?_ ?_|refine ht ?_)<;>clear ht))
   all_goals first
    | exact True.intro
    | (exfalso;omega)
    | (obtain ⟨d1,d2⟩:=hz (by omega);rw [d1,d2];exact ⟨rfl,rfl⟩)
    | (obtain ⟨d1,d2⟩:=hn (by omega);rw [d1,d2];exact ⟨rfl,rfl⟩)
  ·obtain ⟨l1,l2,l3⟩:=zbR_ hyb hs
   have hn0:¬ (b.drop q).length=0:=by omega
   have er:=fun (c:Int) (h:fE (b.drop q)=c) (h0:c ≠ 0)=>Xl_ hn0 (za1_ h h0) h0 hE
   have hid:0<=idY (b.drop q)/\idY (b.drop q)<=255:=hyb _ (zv_ (show 2 < (b.drop q).length by omega) 0)
   have h2:=Kp_ (a:=0) hyb
   rw [List.drop_zero] at h2
   have hgl:(ZB_ [8,8,4,4] ((b.drop q).drop 40)).length=4:=by rw [(uB_ (by rw [List.length_drop];omega)).1];rfl
   have hgl':(ZB_ [8,8,4,4] ((b.drop q).drop (40:Int).toNat)).length=4:=hgl
   have hnm:(((b.drop q).take (40:Int).toNat).drop (8:Int).toNat).length=32:=by show (((b.drop q).take 40).drop 8).length=32;rw [List.length_drop,List.length_take];omega
   have hv8:(((b.drop q).take (8:Int).toNat).drop (3:Int).toNat).length<=8:=by show (((b.drop q).take 8).drop 3).length<=8;rw [List.length_drop,List.length_take];omega
   have hv2:((b.drop q).take (2:Int).toNat).length<=8:=by show ((b.drop q).take 2).length<=8;rw [List.length_take];omega
   repeat'(intro t ht;first|(cases t<;>first|(cases ht;done)|(try simp only[zh_]at ht;try(exfalso;first|contradiction|omega)))|((first|refine za_ ht ?_|refine ht ?_ ?_|refine ht.1 ?_ ?_|refine ht ?_)<;>clear ht))
   all_goals first
    | exact True.intro
    | (exfalso;omega)
    | exact hgl'
    | exact hnm
    | exact hv8
    | exact hv2
    | omega
    | ((try dsimp only);simp only [zl_];omega)
    | (refine ⟨?_,?_⟩<;>first | omega | (dsimp only;omega))
    | (refine ⟨?_,?_,?_⟩<;>first | omega | (dsimp only;omega))
    | exact ⟨by decide,by rw [hgl'];decide⟩
    | (rw [hgl'];decide)
    | (show _<=ze_ ((b.drop q).take 2)/\ze_ ((b.drop q).take 2)<=_;simp only [zl_];omega)
    | (show _<=idY (b.drop q)/\idY (b.drop q)<=_;simp only [zl_];omega)
    | (have c:ze_ ((b.drop q).take 2) < 64\/¬ (ze_ ((b.drop q).take 2)).tmod 8=0\/((b.drop q).length:Int) < ze_ ((b.drop q).take 2):=by
        first
         | (left;assumption)
         | (right;left;assumption)
         | (right;right;assumption)
       obtain ⟨d1,d2⟩:=er 3332 (l1.trans (rE_n c)) (by decide)
       rw [d1,d2];exact ⟨rfl,rfl⟩)
    | (have c1:¬ ze_ ((b.drop q).take 2) < 64:=by assumption
       have c2:(ze_ ((b.drop q).take 2)).tmod 8=0:=by assumption
       have c3:¬ ((b.drop q).length:Int) < ze_ ((b.drop q).take 2):=by assumption
       have hR:=rE_2 c1 c2 c3
       first
        | (have c:¬ ze_ (((b.drop q).take 8).drop 3)=0:=by assumption
           obtain ⟨d1,d2⟩:=er 3333 (l1.trans (hR.trans (if_pos c))) (by decide)
           rw [d1,d2];exact ⟨rfl,rfl⟩)
        | (have c:ze_ (((b.drop q).take 8).drop 3)=0:=by assumption
           have c':idY (b.drop q)=255:=by assumption
           obtain ⟨d1,d2⟩:=er 266 (l1.trans (hR.trans ((if_neg (not_not_intro c)).trans (if_pos c')))) (by decide)
           rw [d1,d2];exact ⟨rfl,rfl⟩)
        | (have c:ze_ (((b.drop q).take 8).drop 3)=0:=by assumption
           have c':¬ idY (b.drop q)=255:=by assumption
           have c4:Wo_ (nmY (b.drop q))=false:=by assumption
           obtain ⟨d1,d2⟩:=er 3333 (l1.trans (hR.trans ((if_neg (not_not_intro c)).trans ((if_neg c').trans (if_pos c4))))) (by decide)
           rw [d1,d2];exact ⟨rfl,rfl⟩))
    | (intro r h1 h2;clear h1;refine h2 ⟨[0,4,5,6,11,12],Option (List FV × Nat),(fun a=>match a with | none=>True | some a=>64<=a.2/\(a.2:Int)<=ze_ ((b.drop q).take 2)/\a.1.length<=a.2/\fF (b.drop q)=fsG a.1 0 (((b.drop q).take (ze_ ((b.drop q).take 2)).toNat).drop a.2)),(fun a=>[.imm (.int .u8) (b.drop q),.int .i64 b.length,.own 0,.int .i64 (ze_ ((b.drop q).take 2)),.ptr 1 0,.int .i64 (match a with | none=>(64:Int) | some a=>(a.2:Int))]),(fun a=>match a with | none=>[.row false YA acc,.box [.int .u64 (idY ((b.drop q))),.str (nmS (nmY ((b.drop q)))),.int .u64 ((ZB_ [8,8,4,4] (((b.drop q)).drop 40)).getD 0 0),.int .u64 ((ZB_ [8,8,4,4] (((b.drop q)).drop 40)).getD 1 0),.int .u64 ((ZB_ [8,8,4,4] (((b.drop q)).drop 40)).getD 2 0),.int .u64 ((ZB_ [8,8,4,4] (((b.drop q)).drop 40)).getD 3 0),.nils]] | some a=>[.row false YA acc,.box [.int .u64 (idY ((b.drop q))),.str (nmS (nmY ((b.drop q)))),.int .u64 ((ZB_ [8,8,4,4] (((b.drop q)).drop 40)).getD 0 0),.int .u64 ((ZB_ [8,8,4,4] (((b.drop q)).drop 40)).getD 1 0),.int .u64 ((ZB_ [8,8,4,4] (((b.drop q)).drop 40)).getD 2 0),.int .u64 ((ZB_ [8,8,4,4] (((b.drop q)).drop 40)).getD 3 0),(.own 2)],.row false (.cons (.int .i64) (.cons (.sl (.int .u64)) (.cons (.sl (.int .u8)) .nil))) a.1]),(fun a=>match a with | none=>(ze_ ((b.drop q).take 2)).toNat+1 | some a=>(ze_ ((b.drop q).take 2)).toNat - a.2),⟨none,True.intro,rfl,rfl⟩,?_⟩;clear h2)
   have hr0:rE (b.drop q)=0:=(rE_2 (by assumption) (by assumption) (by assumption)).trans ((if_neg (not_not_intro (by assumption))).trans ((if_neg (by assumption)).trans (if_neg (by rw [show Wo_ (nmY (b.drop q))=true by assumption];decide))))
   have hf0:fE (b.drop q)=0:=l1.trans hr0
   obtain ⟨v1,v2,v3⟩:=l3 hr0
   have hN1:64<=ze_ ((b.drop q).take 2)/\ze_ ((b.drop q).take 2)<=(b.drop q).length:=by have:=hz_ hf0;rw [l2] at this;omega
   have hN:(fN (b.drop q)).toNat=(ze_ ((b.drop q).take 2)).toNat:=by rw [l2]
   have hNl:(ze_ ((b.drop q).take 2)).toNat<=(b.drop q).length:=by omega
   have hfG:fF (b.drop q)=fsG [] 0 (((b.drop q).take (ze_ ((b.drop q).take 2)).toNat).drop 64):=by unfold fF;rw [hN]
   rintro (_ | ⟨fs,z⟩) hK
   ·clear hK
    have hzl:(((b.drop q).take (ze_ ((b.drop q).take 2)).toNat).drop 64).length=(ze_ ((b.drop q).take 2)).toNat - 64:=bq_ hNl
    have hq:=fun h:tlK (((b.drop q).take (ze_ ((b.drop q).take 2)).toNat).drop 64)=0=>VD_ h
    have hw:=fun h:tlK (((b.drop q).take (ze_ ((b.drop q).take 2)).toNat).drop 64)=0=>xH_ h
    repeat'(intro t ht;first|(cases t<;>first|(cases ht;done)|(try simp only[zh_]at ht;try(exfalso;first|contradiction|omega)))|((first|refine za_ ht ?_|refine ht ?_ ?_|refine ht.1 ?_ ?_|refine ht ?_)<;>clear ht))
    all_goals (try dsimp only)
    all_goals first
     | exact True.intro
     | (refine ⟨?_,?_,?_⟩<;>omega)
     | (refine ⟨?_,?_⟩<;>omega)
     | exact ⟨rfl,rfl,rfl,rfl,rfl,by (show (((b.drop q).take (ze_ ((b.drop q).take 2)).toNat).drop 64).length<=140737488355328;rw [hzl];omega)⟩
     | exact Nat.le_trans (wz_ (((b.drop q).take (ze_ ((b.drop q).take 2)).toNat).drop 64)) (by rw [hzl];omega)
     | exact ⟨Nat.le_trans (wz_ (((b.drop q).take (ze_ ((b.drop q).take 2)).toNat).drop 64)) (by rw [hzl];omega),by omega⟩
     | (simp only [List.length_cons,List.length_nil];constructor<;>omega)
     | (have hx:¬ tlK (((b.drop q).take (ze_ ((b.drop q).take 2)).toNat).drop 64)=0:=by assumption
        have e1:=zbf_ hfG hf0 (by rw [hzl];omega) hx
        obtain ⟨d1,d2⟩:=Xl_ hn0 e1 hx hE
        rw [d1,d2];exact ⟨rfl,rfl⟩)
     | skip
    all_goals first
     | (have hge:(ze_ ((b.drop q).take 2)).toNat<=64:=by omega
        have hfs:=zbd_ hfG hge
        have hX:tbX (b.drop q)=0:=by rw [u2_ hf0,hfs]
        have htb:tbV (b.drop q)=(idY (b.drop q),nmS (nmY (b.drop q)),(ZB_ [8,8,4,4] ((b.drop q).drop 40)).getD 0 0,(ZB_ [8,8,4,4] ((b.drop q).drop 40)).getD 1 0,(ZB_ [8,8,4,4] ((b.drop q).drop 40)).getD 2 0,(ZB_ [8,8,4,4] ((b.drop q).drop 40)).getD 3 0,([]:List FV),()):=by
         unfold tbV;rw [v1,v2,v3 0 (by decide),v3 1 (by decide),v3 2 (by decide),v3 3 (by decide),hfs]
        have hd:=ge_ hn0 hX
        rw [hN,List.drop_drop] at hd
        refine ⟨(q+(ze_ ((b.drop q).take 2)).toNat,acc++[tbV (b.drop q)]),⟨?_,?_,?_,?_⟩,?_,?_,?_⟩
        ·dsimp only;omega
        ·dsimp only;simp only [List.length_append,List.length_cons,List.length_nil];omega
        ·dsimp only;rw [hJ,hd,List.append_assoc];rfl
        ·dsimp only;rw [hE,hd]
        ·dsimp only;omega
        ·dsimp only;rw [List.drop_drop];rfl
        ·dsimp only;rw [htb])
     | (have hx:tlK (((b.drop q).take (ze_ ((b.drop q).take 2)).toNat).drop 64)=0:=by assumption
        obtain ⟨q1,q2,q3⟩:=hq hx
        obtain ⟨w1,w2,w3,w4,w5⟩:=hw hx
        have hval:ftE false (tlI (((b.drop q).take (ze_ ((b.drop q).take 2)).toNat).drop 64) (tT (((b.drop q).take (ze_ ((b.drop q).take 2)).toNat).drop 64))) (tlR (((b.drop q).take (ze_ ((b.drop q).take 2)).toNat).drop 64))=ftX ([]:List FV) (((b.drop q).take (ze_ ((b.drop q).take 2)).toNat).drop 64):=by rw [q1,q2];rfl
        first
         | (show _<=(64:Int)+tlI (((b.drop q).take (ze_ ((b.drop q).take 2)).toNat).drop 64) (tN (((b.drop q).take (ze_ ((b.drop q).take 2)).toNat).drop 64)+zr (tN (((b.drop q).take (ze_ ((b.drop q).take 2)).toNat).drop 64)))/\(64:Int)+tlI (((b.drop q).take (ze_ ((b.drop q).take 2)).toNat).drop 64) (tN (((b.drop q).take (ze_ ((b.drop q).take 2)).toNat).drop 64)+zr (tN (((b.drop q).take (ze_ ((b.drop q).take 2)).toNat).drop 64)))<=_
            rw [q3];simp only [zl_];omega)
         | (have hg:¬ ftE false (tlI (((b.drop q).take (ze_ ((b.drop q).take 2)).toNat).drop 64) (tT (((b.drop q).take (ze_ ((b.drop q).take 2)).toNat).drop 64))) (tlR (((b.drop q).take (ze_ ((b.drop q).take 2)).toNat).drop 64))=0:=by assumption
            rw [hval] at hg
            have e1:=zbe_ hfG hf0 hx rfl hg
            obtain ⟨d1,d2⟩:=Xl_ hn0 e1 hg hE
            rw [d1,d2,<- hval];exact ⟨rfl,rfl⟩)
         | (have hg:ftE false (tlI (((b.drop q).take (ze_ ((b.drop q).take 2)).toNat).drop 64) (tT (((b.drop q).take (ze_ ((b.drop q).take 2)).toNat).drop 64))) (tlR (((b.drop q).take (ze_ ((b.drop q).take 2)).toNat).drop 64))=0:=by assumption
            rw [hval] at hg
            have hrow:((tlI (((b.drop q).take (ze_ ((b.drop q).take 2)).toNat).drop 64) (tT (((b.drop q).take (ze_ ((b.drop q).take 2)).toNat).drop 64)),rfN false (tlI (((b.drop q).take (ze_ ((b.drop q).take 2)).toNat).drop 64) (tT (((b.drop q).take (ze_ ((b.drop q).take 2)).toNat).drop 64))) (tlR (((b.drop q).take (ze_ ((b.drop q).take 2)).toNat).drop 64)),ftD (tlI (((b.drop q).take (ze_ ((b.drop q).take 2)).toNat).drop 64) (tT (((b.drop q).take (ze_ ((b.drop q).take 2)).toNat).drop 64))) (tlR (((b.drop q).take (ze_ ((b.drop q).take 2)).toNat).drop 64)),()):FV)=ftV ([]:List FV) (((b.drop q).take (ze_ ((b.drop q).take 2)).toNat).drop 64):=by rw [q1,q2];exact b5_ hg
            refine ⟨some (([]:List FV)++[ftV ([]:List FV) (((b.drop q).take (ze_ ((b.drop q).take 2)).toNat).drop 64)],64+(tlN (((b.drop q).take (ze_ ((b.drop q).take 2)).toNat).drop 64)).toNat),⟨?_,?_,?_,zbc_ hfG hx hg⟩,?_,?_,?_⟩
            ·dsimp only;omega
            ·dsimp only;omega
            ·dsimp only;simp only [List.length_append,List.length_cons,List.length_nil];omega
            ·dsimp only;omega
            ·show [_,_,_,_,_,AV.int .i64 ((64:Int)+tlI (((b.drop q).take (ze_ ((b.drop q).take 2)).toNat).drop 64) (tN (((b.drop q).take (ze_ ((b.drop q).take 2)).toNat).drop 64)+zr (tN (((b.drop q).take (ze_ ((b.drop q).take 2)).toNat).drop 64))))]=_
             rw [q3,show ((64:Int)+tlN (((b.drop q).take (ze_ ((b.drop q).take 2)).toNat).drop 64))=((64+(tlN (((b.drop q).take (ze_ ((b.drop q).take 2)).toNat).drop 64)).toNat:Nat):Int) by omega];rfl
            ·dsimp only;rw [<- hrow];rfl))
   ·obtain ⟨j1,j2,j3,j4⟩:=hK
    dsimp only at j1 j2 j3 j4
    have hzl:(((b.drop q).take (ze_ ((b.drop q).take 2)).toNat).drop z).length=(ze_ ((b.drop q).take 2)).toNat - z:=bq_ hNl
    have hq:=fun h:tlK (((b.drop q).take (ze_ ((b.drop q).take 2)).toNat).drop z)=0=>VD_ h
    have hw:=fun h:tlK (((b.drop q).take (ze_ ((b.drop q).take 2)).toNat).drop z)=0=>xH_ h
    repeat'(intro t ht;first|(cases t<;>first|(cases ht;done)|(try simp only[zh_]at ht;try(exfalso;first|contradiction|omega)))|((first|refine za_ ht ?_|refine ht ?_ ?_|refine ht.1 ?_ ?_|refine ht ?_)<;>clear ht))
    all_goals (try dsimp only)
    all_goals first
     | exact True.intro
     | (refine ⟨?_,?_,?_⟩<;>omega)
     | (refine ⟨?_,?_⟩<;>omega)
     | exact ⟨rfl,rfl,rfl,rfl,rfl,by (show (((b.drop q).take (ze_ ((b.drop q).take 2)).toNat).drop z).length<=140737488355328;rw [hzl];omega)⟩
     | exact Nat.le_trans (wz_ (((b.drop q).take (ze_ ((b.drop q).take 2)).toNat).drop z)) (by rw [hzl];omega)
     | exact ⟨Nat.le_trans (wz_ (((b.drop q).take (ze_ ((b.drop q).take 2)).toNat).drop z)) (by rw [hzl];omega),by omega⟩
     | (simp only [List.length_cons,List.length_nil];constructor<;>omega)
     | (have hx:¬ tlK (((b.drop q).take (ze_ ((b.drop q).take 2)).toNat).drop z)=0:=by assumption
        have e1:=zbf_ j4 hf0 (by rw [hzl];omega) hx
        obtain ⟨d1,d2⟩:=Xl_ hn0 e1 hx hE
        rw [d1,d2];exact ⟨rfl,rfl⟩)
     | skip
    all_goals first
     | (have hge:(ze_ ((b.drop q).take 2)).toNat<=z:=by omega
        have hfs:=zbd_ j4 hge
        have hX:tbX (b.drop q)=0:=by rw [u2_ hf0,hfs]
        have htb:tbV (b.drop q)=(idY (b.drop q),nmS (nmY (b.drop q)),(ZB_ [8,8,4,4] ((b.drop q).drop 40)).getD 0 0,(ZB_ [8,8,4,4] ((b.drop q).drop 40)).getD 1 0,(ZB_ [8,8,4,4] ((b.drop q).drop 40)).getD 2 0,(ZB_ [8,8,4,4] ((b.drop q).drop 40)).getD 3 0,fs,()):=by
         unfold tbV;rw [v1,v2,v3 0 (by decide),v3 1 (by decide),v3 2 (by decide),v3 3 (by decide),hfs]
        have hd:=ge_ hn0 hX
        rw [hN,List.drop_drop] at hd
        refine ⟨(q+(ze_ ((b.drop q).take 2)).toNat,acc++[tbV (b.drop q)]),⟨?_,?_,?_,?_⟩,?_,?_,?_⟩
        ·dsimp only;omega
        ·dsimp only;simp only [List.length_append,List.length_cons,List.length_nil];omega
        ·dsimp only;rw [hJ,hd,List.append_assoc];rfl
        ·dsimp only;rw [hE,hd]
        ·dsimp only;omega
        ·dsimp only;rw [List.drop_drop];rfl
        ·dsimp only;rw [htb])
     | (have hx:tlK (((b.drop q).take (ze_ ((b.drop q).take 2)).toNat).drop z)=0:=by assumption
        obtain ⟨q1,q2,q3⟩:=hq hx
        obtain ⟨w1,w2,w3,w4,w5⟩:=hw hx
        have hval:ftE ((tyL fs).contains (tlI (((b.drop q).take (ze_ ((b.drop q).take 2)).toNat).drop z) (tT (((b.drop q).take (ze_ ((b.drop q).take 2)).toNat).drop z)))) (tlI (((b.drop q).take (ze_ ((b.drop q).take 2)).toNat).drop z) (tT (((b.drop q).take (ze_ ((b.drop q).take 2)).toNat).drop z))) (tlR (((b.drop q).take (ze_ ((b.drop q).take 2)).toNat).drop z))=ftX fs (((b.drop q).take (ze_ ((b.drop q).take 2)).toNat).drop z):=by rw [q1,q2];rfl
        first
         | (show _<=(z:Int)+tlI (((b.drop q).take (ze_ ((b.drop q).take 2)).toNat).drop z) (tN (((b.drop q).take (ze_ ((b.drop q).take 2)).toNat).drop z)+zr (tN (((b.drop q).take (ze_ ((b.drop q).take 2)).toNat).drop z)))/\(z:Int)+tlI (((b.drop q).take (ze_ ((b.drop q).take 2)).toNat).drop z) (tN (((b.drop q).take (ze_ ((b.drop q).take 2)).toNat).drop z)+zr (tN (((b.drop q).take (ze_ ((b.drop q).take 2)).toNat).drop z)))<=_
            rw [q3];simp only [zl_];omega)
         | (have hg:¬ ftE ((tyL fs).contains (tlI (((b.drop q).take (ze_ ((b.drop q).take 2)).toNat).drop z) (tT (((b.drop q).take (ze_ ((b.drop q).take 2)).toNat).drop z)))) (tlI (((b.drop q).take (ze_ ((b.drop q).take 2)).toNat).drop z) (tT (((b.drop q).take (ze_ ((b.drop q).take 2)).toNat).drop z))) (tlR (((b.drop q).take (ze_ ((b.drop q).take 2)).toNat).drop z))=0:=by assumption
            rw [hval] at hg
            have e1:=zbe_ j4 hf0 hx rfl hg
            obtain ⟨d1,d2⟩:=Xl_ hn0 e1 hg hE
            rw [d1,d2,<- hval];exact ⟨rfl,rfl⟩)
         | (have hg:ftE ((tyL fs).contains (tlI (((b.drop q).take (ze_ ((b.drop q).take 2)).toNat).drop z) (tT (((b.drop q).take (ze_ ((b.drop q).take 2)).toNat).drop z)))) (tlI (((b.drop q).take (ze_ ((b.drop q).take 2)).toNat).drop z) (tT (((b.drop q).take (ze_ ((b.drop q).take 2)).toNat).drop z))) (tlR (((b.drop q).take (ze_ ((b.drop q).take 2)).toNat).drop z))=0:=by assumption
            rw [hval] at hg
            have hrow:((tlI (((b.drop q).take (ze_ ((b.drop q).take 2)).toNat).drop z) (tT (((b.drop q).take (ze_ ((b.drop q).take 2)).toNat).drop z)),rfN ((tyL fs).contains (tlI (((b.drop q).take (ze_ ((b.drop q).take 2)).toNat).drop z) (tT (((b.drop q).take (ze_ ((b.drop q).take 2)).toNat).drop z)))) (tlI (((b.drop q).take (ze_ ((b.drop q).take 2)).toNat).drop z) (tT (((b.drop q).take (ze_ ((b.drop q).take 2)).toNat).drop z))) (tlR (((b.drop q).take (ze_ ((b.drop q).take 2)).toNat).drop z)),ftD (tlI (((b.drop q).take (ze_ ((b.drop q).take 2)).toNat).drop z) (tT (((b.drop q).take (ze_ ((b.drop q).take 2)).toNat).drop z))) (tlR (((b.drop q).take (ze_ ((b.drop q).take 2)).toNat).drop z)),()):FV)=ftV fs (((b.drop q).take (ze_ ((b.drop q).take 2)).toNat).drop z):=by rw [q1,q2];exact b5_ hg
            refine ⟨some (fs++[ftV fs (((b.drop q).take (ze_ ((b.drop q).take 2)).toNat).drop z)],z+(tlN (((b.drop q).take (ze_ ((b.drop q).take 2)).toNat).drop z)).toNat),⟨?_,?_,?_,zbc_ j4 hx hg⟩,?_,?_,?_⟩
            ·dsimp only;omega
            ·dsimp only;omega
            ·dsimp only;simp only [List.length_append,List.length_cons,List.length_nil];omega
            ·dsimp only;omega
            ·show [_,_,_,_,_,AV.int .i64 ((z:Int)+tlI (((b.drop q).take (ze_ ((b.drop q).take 2)).toNat).drop z) (tN (((b.drop q).take (ze_ ((b.drop q).take 2)).toNat).drop z)+zr (tN (((b.drop q).take (ze_ ((b.drop q).take 2)).toNat).drop z))))]=_
             rw [q3,show ((z:Int)+tlN (((b.drop q).take (ze_ ((b.drop q).take 2)).toNat).drop z))=((z+(tlN (((b.drop q).take (ze_ ((b.drop q).take 2)).toNat).drop z)).toNat:Nat):Int) by omega];rfl
            ·dsimp only;rw [<- hrow];rfl))
 ·cases e
structure SrX where
 r:List Int
structure SrM where
 r:List Int
 m:Nat
structure SrF where
 r:List Int
 m:Nat
 f:Bool
structure SrI where
 s:Int
structure SrP where
 j:Int
 h:Int
 s:Int
theorem kw_.mono {l:List Int} {a b c:Nat} (h:kw_ l a b) (hc:c<=b):kw_ l a c:=fun i j h1 h2 h3=>h i j h1 h2 (by omega)
def Xd_:IR:=
(sq (kr [0] [oD 2 (.mov cF)])
(sq (.reg [oM 3 0,
oM 4 0,
oB 5 .neq 3 4,
oM 2 5])
.ret))
def xW_:List RD:=[.tmp 2 true none]
theorem x5_:zo_ Tryz.prog Tryz.f122 Xd_ xW_=true:=by kernel_rfl
def kz_:List AV->List Obj->Option (Prop × AV)
 | [.int .i64 x],[]=>some ((True,.bool false))
 | _,_=>none
theorem WW_:zf_ Tryz.prog 122 (RoF kz_).sum:=by
 refine zw_ Tryz.func122 x5_ (zg_ _) fun args objs p v e=>?_
 unfold kz_ at e
 split at e
 ·rename_i x
  cases e
  refine ⟨rfl,fun hw ho hp=>?_⟩
  repeat'(intro t ht;first|(cases t<;>first|(cases ht;done)|(try simp only[zh_]at ht;try(exfalso;first|contradiction|omega)))|((first|refine za_ ht ?_|refine ht ?_ ?_|refine ht.1 ?_ ?_|refine ht ?_)<;>clear ht))
  all_goals first
   | exact True.intro
   | exact ⟨rfl,rfl⟩
   | (refine ⟨congrArg AV.bool ?_,rfl⟩;simp;done)
 ·cases e
def yt_:IR:=
(sq (kr [0,1] [oD 4 (.mov cF)])
(sq (kr [0,1] [oM 5 0,
oC 6 122 [5],
oM 7 6,
oT 7 8 (.mov 1),
oT 7 9 (.call false (.f 122) [8]),
oT 7 10 (.un .not 9),
oP 11 7 10 cF,
oM 12 11,
oF 12 13 (.mov 0),
oF 12 14 (.mov 1),
oF 12 15 (.bin .lss 13 14),
oP 16 12 cT 15,
oM 4 16])
.ret))
def yb_:List RD:=[.tmp 4 true none]
theorem yl_:zo_ Tryz.prog Tryz.f95 yt_ yb_=true:=by kernel_rfl
def z8_:List AV->List Obj->Option (Prop × AV)
 | [.int .i64 x,.int .i64 y],[]=>some ((True,.bool (decide (x < y))))
 | _,_=>none
theorem Zd_:zf_ Tryz.prog 95 (RoF z8_).sum:=by
 refine zw_ Tryz.func95 yl_ (zb_ (s:=RoF kz_) WW_ (zg_ _)) fun args objs p v e=>?_
 unfold z8_ at e
 split at e
 ·rename_i x y
  cases e
  refine ⟨rfl,fun hw ho hp=>?_⟩
  repeat'(intro t ht;first|(cases t<;>first|(cases ht;done)|(try simp only[zh_]at ht;try(exfalso;first|contradiction|omega)))|((first|refine za_ ht ?_|refine ht ?_ ?_|refine ht.1 ?_ ?_|refine ht ?_)<;>clear ht))
  all_goals first
   | exact True.intro
   | exact ⟨rfl,rfl⟩
 ·cases e
def q0_:IR:=
(sq (kr [0,1,2] [oM 8 1,
oB 9 .add 8 (cI 1),
oM 6 9])
(.block 0
(.loop
(sq (sq (kr [0,1,2,6] [oM 10 6,
oM 11 2,
oB 12 .lss 10 11])
(.cond 12
.skip
(.exit 0)))
(sq (.block 1
(sq (.reg [oM 15 6,
oM 7 15])
(.block 2
(.loop
(sq (sq (kd [0,1,2,6,7] [(oM 16 7,[]),
(oM 17 1,[0]),
(oB 18 .gtr 16 17,[]),
(oM 19 18,[]),
(oT 19 20 (.mov 0),[]),
(oT 19 21 (.mov 7),[0]),
(oT 19 22 (.indexSl 1 20 21),[]),
(oT 19 23 (.load none 22),[]),
(oT 19 24 (.mov 0),[0,0,0,0]),
(oT 19 25 (.mov 7),[0,0,0,0,0]),
(oT 19 26 (.bin .sub 25 (cI 1)),[1,0,0,0,0]),
(oT 19 27 (.indexSl 1 24 26),[3,0,0,0]),
(oT 19 28 (.load none 27),[4,0,0,0]),
(oT 19 29 (.call false (.f 95) [23,28]),[]),
(oP 30 19 29 cF,[])])
(.cond 30
.skip
(.exit 2)))
(sq (.block 3
(kd [0,1,2,6,7] [(oM 33 0,[]),
(oM 34 7,[0]),
(oM 35 0,[0,0]),
(oM 36 7,[0,0,0]),
(oB 37 .sub 36 (cI 1),[1,0,0]),
(oM 38 0,[0,0,0,0,0]),
(oM 39 7,[0,0,0,0,0,0]),
(oB 40 .sub 39 (cI 1),[1,0,0,0,0,0]),
(oI 41 1 38 40,[3,0,0,0,0]),
(oL 42 41,[4,0,0,0,0]),
(oM 43 0,[0,0,0,0,0,0,0,0,0,0]),
(oM 44 7,[0,0,0,0,0,0,0,0,0,0,0]),
(oI 45 1 43 44,[2,0,0,0,0,0,0,0,0,0]),
(oL 46 45,[3,0,0,0,0,0,0,0,0,0]),
(oI 47 1 33 34,[9,0,0]),
(oS 1 47 42,[10,0,0]),
(oI 48 1 35 37,[]),
(oS 1 48 46,[])]))
(kr [0,1,2,6,7] [oM 31 7,
oB 32 .sub 31 (cI 1),
oM 7 32])))))))
(kr [0,1,2,6] [oM 13 6,
oB 14 .add 13 (cI 1),
oM 6 14]))))))
def qV_:List RD:=[]
theorem qX_:zo_ Tryz.prog Tryz.f89 q0_ qV_=true:=by kernel_rfl
def z0_:List AV->List Obj->Option (Prop × AV × List Obj)
 | [.own 0,.int .i64 a,.int .i64 b],[.row false (.int .i64) l]=>some ((0<=a/\a<=b/\b<=l.length/\l.length<=1000000,.tup [],[.row false (.int .i64) (srt l a.toNat b.toNat)]))
 | _,_=>none
theorem qE_:zf_ Tryz.prog 89 (RwF z0_).sum:=by
 refine ZS_ Tryz.func89 qX_ (zb_ (s:=RoF z8_) Zd_ (zg_ _)) fun args objs p v o e=>?_
 unfold z0_ at e
 split at e
 ·rename_i a b l
  cases e
  refine ⟨rfl,fun hw ho hp=>?_⟩
  change List Int at l
  clear hw ho
  change List Int at l
  obtain ⟨h1,h2,h3,h4⟩:=hp
  obtain ⟨a,rfl⟩:=Int.eq_ofNat_of_zero_le h1
  obtain ⟨b,rfl⟩:=Int.eq_ofNat_of_zero_le (show 0<=b by omega)
  rw [Int.toNat_natCast,Int.toNat_natCast]
  have hab:a<=b:=by omega
  have hbl:b<=l.length:=by omega
  repeat'(intro t ht;first|(cases t<;>first|(cases ht;done)|(try simp only[zh_]at ht;try(exfalso;first|contradiction|omega)))|((first|refine za_ ht ?_|refine ht ?_ ?_|refine ht.1 ?_ ?_|refine ht ?_)<;>clear ht))
  all_goals first
   | exact True.intro
   | omega
   | ((try simp only [zH_,zJ_,zl_] at*);omega)
   | (intro r h1 h2;clear h1;refine h2 ⟨[0,1,2,6],Nat × List Int,(fun s=>a+1<=s.1/\(s.1<=b\/s.1=a+1)/\Rear l a b s.2/\kw_ s.2 a s.1),fun s=>[.own 0,.int .i64 a,.int .i64 b,.int .i64 s.1],fun s=>[.row false (.int .i64) s.2],fun s=>b+1 - s.1,⟨(a+1,l),⟨Nat.le_refl _,.inr rfl,Rear.refl _ _ _,fun p q _ _ _=>by omega⟩,rfl,rfl⟩,?_⟩;clear h2)
  rintro ⟨i,u⟩ ⟨hi1,hi2,hR,hS⟩
  dsimp only at hi1 hi2 hR hS
  have hl:=hR.len
  repeat'(intro t ht;first|(cases t<;>first|(cases ht;done)|(try simp only[zh_]at ht;try(exfalso;first|contradiction|omega)))|((first|refine za_ ht ?_|refine ht ?_ ?_|refine ht.1 ?_ ?_|refine ht ?_)<;>clear ht))
  all_goals first
   | exact True.intro
   | omega
   | ((try simp only [zH_,zJ_,zl_] at*);omega)
   | (intro r h1 h2;clear h1;refine h2 ⟨[0,1,2,6,7],Nat × List Int,(fun s=>InsJ l s.2 a b i s.1),fun s=>[.own 0,.int .i64 a,.int .i64 b,.int .i64 i,.int .i64 s.1],fun s=>[.row false (.int .i64) s.2],fun s=>s.1,⟨(i,u),v4_ hR hS (by omega) (by omega),rfl,rfl⟩,?_⟩;clear h2)
   | (have hge:b<=i:=by omega
      have e:=Wb_ hab hbl hR (hS.mono hge)
      rw [e];exact ⟨rfl,rfl⟩)
  rintro ⟨j,q⟩ hJ
  dsimp only at hJ
  have hq:=hJ.R.len
  have hj1:=hJ.aj
  have hj2:=hJ.ji
  have hj3:=hJ.ib
  have e0:((j:Int)).toNat=j:=Int.toNat_natCast j
  have e1:((j:Int) - 1).toNat=j - 1:=by omega
  repeat'(intro t ht;first|(cases t<;>first|(cases ht;done)|(try simp only[zh_]at ht;try(exfalso;first|contradiction|omega)))|((first|refine za_ ht ?_|refine ht ?_ ?_|refine ht.1 ?_ ?_|refine ht ?_)<;>clear ht))
  all_goals (try simp only [e0,e1] at*)
  all_goals first
   | exact True.intro
   | omega
   | ((try simp only [zH_,zJ_,zl_] at*);omega)
   | (constructor<;>omega)
   | (rw [List.length_set];omega)
   | (refine ⟨(j - 1,_),U5_ hbl hJ (by omega) (by assumption),?_,?_,?_⟩
      ·dsimp only;omega
      ·rw [show ((j - 1:Nat):Int)=(j:Int) - 1 by omega]
      ·rfl)
   | (have hs:=Ys_ hJ (by first | exact .inr (by assumption) | exact .inl (by omega))
      refine ⟨(i+1,q),⟨?_,?_,hJ.R,hs⟩,?_,?_,?_⟩
      ·dsimp only;omega
      ·dsimp only;omega
      ·dsimp only;omega
      ·rfl
      ·rfl)
 ·cases e
theorem hm_1 {u:List Int} {f hi x:Nat} (h:¬ 2*x+2 < hi\/¬ u.getD (f+(2*x+1)) 0 < u.getD (f+(2*x+2)) 0):∀ c,(c=2*x+1\/c=2*x+2)->c < hi->u.getD (f+c) 0<=u.getD (f+(2*x+1)) 0:=fun c hc hlt=>by
 rcases hc with rfl | rfl
 ·exact Int.le_refl _
 ·rcases h with h | h
  ·omega
  ·omega
theorem hm_2 {u:List Int} {f hi x:Nat} (h:u.getD (f+(2*x+1)) 0 < u.getD (f+(2*x+2)) 0):∀ c,(c=2*x+1\/c=2*x+2)->c < hi->u.getD (f+c) 0<=u.getD (f+(2*x+2)) 0:=fun c hc hlt=>by
 rcases hc with rfl | rfl
 ·omega
 ·exact Int.le_refl _
theorem zay_ {u:List Int} {a i:Nat} (hb:a+i < u.length) (h:Hp u a 0 (i+1)):Hp (swp u a (a+i)) a 1 i:=fun j c h1 h2 h3=>by
 have g:=kJ_ u (i:=a) (j:=a+i) (by omega) hb
 rw [g (a+c),g (a+j),if_neg (by omega),if_neg (by omega),if_neg (by omega),if_neg (by omega)]
 exact h j c (by omega) h2 (by omega)
theorem gY_ {l u:List Int} {a b k:Nat} (hR:Rear l a b u) (hH:Hp u a k (b - a)) (hk:k=0) (hab:a<=b):PopJ l u a b (b - a):=by subst hk;exact h4_ hR hH hab
theorem zbL_ (n:Nat):((n:Int) - 1).tdiv 2=(((n - 1) / 2+1:Nat):Int) - 1:=by
 cases n with
 | zero=>rfl
 | succ m=>rw [Int.tdiv_eq_ediv_of_nonneg (by omega)];omega
def kg_:IR:=
(sq (kr [0,1,2,3] [oM 10 1,
oM 8 10])
(.block 0
(.loop
(.block 1
(sq (kr [0,2,3,8] [oM 11 8,
oB 12 .mul (cI 2) 11,
oB 13 .add 12 (cI 1),
oM 9 13])
(sq (sq (.reg [oM 14 9,
oM 15 2,
oB 16 .geq 14 15])
(.cond 16
(.exit 0)
.skip))
(sq (sq (kd [0,2,3,8,9] [(oM 17 9,[]),
(oB 18 .add 17 (cI 1),[]),
(oM 19 2,[0,0]),
(oB 20 .lss 18 19,[]),
(oM 21 20,[]),
(oT 21 22 (.mov 0),[]),
(oT 21 23 (.mov 3),[0]),
(oT 21 24 (.mov 9),[0,0]),
(oT 21 25 (.bin .add 23 24),[2]),
(oT 21 26 (.indexSl 1 22 25),[]),
(oT 21 27 (.load none 26),[]),
(oT 21 28 (.mov 0),[0,0,0,0,0,0]),
(oT 21 29 (.mov 3),[0,0,0,0,0,0,0]),
(oT 21 30 (.mov 9),[0,0,0,0,0,0,0,0]),
(oT 21 31 (.bin .add 29 30),[2,0,0,0,0,0,0]),
(oT 21 32 (.bin .add 31 (cI 1)),[3,0,0,0,0,0,0]),
(oT 21 33 (.indexSl 1 28 32),[5,0,0,0,0,0]),
(oT 21 34 (.load none 33),[6,0,0,0,0,0]),
(oT 21 35 (.call false (.f 95) [27,34]),[]),
(oP 36 21 35 cF,[])])
(.cond 36
(kr [0,2,3,8,9] [oM 37 9,
oB 38 .add 37 (cI 1),
oM 9 38])
.skip))
(sq (sq (kd [0,2,3,8,9] [(oM 39 0,[]),
(oM 40 3,[0]),
(oM 41 8,[0,0]),
(oB 42 .add 40 41,[2]),
(oI 43 1 39 42,[]),
(oL 44 43,[]),
(oM 45 0,[0,0,0,0,0,0]),
(oM 46 3,[0,0,0,0,0,0,0]),
(oM 47 9,[0,0,0,0,0,0,0,0]),
(oB 48 .add 46 47,[2,0,0,0,0,0,0]),
(oI 49 1 45 48,[4,0,0,0,0,0]),
(oL 50 49,[5,0,0,0,0,0]),
(oC 51 95 [44,50],[]),
(oD 52 (.un .not 51),[])])
(.cond 52
.ret
.skip))
(sq (kd [0,2,3,8,9] [(oM 53 0,[]),
(oM 54 3,[0]),
(oM 55 8,[0,0]),
(oB 56 .add 54 55,[2]),
(oM 57 0,[0,0,0,0]),
(oM 58 3,[0,0,0,0,0]),
(oM 59 9,[0,0,0,0,0,0]),
(oB 60 .add 58 59,[2,0,0,0,0]),
(oM 61 0,[0,0,0,0,0,0,0,0]),
(oM 62 3,[0,0,0,0,0,0,0,0,0]),
(oM 63 9,[0,0,0,0,0,0,0,0,0,0]),
(oB 64 .add 62 63,[2,0,0,0,0,0,0,0,0]),
(oI 65 1 61 64,[4,0,0,0,0,0,0,0]),
(oL 66 65,[5,0,0,0,0,0,0,0]),
(oM 67 0,[0,0,0,0,0,0,0,0,0,0,0,0,0,0]),
(oM 68 3,[0,0,0,0,0,0,0,0,0,0,0,0,0,0,0]),
(oM 69 8,[0,0,0,0,0,0,0,0,0,0,0,0,0,0,0,0]),
(oB 70 .add 68 69,[2,0,0,0,0,0,0,0,0,0,0,0,0,0,0]),
(oI 71 1 67 70,[4,0,0,0,0,0,0,0,0,0,0,0,0,0]),
(oL 72 71,[5,0,0,0,0,0,0,0,0,0,0,0,0,0]),
(oI 73 1 53 56,[12,0,0,0]),
(oS 1 73 66,[13,0,0,0]),
(oI 74 1 57 60,[]),
(oS 1 74 72,[])])
(kr [0,2,3,9] [oM 75 9,
oM 8 75]))))))))))
def kb_:List RD:=[]
theorem kd_:zo_ Tryz.prog Tryz.f117 kg_ kb_=true:=by kernel_rfl
def Zn_:List AV->List Obj->Option NdR
 | [.own 0,.int .i64 lo,.int .i64 hi,.int .i64 f],[.row false (.int .i64) l]=>some (⟨0<=lo/\lo<=hi/\0<=f/\0<=hi/\f+hi<=l.length/\l.length<=1000000/\Hp l f.toNat (lo.toNat+1) hi.toNat,SrX,fun x=>Rear l (f.toNat+lo.toNat) (f.toNat+hi.toNat) x.r/\Hp x.r f.toNat lo.toNat hi.toNat,fun _=>.tup [],fun x=>[.row false (.int .i64) x.r]⟩)
 | _,_=>none
theorem QJ_:K6_ Tryz.prog 117 (NdF Zn_):=by
 refine XM_ Tryz.func117 kd_ (zb_ (s:=RoF z8_) Zd_ (zg_ _)) fun args objs r e=>?_
 unfold Zn_ at e
 split at e
 ·rename_i lo hi f l
  cases e
  refine ⟨rfl,fun hw ho hp=>?_⟩
  change List Int at l
  clear hw ho
  change List Int at l
  obtain ⟨g1,g0,g2,g3,g4,g5,g6⟩:=hp
  obtain ⟨lo,rfl⟩:=Int.eq_ofNat_of_zero_le g1
  obtain ⟨f,rfl⟩:=Int.eq_ofNat_of_zero_le g2
  obtain ⟨hi,rfl⟩:=Int.eq_ofNat_of_zero_le g3
  simp only [Int.toNat_natCast] at g6
  have hb:f+hi<=l.length:=by omega
  repeat'(intro t ht;first|(cases t<;>first|(cases ht;done)|(try simp only[zh_]at ht;try(exfalso;first|contradiction|omega)))|((first|refine za_ ht ?_|refine ht ?_ ?_|refine ht.1 ?_ ?_|refine ht ?_)<;>clear ht))
  all_goals first
   | exact True.intro
   | (intro r h1 h2;clear h1;refine h2 ⟨[0,2,3,8],Nat × List Int,(fun s=>SiftJ l s.2 f lo hi s.1/\s.1<=lo+hi),fun s=>[.own 0,.int .i64 hi,.int .i64 f,.int .i64 s.1],fun s=>[.row false (.int .i64) s.2],fun s=>lo+hi+1 - s.1,⟨(lo,l),⟨gP_ g6,by dsimp only;omega⟩,rfl,rfl⟩,?_⟩;clear h2)
  rintro ⟨x,u⟩ ⟨hJ,hx⟩
  dsimp only at hJ hx
  have hl:=hJ.R.len
  have hlx:=hJ.lx
  have e1:((f:Int)+(2*(x:Int)+1)).toNat=f+(2*x+1):=by omega
  have e2:((f:Int)+(2*(x:Int)+1)+1).toNat=f+(2*x+2):=by omega
  have e3:((f:Int)+(2*(x:Int)+1+1)).toNat=f+(2*x+2):=by omega
  have e4:((f:Int)+(x:Int)).toNat=f+x:=by omega
  repeat'(intro t ht;first|(cases t<;>first|(cases ht;done)|(try simp only[zh_]at ht;try(exfalso;first|contradiction|omega)))|((first|refine za_ ht ?_|refine ht ?_ ?_|refine ht.1 ?_ ?_|refine ht ?_)<;>clear ht))
  all_goals (try simp only [e1,e2,e3,e4] at*)
  all_goals first
   | exact True.intro
   | omega
   | (constructor<;>omega)
   | (rw [List.length_set];omega)
   | (rw [List.length_set];constructor<;>omega)
   | (simp only [zl_];omega)
   | (refine ⟨⟨u⟩,⟨hJ.R,hX_ hJ (by omega)⟩,?_,?_⟩<;>first | rfl | exact True.intro)
   | (refine ⟨⟨u⟩,⟨hJ.R,vP_ (c0:=2*x+1) hJ (hm_1 (by first | exact .inl (by omega) | exact .inr (by assumption))) (by assumption)⟩,?_,?_⟩<;>first | rfl | exact True.intro)
   | (refine ⟨⟨u⟩,⟨hJ.R,vP_ (c0:=2*x+2) hJ (hm_2 (by assumption)) (by assumption)⟩,?_,?_⟩<;>first | rfl | exact True.intro)
   | (refine ⟨(2*x+1,swp u (f+x) (f+(2*x+1))),⟨vQ_ hb hJ (.inl rfl) (by omega) (hm_1 (by first | exact .inl (by omega) | exact .inr (by assumption))) (by assumption),?_⟩,?_,?_,?_⟩
      ·show 2*x+1<=lo+hi;omega
      ·show lo+hi+1 - (2*x+1) < lo+hi+1 - x;omega
      ·show [AV.own 0,AV.int .i64 hi,AV.int .i64 f,AV.int .i64 (2*(x:Int)+1)]=[AV.own 0,AV.int .i64 hi,AV.int .i64 f,AV.int .i64 ((2*x+1:Nat):Int)]
       rw [show ((2*x+1:Nat):Int)=2*(x:Int)+1 by omega]
      ·rfl)
   | (refine ⟨(2*x+2,swp u (f+x) (f+(2*x+2))),⟨vQ_ hb hJ (.inr rfl) (by omega) (hm_2 (by assumption)) (by assumption),?_⟩,?_,?_,?_⟩
      ·show 2*x+2<=lo+hi;omega
      ·show lo+hi+1 - (2*x+2) < lo+hi+1 - x;omega
      ·show [AV.own 0,AV.int .i64 hi,AV.int .i64 f,AV.int .i64 (2*(x:Int)+1+1)]=[AV.own 0,AV.int .i64 hi,AV.int .i64 f,AV.int .i64 ((2*x+2:Nat):Int)]
       rw [show ((2*x+2:Nat):Int)=2*(x:Int)+1+1 by omega]
      ·rfl)
 ·cases e
def kh_:IR:=
(sq (kr [0,1,2] [oM 11 1,
oM 6 11])
(sq (.reg [oD 7 (.mov (cI 0))])
(sq (.reg [oM 12 2,
oM 13 1,
oB 14 .sub 12 13,
oM 8 14])
(sq (sq (kr [0,6,7,8] [oM 15 8,
oB 16 .sub 15 (cI 1),
oB 17 .quo 16 (cI 2),
oM 9 17])
(.block 0
(.loop
(sq (sq (kr [0,6,7,8,9] [oM 18 9,
oB 19 .geq 18 (cI 0)])
(.cond 19
.skip
(.exit 0)))
(sq (.block 1
(kr [0,6,7,8,9] [oM 22 0,
oM 23 9,
oM 24 8,
oM 25 6,
oD 26 (.calln (.f 117) [22,23,24,25])]))
(kr [0,6,7,8,9] [oM 20 9,
oB 21 .sub 20 (cI 1),
oM 9 21]))))))
(sq (kr [0,6,7,8] [oM 27 8,
oB 28 .sub 27 (cI 1),
oM 10 28])
(.block 2
(.loop
(sq (sq (kr [0,6,7,10] [oM 29 10,
oB 30 .geq 29 (cI 0)])
(.cond 30
.skip
(.exit 2)))
(sq (.block 3
(sq (kd [0,6,7,10] [(oM 33 0,[]),
(oM 34 6,[0]),
(oM 35 0,[0,0]),
(oM 36 6,[0,0,0]),
(oM 37 10,[0,0,0,0]),
(oB 38 .add 36 37,[2,0,0]),
(oM 39 0,[0,0,0,0,0,0]),
(oM 40 6,[0,0,0,0,0,0,0]),
(oM 41 10,[0,0,0,0,0,0,0,0]),
(oB 42 .add 40 41,[2,0,0,0,0,0,0]),
(oI 43 1 39 42,[4,0,0,0,0,0]),
(oL 44 43,[5,0,0,0,0,0]),
(oM 45 0,[0,0,0,0,0,0,0,0,0,0,0,0]),
(oM 46 6,[0,0,0,0,0,0,0,0,0,0,0,0,0]),
(oI 47 1 45 46,[2,0,0,0,0,0,0,0,0,0,0,0]),
(oL 48 47,[3,0,0,0,0,0,0,0,0,0,0,0]),
(oI 49 1 33 34,[10,0,0,0]),
(oS 1 49 44,[11,0,0,0]),
(oI 50 1 35 38,[]),
(oS 1 50 48,[])])
(kr [0,6,7,10] [oM 51 0,
oM 52 7,
oM 53 10,
oM 54 6,
oD 55 (.calln (.f 117) [51,52,53,54])])))
(kr [0,6,7,10] [oM 31 10,
oB 32 .sub 31 (cI 1),
oM 10 32]))))))))))
def kc_:List RD:=[]
theorem ke_:zo_ Tryz.prog Tryz.f90 kh_ kc_=true:=by kernel_rfl
def Zo_:List AV->List Obj->Option (Prop × AV × List Obj)
 | [.own 0,.int .i64 a,.int .i64 b],[.row false (.int .i64) l]=>some ((0<=a/\a<=b/\b<=l.length/\l.length<=1000000,.tup [],[.row false (.int .i64) (srt l a.toNat b.toNat)]))
 | _,_=>none
theorem QK_:zf_ Tryz.prog 90 (RwF Zo_).sum:=by
 refine ZS_ Tryz.func90 ke_ (zb_ (s:=NdF Zn_) QJ_ (zg_ _)) fun args objs p v o e=>?_
 unfold Zo_ at e
 split at e
 ·rename_i a b l
  cases e
  refine ⟨rfl,fun hw ho hp=>?_⟩
  change List Int at l
  clear hw ho
  change List Int at l
  obtain ⟨g1,g2,g3,g4⟩:=hp
  obtain ⟨a,rfl⟩:=Int.eq_ofNat_of_zero_le g1
  obtain ⟨b,rfl⟩:=Int.eq_ofNat_of_zero_le (show 0<=b by omega)
  rw [Int.toNat_natCast,Int.toNat_natCast]
  have hab:a<=b:=by omega
  have hbl:b<=l.length:=by omega
  have hh:((b:Int) - (a:Int))=((b - a:Nat):Int):=by omega
  have hq9:((b:Int) - (a:Int) - 1).tdiv 2=(((b - a - 1) / 2+1:Nat):Int) - 1:=by rw [hh];exact zbL_ _
  repeat'(intro t ht;first|(cases t<;>first|(cases ht;done)|(try simp only[zh_]at ht;try(exfalso;first|contradiction|omega)))|((first|refine za_ ht ?_|refine ht ?_ ?_|refine ht.1 ?_ ?_|refine ht ?_)<;>clear ht))
  all_goals first
   | exact True.intro
   | decide
   | (simp only [zl_];omega)
   | (intro r h1 h2;clear h1;refine h2 ⟨[0,6,7,8,9],Nat × List Int,(fun s=>s.1<=(b - a - 1) / 2+1/\Rear l a b s.2/\Hp s.2 a s.1 (b - a)),fun s=>[.own 0,.int .i64 a,.int .i64 0,.int .i64 ((b:Int) - (a:Int)),.int .i64 ((s.1:Int) - 1)],fun s=>[.row false (.int .i64) s.2],fun s=>s.1,⟨((b - a - 1) / 2+1,l),⟨Nat.le_refl _,Rear.refl _ _ _,bX_ (Nat.le_refl _)⟩,(by rw [hq9]),rfl⟩,?_⟩;clear h2)
  rintro ⟨k,u⟩ ⟨hk,hR,hH⟩
  dsimp only at hk hR hH
  have hl:=hR.len
  have hb9:((b:Int) - (a:Int)).toNat=b - a:=by omega
  repeat'(intro t ht;first|(cases t<;>first|(cases ht;done)|(try simp only[zh_]at ht;try(exfalso;first|contradiction|omega)))|((first|refine za_ ht ?_|refine ht ?_ ?_|refine ht.1 ?_ ?_|refine ht ?_)<;>clear ht))
  all_goals first
   | exact True.intro
   | (simp only [zl_];omega)
   | (dsimp only;simp only [zl_];omega)
   | (intro r h1 h2;clear h1;refine h2 ⟨[0,6,7,10],Nat × List Int,(fun s=>s.1<=b - a/\PopJ l s.2 a b s.1),fun s=>[.own 0,.int .i64 a,.int .i64 0,.int .i64 ((s.1:Int) - 1)],fun s=>[.row false (.int .i64) s.2],fun s=>s.1,⟨(b - a,u),⟨Nat.le_refl _,gY_ hR hH (by omega) hab⟩,(by rw [hh]),rfl⟩,?_⟩;clear h2)
   | (refine ⟨?_,?_,?_,?_,?_,?_,?_⟩
      all_goals (try dsimp only)
      all_goals first
       | omega
       | (rw [Int.toNat_natCast,hb9,show ((k:Int) - 1).toNat+1=k by omega];exact hH))
   | (obtain ⟨hr1,hr2⟩:=ht
      rw [hb9,show ((k:Int) - 1).toNat=k - 1 by omega] at hr1 hr2
      refine ⟨(k - 1,_),⟨?_,hR.trans (hr1.wide (by omega) (by omega)),hr2⟩,?_,?_,rfl⟩
      ·show k - 1<=(b - a - 1) / 2+1;omega
      ·show k - 1 < k;omega
      ·show [AV.own 0,AV.int .i64 a,AV.int .i64 0,AV.int .i64 ((b:Int) - (a:Int)),AV.int .i64 ((k:Int) - 1 - 1)]=[AV.own 0,AV.int .i64 a,AV.int .i64 0,AV.int .i64 ((b:Int) - (a:Int)),AV.int .i64 (((k - 1:Nat):Int) - 1)]
       rw [show ((k - 1:Nat):Int)=(k:Int) - 1 by omega])
  clear hk hR hH hl ht k u
  rintro ⟨k,u⟩ ⟨hk,hJ⟩
  dsimp only at hk hJ
  have hl:=hJ.R.len
  by_cases hk0:k=0
  ·subst hk0
   repeat'(intro t ht;first|(cases t<;>first|(cases ht;done)|(try simp only[zh_]at ht;try(exfalso;first|contradiction|omega)))|((first|refine za_ ht ?_|refine ht ?_ ?_|refine ht.1 ?_ ?_|refine ht ?_)<;>clear ht))
   all_goals first
    | exact True.intro
    | (have e:=B7_ hab hbl hJ
       rw [show ((0,u):Nat × List Int).2=srt l a b from e];exact ⟨rfl,rfl⟩)
  ·obtain ⟨i,rfl⟩:∃ i,k=i+1:=⟨k - 1,by omega⟩
   have e1:((a:Int)+(((i+1:Nat):Int) - 1)).toNat=a+i:=by omega
   have e2:(((i+1:Nat):Int) - 1).toNat=i:=by omega
   have e3:((i+1:Nat):Int) - 1=(i:Int):=by omega
   have hlen:(swp u a (a+i)).length=u.length:=VE_ ..
   have hps:=zay_ (u:=u) (a:=a) (i:=i) (by omega) hJ.h
   repeat'(intro t ht;first|(cases t<;>first|(cases ht;done)|(try simp only[zh_]at ht;try(exfalso;first|contradiction|omega)))|((first|refine za_ ht ?_|refine ht ?_ ?_|refine ht.1 ?_ ?_|refine ht ?_)<;>clear ht))
   all_goals first
    | exact True.intro
    | (simp only [zl_];omega)
    | (dsimp only;simp only [zl_];omega)
    | (dsimp only;omega)
    | (dsimp only;rw [List.length_set];omega)
    | (refine ⟨?_,?_,?_,?_,?_,?_,?_⟩
       all_goals (try dsimp only)
       all_goals (try simp only [List.length_set])
       all_goals first
        | omega
        | (rw [e1,e2];exact hps))
    | (rw [e1,e2] at ht
       obtain ⟨hr1,hr2⟩:=ht
       refine ⟨(i,_),⟨?_,bi_ hbl (by omega) hJ hr1 hr2⟩,?_,?_,rfl⟩
       ·show i<=b - a;omega
       ·show i < i+1;omega
       ·show [AV.own 0,AV.int .i64 a,AV.int .i64 0,AV.int .i64 (((i+1:Nat):Int) - 1 - 1)]=[AV.own 0,AV.int .i64 a,AV.int .i64 0,AV.int .i64 ((i:Int) - 1)]
        rw [e3])
 ·cases e
theorem mkP {a b j h:Int} {o:List Obj} (h1:a<=j) (h2:j < b):∃ x:SrP,(a<=x.j/\x.j < b)/\AV.tup [.int .i64 j,.int .i64 h]=AV.tup [.int .i64 x.j,.int .i64 x.h]/\o=o:=⟨⟨j,h,0⟩,⟨h1,h2⟩,rfl,rfl⟩
def o2a (l:List Int) (a b:Int):Int:=if l.getD b.toNat 0 < l.getD a.toNat 0 then b else a
def o2b (l:List Int) (a b:Int):Int:=if l.getD b.toNat 0 < l.getD a.toNat 0 then a else b
def o2s (l:List Int) (a b s:Int):Int:=if l.getD b.toNat 0 < l.getD a.toNat 0 then s+1 else s
theorem UF_ (l:List Int) (a b s:Int):(o2a l a b=a\/o2a l a b=b)/\(o2b l a b=a\/o2b l a b=b)/\s<=o2s l a b s/\o2s l a b s<=s+1:=by
 unfold o2a o2b o2s;split
 ·exact ⟨.inr rfl,.inl rfl,by omega,by omega⟩
 ·exact ⟨.inl rfl,.inr rfl,by omega,by omega⟩
def mdF (l:List Int) (a b c:Int):Int:=o2b l (o2a l a b) (o2a l (o2b l a b) c)
def mdS (l:List Int) (a b c s:Int):Int:=o2s l (o2a l a b) (o2a l (o2b l a b) c) (o2s l (o2b l a b) c (o2s l a b s))
theorem UN_ (l:List Int) (a b c s:Int):(mdF l a b c=a\/mdF l a b c=b\/mdF l a b c=c)/\s<=mdS l a b c s/\mdS l a b c s<=s+3:=by
 obtain ⟨p1,p2,p3,p4⟩:=UF_ l a b s
 obtain ⟨q1,q2,q3,q4⟩:=UF_ l (o2b l a b) c (o2s l a b s)
 obtain ⟨r1,r2,r3,r4⟩:=UF_ l (o2a l a b) (o2a l (o2b l a b) c) (o2s l (o2b l a b) c (o2s l a b s))
 unfold mdF mdS
 refine ⟨?_,by omega,by omega⟩
 omega
def kQ_:IR:=
(sq (kr [0,1,2,3] [oD 8 (.mov (cI 0)),
oD 9 (.mov (cI 0))])
(sq (sq (kd [0,1,2,3] [(oM 10 0,[]),
(oM 11 2,[0]),
(oI 12 1 10 11,[]),
(oL 13 12,[]),
(oM 14 0,[0,0,0,0]),
(oM 15 1,[0,0,0,0,0]),
(oI 16 1 14 15,[2,0,0,0]),
(oL 17 16,[3,0,0,0]),
(oC 18 95 [13,17],[])])
(.cond 18
(sq (kr [1,2,3] [oM 19 3,
oD 20 (.nilck 19),
oL 21 20,
oB 22 .add 21 (cI 1),
oD 23 (.nilck 19),
oS 1 23 22])
(sq (.reg [oM 24 2,
oM 25 1,
oM 8 24,
oM 9 25])
.ret))
.skip))
(sq (kr [1,2] [oM 26 1,
oM 27 2,
oM 8 26,
oM 9 27])
.ret)))
def kK_:List RD:=[.tmp 8 true none,.tmp 9 true none]
theorem kM_:zo_ Tryz.prog Tryz.f138 kQ_ kK_=true:=by kernel_rfl
def Zv_:List AV->List Obj->Option (Prop × AV × List Obj)
 | [.imm (.int .i64) l,.int .i64 a,.int .i64 b,.ptr 0 0],[.box [.int .i64 s]]=>some ((0<=a/\a < l.length/\0<=b/\b < l.length/\0<=s/\s<=1000,.tup [.int .i64 (o2a l a b),.int .i64 (o2b l a b)],[.box [.int .i64 (o2s l a b s)]]))
 | _,_=>none
theorem ko_:zf_ Tryz.prog 138 (RwF Zv_).sum:=by
 refine ZS_ Tryz.func138 kM_ (zb_ (s:=RoF z8_) Zd_ (zg_ _)) fun args objs p v o e=>?_
 unfold Zv_ at e
 split at e
 ·rename_i l a b s
  cases e
  refine ⟨rfl,fun hw ho hp=>?_⟩
  change List Int at l
  clear hw ho
  change List Int at l
  obtain ⟨g1,g2,g3,g4,g5,g6⟩:=hp
  repeat'(intro t ht;first|(cases t<;>first|(cases ht;done)|(try simp only[zh_]at ht;try(exfalso;first|contradiction|omega)))|((first|refine za_ ht ?_|refine ht ?_ ?_|refine ht.1 ?_ ?_|refine ht ?_)<;>clear ht))
  all_goals first
   | exact True.intro
   | omega
   | (constructor<;>omega)
   | (simp only [zl_];omega)
   | (unfold o2a o2b o2s;rw [if_pos ht,if_pos ht,if_pos ht];exact ⟨rfl,rfl⟩)
   | (unfold o2a o2b o2s;rw [if_neg ht,if_neg ht,if_neg ht];exact ⟨rfl,rfl⟩)
 ·cases e
def kR_:IR:=
(sq (kr [0,1,2,3,4] [oD 10 (.mov (cI 0))])
(sq (kr [0,1,2,3,4] [oM 12 0,
oM 13 1,
oM 14 2,
oM 15 4,
oC 16 138 [12,13,14,15],
oM 11 16,
oX 17 11 0,
oX 18 11 1,
oM 1 17,
oM 2 18])
(sq (kr [0,1,2,3,4] [oM 20 0,
oM 21 2,
oM 22 3,
oM 23 4,
oC 24 138 [20,21,22,23],
oM 19 24,
oX 25 19 0,
oX 26 19 1,
oM 2 25,
oM 3 26])
(sq (kr [0,1,2,4] [oM 28 0,
oM 29 1,
oM 30 2,
oM 31 4,
oC 32 138 [28,29,30,31],
oM 27 32,
oX 33 27 0,
oX 34 27 1,
oM 1 33,
oM 2 34])
(sq (kr [2] [oM 35 2,
oM 10 35])
.ret)))))
def kL_:List RD:=[.tmp 10 true none]
theorem kN_:zo_ Tryz.prog Tryz.f121 kR_ kL_=true:=by kernel_rfl
def z7_:List AV->List Obj->Option (Prop × AV × List Obj)
 | [.imm (.int .i64) l,.int .i64 a,.int .i64 b,.int .i64 c,.ptr 0 0],[.box [.int .i64 s]]=>some ((0<=a/\a < l.length/\0<=b/\b < l.length/\0<=c/\c < l.length/\0<=s/\s<=100,.int .i64 (mdF l a b c),[.box [.int .i64 (mdS l a b c s)]]))
 | _,_=>none
theorem ZR_:zf_ Tryz.prog 121 (RwF z7_).sum:=by
 refine ZS_ Tryz.func121 kN_ (zb_ (s:=RwF Zv_) ko_ (zg_ _)) fun args objs p v o e=>?_
 unfold z7_ at e
 split at e
 ·rename_i l a b c s
  cases e
  refine ⟨rfl,fun hw ho hp=>?_⟩
  change List Int at l
  clear hw ho
  change List Int at l
  obtain ⟨g1,g2,g3,g4,g5,g6,g7,g8⟩:=hp
  obtain ⟨p1,p2,p3,p4⟩:=UF_ l a b s
  obtain ⟨q1,q2,q3,q4⟩:=UF_ l (o2b l a b) c (o2s l a b s)
  repeat'(intro t ht;first|(cases t<;>first|(cases ht;done)|(try simp only[zh_]at ht;try(exfalso;first|contradiction|omega)))|((first|refine za_ ht ?_|refine ht ?_ ?_|refine ht.1 ?_ ?_|refine ht ?_)<;>clear ht))
  all_goals first
   | exact True.intro
   | (refine ⟨?_,?_,?_,?_,?_,?_⟩<;>omega)
   | exact ⟨rfl,rfl⟩
 ·cases e
def qN_:IR:=
(sq (kr [0,1,2] [oD 6 (.mov (cI 0))])
(sq (kr [0,1,2] [oM 7 0,
oM 8 1,
oB 9 .sub 8 (cI 1),
oM 10 1,
oM 11 1,
oB 12 .add 11 (cI 1),
oM 13 2,
oC 14 121 [7,9,10,12,13],
oM 6 14])
.ret))
def qJ_:List RD:=[.tmp 6 true none]
theorem qL_:zo_ Tryz.prog Tryz.f120 qN_ qJ_=true:=by kernel_rfl
def zV_:List AV->List Obj->Option (Prop × AV × List Obj)
 | [.imm (.int .i64) l,.int .i64 a,.ptr 0 0],[.box [.int .i64 s]]=>some ((1<=a/\a+1 < l.length/\l.length<=1000000/\0<=s/\s<=100,.int .i64 (mdF l (a - 1) a (a+1)),[.box [.int .i64 (mdS l (a - 1) a (a+1) s)]]))
 | _,_=>none
theorem qy_:zf_ Tryz.prog 120 (RwF zV_).sum:=by
 refine ZS_ Tryz.func120 qL_ (zb_ (s:=RwF z7_) ZR_ (zg_ _)) fun args objs p v o e=>?_
 unfold zV_ at e
 split at e
 ·rename_i l a s
  cases e
  refine ⟨rfl,fun hw ho hp=>?_⟩
  change List Int at l
  clear hw ho
  change List Int at l
  obtain ⟨g1,g2,g3,g4,g5⟩:=hp
  repeat'(intro t ht;first|(cases t<;>first|(cases ht;done)|(try simp only[zh_]at ht;try(exfalso;first|contradiction|omega)))|((first|refine za_ ht ?_|refine ht ?_ ?_|refine ht.1 ?_ ?_|refine ht ?_)<;>clear ht))
  all_goals first
   | exact True.intro
   | (simp only [zl_];omega)
   | (refine ⟨?_,?_,?_,?_,?_,?_,?_,?_⟩<;>omega)
   | exact ⟨rfl,rfl⟩
 ·cases e
def Qq_:IR:=
(sq (kr [0,1,2] [oD 6 (.mov (cI 0)),
oD 7 (.mov (cI 0))])
(sq (.reg [oM 13 2,
oM 14 1,
oB 15 .sub 13 14,
oM 8 15])
(sq (.reg [oD 9 (.box [.int .i64 0])])
(sq (kr [0,1,8,9] [oM 16 1,
oM 17 8,
oB 18 .quo 17 (cI 4),
oB 19 .mul 18 (cI 1),
oB 20 .add 16 19,
oM 10 20])
(sq (kr [0,1,8,9,10] [oM 21 1,
oM 22 8,
oB 23 .quo 22 (cI 4),
oB 24 .mul 23 (cI 2),
oB 25 .add 21 24,
oM 11 25])
(sq (kr [0,1,8,9,10,11] [oM 26 1,
oM 27 8,
oB 28 .quo 27 (cI 4),
oB 29 .mul 28 (cI 3),
oB 30 .add 26 29,
oM 12 30])
(sq (sq (.reg [oM 31 8,
oB 32 .geq 31 (cI 8)])
(.cond 32
(sq (sq (kr [0,8,9,10,11,12] [oM 33 8,
oB 34 .geq 33 (cI 50)])
(.cond 34
(sq (.reg [oM 35 0,
oM 36 10,
oC 37 120 [35,36,9],
oM 10 37])
(sq (kr [0,9,10,11,12] [oM 38 0,
oM 39 11,
oC 40 120 [38,39,9],
oM 11 40])
(.reg [oM 41 0,
oM 42 12,
oC 43 120 [41,42,9],
oM 12 43])))
.skip))
(kr [0,9,10,11,12] [oM 44 0,
oM 45 10,
oM 46 11,
oM 47 12,
oC 48 121 [44,45,46,47,9],
oM 11 48]))
.skip))
(sq (kr [9,11] [oL 49 9])
(.block 0
(sq (.reg [oB 52 .eql 49 (cI 0),
oM 51 52])
(.cond 51
(sq (.reg [oM 53 11,
oM 6 53,
oD 7 (.mov (cI 1))])
.ret)
(sq (.reg [oB 55 .eql 49 (cI 12),
oM 54 55])
(.cond 54
(sq (kr [11] [oM 56 11,
oM 6 56,
oD 7 (.mov (cI 2))])
.ret)
(sq (kr [11] [oM 50 11,
oM 6 50,
oD 7 (.mov (cI 0))])
.ret))))))))))))))
def Qk_:List RD:=[.tmp 6 true none,.tmp 7 true none]
theorem Qm_:zo_ Tryz.prog Tryz.f92 Qq_ Qk_=true:=by kernel_rfl
def Za_:List AV->List Obj->Option NdR
 | [.own 0,.int .i64 a,.int .i64 b],[.row false (.int .i64) l]=>some (⟨0<=a/\a+12 < b/\b<=l.length/\l.length<=1000000,SrP,fun x=>a<=x.j/\(x.j:Int) < b,fun x=>.tup [.int .i64 x.j,.int .i64 x.h],fun _=>[.row false (.int .i64) l]⟩)
 | _,_=>none
theorem Qd_:K6_ Tryz.prog 92 (NdF Za_):=by
 refine XM_ Tryz.func92 Qm_ (zb_ (s:=RwF zV_) qy_ (zb_ (s:=RwF z7_) ZR_ (zg_ _))) fun args objs r e=>?_
 unfold Za_ at e
 split at e
 ·rename_i a b l
  cases e
  refine ⟨rfl,fun hw ho hp=>?_⟩
  change List Int at l
  clear hw ho
  change List Int at l
  obtain ⟨g1,g2,g3,g4⟩:=hp
  have hq:(b - a).tdiv 4=(b - a) / 4:=Int.tdiv_eq_ediv_of_nonneg (by omega)
  have hq1:4*(b - a).tdiv 4<=b - a/\b - a < 4*(b - a).tdiv 4+4:=by rw [hq];omega
  have M1:=UN_ l (a+(b - a).tdiv 4*1 - 1) (a+(b - a).tdiv 4*1) (a+(b - a).tdiv 4*1+1) 0
  have M2:=UN_ l (a+(b - a).tdiv 4*2 - 1) (a+(b - a).tdiv 4*2) (a+(b - a).tdiv 4*2+1) (mdS l (a+(b - a).tdiv 4*1 - 1) (a+(b - a).tdiv 4*1) (a+(b - a).tdiv 4*1+1) 0)
  have M3:=UN_ l (a+(b - a).tdiv 4*3 - 1) (a+(b - a).tdiv 4*3) (a+(b - a).tdiv 4*3+1) (mdS l (a+(b - a).tdiv 4*2 - 1) (a+(b - a).tdiv 4*2) (a+(b - a).tdiv 4*2+1) (mdS l (a+(b - a).tdiv 4*1 - 1) (a+(b - a).tdiv 4*1) (a+(b - a).tdiv 4*1+1) 0))
  have M4:=UN_ l (a+(b - a).tdiv 4*1) (a+(b - a).tdiv 4*2) (a+(b - a).tdiv 4*3) 0
  have M5:=UN_ l (mdF l (a+(b - a).tdiv 4*1 - 1) (a+(b - a).tdiv 4*1) (a+(b - a).tdiv 4*1+1)) (mdF l (a+(b - a).tdiv 4*2 - 1) (a+(b - a).tdiv 4*2) (a+(b - a).tdiv 4*2+1)) (mdF l (a+(b - a).tdiv 4*3 - 1) (a+(b - a).tdiv 4*3) (a+(b - a).tdiv 4*3+1)) 0
  clear hq
  repeat'(intro t ht;first|(cases t<;>first|(cases ht;done)|(try simp only[zh_]at ht;try(exfalso;first|contradiction|omega)))|((first|refine za_ ht ?_|refine ht ?_ ?_|refine ht.1 ?_ ?_|refine ht ?_)<;>clear ht))
  all_goals (try generalize (b - a).tdiv 4=q at*)
  all_goals first
   | exact True.intro
   | decide
   | omega
   | (simp only [zl_];omega)
   | exact mkP (by omega) (by omega)
 ·cases e
theorem hc_ {l u:List Int} {a b i j:Nat} (J:PartJ l u a b i j) (hij:i<=j) (h:u.getD i 0<=u.getD a 0):PartJ l u a b (i+1) j:=
 ⟨J.R,by have:=J.ai;omega,J.jb,by omega,fun k h1 h2=>by
  by_cases e:k=i
  ·rw [e];exact h
  ·exact J.lt k h1 (by omega),J.ge⟩
theorem hd_ {l u:List Int} {a b i j:Nat} (J:PartJ l u a b i j) (hij:i<=j) (h:u.getD a 0<=u.getD j 0):PartJ l u a b i (j - 1):=
 ⟨J.R,J.ai,by have:=J.jb;omega,by have:=J.ai;omega,J.lt,fun k h1 h2=>by
  by_cases e:k=j
  ·rw [e];exact h
  ·exact J.ge k (by omega) h2⟩
theorem h8_ {l:List Int} {a b p:Nat} (hb:b<=l.length) (ha:a < b) (hp:a<=p/\p < b):PartJ l (swp l a p) a b (a+1) (b - 1):=
 ⟨Rear.swp (by omega) (by omega) hb,by omega,by omega,by omega,fun k h1 h2=>by omega,fun k h1 h2=>by omega⟩
theorem zbU_ {l u:List Int} {a b i j:Nat} {x:Int} (J:EqlJ l u a b i j x) (hij:i<=j) (h:u.getD i 0<=u.getD a 0):EqlJ l u a b (i+1) j x:=
 ⟨J.R,J.pv,by have:=J.ai;omega,J.jb,by omega,fun k h1 h2=>by
  by_cases e:k=i
  ·rw [e];exact h
  ·exact J.le k h1 (by omega),J.gt⟩
theorem zbV_ {l u:List Int} {a b i j:Nat} {x:Int} (J:EqlJ l u a b i j x) (hij:i<=j) (h:u.getD a 0 < u.getD j 0):EqlJ l u a b i (j - 1) x:=
 ⟨J.R,J.pv,J.ai,by have:=J.jb;omega,by have:=J.ai;omega,J.le,fun k h1 h2=>by
  by_cases e:k=j
  ·rw [e];exact h
  ·exact J.gt k (by omega) h2⟩
theorem Bd_ {l:List Int} {a b p:Nat} (hb:b<=l.length) (ha:a < b) (hp:a<=p/\p < b):EqlJ l (swp l a p) a b (a+1) (b - 1) (l.getD p 0):=
 ⟨Rear.swp (by omega) (by omega) hb,by
  rw [kJ_ l (by omega) (by omega)]
  by_cases e:a=p
  ·rw [if_pos e,e]
  ·rw [if_neg e,if_pos rfl],by omega,by omega,by omega,fun k h1 h2=>by omega,fun k h1 h2=>by omega⟩
def Qg_:IR:=
(sq (kr [0,1,2] [oM 8 1,
oM 6 8])
(sq (.reg [oM 9 2,
oB 10 .sub 9 (cI 1),
oM 7 10])
(.block 0
(.loop
(sq (sq (kr [0,6,7] [oM 11 6,
oM 12 7,
oB 13 .lss 11 12])
(.cond 13
.skip
(.exit 0)))
(.block 1
(sq (kd [0,6,7] [(oM 14 0,[]),
(oM 15 6,[0]),
(oM 16 0,[0,0]),
(oM 17 7,[0,0,0]),
(oM 18 0,[0,0,0,0]),
(oM 19 7,[0,0,0,0,0]),
(oI 20 1 18 19,[2,0,0,0]),
(oL 21 20,[3,0,0,0]),
(oM 22 0,[0,0,0,0,0,0,0,0]),
(oM 23 6,[0,0,0,0,0,0,0,0,0]),
(oI 24 1 22 23,[2,0,0,0,0,0,0,0]),
(oL 25 24,[3,0,0,0,0,0,0,0]),
(oI 26 1 14 15,[8,0]),
(oS 1 26 21,[9,0]),
(oI 27 1 16 17,[]),
(oS 1 27 25,[])])
(sq (kr [0,6,7] [oM 28 6,
oB 29 .add 28 (cI 1),
oM 6 29])
(.reg [oM 30 7,
oB 31 .sub 30 (cI 1),
oM 7 31])))))))))
def Qe_:List RD:=[]
theorem Qf_:zo_ Tryz.prog Tryz.f93 Qg_ Qe_=true:=by kernel_rfl
def z6_:List AV->List Obj->Option NdR
 | [.own 0,.int .i64 a,.int .i64 b],[.row false (.int .i64) l]=>some (⟨0<=a/\a < b/\b<=l.length/\l.length<=1000000,SrX,fun x=>Rear l a.toNat b.toNat x.r,fun _=>.tup [],fun x=>[.row false (.int .i64) x.r]⟩)
 | _,_=>none
theorem qU_:K6_ Tryz.prog 93 (NdF z6_):=by
 refine XM_ Tryz.func93 Qf_ (zg_ _) fun args objs r e=>?_
 unfold z6_ at e
 split at e
 ·rename_i a b l
  cases e
  refine ⟨rfl,fun hw ho hp=>?_⟩
  change List Int at l
  clear hw ho
  change List Int at l
  obtain ⟨g1,g2,g3,g4⟩:=hp
  obtain ⟨a,rfl⟩:=Int.eq_ofNat_of_zero_le g1
  obtain ⟨b,rfl⟩:=Int.eq_ofNat_of_zero_le (show 0<=b by omega)
  have eb:(b:Int) - 1=((b - 1:Nat):Int):=by omega
  repeat'(intro t ht;first|(cases t<;>first|(cases ht;done)|(try simp only[zh_]at ht;try(exfalso;first|contradiction|omega)))|((first|refine za_ ht ?_|refine ht ?_ ?_|refine ht.1 ?_ ?_|refine ht ?_)<;>clear ht))
  all_goals first
   | exact True.intro
   | (simp only [zl_];omega)
   | (intro r h1 h2;clear h1;refine h2 ⟨[0,6,7],Nat × Nat × List Int,(fun s=>a<=s.1/\s.2.1 < b/\Rear l a b s.2.2),fun s=>[.own 0,.int .i64 s.1,.int .i64 s.2.1],fun s=>[.row false (.int .i64) s.2.2],fun s=>s.2.1,⟨(a,b - 1,l),⟨Nat.le_refl _,by dsimp only;omega,Rear.refl _ _ _⟩,(by rw [eb]),rfl⟩,?_⟩;clear h2)
  rintro ⟨i,j,u⟩ ⟨hi,hj,hR⟩
  dsimp only at hi hj hR
  have hl:=hR.len
  repeat'(intro t ht;first|(cases t<;>first|(cases ht;done)|(try simp only[zh_]at ht;try(exfalso;first|contradiction|omega)))|((first|refine za_ ht ?_|refine ht ?_ ?_|refine ht.1 ?_ ?_|refine ht ?_)<;>clear ht))
  all_goals first
   | exact True.intro
   | (dsimp only;omega)
   | (dsimp only;simp only [zl_];omega)
   | (dsimp only;rw [List.length_set];omega)
   | exact ⟨⟨u⟩,hR,rfl,rfl⟩
   | (refine ⟨(i+1,j - 1,swp u i j),⟨?_,?_,hR.trans (Rear.swp (by omega) (by omega) (by omega))⟩,?_,?_,rfl⟩
      ·show a<=i+1;omega
      ·show j - 1 < b;omega
      ·show j - 1 < j;omega
      ·show [AV.own 0,AV.int .i64 ((i:Int)+1),AV.int .i64 ((j:Int) - 1)]=[AV.own 0,AV.int .i64 ((i+1:Nat):Int),AV.int .i64 ((j - 1:Nat):Int)]
       rw [show ((j - 1:Nat):Int)=(j:Int) - 1 by omega];rfl)
 ·cases e
end Go.Eng

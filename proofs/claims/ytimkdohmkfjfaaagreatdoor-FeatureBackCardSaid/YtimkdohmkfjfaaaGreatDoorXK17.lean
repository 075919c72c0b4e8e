/- Parts of the proof: TE, TF, P7, TG, TI, S2, S3, S5, S6. No condition. -/
import Derived.Test.YtimkdohmkfjfaaaGreatDoorProg
import Derived.Test.YtimkdohmkfjfaaaGreatDoorXK11
import Derived.KernelRfl
import Derived.Test.YtimkdohmkfjfaaaGreatDoorXK16
import Derived.Test.YtimkdohmkfjfaaaGreatDoorXK13
import Derived.Test.YtimkdohmkfjfaaaGreatDoorXK14
namespace Go.Eng
open Go.Proofs
set_option linter.unusedVariables false
set_option linter.unusedSimpArgs false
set_option maxRecDepth 100000
set_option maxHeartbeats 1000000
def ftV (acc:List FV) (y:List Int):FV:=(tT y,ftN ((tyL acc).contains (tT y)) (tT y) (bd y),ftD (tT y) (bd y),())
def ftX (acc:List FV) (y:List Int):Int:=ftE ((tyL acc).contains (tT y)) (tT y) (bd y)
def tlN (y:List Int):Int:=tN y+zr (tN y)
def fsG (acc:List FV) (e:Int) (y:List Int):List FV × Int:=
 if y.length=0 then (acc,e) else if tlK y=0 then fsG (acc++[ftV acc y]) (zl_ e (ftX acc y)) (y.drop (max 1 (tlN y).toNat)) else (acc,zl_ e (tlK y))
termination_by y.length
decreasing_by all_goals (rw [List.length_drop];omega)
theorem X1_ {y:List Int} (h:tlK y=0):4<=tN y/\4<=tlN y/\tlN y<=y.length/\¬ y.length < 4/\zY_ ((y.drop (tN y).toNat).take (zr (tN y)).toNat)=true:=by
 by_cases c1:y.length < 4
 ·rw [zcA_ c1] at h;cases h
 ·by_cases c2:tN y < 4
  ·rw [zcy_ c2] at h;cases h
  ·by_cases c3:(y.length:Int) < tN y+zr (tN y)
   ·rw [zcz_ c3] at h;cases h
   ·have hz:=VI_ (n:=tN y) (by omega)
    rw [GZ_ c1 c2 c3] at h
    unfold tlN
    refine ⟨by omega,by omega,by omega,c1,?_⟩
    by_cases c4:zY_ ((y.drop (tN y).toNat).take (zr (tN y)).toNat)=true
    ·exact c4
    ·rw [if_neg c4] at h;cases h
theorem xK_ {acc:List FV} {e:Int} {y:List Int} (h:y.length=0):fsG acc e y=(acc,e):=by rw [fsG,if_pos h]
theorem UT_ {acc:List FV} {e:Int} {y:List Int} (h:¬ y.length=0) (h1:¬ tlK y=0):fsG acc e y=(acc,zl_ e (tlK y)):=by rw [fsG,if_neg h,if_neg h1]
theorem uA_ {acc:List FV} {e:Int} {y:List Int} (h1:tlK y=0):fsG acc e y=fsG (acc++[ftV acc y]) (zl_ e (ftX acc y)) (y.drop (tlN y).toNat):=by
 have h:=X1_ h1
 rw [fsG,if_neg (by omega),if_pos h1,show max 1 (tlN y).toNat=(tlN y).toNat by omega]
def XZ_ (b:List Int) (p:Int):Int:=if 0 > hdQ b p then 0 else hdQ b p
def QY_ (b:List Int) (p sh:Int):List Int:=zm_ (XZ_ b p) b (hdP b p) sh (hdE b p)
def gg_ (b:List Int) (p sh:Int):Int:=q6_ (XZ_ b p) b (hdP b p) sh (hdE b p)
def xo_ (b:List Int) (p sh:Int):List FV × Int:=fsG [] (Zj_ (XZ_ b p) b (hdP b p) sh (hdE b p)) (QY_ b p sh)
theorem zdv_ {b:List Int} {p:Int} (h0:0<=p) (h1:p<=b.length):0<=hdP b p/\hdP b p<=b.length:=by
 unfold hdP hdA;split<;>omega
theorem Bg_ {y:List Int} (h:tlK y=0):tlI y (tT y)=tT y/\tlR y=bd y/\tlI y (tN y+zr (tN y))=tlN y:=⟨(vl_ h _).1,(vl_ h 0).2,(vl_ h _).1⟩
theorem zdK_ {y:List Int}:(bd y).length<=y.length:=by unfold bd;rw [List.length_drop,List.length_take];omega
theorem Hi_ (y:List Int):(tlR y).length<=y.length:=by
 unfold tlR;split
 ·exact zdK_
 ·exact Nat.zero_le _
theorem u1_ (acc:List FV) (f:FV):tyL (acc++[f])=tyL acc++[f.1]:=by unfold tyL;rw [List.map_append];rfl
theorem vb_ (e:Int):zl_ e 0=e:=by unfold zl_;split<;>simp_all
theorem HR_ {m:List (Int × Int)} {acc:List FV} (h:cntM m (tyL acc)) (y:List Int):cntM (QJ_ m (tT y) ((zx_ m (tT y)).getD 0+1)) (tyL (acc++[ftV acc y])):=by
 rw [u1_];exact vd_ h
def YM_:IR:=
(sq (kr [0] [oD 2 (.box [.int .u64 0,.str [],.int .u64 0,.int .u64 0,.int .u64 0,.int .u64 0,.nils])])
(sq (kr [0,2] [oM 12 0,
oC 13 158 [12],
oM 11 13,
oX 14 11 0,
oX 15 11 1,
oD 3 (.box [.int .u64 0,.str [],.int .u64 0,.int .u64 0,.int .u64 0,.int .u64 0,.nils]),
oS 7 3 14,
oM 4 15])
(sq (kr [0,2,3,4] [oM 16 0,
oM 17 4,
oD 18 (.minmax true 17 (cI 0)),
oC 19 88 [16,18],
oM 5 19])
(sq (.reg [oD 20 (.mkmap (.int .i64) (.int .i64)),
oM 6 20])
(sq (.block 0
(.loop
(sq (sq (kr [0,2,3,5,6] [oM 21 5,
oE 22 21,
oB 23 .gtr 22 (cI 0)])
(.cond 23
.skip
(.exit 0)))
(.block 1
(sq (kr [0,2,3,5,6] [oC 25 130 [],
oM 26 5,
oC 27 65 [25,26],
oM 24 27,
oX 28 24 0,
oX 29 24 1,
oX 30 24 2,
oD 7 (.box [.int .i64 0,.nils]),
oS 2 7 28,
oM 8 29,
oM 9 30])
(sq (kr [0,2,3,5,6,7,8,9] [oM 31 0,
oM 32 9,
oC 33 110 [31,32]])
(sq (sq (.reg [oM 34 9,
oB 35 .neq 34 (cI 0)])
(.cond 35
(sq (.reg [oK 36 7 3,
oS 7 2 36])
.ret)
.skip))
(sq (kr [0,2,3,5,6,7,8] [oK 38 2 7,
oM 39 6,
oC 40 159 [38,39],
oM 37 40,
oX 41 37 0,
oX 42 37 1,
oD 10 (.box [.int .i64 0,.nils,.nils]),
oS 3 10 41,
oM 9 42])
(sq (kr [0,2,3,5,6,8,9,10] [oM 43 0,
oM 44 9,
oC 45 110 [43,44]])
(sq (kr [0,2,3,5,6,8,10] [oM 46 6,
oA 47 0 10,
oL 48 47,
oD 49 (.mget (.int .i64) (.int .i64) (0:Int) false 46 48),
oB 50 .add 49 (cI 1),
oN (.mput (.int .i64) (.int .i64) 46 48 50)])
(kd [0,2,3,5,6,8,10] [(oA 51 6 3,[]),
(oL 52 51,[]),
(oK 53 3 10,[0,0]),
(oD 54 (.sliceAll (.cons (.int .i64) (.cons (.sl (.int .u64)) (.cons (.sl (.int .u8)) .nil))) 1 [(0,3,53)]),[1,0]),
(oD 55 (.append (.cons (.int .i64) (.cons (.sl (.int .u64)) (.cons (.sl (.int .u8)) .nil))) 56 52 54),[]),
(oM 56 5,[0,0,0,0,0]),
(oM 57 8,[0,0,0,0,0,0]),
(oD 58 (.slice 1 56 (some 57) none none),[2,0,0,0,0]),
(oA 59 6 3,[0,0,0]),
(oS 1 59 55,[1,0,0]),
(oM 5 58,[])])))))))))))
(sq (kr [2,3] [oK 60 7 3,
oS 7 2 60])
.ret))))))
def Yu_:List RD:=[.cell 2 (some 7) true [none,none,none,none,none,none,(some (.cons (.int .i64) (.cons (.sl (.int .u64)) (.cons (.sl (.int .u8)) .nil))))]]
theorem YE_:zo_ Tryz.prog Tryz.f132 YM_ Yu_=true:=by kernel_rfl
def jf_:List AV->List Obj->Option (Prop × AV × List Obj)
 | [.ptr 0 0],[.box [.imm (.int .u8) b,.int .i64 p,.int .i64 sh,.int .i64 od,.int .i64 e,.bool true]]=>some ((0<=p/\p<=b.length/\b.length<=100000/\sh ≠ 0/\e=0,.agg [.int .u64 ((hdT b p).1),.str ((hdT b p).2.1),.int .u64 ((hdT b p).2.2.1),.int .u64 ((hdT b p).2.2.2.1),.int .u64 ((hdT b p).2.2.2.2.1),.int .u64 ((hdT b p).2.2.2.2.2.1),.imm (.cons (.int .i64) (.cons (.sl (.int .u64)) (.cons (.sl (.int .u8)) .nil))) ((xo_ b p sh).1)],[.box [.imm (.int .u8) b,.int .i64 (gg_ b p sh),.int .i64 sh,.int .i64 od,.int .i64 ((xo_ b p sh).2),.bool true]]))
 | _,_=>none
theorem X5_:ze_ Tryz.prog 132 (RwF jf_).sum:=by
 refine qh_ Tryz.func132 YE_ (zb_ (s:=RwF jh_) X7_ (zb_ (s:=RwF zW_) ZD_ (zb_ (s:=RoF QB_) jt_ (zb_ (s:=RoF yV_) gm_ (zb_ (s:=RwF zw_) zC_ (zb_ (s:=RoF ji_) X8_ (zf_ _))))))) fun args objs p v o e=>?_
 unfold jf_ at e
 split at e
 ·rename_i b p sh od e
  cases e
  refine ⟨rfl,fun hw ho hp=>?_⟩
  change List Int at b
  clear hw ho
  change List Int at b
  obtain ⟨hp0,hp1,hp2,hp3,rfl⟩:=hp
  have hP:=zdv_ hp0 hp1
  have hY:(QY_ b p sh).length<=b.length:=gk_
  unfold QY_ XZ_ at hY
  repeat'(intro t ht;first|(cases t<;>first|(cases ht;done)|(try simp only[zh_]at ht;try(exfalso;first|contradiction|omega)))|((first|refine za_ ht ?_|refine ht ?_ ?_|refine ht.1 ?_ ?_|refine ht ?_)<;>clear ht))
  all_goals first
   | exact True.intro
   | exact ⟨hp0,hp1,hp2,hp3,rfl⟩
   | exact ⟨hP.1,hP.2,by omega,hp3⟩
   | (intro r h1 h2;clear h1;refine h2 ⟨[],[0,2,3,5,6],Option (List FV × List (Int × Int) × List Int × Int),(fun a=>match a with | none=>True | some a=>a.1.length+a.2.2.1.length<=(QY_ b p sh).length/\cntM a.2.1 (tyL a.1)/\xo_ b p sh=fsG a.1 a.2.2.2 a.2.2.1),(fun a=>match a with | none=>[.ptr 0 0,.ptr 1 0,.ptr 2 0,.imm (.int .u8) (QY_ b p sh),.mapv 3] | some a=>[.ptr 0 0,.ptr 1 0,.ptr 2 0,.imm (.int .u8) a.2.2.1,.mapv 3]),(fun a=>match a with | none=>[.box [.imm (.int .u8) b,.int .i64 (gg_ b p sh),.int .i64 sh,.int .i64 od,.int .i64 (Zj_ (XZ_ b p) b (hdP b p) sh (hdE b p)),.bool true],.box [.int .u64 0,.str [],.int .u64 0,.int .u64 0,.int .u64 0,.int .u64 0,.nils],.box [.int .u64 (hdT b p).1,.str (hdT b p).2.1,.int .u64 (hdT b p).2.2.1,.int .u64 (hdT b p).2.2.2.1,.int .u64 (hdT b p).2.2.2.2.1,.int .u64 (hdT b p).2.2.2.2.2.1,.nils],.map true (.int .i64) (.int .i64) ([])] | some a=>[.box [.imm (.int .u8) b,.int .i64 (gg_ b p sh),.int .i64 sh,.int .i64 od,.int .i64 a.2.2.2,.bool true],.box [.int .u64 0,.str [],.int .u64 0,.int .u64 0,.int .u64 0,.int .u64 0,.nils],.box [.int .u64 (hdT b p).1,.str (hdT b p).2.1,.int .u64 (hdT b p).2.2.1,.int .u64 (hdT b p).2.2.2.1,.int .u64 (hdT b p).2.2.2.2.1,.int .u64 (hdT b p).2.2.2.2.2.1,.own 4],.map true (.int .i64) (.int .i64) a.2.1,.row false (.cons (.int .i64) (.cons (.sl (.int .u64)) (.cons (.sl (.int .u8)) .nil))) a.1]),(fun a=>match a with | none=>(QY_ b p sh).length+1 | some a=>a.2.2.1.length),⟨none,True.intro,rfl,rfl⟩,?_⟩;clear h2)
  have hY2:(QY_ b p sh).length<=b.length:=hY
  have hG:xo_ b p sh=fsG [] (Zj_ (XZ_ b p) b (hdP b p) sh (hdE b p)) (QY_ b p sh):=rfl
  rintro (_ | ⟨acc,m,y,e⟩) hJ
  ·clear hJ
   have hq:=fun h:tlK (QY_ b p sh)=0=>Bg_ h
   have hk:=fun h:tlK (QY_ b p sh)=0=>X1_ h
   have hdc:=UZ_ (acc:=tyL []) XK_ (tT (QY_ b p sh))
   have hcr:=fun k=>XK_.r k
   have hcl:(tyL ([]:List FV)).length=([]:List FV).length:=List.length_map ..
   repeat'(intro t ht;first|(cases t<;>first|(cases ht;done)|(try simp only[zh_]at ht;try(exfalso;first|contradiction|omega)))|((first|refine za_ ht ?_|refine ht ?_ ?_|refine ht.1 ?_ ?_|refine ht ?_)<;>clear ht))
   all_goals first
    | exact True.intro
    | exact ⟨rfl,rfl,rfl,rfl,rfl,by first | omega | (dsimp only;omega)⟩
    | exact Nat.le_trans (Hi_ _) (by first | omega | (dsimp only;omega))
    | (have e1:xo_ b p sh=(([]:List FV),(Zj_ (XZ_ b p) b (hdP b p) sh (hdE b p))):=hG.trans (xK_ (by first | omega | (dsimp only at*;omega)))
       rw [e1];exact ⟨rfl,rfl⟩)
    | (have hx:¬ tlK (QY_ b p sh)=0:=by assumption
       have e1:xo_ b p sh=(([]:List FV),zl_ (Zj_ (XZ_ b p) b (hdP b p) sh (hdE b p)) (tlK (QY_ b p sh))):=hG.trans (UT_ (by first | omega | (dsimp only at*;omega)) hx)
       rw [e1];exact ⟨rfl,rfl⟩)
    | skip
   all_goals have hx:tlK (QY_ b p sh)=0:=by assumption
   all_goals obtain ⟨q1,q2,q3⟩:=hq hx
   all_goals obtain ⟨w1,w2,w3,w4,w5⟩:=hk hx
   all_goals have w6:((QY_ b p sh).drop (tlN (QY_ b p sh)).toNat).length=(QY_ b p sh).length - (tlN (QY_ b p sh)).toNat:=List.length_drop
   all_goals first
    | (have hc:=hcr (tlI (QY_ b p sh) (tT (QY_ b p sh)))
       (try dsimp only)
       exact (show IntKind.i64.min<=(0:Int)+1/\(0:Int)+1<=IntKind.i64.max from by simp only [zn_];omega))
    | (simp only [List.length_cons,List.length_nil];constructor<;>omega)
    | (dsimp only;rw [q3];constructor<;>omega)
    | (rw [q3];constructor<;>omega)
    | (have e1:=hG.trans (uA_ hx)
       refine ⟨some (([]:List FV)++[ftV ([]:List FV) (QY_ b p sh)],QJ_ ([]:List (Int × Int)) (tT (QY_ b p sh)) ((zx_ ([]:List (Int × Int)) (tT (QY_ b p sh))).getD 0+1),(QY_ b p sh).drop (tlN (QY_ b p sh)).toNat,zl_ (Zj_ (XZ_ b p) b (hdP b p) sh (hdE b p)) (ftX ([]:List FV) (QY_ b p sh))),⟨?_,?_,?_⟩,?_,?_,?_⟩
       ·dsimp only;simp only [List.length_append,List.length_cons,List.length_nil];omega
       ·exact HR_ XK_ _
       ·exact e1
       ·dsimp only;omega
       ·dsimp only;rw [q3];rfl
       ·dsimp only
        rw [q1,q2,hx,vb_]
        unfold ftV ftX
        rw [<- hdc];rfl)
  ·obtain ⟨j1,j2,j3⟩:=hJ
   dsimp only at j1 j2 j3
   have hq:=fun h:tlK y=0=>Bg_ h
   have hk:=fun h:tlK y=0=>X1_ h
   have hdc:=UZ_ j2 (tT y)
   have hcr:=fun k=>j2.r k
   have hcl:(tyL acc).length=acc.length:=List.length_map ..
   repeat'(intro t ht;first|(cases t<;>first|(cases ht;done)|(try simp only[zh_]at ht;try(exfalso;first|contradiction|omega)))|((first|refine za_ ht ?_|refine ht ?_ ?_|refine ht.1 ?_ ?_|refine ht ?_)<;>clear ht))
   all_goals first
    | exact True.intro
    | exact ⟨rfl,rfl,rfl,rfl,rfl,by first | omega | (dsimp only;omega)⟩
    | exact Nat.le_trans (Hi_ _) (by first | omega | (dsimp only;omega))
    | (have e1:xo_ b p sh=(acc,e):=j3.trans (xK_ (by first | omega | (dsimp only at*;omega)))
       rw [e1];exact ⟨rfl,rfl⟩)
    | (have hx:¬ tlK y=0:=by assumption
       have e1:xo_ b p sh=(acc,zl_ e (tlK y)):=j3.trans (UT_ (by first | omega | (dsimp only at*;omega)) hx)
       rw [e1];exact ⟨rfl,rfl⟩)
    | skip
   all_goals have hx:tlK y=0:=by assumption
   all_goals obtain ⟨q1,q2,q3⟩:=hq hx
   all_goals obtain ⟨w1,w2,w3,w4,w5⟩:=hk hx
   all_goals have w6:(y.drop (tlN y).toNat).length=y.length - (tlN y).toNat:=List.length_drop
   all_goals first
    | (have hc:=hcr (tlI y (tT y))
       (try dsimp only)
       exact (show IntKind.i64.min<=(zx_ m (tlI y (tT y))).getD 0+1/\(zx_ m (tlI y (tT y))).getD 0+1<=IntKind.i64.max from by simp only [zn_];omega))
    | (simp only [List.length_cons,List.length_nil];constructor<;>omega)
    | (dsimp only;rw [q3];constructor<;>omega)
    | (rw [q3];constructor<;>omega)
    | (have e1:=j3.trans (uA_ hx)
       refine ⟨some (acc++[ftV acc y],QJ_ m (tT y) ((zx_ m (tT y)).getD 0+1),y.drop (tlN y).toNat,zl_ e (ftX acc y)),⟨?_,?_,?_⟩,?_,?_,?_⟩
       ·dsimp only;simp only [List.length_append,List.length_cons,List.length_nil];omega
       ·exact HR_ j2 _
       ·exact e1
       ·dsimp only;omega
       ·dsimp only;rw [q3];rfl
       ·dsimp only
        rw [q1,q2,hx,vb_]
        unfold ftV ftX
        rw [<- hdc];rfl)
 ·cases e
def fE (y:List Int):Int:=if (y.length:Int) < 64 then 3332 else u8E (y.take 64) y.length
def fN (y:List Int):Int:=u1N (y.take 64)
def fF (y:List Int):List FV × Int:=fsG [] 0 ((y.take (fN y).toNat).drop 64)
def tbX (y:List Int):Int:=if fE y=0 then (fF y).2 else fE y
def tbS (y:List Int):Int:=if (y.length:Int) < 64 then 0 else if fE y=0 then fN y else 64
def tbV (y:List Int):TV:=(u3V (y.take 64) y.length,ctB (u6N (y.take 64) y.length) 0,uS (y.take 64) y.length 0,uS (y.take 64) y.length 1,uS (y.take 64) y.length 2,uS (y.take 64) y.length 3,(fF y).1,())
theorem zcY_ {x:List Int} {a:Int} (h:u2B x a=true):u8E x a ≠ 0:=by
 have h2:u2E x a ≠ 0:=by unfold u2E;rw [if_pos h];exact ja_ (by decide)
 have h4:u4E x a ≠ 0:=UY_ (Hz_ h2)
 have h5:u5E x a ≠ 0:=by unfold u5E;split;exact ja_ (by decide);exact h4
 have h6:u6E x a ≠ 0:=by unfold u6E;rw [x2_ h5];exact h5
 have h7:u7E x a ≠ 0:=by unfold u7E;split;exact ja_ (by decide);exact h6
 exact UY_ h7
theorem HO_ {y:List Int} (h:fE y=0):¬ (y.length:Int) < 64/\64<=fN y/\fN y<=y.length/\(fN y).tmod 8=0:=by
 unfold fE at h
 by_cases c:(y.length:Int) < 64
 ·rw [if_pos c] at h;cases h
 ·rw [if_neg c] at h
  have hb:u2B (y.take 64) y.length=false:=by
   cases k:u2B (y.take 64) y.length with
   | false=>rfl
   | true=>exact absurd h (zcY_ k)
  unfold u2B at hb
  rw [Bool.or_eq_false_iff,Bool.or_eq_false_iff,Bool.not_eq_false',decide_eq_false_iff_not,decide_eq_true_eq,decide_eq_false_iff_not] at hb
  unfold fN
  exact ⟨c,by omega,by omega,hb.2.1⟩
theorem zeh_ {b:List Int} {p:Nat} (h:p<=b.length):hdX b p=(b.drop p).take 64/\hdA b p=((b.drop p).length:Int):=by
 unfold hdX hdA
 rw [Int.toNat_natCast,List.length_drop]
 exact ⟨rfl,by omega⟩
theorem zbk_ {b:List Int} {p:Nat} (h:p<=b.length) {sh:Int}:gg_ b p sh=p+tbS (b.drop p)/\(xo_ b p sh).2=tbX (b.drop p)/\(tbX (b.drop p)=0->(((hdT b p).1,(hdT b p).2.1,(hdT b p).2.2.1,(hdT b p).2.2.2.1,(hdT b p).2.2.2.2.1,(hdT b p).2.2.2.2.2.1,(xo_ b p sh).1,()):TV)=tbV (b.drop p)/\tbS (b.drop p)=fN (b.drop p)):=by
 obtain ⟨a1,a2⟩:=zeh_ h
 have hl:(b.drop p).length=b.length - p:=List.length_drop
 have eE:hdE b p=fE (b.drop p):=by unfold hdE fE;rw [a1,a2]
 by_cases h0:fE (b.drop p)=0
 ·obtain ⟨c1,c2,c3,c4⟩:=HO_ h0
  have hs:¬ hdA b p < 64:=by rw [a2];exact c1
  obtain ⟨s1,s2,s3,s4⟩:=zau_ hs
  have eW:XZ_ b p=fN (b.drop p) - 64:=by
   unfold XZ_;rw [s2,a1];show (if 0 > fN (b.drop p) - 64 then _ else fN (b.drop p) - 64)=_
   rw [if_neg (by omega)]
  have e1:Zj_ (XZ_ b p) b (hdP b p) sh (hdE b p)=0:=by
   rw [eE,h0,eW,s3];unfold Zj_;rw [if_neg (by omega),if_neg (by omega)]
  have e2:QY_ b p sh=((b.drop p).take (fN (b.drop p)).toNat).drop 64:=by
   unfold QY_ zm_;rw [if_pos e1,eW,s3]
   rw [show ((p:Int)+64+(fN (b.drop p) - 64)).toNat=p+(fN (b.drop p)).toNat by omega,show ((p:Int)+64).toNat=p+64 by omega,List.take_drop,List.drop_drop]
  have e3:gg_ b p sh=p+fN (b.drop p):=by
   unfold gg_ q6_;rw [if_pos e1,eW,s3];omega
  have eG:xo_ b p sh=fF (b.drop p):=by unfold xo_;rw [e1,e2];rfl
  have t1:tbS (b.drop p)=fN (b.drop p):=by unfold tbS;rw [if_neg c1,if_pos h0]
  have t2:tbX (b.drop p)=(fF (b.drop p)).2:=by unfold tbX;rw [if_pos h0]
  refine ⟨by rw [e3,t1],by rw [eG,t2],fun _=>⟨?_,t1⟩⟩
  rw [s1,eG,a1,a2];rfl
 ·have e1:Zj_ (XZ_ b p) b (hdP b p) sh (hdE b p)=fE (b.drop p):=by rw [eE];exact x2_ h0
  have e2:QY_ b p sh=[]:=by unfold QY_ zm_;rw [e1,if_neg h0]
  have e3:gg_ b p sh=hdP b p:=by unfold gg_ q6_;rw [e1,if_neg h0]
  have eG:xo_ b p sh=([],fE (b.drop p)):=by unfold xo_;rw [e1,e2,xK_ rfl]
  have t2:tbX (b.drop p)=fE (b.drop p):=by unfold tbX;rw [if_neg h0]
  refine ⟨?_,by rw [eG,t2],fun c=>absurd (t2.symm.trans c) h0⟩
  rw [e3]
  unfold hdP tbS
  rw [a2]
  by_cases c:((b.drop p).length:Int) < 64
  ·rw [if_pos c,if_pos c];omega
  ·rw [if_neg c,if_neg c,if_neg h0]
def fdG (y:List Int):List TV × Int × Int:=gG tbX fN tbS tbV y
def fdL (y:List Int):List TV:=if (fdG y).2.1=0 then (fdG y).1 else []
def fdE (y:List Int):Int:=(fdG y).2.1
theorem Hj_ {y:List Int} (h:tbX y=0):fE y=0/\64<=fN y/\fN y<=y.length:=by
 unfold tbX at h
 split at h
 ·rename_i c;have:=HO_ c;exact ⟨c,this.2.1,this.2.2.1⟩
 ·exact absurd h (by assumption)
theorem hO_ {y:List Int} (h:y.length=0):fdG y=([],0,0):=US_ h
theorem zaJ_ {y:List Int} (h:¬ y.length=0) (h1:tbX y=0):fdG y=(tbV y :: (fdG (y.drop (fN y).toNat)).1,(fdG (y.drop (fN y).toNat)).2.1,fN y+(fdG (y.drop (fN y).toNat)).2.2):=zaA_ h h1 (by have:=Hj_ h1;omega)
theorem zaK_ {y:List Int} (h:¬ y.length=0) (h1:¬ tbX y=0):fdG y=([],tbX y,tbS y):=zaB_ h h1
theorem zc2_ {y:List Int}:0<=tbS y/\tbS y<=y.length:=by
 unfold tbS
 by_cases c:(y.length:Int) < 64
 ·rw [if_pos c];omega
 ·rw [if_neg c]
  by_cases c2:fE y=0
  ·have:=HO_ c2;rw [if_pos c2];omega
  ·rw [if_neg c2];omega
def YR_:IR:=
(sq (kr [0] [oD 2 (.nilrow YA)])
(sq (.reg [oM 4 0,
oC 5 108 [4],
oM 3 5])
(sq (.block 0
(.loop
(sq (sq (kr [0,2,3] [oM 6 0,
oC 7 53 [6],
oB 8 .eql 7 (cI 0),
oM 9 8,
oT 9 10 (.mov 0),
oT 9 11 (.call false (.f 108) [10]),
oT 9 12 (.bin .gtr 11 (cI 0)),
oP 13 9 12 cF])
(.cond 13
.skip
(.exit 0)))
(.block 1
(kr [0,2,3] [oM 14 2,
oM 15 0,
oC 16 132 [15],
oD 17 (.sliceAll YA 1 [(0,7,16)]),
oD 18 (.append YA 80 14 17),
oM 2 18])))))
(sq (sq (kr [0,2,3] [oM 19 3,
oB 20 .gtr 19 (cI 65528)])
(.cond 20
(.reg [oM 21 0,
oC 22 110 [21,(cI 3332)]])
.skip))
(sq (sq (.reg [oM 23 0,
oC 24 53 [23],
oB 25 .neq 24 (cI 0)])
(.cond 25
(sq (kr [] [oD 2 (.nilrow YA)])
.ret)
.skip))
(sq (kr [2] [oM 26 2,
oM 2 26])
.ret))))))
def Yz_:List RD:=[.tmp 2 true (some YA)]
theorem YJ_:zo_ Tryz.prog Tryz.f76 YR_ Yz_=true:=by kernel_rfl
def jk_:List AV->List Obj->Option (Prop × AV × List Obj)
 | [.ptr 0 0],[.box [.imm (.int .u8) b,.int .i64 p,.int .i64 sh,.int .i64 od,.int .i64 e,.bool true]]=>some ((0<=p/\p<=b.length/\b.length<=65528/\sh ≠ 0/\e=0,.imm YA (fdL (b.drop p.toNat)),[.box [.imm (.int .u8) b,.int .i64 (p+(fdG (b.drop p.toNat)).2.2),.int .i64 sh,.int .i64 od,.int .i64 (fdE (b.drop p.toNat)),.bool true]]))
 | _,_=>none
theorem ya_:ze_ Tryz.prog 76 (RwF jk_).sum:=by
 refine qh_ Tryz.func76 YJ_ (zb_ (s:=RoF zT_) Zb_ (zb_ (s:=RoF zA_) zE_ (zb_ (s:=RwF jf_) X5_ (zb_ (s:=RwF zw_) zC_ (zf_ _))))) fun args objs p v o e=>?_
 unfold jk_ at e
 split at e
 ·rename_i b p sh od e
  cases e
  refine ⟨rfl,fun hw ho hp=>?_⟩
  change List Int at b
  clear hw ho
  change List Int at b
  obtain ⟨hp0,hp1,hp2,hp3,rfl⟩:=hp
  obtain ⟨p,rfl⟩:=Int.eq_ofNat_of_zero_le hp0
  rw [Int.toNat_natCast]
  repeat'(intro t ht;first|(cases t<;>first|(cases ht;done)|(try simp only[zh_]at ht;try(exfalso;first|contradiction|omega)))|((first|refine za_ ht ?_|refine ht ?_ ?_|refine ht.1 ?_ ?_|refine ht ?_)<;>clear ht))
  all_goals first
   | exact True.intro
   | exact ⟨hp0,hp1⟩
   | (intro r h1 h2;clear h1;refine h2 ⟨[],[0,2,3],Nat × Int × List TV,(fun a=>a.1<=b.length/\a.2.2.length<=a.1+1/\((a.2.1=0/\a.2.2.length<=a.1/\(fdG (b.drop p)).1=a.2.2++(fdG (b.drop a.1)).1/\(fdG (b.drop p)).2.1=(fdG (b.drop a.1)).2.1/\p+(fdG (b.drop p)).2.2=a.1+(fdG (b.drop a.1)).2.2)\/(a.2.1 ≠ 0/\(fdG (b.drop p)).2.1=a.2.1/\p+(fdG (b.drop p)).2.2=a.1))),fun a=>[.ptr 0 0,.own 1,.int .i64 (b.length - p)],fun a=>[.box [.imm (.int .u8) b,.int .i64 a.1,.int .i64 sh,.int .i64 od,.int .i64 a.2.1,.bool true],.row false YA a.2.2],fun a=>if a.2.1=0 then b.length - a.1+1 else 0,⟨(p,0,[]),⟨by omega,by simp,.inl ⟨rfl,by simp,rfl,rfl,rfl⟩⟩,rfl,rfl⟩,?_⟩;clear h2)
  rintro ⟨q,e,acc⟩ ⟨hq,hl,hJ⟩
  dsimp only at hq hl hJ
  have hxl:=zbk_ hq (sh:=sh)
  have hsl:=zc2_ (y:=b.drop q)
  have hdl:(b.drop q).length=b.length - q:=List.length_drop
  repeat'(intro t ht;first|(cases t<;>first|(cases ht;done)|(try simp only[zh_]at ht;try(exfalso;first|contradiction|omega)))|((first|refine za_ ht ?_|refine ht ?_ ?_|refine ht.1 ?_ ?_|refine ht ?_)<;>clear ht))
  all_goals (try dsimp only)
  all_goals first
   | exact ⟨Int.natCast_nonneg _,by omega⟩
   | exact ⟨Int.natCast_nonneg _,by omega,by omega,hp3,by assumption⟩
   | (simp only [List.length_cons,List.length_nil];constructor<;>omega)
   | (have h0:¬ e=0:=by assumption
      rcases hJ with hJ | ⟨_,j2,j3⟩
      ·exact absurd hJ.1 h0
      ·have d1:fdL (b.drop p)=[]:=by unfold fdL;rw [j2,if_neg h0]
       have d2:fdE (b.drop p)=e:=j2
       rw [d1,d2,j3];exact ⟨rfl,rfl⟩)
   | skip
  all_goals have h0:e=0:=by assumption
  all_goals subst h0
  all_goals rcases hJ with ⟨_,j1,j2,j3,j4⟩ | hJ
  all_goals first
   | exact absurd rfl hJ.1
   | (have hn:(b.drop q).length=0:=by omega
      rw [hO_ hn] at j2 j3 j4
      have d1:fdL (b.drop p)=acc:=by unfold fdL;rw [j3,j2,if_pos rfl,List.append_nil]
      have d2:fdE (b.drop p)=0:=j3
      dsimp only at j4
      rw [d1,d2,j4,Int.add_zero];exact ⟨rfl,rfl⟩)
   | skip
  all_goals have hn:¬ (b.drop q).length=0:=by omega
  all_goals obtain ⟨k1,k2,k3⟩:=hxl
  all_goals by_cases hx:tbX (b.drop q)=0
  all_goals first
   | (obtain ⟨k4,k5⟩:=k3 hx
      have k6:=Hj_ hx
      rw [zaJ_ hn hx] at j2 j3 j4
      rw [List.drop_drop] at j2 j3 j4
      refine ⟨(q+(fN (b.drop q)).toNat,tbX (b.drop q),acc++[tbV (b.drop q)]),⟨?_,?_,.inl ⟨hx,?_,?_,j3,?_⟩⟩,?_,rfl,?_⟩
      ·dsimp only;omega
      ·simp only [List.length_append,List.length_cons,List.length_nil];omega
      ·simp only [List.length_append,List.length_cons,List.length_nil];omega
      ·dsimp only;rw [j2,List.append_assoc];rfl
      ·dsimp only at j4 ⊢;omega
      ·dsimp only;rw [if_pos hx,if_pos rfl];omega
      ·dsimp only
       rw [k1,k2,k5,<- k4,show ((q:Int)+fN (b.drop q))=((q+(fN (b.drop q)).toNat:Nat):Int) by omega])
   | (rw [zaK_ hn hx] at j2 j3 j4
      refine ⟨(q+(tbS (b.drop q)).toNat,tbX (b.drop q),acc++[((hdT b q).1,(hdT b q).2.1,(hdT b q).2.2.1,(hdT b q).2.2.2.1,(hdT b q).2.2.2.2.1,(hdT b q).2.2.2.2.2.1,(xo_ b q sh).1,())]),⟨?_,?_,.inr ⟨hx,j3,?_⟩⟩,?_,rfl,?_⟩
      ·dsimp only;omega
      ·simp only [List.length_append,List.length_cons,List.length_nil];omega
      ·dsimp only at j4 ⊢;omega
      ·dsimp only;rw [if_neg hx,if_pos rfl];omega
      ·dsimp only
       rw [k1,k2,show ((q:Int)+tbS (b.drop q))=((q+(tbS (b.drop q)).toNat:Nat):Int) by omega])
 ·cases e
def XA_:IR:=
(sq (kr [0] [oD 2 (.mov (.c (.imm YA []))),
oD 3 (.mov (cI 0))])
(sq (.reg [oM 6 0,
oC 7 51 [6,(cI 3332),(cI 3332)],
oM 4 7])
(sq (.reg [oM 8 4,
oC 9 76 [8],
oM 5 9])
(sq (kr [4,5] [oM 10 5,
oM 11 4,
oC 12 53 [11],
oM 2 10,
oM 3 12])
.ret))))
def Xf_:List RD:=[.tmp 2 true (some YA),.tmp 3 true none]
theorem Xn_:zo_ Tryz.prog Tryz.f32 XA_ Xf_=true:=by kernel_rfl
def q3_:List AV->List Obj->Option (Prop × AV)
 | [.imm (.int .u8) b],[]=>some ((b.length<=65528,.tup [.imm YA (fdL b),.int .i64 (fdE b)]))
 | _,_=>none
theorem K4_:ze_ Tryz.prog 32 (RoF q3_).sum:=by
 refine zz_ Tryz.func32 Xn_ (zb_ (s:=RwF q4_) Q6_ (zb_ (s:=RwF jk_) ya_ (zb_ (s:=RoF zA_) zE_ (zf_ _)))) fun args objs p v e=>?_
 unfold q3_ at e
 split at e
 ·rename_i b
  cases e
  refine ⟨rfl,fun hw ho hp=>?_⟩
  change List Int at b
  clear hw ho
  repeat'(intro t ht;first|(cases t<;>first|(cases ht;done)|(try simp only[zh_]at ht;try(exfalso;first|contradiction|omega)))|((first|refine za_ ht ?_|refine ht ?_ ?_|refine ht.1 ?_ ?_|refine ht ?_)<;>clear ht))
  all_goals first
   | exact True.intro
   | omega
   | ((try simp only [zI_,zK_,zn_] at*);omega)
   | exact ⟨by decide,Int.natCast_nonneg _,hp,by decide,rfl⟩
   | exact ⟨rfl,rfl⟩
 ·cases e
def z1 (y:List Int):Bool:=zY_ ((y.drop 4).take 4) && zY_ ((y.drop 14).take 2)
theorem wO_ {y:List Int} {a n m:Nat} (h:a+n<=m):((y.take m).drop a).take n=(y.drop a).take n:=by
 rw [List.drop_take,List.take_take,Nat.min_eq_left (by omega)]
theorem X2_ {y:List Int} {n m:Nat} (h:n<=m):(y.take m).take n=y.take n:=by
 rw [List.take_take,Nat.min_eq_left h]
theorem numZ:∀ (l:List Int) (n:Int),0<=n->(∀ x ∈ l,0<=x)->(l.foldl (fun n c=>n*256+c) n=0 ↔ n=0/\zY_ l=true)
 | [],n,h,_=>⟨fun h=>⟨h,rfl⟩,fun h=>h.1⟩
 | c :: r,n,h,hl=>by
   have hc:=hl c (List.mem_cons_self ..)
   have ih:=numZ r (n*256+c) (by omega) fun x hx=>hl x (List.mem_cons_of_mem _ hx)
   rw [List.foldl_cons,ih]
   unfold zY_
   rw [List.all_cons,Bool.and_eq_true,decide_eq_true_eq]
   constructor
   ·rintro ⟨h1,h2⟩;exact ⟨by omega,by omega,h2⟩
   ·rintro ⟨h1,h2,h3⟩;exact ⟨by omega,h3⟩
theorem gS_ {l:List Int} (hl:∀ x ∈ l,0<=x):zs_ l=0 ↔ zY_ l=true:=by
 have:=numZ l 0 (Int.le_refl _) hl
 unfold zs_;rw [this];simp
def Xu_ (b:List Int):Bool:=zY_ (b.drop (zi b)) && q7_ (b.take (zi b))
theorem zdn_ {b:List Int} (h:b.length=32):Xu_ b=(ctK b 0 && q7_ (ctB b 0) && zY_ (ctR b 0))/\(Xu_ b=true->nmS b=ctB b 0):=by
 have hle:=XC_ (c:=0) b 0 (Int.le_refl _)
 by_cases hi:0<=kf_ 0 b 0
 ·have hz:zi b=(kf_ 0 b 0).toNat:=if_pos hi
  have hlt:zi b < 32:=by omega
  have h0:b.getD (zi b) 0=0:=by
   have:∀ (l:List Int) (i:Int),0<=i->0<=kf_ 0 l i->i<=kf_ 0 l i/\l.getD (kf_ 0 l i - i).toNat 0=0:=by
    intro l
    induction l with
    | nil=>intro i _ h;exact absurd h (by unfold kf_;decide)
    | cons a l ih=>
      intro i h1 h2
      unfold kf_ at h2 ⊢
      split
      ·rename_i ha;rw [Int.sub_self];exact ⟨Int.le_refl _,ha⟩
      ·rename_i ha
       rw [if_neg ha] at h2
       obtain ⟨h3,h4⟩:=ih (i+1) (by omega) h2
       refine ⟨by omega,?_⟩
       have:(kf_ 0 l (i+1) - i).toNat=(kf_ 0 l (i+1) - (i+1)).toNat+1:=by omega
       rw [this,List.getD_cons_succ];exact h4
   have:=(this b 0 (Int.le_refl _) hi).2
   rwa [Int.sub_zero,<- hz] at this
  have hB:ctB b 0=b.take (zi b):=by unfold ctB;rw [if_pos hi,hz]
  have hR:ctR b 0=b.drop (zi b+1):=by unfold ctR;rw [if_pos hi,hz];congr 1;omega
  have hd:zY_ (b.drop (zi b))=zY_ (b.drop (zi b+1)):=by
   rw [zJ_ (show zi b < b.length by omega) 0,h0];unfold zY_;rw [List.all_cons];rfl
  have hK:ctK b 0=true:=decide_eq_true hi
  unfold Xu_ nmS
  rw [hK,hB,hR,hd]
  refine ⟨by simp only [Bool.true_and,Bool.and_comm],fun hh=>?_⟩
  simp only [Bool.and_eq_true] at hh
  rw [if_pos hh.1]
 ·have hz:zi b=32:=by unfold zi;rw [if_neg hi,h]
  have hK:ctK b 0=false:=decide_eq_false hi
  have hn:q7_ (b.take 32)=false:=by unfold q7_;rw [decide_eq_false (by rw [List.length_take];omega)];rfl
  unfold Xu_
  rw [hK,hz,hn]
  refine ⟨by simp,fun hh=>by simp at hh⟩
theorem UR_ {y:List Int} (h:24<=y.length):KV_ [8,8,4,4] y=[zs_ (y.take 8),zs_ ((y.drop 8).take 8),zs_ ((y.drop 16).take 4),zs_ ((y.drop 20).take 4)]/\Q3_ [8,8,4,4] y=0:=by
 have hr:Zr_ [8,8,4,4]=true:=by decide
 have a4:zp_ 4=4:=by decide
 have a8:zp_ 8=8:=by decide
 have t8:Int.toNat 8=8:=rfl
 have t4:Int.toNat 4=4:=rfl
 have p8:(0:Int) < 8:=by decide
 have p4:(0:Int) < 4:=by decide
 unfold KV_ Q3_ qY_
 rw [if_pos hr]
 simp only [qg_,a4,a8,t8,t4,if_pos p8,if_pos p4,List.length_drop,List.drop_drop]
 rw [if_neg (by omega),if_neg (by omega),if_neg (by omega),if_neg (by omega)]
 exact ⟨rfl,rfl⟩
theorem Bc_ {x:List Int} {a:Int} {e:Int} (h:u5E x a=e) (h0:e ≠ 0):u8E x a=e:=by
 have h6:u6E x a=e:=by unfold u6E;rw [h];exact x2_ h0
 have h7:u7E x a=e:=by
  unfold u7E;rw [h6];split
  ·exact Jc_ h0
  ·rfl
 unfold u8E ZH_;rw [h7,if_neg h0]
theorem zbP_ {w p sh od e:Int} {b:List Int} (h:e ≠ 0):zk_ w b p sh od e=e:=by
 unfold zk_;split
 ·unfold ZH_;rw [if_neg h]
 ·exact Jc_ h
def idY (y:List Int):Int:=y.getD 2 0
def nmY (y:List Int):List Int:=(y.take 40).drop 8
def rE (y:List Int):Int:=if zs_ (y.take 2) < 64\/¬ (zs_ (y.take 2)).tmod 8=0\/(y.length:Int) < zs_ (y.take 2) then 3332 else if ¬ zs_ ((y.take 8).drop 3)=0 then 3333 else if idY y=255 then 266 else if Xu_ (nmY y)=false then 3333 else 0
theorem zaM_ {y:List Int} (hb:∀ z ∈ y,0<=z/\z<=255) (h:¬ (y.length:Int) < 64):fE y=rE y/\fN y=zs_ (y.take 2)/\(rE y=0->u3V (y.take 64) y.length=idY y/\ctB (u6N (y.take 64) y.length) 0=nmS (nmY y)/\∀ k,k < 4->uS (y.take 64) y.length k=(KV_ [8,8,4,4] (y.drop 40)).getD k 0):=by
 have hx:(y.take 64).length=64:=by rw [List.length_take];omega
 have hxb:∀ z ∈ y.take 64,0<=z/\z<=255:=fun z hz=>hb z (List.mem_of_mem_take hz)
 obtain ⟨c1,c2,c3,c4,c5⟩:=Gv_ hxb hx
 have e2:(y.take 64).take 2=y.take 2:=X2_ (by decide)
 rw [e2] at c1
 have hfE:fE y=u8E (y.take 64) y.length:=if_neg h
 have hfN:fN y=zs_ (y.take 2):=c1
 rw [hfE,hfN]
 refine and_comm.2 ?_
 rw [and_assoc]
 refine ⟨rfl,?_⟩
 by_cases B:zs_ (y.take 2) < 64\/¬ (zs_ (y.take 2)).tmod 8=0\/(y.length:Int) < zs_ (y.take 2)
 ·have r:rE y=3332:=if_pos B
  have hB:u2B (y.take 64) y.length=true:=zcw_ (by rw [c1];exact B)
  have h2:u2E (y.take 64) y.length=3332:=by unfold u2E;rw [if_pos hB,c5];rfl
  obtain ⟨a1,a2,a3⟩:=vk_ h2
  have h3:u3V (y.take 64) y.length=0:=by rw [a1];exact Hx_ (by decide)
  have h4:u4E (y.take 64) y.length=3332:=by rw [a3,zbP_ (by decide)];unfold ZH_;rw [if_neg (by decide)]
  have h5:u5E (y.take 64) y.length=3332:=by unfold u5E;rw [h3,if_neg (by decide),h4]
  rw [r]
  exact ⟨fun c=>(by cases c),Bc_ h5 (by decide)⟩
 ·have hB:u2B (y.take 64) y.length=false:=by
   refine Hg_ ?_ ?_ ?_
   ·rw [c1];exact fun c=>B (.inl c)
   ·rw [c1];exact Classical.byContradiction fun c=>B (.inr (.inl c))
   ·rw [c1];exact fun c=>B (.inr (.inr c))
  have h2:u2E (y.take 64) y.length=0:=by unfold u2E;rw [hB,c5];rfl
  obtain ⟨a1,a2,a3⟩:=vk_ h2
  have p1:zg_ 2 (y.take 64) 0 0=2:=c4
  rw [p1] at a1 a2 a3
  obtain ⟨n1,n2,n3⟩:=Y5_ (w:=1) (p:=2) (sh:=3332) (od:=3333) (b:=y.take 64) (by decide) (by decide) (by decide) (by omega)
  have hid:u3V (y.take 64) y.length=idY y:=by
   rw [a1,n1]
   show zs_ (((y.take 64).drop 2).take 1)=_
   rw [wO_ (by decide)]
   unfold idY
   rw [zJ_ (show 2 < y.length by omega) 0]
   unfold zs_;simp
  rw [n2,n3] at a2 a3
  obtain ⟨z1,z2⟩:=Gw_ (k:=5) (p:=3) (sh:=3332) (od:=3333) (b:=y.take 64) (by decide) (by decide) (by decide) (by omega)
  have e5:((y.take 64).drop (3:Int).toNat).take (5:Int).toNat=(y.take 8).drop 3:=by
   show ((y.take 64).drop 3).take 5=_
   rw [wO_ (by decide),List.drop_take]
  rw [e5] at z1 z2
  have a3':u4E (y.take 64) y.length=ZH_ [0 - 5] (y.take 64) 3 3332 3333 0:=a3
  have a2':u4P (y.take 64) y.length=ZV_ [0 - 5] (y.take 64) 3 0:=a2
  rw [z1] at a3'
  rw [z2] at a2'
  have hz0:zs_ ((y.take 8).drop 3)=0 ↔ zY_ ((y.take 8).drop 3)=true:=gS_ fun z hz=>(hb z (List.mem_of_mem_take (List.mem_of_mem_drop hz))).1
  have r1:rE y=if ¬ zs_ ((y.take 8).drop 3)=0 then 3333 else if idY y=255 then 266 else if Xu_ (nmY y)=false then 3333 else 0:=if_neg B
  by_cases Z:zY_ ((y.take 8).drop 3)=true
  ·rw [if_pos Z] at a3' a2'
   rw [if_neg (not_not_intro (hz0.2 Z))] at r1
   have hid2:0<=idY y/\idY y<=255:=hb _ (zv_ (show 2 < y.length by omega) 0)
   by_cases I:idY y=255
   ·rw [if_pos I] at r1
    have h5:u5E (y.take 64) y.length=266:=by unfold u5E;rw [hid,I,if_pos (by decide),a3'];rfl
    rw [r1]
    exact ⟨fun c=>(by cases c),Bc_ h5 (by decide)⟩
   ·rw [if_neg I] at r1
    have h5:u5E (y.take 64) y.length=0:=by unfold u5E;rw [hid,if_neg (by omega),a3']
    have t1:Zj_ 32 (y.take 64) 8 3332 0=0:=by unfold Zj_;rw [if_neg (by decide),if_neg (by omega)]
    have h6:u6N (y.take 64) y.length=nmY y:=by
     unfold u6N;rw [a2',h5]
     show zm_ 32 (y.take 64) 8 3332 0=_
     unfold zm_;rw [if_pos t1]
     show ((y.take 64).take 40).drop 8=_
     rw [X2_ (by decide)];rfl
    have h6p:u6P (y.take 64) y.length=40:=by
     unfold u6P;rw [a2',h5]
     show q6_ 32 (y.take 64) 8 3332 0=_
     unfold q6_;rw [if_pos t1];rfl
    have h6e:u6E (y.take 64) y.length=0:=by unfold u6E;rw [a2',h5];exact t1
    have hbl:(nmY y).length=32:=by unfold nmY;rw [List.length_drop,List.length_take];omega
    obtain ⟨m1,m2⟩:=zdn_ hbl
    have hO:u7O (y.take 64) y.length=!Xu_ (nmY y):=by
     unfold u7O;rw [h6,m1]
     have tz:=H6_ (ctR (nmY y) 0)
     rw [<- tz]
     cases ctK (nmY y) 0<;>cases q7_ (ctB (nmY y) 0)<;>simp [Nat.pos_iff_ne_zero]
    cases hn:Xu_ (nmY y) with
    | false=>
      rw [hn] at hO r1
      have h7:u7E (y.take 64) y.length=3333:=by unfold u7E;rw [hO,h6e];rfl
      have h8:u8E (y.take 64) y.length=3333:=by unfold u8E ZH_;rw [h7];rfl
      rw [r1,h8];exact ⟨fun c=>(by cases c),rfl⟩
    | true=>
      rw [hn] at hO r1
      have h7:u7E (y.take 64) y.length=0:=by unfold u7E;rw [hO,h6e];rfl
      obtain ⟨g1,g2⟩:=UR_ (y:=(y.take 64).drop 40) (by rw [List.length_drop];omega)
      obtain ⟨g3,g4⟩:=UR_ (y:=y.drop 40) (by rw [List.length_drop];omega)
      have h8:u8E (y.take 64) y.length=0:=by
       unfold u8E ZH_;rw [h7,h6p,if_pos rfl]
       have g2':Q3_ [8,8,4,4] ((y.take 64).drop (40:Int).toNat)=0:=g2
       rw [g2'];rfl
      have hL:u8L (y.take 64) y.length=KV_ [8,8,4,4] (y.drop 40)++[0,0,0,0]:=by
       unfold u8L wK_;rw [h7,h6p,if_pos rfl]
       show KV_ [8,8,4,4] ((y.take 64).drop 40)++_=_
       rw [g1,g3]
       have q:(y.take 64).drop 40=(y.drop 40).take 24:=by rw [List.drop_take]
       rw [q,X2_ (by decide),wO_ (by decide),wO_ (by decide),wO_ (by decide)]
      rw [r1,h8]
      refine ⟨fun _=>⟨hid,?_,fun k hk=>?_⟩,rfl⟩
      ·rw [h6];exact (m2 hn).symm
      ·unfold uS;rw [hL,g3]
       have:k=0\/k=1\/k=2\/k=3:=by omega
       rcases this with rfl | rfl | rfl | rfl<;>rfl
  ·rw [if_neg Z] at a3'
   rw [if_pos fun c=>Z (hz0.1 c)] at r1
   have h5:u5E (y.take 64) y.length=3333:=by
    unfold u5E;rw [a3'];split<;>rfl
   rw [r1]
   exact ⟨fun c=>(by cases c),Bc_ h5 (by decide)⟩
theorem zcN_:∀ (n:Nat) (acc:List FV) (e:Int) (y:List Int),y.length<=n->e ≠ 0->(fsG acc e y).2=e
 | n,acc,e,y,hn,he=>by
   by_cases h0:y.length=0
   ·rw [xK_ h0]
   ·by_cases h1:tlK y=0
    ·have:=X1_ h1
     rw [uA_ h1,Jc_ he]
     cases n with
     | zero=>omega
     | succ n=>exact zcN_ n _ e _ (by rw [List.length_drop];omega) he
    ·rw [UT_ h0 h1];exact Jc_ he
theorem zdY_ {y:List Int} (h:fE y=0):tbX y=(fF y).2:=by unfold tbX;rw [if_pos h]
theorem rE_n {y:List Int} (h:zs_ (y.take 2) < 64\/¬ (zs_ (y.take 2)).tmod 8=0\/(y.length:Int) < zs_ (y.take 2)):rE y=3332:=if_pos h
theorem rE_z {y:List Int} (h:¬ (zs_ (y.take 2) < 64\/¬ (zs_ (y.take 2)).tmod 8=0\/(y.length:Int) < zs_ (y.take 2))):rE y=if ¬ zs_ ((y.take 8).drop 3)=0 then 3333 else if idY y=255 then 266 else if Xu_ (nmY y)=false then 3333 else 0:=if_neg h
structure SrX where
 r:List Int
structure SrM where
 r:List Int
 m:Nat
structure SrF where
 r:List Int
 m:Nat
 f:Bool
structure SrI where
 s:Int
structure SrP where
 j:Int
 h:Int
 s:Int
theorem Kw_.mono {l:List Int} {a b c:Nat} (h:Kw_ l a b) (hc:c<=b):Kw_ l a c:=fun i j h1 h2 h3=>h i j h1 h2 (by omega)
def yH_:IR:=
(sq (kr [0] [oD 2 (.mov cF)])
(sq (.reg [oM 3 0,
oM 4 0,
oB 5 .neq 3 4,
oM 2 5])
.ret))
def yk_:List RD:=[.tmp 2 true none]
theorem yv_:zo_ Tryz.prog Tryz.f215 yH_ yk_=true:=by kernel_rfl
def KA_:List AV->List Obj->Option (Prop × AV)
 | [.int .i64 x],[]=>some ((True,.bool false))
 | _,_=>none
theorem x8_:ze_ Tryz.prog 215 (RoF KA_).sum:=by
 refine zz_ Tryz.func215 yv_ (zf_ _) fun args objs p v e=>?_
 unfold KA_ at e
 split at e
 ·rename_i x
  cases e
  refine ⟨rfl,fun hw ho hp=>?_⟩
  repeat'(intro t ht;first|(cases t<;>first|(cases ht;done)|(try simp only[zh_]at ht;try(exfalso;first|contradiction|omega)))|((first|refine za_ ht ?_|refine ht ?_ ?_|refine ht.1 ?_ ?_|refine ht ?_)<;>clear ht))
  all_goals first
   | exact True.intro
   | exact ⟨rfl,rfl⟩
   | (refine ⟨congrArg AV.bool ?_,rfl⟩;simp;done)
 ·cases e
def YT_:IR:=
(sq (kr [0,1] [oD 4 (.mov cF)])
(sq (kr [0,1] [oM 5 0,
oC 6 215 [5],
oM 7 6,
oT 7 8 (.mov 1),
oT 7 9 (.call false (.f 215) [8]),
oT 7 10 (.un .not 9),
oP 11 7 10 cF,
oM 12 11,
oF 12 13 (.mov 0),
oF 12 14 (.mov 1),
oF 12 15 (.bin .lss 13 14),
oP 16 12 cT 15,
oM 4 16])
.ret))
def YB_:List RD:=[.tmp 4 true none]
theorem YL_:zo_ Tryz.prog Tryz.f185 YT_ YB_=true:=by kernel_rfl
def Zg_:List AV->List Obj->Option (Prop × AV)
 | [.int .i64 x,.int .i64 y],[]=>some ((True,.bool (decide (x < y))))
 | _,_=>none
theorem Zq_:ze_ Tryz.prog 185 (RoF Zg_).sum:=by
 refine zz_ Tryz.func185 YL_ (zb_ (s:=RoF KA_) x8_ (zf_ _)) fun args objs p v e=>?_
 unfold Zg_ at e
 split at e
 ·rename_i x y
  cases e
  refine ⟨rfl,fun hw ho hp=>?_⟩
  repeat'(intro t ht;first|(cases t<;>first|(cases ht;done)|(try simp only[zh_]at ht;try(exfalso;first|contradiction|omega)))|((first|refine za_ ht ?_|refine ht ?_ ?_|refine ht.1 ?_ ?_|refine ht ?_)<;>clear ht))
  all_goals first
   | exact True.intro
   | exact ⟨rfl,rfl⟩
 ·cases e
def QK_:IR:=
(sq (kr [0,1,2] [oM 8 1,
oB 9 .add 8 (cI 1),
oM 6 9])
(.block 0
(.loop
(sq (sq (kr [0,1,2,6] [oM 10 6,
oM 11 2,
oB 12 .lss 10 11])
(.cond 12
.skip
(.exit 0)))
(sq (.block 1
(sq (.reg [oM 15 6,
oM 7 15])
(.block 2
(.loop
(sq (sq (kd [0,1,2,6,7] [(oM 16 7,[]),
(oM 17 1,[0]),
(oB 18 .gtr 16 17,[]),
(oM 19 18,[]),
(oT 19 20 (.mov 0),[]),
(oT 19 21 (.mov 7),[0]),
(oT 19 22 (.indexSl 1 20 21),[]),
(oT 19 23 (.load none 22),[]),
(oT 19 24 (.mov 0),[0,0,0,0]),
(oT 19 25 (.mov 7),[0,0,0,0,0]),
(oT 19 26 (.bin .sub 25 (cI 1)),[1,0,0,0,0]),
(oT 19 27 (.indexSl 1 24 26),[3,0,0,0]),
(oT 19 28 (.load none 27),[4,0,0,0]),
(oT 19 29 (.call false (.f 185) [23,28]),[]),
(oP 30 19 29 cF,[])])
(.cond 30
.skip
(.exit 2)))
(sq (.block 3
(kd [0,1,2,6,7] [(oM 33 0,[]),
(oM 34 7,[0]),
(oM 35 0,[0,0]),
(oM 36 7,[0,0,0]),
(oB 37 .sub 36 (cI 1),[1,0,0]),
(oM 38 0,[0,0,0,0,0]),
(oM 39 7,[0,0,0,0,0,0]),
(oB 40 .sub 39 (cI 1),[1,0,0,0,0,0]),
(oI 41 1 38 40,[3,0,0,0,0]),
(oL 42 41,[4,0,0,0,0]),
(oM 43 0,[0,0,0,0,0,0,0,0,0,0]),
(oM 44 7,[0,0,0,0,0,0,0,0,0,0,0]),
(oI 45 1 43 44,[2,0,0,0,0,0,0,0,0,0]),
(oL 46 45,[3,0,0,0,0,0,0,0,0,0]),
(oI 47 1 33 34,[9,0,0]),
(oS 1 47 42,[10,0,0]),
(oI 48 1 35 37,[]),
(oS 1 48 46,[])]))
(kr [0,1,2,6,7] [oM 31 7,
oB 32 .sub 31 (cI 1),
oM 7 32])))))))
(kr [0,1,2,6] [oM 13 6,
oB 14 .add 13 (cI 1),
oM 6 14]))))))
def QF_:List RD:=[]
theorem QH_:zo_ Tryz.prog Tryz.f179 QK_ QF_=true:=by kernel_rfl
def z7_:List AV->List Obj->Option (Prop × AV × List Obj)
 | [.own 0,.int .i64 a,.int .i64 b],[.row false (.int .i64) l]=>some ((0<=a/\a<=b/\b<=l.length/\l.length<=1000000,.tup [],[.row false (.int .i64) (srt l a.toNat b.toNat)]))
 | _,_=>none
theorem Qi_:ze_ Tryz.prog 179 (RwF z7_).sum:=by
 refine qh_ Tryz.func179 QH_ (zb_ (s:=RoF Zg_) Zq_ (zf_ _)) fun args objs p v o e=>?_
 unfold z7_ at e
 split at e
 ·rename_i a b l
  cases e
  refine ⟨rfl,fun hw ho hp=>?_⟩
  change List Int at l
  clear hw ho
  change List Int at l
  obtain ⟨h1,h2,h3,h4⟩:=hp
  obtain ⟨a,rfl⟩:=Int.eq_ofNat_of_zero_le h1
  obtain ⟨b,rfl⟩:=Int.eq_ofNat_of_zero_le (show 0<=b by omega)
  rw [Int.toNat_natCast,Int.toNat_natCast]
  have hab:a<=b:=by omega
  have hbl:b<=l.length:=by omega
  repeat'(intro t ht;first|(cases t<;>first|(cases ht;done)|(try simp only[zh_]at ht;try(exfalso;first|contradiction|omega)))|((first|refine za_ ht ?_|refine ht ?_ ?_|refine ht.1 ?_ ?_|refine ht ?_)<;>clear ht))
  all_goals first
   | exact True.intro
   | omega
   | ((try simp only [zI_,zK_,zn_] at*);omega)
   | (intro r h1 h2;clear h1;refine h2 ⟨[],[0,1,2,6],Nat × List Int,(fun s=>a+1<=s.1/\(s.1<=b\/s.1=a+1)/\Rear l a b s.2/\Kw_ s.2 a s.1),fun s=>[.own 0,.int .i64 a,.int .i64 b,.int .i64 s.1],fun s=>[.row false (.int .i64) s.2],fun s=>b+1 - s.1,⟨(a+1,l),⟨Nat.le_refl _,.inr rfl,Rear.refl _ _ _,fun p q _ _ _=>by omega⟩,rfl,rfl⟩,?_⟩;clear h2)
  rintro ⟨i,u⟩ ⟨hi1,hi2,hR,hS⟩
  dsimp only at hi1 hi2 hR hS
  have hl:=hR.len
  repeat'(intro t ht;first|(cases t<;>first|(cases ht;done)|(try simp only[zh_]at ht;try(exfalso;first|contradiction|omega)))|((first|refine za_ ht ?_|refine ht ?_ ?_|refine ht.1 ?_ ?_|refine ht ?_)<;>clear ht))
  all_goals first
   | exact True.intro
   | omega
   | ((try simp only [zI_,zK_,zn_] at*);omega)
   | (intro r h1 h2;clear h1;refine h2 ⟨[],[0,1,2,6,7],Nat × List Int,(fun s=>InsJ l s.2 a b i s.1),fun s=>[.own 0,.int .i64 a,.int .i64 b,.int .i64 i,.int .i64 s.1],fun s=>[.row false (.int .i64) s.2],fun s=>s.1,⟨(i,u),uw_ hR hS (by omega) (by omega),rfl,rfl⟩,?_⟩;clear h2)
   | (have hge:b<=i:=by omega
      have e:=xq_ hab hbl hR (hS.mono hge)
      rw [e];exact ⟨rfl,rfl⟩)
  rintro ⟨j,q⟩ hJ
  dsimp only at hJ
  have hq:=hJ.R.len
  have hj1:=hJ.aj
  have hj2:=hJ.ji
  have hj3:=hJ.ib
  have e0:((j:Int)).toNat=j:=Int.toNat_natCast j
  have e1:((j:Int) - 1).toNat=j - 1:=by omega
  repeat'(intro t ht;first|(cases t<;>first|(cases ht;done)|(try simp only[zh_]at ht;try(exfalso;first|contradiction|omega)))|((first|refine za_ ht ?_|refine ht ?_ ?_|refine ht.1 ?_ ?_|refine ht ?_)<;>clear ht))
  all_goals (try simp only [e0,e1] at*)
  all_goals first
   | exact True.intro
   | omega
   | ((try simp only [zI_,zK_,zn_] at*);omega)
   | (constructor<;>omega)
   | (rw [List.length_set];omega)
   | (refine ⟨(j - 1,_),Gf_ hbl hJ (by omega) (by assumption),?_,?_,?_⟩
      ·dsimp only;omega
      ·rw [show ((j - 1:Nat):Int)=(j:Int) - 1 by omega]
      ·rfl)
   | (have hs:=v0_ hJ (by first | exact .inr (by assumption) | exact .inl (by omega))
      refine ⟨(i+1,q),⟨?_,?_,hJ.R,hs⟩,?_,?_,?_⟩
      ·dsimp only;omega
      ·dsimp only;omega
      ·dsimp only;omega
      ·rfl
      ·rfl)
 ·cases e
theorem hm_1 {u:List Int} {f hi x:Nat} (h:¬ 2*x+2 < hi\/¬ u.getD (f+(2*x+1)) 0 < u.getD (f+(2*x+2)) 0):∀ c,(c=2*x+1\/c=2*x+2)->c < hi->u.getD (f+c) 0<=u.getD (f+(2*x+1)) 0:=fun c hc hlt=>by
 rcases hc with rfl | rfl
 ·exact Int.le_refl _
 ·rcases h with h | h
  ·omega
  ·omega
theorem hm_2 {u:List Int} {f hi x:Nat} (h:u.getD (f+(2*x+1)) 0 < u.getD (f+(2*x+2)) 0):∀ c,(c=2*x+1\/c=2*x+2)->c < hi->u.getD (f+c) 0<=u.getD (f+(2*x+2)) 0:=fun c hc hlt=>by
 rcases hc with rfl | rfl
 ·omega
 ·exact Int.le_refl _
theorem zb5_ {u:List Int} {a i:Nat} (hb:a+i < u.length) (h:Hp u a 0 (i+1)):Hp (swp u a (a+i)) a 1 i:=fun j c h1 h2 h3=>by
 have g:=KK_ u (i:=a) (j:=a+i) (by omega) hb
 rw [g (a+c),g (a+j),if_neg (by omega),if_neg (by omega),if_neg (by omega),if_neg (by omega)]
 exact h j c (by omega) h2 (by omega)
theorem hc_ {l u:List Int} {a b k:Nat} (hR:Rear l a b u) (hH:Hp u a k (b - a)) (hk:k=0) (hab:a<=b):PopJ l u a b (b - a):=by subst hk;exact bk_ hR hH hab
theorem zdw_ (n:Nat):((n:Int) - 1).tdiv 2=(((n - 1) / 2+1:Nat):Int) - 1:=by
 cases n with
 | zero=>rfl
 | succ m=>rw [Int.tdiv_eq_ediv_of_nonneg (by omega)];omega
def Ka_:IR:=
(sq (kr [0,1,2,3] [oM 10 1,
oM 8 10])
(.block 0
(.loop
(.block 1
(sq (kr [0,2,3,8] [oM 11 8,
oB 12 .mul (cI 2) 11,
oB 13 .add 12 (cI 1),
oM 9 13])
(sq (sq (.reg [oM 14 9,
oM 15 2,
oB 16 .geq 14 15])
(.cond 16
(.exit 0)
.skip))
(sq (sq (kd [0,2,3,8,9] [(oM 17 9,[]),
(oB 18 .add 17 (cI 1),[]),
(oM 19 2,[0,0]),
(oB 20 .lss 18 19,[]),
(oM 21 20,[]),
(oT 21 22 (.mov 0),[]),
(oT 21 23 (.mov 3),[0]),
(oT 21 24 (.mov 9),[0,0]),
(oT 21 25 (.bin .add 23 24),[2]),
(oT 21 26 (.indexSl 1 22 25),[]),
(oT 21 27 (.load none 26),[]),
(oT 21 28 (.mov 0),[0,0,0,0,0,0]),
(oT 21 29 (.mov 3),[0,0,0,0,0,0,0]),
(oT 21 30 (.mov 9),[0,0,0,0,0,0,0,0]),
(oT 21 31 (.bin .add 29 30),[2,0,0,0,0,0,0]),
(oT 21 32 (.bin .add 31 (cI 1)),[3,0,0,0,0,0,0]),
(oT 21 33 (.indexSl 1 28 32),[5,0,0,0,0,0]),
(oT 21 34 (.load none 33),[6,0,0,0,0,0]),
(oT 21 35 (.call false (.f 185) [27,34]),[]),
(oP 36 21 35 cF,[])])
(.cond 36
(kr [0,2,3,8,9] [oM 37 9,
oB 38 .add 37 (cI 1),
oM 9 38])
.skip))
(sq (sq (kd [0,2,3,8,9] [(oM 39 0,[]),
(oM 40 3,[0]),
(oM 41 8,[0,0]),
(oB 42 .add 40 41,[2]),
(oI 43 1 39 42,[]),
(oL 44 43,[]),
(oM 45 0,[0,0,0,0,0,0]),
(oM 46 3,[0,0,0,0,0,0,0]),
(oM 47 9,[0,0,0,0,0,0,0,0]),
(oB 48 .add 46 47,[2,0,0,0,0,0,0]),
(oI 49 1 45 48,[4,0,0,0,0,0]),
(oL 50 49,[5,0,0,0,0,0]),
(oC 51 185 [44,50],[]),
(oD 52 (.un .not 51),[])])
(.cond 52
.ret
.skip))
(sq (kd [0,2,3,8,9] [(oM 53 0,[]),
(oM 54 3,[0]),
(oM 55 8,[0,0]),
(oB 56 .add 54 55,[2]),
(oM 57 0,[0,0,0,0]),
(oM 58 3,[0,0,0,0,0]),
(oM 59 9,[0,0,0,0,0,0]),
(oB 60 .add 58 59,[2,0,0,0,0]),
(oM 61 0,[0,0,0,0,0,0,0,0]),
(oM 62 3,[0,0,0,0,0,0,0,0,0]),
(oM 63 9,[0,0,0,0,0,0,0,0,0,0]),
(oB 64 .add 62 63,[2,0,0,0,0,0,0,0,0]),
(oI 65 1 61 64,[4,0,0,0,0,0,0,0]),
(oL 66 65,[5,0,0,0,0,0,0,0]),
(oM 67 0,[0,0,0,0,0,0,0,0,0,0,0,0,0,0]),
(oM 68 3,[0,0,0,0,0,0,0,0,0,0,0,0,0,0,0]),
(oM 69 8,[0,0,0,0,0,0,0,0,0,0,0,0,0,0,0,0]),
(oB 70 .add 68 69,[2,0,0,0,0,0,0,0,0,0,0,0,0,0,0]),
(oI 71 1 67 70,[4,0,0,0,0,0,0,0,0,0,0,0,0,0]),
(oL 72 71,[5,0,0,0,0,0,0,0,0,0,0,0,0,0]),
(oI 73 1 53 56,[12,0,0,0]),
(oS 1 73 66,[13,0,0,0]),
(oI 74 1 57 60,[]),
(oS 1 74 72,[])])
(kr [0,2,3,9] [oM 75 9,
oM 8 75]))))))))))
def k2_:List RD:=[]
theorem k5_:zo_ Tryz.prog Tryz.f210 Ka_ k2_=true:=by kernel_rfl
def ZI_:List AV->List Obj->Option NdR
 | [.own 0,.int .i64 lo,.int .i64 hi,.int .i64 f],[.row false (.int .i64) l]=>some (⟨0<=lo/\lo<=hi/\0<=f/\0<=hi/\f+hi<=l.length/\l.length<=1000000/\Hp l f.toNat (lo.toNat+1) hi.toNat,SrX,fun x=>Rear l (f.toNat+lo.toNat) (f.toNat+hi.toNat) x.r/\Hp x.r f.toNat lo.toNat hi.toNat,fun _=>.tup [],fun x=>[.row false (.int .i64) x.r]⟩)
 | _,_=>none
theorem kB_:Ji_ Tryz.prog 210 (NdF ZI_):=by
 refine y8_ Tryz.func210 k5_ (zb_ (s:=RoF Zg_) Zq_ (zf_ _)) fun args objs r e=>?_
 unfold ZI_ at e
 split at e
 ·rename_i lo hi f l
  cases e
  refine ⟨rfl,fun hw ho hp=>?_⟩
  change List Int at l
  clear hw ho
  change List Int at l
  obtain ⟨g1,g0,g2,g3,g4,g5,g6⟩:=hp
  obtain ⟨lo,rfl⟩:=Int.eq_ofNat_of_zero_le g1
  obtain ⟨f,rfl⟩:=Int.eq_ofNat_of_zero_le g2
  obtain ⟨hi,rfl⟩:=Int.eq_ofNat_of_zero_le g3
  simp only [Int.toNat_natCast] at g6
  have hb:f+hi<=l.length:=by omega
  repeat'(intro t ht;first|(cases t<;>first|(cases ht;done)|(try simp only[zh_]at ht;try(exfalso;first|contradiction|omega)))|((first|refine za_ ht ?_|refine ht ?_ ?_|refine ht.1 ?_ ?_|refine ht ?_)<;>clear ht))
  all_goals first
   | exact True.intro
   | (intro r h1 h2;clear h1;refine h2 ⟨[],[0,2,3,8],Nat × List Int,(fun s=>SiftJ l s.2 f lo hi s.1/\s.1<=lo+hi),fun s=>[.own 0,.int .i64 hi,.int .i64 f,.int .i64 s.1],fun s=>[.row false (.int .i64) s.2],fun s=>lo+hi+1 - s.1,⟨(lo,l),⟨G5_ g6,by dsimp only;omega⟩,rfl,rfl⟩,?_⟩;clear h2)
  rintro ⟨x,u⟩ ⟨hJ,hx⟩
  dsimp only at hJ hx
  have hl:=hJ.R.len
  have hlx:=hJ.lx
  have e1:((f:Int)+(2*(x:Int)+1)).toNat=f+(2*x+1):=by omega
  have e2:((f:Int)+(2*(x:Int)+1)+1).toNat=f+(2*x+2):=by omega
  have e3:((f:Int)+(2*(x:Int)+1+1)).toNat=f+(2*x+2):=by omega
  have e4:((f:Int)+(x:Int)).toNat=f+x:=by omega
  repeat'(intro t ht;first|(cases t<;>first|(cases ht;done)|(try simp only[zh_]at ht;try(exfalso;first|contradiction|omega)))|((first|refine za_ ht ?_|refine ht ?_ ?_|refine ht.1 ?_ ?_|refine ht ?_)<;>clear ht))
  all_goals (try simp only [e1,e2,e3,e4] at*)
  all_goals first
   | exact True.intro
   | omega
   | (constructor<;>omega)
   | (rw [List.length_set];omega)
   | (rw [List.length_set];constructor<;>omega)
   | (simp only [zn_];omega)
   | (refine ⟨⟨u⟩,⟨hJ.R,bd_ hJ (by omega)⟩,?_,?_⟩<;>first | rfl | exact True.intro)
   | (refine ⟨⟨u⟩,⟨hJ.R,ug_ (c0:=2*x+1) hJ (hm_1 (by first | exact .inl (by omega) | exact .inr (by assumption))) (by assumption)⟩,?_,?_⟩<;>first | rfl | exact True.intro)
   | (refine ⟨⟨u⟩,⟨hJ.R,ug_ (c0:=2*x+2) hJ (hm_2 (by assumption)) (by assumption)⟩,?_,?_⟩<;>first | rfl | exact True.intro)
   | (refine ⟨(2*x+1,swp u (f+x) (f+(2*x+1))),⟨uh_ hb hJ (.inl rfl) (by omega) (hm_1 (by first | exact .inl (by omega) | exact .inr (by assumption))) (by assumption),?_⟩,?_,?_,?_⟩
      ·show 2*x+1<=lo+hi;omega
      ·show lo+hi+1 - (2*x+1) < lo+hi+1 - x;omega
      ·show [AV.own 0,AV.int .i64 hi,AV.int .i64 f,AV.int .i64 (2*(x:Int)+1)]=[AV.own 0,AV.int .i64 hi,AV.int .i64 f,AV.int .i64 ((2*x+1:Nat):Int)]
       rw [show ((2*x+1:Nat):Int)=2*(x:Int)+1 by omega]
      ·rfl)
   | (refine ⟨(2*x+2,swp u (f+x) (f+(2*x+2))),⟨uh_ hb hJ (.inr rfl) (by omega) (hm_2 (by assumption)) (by assumption),?_⟩,?_,?_,?_⟩
      ·show 2*x+2<=lo+hi;omega
      ·show lo+hi+1 - (2*x+2) < lo+hi+1 - x;omega
      ·show [AV.own 0,AV.int .i64 hi,AV.int .i64 f,AV.int .i64 (2*(x:Int)+1+1)]=[AV.own 0,AV.int .i64 hi,AV.int .i64 f,AV.int .i64 ((2*x+2:Nat):Int)]
       rw [show ((2*x+2:Nat):Int)=2*(x:Int)+1+1 by omega]
      ·rfl)
 ·cases e
def Kb_:IR:=
(sq (kr [0,1,2] [oM 11 1,
oM 6 11])
(sq (.reg [oD 7 (.mov (cI 0))])
(sq (.reg [oM 12 2,
oM 13 1,
oB 14 .sub 12 13,
oM 8 14])
(sq (sq (kr [0,6,7,8] [oM 15 8,
oB 16 .sub 15 (cI 1),
oB 17 .quo 16 (cI 2),
oM 9 17])
(.block 0
(.loop
(sq (sq (kr [0,6,7,8,9] [oM 18 9,
oB 19 .geq 18 (cI 0)])
(.cond 19
.skip
(.exit 0)))
(sq (.block 1
(kr [0,6,7,8,9] [oM 22 0,
oM 23 9,
oM 24 8,
oM 25 6,
oD 26 (.calln (.f 210) [22,23,24,25])]))
(kr [0,6,7,8,9] [oM 20 9,
oB 21 .sub 20 (cI 1),
oM 9 21]))))))
(sq (kr [0,6,7,8] [oM 27 8,
oB 28 .sub 27 (cI 1),
oM 10 28])
(.block 2
(.loop
(sq (sq (kr [0,6,7,10] [oM 29 10,
oB 30 .geq 29 (cI 0)])
(.cond 30
.skip
(.exit 2)))
(sq (.block 3
(sq (kd [0,6,7,10] [(oM 33 0,[]),
(oM 34 6,[0]),
(oM 35 0,[0,0]),
(oM 36 6,[0,0,0]),
(oM 37 10,[0,0,0,0]),
(oB 38 .add 36 37,[2,0,0]),
(oM 39 0,[0,0,0,0,0,0]),
(oM 40 6,[0,0,0,0,0,0,0]),
(oM 41 10,[0,0,0,0,0,0,0,0]),
(oB 42 .add 40 41,[2,0,0,0,0,0,0]),
(oI 43 1 39 42,[4,0,0,0,0,0]),
(oL 44 43,[5,0,0,0,0,0]),
(oM 45 0,[0,0,0,0,0,0,0,0,0,0,0,0]),
(oM 46 6,[0,0,0,0,0,0,0,0,0,0,0,0,0]),
(oI 47 1 45 46,[2,0,0,0,0,0,0,0,0,0,0,0]),
(oL 48 47,[3,0,0,0,0,0,0,0,0,0,0,0]),
(oI 49 1 33 34,[10,0,0,0]),
(oS 1 49 44,[11,0,0,0]),
(oI 50 1 35 38,[]),
(oS 1 50 48,[])])
(kr [0,6,7,10] [oM 51 0,
oM 52 7,
oM 53 10,
oM 54 6,
oD 55 (.calln (.f 210) [51,52,53,54])])))
(kr [0,6,7,10] [oM 31 10,
oB 32 .sub 31 (cI 1),
oM 10 32]))))))))))
def k3_:List RD:=[]
theorem k6_:zo_ Tryz.prog Tryz.f180 Kb_ k3_=true:=by kernel_rfl
def ZJ_:List AV->List Obj->Option (Prop × AV × List Obj)
 | [.own 0,.int .i64 a,.int .i64 b],[.row false (.int .i64) l]=>some ((0<=a/\a<=b/\b<=l.length/\l.length<=1000000,.tup [],[.row false (.int .i64) (srt l a.toNat b.toNat)]))
 | _,_=>none
theorem kC_:ze_ Tryz.prog 180 (RwF ZJ_).sum:=by
 refine qh_ Tryz.func180 k6_ (zb_ (s:=NdF ZI_) kB_ (zf_ _)) fun args objs p v o e=>?_
 unfold ZJ_ at e
 split at e
 ·rename_i a b l
  cases e
  refine ⟨rfl,fun hw ho hp=>?_⟩
  change List Int at l
  clear hw ho
  change List Int at l
  obtain ⟨g1,g2,g3,g4⟩:=hp
  obtain ⟨a,rfl⟩:=Int.eq_ofNat_of_zero_le g1
  obtain ⟨b,rfl⟩:=Int.eq_ofNat_of_zero_le (show 0<=b by omega)
  rw [Int.toNat_natCast,Int.toNat_natCast]
  have hab:a<=b:=by omega
  have hbl:b<=l.length:=by omega
  have hh:((b:Int) - (a:Int))=((b - a:Nat):Int):=by omega
  have hq9:((b:Int) - (a:Int) - 1).tdiv 2=(((b - a - 1) / 2+1:Nat):Int) - 1:=by rw [hh];exact zdw_ _
  repeat'(intro t ht;first|(cases t<;>first|(cases ht;done)|(try simp only[zh_]at ht;try(exfalso;first|contradiction|omega)))|((first|refine za_ ht ?_|refine ht ?_ ?_|refine ht.1 ?_ ?_|refine ht ?_)<;>clear ht))
  all_goals first
   | exact True.intro
   | decide
   | (simp only [zn_];omega)
   | (intro r h1 h2;clear h1;refine h2 ⟨[],[0,6,7,8,9],Nat × List Int,(fun s=>s.1<=(b - a - 1) / 2+1/\Rear l a b s.2/\Hp s.2 a s.1 (b - a)),fun s=>[.own 0,.int .i64 a,.int .i64 0,.int .i64 ((b:Int) - (a:Int)),.int .i64 ((s.1:Int) - 1)],fun s=>[.row false (.int .i64) s.2],fun s=>s.1,⟨((b - a - 1) / 2+1,l),⟨Nat.le_refl _,Rear.refl _ _ _,zat_ (Nat.le_refl _)⟩,(by rw [hq9]),rfl⟩,?_⟩;clear h2)
  rintro ⟨k,u⟩ ⟨hk,hR,hH⟩
  dsimp only at hk hR hH
  have hl:=hR.len
  have hb9:((b:Int) - (a:Int)).toNat=b - a:=by omega
  repeat'(intro t ht;first|(cases t<;>first|(cases ht;done)|(try simp only[zh_]at ht;try(exfalso;first|contradiction|omega)))|((first|refine za_ ht ?_|refine ht ?_ ?_|refine ht.1 ?_ ?_|refine ht ?_)<;>clear ht))
  all_goals first
   | exact True.intro
   | (simp only [zn_];omega)
   | (dsimp only;simp only [zn_];omega)
   | (intro r h1 h2;clear h1;refine h2 ⟨[],[0,6,7,10],Nat × List Int,(fun s=>s.1<=b - a/\PopJ l s.2 a b s.1),fun s=>[.own 0,.int .i64 a,.int .i64 0,.int .i64 ((s.1:Int) - 1)],fun s=>[.row false (.int .i64) s.2],fun s=>s.1,⟨(b - a,u),⟨Nat.le_refl _,hc_ hR hH (by omega) hab⟩,(by rw [hh]),rfl⟩,?_⟩;clear h2)
   | (refine ⟨?_,?_,?_,?_,?_,?_,?_⟩
      all_goals (try dsimp only)
      all_goals first
       | omega
       | (rw [Int.toNat_natCast,hb9,show ((k:Int) - 1).toNat+1=k by omega];exact hH))
   | (obtain ⟨hr1,hr2⟩:=ht
      rw [hb9,show ((k:Int) - 1).toNat=k - 1 by omega] at hr1 hr2
      refine ⟨(k - 1,_),⟨?_,hR.trans (hr1.wide (by omega) (by omega)),hr2⟩,?_,?_,rfl⟩
      ·show k - 1<=(b - a - 1) / 2+1;omega
      ·show k - 1 < k;omega
      ·show [AV.own 0,AV.int .i64 a,AV.int .i64 0,AV.int .i64 ((b:Int) - (a:Int)),AV.int .i64 ((k:Int) - 1 - 1)]=[AV.own 0,AV.int .i64 a,AV.int .i64 0,AV.int .i64 ((b:Int) - (a:Int)),AV.int .i64 (((k - 1:Nat):Int) - 1)]
       rw [show ((k - 1:Nat):Int)=(k:Int) - 1 by omega])
  clear hk hR hH hl ht k u
  rintro ⟨k,u⟩ ⟨hk,hJ⟩
  dsimp only at hk hJ
  have hl:=hJ.R.len
  by_cases hk0:k=0
  ·subst hk0
   repeat'(intro t ht;first|(cases t<;>first|(cases ht;done)|(try simp only[zh_]at ht;try(exfalso;first|contradiction|omega)))|((first|refine za_ ht ?_|refine ht ?_ ?_|refine ht.1 ?_ ?_|refine ht ?_)<;>clear ht))
   all_goals first
    | exact True.intro
    | (have e:=zbG_ hab hbl hJ
       rw [show ((0,u):Nat × List Int).2=srt l a b from e];exact ⟨rfl,rfl⟩)
  ·obtain ⟨i,rfl⟩:∃ i,k=i+1:=⟨k - 1,by omega⟩
   have e1:((a:Int)+(((i+1:Nat):Int) - 1)).toNat=a+i:=by omega
   have e2:(((i+1:Nat):Int) - 1).toNat=i:=by omega
   have e3:((i+1:Nat):Int) - 1=(i:Int):=by omega
   have hlen:(swp u a (a+i)).length=u.length:=u3_ ..
   have hps:=zb5_ (u:=u) (a:=a) (i:=i) (by omega) hJ.h
   repeat'(intro t ht;first|(cases t<;>first|(cases ht;done)|(try simp only[zh_]at ht;try(exfalso;first|contradiction|omega)))|((first|refine za_ ht ?_|refine ht ?_ ?_|refine ht.1 ?_ ?_|refine ht ?_)<;>clear ht))
   all_goals first
    | exact True.intro
    | (simp only [zn_];omega)
    | (dsimp only;simp only [zn_];omega)
    | (dsimp only;omega)
    | (dsimp only;rw [List.length_set];omega)
    | (refine ⟨?_,?_,?_,?_,?_,?_,?_⟩
       all_goals (try dsimp only)
       all_goals (try simp only [List.length_set])
       all_goals first
        | omega
        | (rw [e1,e2];exact hps))
    | (rw [e1,e2] at ht
       obtain ⟨hr1,hr2⟩:=ht
       refine ⟨(i,_),⟨?_,BF_ hbl (by omega) hJ hr1 hr2⟩,?_,?_,rfl⟩
       ·show i<=b - a;omega
       ·show i < i+1;omega
       ·show [AV.own 0,AV.int .i64 a,AV.int .i64 0,AV.int .i64 (((i+1:Nat):Int) - 1 - 1)]=[AV.own 0,AV.int .i64 a,AV.int .i64 0,AV.int .i64 ((i:Int) - 1)]
        rw [e3])
 ·cases e
theorem mkP {a b j h:Int} {o:List Obj} (h1:a<=j) (h2:j < b):∃ x:SrP,(a<=x.j/\x.j < b)/\AV.tup [.int .i64 j,.int .i64 h]=AV.tup [.int .i64 x.j,.int .i64 x.h]/\o=o:=⟨⟨j,h,0⟩,⟨h1,h2⟩,rfl,rfl⟩
def o2a (l:List Int) (a b:Int):Int:=if l.getD b.toNat 0 < l.getD a.toNat 0 then b else a
def o2b (l:List Int) (a b:Int):Int:=if l.getD b.toNat 0 < l.getD a.toNat 0 then a else b
def o2s (l:List Int) (a b s:Int):Int:=if l.getD b.toNat 0 < l.getD a.toNat 0 then s+1 else s
theorem gR_ (l:List Int) (a b s:Int):(o2a l a b=a\/o2a l a b=b)/\(o2b l a b=a\/o2b l a b=b)/\s<=o2s l a b s/\o2s l a b s<=s+1:=by
 unfold o2a o2b o2s;split
 ·exact ⟨.inr rfl,.inl rfl,by omega,by omega⟩
 ·exact ⟨.inl rfl,.inr rfl,by omega,by omega⟩
def mdF (l:List Int) (a b c:Int):Int:=o2b l (o2a l a b) (o2a l (o2b l a b) c)
def mdS (l:List Int) (a b c s:Int):Int:=o2s l (o2a l a b) (o2a l (o2b l a b) c) (o2s l (o2b l a b) c (o2s l a b s))
theorem gZ_ (l:List Int) (a b c s:Int):(mdF l a b c=a\/mdF l a b c=b\/mdF l a b c=c)/\s<=mdS l a b c s/\mdS l a b c s<=s+3:=by
 obtain ⟨p1,p2,p3,p4⟩:=gR_ l a b s
 obtain ⟨q1,q2,q3,q4⟩:=gR_ l (o2b l a b) c (o2s l a b s)
 obtain ⟨r1,r2,r3,r4⟩:=gR_ l (o2a l a b) (o2a l (o2b l a b) c) (o2s l (o2b l a b) c (o2s l a b s))
 unfold mdF mdS
 refine ⟨?_,by omega,by omega⟩
 omega
def KS_:IR:=
(sq (kr [0,1,2,3] [oD 8 (.mov (cI 0)),
oD 9 (.mov (cI 0))])
(sq (sq (kd [0,1,2,3] [(oM 10 0,[]),
(oM 11 2,[0]),
(oI 12 1 10 11,[]),
(oL 13 12,[]),
(oM 14 0,[0,0,0,0]),
(oM 15 1,[0,0,0,0,0]),
(oI 16 1 14 15,[2,0,0,0]),
(oL 17 16,[3,0,0,0]),
(oC 18 185 [13,17],[])])
(.cond 18
(sq (kr [1,2,3] [oM 19 3,
oD 20 (.nilck 19),
oL 21 20,
oB 22 .add 21 (cI 1),
oD 23 (.nilck 19),
oS 1 23 22])
(sq (.reg [oM 24 2,
oM 25 1,
oM 8 24,
oM 9 25])
.ret))
.skip))
(sq (kr [1,2] [oM 26 1,
oM 27 2,
oM 8 26,
oM 9 27])
.ret)))
def KL_:List RD:=[.tmp 8 true none,.tmp 9 true none]
theorem KN_:zo_ Tryz.prog Tryz.f231 KS_ KL_=true:=by kernel_rfl
def ZZ_:List AV->List Obj->Option (Prop × AV × List Obj)
 | [.imm (.int .i64) l,.int .i64 a,.int .i64 b,.ptr 0 0],[.box [.int .i64 s]]=>some ((0<=a/\a < l.length/\0<=b/\b < l.length/\0<=s/\s<=1000,.tup [.int .i64 (o2a l a b),.int .i64 (o2b l a b)],[.box [.int .i64 (o2s l a b s)]]))
 | _,_=>none
theorem Kn_:ze_ Tryz.prog 231 (RwF ZZ_).sum:=by
 refine qh_ Tryz.func231 KN_ (zb_ (s:=RoF Zg_) Zq_ (zf_ _)) fun args objs p v o e=>?_
 unfold ZZ_ at e
 split at e
 ·rename_i l a b s
  cases e
  refine ⟨rfl,fun hw ho hp=>?_⟩
  change List Int at l
  clear hw ho
  change List Int at l
  obtain ⟨g1,g2,g3,g4,g5,g6⟩:=hp
  repeat'(intro t ht;first|(cases t<;>first|(cases ht;done)|(try simp only[zh_]at ht;try(exfalso;first|contradiction|omega)))|((first|refine za_ ht ?_|refine ht ?_ ?_|refine ht.1 ?_ ?_|refine ht ?_)<;>clear ht))
  all_goals first
   | exact True.intro
   | omega
   | (constructor<;>omega)
   | (simp only [zn_];omega)
   | (unfold o2a o2b o2s;rw [if_pos ht,if_pos ht,if_pos ht];exact ⟨rfl,rfl⟩)
   | (unfold o2a o2b o2s;rw [if_neg ht,if_neg ht,if_neg ht];exact ⟨rfl,rfl⟩)
 ·cases e
def KT_:IR:=
(sq (kr [0,1,2,3,4] [oD 10 (.mov (cI 0))])
(sq (kr [0,1,2,3,4] [oM 12 0,
oM 13 1,
oM 14 2,
oM 15 4,
oC 16 231 [12,13,14,15],
oM 11 16,
oX 17 11 0,
oX 18 11 1,
oM 1 17,
oM 2 18])
(sq (kr [0,1,2,3,4] [oM 20 0,
oM 21 2,
oM 22 3,
oM 23 4,
oC 24 231 [20,21,22,23],
oM 19 24,
oX 25 19 0,
oX 26 19 1,
oM 2 25,
oM 3 26])
(sq (kr [0,1,2,4] [oM 28 0,
oM 29 1,
oM 30 2,
oM 31 4,
oC 32 231 [28,29,30,31],
oM 27 32,
oX 33 27 0,
oX 34 27 1,
oM 1 33,
oM 2 34])
(sq (kr [2] [oM 35 2,
oM 10 35])
.ret)))))
def KM_:List RD:=[.tmp 10 true none]
theorem KO_:zo_ Tryz.prog Tryz.f214 KT_ KM_=true:=by kernel_rfl
def Zf_:List AV->List Obj->Option (Prop × AV × List Obj)
 | [.imm (.int .i64) l,.int .i64 a,.int .i64 b,.int .i64 c,.ptr 0 0],[.box [.int .i64 s]]=>some ((0<=a/\a < l.length/\0<=b/\b < l.length/\0<=c/\c < l.length/\0<=s/\s<=100,.int .i64 (mdF l a b c),[.box [.int .i64 (mdS l a b c s)]]))
 | _,_=>none
theorem qp_:ze_ Tryz.prog 214 (RwF Zf_).sum:=by
 refine qh_ Tryz.func214 KO_ (zb_ (s:=RwF ZZ_) Kn_ (zf_ _)) fun args objs p v o e=>?_
 unfold Zf_ at e
 split at e
 ·rename_i l a b c s
  cases e
  refine ⟨rfl,fun hw ho hp=>?_⟩
  change List Int at l
  clear hw ho
  change List Int at l
  obtain ⟨g1,g2,g3,g4,g5,g6,g7,g8⟩:=hp
  obtain ⟨p1,p2,p3,p4⟩:=gR_ l a b s
  obtain ⟨q1,q2,q3,q4⟩:=gR_ l (o2b l a b) c (o2s l a b s)
  repeat'(intro t ht;first|(cases t<;>first|(cases ht;done)|(try simp only[zh_]at ht;try(exfalso;first|contradiction|omega)))|((first|refine za_ ht ?_|refine ht ?_ ?_|refine ht.1 ?_ ?_|refine ht ?_)<;>clear ht))
  all_goals first
   | exact True.intro
   | (refine ⟨?_,?_,?_,?_,?_,?_⟩<;>omega)
   | exact ⟨rfl,rfl⟩
 ·cases e
def Qu_:IR:=
(sq (kr [0,1,2] [oD 6 (.mov (cI 0))])
(sq (kr [0,1,2] [oM 7 0,
oM 8 1,
oB 9 .sub 8 (cI 1),
oM 10 1,
oM 11 1,
oB 12 .add 11 (cI 1),
oM 13 2,
oC 14 214 [7,9,10,12,13],
oM 6 14])
.ret))
def Qn_:List RD:=[.tmp 6 true none]
theorem Qr_:zo_ Tryz.prog Tryz.f213 Qu_ Qn_=true:=by kernel_rfl
def z4_:List AV->List Obj->Option (Prop × AV × List Obj)
 | [.imm (.int .i64) l,.int .i64 a,.ptr 0 0],[.box [.int .i64 s]]=>some ((1<=a/\a+1 < l.length/\l.length<=1000000/\0<=s/\s<=100,.int .i64 (mdF l (a - 1) a (a+1)),[.box [.int .i64 (mdS l (a - 1) a (a+1) s)]]))
 | _,_=>none
theorem q9_:ze_ Tryz.prog 213 (RwF z4_).sum:=by
 refine qh_ Tryz.func213 Qr_ (zb_ (s:=RwF Zf_) qp_ (zf_ _)) fun args objs p v o e=>?_
 unfold z4_ at e
 split at e
 ·rename_i l a s
  cases e
  refine ⟨rfl,fun hw ho hp=>?_⟩
  change List Int at l
  clear hw ho
  change List Int at l
  obtain ⟨g1,g2,g3,g4,g5⟩:=hp
  repeat'(intro t ht;first|(cases t<;>first|(cases ht;done)|(try simp only[zh_]at ht;try(exfalso;first|contradiction|omega)))|((first|refine za_ ht ?_|refine ht ?_ ?_|refine ht.1 ?_ ?_|refine ht ?_)<;>clear ht))
  all_goals first
   | exact True.intro
   | (simp only [zn_];omega)
   | (refine ⟨?_,?_,?_,?_,?_,?_,?_,?_⟩<;>omega)
   | exact ⟨rfl,rfl⟩
 ·cases e
def ke_:IR:=
(sq (kr [0,1,2] [oD 6 (.mov (cI 0)),
oD 7 (.mov (cI 0))])
(sq (.reg [oM 13 2,
oM 14 1,
oB 15 .sub 13 14,
oM 8 15])
(sq (.reg [oD 9 (.box [.int .i64 0])])
(sq (kr [0,1,8,9] [oM 16 1,
oM 17 8,
oB 18 .quo 17 (cI 4),
oB 19 .mul 18 (cI 1),
oB 20 .add 16 19,
oM 10 20])
(sq (kr [0,1,8,9,10] [oM 21 1,
oM 22 8,
oB 23 .quo 22 (cI 4),
oB 24 .mul 23 (cI 2),
oB 25 .add 21 24,
oM 11 25])
(sq (kr [0,1,8,9,10,11] [oM 26 1,
oM 27 8,
oB 28 .quo 27 (cI 4),
oB 29 .mul 28 (cI 3),
oB 30 .add 26 29,
oM 12 30])
(sq (sq (.reg [oM 31 8,
oB 32 .geq 31 (cI 8)])
(.cond 32
(sq (sq (kr [0,8,9,10,11,12] [oM 33 8,
oB 34 .geq 33 (cI 50)])
(.cond 34
(sq (.reg [oM 35 0,
oM 36 10,
oC 37 213 [35,36,9],
oM 10 37])
(sq (kr [0,9,10,11,12] [oM 38 0,
oM 39 11,
oC 40 213 [38,39,9],
oM 11 40])
(.reg [oM 41 0,
oM 42 12,
oC 43 213 [41,42,9],
oM 12 43])))
.skip))
(kr [0,9,10,11,12] [oM 44 0,
oM 45 10,
oM 46 11,
oM 47 12,
oC 48 214 [44,45,46,47,9],
oM 11 48]))
.skip))
(sq (kr [9,11] [oL 49 9])
(.block 0
(sq (.reg [oB 52 .eql 49 (cI 0),
oM 51 52])
(.cond 51
(sq (.reg [oM 53 11,
oM 6 53,
oD 7 (.mov (cI 1))])
.ret)
(sq (.reg [oB 55 .eql 49 (cI 12),
oM 54 55])
(.cond 54
(sq (kr [11] [oM 56 11,
oM 6 56,
oD 7 (.mov (cI 2))])
.ret)
(sq (kr [11] [oM 50 11,
oM 6 50,
oD 7 (.mov (cI 0))])
.ret))))))))))))))
def Q8_:List RD:=[.tmp 6 true none,.tmp 7 true none]
theorem ka_:zo_ Tryz.prog Tryz.f182 ke_ Q8_=true:=by kernel_rfl
def Zl_:List AV->List Obj->Option NdR
 | [.own 0,.int .i64 a,.int .i64 b],[.row false (.int .i64) l]=>some (⟨0<=a/\a+12 < b/\b<=l.length/\l.length<=1000000,SrP,fun x=>a<=x.j/\(x.j:Int) < b,fun x=>.tup [.int .i64 x.j,.int .i64 x.h],fun _=>[.row false (.int .i64) l]⟩)
 | _,_=>none
theorem QZ_:Ji_ Tryz.prog 182 (NdF Zl_):=by
 refine y8_ Tryz.func182 ka_ (zb_ (s:=RwF z4_) q9_ (zb_ (s:=RwF Zf_) qp_ (zf_ _))) fun args objs r e=>?_
 unfold Zl_ at e
 split at e
 ·rename_i a b l
  cases e
  refine ⟨rfl,fun hw ho hp=>?_⟩
  change List Int at l
  clear hw ho
  change List Int at l
  obtain ⟨g1,g2,g3,g4⟩:=hp
  have hq:(b - a).tdiv 4=(b - a) / 4:=Int.tdiv_eq_ediv_of_nonneg (by omega)
  have hq1:4*(b - a).tdiv 4<=b - a/\b - a < 4*(b - a).tdiv 4+4:=by rw [hq];omega
  have M1:=gZ_ l (a+(b - a).tdiv 4*1 - 1) (a+(b - a).tdiv 4*1) (a+(b - a).tdiv 4*1+1) 0
  have M2:=gZ_ l (a+(b - a).tdiv 4*2 - 1) (a+(b - a).tdiv 4*2) (a+(b - a).tdiv 4*2+1) (mdS l (a+(b - a).tdiv 4*1 - 1) (a+(b - a).tdiv 4*1) (a+(b - a).tdiv 4*1+1) 0)
  have M3:=gZ_ l (a+(b - a).tdiv 4*3 - 1) (a+(b - a).tdiv 4*3) (a+(b - a).tdiv 4*3+1) (mdS l (a+(b - a).tdiv 4*2 - 1) (a+(b - a).tdiv 4*2) (a+(b - a).tdiv 4*2+1) (mdS l (a+(b - a).tdiv 4*1 - 1) (a+(b - a).tdiv 4*1) (a+(b - a).tdiv 4*1+1) 0))
  have M4:=gZ_ l (a+(b - a).tdiv 4*1) (a+(b - a).tdiv 4*2) (a+(b - a).tdiv 4*3) 0
  have M5:=gZ_ l (mdF l (a+(b - a).tdiv 4*1 - 1) (a+(b - a).tdiv 4*1) (a+(b - a).tdiv 4*1+1)) (mdF l (a+(b - a).tdiv 4*2 - 1) (a+(b - a).tdiv 4*2) (a+(b - a).tdiv 4*2+1)) (mdF l (a+(b - a).tdiv 4*3 - 1) (a+(b - a).tdiv 4*3) (a+(b - a).tdiv 4*3+1)) 0
  clear hq
  repeat'(intro t ht;first|(cases t<;>first|(cases ht;done)|(try simp only[zh_]at ht;try(exfalso;first|contradiction|omega)))|((first|refine za_ ht ?_|refine ht ?_ ?_|refine ht.1 ?_ ?_|refine ht ?_)<;>clear ht))
  all_goals (try generalize (b - a).tdiv 4=q at*)
  all_goals first
   | exact True.intro
   | decide
   | omega
   | (simp only [zn_];omega)
   | exact mkP (by omega) (by omega)
 ·cases e
end Go.Eng

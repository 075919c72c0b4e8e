/- Parts of the proof: R7, N1, M2, A1, A2, M3, A3, A4, A6, A7, A8, A9, H1, H2, H3, H4, Z1, F6. No condition. -/
import Derived.Test.YtheklpaoigbdnaaGreatDoorProg
import Derived.Test.YtheklpaoigbdnaaGreatDoorXF11
import Derived.KernelRfl
import Derived.Test.YtheklpaoigbdnaaGreatDoorXF13
import Derived.Test.YtheklpaoigbdnaaGreatDoorXF12
namespace Go.Eng
open Go.Proofs
set_option linter.unusedVariables false
set_option linter.unusedSimpArgs false
set_option maxRecDepth 100000
set_option maxHeartbeats 1000000
def vG_:IR:=
(sq (kr [0] [oD 2 (.mov cF)])
(sq (sq (.reg [oD 3 (.mov (cI 0))])
(.block 0
(.loop
(sq (sq (kr [0,3] [oM 4 3,
oM 5 0,
oE 6 5,
oB 7 .lss 4 6])
(.cond 7
.skip
(.exit 0)))
(sq (.block 1
(sq (kr [0,3] [oM 10 0,
oM 11 3,
oI 12 1 10 11,
oL 13 12,
oB 14 .eql 13 (cI 0),
oM 15 14,
oF 15 16 (.mov 0),
oF 15 17 (.mov 3),
oF 15 18 (.indexSl 1 16 17),
oF 15 19 (.load none 18),
oF 15 20 (.bin .gtr 19 (cI 8)),
oP 21 15 cT 20,
oM 22 21,
oF 22 23 (.mov 0),
oF 22 24 (.mov 3),
oF 22 25 (.indexSl 1 23 24),
oF 22 26 (.load none 25),
oF 22 27 (.bin .lss 26 (cI (-64))),
oP 28 22 cT 27])
(.cond 28
(sq (kr [] [oD 2 (.mov cF)])
.ret)
.skip)))
(kr [0,3] [oM 8 3,
oB 9 .add 8 (cI 1),
oM 3 9]))))))
(sq (kr [0] [oM 29 0,
oE 30 29,
oB 31 .leq 30 (cI 64),
oM 2 31])
.ret)))
def YK_:List RD:=[.tmp 2 true none]
theorem vb_:zl_ Tryz.prog Tryz.f78 vG_ YK_=true:=by kernel_rfl
def QW_:List AV->List Obj->Option (Prop × AV)
 | [.imm (.int .i64) w],[]=>some ((True,.bool (z5_ w)))
 | _,_=>none
theorem jp_:zf_ Tryz.prog 78 (RoF QW_).sum:=by
 refine zi_ Tryz.func78 vb_ (ze_ _) fun args objs p v e=>?_
 unfold QW_ at e
 split at e
 ·rename_i w
  cases e
  refine ⟨rfl,fun hw ho hp=>?_⟩
  change List Int at w
  have hl:w.length<=maxLen:=(hw (.imm (.int .i64) w) (by simp)).2
  unfold maxLen at hl
  repeat'(intro t ht;first|(cases t<;>first|(cases ht;done)|(try simp only[zh_]at ht))|((first|refine za_ ht ?_|refine ht ?_ ?_|refine ht.1 ?_ ?_|refine ht ?_)<;>clear ht))
  all_goals (intro r h1 h2;clear h1;refine h2 ⟨[0,3],Nat,(fun i=>i<=w.length/\w.all okW=(w.drop i).all okW),fun i=>[.imm (.int .i64) w,.int .i64 i],fun _=>[],fun i=>w.length - i,⟨0,⟨Nat.zero_le _,rfl⟩,rfl,rfl⟩,?_⟩;clear h2)
  rintro i ⟨hi,he⟩
  repeat'(intro t ht;first|(cases t<;>first|(cases ht;done)|(try simp only[zh_]at ht))|((first|refine za_ ht ?_|refine ht ?_ ?_|refine ht.1 ?_ ?_|refine ht ?_)<;>clear ht))
  all_goals first
   | ((try simp only [zm_,zn_,zk_] at*);omega)
   | (have hge:w.length<=i:=by omega
      rw [List.drop_of_length_le hge] at he
      refine ⟨?_,rfl⟩;unfold z5_;rw [he,List.all_nil,Bool.and_true]
      congr 2;exact propext (by omega))
   | (have hlt:i < w.length:=by omega
      rw [zw_ hlt 0,List.all_cons] at he
      first
       | (have hk:okW (w.getD i 0)=false:=be_.2 (by omega)
          refine ⟨?_,rfl⟩;unfold z5_;rw [he,hk];simp;done)
       | (have hk:okW (w.getD i 0)=true:=gy_.2 (by omega)
          rw [hk,Bool.true_and] at he
          exact ⟨i+1,⟨hlt,he⟩,by (try simp only [zm_,zn_,zk_] at*);omega,rfl,rfl⟩))
 ·cases e
def vI_:IR:=
(sq (kr [0] [oD 2 (.mov (cI 0))])
(sq (.reg [oD 3 (.mov (cI 0))])
(sq (sq (.reg [oD 4 (.mov (cI 0))])
(.block 0
(.loop
(sq (sq (kr [0,3,4] [oM 5 4,
oM 6 0,
oE 7 6,
oB 8 .lss 5 7,
oM 9 8,
oT 9 10 (.mov 0),
oT 9 11 (.call false (.f 78) [10]),
oP 12 9 11 cF])
(.cond 12
.skip
(.exit 0)))
(sq (.block 1
(sq (kr [0,3,4] [oM 15 0,
oM 16 4,
oI 17 1 15 16,
oL 18 17,
oB 19 .gtr 18 (cI 0)])
(.cond 19
(.reg [oM 20 3,
oB 21 .add 20 (cI 1),
oM 3 21])
.skip)))
(kr [0,3,4] [oM 13 4,
oB 14 .add 13 (cI 1),
oM 4 14]))))))
(sq (kr [3] [oM 22 3,
oM 2 22])
.ret))))
def YM_:List RD:=[.tmp 2 true none]
theorem vd_:zl_ Tryz.prog Tryz.f77 vI_ YM_=true:=by kernel_rfl
def QX_:List AV->List Obj->Option (Prop × AV)
 | [.imm (.int .i64) w],[]=>some ((True,.int .i64 (zK_ w)))
 | _,_=>none
theorem jq_:zf_ Tryz.prog 77 (RoF QX_).sum:=by
 refine zi_ Tryz.func77 vd_ (zc_ (s:=RoF QW_) jp_ (ze_ _)) fun args objs p v e=>?_
 unfold QX_ at e
 split at e
 ·rename_i w
  cases e
  refine ⟨rfl,fun hw ho hp=>?_⟩
  change List Int at w
  repeat'(intro t ht;first|(cases t<;>first|(cases ht;done)|(try simp only[zh_]at ht))|((first|refine za_ ht ?_|refine ht ?_ ?_|refine ht.1 ?_ ?_|refine ht ?_)<;>clear ht))
  all_goals first
   | (intro r h1 h2;clear h1;refine h2 ⟨[0,3,4],Nat,(fun i=>i<=w.length/\(z5_ w=false->i=0)),fun i=>[.imm (.int .i64) w,.int .i64 (Qm_ Zo_ w i),.int .i64 i],fun _=>[],fun i=>w.length - i,⟨0,⟨Nat.zero_le _,fun _=>rfl⟩,rfl,rfl⟩,?_⟩;clear h2)
  rintro i ⟨hi,hz⟩
  repeat'(intro t ht;first|(cases t<;>first|(cases ht;done)|(try simp only[zh_]at ht))|((first|refine za_ ht ?_|refine ht ?_ ?_|refine ht.1 ?_ ?_|refine ht ?_)<;>clear ht))
  all_goals first
   | exact True.intro
   | ((try simp only [zm_,zn_,zk_] at*);omega)
   | (have hge:w.length<=i:=by omega
      refine ⟨?_,rfl⟩;unfold zK_;rw [Ql_ Zo_ hge]
      cases hr:z5_ w with
      | true=>rfl
      | false=>have h0:=hz hr;have:w=[]:=List.length_eq_zero_iff.1 (by omega);subst this;rfl)
   | (have hr:z5_ w=false:=by assumption
      have h0:=hz hr;subst h0
      refine ⟨?_,rfl⟩;unfold zK_;rw [hr];rfl)
   | (have hr:z5_ w=true:=by assumption
      have hl:=(ZB_.1 hr).1
      have hlt:i < w.length:=by omega
      have hs:=Jc_ hr i
      first
       | ((try simp only [zm_,zn_,zk_] at*);omega)
       | (refine ⟨i+1,⟨hlt,fun h=>by rw [hr] at h;cases h⟩,by (try simp only [zm_,zn_,zk_] at*);omega,?_,rfl⟩
          dsimp only
          rw [z8_ Zo_ hlt]
          first
           | (have e:Zo_ (w.getD i 0)=1:=if_pos (by assumption)
              rw [e];rfl)
           | (have e:Zo_ (w.getD i 0)=0:=if_neg (by assumption)
              rw [e,Int.add_zero];rfl)))
 ·cases e
theorem Hn_:∀ k:Nat,k<=7->∀ x:Int,0<=x->(x < (2 ^ (8*k):Nat) ↔ x.fdiv (2 ^ (8*k))=0)
 | k,_,x,hx=>by
   have hp:(0:Int) < 2 ^ (8*k):=Int.pow_pos (by decide)
   have e:((2 ^ (8*k):Nat):Int)=2 ^ (8*k):=by push_cast;rfl
   rw [e,Int.fdiv_eq_ediv_of_nonneg _ (Int.le_of_lt hp)]
   constructor
   ·intro h;exact Int.ediv_eq_zero_of_lt hx h
   ·intro h
    have:=Int.lt_ediv_add_one_mul_self x hp
    rw [h] at this;omega
def wZ_ (x n:Int):Bool:=decide (n=8) || decide (x.fdiv (2 ^ (min (8*n).toNat 64))=0)
theorem HK_ {x:Int} (hx:0<=x):∀ k:Nat,1<=k->k<=7->decide (x < 1*2 ^ min (8*(k:Int)).toNat IntKind.u64.bits)=wZ_ x k
 | k,h1,h7=>by
   have e:min (8*(k:Int)).toNat IntKind.u64.bits=8*k:=by
    have:IntKind.u64.bits=64:=rfl
    rw [this];omega
   have e':min (8*(k:Int)).toNat 64=8*k:=by omega
   unfold wZ_
   rw [e,e',decide_eq_false (show ¬ (k:Int)=8 by omega),Bool.false_or,Int.one_mul]
   rw [decide_eq_decide]
   have:=Hn_ k h7 x hx
   push_cast at this
   exact this
def up_:IR:=
(sq (kr [0,1] [oD 4 (.mov cF)])
(sq (kr [0,1] [oM 5 1,
oB 6 .eql 5 (cI 8),
oM 7 6,
oF 7 8 (.mov 0),
oF 7 9 (.mov 1),
oF 7 10 (.bin .mul (cI 8) 9),
oF 7 11 (.bin .shl (.c (.int .u64 1)) 10),
oF 7 12 (.bin .lss 8 11),
oP 13 7 cT 12,
oM 4 13])
.ret))
def VC_:List RD:=[.tmp 4 true none]
theorem VV_:zl_ Tryz.prog Tryz.f79 up_ VC_=true:=by kernel_rfl
def jZ_:List AV->List Obj->Option (Prop × AV)
 | [.int .u64 x,.int .i64 n],[]=>some ((1<=n/\n<=8,.bool (wZ_ x n)))
 | _,_=>none
theorem Yk_:zf_ Tryz.prog 79 (RoF jZ_).sum:=by
 refine zi_ Tryz.func79 VV_ (ze_ _) fun args objs p v e=>?_
 unfold jZ_ at e
 split at e
 ·rename_i x n
  cases e
  refine ⟨rfl,fun hw ho hp=>?_⟩
  have hx:IntKind.u64.min<=x/\x<=IntKind.u64.max:=hw (.int .u64 x) (by simp)
  have hx0:0<=x:=hx.1
  obtain ⟨h1,h8⟩:=hp
  obtain ⟨k,rfl⟩:=Int.eq_ofNat_of_zero_le (show 0<=n by omega)
  repeat'(intro t ht;first|(cases t<;>first|(cases ht;done)|(try simp only[zh_]at ht))|((first|refine za_ ht ?_|refine ht ?_ ?_|refine ht.1 ?_ ?_|refine ht ?_)<;>clear ht))
  all_goals first
   | exact True.intro
   | ((try simp only [zm_,zn_,zk_] at*);omega)
   | (refine ⟨?_,rfl⟩;unfold wZ_;rw [decide_eq_true (by assumption)];rfl)
   | (have hk:k=1\/k=2\/k=3\/k=4\/k=5\/k=6\/k=7:=by omega
      rcases hk with rfl | rfl | rfl | rfl | rfl | rfl | rfl<;>decide)
   | (refine ⟨?_,rfl⟩;rw [<- HK_ hx0 k (by omega) (by omega)])
 ·cases e
theorem Gs_ {x n:Int}:wZ_ x n=false->n<=8->(n < 8/\x.fdiv (2 ^ (min (8*n).toNat 64)) ≠ 0):=fun h h8=>by
 unfold wZ_ at h
 simp only [Bool.or_eq_false_iff,decide_eq_false_iff_not] at h
 exact ⟨by omega,h.2⟩
theorem hF_ {x n:Int}:wZ_ x n=true->¬ (n < 8/\x.fdiv (2 ^ (min (8*n).toNat 64)) ≠ 0):=fun h k=>by
 unfold wZ_ at h
 simp only [Bool.or_eq_true,decide_eq_true_eq] at h
 rcases h with h | h
 ·omega
 ·exact k.2 h
theorem uQ_ (w:Int):List.replicate w.toNat 0=zG_ 0 w:=by
 have:∀ j:Nat,Ky_ 0 w j=0:=fun j=>by unfold Ky_;rw [Int.zero_fdiv];rfl
 unfold zG_ q1_
 simp only [this,List.map_const',List.length_range]
theorem GJ_ {α:Type} {f:α->Bool} {l:List α} {i:Nat} {d:α} (h:i < l.length) (ht:(l.take i).all f=true) (hd:f (l.getD i d)=true):(l.take (i+1)).all f=true:=by
 rw [List.take_succ_eq_append_getElem h,List.all_append,ht,Bool.true_and,List.all_cons,List.all_nil,Bool.and_true]
 rwa [List.getD_eq_getElem?_getD,List.getElem?_eq_getElem h] at hd
theorem h5_ {α:Type} {f:α->Bool} {l:List α} {i:Nat} (h:l.length<=i) (ht:(l.take i).all f=true):l.all f=true:=by
 rwa [List.take_of_length_le h] at ht
theorem h4_ {α:Type} {f:α->Bool} {l:List α} {i:Nat} {d:α} (h:i < l.length) (hd:f (l.getD i d)=false):l.all f=false:=by
 rw [List.all_eq_false]
 exact ⟨l.getD i d,zM_ h d,by rw [hd];decide⟩
theorem Jb_ {α:Type} {l:List α} {i:Nat} (h:i<=l.length):(l.take i).length=i:=by rw [List.length_take];omega
def Zu_ (t:Int):List Int:=if t=0 then [4,2,-6] else if t=22\/t=21\/t=65535 then [4] else if t=15\/t=23 then [1,-3] else if t=17\/t=19\/t=26\/t=20 then [2,-2] else if t=11\/t=12\/t=16\/t=18\/t=24\/t=27 then [-4] else []
def Vm_ (t:Int):Bool:=decide (t=0\/(t=22\/t=21\/t=65535)\/(t=15\/t=23)\/(t=17\/t=19\/t=26\/t=20)\/(t=11\/t=12\/t=16\/t=18\/t=24\/t=27))
theorem gu_ {t:Int} (h:¬ (t=0\/(t=22\/t=21\/t=65535)\/(t=15\/t=23)\/(t=17\/t=19\/t=26\/t=20)\/(t=11\/t=12\/t=16\/t=18\/t=24\/t=27))):Zu_ t=[]/\Vm_ t=false:=by
 refine ⟨?_,decide_eq_false h⟩
 unfold Zu_
 rw [if_neg (by omega),if_neg (by omega),if_neg (by omega),if_neg (by omega),if_neg (by omega)]
theorem G3_ {t:Int} (h:Vm_ t=true):t=0\/(t=22\/t=21\/t=65535)\/(t=15\/t=23)\/(t=17\/t=19\/t=26\/t=20)\/(t=11\/t=12\/t=16\/t=18\/t=24\/t=27):=of_decide_eq_true h
theorem gt_ (t:Int):Zu_ t=[4,2,-6]\/Zu_ t=[4]\/Zu_ t=[1,-3]\/Zu_ t=[2,-2]\/Zu_ t=[-4]\/Zu_ t=[]:=by
 unfold Zu_
 repeat' split
 all_goals simp
theorem hQ_ (t:Int):0<=zK_ (Zu_ t)/\zK_ (Zu_ t)<=2:=by
 rcases gt_ t with h | h | h | h | h | h<;>rw [h]<;>decide
theorem G0_ (t:Int):0<=QM_ (Zu_ t)/\QM_ (Zu_ t)<=12:=by
 rcases gt_ t with h | h | h | h | h | h<;>rw [h]<;>decide
def ge_ (t n:Int):Int:=if t=0 then (if n=0 then 517 else 0) else if t=22 then (if 4294967040 < n then 522 else 0) else if t=17 then (if n ≠ 33024/\n ≠ 34984 then 518 else 0) else if t=19 then (if n ≠ 34887/\n ≠ 34888 then 518 else 0) else if t=26 then (if n ≠ 35047 then 518 else 0) else 0
def xI_:IR:=
(sq (kr [0] [oD 2 (.mov (.c (.imm (.int .i64) []))),
oD 3 (.mov cF)])
(sq (sq (.reg [oM 4 0])
(.block 0
(sq (.block 7
(.block 6
(sq (.block 5
(.block 4
(sq (.block 3
(sq (.block 2
(sq (.block 1
(sq (sq (sq (.reg [oB 6 .eql 4 (cI 0),
oM 5 6])
(.cond 5
(.exit 1)
.skip))
(sq (sq (sq (.reg [oB 8 .eql 4 (cI 22),
oM 7 8])
(.cond 7
.skip
(sq (kr [4] [oB 9 .eql 4 (cI 21),
oM 7 9])
(.cond 7
.skip
(.reg [oB 10 .eql 4 (cI 65535),
oM 7 10])))))
(.cond 7
(.exit 2)
.skip))
(sq (sq (sq (kr [4] [oB 12 .eql 4 (cI 15),
oM 11 12])
(.cond 11
.skip
(.reg [oB 13 .eql 4 (cI 23),
oM 11 13])))
(.cond 11
(.exit 3)
.skip))
(sq (sq (sq (.reg [oB 15 .eql 4 (cI 17),
oM 14 15])
(.cond 14
.skip
(sq (kr [4] [oB 16 .eql 4 (cI 19),
oM 14 16])
(.cond 14
.skip
(.reg [oB 17 .eql 4 (cI 26),
oM 14 17])))))
(.cond 14
(.exit 4)
.skip))
(sq (sq (kr [4] [oB 19 .eql 4 (cI 20),
oM 18 19])
(.cond 18
(.exit 5)
.skip))
(sq (sq (sq (.reg [oB 21 .eql 4 (cI 11),
oM 20 21])
(.cond 20
.skip
(sq (.reg [oB 22 .eql 4 (cI 12),
oM 20 22])
(.cond 20
.skip
(kr [4] [oB 23 .eql 4 (cI 16),
oM 20 23])))))
(.cond 20
(.exit 6)
.skip))
(sq (sq (kr [4] [oB 25 .eql 4 (cI 18),
oM 24 25])
(.cond 24
.skip
(sq (.reg [oB 26 .eql 4 (cI 24),
oM 24 26])
(.cond 24
.skip
(.reg [oB 27 .eql 4 (cI 27),
oM 24 27])))))
(.cond 24
(.exit 7)
.skip))))))))
(.exit 0)))
(sq (sq (kr [] [oD 28 (.sliceAll (.int .i64) 3 [(0,1,(cI 4)),(1,1,(cI 2)),(2,1,(cI (-6)))]),
oM 2 28,
oD 3 (.mov cT)])
.ret)
(.exit 0))))
(sq (sq (kr [] [oD 29 (.sliceAll (.int .i64) 1 [(0,1,(cI 4))]),
oM 2 29,
oD 3 (.mov cT)])
.ret)
(.exit 0))))
(sq (sq (kr [] [oD 30 (.sliceAll (.int .i64) 2 [(0,1,(cI 1)),(1,1,(cI (-3)))]),
oM 2 30,
oD 3 (.mov cT)])
.ret)
(.exit 0)))))
(sq (sq (kr [] [oD 31 (.sliceAll (.int .i64) 2 [(0,1,(cI 2)),(1,1,(cI (-2)))]),
oM 2 31,
oD 3 (.mov cT)])
.ret)
(.exit 0)))))
(sq (sq (kr [] [oD 32 (.sliceAll (.int .i64) 1 [(0,1,(cI (-4)))]),
oM 2 32,
oD 3 (.mov cT)])
.ret)
(.exit 0)))))
(sq (kr [] [oD 2 (.mov (.c (.imm (.int .i64) []))),
oD 3 (.mov cF)])
.ret)))
def xa_:List RD:=[.tmp 2 true (some (.int .i64)),.tmp 3 true none]
theorem xr_:zl_ Tryz.prog Tryz.f46 xI_ xa_=true:=by kernel_rfl
def ka_:List AV->List Obj->Option (Prop × AV)
 | [.int .i64 q],[]=>some ((True,.tup [.imm (.int .i64) (Zu_ q),.bool (Vm_ q)]))
 | _,_=>none
theorem Wb_:zf_ Tryz.prog 46 (RoF ka_).sum:=by
 refine zi_ Tryz.func46 xr_ (ze_ _) fun args objs p v e=>?_
 unfold ka_ at e
 split at e
 ·rename_i q
  cases e
  refine ⟨rfl,fun hw ho hp=>?_⟩
  clear hw ho
  repeat'(intro t ht;first|(cases t<;>first|(cases ht;done)|(try simp only[zh_]at ht;try(exfalso;first|contradiction|omega)))|((first|refine za_ ht ?_|refine ht ?_ ?_|refine ht.1 ?_ ?_|refine ht ?_)<;>clear ht))
  all_goals first
   | exact True.intro
   | (have h:=gu_ (t:=q) (by omega)
      rw [h.1,h.2];exact ⟨rfl,rfl⟩)
   | (subst_vars;exact ⟨rfl,rfl⟩)
   | (have h:q=0\/(q=22\/q=21\/q=65535)\/(q=15\/q=23)\/(q=17\/q=19\/q=26\/q=20)\/(q=11\/q=12\/q=16\/q=18\/q=24\/q=27):=by omega
      rcases h with rfl | (rfl | rfl | rfl) | (rfl | rfl) | (rfl | rfl | rfl | rfl) | (rfl | rfl | rfl | rfl | rfl | rfl)<;>first | (exfalso;omega) | exact ⟨rfl,rfl⟩)
 ·cases e
def WA_:IR:=
(sq (kr [0,1] [oD 4 (.mov (cI 0))])
(sq (.block 0
(sq (kr [0,1] [oM 6 0,
oB 7 .eql 6 (cI 0),
oM 8 7,
oT 8 9 (.mov 1),
oT 8 10 (.bin .eql 9 (.c (.int .u64 0))),
oP 11 8 10 cF,
oM 5 11])
(.cond 5
(sq (kr [] [oD 4 (.mov (cI 517))])
.ret)
(sq (kr [0,1] [oM 13 0,
oB 14 .eql 13 (cI 22),
oM 15 14,
oT 15 16 (.mov 1),
oT 15 17 (.bin .gtr 16 (.c (.int .u64 4294967040))),
oP 18 15 17 cF,
oM 12 18])
(.cond 12
(sq (kr [] [oD 4 (.mov (cI 522))])
.ret)
(sq (kr [0,1] [oM 20 0,
oB 21 .eql 20 (cI 17),
oM 22 21,
oT 22 23 (.mov 1),
oT 22 24 (.bin .neq 23 (.c (.int .u64 33024))),
oP 25 22 24 cF,
oM 26 25,
oT 26 27 (.mov 1),
oT 26 28 (.bin .neq 27 (.c (.int .u64 34984))),
oP 29 26 28 cF,
oM 19 29])
(.cond 19
(sq (kr [] [oD 4 (.mov (cI 518))])
.ret)
(sq (kr [0,1] [oM 31 0,
oB 32 .eql 31 (cI 19),
oM 33 32,
oT 33 34 (.mov 1),
oT 33 35 (.bin .neq 34 (.c (.int .u64 34887))),
oP 36 33 35 cF,
oM 37 36,
oT 37 38 (.mov 1),
oT 37 39 (.bin .neq 38 (.c (.int .u64 34888))),
oP 40 37 39 cF,
oM 30 40])
(.cond 30
(sq (kr [] [oD 4 (.mov (cI 518))])
.ret)
(sq (kr [0,1] [oM 42 0,
oB 43 .eql 42 (cI 26),
oM 44 43,
oT 44 45 (.mov 1),
oT 44 46 (.bin .neq 45 (.c (.int .u64 35047))),
oP 47 44 46 cF,
oM 41 47])
(.cond 41
(sq (kr [] [oD 4 (.mov (cI 518))])
.ret)
.skip)))))))))))
(sq (kr [] [oD 4 (.mov (cI 0))])
.ret)))
def Wj_:List RD:=[.tmp 4 true none]
theorem Ws_:zl_ Tryz.prog Tryz.f48 WA_ Wj_=true:=by kernel_rfl
def QE_:List AV->List Obj->Option (Prop × AV)
 | [.int .i64 q,.int .u64 n],[]=>some ((True,.int .i64 (ge_ q n)))
 | _,_=>none
theorem J1_:zf_ Tryz.prog 48 (RoF QE_).sum:=by
 refine zi_ Tryz.func48 Ws_ (ze_ _) fun args objs p v e=>?_
 unfold QE_ at e
 split at e
 ·rename_i q n
  cases e
  refine ⟨rfl,fun hw ho hp=>?_⟩
  clear hw ho
  repeat'(intro t ht;first|(cases t<;>first|(cases ht;done)|(try simp only[zh_]at ht;try(exfalso;first|contradiction|omega)))|((first|refine za_ ht ?_|refine ht ?_ ?_|refine ht.1 ?_ ?_|refine ht ?_)<;>clear ht))
  all_goals first
   | exact True.intro
   | (refine ⟨congrArg (AV.int .i64) ?_,rfl⟩;unfold ge_;repeat' split
      all_goals first | rfl | omega)
 ·cases e
def jL_:IR:=
(sq (kr [0] [oD 1 (.boxv 0),
oD 2 (.mov cF)])
(sq (kr [1] [oA 3 0 1,
oL 4 3,
oB 5 .eql 4 (cI 32768),
oM 6 5,
oT 6 7 (.fieldAddr 2 1),
oT 6 8 (.load none 7),
oT 6 9 (.un .not 8),
oP 10 6 9 cF,
oM 11 10,
oT 11 12 (.fieldAddr 1 1),
oT 11 13 (.load none 12),
oT 11 14 (.call false (.f 56) [13]),
oP 15 11 14 cF,
oM 16 15,
oT 16 17 (.load (some 6) 1),
oT 16 18 (.call false (.f 57) [17]),
oP 19 16 18 cF,
oM 2 19])
.ret))
def jC_:List RD:=[.tmp 2 true none]
theorem jG_:zl_ Tryz.prog Tryz.f45 jL_ jC_=true:=by kernel_rfl
def qv_:List AV->List Obj->Option (Prop × AV)
 | [.agg [.int .i64 c,.int .i64 f,.bool h,.int .u64 x,.imm (.int .u8) v,.imm (.int .u8) m]],[]=>some ((v.length<=1000000/\m.length<=1000000,.bool (decide (c=32768) && !h && Jj_ f && z4_ c f h x v m)))
 | _,_=>none
theorem jd_:zf_ Tryz.prog 45 (RoF qv_).sum:=by
 refine zi_ Tryz.func45 jG_ (zc_ (s:=RoF qH_) jv_ (zc_ (s:=RoF KO_) XC_ (ze_ _))) fun args objs p v e=>?_
 unfold qv_ at e
 split at e
 ·rename_i c f h x v m
  cases e
  refine ⟨rfl,fun hw ho hp=>?_⟩
  change List Int at v
  change List Int at m
  clear hw ho
  cases h
  all_goals repeat'(intro t ht;first|(cases t<;>first|(cases ht;done)|(try simp only[zh_]at ht;try(exfalso;first|contradiction|omega)))|((first|refine za_ ht ?_|refine ht ?_ ?_|refine ht.1 ?_ ?_|refine ht ?_)<;>clear ht))
  all_goals first
   | exact True.intro
   | exact hp
   | (refine ⟨congrArg AV.bool ?_,rfl⟩;simp_all;done)
 ·cases e
def xJ_:IR:=
(sq (kr [0] [oD 1 (.boxv 0),
oD 2 (.mov cF)])
(sq (.reg [oK 3 6 1,
oD 4 (.build [.int .i64 0,.int .i64 0,.kb false,.int .u64 0,.imm (.int .u8) [],.imm (.int .u8) []] []),
oC 5 58 [3,4],
oM 2 5])
.ret))
def xb_:List RD:=[.tmp 2 true none]
theorem xs_:zl_ Tryz.prog Tryz.f47 xJ_ xb_=true:=by kernel_rfl
def kb_:List AV->List Obj->Option (Prop × AV)
 | [.agg [.int .i64 c,.int .i64 f,.bool h,.int .u64 x,.imm (.int .u8) v,.imm (.int .u8) m]],[]=>some ((True,.bool (qy_ c f h x v m 0 0 false 0 [] [])))
 | _,_=>none
theorem Wc_:zf_ Tryz.prog 47 (RoF kb_).sum:=by
 refine zi_ Tryz.func47 xs_ (zc_ (s:=RoF j1_) Ym_ (ze_ _)) fun args objs p v e=>?_
 unfold kb_ at e
 split at e
 ·rename_i c f h x v m
  cases e
  refine ⟨rfl,fun hw ho hp=>?_⟩
  change List Int at v
  change List Int at m
  clear hw ho
  repeat'(intro t ht;first|(cases t<;>first|(cases ht;done)|(try simp only[zh_]at ht;try(exfalso;first|contradiction|omega)))|((first|refine za_ ht ?_|refine ht ?_ ?_|refine ht.1 ?_ ?_|refine ht ?_)<;>clear ht))
  all_goals first
   | exact True.intro
   | exact ⟨rfl,rfl⟩
 ·cases e
def yE_ (t a b:Int):List Int:=[a,b].take (zK_ (Zu_ t)).toNat
def zX_ (R:Bool) (t a b c f:Int) (h:Bool) (x:Int) (v m d:List Int):Bool:=
 if t=25 then decide (a=0) && decide (b=0) && decide (d.length=0) && (decide (c=32768) && !h && Jj_ f && R)
 else Vm_ t && qy_ c f h x v m 0 0 false 0 [] [] && decide (ge_ t a=0) && J9_ (Zu_ t) (yE_ t a b) && (decide (2<=zK_ (Zu_ t)) || decide (b=0)) && (decide (1<=zK_ (Zu_ t)) || decide (a=0)) && (if t=65535 then decide ((d.length:Int).tmod 8=0) && decide ((d.length:Int)<=65520) else decide (d.length=0))
def WB_:IR:=
(sq (kr [0] [oD 1 (.boxv 0),
oD 2 (.mov cF)])
(sq (sq (.reg [oA 8 0 1,
oL 9 8,
oB 10 .eql 9 (cI 25)])
(.cond 10
(sq (kr [1] [oA 11 1 1,
oL 12 11,
oB 13 .eql 12 (.c (.int .u64 0)),
oM 14 13,
oT 14 15 (.fieldAddr 2 1),
oT 14 16 (.load none 15),
oT 14 17 (.bin .eql 16 (.c (.int .u64 0))),
oP 18 14 17 cF,
oM 19 18,
oT 19 20 (.fieldAddr 9 1),
oT 19 21 (.load none 20),
oT 19 22 (.len 21),
oT 19 23 (.bin .eql 22 (cI 0)),
oP 24 19 23 cF,
oM 25 24,
oT 25 26 (.fieldAddr 3 1),
oT 25 27 (.load (some 6) 26),
oT 25 28 (.call false (.f 45) [27]),
oP 29 25 28 cF,
oM 2 29])
.ret)
.skip))
(sq (kr [1] [oA 31 0 1,
oL 32 31,
oC 33 46 [32],
oM 30 33,
oX 34 30 0,
oX 35 30 1,
oM 3 34,
oM 4 35])
(sq (sq (kr [1,3,4] [oM 36 4,
oD 37 (.un .not 36),
oM 38 37,
oF 38 39 (.fieldAddr 3 1),
oF 38 40 (.load (some 6) 39),
oF 38 41 (.call false (.f 47) [40]),
oF 38 42 (.un .not 41),
oP 43 38 cT 42,
oM 44 43,
oF 44 45 (.fieldAddr 0 1),
oF 44 46 (.load none 45),
oF 44 47 (.fieldAddr 1 1),
oF 44 48 (.load none 47),
oF 44 49 (.call false (.f 48) [46,48]),
oF 44 50 (.bin .neq 49 (cI 0)),
oP 51 44 cT 50])
(.cond 51
(sq (kr [] [oD 2 (.mov cF)])
.ret)
.skip))
(sq (kr [1,3] [oM 52 3,
oC 53 49 [52],
oM 5 53])
(sq (kr [1,3,5] [oM 55 3,
oA 56 1 1,
oL 57 56,
oA 58 2 1,
oL 59 58,
oD 60 (.sliceAll (.int .u64) 2 [(0,1,57),(1,1,59)]),
oM 61 5,
oD 62 (.slice 1 60 none (some 61) none),
oC 63 50 [55,62],
oM 54 63,
oX 64 54 0,
oX 65 54 1,
oM 6 64,
oM 7 65])
(sq (sq (kr [1,5,7] [oM 66 7,
oD 67 (.un .not 66),
oM 68 67,
oF 68 69 (.mov 5),
oF 68 70 (.bin .lss 69 (cI 2)),
oF 68 71 (.mov 70),
oT 71 72 (.fieldAddr 2 1),
oT 71 73 (.load none 72),
oT 71 74 (.bin .neq 73 (.c (.int .u64 0))),
oF 68 75 (.pick 71 74 cF),
oP 76 68 cT 75,
oM 77 76,
oF 77 78 (.mov 5),
oF 77 79 (.bin .lss 78 (cI 1)),
oF 77 80 (.mov 79),
oT 80 81 (.fieldAddr 1 1),
oT 80 82 (.load none 81),
oT 80 83 (.bin .neq 82 (.c (.int .u64 0))),
oF 77 84 (.pick 80 83 cF),
oP 85 77 cT 84])
(.cond 85
(sq (kr [] [oD 2 (.mov cF)])
.ret)
.skip))
(sq (sq (kr [1] [oA 86 0 1,
oL 87 86,
oB 88 .neq 87 (cI 65535)])
(.cond 88
(sq (kr [1] [oA 89 9 1,
oL 90 89,
oE 91 90,
oB 92 .eql 91 (cI 0),
oM 2 92])
.ret)
.skip))
(sq (kr [1] [oA 93 9 1,
oL 94 93,
oE 95 94,
oB 96 .rem 95 (cI 8),
oB 97 .eql 96 (cI 0),
oM 98 97,
oT 98 99 (.fieldAddr 9 1),
oT 98 100 (.load none 99),
oT 98 101 (.len 100),
oT 98 102 (.bin .leq 101 (cI 65520)),
oP 103 98 102 cF,
oM 2 103])
.ret)))))))))
def Wk_:List RD:=[.tmp 2 true none]
theorem Wt_:zl_ Tryz.prog Tryz.f33 WB_ Wk_=true:=by kernel_rfl
def QF_:List AV->List Obj->Option (Prop × AV)
 | [.agg [.int .i64 q,.int .u64 a,.int .u64 b,.int .i64 c,.int .i64 f,.bool h,.int .u64 x,.imm (.int .u8) v,.imm (.int .u8) m,.imm (.int .u8) d]],[]=>some ((v.length<=1000000/\m.length<=1000000,.bool (zX_ (z4_ c f h x v m) q a b c f h x v m d)))
 | _,_=>none
theorem J2_:zf_ Tryz.prog 33 (RoF QF_).sum:=by
 refine zi_ Tryz.func33 Wt_ (zc_ (s:=RoF qv_) jd_ (zc_ (s:=RoF ka_) Wb_ (zc_ (s:=RoF kb_) Wc_ (zc_ (s:=RoF QE_) J1_ (zc_ (s:=RoF QT_) jm_ (zc_ (s:=RoF wz_) Vg_ (ze_ _))))))) fun args objs p v e=>?_
 unfold QF_ at e
 split at e
 ·rename_i q a b c f h x v m d
  cases e
  refine ⟨rfl,fun hw ho hp=>?_⟩
  change List Int at v
  change List Int at m
  change List Int at d
  have hdl:d.length<=maxLen:=(hw _ (List.mem_cons_self ..) (.imm (.int .u8) d) (by simp)).2
  unfold maxLen at hdl
  clear hw ho
  have hcn:=hQ_ q
  by_cases h25:q=25
  ·subst h25
   repeat'(intro t ht;first|(cases t<;>first|(cases ht;done)|(try simp only[zh_]at ht;try(exfalso;first|contradiction|omega)))|((first|refine za_ ht ?_|refine ht ?_ ?_|refine ht.1 ?_ ?_|refine ht ?_)<;>clear ht))
   all_goals first
    | exact True.intro
    | exact hp
    | ((try simp only [zm_,zn_,zk_] at*);omega)
    | (refine ⟨congrArg AV.bool ?_,rfl⟩;unfold zX_;rw [if_pos rfl];simp_all;done)
  ·repeat'(intro t ht;first|(cases t<;>first|(cases ht;done)|(try simp only[zh_]at ht;try(exfalso;first|contradiction|omega)))|((first|refine za_ ht ?_|refine ht ?_ ?_|refine ht.1 ?_ ?_|refine ht ?_)<;>clear ht))
   all_goals first
    | exact True.intro
    | exact hp
    | ((try simp only [zm_,zn_,zk_] at*);omega)
    | (refine ⟨congrArg AV.bool ?_,rfl⟩;unfold zX_ yE_;rw [if_neg h25];simp_all;done)
    | (refine ⟨congrArg AV.bool ?_,rfl⟩;unfold zX_ yE_;rw [if_neg h25];simp_all;omega)
 ·cases e
def ba_ (R:Bool) (S:Int) (t a b c f:Int) (h:Bool) (x:Int) (v m d:List Int):Int:=if zX_ R t a b c f h x v m d=true then (if t=25 then (4+S+8 - 1).tdiv 8*8 else 4+QM_ (Zu_ t)+d.length) else 0
def QS_ (t a b:Int) (E d:List Int):List Int:=if t=25 then E++List.replicate ((8 - (4+E.length) % 8) % 8) 0 else wb_ (Zu_ t) (yE_ t a b)++d
def BD_ (t a b:Int) (E d:List Int):List Int:=zG_ t 2++zG_ (4+(QS_ t a b E d).length) 2++QS_ t a b E d
theorem yy_ {w xs:List Int} (hk:J9_ w xs=true):((wb_ w xs).length:Int)=QM_ w:=by
 unfold J9_ at hk
 obtain ⟨r,hr⟩:=Option.isSome_iff_exists.1 hk
 have hb:wb_ w xs=r:=by unfold wb_;rw [hr];rfl
 rw [hb]
 unfold wa_ at hr
 split at hr
 ·rename_i h
  have:=xh_ w xs [] r (ZB_.1 h.1).2 hr
  unfold QM_;rw [if_pos h.1,this];simp
 ·cases hr
theorem J5_ {R:Bool} {t a b c f:Int} {h:Bool} {x:Int} {v m d:List Int} (ht:t=25) (hr:zX_ R t a b c f h x v m d=true):a=0/\b=0/\d=[]/\c=32768/\h=false/\Jj_ f=true/\R=true:=by
 unfold zX_ at hr;rw [if_pos ht] at hr
 simp only [Bool.and_eq_true,decide_eq_true_eq,Bool.not_eq_true'] at hr
 obtain ⟨⟨⟨h1,h2⟩,h3⟩,⟨⟨h4,h5⟩,h6⟩,h7⟩:=hr
 exact ⟨h1,h2,List.eq_nil_of_length_eq_zero h3,h4,h5,h6,h7⟩
theorem jw_ {R:Bool} {t a b c f:Int} {h:Bool} {x:Int} {v m d:List Int} (ht:¬ t=25) (hr:zX_ R t a b c f h x v m d=true):Vm_ t=true/\qy_ c f h x v m 0 0 false 0 [] []=true/\ge_ t a=0/\J9_ (Zu_ t) (yE_ t a b)=true/\(2<=zK_ (Zu_ t)\/b=0)/\(1<=zK_ (Zu_ t)\/a=0)/\((t=65535/\(d.length:Int).tmod 8=0/\(d.length:Int)<=65520)\/(¬ t=65535/\d=[])):=by
 unfold zX_ at hr;rw [if_neg ht] at hr
 simp only [Bool.and_eq_true,Bool.or_eq_true,decide_eq_true_eq] at hr
 obtain ⟨⟨⟨⟨⟨⟨h1,h2⟩,h3⟩,h4⟩,h5⟩,h6⟩,h7⟩:=hr
 refine ⟨h1,h2,h3,h4,h5,h6,?_⟩
 split at h7
 ·rename_i h8
  simp only [Bool.and_eq_true,decide_eq_true_eq] at h7;exact .inl ⟨h8,h7⟩
 ·rename_i h8
  simp only [decide_eq_true_eq] at h7;exact .inr ⟨h8,List.eq_nil_of_length_eq_zero h7⟩
theorem wO_ {c f:Int} {h:Bool} {x:Int} {v m:List Int} (hr:z4_ c f h x v m=true):W1_ c f h x v m=(xX_ c f h x v m).length/\(xX_ c f h x v m).length<=300:=by
 have h1:W1_ c f h x v m=((QK_ c f h x v m).length:Int):=by rw [GY_,if_pos hr]
 have hrn:=kA_ hr
 have hl2:=zZ_ (n:=c) (w:=2) (by decide)
 have:((QK_ c f h x v m).length:Int)=4+Qr_ c v m:=by
  rw [hrn.2.2.2.2.2.2.2];unfold QK_;simp only [List.length_append,List.length_cons,List.length_nil];omega
 rw [vX_ hr]
 exact ⟨h1,by omega⟩
theorem Hg_ {t:Int} (h:Vm_ t=true\/t=25):0<=t/\t<=65535:=by
 rcases h with h | h
 ·have:=G3_ h;omega
 ·omega
theorem g3_ {t a b c f:Int} {h:Bool} {x:Int} {v m d:List Int} (hr:zX_ (z4_ c f h x v m) t a b c f h x v m d=true):ba_ (z4_ c f h x v m) (W1_ c f h x v m) t a b c f h x v m d=4+((QS_ t a b (xX_ c f h x v m) d).length:Int)/\(QS_ t a b (xX_ c f h x v m) d).length<=65524/\(4+(QS_ t a b (xX_ c f h x v m) d).length) % 8=0/\8<=4+(QS_ t a b (xX_ c f h x v m) d).length:=by
 unfold ba_ QS_
 rw [if_pos hr]
 by_cases ht:t=25
 ·rw [if_pos ht,if_pos ht]
  obtain ⟨_,_,_,_,_,_,hR⟩:=J5_ ht hr
  obtain ⟨e1,e2⟩:=wO_ hR
  have h4:4<=(xX_ c f h x v m).length:=by
   have:W1_ c f h x v m=4+Qr_ c v m:=by unfold W1_;rw [if_pos hR]
   have hrest:0<=Qr_ c v m:=by unfold Qr_;split<;>omega
   omega
  rw [e1,List.length_append,List.length_replicate,Int.tdiv_eq_ediv_of_nonneg (by omega)]
  omega
 ·rw [if_neg ht,if_neg ht]
  obtain ⟨k1,_,_,k4,_,_,k7⟩:=jw_ ht hr
  have hs:=yy_ k4
  have hz:=G0_ t
  rw [List.length_append]
  have hq:QM_ (Zu_ t)=4\/QM_ (Zu_ t)=12:=by
   have:=G3_ k1
   rcases this with rfl | (rfl | rfl | rfl) | (rfl | rfl) | (rfl | rfl | rfl | rfl) | (rfl | rfl | rfl | rfl | rfl | rfl)<;>decide
  rcases k7 with ⟨k8,k9,k10⟩ | ⟨_,rfl⟩
  ·have:QM_ (Zu_ t)=4:=by rw [k8];decide
   rw [Int.tmod_eq_emod_of_nonneg (by omega)] at k9
   omega
  ·simp only [List.length_nil];omega
structure okM (l:List OV):Prop where
 a:allLen l
 n:l.length<=100000
section
variable {I:Nat->Prop} {w:World} {mm:M}
end
def yq_ (q a b c f:Int) (h:Bool) (x:Int) (v m d:List Int) (q' a' b' c' f':Int) (h':Bool) (x':Int) (v' m' d':List Int):Bool:=decide (q=q') && decide (a=a') && decide (b=b') && qy_ c f h x v m c' f' h' x' v' m' && decide (d=d')
theorem Ug_ (q a b c f:Int) (h:Bool) (x:Int) (v m d:List Int):yq_ q a b c f h x v m d q a b c f h x v m d=true:=by unfold yq_;rw [g4_];simp
def UT_:IR:=
(sq (kr [0] [oD 1 (.boxv 0),
oD 2 (.mov cF)])
(sq (kr [1] [oA 3 3 1,
oK 4 6 3,
oC 5 28 [4],
oM 6 5,
oT 6 7 (.fieldAddr 9 1),
oT 6 8 (.load none 7),
oT 6 9 (.len 8),
oT 6 10 (.bin .leq 9 (cI 500)),
oP 11 6 10 cF,
oM 2 11])
.ret))
def Up_:List RD:=[.tmp 2 true none]
theorem UB_:zl_ Tryz.prog Tryz.f9 UT_ Up_=true:=by kernel_rfl
def wC_:List AV->List Obj->Option (Prop × AV)
 | [.agg [.int .i64 q,.int .u64 a,.int .u64 b,.int .i64 c,.int .i64 f,.bool h,.int .u64 x,.imm (.int .u8) v,.imm (.int .u8) m,.imm (.int .u8) d]],[]=>some ((True,.bool (decide (v.length<=300) && decide (m.length<=300) && decide (d.length<=500))))
 | _,_=>none
theorem Vj_:zf_ Tryz.prog 9 (RoF wC_).sum:=by
 refine zi_ Tryz.func9 UB_ (zc_ (s:=RoF wD_) Vk_ (ze_ _)) fun args objs p v e=>?_
 unfold wC_ at e
 split at e
 ·rename_i q a b c f h x v m d
  cases e
  refine ⟨rfl,fun hw ho hp=>?_⟩
  change List Int at v
  change List Int at m
  change List Int at d
  clear hw ho
  repeat'(intro t ht;first|(cases t<;>first|(cases ht;done)|(try simp only[zh_]at ht;try(exfalso;first|contradiction|omega)))|((first|refine za_ ht ?_|refine ht ?_ ?_|refine ht.1 ?_ ?_|refine ht ?_)<;>clear ht))
  all_goals first
   | exact True.intro
   | (refine ⟨congrArg AV.bool ?_,rfl⟩;simp_all;done)
   | (refine ⟨congrArg AV.bool ?_,rfl⟩;simp_all;omega)
 ·cases e
def ul_:IR:=
(sq (kr [0,1] [oD 2 (.boxv 0),
oD 3 (.boxv 1),
oD 4 (.mov cF)])
(sq (kr [2,3] [oA 5 0 2,
oL 6 5,
oA 7 0 3,
oL 8 7,
oB 9 .eql 6 8,
oM 10 9,
oT 10 11 (.fieldAddr 1 2),
oT 10 12 (.load none 11),
oT 10 13 (.fieldAddr 1 3),
oT 10 14 (.load none 13),
oT 10 15 (.bin .eql 12 14),
oP 16 10 15 cF,
oM 17 16,
oT 17 18 (.fieldAddr 2 2),
oT 17 19 (.load none 18),
oT 17 20 (.fieldAddr 2 3),
oT 17 21 (.load none 20),
oT 17 22 (.bin .eql 19 21),
oP 23 17 22 cF,
oM 24 23,
oT 24 25 (.fieldAddr 3 2),
oT 24 26 (.load (some 6) 25),
oT 24 27 (.fieldAddr 3 3),
oT 24 28 (.load (some 6) 27),
oT 24 29 (.call false (.f 42) [26,28]),
oP 30 24 29 cF,
oM 31 30,
oT 31 32 (.fieldAddr 9 2),
oT 31 33 (.load none 32),
oT 31 34 (.fieldAddr 9 3),
oT 31 35 (.load none 34),
oT 31 36 (.call false (.f 43) [33,35]),
oP 37 31 36 cF,
oM 4 37])
.ret))
def Vy_:List RD:=[.tmp 4 true none]
theorem VR_:zl_ Tryz.prog Tryz.f27 ul_ Vy_=true:=by kernel_rfl
def jW_:List AV->List Obj->Option (Prop × AV)
 | [.agg [.int .i64 q,.int .u64 a,.int .u64 b,.int .i64 c,.int .i64 f,.bool h,.int .u64 x,.imm (.int .u8) v,.imm (.int .u8) m,.imm (.int .u8) d],.agg [.int .i64 q',.int .u64 a',.int .u64 b',.int .i64 c',.int .i64 f',.bool h',.int .u64 x',.imm (.int .u8) v',.imm (.int .u8) m',.imm (.int .u8) d']],[]=>some ((True,.bool (yq_ q a b c f h x v m d q' a' b' c' f' h' x' v' m' d')))
 | _,_=>none
theorem Yh_:zf_ Tryz.prog 27 (RoF jW_).sum:=by
 refine zi_ Tryz.func27 VR_ (zc_ (s:=RoF kW_) Jh_ (zc_ (s:=RoF QY_) jr_ (ze_ _))) fun args objs p v e=>?_
 unfold jW_ at e
 split at e
 ·rename_i q a b c f h x v m d q' a' b' c' f' h' x' v' m' d'
  cases e
  refine ⟨rfl,fun hw ho hp=>?_⟩
  change List Int at v
  change List Int at m
  change List Int at d
  change List Int at v'
  change List Int at m'
  change List Int at d'
  clear hw ho
  repeat'(intro t ht;first|(cases t<;>first|(cases ht;done)|(try simp only[zh_]at ht;try(exfalso;first|contradiction|omega)))|((first|refine za_ ht ?_|refine ht ?_ ?_|refine ht.1 ?_ ?_|refine ht ?_)<;>clear ht))
  all_goals first
   | exact True.intro
   | (refine ⟨congrArg AV.bool ?_,rfl⟩;unfold yq_;simp_all;done)
 ·cases e
def xK_:IR:=
(sq (kr [0] [oD 1 (.boxv 0),
oD 2 (.box [.int .i64 0,.int .u64 0,.int .u64 0,.int .i64 0,.int .i64 0,.kb false,.int .u64 0,.imm (.int .u8) [],.imm (.int .u8) [],.imm (.int .u8) []])])
(sq (kr [1,2] [oA 4 9 1,
oL 5 4,
oE 6 5,
oD 7 (.mkrow (.int .u8) 1 (0:Int) 6 6),
oM 3 7])
(sq (.reg [oM 8 3,
oA 9 9 1,
oL 10 9,
oD 11 (.copy (.int .u8) 8 10)])
(sq (kr [1,2,3] [oM 12 3,
oA 13 3 1,
oK 14 6 13,
oC 15 36 [14],
oA 16 9 1,
oS 1 16 12,
oA 17 3 1,
oS 6 17 15])
(sq (.reg [oK 18 10 1,
oS 10 2 18])
.ret)))))
def xc_:List RD:=[.cell 2 (some 10) false []]
theorem xt_:zl_ Tryz.prog Tryz.f21 xK_ xc_=true:=by kernel_rfl
def qP_:List AV->List Obj->Option (Prop × AV × List Obj)
 | [.agg [.int .i64 q,.int .u64 a,.int .u64 b,.int .i64 c,.int .i64 f,.bool h,.int .u64 x,.imm (.int .u8) v,.imm (.int .u8) m,.imm (.int .u8) d]],[]=>some ((d.length<=1000000/\v.length<=100000/\m.length<=100000,.agg [.int .i64 q,.int .u64 a,.int .u64 b,.int .i64 c,.int .i64 f,.bool h,.int .u64 x,.view 0 0 v.length,.view 0 v.length m.length,.own 1],[.row false (.int .u8) (v++m),.row false (.int .u8) d]))
 | _,_=>none
theorem k4_:zf_ Tryz.prog 21 (RwF qP_).sum:=by
 refine wP_ Tryz.func21 xt_ (zc_ (s:=RwF j2_) Yn_ (ze_ _)) fun args objs p v o e=>?_
 unfold qP_ at e
 split at e
 ·rename_i q a b c f h x v m d
  cases e
  refine ⟨rfl,fun hw ho hp=>?_⟩
  change List Int at v
  change List Int at m
  change List Int at d
  clear hw ho
  have k1:(List.replicate d.length (0:Int)).length=d.length:=List.length_replicate
  have k2:d.take d.length=d:=List.take_length
  repeat'(intro t ht;first|(cases t<;>first|(cases ht;done)|(try simp only[zh_]at ht;try(exfalso;first|contradiction|omega)))|((first|refine za_ ht ?_|refine ht ?_ ?_|refine ht.1 ?_ ?_|refine ht ?_)<;>clear ht))
  all_goals first
   | exact True.intro
   | exact hp.2
   | exact ⟨hp.2.1,hp.2.2⟩
   | omega
   | ((try simp only [zm_,zn_,zk_] at*);omega)
   | (simp only [Zi_,Int.toNat_natCast,k1,k2,List.drop_of_length_le (Nat.le_of_eq k1),List.append_nil,Nat.min_self];first | omega | exact ⟨rfl,by first | rfl | exact True.intro⟩)
 ·cases e
abbrev AC:=Int × Int × Int × OV × List Int × Unit
instance:DecidableEq (OV × List Int × Unit):=inferInstance
instance:DecidableEq (Int × OV × List Int × Unit):=inferInstance
instance:DecidableEq AC:=inferInstance
def Bd_ (a:AC):Prop:=a.2.2.2.1.2.2.2.2.1.length<=100000/\a.2.2.2.1.2.2.2.2.2.1.length<=100000/\a.2.2.2.2.1.length<=100000
theorem bi_ {a:AC} (h:Bd_ a):a.2.2.2.1.2.2.2.2.1.length<=1000000/\a.2.2.2.1.2.2.2.2.2.1.length<=1000000:=⟨Nat.le_trans h.1 (by decide),Nat.le_trans h.2.1 (by decide)⟩
structure okL (l:List AC):Prop where
 a:∀ o ∈ l,Bd_ o
 n:l.length<=1000000
def fwA (a:AC):Bool:=decide (a.2.2.2.1.2.2.2.2.1.length<=300) && decide (a.2.2.2.1.2.2.2.2.2.1.length<=300) && decide (a.2.2.2.2.1.length<=500)
theorem Bg_ {a:AC} (h:(a.2.2.2.1.2.2.2.2.1.length<=300/\a.2.2.2.1.2.2.2.2.2.1.length<=300)/\a.2.2.2.2.1.length<=500):fwA a=true:=by unfold fwA;simp [h.1.1,h.1.2,h.2]
theorem Bh_ {a:AC} (h:(¬ a.2.2.2.1.2.2.2.2.1.length<=300\/¬ a.2.2.2.1.2.2.2.2.2.1.length<=300)\/¬ a.2.2.2.2.1.length<=500):fwA a=false:=by unfold fwA;rcases h with (h | h) | h<;>simp [h]
def vU_ (l:List AC):Bool:=l.all fwA && decide (l.length<=80)
theorem vT_ {l:List AC} (h:vU_ l=true):okL l/\l.length<=80:=by
 unfold vU_ at h
 simp only [Bool.and_eq_true,decide_eq_true_eq] at h
 refine ⟨⟨fun o ho=>?_,by omega⟩,h.2⟩
 have:=List.all_eq_true.1 h.1 o ho
 unfold fwA at this
 simp only [Bool.and_eq_true,decide_eq_true_eq] at this
 exact ⟨by omega,by omega,by omega⟩
def UR_:IR:=
(sq (kr [0] [oD 2 (.mov cF)])
(sq (sq (.reg [oD 3 (.mov (cI 0))])
(.block 0
(.loop
(sq (sq (kr [0,3] [oM 4 3,
oM 5 0,
oE 6 5,
oB 7 .lss 4 6])
(.cond 7
.skip
(.exit 0)))
(sq (.block 1
(sq (kr [0,3] [oM 10 0,
oM 11 3,
oI 12 10 10 11,
oK 13 10 12,
oC 14 9 [13],
oD 15 (.un .not 14)])
(.cond 15
(sq (kr [] [oD 2 (.mov cF)])
.ret)
.skip)))
(kr [0,3] [oM 8 3,
oB 9 .add 8 (cI 1),
oM 3 9]))))))
(sq (kr [0] [oM 16 0,
oE 17 16,
oB 18 .leq 17 (cI 80),
oM 2 18])
.ret)))
def Un_:List RD:=[.tmp 2 true none]
theorem Uz_:zl_ Tryz.prog Tryz.f4 UR_ Un_=true:=by kernel_rfl
def wA_:List AV->List Obj->Option (Prop × AV)
 | [.imm ty0 l],[]=>Zj_ ty0 Y2 l fun l=>some ((True,.bool (vU_ l)))
 | _,_=>none
theorem Vh_:zf_ Tryz.prog 4 (RoF wA_).sum:=by
 refine zi_ Tryz.func4 Uz_ (zc_ (s:=RoF wC_) Vj_ (ze_ _)) fun args objs p v e=>?_
 unfold wA_ at e
 split at e
 ·rename_i ty0 l
  obtain rfl:=zz_ e
  replace e:=zA_ e
  cases e
  refine ⟨rfl,fun hw ho hp=>?_⟩
  change List AC at l
  have hl:l.length<=maxLen:=(hw (.imm Y2 l) (by simp)).2
  unfold maxLen at hl
  clear hw ho
  repeat'(intro t ht;first|(cases t<;>first|(cases ht;done)|(try simp only[zh_]at ht))|((first|refine za_ ht ?_|refine ht ?_ ?_|refine ht.1 ?_ ?_|refine ht ?_)<;>clear ht))
  all_goals first
   | (intro r h1 h2;clear h1;refine h2 ⟨[0,3],Nat,(fun i=>i<=l.length/\(l.take i).all fwA=true),fun i=>[.imm Y2 l,.int .i64 i],fun _=>[],fun i=>l.length - i,⟨0,⟨Nat.zero_le _,rfl⟩,rfl,rfl⟩,?_⟩;clear h2)
  rintro i ⟨hi,he⟩
  repeat'(intro t ht;first|(cases t<;>first|(cases ht;done)|(try simp only[zh_]at ht;try(exfalso;first|contradiction|omega)))|((first|refine za_ ht ?_|refine ht ?_ ?_|refine ht.1 ?_ ?_|refine ht ?_)<;>clear ht))
  all_goals (try generalize (Ty.dflt Y2)=od at*)
  all_goals first
   | exact True.intro
   | ((try simp only [zm_,zn_,zk_] at*);omega)
   | (have h:=h5_ (by omega) he
      refine ⟨?_,rfl⟩;unfold vU_;rw [h,Bool.true_and];congr 1;exact decide_eq_decide.2 (by omega))
   | (have hf:=Bg_ ht
      exact ⟨i+1,⟨by omega,GJ_ (d:=od) (by omega) he hf⟩,by dsimp only;omega,rfl,rfl⟩)
   | (have hf:=Bh_ ht
      have h:vU_ l=false:=by unfold vU_;rw [h4_ (d:=od) (show i < l.length by omega) hf,Bool.false_and]
      refine ⟨?_,rfl⟩;rw [h];done)
 ·cases e
def smA (a b:AC):Bool:=yq_ a.1 a.2.1 a.2.2.1 a.2.2.2.1.1 a.2.2.2.1.2.1 a.2.2.2.1.2.2.1 a.2.2.2.1.2.2.2.1 a.2.2.2.1.2.2.2.2.1 a.2.2.2.1.2.2.2.2.2.1 a.2.2.2.2.1 b.1 b.2.1 b.2.2.1 b.2.2.2.1.1 b.2.2.2.1.2.1 b.2.2.2.1.2.2.1 b.2.2.2.1.2.2.2.1 b.2.2.2.1.2.2.2.2.1 b.2.2.2.1.2.2.2.2.2.1 b.2.2.2.2.1
theorem b5_ {a b:AC} (h:smA a b=true):a=b:=by
 obtain ⟨a1,a2,a3,⟨a4,a5,a6,a7,a8,a9,_⟩,a10,_⟩:=a
 obtain ⟨b1,b2,b3,⟨b4,b5,b6,b7,b8,b9,_⟩,b10,_⟩:=b
 unfold smA yq_ qy_ at h
 simp only [Bool.and_eq_true,decide_eq_true_eq,beq_iff_eq] at h
 obtain ⟨⟨⟨⟨h1,h2⟩,h3⟩,⟨⟨⟨⟨⟨h4,h5⟩,h7⟩,h6⟩,h8⟩,h9⟩⟩,h10⟩:=h
 rw [h1,h2,h3,h4,h5,h6,h7,h8,h9,h10]
theorem b6_ {a b:AC} (h:smA a b=false):¬ a=b:=fun e=>by
 rw [e] at h;unfold smA at h;rw [Ug_] at h;cases h
def ui_:IR:=
(sq (kr [0,1] [oD 4 (.mov cF)])
(sq (sq (kr [0,1] [oM 6 0,
oE 7 6,
oM 8 1,
oE 9 8,
oB 10 .neq 7 9])
(.cond 10
(sq (.reg [oD 4 (.mov cF)])
.ret)
.skip))
(sq (sq (kr [0,1] [oD 5 (.mov (cI 0))])
(.block 0
(.loop
(sq (sq (kr [0,1,5] [oM 11 5,
oM 12 0,
oE 13 12,
oB 14 .lss 11 13])
(.cond 14
.skip
(.exit 0)))
(sq (.block 1
(sq (kd [0,1,5] [(oM 17 0,[]),
(oM 18 5,[0]),
(oI 19 10 17 18,[]),
(oK 20 10 19,[]),
(oM 21 1,[0,0,0,0]),
(oM 22 5,[0,0,0,0,0]),
(oI 23 10 21 22,[2,0,0,0]),
(oK 24 10 23,[3,0,0,0]),
(oC 25 27 [20,24],[]),
(oD 26 (.un .not 25),[])])
(.cond 26
(sq (kr [] [oD 4 (.mov cF)])
.ret)
.skip)))
(kr [0,1,5] [oM 15 5,
oB 16 .add 15 (cI 1),
oM 5 16]))))))
(sq (kr [] [oD 4 (.mov cT)])
.ret))))
def Vv_:List RD:=[.tmp 4 true none]
theorem VO_:zl_ Tryz.prog Tryz.f8 ui_ Vv_=true:=by kernel_rfl
def kT_:List AV->List Obj->Option (Prop × AV)
 | [.imm ty0 a,.imm ty1 b],[]=>Zj_ ty0 Y2 a fun a=>Zj_ ty1 Y2 b fun b=>some ((True,.bool (decide ((a:List AC)=b))))
 | _,_=>none
theorem Jg_:zf_ Tryz.prog 8 (RoF kT_).sum:=by
 refine zi_ Tryz.func8 VO_ (zc_ (s:=RoF jW_) Yh_ (ze_ _)) fun args objs p v e=>?_
 unfold kT_ at e
 split at e
 ·rename_i ty0 a ty1 b
  obtain rfl:=zz_ e
  replace e:=zA_ e
  obtain rfl:=zz_ e
  replace e:=zA_ e
  cases e
  refine ⟨rfl,fun hw ho hp=>?_⟩
  change List AC at a
  change List AC at b
  have hl:a.length<=maxLen:=(hw (.imm Y2 a) (by simp)).2
  unfold maxLen at hl
  clear hw ho
  repeat'(intro t ht;first|(cases t<;>first|(cases ht;done)|(try simp only[zh_]at ht))|((first|refine za_ ht ?_|refine ht ?_ ?_|refine ht.1 ?_ ?_|refine ht ?_)<;>clear ht))
  all_goals first
   | (have hne:a ≠ b:=fun h=>(by assumption:¬ (a.length:Int)=b.length) (by rw [h])
      refine ⟨?_,rfl⟩;rw [decide_eq_false hne];done)
   | (intro r h1 h2;clear h1;refine h2 ⟨[0,1,5],Nat,(fun i=>i<=a.length/\a.take i=b.take i),fun i=>[.imm Y2 a,.imm Y2 b,.int .i64 i],fun _=>[],fun i=>a.length - i,⟨0,⟨Nat.zero_le _,rfl⟩,rfl,rfl⟩,?_⟩;clear h2)
  rintro i ⟨hi,he⟩
  have hl2:a.length=b.length:=by omega
  repeat'(intro t ht;first|(cases t<;>first|(cases ht;done)|(try simp only[zh_]at ht;try(exfalso;first|contradiction|omega)))|((first|refine za_ ht ?_|refine ht ?_ ?_|refine ht.1 ?_ ?_|refine ht ?_)<;>clear ht))
  all_goals (try generalize (Ty.dflt Y2)=od at*)
  all_goals first
   | exact True.intro
   | ((try simp only [zm_,zn_,zk_] at*);omega)
   | (have e:=H9_ he (by omega) hl2
      refine ⟨?_,rfl⟩;rw [decide_eq_true e];done)
   | (have hs:smA (a.getD i od) (b.getD i od)=false:=by assumption
      have hne:a ≠ b:=b4_ (d:=od) (i:=i) (b6_ hs)
      refine ⟨?_,rfl⟩;rw [decide_eq_false hne];done)
   | (have hs:smA (a.getD i od) (b.getD i od)=true:=by assumption
      exact ⟨i+1,⟨by omega,GT_ he (by omega) hl2 (d:=od) (b5_ hs)⟩,by (try simp only [zm_,zn_,zk_] at*);omega,rfl,rfl⟩)
 ·cases e
theorem hN_ (a:AC):((a.1,a.2.1,a.2.2.1,(a.2.2.2.1.1,a.2.2.2.1.2.1,a.2.2.2.1.2.2.1,a.2.2.2.1.2.2.2.1,((a.2.2.2.1.2.2.2.2.1++a.2.2.2.1.2.2.2.2.2.1).drop 0).take a.2.2.2.1.2.2.2.2.1.length,((a.2.2.2.1.2.2.2.2.1++a.2.2.2.1.2.2.2.2.2.1).drop a.2.2.2.1.2.2.2.2.1.length).take a.2.2.2.1.2.2.2.2.2.1.length,()),a.2.2.2.2.1,()):AC)=a:=by
 rw [List.drop_zero,List.take_left,List.drop_left,List.take_length]
theorem kc_ {α:Type} {l:List α} {i:Nat} {d:α} (h:i < l.length):l.take i++[l.getD i d]=l.take (i+1):=by
 rw [List.take_succ_eq_append_getElem h,List.getD_eq_getElem?_getD,List.getElem?_eq_getElem h];rfl
def vP_:IR:=
(sq (kr [0] [oD 2 (.mov (.c (.imm Y2 [])))])
(sq (.reg [oM 6 0,
oE 7 6,
oD 8 (.mkrow Y2 128 ((0:Int),((0:Int),((0:Int),(((0:Int),((0:Int),(false,((0:Int),(([]:List (Ty.den (.int .u8))),(([]:List (Ty.den (.int .u8))),())))))),(([]:List (Ty.den (.int .u8))),()))))) (cI 0) 7),
oM 3 8])
(sq (sq (.reg [oM 9 0,
oE 10 9,
oD 11 (.mov (cI 0))])
(.block 0
(.loop
(sq (kr [3,9,10,11] [oB 12 .lss 11 10])
(sq (.cond 12
.skip
(.exit 0))
(sq (.block 1
(sq (.reg [oI 13 10 9 11,
oK 14 10 13,
oD 5 (.box [.int .i64 0,.int .u64 0,.int .u64 0,.int .i64 0,.int .i64 0,.kb false,.int .u64 0,.imm (.int .u8) [],.imm (.int .u8) [],.imm (.int .u8) []]),
oS 10 5 14])
(kr [3,5,9,10,11] [oM 15 3,
oK 16 10 5,
oC 17 21 [16],
oD 18 (.sliceAll Y2 1 [(0,10,17)]),
oD 19 (.append Y2 128 15 18),
oM 3 19])))
(kr [3,9,10,11] [oB 20 .add 11 (cI 1),
oM 11 20])))))))
(sq (kr [3] [oM 21 3,
oM 2 21])
.ret))))
def YT_:List RD:=[.tmp 2 false none]
theorem vk_:zl_ Tryz.prog Tryz.f16 vP_ YT_=true:=by kernel_rfl
def QZ_:List AV->List Obj->Option (Prop × AV × List Obj)
 | [.imm ty0 l],[]=>Zj_ ty0 Y2 l fun l=>some ((okL l,.own 0,[.row false Y2 l]))
 | _,_=>none
theorem js_:zf_ Tryz.prog 16 (RwF QZ_).sum:=by
 refine wP_ Tryz.func16 vk_ (zc_ (s:=RwF qP_) k4_ (ze_ _)) fun args objs p v o e=>?_
 unfold QZ_ at e
 split at e
 ·rename_i ty0 l
  obtain rfl:=zz_ e
  replace e:=zA_ e
  cases e
  refine ⟨rfl,fun hw ho hp=>?_⟩
  change List AC at l
  clear hw ho
  have hn:=hp.n
  repeat'(intro t ht;first|(cases t<;>first|(cases ht;done)|(try simp only[zh_]at ht))|((first|refine za_ ht ?_|refine ht ?_ ?_|refine ht.1 ?_ ?_|refine ht ?_)<;>clear ht))
  all_goals first
   | exact True.intro
   | ((try simp only [zm_,zn_,zk_] at*);omega)
   | (intro r h1 h2;clear h1;refine h2 ⟨[3,9,10,11],Nat,(fun i=>i<=l.length),fun i=>[.own 0,.imm Y2 l,.int .i64 l.length,.int .i64 i],fun i=>[.row false Y2 (l.take i)],fun i=>l.length - i,⟨0,Nat.zero_le _,rfl,rfl⟩,?_⟩;clear h2)
  rintro i hi
  repeat'(intro t ht;first|(cases t<;>first|(cases ht;done)|(try simp only[zh_]at ht;try(exfalso;first|contradiction|omega)))|((first|refine za_ ht ?_|refine ht ?_ ?_|refine ht.1 ?_ ?_|refine ht ?_)<;>clear ht))
  all_goals (try generalize (Ty.dflt Y2)=od at*)
  all_goals first
   | exact True.intro
   | ((try simp only [zm_,zn_,zk_] at*);omega)
   | (rw [List.take_of_length_le (show l.length<=i by omega)];exact ⟨rfl,rfl⟩)
   | (have hlt:i < l.length:=by omega
      have hln:=hp.a _ (zM_ hlt od)
      have htk:(l.take i).length=i:=Jb_ hi
      first
       | exact ⟨by have:=hln.2.2;exact Nat.le_trans this (by decide),hln.1,hln.2.1⟩
       | (simp only [Zi_,List.length_cons,List.length_nil];constructor<;>omega)
       | (simp only [List.length_append,Int.toNat_natCast];omega)
       | (refine ⟨i+1,by omega,by dsimp only;omega,rfl,?_⟩
          dsimp only
          rw [<- kc_ (d:=od) hlt]
          simp only [Zi_,Int.toNat_natCast,hN_]))
 ·cases e
def vH_:IR:=
(sq (kr [0,1] [oD 4 (.nilrow (.int .u8)),
oD 5 (.mov cF)])
(sq (sq (kr [0,1] [oM 9 0,
oC 10 78 [9],
oD 11 (.un .not 10),
oM 12 11,
oF 12 13 (.mov 0),
oF 12 14 (.call false (.f 77) [13]),
oF 12 15 (.mov 1),
oF 12 16 (.len 15),
oF 12 17 (.bin .neq 14 16),
oP 18 12 cT 17])
(.cond 18
(sq (kr [] [oD 4 (.nilrow (.int .u8)),
oD 5 (.mov cF)])
.ret)
.skip))
(sq (kr [0,1] [oD 6 (.nilrow (.int .u8))])
(sq (.reg [oD 7 (.mov (cI 0))])
(sq (sq (.reg [oD 8 (.mov (cI 0))])
(.block 0
(.loop
(sq (sq (kr [0,1,6,7,8] [oM 19 8,
oM 20 0,
oE 21 20,
oB 22 .lss 19 21])
(.cond 22
.skip
(.exit 0)))
(sq (.block 1
(sq (sq (kr [0,1,6,7,8] [oM 25 0,
oM 26 8,
oI 27 1 25 26,
oL 28 27,
oB 29 .lss 28 (cI 0)])
(.cond 29
(sq (kr [0,1,6,7,8] [oM 30 6,
oM 31 0,
oM 32 8,
oI 33 1 31 32,
oL 34 33,
oD 35 (.un .neg 34),
oD 36 (.appendz (.int .u8) 1 (0:Int) 30 35),
oM 6 36])
(.exit 1))
.skip))
(sq (sq (kd [0,1,6,7,8] [(oM 37 1,[]),
(oM 38 7,[0]),
(oI 39 1 37 38,[]),
(oL 40 39,[]),
(oM 41 0,[0,0,0,0]),
(oM 42 8,[0,0,0,0,0]),
(oI 43 1 41 42,[2,0,0,0]),
(oL 44 43,[3,0,0,0]),
(oC 45 79 [40,44],[]),
(oD 46 (.un .not 45),[])])
(.cond 46
(sq (kr [] [oD 4 (.nilrow (.int .u8)),
oD 5 (.mov cF)])
.ret)
.skip))
(sq (kd [0,1,6,7,8] [(oM 47 6,[]),
(oM 48 1,[0]),
(oM 49 7,[0,0]),
(oI 50 1 48 49,[2]),
(oL 51 50,[3]),
(oM 52 0,[0,0,0,0,0]),
(oM 53 8,[0,0,0,0,0,0]),
(oI 54 1 52 53,[2,0,0,0,0]),
(oL 55 54,[3,0,0,0,0]),
(oC 56 54 [51,55],[8]),
(oD 57 (.append (.int .u8) 1 47 56),[]),
(oM 6 57,[])])
(kr [0,1,6,7,8] [oM 58 7,
oB 59 .add 58 (cI 1),
oM 7 59])))))
(kr [0,1,6,7,8] [oM 23 8,
oB 24 .add 23 (cI 1),
oM 8 24]))))))
(sq (kr [6] [oM 60 6,
oM 4 60,
oD 5 (.mov cT)])
.ret))))))
def YL_:List RD:=[.tmp 4 false none,.tmp 5 false none]
theorem vc_:zl_ Tryz.prog Tryz.f69 vH_ YL_=true:=by kernel_rfl
def KL_:List AV->List Obj->Option (Prop × AV × List Obj)
 | [.imm (.int .i64) w,.imm (.int .u64) xs],[]=>some ((True,.tup [.own 0,.bool (J9_ w xs)],[.row false (.int .u8) (wb_ w xs)]))
 | _,_=>none
theorem Xz_:zf_ Tryz.prog 69 (RwF KL_).sum:=by
 refine wP_ Tryz.func69 vc_ (zc_ (s:=RoF QW_) jp_ (zc_ (s:=RoF QX_) jq_ (zc_ (s:=RoF jZ_) Yk_ (zc_ (s:=RwF ko_) Ki_ (ze_ _))))) fun args objs p v o e=>?_
 unfold KL_ at e
 split at e
 ·rename_i w xs
  cases e
  refine ⟨rfl,fun hw ho hp=>?_⟩
  change List Int at w
  change List Int at xs
  have hx:xs.length<=maxLen:=(hw (.imm (.int .u64) xs) (by simp)).2
  unfold maxLen at hx
  repeat'(intro t ht;first|(cases t<;>first|(cases ht;done)|(try simp only[zh_]at ht))|((first|refine za_ ht ?_|refine ht ?_ ?_|refine ht.1 ?_ ?_|refine ht ?_)<;>clear ht))
  all_goals first
   | exact True.intro
   | (intro r h1 h2;clear h1;refine h2 ⟨[0,1,6,7,8],Nat × Nat × List Int,(fun a=>a.1<=w.length/\(a.2.2.length:Int)=Qm_ qq_ w a.1/\Qm_ Zo_ w a.1=a.2.1/\jE_ w xs []=jE_ (w.drop a.1) (xs.drop a.2.1) a.2.2),fun a=>[.imm (.int .i64) w,.imm (.int .u64) xs,.own 0,.int .i64 a.2.1,.int .i64 a.1],fun a=>[.row false (.int .u8) a.2.2],fun a=>w.length - a.1,⟨(0,0,[]),⟨Nat.zero_le _,rfl,rfl,rfl⟩,rfl,rfl⟩,?_⟩;clear h2)
   | ((try simp only [zm_,zn_,zk_] at*);omega)
   | (have hn:¬ (z5_ w=true/\zK_ w=xs.length):=fun h=>by simp_all
      unfold wb_ J9_ wa_;rw [if_neg hn];exact ⟨rfl,rfl⟩)
  rintro ⟨i,k,b⟩ ⟨hi,hb,hk,he⟩
  dsimp only at hi hb hk he
  have hr:z5_ w=true:=by assumption
  have hc:zK_ w=xs.length:=by assumption
  have hsum:(w.map Zo_).sum=xs.length:=by unfold zK_ at hc;rwa [if_pos hr] at hc
  have hl:=(ZB_.1 hr).1
  have hs:=Jd_ hr i
  have h1:=Jc_ hr i
  repeat'(intro t ht;first|(cases t<;>first|(cases ht;done)|(try simp only[zh_]at ht))|((first|refine za_ ht ?_|refine ht ?_ ?_|refine ht.1 ?_ ?_|refine ht ?_)<;>clear ht))
  all_goals first
   | ((try simp only [zm_,zn_,zk_] at*);omega)
   | (have hge:w.length<=i:=by omega
      rw [List.drop_of_length_le hge] at he
      have hf:wa_ w xs=some b:=by unfold wa_;rw [if_pos ⟨hr,hc⟩,he];rfl
      unfold wb_ J9_;rw [hf];exact ⟨rfl,rfl⟩)
   | skip
  all_goals have hlt:i < w.length:=by omega
  all_goals have hkk:=(ZB_.1 hr).2 _ (zM_ (α:=Int) hlt 0)
  all_goals first
   | ((try simp only [zm_,zn_,zk_] at*);omega)
   | (have hn:w.getD i 0 < 0:=by assumption
      have ha:=Xf_ hn
      have h0:Zo_ (w.getD i 0)=0:=if_neg (by omega)
      have hbl:=zZ_ (n:=0) (w:=0 - w.getD i 0) (by omega)
      first
       | ((try simp only [zm_,zn_,zk_] at*);omega)
       | (refine ⟨(i+1,k,b++zG_ 0 (0 - w.getD i 0)),⟨hlt,?_,?_,?_⟩,by dsimp only;omega,rfl,?_⟩
          ·rw [z8_ qq_ hlt,ha];simp only [List.length_append];omega
          ·rw [z8_ Zo_ hlt,h0];dsimp only;omega
          ·rw [he];exact VJ_ hlt hn
          ·dsimp only;rw [<- uQ_];rfl))
   | (have hn:¬ w.getD i 0 < 0:=by assumption
      have hlt2:=gp_ (w:=w) (i:=i) hlt (by omega)
      have h2:k < xs.length:=by omega
      first
       | ((try simp only [zm_,zn_,zk_] at*);omega)
       | (have h8:=Gs_ (by assumption) hkk.2.1
          have hf:wa_ w xs=none:=by unfold wa_;rw [if_pos ⟨hr,hc⟩,he];exact yA_ hlt hn h2 h8.1 h8.2
          unfold wb_ J9_;rw [hf];exact ⟨rfl,rfl⟩)
       | (have h8:=hF_ (by assumption)
          have ha:=v7_ hn
          have h0:Zo_ (w.getD i 0)=1:=if_pos (by omega)
          have hbl:=zZ_ (n:=xs.getD k 0) (w:=w.getD i 0) (by omega)
          first
           | (simp only [Zi_];(try simp only [zm_,zn_,zk_] at*);omega)
           | (refine ⟨(i+1,k+1,b++zG_ (xs.getD k 0) (w.getD i 0)),⟨hlt,?_,?_,?_⟩,by dsimp only;omega,rfl,rfl⟩
              ·rw [z8_ qq_ hlt,ha];simp only [List.length_append];omega
              ·rw [z8_ Zo_ hlt,h0];dsimp only;omega
              ·rw [he];exact yz_ hlt hn h2 h8)))
 ·cases e
def xD_:IR:=
(sq (kr [0] [oD 1 (.boxv 0),
oD 2 (.nilrow (.int .u8))])
(sq (.reg [oD 3 (.nilrow (.int .u8))])
(sq (sq (.reg [oA 5 0 1,
oL 6 5,
oB 7 .eql 6 (cI 65535)])
(.cond 7
(kr [1] [oA 8 3 1,
oL 9 8,
oC 10 54 [9,(cI 4)],
oM 3 10])
.skip))
(sq (kd [1,3] [(oM 11 3,[]),
(oA 12 4 1,[0]),
(oL 13 12,[1]),
(oD 14 (.append (.int .u8) 1 11 13),[]),
(oA 15 5 1,[0,0,0,0]),
(oL 16 15,[1,0,0,0]),
(oD 17 (.append (.int .u8) 1 14 16),[]),
(oM 3 17,[])])
(sq (kr [1,3] [oA 18 1 1,
oL 19 18,
oB 20 .mul (cI 2) 19,
oM 4 20])
(sq (sq (.reg [oA 21 2 1,
oL 22 21])
(.cond 22
(kr [1,3,4] [oM 23 4,
oB 24 .add 23 (cI 1),
oM 4 24])
.skip))
(sq (kr [1,3,4] [oA 25 0 1,
oL 26 25,
oD 27 (.conv .u64 26),
oC 28 54 [27,(cI 2)],
oM 29 4,
oD 30 (.conv .u8 29),
oM 31 3,
oE 32 31,
oD 33 (.conv .u8 32),
oD 34 (.sliceAll (.int .u8) 2 [(0,1,30),(1,1,33)]),
oD 35 (.append (.int .u8) 1 28 34),
oM 36 3,
oD 37 (.append (.int .u8) 1 35 36),
oM 2 37])
.ret)))))))
def W5_:List RD:=[.tmp 2 false none]
theorem xm_:zl_ Tryz.prog Tryz.f65 xD_ W5_=true:=by kernel_rfl
def Q6_:List AV->List Obj->Option (Prop × AV × List Obj)
 | [.agg [.int .i64 c,.int .i64 f,.bool h,.int .u64 x,.imm (.int .u8) v,.imm (.int .u8) m]],[]=>some ((0<=f/\f<=127/\0<=c/\c<=65535/\v.length<=100/\m.length<=100,.own 0,[.row false (.int .u8) (QK_ c f h x v m)]))
 | _,_=>none
theorem w7_:zf_ Tryz.prog 65 (RwF Q6_).sum:=by
 refine wP_ Tryz.func65 xm_ (zc_ (s:=RwF ko_) Ki_ (ze_ _)) fun args objs p v o e=>?_
 unfold Q6_ at e
 split at e
 ·rename_i c f h x v m
  cases e
  refine ⟨rfl,fun hw ho hp=>?_⟩
  change List Int at v
  change List Int at m
  have hx:=zZ_ (n:=x) (w:=4) (by decide)
  have hc2:=zZ_ (n:=c) (w:=2) (by decide)
  cases h<;>by_cases hc:c=65535
  all_goals repeat'(intro t ht;first|(cases t<;>first|(cases ht;done)|(try simp only[zh_]at ht))|((first|refine za_ ht ?_|refine ht ?_ ?_|refine ht.1 ?_ ?_|refine ht ?_)<;>clear ht))
  all_goals first
   | exact True.intro
   | exact (by decide)
   | contradiction
   | ((try simp only [zm_,zn_,zk_] at*);omega)
   | (simp only [List.length_append,List.length_cons,List.length_nil,Zi_];(try simp only [zm_,zn_,zk_] at*);omega)
   | (refine ⟨rfl,?_⟩;(try simp only [Zi_]);unfold QK_ x8_;simp_all;done)
 ·cases e
def US_:IR:=
(sq (kr [0] [oD 2 (.mov (.c (.imm (.int .i64) []))),
oD 3 (.mov cF)])
(sq (sq (.reg [oM 4 0])
(.block 0
(sq (.reg [oB 6 .eql 4 (cI 0),
oM 5 6])
(.cond 5
(sq (.reg [oD 7 (.sliceAll (.int .i64) 3 [(0,1,(cI 4)),(1,1,(cI 2)),(2,1,(cI (-6)))]),
oM 2 7,
oD 3 (.mov cT)])
.ret)
(sq (sq (.reg [oB 9 .eql 4 (cI 22),
oM 8 9])
(.cond 8
.skip
(sq (kr [4] [oB 10 .eql 4 (cI 21),
oM 8 10])
(.cond 8
.skip
(.reg [oB 11 .eql 4 (cI 65535),
oM 8 11])))))
(.cond 8
(sq (kr [] [oD 12 (.sliceAll (.int .i64) 1 [(0,1,(cI 4))]),
oM 2 12,
oD 3 (.mov cT)])
.ret)
(sq (sq (kr [4] [oB 14 .eql 4 (cI 15),
oM 13 14])
(.cond 13
.skip
(.reg [oB 15 .eql 4 (cI 23),
oM 13 15])))
(.cond 13
(sq (.reg [oD 16 (.sliceAll (.int .i64) 2 [(0,1,(cI 1)),(1,1,(cI (-3)))]),
oM 2 16,
oD 3 (.mov cT)])
.ret)
(sq (sq (.reg [oB 18 .eql 4 (cI 11),
oM 17 18])
(.cond 17
.skip
(sq (kr [4] [oB 19 .eql 4 (cI 12),
oM 17 19])
(.cond 17
.skip
(sq (.reg [oB 20 .eql 4 (cI 16),
oM 17 20])
(.cond 17
.skip
(sq (.reg [oB 21 .eql 4 (cI 18),
oM 17 21])
(.cond 17
.skip
(sq (kr [4] [oB 22 .eql 4 (cI 24),
oM 17 22])
(.cond 17
.skip
(.reg [oB 23 .eql 4 (cI 27),
oM 17 23])))))))))))
(.cond 17
(sq (kr [] [oD 24 (.sliceAll (.int .i64) 1 [(0,1,(cI (-4)))]),
oM 2 24,
oD 3 (.mov cT)])
.ret)
(sq (sq (kr [4] [oB 26 .eql 4 (cI 17),
oM 25 26])
(.cond 25
.skip
(sq (.reg [oB 27 .eql 4 (cI 19),
oM 25 27])
(.cond 25
.skip
(sq (.reg [oB 28 .eql 4 (cI 20),
oM 25 28])
(.cond 25
.skip
(kr [4] [oB 29 .eql 4 (cI 26),
oM 25 29])))))))
(.cond 25
(sq (kr [] [oD 30 (.sliceAll (.int .i64) 2 [(0,1,(cI 2)),(1,1,(cI (-2)))]),
oM 2 30,
oD 3 (.mov cT)])
.ret)
.skip))))))))))))
(sq (kr [] [oD 2 (.mov (.c (.imm (.int .i64) []))),
oD 3 (.mov cF)])
.ret)))
def Uo_:List RD:=[.tmp 2 true (some (.int .i64)),.tmp 3 true none]
theorem UA_:zl_ Tryz.prog Tryz.f66 US_ Uo_=true:=by kernel_rfl
def wB_:List AV->List Obj->Option (Prop × AV)
 | [.int .i64 q],[]=>some ((True,.tup [.imm (.int .i64) (Zu_ q),.bool (Vm_ q)]))
 | _,_=>none
theorem Vi_:zf_ Tryz.prog 66 (RoF wB_).sum:=by
 refine zi_ Tryz.func66 UA_ (ze_ _) fun args objs p v e=>?_
 unfold wB_ at e
 split at e
 ·rename_i q
  cases e
  refine ⟨rfl,fun hw ho hp=>?_⟩
  clear hw ho
  repeat'(intro t ht;first|(cases t<;>first|(cases ht;done)|(try simp only[zh_]at ht;try(exfalso;first|contradiction|omega)))|((first|refine za_ ht ?_|refine ht ?_ ?_|refine ht.1 ?_ ?_|refine ht ?_)<;>clear ht))
  all_goals first
   | exact True.intro
   | (have h:=gu_ (t:=q) (by omega)
      rw [h.1,h.2];exact ⟨rfl,rfl⟩)
   | (subst_vars;exact ⟨rfl,rfl⟩)
   | (have h:q=0\/(q=22\/q=21\/q=65535)\/(q=15\/q=23)\/(q=17\/q=19\/q=26\/q=20)\/(q=11\/q=12\/q=16\/q=18\/q=24\/q=27):=by omega
      rcases h with rfl | (rfl | rfl | rfl) | (rfl | rfl) | (rfl | rfl | rfl | rfl) | (rfl | rfl | rfl | rfl | rfl | rfl)<;>first | (exfalso;omega) | exact ⟨rfl,rfl⟩)
 ·cases e
def vB_:IR:=
(sq (kr [0,1] [oD 4 (.mov (cI 0))])
(sq (sq (.reg [oM 5 0])
(.block 0
(sq (.reg [oB 7 .eql 5 (cI 0),
oM 6 7])
(.cond 6
(sq (.reg [oM 8 1,
oB 9 .eql 8 (.c (.int .u64 0))])
(.cond 9
(sq (kr [] [oD 4 (.mov (cI 517))])
.ret)
.skip))
(sq (.reg [oB 11 .eql 5 (cI 22),
oM 10 11])
(.cond 10
(sq (kr [1] [oM 12 1,
oB 13 .gtr 12 (.c (.int .u64 4294967040))])
(.cond 13
(sq (.reg [oD 4 (.mov (cI 522))])
.ret)
.skip))
(sq (kr [1,5] [oB 15 .eql 5 (cI 17),
oM 14 15])
(.cond 14
(sq (kr [1] [oM 16 1,
oB 17 .neq 16 (.c (.int .u64 33024)),
oM 18 17,
oT 18 19 (.mov 1),
oT 18 20 (.bin .neq 19 (.c (.int .u64 34984))),
oP 21 18 20 cF])
(.cond 21
(sq (kr [] [oD 4 (.mov (cI 518))])
.ret)
.skip))
(sq (.reg [oB 23 .eql 5 (cI 19),
oM 22 23])
(.cond 22
(sq (kr [1] [oM 24 1,
oB 25 .neq 24 (.c (.int .u64 34887)),
oM 26 25,
oT 26 27 (.mov 1),
oT 26 28 (.bin .neq 27 (.c (.int .u64 34888))),
oP 29 26 28 cF])
(.cond 29
(sq (kr [] [oD 4 (.mov (cI 518))])
.ret)
.skip))
(sq (.reg [oB 31 .eql 5 (cI 26),
oM 30 31])
(.cond 30
(sq (kr [1] [oM 32 1,
oB 33 .neq 32 (.c (.int .u64 35047))])
(.cond 33
(sq (.reg [oD 4 (.mov (cI 518))])
.ret)
.skip))
.skip))))))))))))
(sq (kr [] [oD 4 (.mov (cI 0))])
.ret)))
def YF_:List RD:=[.tmp 4 true none]
theorem Y6_:zl_ Tryz.prog Tryz.f67 vB_ YF_=true:=by kernel_rfl
def KG_:List AV->List Obj->Option (Prop × AV)
 | [.int .i64 q,.int .u64 n],[]=>some ((True,.int .i64 (ge_ q n)))
 | _,_=>none
theorem Xu_:zf_ Tryz.prog 67 (RoF KG_).sum:=by
 refine zi_ Tryz.func67 Y6_ (ze_ _) fun args objs p v e=>?_
 unfold KG_ at e
 split at e
 ·rename_i q n
  cases e
  refine ⟨rfl,fun hw ho hp=>?_⟩
  clear hw ho
  repeat'(intro t ht;first|(cases t<;>first|(cases ht;done)|(try simp only[zh_]at ht;try(exfalso;first|contradiction|omega)))|((first|refine za_ ht ?_|refine ht ?_ ?_|refine ht.1 ?_ ?_|refine ht ?_)<;>clear ht))
  all_goals first
   | exact True.intro
   | (refine ⟨congrArg (AV.int .i64) ?_,rfl⟩;unfold ge_;repeat' split
      all_goals first | rfl | omega)
 ·cases e
def uj_:IR:=
(sq (kr [0,1] [oD 2 (.boxv 0),
oD 4 (.mov (.c (.imm (.int .u64) [])))])
(sq (kr [1,2] [oA 6 1 2,
oL 7 6,
oA 8 2 2,
oL 9 8,
oD 10 (.sliceAll (.int .u64) 2 [(0,1,7),(1,1,9)]),
oM 5 10])
(sq (kr [1,5] [oM 11 5,
oM 12 1,
oC 13 77 [12],
oD 14 (.slice 1 11 none (some 13) none),
oM 4 14])
.ret)))
def Vw_:List RD:=[.tmp 4 true (some (.int .u64))]
theorem VP_:zl_ Tryz.prog Tryz.f68 uj_ Vw_=true:=by kernel_rfl
def jU_:List AV->List Obj->Option (Prop × AV)
 | [.agg [.int .i64 q,.int .u64 a,.int .u64 b,.int .i64 c,.int .i64 f,.bool h,.int .u64 x,.imm (.int .u8) v,.imm (.int .u8) m,.imm (.int .u8) d],.imm (.int .i64) w],[]=>some ((0<=zK_ w/\zK_ w<=2,.imm (.int .u64) ([a,b].take (zK_ w).toNat)))
 | _,_=>none
theorem Yf_:zf_ Tryz.prog 68 (RoF jU_).sum:=by
 refine zi_ Tryz.func68 VP_ (zc_ (s:=RoF QX_) jq_ (ze_ _)) fun args objs p v e=>?_
 unfold jU_ at e
 split at e
 ·rename_i q a b c f h x v m d w
  cases e
  refine ⟨rfl,fun hw ho hp=>?_⟩
  change List Int at v
  change List Int at m
  change List Int at d
  change List Int at w
  clear hw ho
  repeat'(intro t ht;first|(cases t<;>first|(cases ht;done)|(try simp only[zh_]at ht;try(exfalso;first|contradiction|omega)))|((first|refine za_ ht ?_|refine ht ?_ ?_|refine ht.1 ?_ ?_|refine ht ?_)<;>clear ht))
  all_goals first
   | exact True.intro
   | exact hp
   | ((try simp only [zm_,zn_,zk_] at*);omega)
   | exact ⟨rfl,rfl⟩
 ·cases e
theorem W2_ {q a b c f:Int} {h:Bool} {x:Int} {v m d:List Int} (hx:0<=x) (hv:∀ x ∈ v,0<=x/\x<=255) (hm:∀ x ∈ m,0<=x/\x<=255):zX_ (z4_ c f h x v m) q a b c f h x v m d=zX_ (Qs_ c f h x v m) q a b c f h x v m d:=by rw [ys_ hx hv hm]
def Wu_:IR:=
(sq (kr [0] [oD 2 (.mov cF)])
(sq (kr [0] [oM 6 0,
oC 7 75 [6],
oM 5 7,
oX 8 5 0,
oX 9 5 1,
oD 3 (.box [.str [],.int .i64 0,.int .i64 0,.kb false,.int .i64 0,.imm (.int .u64) []]),
oS 6 3 8,
oM 4 9])
(sq (kr [0,4] [oM 10 4,
oM 11 10,
oT 11 12 (.mov 0),
oT 11 13 (.bin .gtr 12 (cI 2)),
oP 14 11 13 cF,
oM 15 14,
oT 15 16 (.mov 0),
oT 15 17 (.bin .neq 16 (cI 39)),
oP 18 15 17 cF,
oM 2 18])
.ret)))
def Wd_:List RD:=[.tmp 2 true none]
theorem Wm_:zl_ Tryz.prog Tryz.f63 Wu_ Wd_=true:=by kernel_rfl
def QA_:List AV->List Obj->Option (Prop × AV)
 | [.int .i64 n],[]=>some ((True,.bool (Jj_ n)))
 | _,_=>none
theorem JY_:zf_ Tryz.prog 63 (RoF QA_).sum:=by
 refine zi_ Tryz.func63 Wm_ (zc_ (s:=RoF kn_) kx_ (ze_ _)) fun args objs p v e=>?_
 unfold QA_ at e
 split at e
 ·rename_i n
  cases e
  refine ⟨rfl,fun hw ho hp=>?_⟩
  repeat'(intro t ht;first|(cases t<;>first|(cases ht;done)|(try simp only[zh_]at ht))|((first|refine za_ ht ?_|refine ht ?_ ?_|refine ht.1 ?_ ?_|refine ht ?_)<;>clear ht))
  all_goals try (try simp only [zm_,zn_,zk_] at*)
  all_goals first
   | exact True.intro
   | (refine ⟨?_,trivial⟩;unfold Jj_;congr 1;rw [Bool.eq_iff_iff];first | (have h:=ZR_.1 (by assumption);simp at*;omega) | (have h:=QR_.1 (by assumption);simp at*;omega) | (simp at*;omega))
 ·cases e
end Go.Eng

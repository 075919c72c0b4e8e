/- Parts of the proof: R7, N1, M2, A1, A2, M3, A3, A4. No condition. -/
import Derived.Test.YtodnkagabgglfaaGreatDoorProg
import Derived.Test.YtodnkagabgglfaaGreatDoorWB10
import Derived.KernelRfl
import Derived.Test.YtodnkagabgglfaaGreatDoorWB11
import Derived.Test.YtodnkagabgglfaaGreatDoorWB15
namespace Go.Eng
open Go.Proofs
set_option linter.unusedVariables false
set_option linter.unusedSimpArgs false
set_option maxRecDepth 100000
set_option maxHeartbeats 1000000
def Gg_:IR:=
(sq (kr [0] [oD 2 (.mov cF)])
(sq (sq (.reg [oD 3 (.mov (cI 0))])
(.block 0
(.loop
(sq (sq (kr [0,3] [oM 4 3,
oM 5 0,
oE 6 5,
oB 7 .lss 4 6])
(.cond 7
.skip
(.exit 0)))
(sq (.block 1
(sq (kr [0,3] [oM 10 0,
oM 11 3,
oI 12 1 10 11,
oL 13 12,
oB 14 .eql 13 (cI 0),
oM 15 14,
oF 15 16 (.mov 0),
oF 15 17 (.mov 3),
oF 15 18 (.indexSl 1 16 17),
oF 15 19 (.load none 18),
oF 15 20 (.bin .gtr 19 (cI 8)),
oP 21 15 cT 20,
oM 22 21,
oF 22 23 (.mov 0),
oF 22 24 (.mov 3),
oF 22 25 (.indexSl 1 23 24),
oF 22 26 (.load none 25),
oF 22 27 (.bin .lss 26 (cI (-64))),
oP 28 22 cT 27])
(.cond 28
(sq (kr [] [oD 2 (.mov cF)])
.ret)
.skip)))
(kr [0,3] [oM 8 3,
oB 9 .add 8 (cI 1),
oM 3 9]))))))
(sq (kr [0] [oM 29 0,
oE 30 29,
oB 31 .leq 30 (cI 64),
oM 2 31])
.ret)))
def gp_:List RD:=[.tmp 2 true none]
theorem gN_:zl_ Tryz.prog Tryz.f106 Gg_ gp_=true:=by kernel_rfl
def jb_:List AV->List Obj->Option (Prop × AV)
 | [.imm (.int .i64) w],[]=>some ((True,.bool (z4_ w)))
 | _,_=>none
theorem WY_:ze_ Tryz.prog 106 (RoF jb_).sum:=by
 refine zm_ Tryz.func106 gN_ (zd_ _) fun args objs p v e=>?_
 unfold jb_ at e
 split at e
 ·rename_i w
  cases e
  refine ⟨rfl,fun hw ho hp=>?_⟩
  change List Int at w
  have hl:w.length<=maxLen:=(hw (.imm (.int .i64) w) (by simp)).2
  unfold maxLen at hl
  repeat'(intro t ht;first|(cases t<;>first|(cases ht;done)|(try simp only[zh_]at ht))|((first|refine za_ ht ?_|refine ht ?_ ?_|refine ht.1 ?_ ?_|refine ht ?_)<;>clear ht))
  all_goals (intro r h1 h2;clear h1;refine h2 ⟨[0,3],Nat,(fun i=>i<=w.length/\w.all okW=(w.drop i).all okW),fun i=>[.imm (.int .i64) w,.int .i64 i],fun _=>[],fun i=>w.length - i,⟨0,⟨Nat.zero_le _,rfl⟩,rfl,rfl⟩,?_⟩;clear h2)
  rintro i ⟨hi,he⟩
  repeat'(intro t ht;first|(cases t<;>first|(cases ht;done)|(try simp only[zh_]at ht))|((first|refine za_ ht ?_|refine ht ?_ ?_|refine ht.1 ?_ ?_|refine ht ?_)<;>clear ht))
  all_goals first
   | ((try simp only [zn_,zo_,zi_] at*);omega)
   | (have hge:w.length<=i:=by omega
      rw [List.drop_of_length_le hge] at he
      refine ⟨?_,rfl⟩;unfold z4_;rw [he,List.all_nil,Bool.and_true]
      congr 2;exact propext (by omega))
   | (have hlt:i < w.length:=by omega
      rw [zz_ hlt 0,List.all_cons] at he
      first
       | (have hk:okW (w.getD i 0)=false:=zek_.2 (by omega)
          refine ⟨?_,rfl⟩;unfold z4_;rw [he,hk];simp;done)
       | (have hk:okW (w.getD i 0)=true:=BH_.2 (by omega)
          rw [hk,Bool.true_and] at he
          exact ⟨i+1,⟨hlt,he⟩,by (try simp only [zn_,zo_,zi_] at*);omega,rfl,rfl⟩))
 ·cases e
def Gi_:IR:=
(sq (kr [0] [oD 2 (.mov (cI 0))])
(sq (.reg [oD 3 (.mov (cI 0))])
(sq (sq (.reg [oD 4 (.mov (cI 0))])
(.block 0
(.loop
(sq (sq (kr [0,3,4] [oM 5 4,
oM 6 0,
oE 7 6,
oB 8 .lss 5 7,
oM 9 8,
oT 9 10 (.mov 0),
oT 9 11 (.call false (.f 106) [10]),
oP 12 9 11 cF])
(.cond 12
.skip
(.exit 0)))
(sq (.block 1
(sq (kr [0,3,4] [oM 15 0,
oM 16 4,
oI 17 1 15 16,
oL 18 17,
oB 19 .gtr 18 (cI 0)])
(.cond 19
(.reg [oM 20 3,
oB 21 .add 20 (cI 1),
oM 3 21])
.skip)))
(kr [0,3,4] [oM 13 4,
oB 14 .add 13 (cI 1),
oM 4 14]))))))
(sq (kr [3] [oM 22 3,
oM 2 22])
.ret))))
def gr_:List RD:=[.tmp 2 true none]
theorem gP_:zl_ Tryz.prog Tryz.f111 Gi_ gr_=true:=by kernel_rfl
def jc_:List AV->List Obj->Option (Prop × AV)
 | [.imm (.int .i64) w],[]=>some ((True,.int .i64 (zw_ w)))
 | _,_=>none
theorem WZ_:ze_ Tryz.prog 111 (RoF jc_).sum:=by
 refine zm_ Tryz.func111 gP_ (zb_ (s:=RoF jb_) WY_ (zd_ _)) fun args objs p v e=>?_
 unfold jc_ at e
 split at e
 ·rename_i w
  cases e
  refine ⟨rfl,fun hw ho hp=>?_⟩
  change List Int at w
  repeat'(intro t ht;first|(cases t<;>first|(cases ht;done)|(try simp only[zh_]at ht))|((first|refine za_ ht ?_|refine ht ?_ ?_|refine ht.1 ?_ ?_|refine ht ?_)<;>clear ht))
  all_goals first
   | (intro r h1 h2;clear h1;refine h2 ⟨[0,3,4],Nat,(fun i=>i<=w.length/\(z4_ w=false->i=0)),fun i=>[.imm (.int .i64) w,.int .i64 (KF_ ZI_ w i),.int .i64 i],fun _=>[],fun i=>w.length - i,⟨0,⟨Nat.zero_le _,fun _=>rfl⟩,rfl,rfl⟩,?_⟩;clear h2)
  rintro i ⟨hi,hz⟩
  repeat'(intro t ht;first|(cases t<;>first|(cases ht;done)|(try simp only[zh_]at ht))|((first|refine za_ ht ?_|refine ht ?_ ?_|refine ht.1 ?_ ?_|refine ht ?_)<;>clear ht))
  all_goals first
   | exact True.intro
   | ((try simp only [zn_,zo_,zi_] at*);omega)
   | (have hge:w.length<=i:=by omega
      refine ⟨?_,rfl⟩;unfold zw_;rw [KE_ ZI_ hge]
      cases hr:z4_ w with
      | true=>rfl
      | false=>have h0:=hz hr;have:w=[]:=List.length_eq_zero_iff.1 (by omega);subst this;rfl)
   | (have hr:z4_ w=false:=by assumption
      have h0:=hz hr;subst h0
      refine ⟨?_,rfl⟩;unfold zw_;rw [hr];rfl)
   | (have hr:z4_ w=true:=by assumption
      have hl:=(Zt_.1 hr).1
      have hlt:i < w.length:=by omega
      have hs:=xY_ hr i
      first
       | ((try simp only [zn_,zo_,zi_] at*);omega)
       | (refine ⟨i+1,⟨hlt,fun h=>by rw [hr] at h;cases h⟩,by (try simp only [zn_,zo_,zi_] at*);omega,?_,rfl⟩
          dsimp only
          rw [ZC_ ZI_ hlt]
          first
           | (have e:ZI_ (w.getD i 0)=1:=if_pos (by assumption)
              rw [e];rfl)
           | (have e:ZI_ (w.getD i 0)=0:=if_neg (by assumption)
              rw [e,Int.add_zero];rfl)))
 ·cases e
theorem zdi_:∀ k:Nat,k<=7->∀ x:Int,0<=x->(x < (2 ^ (8*k):Nat) ↔ x.fdiv (2 ^ (8*k))=0)
 | k,_,x,hx=>by
   have hp:(0:Int) < 2 ^ (8*k):=Int.pow_pos (by decide)
   have e:((2 ^ (8*k):Nat):Int)=2 ^ (8*k):=by push_cast;rfl
   rw [e,Int.fdiv_eq_ediv_of_nonneg _ (Int.le_of_lt hp)]
   constructor
   ·intro h;exact Int.ediv_eq_zero_of_lt hx h
   ·intro h
    have:=Int.lt_ediv_add_one_mul_self x hp
    rw [h] at this;omega
def Yb_ (x n:Int):Bool:=decide (n=8) || decide (x.fdiv (2 ^ (min (8*n).toNat 64))=0)
theorem zdS_ {x:Int} (hx:0<=x):∀ k:Nat,1<=k->k<=7->decide (x < 1*2 ^ min (8*(k:Int)).toNat IntKind.u64.bits)=Yb_ x k
 | k,h1,h7=>by
   have e:min (8*(k:Int)).toNat IntKind.u64.bits=8*k:=by
    have:IntKind.u64.bits=64:=rfl
    rw [this];omega
   have e':min (8*(k:Int)).toNat 64=8*k:=by omega
   unfold Yb_
   rw [e,e',decide_eq_false (show ¬ (k:Int)=8 by omega),Bool.false_or,Int.one_mul]
   rw [decide_eq_decide]
   have:=zdi_ k h7 x hx
   push_cast at this
   exact this
def h9_:IR:=
(sq (kr [0,1] [oD 4 (.mov cF)])
(sq (kr [0,1] [oM 5 1,
oB 6 .eql 5 (cI 8),
oM 7 6,
oF 7 8 (.mov 0),
oF 7 9 (.mov 1),
oF 7 10 (.bin .mul (cI 8) 9),
oF 7 11 (.bin .shl (.c (.int .u64 1)) 10),
oF 7 12 (.bin .lss 8 11),
oP 13 7 cT 12,
oM 4 13])
.ret))
def hd_:List RD:=[.tmp 4 true none]
theorem hB_:zl_ Tryz.prog Tryz.f112 h9_ hd_=true:=by kernel_rfl
def xN_:List AV->List Obj->Option (Prop × AV)
 | [.int .u64 x,.int .i64 n],[]=>some ((1<=n/\n<=8,.bool (Yb_ x n)))
 | _,_=>none
theorem U3_:ze_ Tryz.prog 112 (RoF xN_).sum:=by
 refine zm_ Tryz.func112 hB_ (zd_ _) fun args objs p v e=>?_
 unfold xN_ at e
 split at e
 ·rename_i x n
  cases e
  refine ⟨rfl,fun hw ho hp=>?_⟩
  have hx:IntKind.u64.min<=x/\x<=IntKind.u64.max:=hw (.int .u64 x) (by simp)
  have hx0:0<=x:=hx.1
  obtain ⟨h1,h8⟩:=hp
  obtain ⟨k,rfl⟩:=Int.eq_ofNat_of_zero_le (show 0<=n by omega)
  repeat'(intro t ht;first|(cases t<;>first|(cases ht;done)|(try simp only[zh_]at ht))|((first|refine za_ ht ?_|refine ht ?_ ?_|refine ht.1 ?_ ?_|refine ht ?_)<;>clear ht))
  all_goals first
   | exact True.intro
   | ((try simp only [zn_,zo_,zi_] at*);omega)
   | (refine ⟨?_,rfl⟩;unfold Yb_;rw [decide_eq_true (by assumption)];rfl)
   | (have hk:k=1\/k=2\/k=3\/k=4\/k=5\/k=6\/k=7:=by omega
      rcases hk with rfl | rfl | rfl | rfl | rfl | rfl | rfl<;>decide)
   | (refine ⟨?_,rfl⟩;rw [<- zdS_ hx0 k (by omega) (by omega)])
 ·cases e
theorem zaR_ {x n:Int}:Yb_ x n=false->n<=8->(n < 8/\x.fdiv (2 ^ (min (8*n).toNat 64)) ≠ 0):=fun h h8=>by
 unfold Yb_ at h
 simp only [Bool.or_eq_false_iff,decide_eq_false_iff_not] at h
 exact ⟨by omega,h.2⟩
theorem zcA_ {x n:Int}:Yb_ x n=true->¬ (n < 8/\x.fdiv (2 ^ (min (8*n).toNat 64)) ≠ 0):=fun h k=>by
 unfold Yb_ at h
 simp only [Bool.or_eq_true,decide_eq_true_eq] at h
 rcases h with h | h
 ·omega
 ·exact k.2 h
theorem Yh_ (w:Int):List.replicate w.toNat 0=zf_ 0 w:=by
 have:∀ j:Nat,kw_ 0 w j=0:=fun j=>by unfold kw_;rw [Int.zero_fdiv];rfl
 unfold zf_ kv_
 simp only [this,List.map_const',List.length_range]
theorem HF_ {n:Int} {k j:Nat} (h:j < k) (hk:k<=7):kw_ n ((k+1:Nat):Int) j=kw_ (n / 256) k j:=by
 unfold kw_
 have e:min (8*(((k+1:Nat):Int) - 1 - j)).toNat 64=8+8*(k - 1 - j):=by omega
 have e':min (8*((k:Int) - 1 - j)).toNat 64=8*(k - 1 - j):=by omega
 have hp:∀ m:Nat,(0:Int)<=2 ^ m:=fun m=>Int.le_of_lt (Int.pow_pos (by decide))
 rw [e,e',Int.fdiv_eq_ediv_of_nonneg _ (hp _),Int.fdiv_eq_ediv_of_nonneg _ (hp _),Int.pow_add,<- Int.ediv_ediv_of_nonneg (hp 8)]
 rfl
theorem Yi_ {n:Int} {k:Nat} (hk:k<=7):zf_ n ((k+1:Nat):Int)=zf_ (n / 256) k++[n % 256]:=by
 unfold zf_ kv_
 rw [Int.toNat_natCast,Int.toNat_natCast,List.range_succ,List.map_append]
 congr 1
 ·apply List.map_congr_left
  intro j hj
  exact HF_ (List.mem_range.1 hj) hk
 ·show [kw_ n ((k+1:Nat):Int) k]=_
  unfold kw_
  have e:min (8*(((k+1:Nat):Int) - 1 - k)).toNat 64=0:=by omega
  rw [e,Int.pow_zero,Int.fdiv_one]
theorem y4_:∀ (k:Nat) (n:Int),k<=8->0<=n->n < 256 ^ k->ZL_ (zf_ n k)=n
 | 0,n,_,h0,h1=>by
   have:n=0:=by rw [Int.pow_zero] at h1;omega
   subst this;rfl
 | k+1,n,hk,h0,h1=>by
   rw [Yi_ (by omega),yj_,y4_ k (n / 256) (by omega) (by omega) (by rw [Int.pow_succ] at h1;exact Int.ediv_lt_of_lt_mul (by decide) h1)]
   omega
theorem Yj_:∀ (k:Nat) (b:List Int),k<=8->b.length=k->(∀ x ∈ b,0<=x/\x<=255)->zf_ (ZL_ b) k=b
 | 0,b,_,hl,_=>by
   have:b=[]:=List.eq_nil_of_length_eq_zero hl
   subst this;rfl
 | k+1,b,hk,hl,hb=>by
   rcases List.eq_nil_or_concat b with rfl | ⟨l,c,rfl⟩
   ·cases hl
   ·rw [List.concat_eq_append] at hl hb ⊢
    have hc:=hb c (by simp)
    have hl':l.length=k:=by simpa using hl
    rw [yj_,Yi_ (by omega)]
    rw [show (ZL_ l*256+c) / 256=ZL_ l by omega,show (ZL_ l*256+c) % 256=c by omega,Yj_ k l (by omega) hl' fun x hx=>hb x (by simp [hx])]
theorem HE_ (w:Int):zf_ 0 w=List.replicate w.toNat 0:=(Yh_ w).symm
theorem uU_ (k:Nat):ZJ_ (List.replicate k 0)=true:=by
 unfold ZJ_;rw [List.all_eq_true];intro x hx;rw [List.eq_of_mem_replicate hx];rfl
theorem za8_ {b:List Int} (h:ZJ_ b=true):b=List.replicate b.length 0:=by
 unfold ZJ_ at h
 rw [List.all_eq_true] at h
 exact List.eq_replicate_iff.2 ⟨rfl,fun x hx=>by simpa using h x hx⟩
theorem Qh_:∀ (w xs b:List Int),qA_ w xs b=(qA_ w xs []).map (b++·)
 | [],xs,b=>by simp [qA_]
 | n :: r,xs,b=>by
   simp only [qA_]
   split
   ·rw [Qh_ r xs (b++zf_ 0 (0 - n)),Qh_ r xs ([]++zf_ 0 (0 - n)),Option.map_map]
    congr 1;funext z;simp
   ·cases xs with
    | nil=>rfl
    | cons x ys=>
      dsimp only
      split
      ·rfl
      ·rw [Qh_ r ys (b++zf_ x n),Qh_ r ys ([]++zf_ x n),Option.map_map]
       congr 1;funext z;simp
theorem w0_:∀ (w b o:List Int),(Z7_ w b o).2=(Z7_ w b []).2/\((Z7_ w b []).2=0->(Z7_ w b o).1=o++(Z7_ w b []).1)
 | [],b,o=>by simp [Z7_]
 | n :: r,b,o=>by
   simp only [Z7_]
   split
   ·exact ⟨rfl,fun h=>by cases h⟩
   ·split
    ·have h1:=w0_ r (b.drop (zr_ n).toNat) (o++[ZL_ (b.take (zr_ n).toNat)])
     have h2:=w0_ r (b.drop (zr_ n).toNat) ([]++[ZL_ (b.take (zr_ n).toNat)])
     refine ⟨h1.1.trans h2.1.symm,fun h=>?_⟩
     have h0:=h2.1.symm.trans h
     rw [h1.2 h0,h2.2 h0];simp
    ·split
     ·exact w0_ r (b.drop (zr_ n).toNat) o
     ·exact ⟨rfl,fun h=>by cases h⟩
theorem ze5_ {x n:Int} (h0:0<=x) (h1:x<=18446744073709551615) (hn:0 < n) (h8:n<=8) (hf:¬ (n < 8/\x.fdiv (2 ^ (min (8*n).toNat 64)) ≠ 0)):x < 256 ^ n.toNat:=by
 by_cases hlt:n < 8
 ·have hz:x.fdiv (2 ^ (min (8*n).toNat 64))=0:=Classical.byContradiction fun h=>hf ⟨hlt,h⟩
  have e:min (8*n).toNat 64=8*n.toNat:=by omega
  have hp:(0:Int) < 2 ^ (8*n.toNat):=Int.pow_pos (by decide)
  rw [e,Int.fdiv_eq_ediv_of_nonneg _ (Int.le_of_lt hp)] at hz
  have h2:=Int.lt_ediv_add_one_mul_self x hp
  rw [hz] at h2
  have e2:(2:Int) ^ (8*n.toNat)=256 ^ n.toNat:=by rw [Int.pow_mul];rfl
  rw [<- e2];omega
 ·have:n=8:=by omega
  subst this
  show x < 256 ^ 8
  omega
theorem zeY_ {x n:Int} (h0:0<=x) (hn:0 < n) (h8:n<=8) (hx:x < 256 ^ n.toNat):¬ (n < 8/\x.fdiv (2 ^ (min (8*n).toNat 64)) ≠ 0):=by
 rintro ⟨hlt,hz⟩
 apply hz
 have e:min (8*n).toNat 64=8*n.toNat:=by omega
 have hp:(0:Int) < 2 ^ (8*n.toNat):=Int.pow_pos (by decide)
 have e2:(2:Int) ^ (8*n.toNat)=256 ^ n.toNat:=by rw [Int.pow_mul];rfl
 rw [e,Int.fdiv_eq_ediv_of_nonneg _ (Int.le_of_lt hp),e2]
 exact Int.ediv_eq_zero_of_lt h0 hx
def okR (w:List Int):Prop:=∀ n ∈ w,n ≠ 0/\n<=8/\-64<=n
theorem gz_:∀ (w xs r rest:List Int),okR w->(∀ x ∈ xs,0<=x/\x<=18446744073709551615)->(w.map ZI_).sum=xs.length->qA_ w xs []=some r->Z7_ w (r++rest) []=(xs,0)
 | [],xs,r,rest,_,_,hc,h=>by
   simp at hc
   have:xs=[]:=List.eq_nil_of_length_eq_zero (by omega)
   subst this;rfl
 | n :: w,xs,r,rest,hw,hx,hc,h=>by
   have hn:=hw n (by simp)
   have hw':okR w:=fun m hm=>hw m (by simp [hm])
   simp only [qA_] at h
   rw [List.map_cons,List.sum_cons] at hc
   by_cases hneg:n < 0
   ·rw [if_pos hneg,List.nil_append,Qh_] at h
    have h1:ZI_ n=0:=if_neg (by omega)
    obtain ⟨r',hr',rfl⟩:=Option.map_eq_some_iff.1 h
    have ih:=gz_ w xs r' rest hw' hx (by omega) hr'
    have hl:=zk_ (n:=0) (w:=0 - n) (by omega)
    have ha:=jQ_ hneg
    have hln:(zf_ 0 (0 - n)).length=(zr_ n).toNat:=by omega
    simp only [Z7_]
    rw [List.append_assoc,if_neg (by rw [List.length_append];omega),if_neg (by omega),<- hln,List.take_left,List.drop_left,HE_,uU_,if_pos rfl,ih]
   ·rw [if_neg hneg] at h
    have h1:ZI_ n=1:=if_pos (by omega)
    cases xs with
    | nil=>cases h
    | cons x ys=>
      dsimp only at h
      by_cases hf:n < 8/\x.fdiv (2 ^ (min (8*n).toNat 64)) ≠ 0
      ·rw [if_pos hf] at h;cases h
      ·rw [if_neg hf,List.nil_append,Qh_] at h
       obtain ⟨r',hr',rfl⟩:=Option.map_eq_some_iff.1 h
       have hx0:=hx x (by simp)
       have hlt:=ze5_ hx0.1 hx0.2 (by omega) hn.2.1 hf
       have ih:=gz_ w ys r' rest hw' (fun y hy=>hx y (by simp [hy])) (by rw [List.length_cons] at hc;omega) hr'
       have hl:=zk_ (n:=x) (w:=n) (by omega)
       have ha:=WF_ hneg
       have hln:(zf_ x n).length=(zr_ n).toNat:=by omega
       have hnum:ZL_ (zf_ x n)=x:=by
        have:=y4_ n.toNat x (by omega) hx0.1 hlt
        rwa [show ((n.toNat:Nat):Int)=n by omega] at this
       simp only [Z7_]
       have hacc:=w0_ w (r'++rest) ([]++[x])
       rw [List.append_assoc,if_neg (by rw [List.length_append];omega),if_pos (by omega),<- hln,List.take_left,List.drop_left,hnum]
       rw [ih] at hacc
       exact Prod.ext ((hacc.2 rfl).trans (by simp)) hacc.1
theorem Gr_:∀ (w b xs:List Int),okR w->(∀ x ∈ b,0<=x/\x<=255)->Z7_ w b []=(xs,0)->(w.map ZI_).sum=xs.length/\(w.map zr_).sum<=b.length/\qA_ w xs []=some (b.take (w.map zr_).sum.toNat)
 | [],b,xs,_,_,h=>by
   simp only [Z7_,Prod.mk.injEq] at h
   obtain ⟨rfl,_⟩:=h
   exact ⟨rfl,Int.natCast_nonneg _,rfl⟩
 | n :: w,b,xs,hw,hb,h=>by
   have hn:=hw n (by simp)
   have hw':okR w:=fun m hm=>hw m (by simp [hm])
   have ha:=XJ_ (n:=n)
   have hs:0<=(w.map zr_).sum:=by
    have:∀ l:List Int,0<=(l.map zr_).sum:=fun l=>by
     induction l with
     | nil=>simp
     | cons a l ih=>rw [List.map_cons,List.sum_cons];have:=XJ_ (n:=a);omega
    exact this w
   have hd:(b.drop (zr_ n).toNat).length=b.length - (zr_ n).toNat:=List.length_drop
   have hbd:∀ x ∈ b.drop (zr_ n).toNat,0<=x/\x<=255:=fun x hx=>hb x (List.mem_of_mem_drop hx)
   have htk:∀ k:Nat,(b.take (zr_ n).toNat)++(b.drop (zr_ n).toNat).take k=b.take ((zr_ n).toNat+k):=fun k=>by rw [List.take_add]
   simp only [Z7_] at h
   rw [List.map_cons,List.sum_cons,List.map_cons,List.sum_cons]
   by_cases hsh:(b.length:Int) < zr_ n
   ·rw [if_pos hsh] at h;cases h
   ·rw [if_neg hsh] at h
    have htl:(b.take (zr_ n).toNat).length=(zr_ n).toNat:=by rw [List.length_take];omega
    by_cases hp:0 < n
    ·rw [if_pos hp] at h
     have hacc:=w0_ w (b.drop (zr_ n).toNat) ([]++[ZL_ (b.take (zr_ n).toNat)])
     rw [h] at hacc
     have h0:=hacc.1.symm
     obtain ⟨ys,hys⟩:∃ ys,Z7_ w (b.drop (zr_ n).toNat) []=(ys,0):=⟨_,Prod.ext rfl h0⟩
     rw [hys] at hacc
     have hxs:=hacc.2 rfl
     obtain ⟨i1,i2,i3⟩:=Gr_ w _ ys hw' hbd hys
     have e1:ZI_ n=1:=if_pos hp
     have ea:=WF_ (n:=n) (by omega)
     dsimp only [List.nil_append] at hxs
     rw [List.singleton_append] at hxs
     subst hxs
     have hbt:∀ x ∈ b.take (zr_ n).toNat,0<=x/\x<=255:=fun x hx=>hb x (List.mem_of_mem_take hx)
     have hnl:=Xn_ (b.take (zr_ n).toNat) hbt
     have h2:=hnl.2
     rw [htl] at h2
     have e3:(zr_ n).toNat=n.toNat:=by rw [ea]
     have h4:ZL_ (b.take (zr_ n).toNat) < 256 ^ n.toNat:=by rw [<- e3];exact h2
     have hfit:¬ (n < 8/\(ZL_ (b.take (zr_ n).toNat)).fdiv (2 ^ (min (8*n).toNat 64)) ≠ 0):=zeY_ hnl.1 hp hn.2.1 h4
     have hbk:=Yj_ (zr_ n).toNat (b.take (zr_ n).toNat) (by omega) htl hbt
     rw [show (((zr_ n).toNat:Nat):Int)=n by omega] at hbk
     refine ⟨by rw [List.length_cons];omega,by omega,?_⟩
     simp only [qA_]
     rw [if_neg (by omega),if_neg hfit,List.nil_append,Qh_,i3,hbk]
     show some _=_
     dsimp only;rw [htk];congr 2;omega
    ·rw [if_neg hp] at h
     by_cases hz:ZJ_ (b.take (zr_ n).toNat)=true
     ·rw [if_pos hz] at h
      obtain ⟨i1,i2,i3⟩:=Gr_ w _ xs hw' hbd h
      have e1:ZI_ n=0:=if_neg hp
      have hze:=za8_ hz
      rw [htl] at hze
      have ea:=jQ_ (n:=n) (by omega)
      refine ⟨by omega,by omega,?_⟩
      simp only [qA_]
      rw [if_pos (by omega),List.nil_append,Qh_,i3,HE_,show (0 - n).toNat=(zr_ n).toNat by omega,<- hze]
      show some _=_
      dsimp only;rw [htk];congr 2;omega
     ·rw [if_neg hz] at h;cases h
theorem zaq_ {w xs:List Int} (rest:List Int) (hx:∀ x ∈ xs,0<=x/\x<=18446744073709551615) (hk:QN_ w xs=true):QT_ w (qd_ w xs++rest)=(xs,0)/\(qd_ w xs).length=(Zl_ w).toNat:=by
 unfold QN_ at hk
 obtain ⟨r,hr⟩:=Option.isSome_iff_exists.1 hk
 have hb:qd_ w xs=r:=by unfold qd_;rw [hr];rfl
 rw [hb]
 unfold Kq_ at hr
 split at hr
 ·rename_i h
  have hw:okR w:=(Zt_.1 h.1).2
  have hc:(w.map ZI_).sum=xs.length:=by have:=h.2;unfold zw_ at this;rwa [if_pos h.1] at this
  unfold QT_ Zl_
  rw [if_pos h.1,if_pos h.1]
  refine ⟨gz_ w xs r rest hw hx hc hr,?_⟩
  have hl:∀ (w xs r:List Int),okR w->qA_ w xs []=some r->(r.length:Int)=(w.map zr_).sum:=by
   intro w
   induction w with
   | nil=>intro xs r _ h;simp only [qA_,Option.some.injEq] at h;subst h;rfl
   | cons n w ih=>
     intro xs r hw h
     have hn:=hw n (by simp)
     have hw':okR w:=fun m hm=>hw m (by simp [hm])
     simp only [qA_] at h
     rw [List.map_cons,List.sum_cons]
     split at h
     ·rw [Qh_] at h
      obtain ⟨r',hr',rfl⟩:=Option.map_eq_some_iff.1 h
      have:=ih _ _ hw' hr'
      have hl:=zk_ (n:=0) (w:=0 - n) (by omega)
      have ha:=jQ_ (n:=n) (by assumption)
      simp only [List.nil_append,List.length_append];omega
     ·cases xs with
      | nil=>cases h
      | cons x ys=>
        dsimp only at h
        split at h
        ·cases h
        ·rw [Qh_] at h
         obtain ⟨r',hr',rfl⟩:=Option.map_eq_some_iff.1 h
         have:=ih _ _ hw' hr'
         have hl:=zk_ (n:=x) (w:=n) (by omega)
         have ha:=WF_ (n:=n) (by assumption)
         simp only [List.nil_append,List.length_append];omega
  have:=hl w xs r hw hr
  omega
 ·cases hr
theorem Un_ {w b xs:List Int} (hb:∀ x ∈ b,0<=x/\x<=255) (h:QT_ w b=(xs,0)):QN_ w xs=true/\qd_ w xs=b.take (Zl_ w).toNat/\Zl_ w<=b.length:=by
 unfold QT_ at h
 split at h
 ·rename_i hr
  obtain ⟨h1,h2,h3⟩:=Gr_ w b xs (Zt_.1 hr).2 hb h
  have hF:Kq_ w xs=some (b.take (w.map zr_).sum.toNat):=by
   unfold Kq_ zw_;rw [if_pos hr,if_pos ⟨hr,h1⟩,h3]
  unfold QN_ qd_ Zl_
  rw [hF,if_pos hr];exact ⟨rfl,rfl,h2⟩
 ·cases h
theorem yH_ {α:Type} {f:α->Bool} {l:List α} {i:Nat} {d:α} (h:i < l.length) (ht:(l.take i).all f=true) (hd:f (l.getD i d)=true):(l.take (i+1)).all f=true:=by
 rw [List.take_succ_eq_append_getElem h,List.all_append,ht,Bool.true_and,List.all_cons,List.all_nil,Bool.and_true]
 rwa [List.getD_eq_getElem?_getD,List.getElem?_eq_getElem h] at hd
theorem Vz_ {α:Type} {f:α->Bool} {l:List α} {i:Nat} (h:l.length<=i) (ht:(l.take i).all f=true):l.all f=true:=by
 rwa [List.take_of_length_le h] at ht
theorem HN_ {α:Type} {f:α->Bool} {l:List α} {i:Nat} {d:α} (h:i < l.length) (hd:f (l.getD i d)=false):l.all f=false:=by
 rw [List.all_eq_false]
 exact ⟨l.getD i d,zZ_ h d,by rw [hd];decide⟩
theorem zbj_ {α:Type} {l:List α} {i:Nat} (h:i<=l.length):(l.take i).length=i:=by rw [List.length_take];omega
def zt_ (t:Int):List Int:=if t=0 then [4,2,-6] else if t=22\/t=21\/t=65535 then [4] else if t=15\/t=23 then [1,-3] else if t=17\/t=19\/t=26\/t=20 then [2,-2] else if t=11\/t=12\/t=16\/t=18\/t=24\/t=27 then [-4] else []
def VW_ (t:Int):Bool:=decide (t=0\/(t=22\/t=21\/t=65535)\/(t=15\/t=23)\/(t=17\/t=19\/t=26\/t=20)\/(t=11\/t=12\/t=16\/t=18\/t=24\/t=27))
theorem By_ {t:Int} (h:¬ (t=0\/(t=22\/t=21\/t=65535)\/(t=15\/t=23)\/(t=17\/t=19\/t=26\/t=20)\/(t=11\/t=12\/t=16\/t=18\/t=24\/t=27))):zt_ t=[]/\VW_ t=false:=by
 refine ⟨?_,decide_eq_false h⟩
 unfold zt_
 rw [if_neg (by omega),if_neg (by omega),if_neg (by omega),if_neg (by omega),if_neg (by omega)]
theorem zbw_ {t:Int} (h:VW_ t=true):t=0\/(t=22\/t=21\/t=65535)\/(t=15\/t=23)\/(t=17\/t=19\/t=26\/t=20)\/(t=11\/t=12\/t=16\/t=18\/t=24\/t=27):=of_decide_eq_true h
theorem Bx_ (t:Int):zt_ t=[4,2,-6]\/zt_ t=[4]\/zt_ t=[1,-3]\/zt_ t=[2,-2]\/zt_ t=[-4]\/zt_ t=[]:=by
 unfold zt_
 repeat' split
 all_goals simp
theorem Vm_ (t:Int):0<=zw_ (zt_ t)/\zw_ (zt_ t)<=2:=by
 rcases Bx_ t with h | h | h | h | h | h<;>rw [h]<;>decide
theorem vh_ (t:Int):0<=Zl_ (zt_ t)/\Zl_ (zt_ t)<=12:=by
 rcases Bx_ t with h | h | h | h | h | h<;>rw [h]<;>decide
def uS_ (t n:Int):Int:=if t=0 then (if n=0 then 517 else 0) else if t=22 then (if 4294967040 < n then 522 else 0) else if t=17 then (if n ≠ 33024/\n ≠ 34984 then 518 else 0) else if t=19 then (if n ≠ 34887/\n ≠ 34888 then 518 else 0) else if t=26 then (if n ≠ 35047 then 518 else 0) else 0
def v6_:IR:=
(sq (kr [0] [oD 2 (.mov (.c (.imm (.int .i64) []))),
oD 3 (.mov cF)])
(sq (sq (.reg [oM 4 0])
(.block 0
(sq (.block 7
(.block 6
(sq (.block 5
(.block 4
(sq (.block 3
(sq (.block 2
(sq (.block 1
(sq (sq (sq (.reg [oB 6 .eql 4 (cI 0),
oM 5 6])
(.cond 5
(.exit 1)
.skip))
(sq (sq (sq (.reg [oB 8 .eql 4 (cI 22),
oM 7 8])
(.cond 7
.skip
(sq (kr [4] [oB 9 .eql 4 (cI 21),
oM 7 9])
(.cond 7
.skip
(.reg [oB 10 .eql 4 (cI 65535),
oM 7 10])))))
(.cond 7
(.exit 2)
.skip))
(sq (sq (sq (kr [4] [oB 12 .eql 4 (cI 15),
oM 11 12])
(.cond 11
.skip
(.reg [oB 13 .eql 4 (cI 23),
oM 11 13])))
(.cond 11
(.exit 3)
.skip))
(sq (sq (sq (.reg [oB 15 .eql 4 (cI 17),
oM 14 15])
(.cond 14
.skip
(sq (kr [4] [oB 16 .eql 4 (cI 19),
oM 14 16])
(.cond 14
.skip
(.reg [oB 17 .eql 4 (cI 26),
oM 14 17])))))
(.cond 14
(.exit 4)
.skip))
(sq (sq (kr [4] [oB 19 .eql 4 (cI 20),
oM 18 19])
(.cond 18
(.exit 5)
.skip))
(sq (sq (sq (.reg [oB 21 .eql 4 (cI 11),
oM 20 21])
(.cond 20
.skip
(sq (.reg [oB 22 .eql 4 (cI 12),
oM 20 22])
(.cond 20
.skip
(kr [4] [oB 23 .eql 4 (cI 16),
oM 20 23])))))
(.cond 20
(.exit 6)
.skip))
(sq (sq (kr [4] [oB 25 .eql 4 (cI 18),
oM 24 25])
(.cond 24
.skip
(sq (.reg [oB 26 .eql 4 (cI 24),
oM 24 26])
(.cond 24
.skip
(.reg [oB 27 .eql 4 (cI 27),
oM 24 27])))))
(.cond 24
(.exit 7)
.skip))))))))
(.exit 0)))
(sq (sq (kr [] [oD 28 (.sliceAll (.int .i64) 3 [(0,1,(cI 4)),(1,1,(cI 2)),(2,1,(cI (-6)))]),
oM 2 28,
oD 3 (.mov cT)])
.ret)
(.exit 0))))
(sq (sq (kr [] [oD 29 (.sliceAll (.int .i64) 1 [(0,1,(cI 4))]),
oM 2 29,
oD 3 (.mov cT)])
.ret)
(.exit 0))))
(sq (sq (kr [] [oD 30 (.sliceAll (.int .i64) 2 [(0,1,(cI 1)),(1,1,(cI (-3)))]),
oM 2 30,
oD 3 (.mov cT)])
.ret)
(.exit 0)))))
(sq (sq (kr [] [oD 31 (.sliceAll (.int .i64) 2 [(0,1,(cI 2)),(1,1,(cI (-2)))]),
oM 2 31,
oD 3 (.mov cT)])
.ret)
(.exit 0)))))
(sq (sq (kr [] [oD 32 (.sliceAll (.int .i64) 1 [(0,1,(cI (-4)))]),
oM 2 32,
oD 3 (.mov cT)])
.ret)
(.exit 0)))))
(sq (kr [] [oD 2 (.mov (.c (.imm (.int .i64) []))),
oD 3 (.mov cF)])
.ret)))
def vv_:List RD:=[.tmp 2 true (some (.int .i64)),.tmp 3 true none]
theorem vN_:zl_ Tryz.prog Tryz.f55 v6_ vv_=true:=by kernel_rfl
def qf_:List AV->List Obj->Option (Prop × AV)
 | [.int .i64 q],[]=>some ((True,.tup [.imm (.int .i64) (zt_ q),.bool (VW_ q)]))
 | _,_=>none
theorem Qo_:ze_ Tryz.prog 55 (RoF qf_).sum:=by
 refine zm_ Tryz.func55 vN_ (zd_ _) fun args objs p v e=>?_
 unfold qf_ at e
 split at e
 ·rename_i q
  cases e
  refine ⟨rfl,fun hw ho hp=>?_⟩
  clear hw ho
  repeat'(intro t ht;first|(cases t<;>first|(cases ht;done)|(try simp only[zh_]at ht;try(exfalso;first|contradiction|omega)))|((first|refine za_ ht ?_|refine ht ?_ ?_|refine ht.1 ?_ ?_|refine ht ?_)<;>clear ht))
  all_goals first
   | exact True.intro
   | (have h:=By_ (t:=q) (by omega)
      rw [h.1,h.2];exact ⟨rfl,rfl⟩)
   | (subst_vars;exact ⟨rfl,rfl⟩)
   | (have h:q=0\/(q=22\/q=21\/q=65535)\/(q=15\/q=23)\/(q=17\/q=19\/q=26\/q=20)\/(q=11\/q=12\/q=16\/q=18\/q=24\/q=27):=by omega
      rcases h with rfl | (rfl | rfl | rfl) | (rfl | rfl) | (rfl | rfl | rfl | rfl) | (rfl | rfl | rfl | rfl | rfl | rfl)<;>first | (exfalso;omega) | exact ⟨rfl,rfl⟩)
 ·cases e
def YH_:IR:=
(sq (kr [0,1] [oD 4 (.mov (cI 0))])
(sq (.block 0
(sq (kr [0,1] [oM 6 0,
oB 7 .eql 6 (cI 0),
oM 8 7,
oT 8 9 (.mov 1),
oT 8 10 (.bin .eql 9 (.c (.int .u64 0))),
oP 11 8 10 cF,
oM 5 11])
(.cond 5
(sq (kr [] [oD 4 (.mov (cI 517))])
.ret)
(sq (kr [0,1] [oM 13 0,
oB 14 .eql 13 (cI 22),
oM 15 14,
oT 15 16 (.mov 1),
oT 15 17 (.bin .gtr 16 (.c (.int .u64 4294967040))),
oP 18 15 17 cF,
oM 12 18])
(.cond 12
(sq (kr [] [oD 4 (.mov (cI 522))])
.ret)
(sq (kr [0,1] [oM 20 0,
oB 21 .eql 20 (cI 17),
oM 22 21,
oT 22 23 (.mov 1),
oT 22 24 (.bin .neq 23 (.c (.int .u64 33024))),
oP 25 22 24 cF,
oM 26 25,
oT 26 27 (.mov 1),
oT 26 28 (.bin .neq 27 (.c (.int .u64 34984))),
oP 29 26 28 cF,
oM 19 29])
(.cond 19
(sq (kr [] [oD 4 (.mov (cI 518))])
.ret)
(sq (kr [0,1] [oM 31 0,
oB 32 .eql 31 (cI 19),
oM 33 32,
oT 33 34 (.mov 1),
oT 33 35 (.bin .neq 34 (.c (.int .u64 34887))),
oP 36 33 35 cF,
oM 37 36,
oT 37 38 (.mov 1),
oT 37 39 (.bin .neq 38 (.c (.int .u64 34888))),
oP 40 37 39 cF,
oM 30 40])
(.cond 30
(sq (kr [] [oD 4 (.mov (cI 518))])
.ret)
(sq (kr [0,1] [oM 42 0,
oB 43 .eql 42 (cI 26),
oM 44 43,
oT 44 45 (.mov 1),
oT 44 46 (.bin .neq 45 (.c (.int .u64 35047))),
oP 47 44 46 cF,
oM 41 47])
(.cond 41
(sq (kr [] [oD 4 (.mov (cI 518))])
.ret)
.skip)))))))))))
(sq (kr [] [oD 4 (.mov (cI 0))])
.ret)))
def Yx_:List RD:=[.tmp 4 true none]
theorem YC_:zl_ Tryz.prog Tryz.f81 YH_ Yx_=true:=by kernel_rfl
def Q6_:List AV->List Obj->Option (Prop × AV)
 | [.int .i64 q,.int .u64 n],[]=>some ((True,.int .i64 (uS_ q n)))
 | _,_=>none
theorem jA_:ze_ Tryz.prog 81 (RoF Q6_).sum:=by
 refine zm_ Tryz.func81 YC_ (zd_ _) fun args objs p v e=>?_
 unfold Q6_ at e
 split at e
 ·rename_i q n
  cases e
  refine ⟨rfl,fun hw ho hp=>?_⟩
  clear hw ho
  repeat'(intro t ht;first|(cases t<;>first|(cases ht;done)|(try simp only[zh_]at ht;try(exfalso;first|contradiction|omega)))|((first|refine za_ ht ?_|refine ht ?_ ?_|refine ht.1 ?_ ?_|refine ht ?_)<;>clear ht))
  all_goals first
   | exact True.intro
   | (refine ⟨congrArg (AV.int .i64) ?_,rfl⟩;unfold uS_;repeat' split
      all_goals first | rfl | omega)
 ·cases e
def xx_:IR:=
(sq (kr [0] [oD 1 (.boxv 0),
oD 2 (.mov cF)])
(sq (kr [1] [oA 3 0 1,
oL 4 3,
oB 5 .eql 4 (cI 32768),
oM 6 5,
oT 6 7 (.fieldAddr 2 1),
oT 6 8 (.load none 7),
oT 6 9 (.un .not 8),
oP 10 6 9 cF,
oM 11 10,
oT 11 12 (.fieldAddr 1 1),
oT 11 13 (.load none 12),
oT 11 14 (.call false (.f 113) [13]),
oP 15 11 14 cF,
oM 16 15,
oT 16 17 (.load (some 6) 1),
oT 16 18 (.call false (.f 83) [17]),
oP 19 16 18 cF,
oM 2 19])
.ret))
def xj_:List RD:=[.tmp 2 true none]
theorem xp_:zl_ Tryz.prog Tryz.f79 xx_ xj_=true:=by kernel_rfl
def Q5_:List AV->List Obj->Option (Prop × AV)
 | [.agg [.int .i64 c,.int .i64 f,.bool h,.int .u64 x,.imm (.int .u8) v,.imm (.int .u8) m]],[]=>some ((v.length<=1000000/\m.length<=1000000,.bool (decide (c=32768) && !h && W2_ f && zv_ c f h x v m)))
 | _,_=>none
theorem WO_:ze_ Tryz.prog 79 (RoF Q5_).sum:=by
 refine zm_ Tryz.func79 xp_ (zb_ (s:=RoF q0_) KH_ (zb_ (s:=RoF kY_) ji_ (zd_ _))) fun args objs p v e=>?_
 unfold Q5_ at e
 split at e
 ·rename_i c f h x v m
  cases e
  refine ⟨rfl,fun hw ho hp=>?_⟩
  change List Int at v
  change List Int at m
  clear hw ho
  cases h
  all_goals repeat'(intro t ht;first|(cases t<;>first|(cases ht;done)|(try simp only[zh_]at ht;try(exfalso;first|contradiction|omega)))|((first|refine za_ ht ?_|refine ht ?_ ?_|refine ht.1 ?_ ?_|refine ht ?_)<;>clear ht))
  all_goals first
   | exact True.intro
   | exact hp
   | (refine ⟨congrArg AV.bool ?_,rfl⟩;simp_all;done)
 ·cases e
def v7_:IR:=
(sq (kr [0] [oD 1 (.boxv 0),
oD 2 (.mov cF)])
(sq (.reg [oK 3 6 1,
oD 4 (.build [.int .i64 0,.int .i64 0,.kb false,.int .u64 0,.imm (.int .u8) [],.imm (.int .u8) []] []),
oC 5 72 [3,4],
oM 2 5])
.ret))
def vw_:List RD:=[.tmp 2 true none]
theorem vO_:zl_ Tryz.prog Tryz.f80 v7_ vw_=true:=by kernel_rfl
def jv_:List AV->List Obj->Option (Prop × AV)
 | [.agg [.int .i64 c,.int .i64 f,.bool h,.int .u64 x,.imm (.int .u8) v,.imm (.int .u8) m]],[]=>some ((True,.bool (Kg_ c f h x v m 0 0 false 0 [] [])))
 | _,_=>none
theorem Yt_:ze_ Tryz.prog 80 (RoF jv_).sum:=by
 refine zm_ Tryz.func80 vO_ (zb_ (s:=RoF xQ_) U6_ (zd_ _)) fun args objs p v e=>?_
 unfold jv_ at e
 split at e
 ·rename_i c f h x v m
  cases e
  refine ⟨rfl,fun hw ho hp=>?_⟩
  change List Int at v
  change List Int at m
  clear hw ho
  repeat'(intro t ht;first|(cases t<;>first|(cases ht;done)|(try simp only[zh_]at ht;try(exfalso;first|contradiction|omega)))|((first|refine za_ ht ?_|refine ht ?_ ?_|refine ht.1 ?_ ?_|refine ht ?_)<;>clear ht))
  all_goals first
   | exact True.intro
   | exact ⟨rfl,rfl⟩
 ·cases e
def KN_ (t a b:Int):List Int:=[a,b].take (zw_ (zt_ t)).toNat
def zH_ (R:Bool) (t a b c f:Int) (h:Bool) (x:Int) (v m d:List Int):Bool:=
 if t=25 then decide (a=0) && decide (b=0) && decide (d.length=0) && (decide (c=32768) && !h && W2_ f && R)
 else VW_ t && Kg_ c f h x v m 0 0 false 0 [] [] && decide (uS_ t a=0) && QN_ (zt_ t) (KN_ t a b) && (decide (2<=zw_ (zt_ t)) || decide (b=0)) && (decide (1<=zw_ (zt_ t)) || decide (a=0)) && (if t=65535 then decide ((d.length:Int).tmod 8=0) && decide ((d.length:Int)<=65520) else decide (d.length=0))
def YI_:IR:=
(sq (kr [0] [oD 1 (.boxv 0),
oD 2 (.mov cF)])
(sq (sq (.reg [oA 8 0 1,
oL 9 8,
oB 10 .eql 9 (cI 25)])
(.cond 10
(sq (kr [1] [oA 11 1 1,
oL 12 11,
oB 13 .eql 12 (.c (.int .u64 0)),
oM 14 13,
oT 14 15 (.fieldAddr 2 1),
oT 14 16 (.load none 15),
oT 14 17 (.bin .eql 16 (.c (.int .u64 0))),
oP 18 14 17 cF,
oM 19 18,
oT 19 20 (.fieldAddr 9 1),
oT 19 21 (.load none 20),
oT 19 22 (.len 21),
oT 19 23 (.bin .eql 22 (cI 0)),
oP 24 19 23 cF,
oM 25 24,
oT 25 26 (.fieldAddr 3 1),
oT 25 27 (.load (some 6) 26),
oT 25 28 (.call false (.f 79) [27]),
oP 29 25 28 cF,
oM 2 29])
.ret)
.skip))
(sq (kr [1] [oA 31 0 1,
oL 32 31,
oC 33 55 [32],
oM 30 33,
oX 34 30 0,
oX 35 30 1,
oM 3 34,
oM 4 35])
(sq (sq (kr [1,3,4] [oM 36 4,
oD 37 (.un .not 36),
oM 38 37,
oF 38 39 (.fieldAddr 3 1),
oF 38 40 (.load (some 6) 39),
oF 38 41 (.call false (.f 80) [40]),
oF 38 42 (.un .not 41),
oP 43 38 cT 42,
oM 44 43,
oF 44 45 (.fieldAddr 0 1),
oF 44 46 (.load none 45),
oF 44 47 (.fieldAddr 1 1),
oF 44 48 (.load none 47),
oF 44 49 (.call false (.f 81) [46,48]),
oF 44 50 (.bin .neq 49 (cI 0)),
oP 51 44 cT 50])
(.cond 51
(sq (kr [] [oD 2 (.mov cF)])
.ret)
.skip))
(sq (kr [1,3] [oM 52 3,
oC 53 56 [52],
oM 5 53])
(sq (kr [1,3,5] [oM 55 3,
oA 56 1 1,
oL 57 56,
oA 58 2 1,
oL 59 58,
oD 60 (.sliceAll (.int .u64) 2 [(0,1,57),(1,1,59)]),
oM 61 5,
oD 62 (.slice 1 60 none (some 61) none),
oC 63 82 [55,62],
oM 54 63,
oX 64 54 0,
oX 65 54 1,
oM 6 64,
oM 7 65])
(sq (sq (kr [1,5,7] [oM 66 7,
oD 67 (.un .not 66),
oM 68 67,
oF 68 69 (.mov 5),
oF 68 70 (.bin .lss 69 (cI 2)),
oF 68 71 (.mov 70),
oT 71 72 (.fieldAddr 2 1),
oT 71 73 (.load none 72),
oT 71 74 (.bin .neq 73 (.c (.int .u64 0))),
oF 68 75 (.pick 71 74 cF),
oP 76 68 cT 75,
oM 77 76,
oF 77 78 (.mov 5),
oF 77 79 (.bin .lss 78 (cI 1)),
oF 77 80 (.mov 79),
oT 80 81 (.fieldAddr 1 1),
oT 80 82 (.load none 81),
oT 80 83 (.bin .neq 82 (.c (.int .u64 0))),
oF 77 84 (.pick 80 83 cF),
oP 85 77 cT 84])
(.cond 85
(sq (kr [] [oD 2 (.mov cF)])
.ret)
.skip))
(sq (sq (kr [1] [oA 86 0 1,
oL 87 86,
oB 88 .neq 87 (cI 65535)])
(.cond 88
(sq (kr [1] [oA 89 9 1,
oL 90 89,
oE 91 90,
oB 92 .eql 91 (cI 0),
oM 2 92])
.ret)
.skip))
(sq (kr [1] [oA 93 9 1,
oL 94 93,
oE 95 94,
oB 96 .rem 95 (cI 8),
oB 97 .eql 96 (cI 0),
oM 98 97,
oT 98 99 (.fieldAddr 9 1),
oT 98 100 (.load none 99),
oT 98 101 (.len 100),
oT 98 102 (.bin .leq 101 (cI 65520)),
oP 103 98 102 cF,
oM 2 103])
.ret)))))))))
def Yy_:List RD:=[.tmp 2 true none]
theorem YD_:zl_ Tryz.prog Tryz.f51 YI_ Yy_=true:=by kernel_rfl
def Q7_:List AV->List Obj->Option (Prop × AV)
 | [.agg [.int .i64 q,.int .u64 a,.int .u64 b,.int .i64 c,.int .i64 f,.bool h,.int .u64 x,.imm (.int .u8) v,.imm (.int .u8) m,.imm (.int .u8) d]],[]=>some ((v.length<=1000000/\m.length<=1000000,.bool (zH_ (zv_ c f h x v m) q a b c f h x v m d)))
 | _,_=>none
theorem jB_:ze_ Tryz.prog 51 (RoF Q7_).sum:=by
 refine zm_ Tryz.func51 YD_ (zb_ (s:=RoF Q5_) WO_ (zb_ (s:=RoF qf_) Qo_ (zb_ (s:=RoF jv_) Yt_ (zb_ (s:=RoF Q6_) jA_ (zb_ (s:=RoF kX_) jh_ (zb_ (s:=RoF WG_) yZ_ (zd_ _))))))) fun args objs p v e=>?_
 unfold Q7_ at e
 split at e
 ·rename_i q a b c f h x v m d
  cases e
  refine ⟨rfl,fun hw ho hp=>?_⟩
  change List Int at v
  change List Int at m
  change List Int at d
  have hdl:d.length<=maxLen:=(hw _ (List.mem_cons_self ..) (.imm (.int .u8) d) (by simp)).2
  unfold maxLen at hdl
  clear hw ho
  have hcn:=Vm_ q
  by_cases h25:q=25
  ·subst h25
   repeat'(intro t ht;first|(cases t<;>first|(cases ht;done)|(try simp only[zh_]at ht;try(exfalso;first|contradiction|omega)))|((first|refine za_ ht ?_|refine ht ?_ ?_|refine ht.1 ?_ ?_|refine ht ?_)<;>clear ht))
   all_goals first
    | exact True.intro
    | exact hp
    | ((try simp only [zn_,zo_,zi_] at*);omega)
    | (refine ⟨congrArg AV.bool ?_,rfl⟩;unfold zH_;rw [if_pos rfl];simp_all;done)
  ·repeat'(intro t ht;first|(cases t<;>first|(cases ht;done)|(try simp only[zh_]at ht;try(exfalso;first|contradiction|omega)))|((first|refine za_ ht ?_|refine ht ?_ ?_|refine ht.1 ?_ ?_|refine ht ?_)<;>clear ht))
   all_goals first
    | exact True.intro
    | exact hp
    | ((try simp only [zn_,zo_,zi_] at*);omega)
    | (refine ⟨congrArg AV.bool ?_,rfl⟩;unfold zH_ KN_;rw [if_neg h25];simp_all;done)
    | (refine ⟨congrArg AV.bool ?_,rfl⟩;unfold zH_ KN_;rw [if_neg h25];simp_all;omega)
 ·cases e
def x9_ (R:Bool) (S:Int) (t a b c f:Int) (h:Bool) (x:Int) (v m d:List Int):Int:=if zH_ R t a b c f h x v m d=true then (if t=25 then (4+S+8 - 1).tdiv 8*8 else 4+Zl_ (zt_ t)+d.length) else 0
theorem H7_ {R:Bool} {t a b c f:Int} {h:Bool} {x:Int} {v m d:List Int} (hr:zH_ R t a b c f h x v m d=true):d.length<=65520:=by
 unfold zH_ at hr
 split at hr
 ·simp only [Bool.and_eq_true,decide_eq_true_eq] at hr;omega
 ·simp only [Bool.and_eq_true] at hr
  have:=hr.2
  split at this
  ·simp only [Bool.and_eq_true,decide_eq_true_eq] at this;omega
  ·simp only [decide_eq_true_eq] at this;omega
theorem zbq_ {c f:Int} {h:Bool} {x:Int} {v m:List Int} (hv:v.length<=1000000) (hm:m.length<=1000000):0<=Qe_ c f h x v m/\Qe_ c f h x v m<=3000000:=by
 unfold Qe_ zY_;repeat' split
 all_goals omega
def v8_:IR:=
(sq (kr [0] [oD 1 (.boxv 0),
oD 2 (.mov (cI 0))])
(sq (sq (.reg [oK 5 10 1,
oC 6 51 [5],
oD 7 (.un .not 6)])
(.cond 7
(sq (.reg [oD 2 (.mov (cI 0))])
.ret)
.skip))
(sq (sq (kr [1] [oA 8 0 1,
oL 9 8,
oB 10 .eql 9 (cI 25)])
(.cond 10
(sq (kr [1] [oA 11 3 1,
oK 12 6 11,
oC 13 57 [12],
oB 14 .add (cI 4) 13,
oB 15 .add 14 (cI 8),
oB 16 .sub 15 (cI 1),
oB 17 .quo 16 (cI 8),
oB 18 .mul 17 (cI 8),
oM 2 18])
.ret)
.skip))
(sq (kr [1] [oA 20 0 1,
oL 21 20,
oC 22 55 [21],
oM 19 22,
oX 23 19 0,
oX 24 19 1,
oM 3 23,
oM 4 24])
(sq (kd [1,3] [(oM 25 3,[]),
(oC 26 58 [25],[]),
(oB 27 .add (cI 4) 26,[]),
(oA 28 9 1,[0,0,0]),
(oL 29 28,[1,0,0]),
(oE 30 29,[2,0,0]),
(oB 31 .add 27 30,[]),
(oM 2 31,[])])
.ret)))))
def vx_:List RD:=[.tmp 2 true none]
theorem vP_:zl_ Tryz.prog Tryz.f37 v8_ vx_=true:=by kernel_rfl
def kL_:List AV->List Obj->Option (Prop × AV)
 | [.agg [.int .i64 q,.int .u64 a,.int .u64 b,.int .i64 c,.int .i64 f,.bool h,.int .u64 x,.imm (.int .u8) v,.imm (.int .u8) m,.imm (.int .u8) d]],[]=>some ((v.length<=1000000/\m.length<=1000000,.int .i64 (x9_ (zv_ c f h x v m) (Qe_ c f h x v m) q a b c f h x v m d)))
 | _,_=>none
theorem JL_:ze_ Tryz.prog 37 (RoF kL_).sum:=by
 refine zm_ Tryz.func37 vP_ (zb_ (s:=RoF Q7_) jB_ (zb_ (s:=RoF JA_) x3_ (zb_ (s:=RoF qf_) Qo_ (zb_ (s:=RoF kA_) Ko_ (zd_ _))))) fun args objs p v e=>?_
 unfold kL_ at e
 split at e
 ·rename_i q a b c f h x v m d
  cases e
  refine ⟨rfl,fun hw ho hp=>?_⟩
  change List Int at v
  change List Int at m
  change List Int at d
  clear hw ho
  have hs:=zbq_ (c:=c) (f:=f) (h:=h) (x:=x) hp.1 hp.2
  have hz:=vh_ q
  have htd:(4+Qe_ c f h x v m+8 - 1).tdiv 8=(4+Qe_ c f h x v m+8 - 1) / 8:=Int.tdiv_eq_ediv_of_nonneg (by omega)
  cases hr:zH_ (zv_ c f h x v m) q a b c f h x v m d with
  | false=>
    repeat'(intro t ht;first|(cases t<;>first|(cases ht;done)|(try simp only[zh_]at ht;try(exfalso;first|contradiction|omega)))|((first|refine za_ ht ?_|refine ht ?_ ?_|refine ht.1 ?_ ?_|refine ht ?_)<;>clear ht))
    all_goals first
     | exact True.intro
     | exact hp
     | (exfalso;simp_all;done)
     | (refine ⟨?_,rfl⟩;unfold x9_;rw [hr];rfl)
  | true=>
    have hl:=H7_ hr
    repeat'(intro t ht;first|(cases t<;>first|(cases ht;done)|(try simp only[zh_]at ht;try(exfalso;first|contradiction|omega)))|((first|refine za_ ht ?_|refine ht ?_ ?_|refine ht.1 ?_ ?_|refine ht ?_)<;>clear ht))
    all_goals first
     | exact True.intro
     | exact hp
     | (exfalso;simp_all;done)
     | ((try simp only [zn_,zo_,zi_] at*);omega)
     | (rw [htd];(try simp only [zn_,zo_,zi_] at*);omega)
     | (refine ⟨congrArg (AV.int .i64) ?_,rfl⟩;unfold x9_;rw [if_pos hr,if_pos (by assumption)];done)
     | (refine ⟨congrArg (AV.int .i64) ?_,rfl⟩;unfold x9_;rw [if_pos hr,if_neg (by assumption)];done)
 ·cases e
def wY_:IR:=
(sq (kr [0] [oD 2 (.mov (cI 0))])
(sq (sq (.reg [oM 3 0,
oC 4 33 [3]])
(.cond 4
(sq (.reg [oD 2 (.mov (cI 0))])
.ret)
.skip))
(sq (kr [0] [oM 5 0,
oD 6 (.nilck 5),
oA 7 0 6,
oL 8 7,
oE 9 8,
oM 2 9])
.ret)))
def wH_:List RD:=[.tmp 2 true none]
theorem wO_:zl_ Tryz.prog Tryz.f86 wY_ wH_=true:=by kernel_rfl
def Qc_:List AV->List Obj->Option (Prop × AV)
 | [.ptr 0 0],[.box [.own 1,.int .i64 room,.mapv 2,.int .i64 e],.row false (.int .u8) l,.map sq (.int .i64) (.int .i64) h]=>some ((True,.int .i64 l.length))
 | _,_=>none
theorem JS_:ze_ Tryz.prog 86 (RoF Qc_).sum:=by
 refine zm_ Tryz.func86 wO_ (zb_ (s:=RoF z1_) Zw_ (zd_ _)) fun args objs p v e=>?_
 unfold Qc_ at e
 split at e
 ·rename_i room e l sq h
  cases e
  refine ⟨rfl,fun hw ho hp=>?_⟩
  change List Int at l
  repeat'(intro t ht;first|(cases t<;>first|(cases ht;done)|(try simp only[zh_]at ht))|((first|refine za_ ht ?_|refine ht ?_ ?_|refine ht.1 ?_ ?_|refine ht ?_)<;>clear ht))
  all_goals first
   | exact True.intro
   | exact ⟨rfl,rfl⟩
 ·cases e
def evZ (s:Int) (n:Nat):List Int:=List.replicate ((s - (n:Int).tmod s).tmod s).toNat 0
theorem UV_ {a s:Int} (ha:0<=a) (hs:1<=s):0<=a.tmod s/\a.tmod s < s:=by
 rw [Int.tmod_eq_emod_of_nonneg ha];exact ⟨Int.emod_nonneg _ (by omega),Int.emod_lt_of_pos _ (by omega)⟩
def wp_:IR:=
(sq (sq (kr [0,1] [oM 4 1,
oB 5 .lss 4 (cI 1),
oM 6 5,
oF 6 7 (.mov 1),
oF 6 8 (.bin .gtr 7 (cI 64)),
oP 9 6 cT 8])
(.cond 9
(sq (kr [0] [oM 10 0,
oC 11 34 [10,(cI 10001)]])
.ret)
.skip))
(kr [0,1] [oM 12 0,
oM 13 1,
oM 14 0,
oC 15 86 [14],
oM 16 1,
oB 17 .rem 15 16,
oB 18 .sub 13 17,
oM 19 1,
oB 20 .rem 18 19,
oD 21 (.mkrow (.int .u8) 1 (0:Int) 20 20),
oC 22 12 [12,21]]))
def J2_:List RD:=[]
theorem we_:zl_ Tryz.prog Tryz.f54 wp_ J2_=true:=by kernel_rfl
def qM_:List AV->List Obj->Option (Prop × AV × List Obj)
 | [.ptr 0 0,.int .i64 s],[.box [.own 1,.int .i64 room,.mapv 2,.int .i64 e],.row false (.int .u8) l,.map sq (.int .i64) (.int .i64) h]=>some ((0<=room/\room<=1000000/\l.length<=1000000/\1<=s/\s<=64,.tup [],[.box [.own 3,.int .i64 room,.mapv 2,.int .i64 (WW_ (evZ s l.length) l room e)],.dead,.map sq (.int .i64) (.int .i64) h,.row false (.int .u8) (Jt_ (evZ s l.length) l room e)]))
 | _,_=>none
theorem j8_:ze_ Tryz.prog 54 (RwF qM_).sum:=by
 refine qn_ Tryz.func54 we_ (zb_ (s:=RwF zG_) z8_ (zb_ (s:=RoF Qc_) JS_ (zb_ (s:=RwF zx_) zD_ (zd_ _)))) fun args objs p v o e=>?_
 unfold qM_ at e
 split at e
 ·rename_i s room e l sq h
  cases e
  refine ⟨rfl,fun hw ho hp=>?_⟩
  change List Int at l
  clear hw ho
  have b1:=UV_ (a:=(l.length:Int)) (s:=s) (by omega) (by omega)
  have b2:=UV_ (a:=s - (l.length:Int).tmod s) (s:=s) (by omega) (by omega)
  repeat'(intro t ht;first|(cases t<;>first|(cases ht;done)|(try simp only[zh_]at ht;try(exfalso;first|contradiction|omega)))|((first|refine za_ ht ?_|refine ht ?_ ?_|refine ht.1 ?_ ?_|refine ht ?_)<;>clear ht))
  all_goals first
   | exact True.intro
   | ((try simp only [zn_,zo_,zi_] at*);omega)
   | exact ⟨hp.1,hp.2.1,hp.2.2.1,by rw [List.length_replicate];omega⟩
   | exact ⟨rfl,rfl⟩
 ·cases e
def ZB_ (t a b:Int) (E d:List Int):List Int:=if t=25 then E++List.replicate ((8 - (4+E.length) % 8) % 8) 0 else qd_ (zt_ t) (KN_ t a b)++d
def xC_ (t a b:Int) (E d:List Int):List Int:=zf_ t 2++zf_ (4+(ZB_ t a b E d).length) 2++ZB_ t a b E d
theorem zeh_ {a n:Int} (ha:0<=a/\a<=65535) (hn:0<=n/\n<=65535):qd_ [2,2] [a,n]=zf_ a 2++zf_ n 2/\QN_ [2,2] [a,n]=true:=by
 have e1:a.fdiv (2 ^ 16)=0:=by rw [Int.fdiv_eq_ediv_of_nonneg _ (by decide)];omega
 have e2:n.fdiv (2 ^ 16)=0:=by rw [Int.fdiv_eq_ediv_of_nonneg _ (by decide)];omega
 have h:Kq_ [2,2] [a,n]=some (zf_ a 2++zf_ n 2):=by
  unfold Kq_
  rw [if_pos ⟨by decide,(by decide:zw_ [2,2]=2)⟩]
  have m:min (8*(2:Int)).toNat 64=16:=by decide
  simp only [qA_,m]
  rw [if_neg (by decide),if_neg (by rintro ⟨_,h⟩;exact h e1),if_neg (by decide),if_neg (by rintro ⟨_,h⟩;exact h e2)]
  rfl
 unfold qd_ QN_;rw [h];exact ⟨rfl,rfl⟩
theorem xF_ {x l:List Int} {room:Int} (h:(x.length:Int)<=room - l.length):Jt_ x l room 0=l++x/\WW_ x l room 0=0:=by
 have hb:jP_ x l room 0=true:=by unfold jP_;rw [decide_eq_true h];rfl
 exact ⟨by unfold Jt_;rw [if_pos hb],by unfold WW_;rw [if_pos rfl,if_pos h]⟩
theorem H6_ {w xs l:List Int} {room:Int} (hk:QN_ w xs=true) (h:((qd_ w xs).length:Int)<=room - l.length):VY_ w xs l room 0=l++qd_ w xs/\VX_ w xs l room 0=0:=by
 unfold VY_ VX_;rw [if_pos hk,if_pos hk];exact xF_ h
theorem HG_ {x l:List Int} {room e:Int} (h:l.length<=1000000) (hr:room<=1000000):(Jt_ x l room e).length<=1000000:=by
 unfold Jt_ jP_;split
 ·rename_i hb;simp only [Bool.and_eq_true,decide_eq_true_eq] at hb;rw [List.length_append];omega
 ·exact h
theorem X8_ {w xs:List Int} (hk:QN_ w xs=true):((qd_ w xs).length:Int)=Zl_ w:=by
 unfold QN_ at hk
 obtain ⟨r,hr⟩:=Option.isSome_iff_exists.1 hk
 have hb:qd_ w xs=r:=by unfold qd_;rw [hr];rfl
 rw [hb]
 unfold Kq_ at hr
 split at hr
 ·rename_i h
  have:=Xe_ w xs [] r (Zt_.1 h.1).2 hr
  unfold Zl_;rw [if_pos h.1,this];simp
 ·cases hr
theorem zfE_ (n:Nat):evZ 8 n=List.replicate ((8 - n % 8) % 8) 0:=by
 unfold evZ;congr 1
 have h1:(n:Int).tmod 8=(n:Int) % 8:=Int.tmod_eq_emod_of_nonneg (by omega)
 rw [h1,Int.tmod_eq_emod_of_nonneg (by omega)];omega
theorem jD_ {R:Bool} {t a b c f:Int} {h:Bool} {x:Int} {v m d:List Int} (ht:t=25) (hr:zH_ R t a b c f h x v m d=true):a=0/\b=0/\d=[]/\c=32768/\h=false/\W2_ f=true/\R=true:=by
 unfold zH_ at hr;rw [if_pos ht] at hr
 simp only [Bool.and_eq_true,decide_eq_true_eq,Bool.not_eq_true'] at hr
 obtain ⟨⟨⟨h1,h2⟩,h3⟩,⟨⟨h4,h5⟩,h6⟩,h7⟩:=hr
 exact ⟨h1,h2,List.eq_nil_of_length_eq_zero h3,h4,h5,h6,h7⟩
theorem kh_ {R:Bool} {t a b c f:Int} {h:Bool} {x:Int} {v m d:List Int} (ht:¬ t=25) (hr:zH_ R t a b c f h x v m d=true):VW_ t=true/\Kg_ c f h x v m 0 0 false 0 [] []=true/\uS_ t a=0/\QN_ (zt_ t) (KN_ t a b)=true/\(2<=zw_ (zt_ t)\/b=0)/\(1<=zw_ (zt_ t)\/a=0)/\((t=65535/\(d.length:Int).tmod 8=0/\(d.length:Int)<=65520)\/(¬ t=65535/\d=[])):=by
 unfold zH_ at hr;rw [if_neg ht] at hr
 simp only [Bool.and_eq_true,Bool.or_eq_true,decide_eq_true_eq] at hr
 obtain ⟨⟨⟨⟨⟨⟨h1,h2⟩,h3⟩,h4⟩,h5⟩,h6⟩,h7⟩:=hr
 refine ⟨h1,h2,h3,h4,h5,h6,?_⟩
 split at h7
 ·rename_i h8
  simp only [Bool.and_eq_true,decide_eq_true_eq] at h7;exact .inl ⟨h8,h7⟩
 ·rename_i h8
  simp only [decide_eq_true_eq] at h7;exact .inr ⟨h8,List.eq_nil_of_length_eq_zero h7⟩
theorem wB_ {c f:Int} {h:Bool} {x:Int} {v m:List Int} (hr:zv_ c f h x v m=true):Qe_ c f h x v m=(Zj_ c f h x v m).length/\(Zj_ c f h x v m).length<=300:=by
 have h1:Qe_ c f h x v m=((ZH_ c f h x v m).length:Int):=by rw [zbp_,if_pos hr]
 have hrn:=qw_ hr
 have hl2:=zk_ (n:=c) (w:=2) (by decide)
 have:((ZH_ c f h x v m).length:Int)=4+zY_ c v m:=by
  rw [hrn.2.2.2.2.2.2.2];unfold ZH_;simp only [List.length_append,List.length_cons,List.length_nil];omega
 rw [YV_ hr]
 exact ⟨h1,by omega⟩
theorem YN_ {t:Int} (h:VW_ t=true\/t=25):0<=t/\t<=65535:=by
 rcases h with h | h
 ·have:=zbw_ h;omega
 ·omega
theorem jC_ {t a b c f:Int} {h:Bool} {x:Int} {v m d:List Int} (hr:zH_ (zv_ c f h x v m) t a b c f h x v m d=true):x9_ (zv_ c f h x v m) (Qe_ c f h x v m) t a b c f h x v m d=4+((ZB_ t a b (Zj_ c f h x v m) d).length:Int)/\(ZB_ t a b (Zj_ c f h x v m) d).length<=65524/\(4+(ZB_ t a b (Zj_ c f h x v m) d).length) % 8=0/\8<=4+(ZB_ t a b (Zj_ c f h x v m) d).length:=by
 unfold x9_ ZB_
 rw [if_pos hr]
 by_cases ht:t=25
 ·rw [if_pos ht,if_pos ht]
  obtain ⟨_,_,_,_,_,_,hR⟩:=jD_ ht hr
  obtain ⟨e1,e2⟩:=wB_ hR
  have h4:4<=(Zj_ c f h x v m).length:=by
   have:Qe_ c f h x v m=4+zY_ c v m:=by unfold Qe_;rw [if_pos hR]
   have hrest:0<=zY_ c v m:=by unfold zY_;split<;>omega
   omega
  rw [e1,List.length_append,List.length_replicate,Int.tdiv_eq_ediv_of_nonneg (by omega)]
  omega
 ·rw [if_neg ht,if_neg ht]
  obtain ⟨k1,_,_,k4,_,_,k7⟩:=kh_ ht hr
  have hs:=X8_ k4
  have hz:=vh_ t
  rw [List.length_append]
  have hq:Zl_ (zt_ t)=4\/Zl_ (zt_ t)=12:=by
   have:=zbw_ k1
   rcases this with rfl | (rfl | rfl | rfl) | (rfl | rfl) | (rfl | rfl | rfl | rfl) | (rfl | rfl | rfl | rfl | rfl | rfl)<;>decide
  rcases k7 with ⟨k8,k9,k10⟩ | ⟨_,rfl⟩
  ·have:Zl_ (zt_ t)=4:=by rw [k8];decide
   rw [Int.tmod_eq_emod_of_nonneg (by omega)] at k9
   omega
  ·simp only [List.length_nil];omega
def yp_:IR:=
(sq (kr [0] [oD 1 (.boxv 0),
oD 2 (.mov (.c (.imm (.int .u8) []))),
oD 3 (.mov (cI 0))])
(sq (sq (.reg [oK 9 10 1,
oC 10 51 [9],
oD 11 (.un .not 10)])
(.cond 11
(sq (kr [] [oD 2 (.mov (.c (.imm (.int .u8) []))),
oD 3 (.mov (cI 10001))])
.ret)
.skip))
(sq (kr [1] [oK 12 10 1,
oC 13 37 [12],
oC 14 11 [13],
oM 4 14])
(sq (kd [1,4] [(oM 15 4,[]),
(oD 16 (.sliceAll (.int .i64) 2 [(0,1,(cI 2)),(1,1,(cI 2))]),[0]),
(oA 17 0 1,[0,0]),
(oL 18 17,[1,0]),
(oD 19 (.conv .u64 18),[2,0]),
(oK 20 10 1,[0,0,0,0,0]),
(oC 21 37 [20],[1,0,0,0,0]),
(oD 22 (.conv .u64 21),[2,0,0,0,0]),
(oD 23 (.sliceAll (.int .u64) 2 [(0,1,19),(1,1,22)]),[6,0]),
(oC 24 52 [15,16,23],[])])
(sq (sq (kr [1,4] [oA 25 0 1,
oL 26 25,
oB 27 .eql 26 (cI 25)])
(.cond 27
(sq (kr [1,4] [oA 29 3 1,
oK 30 6 29,
oC 31 53 [30],
oM 28 31,
oX 32 28 0,
oX 33 28 1,
oM 5 32,
oM 6 33])
(sq (kr [4,5] [oM 34 4,
oM 35 5,
oC 36 12 [34,35]])
(sq (.reg [oM 37 4,
oC 38 54 [37,(cI 8)]])
(sq (kr [4] [oM 39 4,
oC 40 14 [39],
oX 41 40 0,
oX 42 40 1,
oM 2 41,
oM 3 42])
.ret))))
.skip))
(sq (kr [1,4] [oA 44 0 1,
oL 45 44,
oC 46 55 [45],
oM 43 46,
oX 47 43 0,
oX 48 43 1,
oM 7 47,
oM 8 48])
(sq (kd [1,4,7] [(oM 49 4,[]),
(oM 50 7,[0]),
(oA 51 1 1,[0,0]),
(oL 52 51,[1,0]),
(oA 53 2 1,[0,0,0,0]),
(oL 54 53,[1,0,0,0]),
(oD 55 (.sliceAll (.int .u64) 2 [(0,1,52),(1,1,54)]),[4,0]),
(oM 56 7,[0,0,0,0,0,0,0]),
(oC 57 56 [56],[1,0,0,0,0,0,0]),
(oD 58 (.slice 1 55 none (some 57) none),[7,0]),
(oC 59 52 [49,50,58],[])])
(sq (kr [1,4] [oM 60 4,
oA 61 9 1,
oL 62 61,
oC 63 12 [60,62]])
(sq (kr [4] [oM 64 4,
oC 65 14 [64],
oX 66 65 0,
oX 67 65 1,
oM 2 66,
oM 3 67])
.ret)))))))))
def X6_:List RD:=[.tmp 2 true (some (.int .u8)),.tmp 3 true none]
theorem yg_:zl_ Tryz.prog Tryz.f35 yp_ X6_=true:=by kernel_rfl
def Kc_:List AV->List Obj->Option (Prop × AV)
 | [.agg [.int .i64 q,.int .u64 a,.int .u64 b,.int .i64 c,.int .i64 f,.bool h,.int .u64 x,.imm (.int .u8) v,.imm (.int .u8) m,.imm (.int .u8) d]],[]=>some ((v.length<=1000000/\m.length<=1000000,.tup [.imm (.int .u8) (if zH_ (zv_ c f h x v m) q a b c f h x v m d=true then xC_ q a b (Zj_ c f h x v m) d else []),.int .i64 (if zH_ (zv_ c f h x v m) q a b c f h x v m d=true then 0 else 10001)]))
 | _,_=>none
theorem x7_:ze_ Tryz.prog 35 (RoF Kc_).sum:=by
 refine zm_ Tryz.func35 yg_ (zb_ (s:=RoF Q7_) jB_ (zb_ (s:=RoF kL_) JL_ (zb_ (s:=RwF q1_) QJ_ (zb_ (s:=RwF Zu_) qg_ (zb_ (s:=RoF JB_) va_ (zb_ (s:=RwF zx_) zD_ (zb_ (s:=RwF qM_) j8_ (zb_ (s:=RwF z2_) Zx_ (zb_ (s:=RoF qf_) Qo_ (zb_ (s:=RoF kX_) jh_ (zd_ _))))))))))) fun args objs p v e=>?_
 unfold Kc_ at e
 split at e
 ·rename_i q a b c f h x v m d
  cases e
  refine ⟨rfl,fun hw ho hp=>?_⟩
  change List Int at v
  change List Int at m
  change List Int at d
  clear hw ho
  cases hr:zH_ (zv_ c f h x v m) q a b c f h x v m d with
  | false=>
    repeat'(intro t ht;first|(cases t<;>first|(cases ht;done)|(try simp only[zh_]at ht;try(exfalso;first|contradiction|omega)))|((first|refine za_ ht ?_|refine ht ?_ ?_|refine ht.1 ?_ ?_|refine ht ?_)<;>clear ht))
    all_goals first
     | exact True.intro
     | exact hp
     | (exfalso;simp_all;done)
     | exact ⟨rfl,rfl⟩
  | true=>
    obtain ⟨hS,hS1,hS2,hS3⟩:=jC_ hr
    obtain ⟨S,hSd⟩:∃ S,x9_ (zv_ c f h x v m) (Qe_ c f h x v m) q a b c f h x v m d=S:=⟨_,rfl⟩
    rw [hSd] at hS
    have hroom:W3_ S=S:=Bz_ (by omega) (by omega)
    have hfl:(xC_ q a b (Zj_ c f h x v m) d).length=4+(ZB_ q a b (Zj_ c f h x v m) d).length:=by
     unfold xC_
     have g2:=zk_ (n:=q) (w:=2) (by decide)
     have g3:=zk_ (n:=(4+(ZB_ q a b (Zj_ c f h x v m) d).length)) (w:=2) (by decide)
     simp only [List.length_append];omega
    have hcn:=Vm_ q
    by_cases h25:q=25
    ·have ht:=YN_ (.inr h25)
     obtain ⟨r1,r2⟩:=zeh_ ht (show 0<=S/\S<=65535 by omega)
     have l2:=zk_ (n:=q) (w:=2) (by decide)
     have l3:=zk_ (n:=S) (w:=2) (by decide)
     obtain ⟨w1,w2⟩:=H6_ (l:=[]) (room:=S) r2 (by rw [r1,List.length_append,List.length_nil];omega)
     rw [List.nil_append,r1] at w1
     obtain ⟨_,_,_,_,_,_,hR⟩:=jD_ h25 hr
     obtain ⟨e1,e2⟩:=wB_ hR
     have hB:ZB_ q a b (Zj_ c f h x v m) d=Zj_ c f h x v m++List.replicate ((8 - (4+(Zj_ c f h x v m).length) % 8) % 8) 0:=if_pos h25
     have hBl:(ZB_ q a b (Zj_ c f h x v m) d).length=(Zj_ c f h x v m).length+(8 - (4+(Zj_ c f h x v m).length) % 8) % 8:=by rw [hB,List.length_append,List.length_replicate]
     obtain ⟨u1,u2⟩:=xF_ (x:=Zj_ c f h x v m) (l:=zf_ q 2++zf_ S 2) (room:=S) (by rw [List.length_append];omega)
     have hlen:(zf_ q 2++zf_ S 2++Zj_ c f h x v m).length=4+(Zj_ c f h x v m).length:=by simp only [List.length_append];omega
     have hz:=zfE_ (4+(Zj_ c f h x v m).length)
     obtain ⟨y1,y2⟩:=xF_ (x:=List.replicate ((8 - (4+(Zj_ c f h x v m).length) % 8) % 8) (0:Int)) (l:=zf_ q 2++zf_ S 2++Zj_ c f h x v m) (room:=S) (by rw [hlen,List.length_replicate];omega)
     have hfin:xC_ q a b (Zj_ c f h x v m) d=zf_ q 2++zf_ S 2++Zj_ c f h x v m++List.replicate ((8 - (4+(Zj_ c f h x v m).length) % 8) % 8) (0:Int):=by
      unfold xC_;rw [<- hS,hB];simp only [List.append_assoc]
     repeat'(intro t ht;first|(cases t<;>first|(cases ht;done)|(try simp only[zh_]at ht;try(exfalso;first|contradiction|omega)))|((first|refine za_ ht ?_|refine ht ?_ ?_|refine ht.1 ?_ ?_|refine ht ?_)<;>clear ht))
     all_goals (try simp only [hSd] at*)
     all_goals (try simp only [hroom,w1,w2,hR,if_true,u1,u2,hlen,hz,y1,y2,<- hfin] at*)
     all_goals first
      | exact True.intro
      | exact hp
      | omega
      | ((try simp only [zn_,zo_,zi_] at*);omega)
      | exact ⟨by omega,by omega,by simp only [List.length_nil];omega⟩
      | exact ⟨by omega,by omega,by simp only [List.length_append];omega,by omega⟩
      | exact ⟨by omega,by omega,by omega,by decide,by decide⟩
      | exact ⟨by omega,by decide⟩
      | (constructor<;>(simp only [List.length_append,List.length_replicate,List.length_nil];omega))
      | (unfold Xz_ XA_ w5_;exact ⟨rfl,by first | rfl | exact True.intro⟩)
      | (exfalso;simp_all;done)
    ·obtain ⟨k1,k2,k3,k4,k5,k6,k7⟩:=kh_ h25 hr
     have ht:=YN_ (.inl k1)
     obtain ⟨r1,r2⟩:=zeh_ ht (show 0<=S/\S<=65535 by omega)
     have l2:=zk_ (n:=q) (w:=2) (by decide)
     have l3:=zk_ (n:=S) (w:=2) (by decide)
     obtain ⟨w1,w2⟩:=H6_ (l:=[]) (room:=S) r2 (by rw [r1,List.length_append,List.length_nil];omega)
     rw [List.nil_append,r1] at w1
     have hB:ZB_ q a b (Zj_ c f h x v m) d=qd_ (zt_ q) (KN_ q a b)++d:=if_neg h25
     have hBl:(ZB_ q a b (Zj_ c f h x v m) d).length=(qd_ (zt_ q) (KN_ q a b)).length+d.length:=by rw [hB,List.length_append]
     obtain ⟨u1,u2⟩:=H6_ (l:=zf_ q 2++zf_ S 2) (room:=S) k4 (by rw [List.length_append];omega)
     unfold KN_ at u1 u2 k4 hB hBl
     obtain ⟨y1,y2⟩:=xF_ (x:=d) (l:=zf_ q 2++zf_ S 2++qd_ (zt_ q) ([a,b].take (zw_ (zt_ q)).toNat)) (room:=S) (by simp only [List.length_append];omega)
     have hfin:xC_ q a b (Zj_ c f h x v m) d=zf_ q 2++zf_ S 2++qd_ (zt_ q) ([a,b].take (zw_ (zt_ q)).toNat)++d:=by
      unfold xC_;rw [<- hS,hB];simp only [List.append_assoc]
     repeat'(intro t ht;first|(cases t<;>first|(cases ht;done)|(try simp only[zh_]at ht;try(exfalso;first|contradiction|omega)))|((first|refine za_ ht ?_|refine ht ?_ ?_|refine ht.1 ?_ ?_|refine ht ?_)<;>clear ht))
     all_goals (try simp only [hSd] at*)
     all_goals (try simp only [hroom,w1,w2,u1,u2,y1,y2,<- hfin] at*)
     all_goals first
      | exact True.intro
      | exact hp
      | omega
      | ((try simp only [zn_,zo_,zi_] at*);omega)
      | exact ⟨by omega,by omega,by simp only [List.length_nil];omega⟩
      | exact ⟨by omega,by omega,by simp only [List.length_append];omega⟩
      | exact ⟨by omega,by omega,by simp only [List.length_append];omega,by omega⟩
      | exact ⟨by omega,by decide⟩
      | (constructor<;>(simp only [List.length_append,List.length_nil];omega))
      | (unfold Xz_ XA_ w5_;exact ⟨rfl,by first | rfl | exact True.intro⟩)
      | (exfalso;simp_all;done)
 ·cases e
structure okM (l:List OV):Prop where
 a:allLen l
 n:l.length<=100000
section
variable {I:Nat->Prop} {w:World} {mm:M}
end
theorem zfA_ (b:List Int):QT_ [2,2] b=if b.length < 4 then ([],1) else ([ZL_ (b.take 2),ZL_ ((b.drop 2).take 2)],0):=by
 have hr:z4_ [2,2]=true:=by decide
 unfold QT_
 rw [if_pos hr]
 have a2:zr_ 2=2:=by decide
 have t2:Int.toNat 2=2:=rfl
 have p2:(0:Int) < 2:=by decide
 simp only [Z7_,a2,t2,if_pos p2,List.length_drop]
 by_cases h:b.length < 4
 ·rw [if_pos h]
  by_cases h2:(b.length:Int) < 2
  ·rw [if_pos h2]
  ·rw [if_neg h2,if_pos (by omega)]
 ·rw [if_neg h,if_neg (by omega),if_neg (by omega)];rfl
def tT (b:List Int):Int:=ZL_ (b.take 2)
def tN (b:List Int):Int:=ZL_ ((b.drop 2).take 2)
def tlE (b:List Int) (least step bad:Int):Int:=if b.length < 4 then bad else if tN b < least\/¬ (tN b).tmod step=0 then bad else if (b.length:Int) < tN b then bad else 0
def tlI (b:List Int) (least step bad x:Int):Int:=if tlE b least step bad=0 then x else 0
def tlR (b:List Int) (least step bad:Int):List Int:=if tlE b least step bad=0 then (b.take (tN b).toNat).drop 4 else []
theorem gY_ {b:List Int} {a:Nat} (hb:∀ x ∈ b,0<=x/\x<=255):0<=ZL_ ((b.drop a).take 2)/\ZL_ ((b.drop a).take 2)<=65535:=by
 have h:=Xn_ ((b.drop a).take 2) fun x hx=>hb x (List.mem_of_mem_drop (List.mem_of_mem_take hx))
 have hl:((b.drop a).take 2).length<=2:=by rw [List.length_take];omega
 have hp:∀ k ≤ 2,(256:Int) ^ k<=65536:=by decide
 have:=hp _ hl
 omega
def bd (b:List Int):List Int:=(b.take (tN b).toNat).drop 4
theorem zfI_ {b:List Int} (hb:∀ x ∈ b,0<=x/\x<=255):(bd b).length<=65535:=by
 have:=gY_ (a:=2) hb
 unfold bd tN;rw [List.length_drop,List.length_take];omega
theorem zfF_ {b:List Int} {sh od:Int}:yw_ [2,2] b 0 0=(if b.length < 4 then [] else [tT b,tN b])/\YJ_ [2,2] b 0 0=(if b.length < 4 then 0 else 4)/\YK_ [2,2] b 0 sh od 0=(if b.length < 4 then sh else 0):=by
 have e:QT_ [2,2] (b.drop (0:Int).toNat)=if b.length < 4 then ([],1) else ([tT b,tN b],0):=by
  rw [show (0:Int).toNat=0 from rfl,List.drop_zero,zfA_];rfl
 have es:Zl_ [2,2]=4:=by decide
 unfold yw_ YJ_ YK_ k6_ qZ_
 rw [e,es]
 by_cases h:b.length < 4
 ·simp only [if_pos h];exact ⟨rfl,rfl,rfl⟩
 ·simp only [if_neg h];exact ⟨rfl,rfl,rfl⟩
def ym_:IR:=
(sq (kr [0] [oD 1 (.boxv 0),
oD 2 (.mov cF)])
(sq (kr [1] [oA 3 0 1,
oL 4 3,
oB 5 .geq 4 (cI 4),
oM 6 5,
oT 6 7 (.fieldAddr 0 1),
oT 6 8 (.load none 7),
oT 6 9 (.bin .leq 8 (cI 60000)),
oP 10 6 9 cF,
oM 11 10,
oT 11 12 (.fieldAddr 1 1),
oT 11 13 (.load none 12),
oT 11 14 (.bin .geq 13 (cI 1)),
oP 15 11 14 cF,
oM 16 15,
oT 16 17 (.fieldAddr 1 1),
oT 16 18 (.load none 17),
oT 16 19 (.bin .leq 18 (cI 64)),
oP 20 16 19 cF,
oM 21 20,
oT 21 22 (.fieldAddr 3 1),
oT 21 23 (.load none 22),
oT 21 24 (.bin .neq 23 (cI 0)),
oP 25 21 24 cF,
oM 26 25,
oT 26 27 (.fieldAddr 4 1),
oT 26 28 (.load none 27),
oT 26 29 (.bin .neq 28 (cI 0)),
oP 30 26 29 cF,
oM 2 30])
.ret))
def X3_:List RD:=[.tmp 2 true none]
theorem yd_:zl_ Tryz.prog Tryz.f124 ym_ X3_=true:=by kernel_rfl
def Ka_:List AV->List Obj->Option (Prop × AV)
 | [.agg [.int .i64 least,.int .i64 step,.bool pad,.int .i64 bad,.int .i64 odd]],[]=>some ((4<=least/\least<=60000/\1<=step/\step<=64/\bad ≠ 0/\odd ≠ 0,.bool true))
 | _,_=>none
theorem x1_:ze_ Tryz.prog 124 (RoF Ka_).sum:=by
 refine zm_ Tryz.func124 yd_ (zd_ _) fun args objs p v e=>?_
 unfold Ka_ at e
 split at e
 ·rename_i least step pad bad odd
  cases e
  refine ⟨rfl,fun hw ho hp=>?_⟩
  clear hw ho
  obtain ⟨h1,h2,h3,h4,h5,h6⟩:=hp
  repeat'(intro t ht;first|(cases t<;>first|(cases ht;done)|(try simp only[zh_]at ht;try(exfalso;first|contradiction|omega)))|((first|refine za_ ht ?_|refine ht ?_ ?_|refine ht.1 ?_ ?_|refine ht ?_)<;>clear ht))
  all_goals first
   | exact True.intro
   | exact ⟨rfl,rfl⟩
   | (exfalso;omega)
   | (refine ⟨congrArg AV.bool ?_,rfl⟩;simp;omega)
 ·cases e
def Xu_:IR:=
(sq (kr [0,1] [oD 2 (.boxv 0),
oD 4 (.mov cF)])
(sq (kr [1,2] [oM 5 1,
oA 6 0 2,
oL 7 6,
oB 8 .geq 5 7,
oM 9 8,
oT 9 10 (.fieldAddr 2 2),
oT 9 11 (.load none 10),
oT 9 12 (.mov 11),
oF 12 13 (.mov 1),
oF 12 14 (.fieldAddr 1 2),
oF 12 15 (.load none 14),
oF 12 16 (.bin .rem 13 15),
oF 12 17 (.bin .eql 16 (cI 0)),
oT 9 18 (.pick 12 cT 17),
oP 19 9 18 cF,
oM 4 19])
.ret))
def Xb_:List RD:=[.tmp 4 true none]
theorem Xk_:zl_ Tryz.prog Tryz.f126 Xu_ Xb_=true:=by kernel_rfl
def kz_:List AV->List Obj->Option (Prop × AV)
 | [.agg [.int .i64 least,.int .i64 step,.bool pad,.int .i64 bad,.int .i64 odd],.int .i64 n],[]=>some ((pad=false/\1<=step,.bool (decide (least<=n) && decide (n.tmod step=0))))
 | _,_=>none
theorem xa_:ze_ Tryz.prog 126 (RoF kz_).sum:=by
 refine zm_ Tryz.func126 Xk_ (zd_ _) fun args objs p v e=>?_
 unfold kz_ at e
 split at e
 ·rename_i least step pad bad odd n
  cases e
  refine ⟨rfl,fun hw ho hp=>?_⟩
  clear hw ho
  obtain ⟨rfl,h1⟩:=hp
  repeat'(intro t ht;first|(cases t<;>first|(cases ht;done)|(try simp only[zh_]at ht;try(exfalso;first|contradiction|omega)))|((first|refine za_ ht ?_|refine ht ?_ ?_|refine ht.1 ?_ ?_|refine ht ?_)<;>clear ht))
  all_goals first
   | exact True.intro
   | omega
   | (refine ⟨congrArg AV.bool ?_,rfl⟩;simp_all;done)
   | (refine ⟨congrArg AV.bool ?_,rfl⟩;rw [decide_eq_false (by omega)];rfl)
 ·cases e
def xt_:IR:=
(sq (kr [0,1] [oD 2 (.boxv 0),
oD 4 (.mov (cI 0))])
(sq (sq (.reg [oA 5 2 2,
oL 6 5,
oD 7 (.un .not 6)])
(.cond 7
(sq (.reg [oD 4 (.mov (cI 0))])
.ret)
.skip))
(sq (kd [1,2] [(oA 8 1 2,[]),
(oL 9 8,[]),
(oM 10 1,[0,0]),
(oA 11 1 2,[0,0,0]),
(oL 12 11,[1,0,0]),
(oB 13 .rem 10 12,[3,0]),
(oB 14 .sub 9 13,[]),
(oA 15 1 2,[0,0,0,0,0,0,0]),
(oL 16 15,[1,0,0,0,0,0,0]),
(oB 17 .rem 14 16,[]),
(oM 4 17,[])])
.ret)))
def xf_:List RD:=[.tmp 4 true none]
theorem xl_:zl_ Tryz.prog Tryz.f127 xt_ xf_=true:=by kernel_rfl
def QZ_:List AV->List Obj->Option (Prop × AV)
 | [.agg [.int .i64 least,.int .i64 step,.bool pad,.int .i64 bad,.int .i64 odd],.int .i64 n],[]=>some ((pad=false,.int .i64 0))
 | _,_=>none
theorem WL_:ze_ Tryz.prog 127 (RoF QZ_).sum:=by
 refine zm_ Tryz.func127 xl_ (zd_ _) fun args objs p v e=>?_
 unfold QZ_ at e
 split at e
 ·rename_i least step pad bad odd n
  cases e
  refine ⟨rfl,fun hw ho hp=>?_⟩
  clear hw ho
  subst hp
  repeat'(intro t ht;first|(cases t<;>first|(cases ht;done)|(try simp only[zh_]at ht;try(exfalso;first|contradiction|omega)))|((first|refine za_ ht ?_|refine ht ?_ ?_|refine ht.1 ?_ ?_|refine ht ?_)<;>clear ht))
  all_goals first
   | exact True.intro
   | exact ⟨rfl,rfl⟩
 ·cases e
def bK_:IR:=
(sq (kr [0,1] [oD 2 (.boxv 0),
oD 4 (.box [.int .i64 0,.imm (.int .u8) []]),
oD 5 (.mov (cI 0)),
oD 6 (.mov (cI 0))])
(sq (sq (.reg [oK 13 5 2,
oC 14 124 [13],
oD 15 (.un .not 14)])
(.cond 15
(sq (kr [4] [oD 16 (.build [.int .i64 0,.imm (.int .u8) []] []),
oS 2 4 16,
oD 5 (.mov (cI 0)),
oD 6 (.mov (cI 10001))])
.ret)
.skip))
(sq (kr [1,2,4] [oM 17 1,
oA 18 3 2,
oL 19 18,
oA 20 4 2,
oL 21 20,
oC 22 24 [17,19,21],
oM 7 22])
(sq (kr [1,2,4,7] [oM 23 7,
oD 24 (.sliceAll (.int .i64) 2 [(0,1,(cI 2)),(1,1,(cI 2))]),
oC 25 125 [23,24],
oM 8 25])
(sq (sq (.reg [oM 26 8,
oE 27 26,
oB 28 .eql 27 (cI 0)])
(.cond 28
(sq (kr [4,7] [oD 29 (.build [.int .i64 0,.imm (.int .u8) []] []),
oM 30 7,
oC 31 27 [30],
oS 2 4 29,
oD 5 (.mov (cI 0)),
oM 6 31])
.ret)
.skip))
(sq (kr [1,2,4,7,8] [oM 32 8,
oD 33 (.indexSl 1 32 (cI 1)),
oL 34 33,
oD 35 (.conv .i64 34),
oM 9 35])
(sq (sq (kr [1,2,4,7,8,9] [oK 36 5 2,
oM 37 9,
oC 38 126 [36,37],
oD 39 (.un .not 38),
oM 40 39,
oF 40 41 (.mov 9),
oF 40 42 (.load (some 5) 2),
oF 40 43 (.mov 9),
oF 40 44 (.call false (.f 127) [42,43]),
oF 40 45 (.bin .add 41 44),
oF 40 46 (.mov 1),
oF 40 47 (.len 46),
oF 40 48 (.bin .gtr 45 47),
oP 49 40 cT 48])
(.cond 49
(sq (kd [2,4] [(oD 50 (.build [.int .i64 0,.imm (.int .u8) []] []),[]),
(oA 51 3 2,[0]),
(oL 52 51,[1]),
(oS 2 4 50,[0,0]),
(oD 5 (.mov (cI 0)),[1,0]),
(oM 6 52,[])])
.ret)
.skip))
(sq (kd [2,4,7,8,9] [(oM 53 8,[]),
(oD 54 (.indexSl 1 53 (cI 0)),[]),
(oL 55 54,[]),
(oD 56 (.conv .i64 55),[]),
(oM 57 7,[0,0,0,0]),
(oM 58 9,[0,0,0,0,0]),
(oB 59 .sub 58 (cI 4),[1,0,0,0,0]),
(oC 60 25 [57,59],[3,0,0,0]),
(oD 61 (.buildAll 2 [(0,1,56),(1,1,60)]),[]),
(oD 10 (.box [.int .i64 0,.imm (.int .u8) []]),[0,0,0,0,0,0,0,0,0]),
(oS 2 10 61,[])])
(sq (sq (kr [2,4,7,9,10] [oK 62 5 2,
oM 63 9,
oC 64 127 [62,63],
oM 11 64])
(sq (.reg [oM 65 11,
oB 66 .gtr 65 (cI 0)])
(.cond 66
(kr [4,7,10,11] [oM 67 7,
oM 68 11,
oD 69 (.un .neg 68),
oD 70 (.sliceAll (.int .i64) 1 [(0,1,69)]),
oC 71 125 [67,70]])
.skip)))
(sq (sq (kr [4,7,10] [oM 72 7,
oC 73 27 [72],
oM 12 73])
(sq (.reg [oM 74 12,
oB 75 .neq 74 (cI 0)])
(.cond 75
(sq (.reg [oD 76 (.build [.int .i64 0,.imm (.int .u8) []] []),
oM 77 12,
oS 2 4 76,
oD 5 (.mov (cI 0)),
oM 6 77])
.ret)
.skip)))
(sq (kd [4,7,10] [(oK 78 2 10,[]),
(oM 79 7,[0]),
(oC 80 28 [79],[1]),
(oS 2 4 78,[]),
(oM 5 80,[]),
(oD 6 (.mov (cI 0)),[])])
.ret)))))))))))
def ba_:List RD:=[.cell 4 (some 2) true [],.tmp 5 true none,.tmp 6 true none]
theorem bp_:zl_ Tryz.prog Tryz.f99 bK_ ba_=true:=by kernel_rfl
def yJ_:List AV->List Obj->Option (Prop × AV)
 | [.agg [.int .i64 least,.int .i64 step,.bool pad,.int .i64 bad,.int .i64 odd],.imm (.int .u8) b],[]=>some ((pad=false/\(4<=least/\least<=60000/\1<=step/\step<=64/\bad ≠ 0/\odd ≠ 0)/\b.length<=140737488355328,.tup [.agg [.int .i64 (tlI b least step bad (tT b)),.imm (.int .u8) (tlR b least step bad)],.int .i64 (tlI b least step bad (tN b)),.int .i64 (tlE b least step bad)]))
 | _,_=>none
theorem GR_:ze_ Tryz.prog 99 (RoF yJ_).sum:=by
 refine zm_ Tryz.func99 bp_ (zb_ (s:=RoF Ka_) x1_ (zb_ (s:=RwF Q3_) KI_ (zb_ (s:=RwF Zb_) ZG_ (zb_ (s:=RoF zQ_) Zf_ (zb_ (s:=RoF kz_) xa_ (zb_ (s:=RoF QZ_) WL_ (zb_ (s:=RwF Zi_) ZW_ (zb_ (s:=RoF qa_) kP_ (zd_ _))))))))) fun args objs p v e=>?_
 unfold yJ_ at e
 split at e
 ·rename_i least step pad bad odd b
  cases e
  refine ⟨rfl,fun hw ho hp=>?_⟩
  change List Int at b
  have hb:∀ x ∈ (b:List Int),(0:Int)<=x/\x<=255:=fun x hx=>(hw _ (by simp:AV.imm (.int .u8) b ∈ _)).1 x hx
  clear hw ho
  obtain ⟨rfl,hs,hl⟩:=hp
  have hs':=hs
  obtain ⟨h1,h2,h3,h4',h5,h6⟩:=hs'
  have hT:0<=tT b/\tT b<=65535:=gY_ (a:=0) hb
  have hN:0<=tN b/\tN b<=65535:=gY_ (a:=2) hb
  obtain ⟨c1,c2,c3⟩:=zfF_ (b:=b) (sh:=bad) (od:=odd)
  have hm:=UV_ (a:=tN b) (s:=step) hN.1 h3
  by_cases h4:b.length < 4
  ·rw [if_pos h4] at c1 c2 c3
   have hE:tlE b least step bad=bad:=if_pos h4
   repeat'(intro t ht;first|(cases t<;>first|(cases ht;done)|(try simp only[zh_]at ht;try(exfalso;first|contradiction|omega)))|((first|refine za_ ht ?_|refine ht ?_ ?_|refine ht.1 ?_ ?_|refine ht ?_)<;>clear ht))
   all_goals (try simp only [c1,c2,c3,List.length_nil,not_true_eq_false] at*)
   all_goals first
    | exact True.intro
    | exact ⟨rfl,hs⟩
    | exact hs
    | omega
    | exact ⟨by omega,by omega,by omega⟩
    | (unfold tlI tlR;simp only [hE,if_neg h5];first | done | exact ⟨rfl,by first | rfl | exact True.intro⟩ | exact ⟨trivial,trivial⟩)
    | (exfalso;omega)
  ·rw [if_neg h4] at c1 c2 c3
   have g0:∀ d:Int,[tT b,tN b].getD (Int.toNat 0) d=tT b:=fun _=>rfl
   have g1:∀ d:Int,[tT b,tN b].getD (Int.toNat 1) d=tN b:=fun _=>rfl
   have hok:4<=tN b->tN b<=b.length->QG_ (tN b - 4) b 4 bad 0=0/\jy_ (tN b - 4) b 4 bad 0=(b.take (tN b).toNat).drop 4/\wu_ (tN b - 4) b 4 bad 0=tN b:=fun q1 q2=>by
    have e:QG_ (tN b - 4) b 4 bad 0=0:=by unfold QG_;rw [if_neg (by omega),if_neg (by omega)]
    refine ⟨e,?_,?_⟩
    ·unfold jy_;rw [if_pos e];congr 2;omega
    ·unfold wu_;rw [if_pos e];omega
   repeat'(intro t ht;first|(cases t<;>first|(cases ht;done)|(try simp only[zh_]at ht;try(exfalso;first|contradiction|omega)))|((first|refine za_ ht ?_|refine ht ?_ ?_|refine ht.1 ?_ ?_|refine ht ?_)<;>clear ht))
   all_goals (try simp only [c1,c2,c3,g0,g1,List.length_cons,List.length_nil,not_true_eq_false] at*)
   all_goals first
    | exact True.intro
    | exact ⟨True.intro,h3⟩
    | exact hs
    | omega
    | exact ⟨by omega,by omega,by omega⟩
    | exact ⟨by omega,by omega,by omega,h5⟩
    | ((try simp only [zn_,zo_,zi_] at*);omega)
    | (exfalso;omega)
    | (have hE:tlE b least step bad=bad:=by
        unfold tlE;rw [if_neg h4]
        first
         | exact if_pos (by omega)
         | (by_cases hq:tN b < least\/¬ (tN b).tmod step=0
            ·exact if_pos hq
            ·rw [if_neg hq];exact if_pos (by omega))
       unfold tlI tlR;simp only [hE,if_neg h5];first | done | exact ⟨rfl,by first | rfl | exact True.intro⟩ | exact ⟨trivial,trivial⟩)
    | (obtain ⟨q1,q2,q3⟩:=hok (by omega) (by omega)
       first
        | exact absurd q1 (by assumption)
        | (have hE:tlE b least step bad=0:=by
            unfold tlE;rw [if_neg h4,if_neg (by omega)];exact if_neg (by omega)
           unfold tlI tlR;simp only [hE,q2,q3,if_true];first | done | exact ⟨rfl,by first | rfl | exact True.intro⟩ | exact ⟨trivial,trivial⟩))
 ·cases e
end Go.Eng

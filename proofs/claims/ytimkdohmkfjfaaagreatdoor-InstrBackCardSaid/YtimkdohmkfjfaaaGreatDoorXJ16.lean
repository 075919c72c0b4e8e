/- Parts of the proof: A7, A8, A9, H1, H2, H3. No condition. -/
import Derived.Test.YtimkdohmkfjfaaaGreatDoorProg
import Derived.Test.YtimkdohmkfjfaaaGreatDoorXJ11
import Derived.KernelRfl
import Derived.Test.YtimkdohmkfjfaaaGreatDoorXJ15
import Derived.Test.YtimkdohmkfjfaaaGreatDoorXJ14
namespace Go.Eng
open Go.Proofs
set_option linter.unusedVariables false
set_option linter.unusedSimpArgs false
set_option maxRecDepth 100000
set_option maxHeartbeats 1000000
def JH_:IR:=
(sq (kr [0] [oD 2 (.mov (.c (.imm (.int .u8) [])))])
(sq (kr [0] [oM 3 0,
oM 4 0,
oC 5 108 [4],
oC 6 88 [3,5],
oM 2 6])
.ret))
def Jj_:List RD:=[.tmp 2 true (some (.int .u8))]
theorem Jv_:zl_ Tryz.prog Tryz.f124 JH_ Jj_=true:=by kernel_rfl
def Z2_:List AV->List Obj->Option (Prop × AV × List Obj)
 | [.ptr 0 0],[.box [.imm (.int .u8) b,.int .i64 p,.int .i64 sh,.int .i64 od,.int .i64 e,.bool true]]=>some ((0<=p/\p<=b.length/\b.length<=140737488355328/\sh ≠ 0,.imm (.int .u8) (if e=0 then b.drop p.toNat else []),[.box [.imm (.int .u8) b,.int .i64 ((if e=0 then (b.length:Int) else p)),.int .i64 sh,.int .i64 od,.int .i64 e,.bool true]]))
 | _,_=>none
theorem Qu_:zf_ Tryz.prog 124 (RwF Z2_).sum:=by
 refine Qi_ Tryz.func124 Jv_ (za_ (s:=RoF z7_) ZC_ (za_ (s:=RwF zZ_) Zw_ (ze_ _))) fun args objs p v o e=>?_
 unfold Z2_ at e
 split at e
 ·rename_i b p sh od e
  cases e
  refine ⟨rfl,fun hw ho hp=>?_⟩
  change List Int at b
  clear hw ho
  obtain ⟨h1,h2,h3,h4⟩:=hp
  have hE:qb_ ((b.length:Int) - p) b p sh e=e:=by unfold qb_;rw [if_neg (by omega),if_neg (by omega)]
  have hL:qV_ ((b.length:Int) - p) b p sh e=if e=0 then b.drop p.toNat else []:=by
   unfold qV_;rw [hE,show (p+((b.length:Int) - p)).toNat=b.length by omega,List.take_length]
  have hP:j5_ ((b.length:Int) - p) b p sh e=if e=0 then (b.length:Int) else p:=by
   unfold j5_;rw [hE,show p+((b.length:Int) - p)=b.length by omega]
  repeat'(intro t ht;first|(cases t<;>first|(cases ht;done)|(try simp only[zh_]at ht))|((first|refine zb_ ht ?_|refine ht ?_ ?_|refine ht.1 ?_ ?_|refine ht ?_)<;>clear ht))
  all_goals first
   | exact True.intro
   | exact ⟨h1,h2⟩
   | exact ⟨h1,h2,h3,h4⟩
   | (rw [hE,hL,hP];exact ⟨rfl,rfl⟩)
 ·cases e
def ui_:IR:=
(sq (kr [0] [oD 2 (.box [.int .i64 0,.int .i64 0,.kb false,.int .u64 0,.imm (.int .u8) [],.imm (.int .u8) []]),
oD 3 (.mov (cI 0))])
(sq (kr [0,2] [oM 8 0,
oC 9 163 [8],
oM 7 9,
oX 10 7 0,
oX 11 7 1,
oX 12 7 2,
oD 4 (.box [.int .i64 0,.int .i64 0,.kb false,.int .u64 0,.imm (.int .u8) [],.imm (.int .u8) []]),
oS 6 4 10,
oM 5 11,
oM 6 12])
(sq (sq (kr [0,2,4,5,6] [oM 13 6])
(.block 0
(sq (.reg [oB 16 .eql 13 (cI 0),
oM 15 16])
(.cond 15
.skip
(sq (.reg [oB 18 .eql 13 (cI 1026),
oM 17 18])
(.cond 17
(sq (kr [2,4] [oK 19 6 4,
oS 6 2 19,
oD 3 (.mov (cI 527))])
.ret)
(sq (kr [2,4,13] [oB 21 .eql 13 (cI 1031),
oM 20 21])
(.cond 20
(sq (.reg [oK 22 6 4,
oS 6 2 22,
oD 3 (.mov (cI 526))])
.ret)
(sq (.reg [oK 14 6 4,
oS 6 2 14,
oD 3 (.mov (cI 528))])
.ret)))))))))
(sq (.block 1
(sq (kr [0,2,4,5] [oA 24 0 4,
oL 25 24,
oB 26 .neq 25 (cI 32768),
oM 27 26,
oF 27 28 (.fieldAddr 1 4),
oF 27 29 (.load none 28),
oF 27 30 (.call false (.f 228) [29]),
oF 27 31 (.un .not 30),
oP 32 27 cT 31,
oM 23 32])
(.cond 23
(sq (kr [2,4] [oK 33 6 4,
oS 6 2 33,
oD 3 (.mov (cI 526))])
.ret)
(sq (kr [0,2,4,5] [oA 35 2 4,
oL 36 35,
oM 34 36])
(.cond 34
(sq (.reg [oK 37 6 4,
oS 6 2 37,
oD 3 (.mov (cI 528))])
.ret)
(sq (kr [0,2,4,5] [oM 39 0,
oE 40 39,
oM 41 5,
oB 42 .add 41 (cI 8),
oB 43 .geq 40 42,
oM 38 43])
(.cond 38
(sq (kr [2,4] [oK 44 6 4,
oS 6 2 44,
oD 3 (.mov (cI 527))])
.ret)
(sq (kr [0,2,4,5] [oM 46 0,
oM 47 5,
oD 48 (.slice 1 46 (some 47) none none),
oC 49 192 [48,(.c (.str [0]))],
oE 50 49,
oB 51 .gtr 50 (cI 0),
oM 45 51])
(.cond 45
(sq (kr [2,4] [oK 52 6 4,
oS 6 2 52,
oD 3 (.mov (cI 528))])
.ret)
.skip)))))))))
(sq (kr [2,4] [oK 53 6 4,
oS 6 2 53,
oD 3 (.mov (cI 0))])
.ret)))))
def VE_:List RD:=[.cell 2 (some 6) true [],.tmp 3 true none]
theorem VX_:zl_ Tryz.prog Tryz.f229 ui_ VE_=true:=by kernel_rfl
def j3_:List AV->List Obj->Option (Prop × AV)
 | [.imm (.int .u8) b],[]=>some ((b.length<=140737488355328,.tup [.agg [.int .i64 (qj_ b (zz_ b)),.int .i64 (qj_ b (zR_ b)),.bool ((if Zb_ b=0 then ZX_ b else false)),.int .u64 (qj_ b (Q0_ b)),.imm (.int .u8) (Qd_ b (qz_ b)),.imm (.int .u8) (Qd_ b (qp_ b))],.int .i64 (yo_ b)]))
 | _,_=>none
theorem Yq_:zf_ Tryz.prog 229 (RoF j3_).sum:=by
 refine zj_ Tryz.func229 VX_ (za_ (s:=RoF jU_) Yh_ (za_ (s:=RoF qM_) k7_ (za_ (s:=RoF kZ_) JW_ (ze_ _)))) fun args objs p v e=>?_
 unfold j3_ at e
 split at e
 ·rename_i b
  cases e
  refine ⟨rfl,fun hw ho hp=>?_⟩
  change List Int at b
  have hb:∀ x ∈ (b:List Int),(0:Int)<=x/\x<=255:=fun x hx=>(hw (.imm (.int .u8) b) (by simp)).1 x hx
  clear hw ho
  by_cases h0:Zb_ b=0
  ·obtain ⟨E1,E2,E3,E4⟩:=bM_ hb h0
   have htz:=us_ (b.drop (Z7_ b).toNat)
   have hS:yo_ b=if ¬ (zz_ b=32768/\XW_ (zR_ b)=true) then 526 else if ZX_ b=true then 528 else if Z7_ b+8<=b.length then 527 else if Z6_ (b.drop (Z7_ b).toNat)=true then 0 else 528:=if_pos h0
   repeat'(intro t ht;first|(cases t<;>first|(cases ht;done)|(try simp only[zh_]at ht;try(exfalso;first|contradiction|omega)))|((first|refine zb_ ht ?_|refine ht ?_ ?_|refine ht.1 ?_ ?_|refine ht ?_)<;>clear ht))
   all_goals (try simp only [qj_,h0,if_true] at*)
   all_goals first
    | exact True.intro
    | exact hp
    | omega
    | ((try simp only [zn_,zo_,zm_] at*);omega)
    | (rw [List.length_drop];omega)
    | (exfalso;simp_all;done)
    | (refine ⟨congrArg (fun z=>AV.tup [_,AV.int .i64 z]) ?_,by first | rfl | exact True.intro⟩;rw [hS];clear hS;simp_all;done)
    | (refine ⟨?_,by first | rfl | exact True.intro⟩;rw [hS];clear hS;simp_all;done)
    | (have hz:Z6_ (b.drop (Z7_ b).toNat)=true:=by rw [<- htz];exact decide_eq_true (by omega)
       refine ⟨?_,by first | rfl | exact True.intro⟩;rw [hS];clear hS;simp_all;done)
    | (have hz:Z6_ (b.drop (Z7_ b).toNat)=false:=by rw [<- htz];exact decide_eq_false (by omega)
       refine ⟨?_,by first | rfl | exact True.intro⟩;rw [hS];clear hS;simp_all;done)
  ·have hS:yo_ b=if Zb_ b=1026 then 527 else if Zb_ b=1031 then 526 else 528:=if_neg h0
   repeat'(intro t ht;first|(cases t<;>first|(cases ht;done)|(try simp only[zh_]at ht;try(exfalso;first|contradiction|omega)))|((first|refine zb_ ht ?_|refine ht ?_ ?_|refine ht.1 ?_ ?_|refine ht ?_)<;>clear ht))
   all_goals first
    | exact True.intro
    | exact hp
    | (exfalso;omega)
    | (refine ⟨congrArg (fun z=>AV.tup [_,AV.int .i64 z]) ?_,by first | rfl | exact True.intro⟩;rw [hS];clear hS;simp_all;done)
 ·cases e
def XX_ (q a b c f:Int) (h:Bool) (x:Int) (v m d:List Int) (q' a' b' c' f':Int) (h':Bool) (x':Int) (v' m' d':List Int):Bool:=decide (q=q') && decide (a=a') && decide (b=b') && QQ_ c f h x v m c' f' h' x' v' m' && decide (d=d')
theorem h5_ (q a b c f:Int) (h:Bool) (x:Int) (v m d:List Int):XX_ q a b c f h x v m d q a b c f h x v m d=true:=by unfold XX_;rw [ux_];simp
def vs_:IR:=
(sq (kr [0,1] [oD 2 (.boxv 0),
oD 3 (.boxv 1),
oD 4 (.mov cF)])
(sq (kr [2,3] [oA 5 0 2,
oL 6 5,
oA 7 0 3,
oL 8 7,
oB 9 .eql 6 8,
oM 10 9,
oT 10 11 (.fieldAddr 1 2),
oT 10 12 (.load none 11),
oT 10 13 (.fieldAddr 1 3),
oT 10 14 (.load none 13),
oT 10 15 (.bin .eql 12 14),
oP 16 10 15 cF,
oM 17 16,
oT 17 18 (.fieldAddr 2 2),
oT 17 19 (.load none 18),
oT 17 20 (.fieldAddr 2 3),
oT 17 21 (.load none 20),
oT 17 22 (.bin .eql 19 21),
oP 23 17 22 cF,
oM 24 23,
oT 24 25 (.fieldAddr 3 2),
oT 24 26 (.load (some 6) 25),
oT 24 27 (.fieldAddr 3 3),
oT 24 28 (.load (some 6) 27),
oT 24 29 (.call false (.f 45) [26,28]),
oP 30 24 29 cF,
oM 31 30,
oT 31 32 (.fieldAddr 9 2),
oT 31 33 (.load none 32),
oT 31 34 (.fieldAddr 9 3),
oT 31 35 (.load none 34),
oT 31 36 (.call false (.f 71) [33,35]),
oP 37 31 36 cF,
oM 4 37])
.ret))
def YJ_:List RD:=[.tmp 4 true none]
theorem Y4_:zl_ Tryz.prog Tryz.f115 vs_ YJ_=true:=by kernel_rfl
def kh_:List AV->List Obj->Option (Prop × AV)
 | [.agg [.int .i64 q,.int .u64 a,.int .u64 b,.int .i64 c,.int .i64 f,.bool h,.int .u64 x,.imm (.int .u8) v,.imm (.int .u8) m,.imm (.int .u8) d],.agg [.int .i64 q',.int .u64 a',.int .u64 b',.int .i64 c',.int .i64 f',.bool h',.int .u64 x',.imm (.int .u8) v',.imm (.int .u8) m',.imm (.int .u8) d']],[]=>some ((True,.bool (XX_ q a b c f h x v m d q' a' b' c' f' h' x' v' m' d')))
 | _,_=>none
theorem j8_:zf_ Tryz.prog 115 (RoF kh_).sum:=by
 refine zj_ Tryz.func115 Y4_ (za_ (s:=RoF jS_) W6_ (za_ (s:=RoF q7_) kx_ (ze_ _))) fun args objs p v e=>?_
 unfold kh_ at e
 split at e
 ·rename_i q a b c f h x v m d q' a' b' c' f' h' x' v' m' d'
  cases e
  refine ⟨rfl,fun hw ho hp=>?_⟩
  change List Int at v
  change List Int at m
  change List Int at d
  change List Int at v'
  change List Int at m'
  change List Int at d'
  clear hw ho
  repeat'(intro t ht;first|(cases t<;>first|(cases ht;done)|(try simp only[zh_]at ht;try(exfalso;first|contradiction|omega)))|((first|refine zb_ ht ?_|refine ht ?_ ?_|refine ht.1 ?_ ?_|refine ht ?_)<;>clear ht))
  all_goals first
   | exact True.intro
   | (refine ⟨congrArg AV.bool ?_,rfl⟩;unfold XX_;simp_all;done)
 ·cases e
theorem vC_:∀ (w b o:List Int),(ZF_ w b o).2 ≠ 0->(ZF_ w b o).1=[]
 | [],b,o,h=>absurd rfl h
 | n :: r,b,o,h=>by
   simp only [ZF_] at h ⊢
   split at h
   ·rename_i c;rw [if_pos c]
   ·rename_i c
    rw [if_neg c]
    split at h
    ·rename_i c2;rw [if_pos c2];exact vC_ r _ _ h
    ·rename_i c2
     rw [if_neg c2]
     split at h
     ·rename_i c3;rw [if_pos c3];exact vC_ r _ _ h
     ·rename_i c3;rw [if_neg c3]
theorem vy_ {w b:List Int} (h:Zo_ w b ≠ 0):Z0_ w b=[]:=by
 unfold Zo_ Z5_ at h;unfold Z0_ Z5_
 split at h
 ·rename_i c;rw [if_pos c];exact vC_ _ _ _ h
 ·rename_i c;rw [if_neg c]
theorem za9_ {w b:List Int} (hb:∀ x ∈ b,0<=x/\x<=255) (h:Zo_ w b=0):((Z0_ w b).length:Int)=zF_ w:=by
 obtain ⟨p1,_,_⟩:=K2_ hb (show Z5_ w b=(Z0_ w b,0) from Prod.ext rfl h)
 unfold Qc_ at p1
 obtain ⟨r,hr⟩:=Option.isSome_iff_exists.1 p1
 unfold KB_ at hr
 split at hr
 ·rename_i h;exact h.2.symm
 ·cases hr
def plA (q:Int) (y:List Int) (k:Nat):Int:=if ¬ q=65535/\¬ (y.length:Int)=zV_ (zs_ q) then 0 else (Z0_ (zs_ q) y).getD k 0
def plD (q:Int) (y:List Int):List Int:=if plE q y=0 then y.drop (zV_ (zs_ q)).toNat else []
def yN_:IR:=
(sq (kr [0,1,2] [oD 3 (.boxv 0),
oD 6 (.box [.int .i64 0,.int .u64 0,.int .u64 0,.int .i64 0,.int .i64 0,.kb false,.int .u64 0,.imm (.int .u8) [],.imm (.int .u8) [],.imm (.int .u8) []]),
oD 7 (.mov (cI 0))])
(sq (sq (kr [1,2,3,6] [oA 11 0 3,
oL 12 11,
oB 13 .neq 12 (cI 65535),
oM 14 13,
oT 14 15 (.mov 2),
oT 14 16 (.len 15),
oT 14 17 (.mov 1),
oT 14 18 (.call false (.f 141) [17]),
oT 14 19 (.bin .neq 16 18),
oP 20 14 19 cF])
(.cond 20
(sq (kr [3,6] [oK 21 10 3,
oS 10 6 21,
oD 7 (.mov (cI 514))])
.ret)
.skip))
(sq (kr [1,2,3,6] [oM 22 2,
oC 23 51 [22,(cI 514),(cI 518)],
oM 8 23])
(sq (sq (kr [1,3,6,8] [oM 24 8,
oM 25 1,
oC 26 89 [24,25],
oE 27 26,
oD 28 (.mov (cI 0))])
(.block 0
(.loop
(sq (kr [3,6,8,26,27,28] [oB 29 .lss 28 27])
(sq (.cond 29
.skip
(.exit 0))
(sq (.block 1
(sq (kr [3,6,8,26,27,28] [oM 30 28,
oI 31 1 26 28,
oL 32 31,
oM 9 30,
oM 10 32])
(sq (.reg [oM 33 9,
oB 34 .eql 33 (cI 0)])
(.cond 34
(kr [3,6,8,10,26,27,28] [oM 35 10,
oA 36 1 3,
oS 1 36 35])
(kr [3,6,8,10,26,27,28] [oM 37 10,
oA 38 2 3,
oS 1 38 37])))))
(kr [3,6,8,26,27,28] [oB 39 .add 28 (cI 1),
oM 28 39])))))))
(sq (kr [3,6,8] [oM 40 8,
oA 41 0 3,
oL 42 41,
oA 43 1 3,
oL 44 43,
oC 45 206 [42,44],
oC 46 110 [40,45]])
(sq (kr [3,6,8] [oM 47 8,
oC 48 124 [47],
oA 49 9 3,
oS 1 49 48])
(sq (.regD [(oK 50 10 3,[]),
(oM 51 8,[0]),
(oC 52 53 [51],[1]),
(oS 10 6 50,[]),
(oM 7 52,[])])
.ret)))))))
def yv_:List RD:=[.cell 6 (some 10) true [],.tmp 7 true none]
theorem yE_:zl_ Tryz.prog Tryz.f230 yN_ yv_=true:=by kernel_rfl
def Kl_:List AV->List Obj->Option (Prop × AV)
 | [.agg [.int .i64 q,.int .u64 0,.int .u64 0,.int .i64 c,.int .i64 f,.bool h,.int .u64 x,.imm (.int .u8) v,.imm (.int .u8) m,.imm (.int .u8) ([])],.imm (.int .i64) w,.imm (.int .u8) y],[]=>some ((w=zs_ q/\y.length<=1000000,.tup [.agg [.int .i64 q,.int .u64 (plA q y 0),.int .u64 (plA q y 1),.int .i64 c,.int .i64 f,.bool h,.int .u64 x,.imm (.int .u8) v,.imm (.int .u8) m,.imm (.int .u8) (plD q y)],.int .i64 (plE q y)]))
 | _,_=>none
theorem xZ_:zf_ Tryz.prog 230 (RoF Kl_).sum:=by
 refine zj_ Tryz.func230 yE_ (za_ (s:=RoF Qe_) Qs_ (za_ (s:=RwF qN_) Qt_ (za_ (s:=RwF Zh_) ZV_ (za_ (s:=RoF QL_) KV_ (za_ (s:=RwF zE_) zJ_ (za_ (s:=RwF Z2_) Qu_ (za_ (s:=RoF zB_) zG_ (ze_ _)))))))) fun args objs p v e=>?_
 unfold Kl_ at e
 split at e
 ·rename_i q c f h x v m w y
  cases e
  refine ⟨rfl,fun hw ho hp=>?_⟩
  change List Int at v
  change List Int at m
  change List Int at w
  change List Int at y
  have hyb:∀ x ∈ (y:List Int),(0:Int)<=x/\x<=255:=fun x hx=>(hw (.imm (.int .u8) y) (by simp)).1 x hx
  clear hw ho
  obtain ⟨rfl,hy⟩:=hp
  have hz:=Yr_ q
  have hcn:=vO_ q
  have hd0:y.drop (0:Int).toNat=y:=rfl
  have hf0:∀ e,Zd_ 0 e=e:=fun e=>if_pos rfl
  by_cases hm:¬ q=65535/\¬ (y.length:Int)=zV_ (zs_ q)
  ·have e1:plE q y=514:=if_pos hm
   have e2:∀ k,plA q y k=0:=fun k=>if_pos hm
   have e3:plD q y=[]:=by unfold plD;rw [e1];rfl
   rw [e1,e2,e2,e3]
   repeat'(intro t ht;first|(cases t<;>first|(cases ht;done)|(try simp only[zh_]at ht;try(exfalso;first|contradiction|omega)))|((first|refine zb_ ht ?_|refine ht ?_ ?_|refine ht.1 ?_ ?_|refine ht ?_)<;>clear ht))
   all_goals first
    | exact True.intro
    | omega
    | exact ⟨rfl,rfl⟩
  ·have e2:∀ k,plA q y k=(Z0_ (zs_ q) y).getD k 0:=fun k=>if_neg hm
   have e1:plE q y=if Zo_ (zs_ q) y=1 then 514 else if Zo_ (zs_ q) y=2 then 518 else H3_ q ((Z0_ (zs_ q) y).getD 0 0):=if_neg hm
   have hcL:kU_ (zs_ q) y 0 0=Z0_ (zs_ q) y:=by unfold kU_;rw [if_pos rfl,hd0]
   have hcE:wz_ (zs_ q) y 0 514 518 0=if Zo_ (zs_ q) y=1 then 514 else if Zo_ (zs_ q) y=2 then 518 else 0:=by unfold wz_;rw [if_pos rfl,hd0]
   have hcP:K4_ (zs_ q) y 0 0=if Zo_ (zs_ q) y=1 then 0 else if Zo_ (zs_ q) y=2 then 0 else 0+zV_ (zs_ q):=by unfold K4_;rw [if_pos rfl,hd0]
   by_cases hK0:Zo_ (zs_ q) y=0
   ·have hl:=za9_ hyb hK0
    rw [hK0,if_neg (by decide),if_neg (by decide)] at hcE hcP e1
    unfold plD
    rw [e1,e2,e2]
    have hsz:zV_ (zs_ q)<=y.length:=by
     have hpf:=K2_ hyb (show Z5_ (zs_ q) y=(Z0_ (zs_ q) y,0) from Prod.ext rfl hK0)
     have:=x7_ hpf.1
     rw [hpf.2.1,List.length_take] at this
     omega
    rcases hL:Z0_ (zs_ q) y with _ | ⟨u,_ | ⟨w,_ | ⟨w2,r2⟩⟩⟩
    ·rw [hL] at hcL hl e1
     repeat'(intro t ht;first|(cases t<;>first|(cases ht;done)|(try simp only[zh_]at ht;try(exfalso;first|contradiction|omega)))|((first|refine zb_ ht ?_|refine ht ?_ ?_|refine ht.1 ?_ ?_|refine ht ?_)<;>clear ht))
     all_goals (try simp only [hcL,hcE,hcP] at*)
     all_goals first
      | exact True.intro
      | omega
      | exact ⟨by omega,by omega,by omega⟩
      | (intro r h1 h2;refine h1 ⟨1,?_⟩;clear h1 h2)
     all_goals repeat'(intro t ht;first|(cases t<;>first|(cases ht;done)|(try simp only[zh_]at ht;try(exfalso;first|contradiction|omega)))|((first|refine zb_ ht ?_|refine ht ?_ ?_|refine ht.1 ?_ ?_|refine ht ?_)<;>clear ht))
     all_goals (try simp only [hcL,hcE,hcP,List.getD_cons_zero,List.getD_cons_succ,List.getD_nil] at*)
     all_goals first
      | exact True.intro
      | omega
      | ((try simp only [zn_,zo_,zm_] at*);omega)
      | exact ⟨by omega,by omega,by omega,by decide⟩
      | (refine ⟨?_,by first | rfl | exact True.intro⟩;simp only [hf0,Int.zero_add];rfl)
    ·rw [hL] at hcL hl e1
     repeat'(intro t ht;first|(cases t<;>first|(cases ht;done)|(try simp only[zh_]at ht;try(exfalso;first|contradiction|omega)))|((first|refine zb_ ht ?_|refine ht ?_ ?_|refine ht.1 ?_ ?_|refine ht ?_)<;>clear ht))
     all_goals (try simp only [hcL,hcE,hcP] at*)
     all_goals first
      | exact True.intro
      | omega
      | exact ⟨by omega,by omega,by omega⟩
      | (intro r h1 h2;refine h1 ⟨2,?_⟩;clear h1 h2)
     all_goals repeat'(intro t ht;first|(cases t<;>first|(cases ht;done)|(try simp only[zh_]at ht;try(exfalso;first|contradiction|omega)))|((first|refine zb_ ht ?_|refine ht ?_ ?_|refine ht.1 ?_ ?_|refine ht ?_)<;>clear ht))
     all_goals (try simp only [hcL,hcE,hcP,List.getD_cons_zero,List.getD_cons_succ,List.getD_nil] at*)
     all_goals first
      | exact True.intro
      | omega
      | ((try simp only [zn_,zo_,zm_] at*);omega)
      | exact ⟨by omega,by omega,by omega,by decide⟩
      | (refine ⟨?_,by first | rfl | exact True.intro⟩;simp only [hf0,Int.zero_add];rfl)
    ·rw [hL] at hcL hl e1
     repeat'(intro t ht;first|(cases t<;>first|(cases ht;done)|(try simp only[zh_]at ht;try(exfalso;first|contradiction|omega)))|((first|refine zb_ ht ?_|refine ht ?_ ?_|refine ht.1 ?_ ?_|refine ht ?_)<;>clear ht))
     all_goals (try simp only [hcL,hcE,hcP] at*)
     all_goals first
      | exact True.intro
      | omega
      | exact ⟨by omega,by omega,by omega⟩
      | (intro r h1 h2;refine h1 ⟨3,?_⟩;clear h1 h2)
     all_goals repeat'(intro t ht;first|(cases t<;>first|(cases ht;done)|(try simp only[zh_]at ht;try(exfalso;first|contradiction|omega)))|((first|refine zb_ ht ?_|refine ht ?_ ?_|refine ht.1 ?_ ?_|refine ht ?_)<;>clear ht))
     all_goals (try simp only [hcL,hcE,hcP,List.getD_cons_zero,List.getD_cons_succ,List.getD_nil] at*)
     all_goals first
      | exact True.intro
      | omega
      | ((try simp only [zn_,zo_,zm_] at*);omega)
      | exact ⟨by omega,by omega,by omega,by decide⟩
      | (refine ⟨?_,by first | rfl | exact True.intro⟩;simp only [hf0,Int.zero_add];rfl)
    ·rw [hL] at hl;simp only [List.length_cons] at hl;omega
   ·have hL:=vy_ hK0
    have hE:∃ e,e ≠ 0/\(if Zo_ (zs_ q) y=1 then (514:Int) else if Zo_ (zs_ q) y=2 then 518 else 0)=e/\(if Zo_ (zs_ q) y=1 then (514:Int) else if Zo_ (zs_ q) y=2 then 518 else H3_ q (([]:List Int).getD 0 0))=e:=by
     rcases gu_ (zs_ q) y with h | h | h
     ·exact absurd h hK0
     ·rw [h];exact ⟨514,by decide,rfl,rfl⟩
     ·rw [h];exact ⟨518,by decide,rfl,rfl⟩
    obtain ⟨e,he,h1,h2⟩:=hE
    rw [h1] at hcE;rw [hL] at hcL e1;rw [h2] at e1
    unfold plD
    rw [e1,e2,e2,hL,if_neg he]
    repeat'(intro t ht;first|(cases t<;>first|(cases ht;done)|(try simp only[zh_]at ht;try(exfalso;first|contradiction|omega)))|((first|refine zb_ ht ?_|refine ht ?_ ?_|refine ht.1 ?_ ?_|refine ht ?_)<;>clear ht))
    all_goals (try simp only [hcL,hcE] at*)
    all_goals first
     | exact True.intro
     | omega
     | exact ⟨by omega,by omega,by omega⟩
     | (intro r h1 h2;refine h1 ⟨1,?_⟩;clear h1 h2)
    all_goals repeat'(intro t ht;first|(cases t<;>first|(cases ht;done)|(try simp only[zh_]at ht;try(exfalso;first|contradiction|omega)))|((first|refine zb_ ht ?_|refine ht ?_ ?_|refine ht.1 ?_ ?_|refine ht ?_)<;>clear ht))
    all_goals (try simp only [hcL,hcE] at*)
    all_goals first
     | exact True.intro
     | omega
     | ((try simp only [zn_,zo_,zm_] at*);omega)
     | (refine ⟨?_,by first | rfl | exact True.intro⟩;simp only [Zd_,if_neg he];done)
     | (refine ⟨?_,by first | rfl | exact True.intro⟩;simp only [Zd_,if_neg he];rfl)
 ·cases e
theorem gI_ {b:List Int} (h:acE b ≠ 0):(∀ x,acI b x=0)/\(∀ k,acA b k=0)/\(∀ x,acS b x=0)/\acH b=false/\(∀ l,acV b l=[])/\acD b=[]:=by
 have hI:∀ x,acI b x=0:=fun x=>if_neg h
 refine ⟨hI,fun k=>hI _,fun x=>hI _,?_,fun l=>if_neg h,if_neg h⟩
 unfold acH;rw [decide_eq_false h];rfl
theorem zec_ {b:List Int} (h:acE b=0) (h25:tT b=25):(∀ x,acI b x=x)/\(∀ k,acA b k=0)/\(∀ x,acS b x=x)/\acH b=ZX_ (bd b)/\(∀ l,acV b l=l)/\acD b=[]:=by
 have hI:∀ x,acI b x=x:=fun x=>if_pos h
 refine ⟨hI,fun k=>(hI _).trans (if_pos h25),fun x=>(hI _).trans (if_pos h25),?_,fun l=>(if_pos h).trans (if_pos h25),(if_pos h).trans (if_pos h25)⟩
 unfold acH;rw [decide_eq_true h,decide_eq_true h25];rfl
theorem zed_ {b:List Int} (h:acE b=0) (h25:¬ tT b=25):(∀ x,acI b x=x)/\(∀ k,acA b k=(Z0_ (zs_ (tT b)) (bd b)).getD k 0)/\(∀ x,acS b x=0)/\acH b=false/\(∀ l,acV b l=[])/\acD b=(bd b).drop (zV_ (zs_ (tT b))).toNat:=by
 have hI:∀ x,acI b x=x:=fun x=>if_pos h
 refine ⟨hI,fun k=>(hI _).trans (if_neg h25),fun x=>(hI _).trans (if_neg h25),?_,fun l=>(if_pos h).trans (if_neg h25),(if_pos h).trans (if_neg h25)⟩
 unfold acH;rw [decide_eq_false h25];simp
def Xn_:IR:=
(sq (kr [0] [oD 2 (.box [.int .i64 0,.int .u64 0,.int .u64 0,.int .i64 0,.int .i64 0,.kb false,.int .u64 0,.imm (.int .u8) [],.imm (.int .u8) [],.imm (.int .u8) []]),
oD 3 (.mov (cI 0)),
oD 4 (.mov (cI 0))])
(sq (kr [0,2] [oD 12 (.build [.int .i64 0,.int .i64 0,.kb false,.int .i64 0,.int .i64 0] [(0,1,(cI 8)),(1,1,(cI 8)),(3,1,(cI 514)),(4,1,(cI 514))]),
oM 13 0,
oC 14 65 [12,13],
oM 11 14,
oX 15 11 0,
oX 16 11 1,
oX 17 11 2,
oD 5 (.box [.int .i64 0,.imm (.int .u8) []]),
oS 2 5 15,
oM 6 16,
oM 7 17])
(sq (sq (kr [2,5,6,7] [oM 18 7,
oB 19 .neq 18 (cI 0)])
(.cond 19
(sq (.reg [oD 20 (.build [.int .i64 0,.int .u64 0,.int .u64 0,.int .i64 0,.int .i64 0,.kb false,.int .u64 0,.imm (.int .u8) [],.imm (.int .u8) [],.imm (.int .u8) []] []),
oM 21 7,
oS 10 2 20,
oD 3 (.mov (cI 0)),
oM 4 21])
.ret)
.skip))
(sq (kr [2,5,6] [oA 22 0 5,
oL 23 22,
oD 24 (.build [.int .i64 0,.int .u64 0,.int .u64 0,.int .i64 0,.int .i64 0,.kb false,.int .u64 0,.imm (.int .u8) [],.imm (.int .u8) [],.imm (.int .u8) []] [(0,1,23)]),
oD 8 (.box [.int .i64 0,.int .u64 0,.int .u64 0,.int .i64 0,.int .i64 0,.kb false,.int .u64 0,.imm (.int .u8) [],.imm (.int .u8) [],.imm (.int .u8) []]),
oS 10 8 24])
(sq (kr [2,5,6,8] [oA 26 0 5,
oL 27 26,
oC 28 175 [27],
oM 25 28,
oX 29 25 0,
oX 30 25 1,
oM 9 29,
oM 10 30])
(sq (.block 0
(sq (kr [2,5,6,8,9,10] [oA 32 0 5,
oL 33 32,
oB 34 .eql 33 (cI 25),
oM 31 34])
(.cond 31
(kr [2,5,6,8] [oA 36 1 5,
oL 37 36,
oC 38 229 [37],
oM 35 38,
oX 39 35 0,
oX 40 35 1,
oA 41 3 8,
oS 6 41 39,
oM 7 40])
(sq (.reg [oM 43 10,
oM 42 43])
(.cond 42
(kr [2,5,6,8,9] [oK 45 10 8,
oM 46 9,
oA 47 1 5,
oL 48 47,
oC 49 230 [45,46,48],
oM 44 49,
oX 50 44 0,
oX 51 44 1,
oS 10 8 50,
oM 7 51])
(kr [2,6,8] [oD 7 (.mov (cI 513))]))))))
(sq (sq (kr [2,6,7,8] [oM 52 7,
oB 53 .neq 52 (cI 0)])
(.cond 53
(sq (.reg [oD 54 (.build [.int .i64 0,.int .u64 0,.int .u64 0,.int .i64 0,.int .i64 0,.kb false,.int .u64 0,.imm (.int .u8) [],.imm (.int .u8) [],.imm (.int .u8) []] []),
oM 55 7,
oS 10 2 54,
oD 3 (.mov (cI 0)),
oM 4 55])
.ret)
.skip))
(sq (kr [2,6,8] [oK 56 10 8,
oM 57 6,
oS 10 2 56,
oM 3 57,
oD 4 (.mov (cI 0))])
.ret))))))))
def x5_:List RD:=[.cell 2 (some 10) true [],.tmp 3 true none,.tmp 4 true none]
theorem Xd_:zl_ Tryz.prog Tryz.f209 Xn_ x5_=true:=by kernel_rfl
def kH_:List AV->List Obj->Option (Prop × AV)
 | [.imm (.int .u8) b],[]=>some ((b.length<=140737488355328,.tup [.agg [.int .i64 (acI b (tT b)),.int .u64 (acA b 0),.int .u64 (acA b 1),.int .i64 (acS b (zz_ (bd b))),.int .i64 (acS b (zR_ (bd b))),.bool (acH b),.int .u64 (acS b (Q0_ (bd b))),.imm (.int .u8) (acV b (qz_ (bd b))),.imm (.int .u8) (acV b (qp_ (bd b))),.imm (.int .u8) (acD b)],.int .i64 (acI b (tN b)),.int .i64 (acE b)]))
 | _,_=>none
theorem xa_:zf_ Tryz.prog 209 (RoF kH_).sum:=by
 refine zj_ Tryz.func209 Xd_ (za_ (s:=RoF ja_) JS_ (za_ (s:=RoF qi_) q9_ (za_ (s:=RoF j3_) Yq_ (za_ (s:=RoF Kl_) xZ_ (ze_ _))))) fun args objs p v e=>?_
 unfold kH_ at e
 split at e
 ·rename_i b
  cases e
  refine ⟨rfl,fun hw ho hp=>?_⟩
  change List Int at b
  have hb:∀ x ∈ (b:List Int),(0:Int)<=x/\x<=255:=fun x hx=>(hw (.imm (.int .u8) b) (by simp)).1 x hx
  clear hw ho
  have hbl:=zbx_ hb
  have hs:(False=False)/\(4<=(8:Int)/\(8:Int)<=60000/\1<=(8:Int)/\(8:Int)<=64/\(514:Int) ≠ 0/\(514:Int) ≠ 0):=⟨rfl,by decide,by decide,by decide,by decide,by decide,by decide⟩
  by_cases hT:tlE b 8 8 514=0
  ·have hI:∀ x,tlI b 8 8 514 x=x:=fun x=>if_pos hT
   have hR:tlR b 8 8 514=bd b:=if_pos hT
   by_cases h25:tT b=25
   ·have hE:acE b=yo_ (bd b):=by unfold acE;rw [if_neg (not_not_intro hT),if_pos h25]
    by_cases h0:yo_ (bd b)=0
    ·have hd0:Zb_ (bd b)=0:=Classical.byContradiction fun h=>by
      unfold yo_ at h0;rw [if_neg h] at h0
      split at h0
      ·cases h0
      ·split at h0<;>cases h0
     have hdI:∀ x,qj_ (bd b) x=x:=fun x=>if_pos hd0
     have hdR:∀ l,Qd_ (bd b) l=l:=fun l=>if_pos hd0
     obtain ⟨n1,n2,n3,n4,n5,n6⟩:=zec_ (hE.trans h0) h25
     rw [n1,n2,n2,n3,n3,n3,n4,n5,n5,n6,n1,hE,h0]
     repeat'(intro t ht;first|(cases t<;>first|(cases ht;done)|(try simp only[zh_]at ht;try(exfalso;first|contradiction|omega)))|((first|refine zb_ ht ?_|refine ht ?_ ?_|refine ht.1 ?_ ?_|refine ht ?_)<;>clear ht))
     all_goals (try simp only [hT,hI,hR,h0,h25,hdI,hdR,if_pos hd0,not_true_eq_false] at*)
     all_goals first
      | exact True.intro
      | omega
      | exact ⟨by first | rfl | exact True.intro,⟨by decide,by decide,by decide,by decide,by decide,by decide⟩,hp⟩
      | exact ⟨rfl,by first | rfl | exact True.intro⟩
         | exact ⟨True.intro,True.intro⟩
    ·obtain ⟨n1,n2,n3,n4,n5,n6⟩:=gI_ (b:=b) (by rw [hE];exact h0)
     rw [n1,n2,n2,n3,n3,n3,n4,n5,n5,n6,n1,hE]
     repeat'(intro t ht;first|(cases t<;>first|(cases ht;done)|(try simp only[zh_]at ht;try(exfalso;first|contradiction|omega)))|((first|refine zb_ ht ?_|refine ht ?_ ?_|refine ht.1 ?_ ?_|refine ht ?_)<;>clear ht))
     all_goals (try simp only [hT,hI,hR,h25,not_true_eq_false] at*)
     all_goals first
      | exact True.intro
      | omega
      | exact ⟨by first | rfl | exact True.intro,⟨by decide,by decide,by decide,by decide,by decide,by decide⟩,hp⟩
      | exact ⟨rfl,by first | rfl | exact True.intro⟩
         | exact ⟨True.intro,True.intro⟩
   ·cases hK:Us_ (tT b) with
    | false=>
      have hE:acE b=513:=by unfold acE;rw [if_neg (not_not_intro hT),if_neg h25,hK];rfl
      obtain ⟨n1,n2,n3,n4,n5,n6⟩:=gI_ (b:=b) (by rw [hE];decide)
      rw [n1,n2,n2,n3,n3,n3,n4,n5,n5,n6,n1,hE]
      repeat'(intro t ht;first|(cases t<;>first|(cases ht;done)|(try simp only[zh_]at ht;try(exfalso;first|contradiction|omega)))|((first|refine zb_ ht ?_|refine ht ?_ ?_|refine ht.1 ?_ ?_|refine ht ?_)<;>clear ht))
      all_goals (try simp only [hT,hI,hR,not_true_eq_false] at*)
      all_goals first
       | exact True.intro
       | omega
       | exact ⟨by first | rfl | exact True.intro,⟨by decide,by decide,by decide,by decide,by decide,by decide⟩,hp⟩
       | exact ⟨rfl,by first | rfl | exact True.intro⟩
          | exact ⟨True.intro,True.intro⟩
       | (exfalso;simp_all;done)
    | true=>
      have hE:acE b=plE (tT b) (bd b):=by unfold acE;rw [if_neg (not_not_intro hT),if_neg h25,if_pos hK]
      by_cases h0:plE (tT b) (bd b)=0
      ·obtain ⟨n1,n2,n3,n4,n5,n6⟩:=zed_ (hE.trans h0) h25
       have hm:¬ (¬ tT b=65535/\¬ ((bd b).length:Int)=zV_ (zs_ (tT b))):=fun h=>by unfold plE at h0;rw [if_pos h] at h0;cases h0
       have hA:∀ k,plA (tT b) (bd b) k=(Z0_ (zs_ (tT b)) (bd b)).getD k 0:=fun k=>if_neg hm
       have hD:plD (tT b) (bd b)=(bd b).drop (zV_ (zs_ (tT b))).toNat:=if_pos h0
       rw [n1,n2,n2,n3,n3,n3,n4,n5,n5,n6,n1,hE,h0]
       repeat'(intro t ht;first|(cases t<;>first|(cases ht;done)|(try simp only[zh_]at ht;try(exfalso;first|contradiction|omega)))|((first|refine zb_ ht ?_|refine ht ?_ ?_|refine ht.1 ?_ ?_|refine ht ?_)<;>clear ht))
       all_goals (try simp only [hT,hI,hR,h0,hA,hD,not_true_eq_false] at*)
       all_goals first
        | exact True.intro
        | omega
        | exact ⟨by first | rfl | exact True.intro,⟨by decide,by decide,by decide,by decide,by decide,by decide⟩,hp⟩
        | exact ⟨rfl,by first | rfl | exact True.intro⟩
          | exact ⟨True.intro,True.intro⟩
        | exact ⟨trivial,by omega⟩
        | (exfalso;simp_all;done)
      ·obtain ⟨n1,n2,n3,n4,n5,n6⟩:=gI_ (b:=b) (by rw [hE];exact h0)
       rw [n1,n2,n2,n3,n3,n3,n4,n5,n5,n6,n1,hE]
       repeat'(intro t ht;first|(cases t<;>first|(cases ht;done)|(try simp only[zh_]at ht;try(exfalso;first|contradiction|omega)))|((first|refine zb_ ht ?_|refine ht ?_ ?_|refine ht.1 ?_ ?_|refine ht ?_)<;>clear ht))
       all_goals (try simp only [hT,hI,hR,not_true_eq_false] at*)
       all_goals first
        | exact True.intro
        | omega
        | exact ⟨by first | rfl | exact True.intro,⟨by decide,by decide,by decide,by decide,by decide,by decide⟩,hp⟩
        | exact ⟨rfl,by first | rfl | exact True.intro⟩
          | exact ⟨True.intro,True.intro⟩
        | exact ⟨trivial,by omega⟩
        | (exfalso;simp_all;done)
  ·have hE:acE b=tlE b 8 8 514:=by unfold acE;rw [if_pos hT]
   obtain ⟨n1,n2,n3,n4,n5,n6⟩:=gI_ (b:=b) (by rw [hE];exact hT)
   rw [n1,n2,n2,n3,n3,n3,n4,n5,n5,n6,n1,hE]
   repeat'(intro t ht;first|(cases t<;>first|(cases ht;done)|(try simp only[zh_]at ht;try(exfalso;first|contradiction|omega)))|((first|refine zb_ ht ?_|refine ht ?_ ?_|refine ht.1 ?_ ?_|refine ht ?_)<;>clear ht))
   all_goals first
    | exact True.intro
    | exact ⟨by first | rfl | exact True.intro,⟨by decide,by decide,by decide,by decide,by decide,by decide⟩,hp⟩
    | exact ⟨rfl,by first | rfl | exact True.intro⟩
            | exact ⟨True.intro,True.intro⟩
 ·cases e
def HH_:IR:=
(sq (kr [0] [oD 1 (.boxv 0),
oD 2 (.mov cF)])
(sq (kr [1] [oA 3 3 1,
oK 4 6 3,
oC 5 37 [4],
oM 6 5,
oT 6 7 (.fieldAddr 9 1),
oT 6 8 (.load none 7),
oT 6 9 (.len 8),
oT 6 10 (.bin .leq 9 (cI 500)),
oP 11 6 10 cF,
oM 2 11])
.ret))
def Hf_:List RD:=[.tmp 2 true none]
theorem Ho_:zl_ Tryz.prog Tryz.f98 HH_ Hf_=true:=by kernel_rfl
def XK_:List AV->List Obj->Option (Prop × AV)
 | [.agg [.int .i64 q,.int .u64 a,.int .u64 b,.int .i64 c,.int .i64 f,.bool h,.int .u64 x,.imm (.int .u8) v,.imm (.int .u8) m,.imm (.int .u8) d]],[]=>some ((True,.bool (decide (v.length<=300) && decide (m.length<=300) && decide (d.length<=500))))
 | _,_=>none
theorem g5_:zf_ Tryz.prog 98 (RoF XK_).sum:=by
 refine zj_ Tryz.func98 Ho_ (za_ (s:=RoF XL_) g6_ (ze_ _)) fun args objs p v e=>?_
 unfold XK_ at e
 split at e
 ·rename_i q a b c f h x v m d
  cases e
  refine ⟨rfl,fun hw ho hp=>?_⟩
  change List Int at v
  change List Int at m
  change List Int at d
  clear hw ho
  repeat'(intro t ht;first|(cases t<;>first|(cases ht;done)|(try simp only[zh_]at ht;try(exfalso;first|contradiction|omega)))|((first|refine zb_ ht ?_|refine ht ?_ ?_|refine ht.1 ?_ ?_|refine ht ?_)<;>clear ht))
  all_goals first
   | exact True.intro
   | (refine ⟨congrArg AV.bool ?_,rfl⟩;simp_all;done)
   | (refine ⟨congrArg AV.bool ?_,rfl⟩;simp_all;omega)
 ·cases e
def G8_:IR:=
(sq (kr [0,1] [oD 2 (.boxv 0),
oD 3 (.boxv 1),
oD 4 (.mov cF)])
(sq (kr [2,3] [oA 5 0 2,
oL 6 5,
oA 7 0 3,
oL 8 7,
oB 9 .eql 6 8,
oM 10 9,
oT 10 11 (.fieldAddr 1 2),
oT 10 12 (.load none 11),
oT 10 13 (.fieldAddr 1 3),
oT 10 14 (.load none 13),
oT 10 15 (.bin .eql 12 14),
oP 16 10 15 cF,
oM 17 16,
oT 17 18 (.fieldAddr 2 2),
oT 17 19 (.load none 18),
oT 17 20 (.fieldAddr 2 3),
oT 17 21 (.load none 20),
oT 17 22 (.bin .eql 19 21),
oP 23 17 22 cF,
oM 24 23,
oT 24 25 (.fieldAddr 3 2),
oT 24 26 (.load (some 6) 25),
oT 24 27 (.fieldAddr 3 3),
oT 24 28 (.load (some 6) 27),
oT 24 29 (.call false (.f 43) [26,28]),
oP 30 24 29 cF,
oM 31 30,
oT 31 32 (.fieldAddr 9 2),
oT 31 33 (.load none 32),
oT 31 34 (.fieldAddr 9 3),
oT 31 35 (.load none 34),
oT 31 36 (.call false (.f 20) [33,35]),
oP 37 31 36 cF,
oM 4 37])
.ret))
def Gl_:List RD:=[.tmp 4 true none]
theorem GF_:zl_ Tryz.prog Tryz.f112 G8_ Gl_=true:=by kernel_rfl
def WR_:List AV->List Obj->Option (Prop × AV)
 | [.agg [.int .i64 q,.int .u64 a,.int .u64 b,.int .i64 c,.int .i64 f,.bool h,.int .u64 x,.imm (.int .u8) v,.imm (.int .u8) m,.imm (.int .u8) d],.agg [.int .i64 q',.int .u64 a',.int .u64 b',.int .i64 c',.int .i64 f',.bool h',.int .u64 x',.imm (.int .u8) v',.imm (.int .u8) m',.imm (.int .u8) d']],[]=>some ((True,.bool (XX_ q a b c f h x v m d q' a' b' c' f' h' x' v' m' d')))
 | _,_=>none
theorem Uh_:zf_ Tryz.prog 112 (RoF WR_).sum:=by
 refine zj_ Tryz.func112 GF_ (za_ (s:=RoF WS_) Ui_ (za_ (s:=RoF qB_) qX_ (ze_ _))) fun args objs p v e=>?_
 unfold WR_ at e
 split at e
 ·rename_i q a b c f h x v m d q' a' b' c' f' h' x' v' m' d'
  cases e
  refine ⟨rfl,fun hw ho hp=>?_⟩
  change List Int at v
  change List Int at m
  change List Int at d
  change List Int at v'
  change List Int at m'
  change List Int at d'
  clear hw ho
  repeat'(intro t ht;first|(cases t<;>first|(cases ht;done)|(try simp only[zh_]at ht;try(exfalso;first|contradiction|omega)))|((first|refine zb_ ht ?_|refine ht ?_ ?_|refine ht.1 ?_ ?_|refine ht ?_)<;>clear ht))
  all_goals first
   | exact True.intro
   | (refine ⟨congrArg AV.bool ?_,rfl⟩;unfold XX_;simp_all;done)
 ·cases e
abbrev AC:=Int × Int × Int × OV × List Int × Unit
instance:DecidableEq (OV × List Int × Unit):=inferInstance
instance:DecidableEq (Int × OV × List Int × Unit):=inferInstance
instance:DecidableEq AC:=inferInstance
def rgA (a:AC):Bool:=ZW_ (zM_ a.2.2.2.1.1 a.2.2.2.1.2.1 a.2.2.2.1.2.2.1 a.2.2.2.1.2.2.2.1 a.2.2.2.1.2.2.2.2.1 a.2.2.2.1.2.2.2.2.2.1) a.1 a.2.1 a.2.2.1 a.2.2.2.1.1 a.2.2.2.1.2.1 a.2.2.2.1.2.2.1 a.2.2.2.1.2.2.2.1 a.2.2.2.1.2.2.2.2.1 a.2.2.2.1.2.2.2.2.2.1 a.2.2.2.2.1
def szA (a:AC):Int:=xc_ (zM_ a.2.2.2.1.1 a.2.2.2.1.2.1 a.2.2.2.1.2.2.1 a.2.2.2.1.2.2.2.1 a.2.2.2.1.2.2.2.2.1 a.2.2.2.1.2.2.2.2.2.1) (qY_ a.2.2.2.1.1 a.2.2.2.1.2.1 a.2.2.2.1.2.2.1 a.2.2.2.1.2.2.2.1 a.2.2.2.1.2.2.2.2.1 a.2.2.2.1.2.2.2.2.2.1) a.1 a.2.1 a.2.2.1 a.2.2.2.1.1 a.2.2.2.1.2.1 a.2.2.2.1.2.2.1 a.2.2.2.1.2.2.2.1 a.2.2.2.1.2.2.2.2.1 a.2.2.2.1.2.2.2.2.2.1 a.2.2.2.2.1
def ebA (a:AC):List Int:=xz_ a.1 a.2.1 a.2.2.1 (Zq_ a.2.2.2.1.1 a.2.2.2.1.2.1 a.2.2.2.1.2.2.1 a.2.2.2.1.2.2.2.1 a.2.2.2.1.2.2.2.2.1 a.2.2.2.1.2.2.2.2.2.1) a.2.2.2.2.1
def exA (a:AC):List Int:=if rgA a=true then ebA a else []
def eeA (a:AC):Int:=if rgA a=true then 0 else 10001
def lenA (a:AC):Prop:=a.2.2.2.1.2.2.2.2.1.length<=100000/\a.2.2.2.1.2.2.2.2.2.1.length<=100000/\a.2.2.2.2.1.length<=100000
theorem zaS_ {a:AC} (h:lenA a):a.2.2.2.1.2.2.2.2.1.length<=1000000/\a.2.2.2.1.2.2.2.2.2.1.length<=1000000:=⟨Nat.le_trans h.1 (by decide),Nat.le_trans h.2.1 (by decide)⟩
structure okL (l:List AC):Prop where
 a:∀ o ∈ l,lenA o
 n:l.length<=1000000
def fwA (a:AC):Bool:=decide (a.2.2.2.1.2.2.2.2.1.length<=300) && decide (a.2.2.2.1.2.2.2.2.2.1.length<=300) && decide (a.2.2.2.2.1.length<=500)
theorem zeI_ {a:AC} (h:(a.2.2.2.1.2.2.2.2.1.length<=300/\a.2.2.2.1.2.2.2.2.2.1.length<=300)/\a.2.2.2.2.1.length<=500):fwA a=true:=by unfold fwA;simp [h.1.1,h.1.2,h.2]
theorem zeJ_ {a:AC} (h:(¬ a.2.2.2.1.2.2.2.2.1.length<=300\/¬ a.2.2.2.1.2.2.2.2.2.1.length<=300)\/¬ a.2.2.2.2.1.length<=500):fwA a=false:=by unfold fwA;rcases h with (h | h) | h<;>simp [h]
def HO_ (l:List AC):Bool:=l.all fwA && decide (l.length<=80)
theorem zcv_ {l:List AC} (h:HO_ l=true):okL l/\l.length<=80:=by
 unfold HO_ at h
 simp only [Bool.and_eq_true,decide_eq_true_eq] at h
 refine ⟨⟨fun o ho=>?_,by omega⟩,h.2⟩
 have:=List.all_eq_true.1 h.1 o ho
 unfold fwA at this
 simp only [Bool.and_eq_true,decide_eq_true_eq] at this
 exact ⟨by omega,by omega,by omega⟩
def HG_:IR:=
(sq (kr [0] [oD 2 (.mov cF)])
(sq (sq (.reg [oD 3 (.mov (cI 0))])
(.block 0
(.loop
(sq (sq (kr [0,3] [oM 4 3,
oM 5 0,
oE 6 5,
oB 7 .lss 4 6])
(.cond 7
.skip
(.exit 0)))
(sq (.block 1
(sq (kr [0,3] [oM 10 0,
oM 11 3,
oI 12 10 10 11,
oK 13 10 12,
oC 14 98 [13],
oD 15 (.un .not 14)])
(.cond 15
(sq (kr [] [oD 2 (.mov cF)])
.ret)
.skip)))
(kr [0,3] [oM 8 3,
oB 9 .add 8 (cI 1),
oM 3 9]))))))
(sq (kr [0] [oM 16 0,
oE 17 16,
oB 18 .leq 17 (cI 80),
oM 2 18])
.ret)))
def He_:List RD:=[.tmp 2 true none]
theorem Hn_:zl_ Tryz.prog Tryz.f46 HG_ He_=true:=by kernel_rfl
def XJ_:List AV->List Obj->Option (Prop × AV)
 | [.imm ty0 l],[]=>Zs_ ty0 Y2 l fun l=>some ((True,.bool (HO_ l)))
 | _,_=>none
theorem g4_:zf_ Tryz.prog 46 (RoF XJ_).sum:=by
 refine zj_ Tryz.func46 Hn_ (za_ (s:=RoF XK_) g5_ (ze_ _)) fun args objs p v e=>?_
 unfold XJ_ at e
 split at e
 ·rename_i ty0 l
  obtain rfl:=zv_ e
  replace e:=zw_ e
  cases e
  refine ⟨rfl,fun hw ho hp=>?_⟩
  change List AC at l
  have hl:l.length<=maxLen:=(hw (.imm Y2 l) (by simp)).2
  unfold maxLen at hl
  clear hw ho
  repeat'(intro t ht;first|(cases t<;>first|(cases ht;done)|(try simp only[zh_]at ht))|((first|refine zb_ ht ?_|refine ht ?_ ?_|refine ht.1 ?_ ?_|refine ht ?_)<;>clear ht))
  all_goals first
   | (intro r h1 h2;clear h1;refine h2 ⟨[],[0,3],Nat,(fun i=>i<=l.length/\(l.take i).all fwA=true),fun i=>[.imm Y2 l,.int .i64 i],fun _=>[],fun i=>l.length - i,⟨0,⟨Nat.zero_le _,rfl⟩,rfl,rfl⟩,?_⟩;clear h2)
  rintro i ⟨hi,he⟩
  repeat'(intro t ht;first|(cases t<;>first|(cases ht;done)|(try simp only[zh_]at ht;try(exfalso;first|contradiction|omega)))|((first|refine zb_ ht ?_|refine ht ?_ ?_|refine ht.1 ?_ ?_|refine ht ?_)<;>clear ht))
  all_goals (try generalize (Ty.dflt Y2)=od at*)
  all_goals first
   | exact True.intro
   | ((try simp only [zn_,zo_,zm_] at*);omega)
   | (have h:=v3_ (by omega) he
      refine ⟨?_,rfl⟩;unfold HO_;rw [h,Bool.true_and];congr 1;exact decide_eq_decide.2 (by omega))
   | (have hf:=zeI_ ht
      exact ⟨i+1,⟨by omega,XD_ (d:=od) (by omega) he hf⟩,by dsimp only;omega,rfl,rfl⟩)
   | (have hf:=zeJ_ ht
      have h:HO_ l=false:=by unfold HO_;rw [v2_ (d:=od) (show i < l.length by omega) hf,Bool.false_and]
      refine ⟨?_,rfl⟩;rw [h];done)
 ·cases e
theorem zcV_ {a:AC} (h:rgA a=false):szA a=0:=by
 unfold szA xc_;unfold rgA at h;rw [h];rfl
theorem Ya_ {a:AC} (h:rgA a=true):szA a=(ebA a).length/\8<=szA a/\szA a<=65528/\(ebA a).length % 8=0:=by
 obtain ⟨s0,s1,s2,s3⟩:=wX_ h
 have l2:=zk_ (n:=a.1) (w:=2) (by decide)
 have hb:(ebA a).length=4+(Z3_ a.1 a.2.1 a.2.2.1 (Zq_ a.2.2.2.1.1 a.2.2.2.1.2.1 a.2.2.2.1.2.2.1 a.2.2.2.1.2.2.2.1 a.2.2.2.1.2.2.2.2.1 a.2.2.2.1.2.2.2.2.2.1) a.2.2.2.2.1).length:=by
  have l3:=zk_ (n:=(4+(Z3_ a.1 a.2.1 a.2.2.1 (Zq_ a.2.2.2.1.1 a.2.2.2.1.2.1 a.2.2.2.1.2.2.1 a.2.2.2.1.2.2.2.1 a.2.2.2.1.2.2.2.2.1 a.2.2.2.1.2.2.2.2.2.1) a.2.2.2.2.1).length)) (w:=2) (by decide)
  unfold ebA xz_;simp only [List.length_append];omega
 have e:szA a=4+((Z3_ a.1 a.2.1 a.2.2.1 (Zq_ a.2.2.2.1.1 a.2.2.2.1.2.1 a.2.2.2.1.2.2.1 a.2.2.2.1.2.2.2.1 a.2.2.2.1.2.2.2.2.1 a.2.2.2.1.2.2.2.2.2.1) a.2.2.2.2.1).length:Int):=s0
 omega
theorem B6_ (a:AC):0<=szA a/\szA a<=65528:=by
 cases h:rgA a with
 | true=>have:=Ya_ h;omega
 | false=>rw [zcV_ h];decide
def smT (l:List AC) (i:Nat):Int:=((l.take i).map szA).sum
def smL (l:List AC):Int:=(l.map szA).sum
theorem g7_ {l:List AC} {i:Nat} {d:AC} (h:i < l.length):smT l (i+1)=smT l i+szA (l.getD i d):=by
 unfold smT
 rw [List.take_succ_eq_append_getElem h,List.map_append,List.sum_append,List.getD_eq_getElem?_getD,List.getElem?_eq_getElem h]
 simp
theorem zb0_ {l:List AC} {i:Nat} (h:l.length<=i):smT l i=smL l:=by unfold smT smL;rw [List.take_of_length_le h]
theorem zdm_ {l:List AC} (i:Nat) (hi:i<=l.length):0<=smT l i/\smT l i<=65528*i:=by
 induction i with
 | zero=>unfold smT;simp
 | succ i ih=>
   have:=ih (by omega)
   have d:AC:=(0,0,0,(0,0,false,0,[],[],()),[],())
   have hs:=B6_ (l.getD i d)
   rw [g7_ (d:=d) (by omega)];omega
def szL (l:List AC):Int:=if 64 < l.length then 0 else if l.all rgA=true then (if 65528 < smL l then 0 else smL l) else 0
def gq_:IR:=
(sq (kr [0] [oD 2 (.mov (cI 0))])
(sq (sq (.reg [oM 6 0,
oE 7 6,
oB 8 .gtr 7 (cI 64)])
(.cond 8
(sq (.reg [oD 2 (.mov (cI 0))])
.ret)
.skip))
(sq (sq (.reg [oM 9 0,
oE 10 9,
oD 11 (.mov (cI 0))])
(.block 0
(.loop
(sq (kr [2,9,10,11] [oB 12 .lss 11 10])
(sq (.cond 12
.skip
(.exit 0))
(sq (.block 1
(sq (.reg [oI 13 10 9 11,
oK 14 10 13,
oD 4 (.box [.int .i64 0,.int .u64 0,.int .u64 0,.int .i64 0,.int .i64 0,.kb false,.int .u64 0,.imm (.int .u8) [],.imm (.int .u8) [],.imm (.int .u8) []]),
oS 10 4 14])
(sq (.reg [oK 15 10 4,
oC 16 148 [15],
oM 5 16])
(sq (sq (kr [2,5,9,10,11] [oM 17 5,
oB 18 .eql 17 (cI 0)])
(.cond 18
(sq (.reg [oD 2 (.mov (cI 0))])
.ret)
.skip))
(.reg [oM 19 2,
oM 20 5,
oB 21 .add 19 20,
oM 2 21])))))
(kr [2,9,10,11] [oB 22 .add 11 (cI 1),
oM 11 22])))))))
(sq (sq (kr [2] [oM 23 2,
oB 24 .gtr 23 (cI 65528)])
(.cond 24
(sq (.reg [oD 2 (.mov (cI 0))])
.ret)
.skip))
(sq (.reg [oM 25 2,
oM 2 25])
.ret)))))
def UI_:List RD:=[.tmp 2 true none]
theorem UZ_:zl_ Tryz.prog Tryz.f104 gq_ UI_=true:=by kernel_rfl
def wP_:List AV->List Obj->Option (Prop × AV)
 | [.imm ty0 l],[]=>Zs_ ty0 Y2 l fun l=>some ((okL l,.int .i64 (szL l)))
 | _,_=>none
theorem Vi_:zf_ Tryz.prog 104 (RoF wP_).sum:=by
 refine zj_ Tryz.func104 UZ_ (za_ (s:=RoF kg_) j7_ (ze_ _)) fun args objs p v e=>?_
 unfold wP_ at e
 split at e
 ·rename_i ty0 l
  obtain rfl:=zv_ e
  replace e:=zw_ e
  cases e
  refine ⟨rfl,fun hw ho hp=>?_⟩
  change List AC at l
  clear hw ho
  have hn:=hp.n
  by_cases h64:64 < l.length
  ·have e:szL l=0:=if_pos h64
   rw [e]
   repeat'(intro t ht;first|(cases t<;>first|(cases ht;done)|(try simp only[zh_]at ht;try(exfalso;first|contradiction|omega)))|((first|refine zb_ ht ?_|refine ht ?_ ?_|refine ht.1 ?_ ?_|refine ht ?_)<;>clear ht))
   all_goals first
    | exact True.intro
    | exact ⟨rfl,rfl⟩
    | (exfalso;omega)
  ·have e:szL l=if l.all rgA=true then (if 65528 < smL l then 0 else smL l) else 0:=if_neg h64
   repeat'(intro t ht;first|(cases t<;>first|(cases ht;done)|(try simp only[zh_]at ht;try(exfalso;first|contradiction|omega)))|((first|refine zb_ ht ?_|refine ht ?_ ?_|refine ht.1 ?_ ?_|refine ht ?_)<;>clear ht))
   all_goals first
    | exact True.intro
    | (intro r h1 h2;clear h1;refine h2 ⟨[],[2,9,10,11],Nat,(fun i=>i<=l.length/\(l.take i).all rgA=true),fun i=>[.int .i64 (smT l i),.imm Y2 l,.int .i64 l.length,.int .i64 i],fun _=>[],fun i=>l.length - i,⟨0,⟨Nat.zero_le _,rfl⟩,rfl,rfl⟩,?_⟩;clear h2)
   rintro i ⟨hi,he⟩
   have hle:=zdm_ (l:=l) i hi
   repeat'(intro t ht;first|(cases t<;>first|(cases ht;done)|(try simp only[zh_]at ht;try(exfalso;first|contradiction|omega)))|((first|refine zb_ ht ?_|refine ht ?_ ?_|refine ht.1 ?_ ?_|refine ht ?_)<;>clear ht))
   all_goals (try generalize (Ty.dflt Y2)=od at*)
   all_goals first
    | exact True.intro
    | ((try simp only [zn_,zo_,zm_] at*);omega)
    | (have ha:=v3_ (by omega) he
       have hs:=zb0_ (l:=l) (i:=i) (by omega)
       rw [e,if_pos ha,<- hs]
       first
        | (rw [if_pos (by assumption)];exact ⟨rfl,rfl⟩)
        | (rw [if_neg (by assumption)];exact ⟨rfl,rfl⟩))
    | (have hlt:i < l.length:=by omega
       have hln:=hp.a _ (zW_ hlt od)
       have hsz:=B6_ (l.getD i od)
       first
        | exact zaS_ hln
        | (unfold szA at hsz;simp only [zm_,Int.toNat_natCast];omega)
        | (have h0:szA (l.getD i od)=0:=by assumption
           have hr:rgA (l.getD i od)=false:=by
            cases hk:rgA (l.getD i od) with
            | false=>rfl
            | true=>have:=Ya_ hk;omega
           rw [e,if_neg (by rw [v2_ hlt hr];decide)];exact ⟨rfl,rfl⟩)
        | (have h0:¬ szA (l.getD i od)=0:=by assumption
           have hr:rgA (l.getD i od)=true:=by
            cases hk:rgA (l.getD i od) with
            | true=>rfl
            | false=>exact absurd (zcV_ hk) h0
           refine ⟨i+1,⟨by omega,XD_ hlt he hr⟩,by dsimp only;omega,?_,rfl⟩
           dsimp only;rw [g7_ (d:=od) hlt];rfl))
 ·cases e
def rgL (l:List AC):Bool:=decide (l.length=0) || decide (0 < szL l)
def uh_:IR:=
(sq (kr [0] [oD 2 (.mov cF)])
(sq (kr [0] [oM 3 0,
oE 4 3,
oB 5 .eql 4 (cI 0),
oM 6 5,
oF 6 7 (.mov 0),
oF 6 8 (.call false (.f 104) [7]),
oF 6 9 (.bin .gtr 8 (cI 0)),
oP 10 6 cT 9,
oM 2 10])
.ret))
def VD_:List RD:=[.tmp 2 true none]
theorem VW_:zl_ Tryz.prog Tryz.f102 uh_ VD_=true:=by kernel_rfl
def k0_:List AV->List Obj->Option (Prop × AV)
 | [.imm ty0 l],[]=>Zs_ ty0 Y2 l fun l=>some ((okL l,.bool (rgL l)))
 | _,_=>none
theorem JX_:zf_ Tryz.prog 102 (RoF k0_).sum:=by
 refine zj_ Tryz.func102 VW_ (za_ (s:=RoF wP_) Vi_ (ze_ _)) fun args objs p v e=>?_
 unfold k0_ at e
 split at e
 ·rename_i ty0 l
  obtain rfl:=zv_ e
  replace e:=zw_ e
  cases e
  refine ⟨rfl,fun hw ho hp=>?_⟩
  change List AC at l
  clear hw ho
  have hok:=hp
  by_cases h0:l.length=0
  ·repeat'(intro t ht;first|(cases t<;>first|(cases ht;done)|(try simp only[zh_]at ht;try(exfalso;first|contradiction|omega)))|((first|refine zb_ ht ?_|refine ht ?_ ?_|refine ht.1 ?_ ?_|refine ht ?_)<;>clear ht))
   all_goals first
    | exact True.intro
    | exact hok
    | (refine ⟨congrArg AV.bool ?_,rfl⟩;unfold rgL;rw [decide_eq_true h0];rfl)
    | (exfalso;omega)
  ·repeat'(intro t ht;first|(cases t<;>first|(cases ht;done)|(try simp only[zh_]at ht;try(exfalso;first|contradiction|omega)))|((first|refine zb_ ht ?_|refine ht ?_ ?_|refine ht.1 ?_ ?_|refine ht ?_)<;>clear ht))
   all_goals first
    | exact True.intro
    | exact hok
    | (refine ⟨congrArg AV.bool ?_,rfl⟩;unfold rgL;rw [decide_eq_false h0];rfl)
    | (exfalso;omega)
 ·cases e
def wrS {α:Type} (x:α->List Int) (f:α->Int) (room:Int):List α->List Int->Int->List Int × Int
 | [],l,e=>(l,e)
 | o :: r,l,e=>wrS x f room r (Kf_ (x o) l room (Zd_ e (f o))) (kV_ (x o) l room (Zd_ e (f o)))
theorem gU_ {α:Type} {x:α->List Int} {f:α->Int} {room:Int} {l:List α} {i:Nat} {d:α} {b:List Int} {e:Int} (h:i < l.length):wrS x f room (l.drop i) b e=wrS x f room (l.drop (i+1)) (Kf_ (x (l.getD i d)) b room (Zd_ e (f (l.getD i d)))) (kV_ (x (l.getD i d)) b room (Zd_ e (f (l.getD i d)))):=by
 rw [zX_ h d];rfl
def apB (x:List AC) (l:List Int) (room e:Int):List Int:=if rgL x=true then (wrS exA eeA room x l e).1 else l
def apE (x:List AC) (l:List Int) (room e:Int):Int:=if rgL x=true then (wrS exA eeA room x l e).2 else Zd_ e 10001
theorem zbi_ {a:AC}:(exA a).length<=1000000:=by
 unfold exA;split
 ·have:=Ya_ (by assumption);omega
 ·simp
def hi_:IR:=
(sq (sq (kr [0,1] [oM 8 1,
oC 9 102 [8],
oD 10 (.un .not 9)])
(.cond 10
(sq (.reg [oM 11 0,
oC 12 103 [11,(cI 10001)]])
.ret)
.skip))
(sq (.reg [oM 13 1,
oE 14 13,
oD 15 (.mov (cI 0))])
(.block 0
(.loop
(sq (kr [0,13,14,15] [oB 16 .lss 15 14])
(sq (.cond 16
.skip
(.exit 0))
(sq (.block 1
(sq (.reg [oI 17 10 13 15,
oK 18 10 17,
oD 5 (.box [.int .i64 0,.int .u64 0,.int .u64 0,.int .i64 0,.int .i64 0,.kb false,.int .u64 0,.imm (.int .u8) [],.imm (.int .u8) [],.imm (.int .u8) []]),
oS 10 5 18])
(sq (kr [0,5,13,14,15] [oK 20 10 5,
oC 21 150 [20],
oM 19 21,
oX 22 19 0,
oX 23 19 1,
oM 6 22,
oM 7 23])
(sq (kr [0,6,7,13,14,15] [oM 24 0,
oM 25 7,
oC 26 103 [24,25]])
(.reg [oM 27 0,
oM 28 6,
oC 29 122 [27,28]])))))
(kr [0,13,14,15] [oB 30 .add 15 (cI 1),
oM 15 30]))))))))
def Gv_:List RD:=[]
theorem GP_:zl_ Tryz.prog Tryz.f106 hi_ Gv_=true:=by kernel_rfl
def v4_:List AV->List Obj->Option (Prop × Res)
 | [.ptr 0 0,.imm (.cons (.int .i64) (.cons (.int .u64) (.cons (.int .u64) (.cons (.cons (.int .i64) (.cons (.int .i64) (.cons .bool (.cons (.int .u64) (.cons (.sl (.int .u8)) (.cons (.sl (.int .u8)) .nil)))))) (.cons (.sl (.int .u8)) .nil))))) x],[.box [.own 1,.int .i64 room,.mapv 2,.int .i64 e],.row false (.int .u8) l,.map sq (.int .i64) (.int .i64) h]=>some (okL x/\0<=room/\room<=1000000/\l.length<=1000000,.br (rgL x && decide (0 < x.length)) (.one (.tup []) [.box [.own 3,.int .i64 room,.mapv 2,.int .i64 (apE x l room e)],.dead,.map sq (.int .i64) (.int .i64) h,.row false (.int .u8) (apB x l room e)]) (.one (.tup []) [.box [.own 1,.int .i64 room,.mapv 2,.int .i64 (apE x l room e)],.row false (.int .u8) l,.map sq (.int .i64) (.int .i64) h]))
 | _,_=>none
def WX_:List AV->List Obj->Option (Prop × AV × List Obj)
 | [.ptr 0 0,.imm (.cons (.int .i64) (.cons (.int .u64) (.cons (.int .u64) (.cons (.cons (.int .i64) (.cons (.int .i64) (.cons .bool (.cons (.int .u64) (.cons (.sl (.int .u8)) (.cons (.sl (.int .u8)) .nil)))))) (.cons (.sl (.int .u8)) .nil))))) x],[.box [.own 1,.int .i64 room,.mapv 2,.int .i64 e],.row false (.int .u8) l,.map sq (.int .i64) (.int .i64) h]=>some (okL x/\0<=room/\room<=1000000/\l.length<=1000000,.tup [],[.box [.own 3,.int .i64 room,.mapv 2,.int .i64 (apE x l room e)],.dead,.map sq (.int .i64) (.int .i64) h,.row false (.int .u8) (apB x l room e)])
 | _,_=>none
theorem u8_:zf_ Tryz.prog 106 (RcF v4_).sum:=by
 refine Gw_ Tryz.func106 GP_ (za_ (s:=RoF k0_) JX_ (za_ (s:=RwF zU_) Zf_ (za_ (s:=RoF kG_) W9_ (za_ (s:=RwF zA_) zH_ (ze_ _))))) fun args objs p v e=>?_
 unfold v4_ at e
 split at e
 ·rename_i x room e l sq h
  cases e
  change List Int at l
  change List AC at x
  refine ⟨rfl,fun hw' ho hp=>?_⟩
  clear hw' ho
  obtain ⟨hok,hp1,hp2,hp3⟩:=hp
  have hok':=hok
  have hn:=hok.n
  cases hr:rgL x with
  | false=>
    have e1:apE x l room e=Zd_ e 10001:=by unfold apE;rw [hr];rfl
    rw [e1]
    repeat'(intro t ht;first|(cases t<;>first|(cases ht;done)|(try simp only[zh_]at ht;try(exfalso;first|contradiction|omega)))|((first|refine zb_ ht ?_|refine ht ?_ ?_|refine ht.1 ?_ ?_|refine ht ?_)<;>clear ht))
    all_goals first
     | exact True.intro
     | exact hok
     | (exfalso;simp_all;done)
     | exact ⟨rfl,rfl⟩
  | true=>
    have q1:apE x l room e=(wrS exA eeA room x l e).2:=if_pos hr
    have q2:apB x l room e=(wrS exA eeA room x l e).1:=if_pos hr
    rw [q1,q2]
    repeat'(intro t ht;first|(cases t<;>first|(cases ht;done)|(try simp only[zh_]at ht;try(exfalso;first|contradiction|omega)))|((first|refine zb_ ht ?_|refine ht ?_ ?_|refine ht.1 ?_ ?_|refine ht ?_)<;>clear ht))
    all_goals first
     | exact True.intro
     | exact hok
     | (exfalso;simp_all;done)
     | (intro r h1 h2;clear h1;refine h2 ⟨[],[0,13,14,15],Option (Nat × List Int × Int),(fun a=>match a with | none=>True | some a=>0 < a.1/\a.1<=x.length/\a.2.1.length<=1000000/\wrS exA eeA room x l e=wrS exA eeA room (x.drop a.1) a.2.1 a.2.2),(fun a=>match a with | none=>[.ptr 0 0,.imm Y2 x,.int .i64 x.length,.int .i64 0] | some a=>[.ptr 0 0,.imm Y2 x,.int .i64 x.length,.int .i64 a.1]),(fun a=>match a with | none=>[.box [.own 1,.int .i64 room,.mapv 2,.int .i64 e],.row false (.int .u8) l,.map sq (.int .i64) (.int .i64) h] | some a=>[.box [.own 3,.int .i64 room,.mapv 2,.int .i64 a.2.2],.dead,.map sq (.int .i64) (.int .i64) h,.row false (.int .u8) a.2.1]),(fun a=>match a with | none=>x.length+1 | some a=>x.length - a.1),⟨none,True.intro,rfl,rfl⟩,?_⟩;clear h2)
    rintro (_ | ⟨i,b,f⟩) hJ
    ·repeat'(intro t ht;first|(cases t<;>first|(cases ht;done)|(try simp only[zh_]at ht;try(exfalso;first|contradiction|omega)))|((first|refine zb_ ht ?_|refine ht ?_ ?_|refine ht.1 ?_ ?_|refine ht ?_)<;>clear ht))
     all_goals (try generalize (Ty.dflt Y2)=od at*)
     all_goals first
      | exact True.intro
      | ((try simp only [zn_,zo_,zm_] at*);omega)
      | exact ⟨hp1,hp2,hp3,zbi_ (a:=x.getD 0 od)⟩
      | exact zaS_ (hok'.a _ (zW_ (show 0 < x.length by omega) od))
      | (have hx:x=[]:=List.eq_nil_of_length_eq_zero (by omega)
         subst hx;exact ⟨rfl,rfl⟩)
      | (have hs:=gU_ (x:=exA) (f:=eeA) (room:=room) (l:=x) (i:=0) (d:=od) (b:=l) (e:=e) (by omega)
         refine ⟨some (1,Kf_ (exA (x.getD 0 od)) l room (Zd_ e (eeA (x.getD 0 od))),kV_ (exA (x.getD 0 od)) l room (Zd_ e (eeA (x.getD 0 od)))),⟨Nat.one_pos,?_,?_,hs⟩,?_,rfl,rfl⟩
         ·dsimp only;omega
         ·exact wC_ hp3 hp2
         ·dsimp only;omega)
    ·obtain ⟨hi0,hi,hb,he⟩:=hJ
     dsimp only at hi0 hi hb he
     repeat'(intro t ht;first|(cases t<;>first|(cases ht;done)|(try simp only[zh_]at ht;try(exfalso;first|contradiction|omega)))|((first|refine zb_ ht ?_|refine ht ?_ ?_|refine ht.1 ?_ ?_|refine ht ?_)<;>clear ht))
     all_goals (try generalize (Ty.dflt Y2)=od at*)
     all_goals first
      | exact True.intro
      | ((try simp only [zn_,zo_,zm_] at*);omega)
      | exact ⟨hp1,hp2,hb,zbi_ (a:=x.getD i od)⟩
      | exact zaS_ (hok'.a _ (zW_ (show i < x.length by omega) od))
      | (rw [List.drop_of_length_le (show x.length<=i by omega)] at he
         have h1:wrS exA eeA room x l e=(b,f):=he
         rw [h1,decide_eq_true (show 0 < x.length by omega)];exact ⟨rfl,rfl⟩)
      | (refine ⟨some (i+1,Kf_ (exA (x.getD i od)) b room (Zd_ f (eeA (x.getD i od))),kV_ (exA (x.getD i od)) b room (Zd_ f (eeA (x.getD i od)))),⟨?_,?_,?_,he.trans (gU_ (d:=od) (show i < x.length by omega))⟩,?_,rfl,rfl⟩
         ·dsimp only;omega
         ·dsimp only;omega
         ·exact wC_ hb hp2
         ·dsimp only;omega)
 ·cases e
theorem Un_:zf_ Tryz.prog 106 (RwF WX_).sum:=by
 refine yV_ u8_ fun args objs p v o e=>?_
 unfold WX_ at e
 split at e
 ·rename_i x room e l sq h
  cases e
  cases hb:(rgL x && decide (0 < x.length)) with
  | true=>exact ⟨_,_,rfl,jr_ hb,.inl rfl⟩
  | false=>
    refine ⟨_,_,rfl,js_ hb,.inr ⟨0,1,[],[.int .i64 room,.mapv 2,.int .i64 (apE x l room e)],.int .u8,l,rfl,rfl,?_⟩⟩
    have e1:apB x l room e=l:=by
     unfold apB
     split
     ·rename_i hr
      rw [hr,Bool.true_and,decide_eq_false_iff_not] at hb
      have hx:x=[]:=List.eq_nil_of_length_eq_zero (by omega)
      subst hx;rfl
     ·rfl
    rw [e1];rfl
 ·cases e
def boA (l:List AC):List Int:=l.flatMap ebA
theorem Kg_ (o:AC) (r:List AC):boA (o :: r)=ebA o++boA r:=List.flatMap_cons
theorem gE_:∀ (l:List AC),l.all rgA=true->((boA l).length:Int)=smL l/\8*l.length<=(boA l).length
 | [],_=>⟨rfl,Nat.le_refl _⟩
 | o :: r,h=>by
   rw [List.all_cons,Bool.and_eq_true] at h
   obtain ⟨i1,i2⟩:=gE_ r h.2
   have hs:=Ya_ h.1
   unfold smL at i1 ⊢
   rw [Kg_,List.length_append,List.map_cons,List.sum_cons,List.length_cons];omega
theorem K0_ {l:List AC} (h:rgL l=true):l.all rgA=true/\l.length<=64/\(boA l).length<=65528/\szL l=(boA l).length:=by
 unfold rgL at h
 rw [Bool.or_eq_true,decide_eq_true_eq,decide_eq_true_eq] at h
 rcases h with h | h
 ·have:l=[]:=List.eq_nil_of_length_eq_zero h
  subst this;exact ⟨rfl,Nat.zero_le _,Nat.zero_le _,rfl⟩
 ·unfold szL at h ⊢
  by_cases h1:64 < l.length
  ·rw [if_pos h1] at h;omega
  ·rw [if_neg h1] at h ⊢
   by_cases h2:l.all rgA=true
   ·rw [if_pos h2] at h ⊢
    by_cases h3:65528 < smL l
    ·rw [if_pos h3] at h;omega
    ·rw [if_neg h3]
     obtain ⟨b1,b2⟩:=gE_ l h2
     exact ⟨h2,by omega,by omega,b1.symm⟩
   ·rw [if_neg h2] at h;omega
theorem zdr_ {l:List AC} (h1:l.all rgA=true) (h2:l.length<=64) (h3:(boA l).length<=65528):rgL l=true:=by
 obtain ⟨b1,b2⟩:=gE_ l h1
 unfold rgL szL
 rw [if_neg (by omega),if_pos h1,if_neg (by omega),Bool.or_eq_true,decide_eq_true_eq,decide_eq_true_eq]
 omega
theorem zc6_ {a:AC} (h:rgA a=true):exA a=ebA a/\eeA a=0:=⟨if_pos h,if_pos h⟩
theorem BU_ {room:Int}:∀ (r:List AC) (l:List Int),r.all rgA=true->(l.length:Int)+(boA r).length<=room->wrS exA eeA room r l 0=(l++boA r,0)
 | [],l,_,_=>by unfold boA wrS;simp
 | o :: r,l,h,hl=>by
   rw [List.all_cons,Bool.and_eq_true] at h
   obtain ⟨h2,h3⟩:=zc6_ h.1
   rw [Kg_,List.length_append] at hl
   obtain ⟨b1,b2⟩:=XB_ (x:=ebA o) (l:=l) (room:=room) (by omega)
   have f0:Zd_ 0 0=0:=rfl
   unfold wrS
   rw [h2,h3,f0,b1,b2,BU_ r (l++ebA o) h.2 (by rw [List.length_append];omega),Kg_,List.append_assoc]
theorem zeQ_ {x:List AC} {l:List Int} {room:Int} (h:rgL x=true) (hl:(l.length:Int)+(boA x).length<=room):apB x l room 0=l++boA x/\apE x l room 0=0:=by
 unfold apB apE
 rw [if_pos h,if_pos h,BU_ x l (K0_ h).1 hl];exact ⟨rfl,rfl⟩
theorem zbC_ {x:List AC} {l:List Int} {room e:Int} (h:rgL x=false):apB x l room e=l/\apE x l room e=Zd_ e 10001:=by
 unfold apB apE;rw [h];exact ⟨rfl,rfl⟩
def vA (y:List Int):AC:=(tT y,acA y 0,acA y 1,(acS y (zz_ (bd y)),acS y (zR_ (bd y)),acH y,acS y (Q0_ (bd y)),acV y (qz_ (bd y)),acV y (qp_ (bd y)),()),acD y,())
def alG (acc:List AC) (y:List Int):List AC × Int:=
 if y.length=0 then (acc,0) else if acc.length=64 then ([],520) else if ¬ acE y=0 then ([],acE y) else alG (acc++[vA y]) (y.drop (max 1 (tN y).toNat))
termination_by y.length
decreasing_by all_goals (rw [List.length_drop];omega)
theorem w8_ {acc:List AC} {y:List Int} (h:y.length=0):alG acc y=(acc,0):=by rw [alG,if_pos h]
theorem hM_ {acc:List AC} {y:List Int} (h:¬ y.length=0) (h1:acc.length=64):alG acc y=([],520):=by rw [alG,if_neg h,if_pos h1]
theorem gH_ {acc:List AC} {y:List Int} (h:¬ y.length=0) (h1:¬ acc.length=64) (h2:¬ acE y=0):alG acc y=([],acE y):=by rw [alG,if_neg h,if_neg h1,if_pos h2]
theorem gG_ {acc:List AC} {y:List Int} (h:¬ y.length=0) (h1:¬ acc.length=64) (h2:acE y=0) (hn:1<=tN y):alG acc y=alG (acc++[vA y]) (y.drop (tN y).toNat):=by
 rw [alG,if_neg h,if_neg h1,if_neg (not_not_intro h2),show max 1 (tN y).toNat=(tN y).toNat by omega]
theorem H8_ {b:List Int} (h0:acE b=0):8<=tN b/\tN b<=b.length/\(tN b).tmod 8=0:=by
 have hT:tlE b 8 8 514=0:=Classical.byContradiction fun h=>by
  unfold acE at h0;rw [if_pos h] at h0;exact h h0
 unfold tlE at hT
 by_cases h1:b.length < 4
 ·rw [if_pos h1] at hT;cases hT
 ·rw [if_neg h1] at hT
  by_cases h2:tN b < 8\/¬ (tN b).tmod 8=0
  ·rw [if_pos h2] at hT;cases hT
  ·rw [if_neg h2] at hT
   by_cases h3:(b.length:Int) < tN b
   ·rw [if_pos h3] at hT;cases hT
   ·omega
def adE (b:List Int):Int:=if ¬ (alG [] b).2=0 then (alG [] b).2 else if 65528 < b.length then 514 else 0
def adL (b:List Int):List AC:=if adE b=0 then (alG [] b).1 else []
theorem H7_ {b:List Int} {e:Int} (h:(alG [] b).2=e) (h0:¬ e=0):adL b=[]/\adE b=e:=by
 have:adE b=e:=by unfold adE;rw [h,if_pos h0]
 exact ⟨by unfold adL;rw [this,if_neg h0],this⟩
theorem XF_ {b:List Int} {acc:List AC} (h:alG [] b=(acc,0)):(65528 < b.length->adL b=[]/\adE b=514)/\(¬ 65528 < b.length->adL b=acc/\adE b=0):=by
 have e:adE b=if 65528 < b.length then 514 else 0:=by unfold adE;rw [h];rfl
 constructor
 ·intro hl
  rw [if_pos hl] at e
  exact ⟨by unfold adL;rw [e];rfl,e⟩
 ·intro hl
  rw [if_neg hl] at e
  exact ⟨by unfold adL;rw [e,h];rfl,e⟩
def go_:IR:=
(sq (kr [0] [oD 1 (.boxv 0),
oD 2 (.mov (.c (.undef)))])
(sq (.reg [oD 3 (.mkfn 208 [] [1]),
oM 2 3])
.ret))
def UG_:List RD:=[.tmp 2 true none]
theorem UX_:zl_ Tryz.prog Tryz.f178 go_ UG_=true:=by kernel_rfl
def wN_:List AV->List Obj->Option (Prop × AV × List Obj)
 | [.imm (.int .u8) b],[]=>some ((True,.fn 208 [] [.ptr 0 0],[.box [.imm (.int .u8) b]]))
 | _,_=>none
theorem Vg_:zf_ Tryz.prog 178 (RwF wN_).sum:=by
 refine Qi_ Tryz.func178 UX_ (ze_ _) fun args objs p v o e=>?_
 unfold wN_ at e
 split at e
 ·rename_i b
  cases e
  refine ⟨rfl,fun hw ho hp=>?_⟩
  change List Int at b
  repeat'(intro t ht;first|(cases t<;>first|(cases ht;done)|(try simp only[zh_]at ht;try(exfalso;first|contradiction|omega)))|((first|refine zb_ ht ?_|refine ht ?_ ?_|refine ht.1 ?_ ?_|refine ht ?_)<;>clear ht))
  all_goals first
   | exact True.intro
   | exact ⟨rfl,rfl⟩
 ·cases e
def vn_:IR:=
(sq (kr [0] [oD 2 (.box [.nils]),
oD 3 (.box [.int .i64 0])])
(sq (.reg [oD 4 (.box [.nils])])
(sq (sq (.reg [oM 7 0,
oC 8 178 [7]])
(.block 0
(.rng 8 [9,10] [0,2,3,4] 208
(sq (kr [2,3,4,9,10] [oD 5 (.box [.int .i64 0,.int .u64 0,.int .u64 0,.int .i64 0,.int .i64 0,.kb false,.int .u64 0,.nils,.nils,.nils]),
oS 10 5 9])
(.reg [oM 6 10]))
(.block 1
(sq (sq (kr [2,3,4,5,6] [oM 11 6,
oB 12 .neq 11 (cI 0)])
(.cond 12
(sq (.reg [oM 13 6,
oN (.store 1 2 (.c (.nils))),
oS 1 3 13])
.ret)
.skip))
(.reg [oL 14 4,
oK 15 10 5,
oD 16 (.sliceAll Y2 1 [(0,10,15)]),
oD 17 (.append Y2 128 14 16),
oS 1 4 17])))
(sq (kr [0,1] [oD 3 (.mov (cI 0))])
(.block 0
(.loop
(sq (sq (kr [0,1,3] [oL 7 1,
oE 8 7,
oB 9 .gtr 8 (cI 0)])
(.cond 9
.skip
(.exit 0)))
(sq (.block 1
(sq (sq (.reg [oM 12 3,
oB 13 .eql 12 (cI 64)])
(.cond 13
(sq (.keep [0]
(.yld [oM 14 0,
oD 15 (.build [.int .i64 0,.int .u64 0,.int .u64 0,.int .i64 0,.int .i64 0,.kb false,.int .u64 0,.imm (.int .u8) [],.imm (.int .u8) [],.imm (.int .u8) []] [])] (some 16) (.t 14) [(.t 15),(.c (.int .i64 520))] [] []))
.ret)
.skip))
(sq (kr [0,1,3] [oL 18 1,
oC 19 209 [18],
oM 17 19,
oX 20 17 0,
oX 21 17 1,
oX 22 17 2,
oD 4 (.box [.int .i64 0,.int .u64 0,.int .u64 0,.int .i64 0,.int .i64 0,.kb false,.int .u64 0,.imm (.int .u8) [],.imm (.int .u8) [],.imm (.int .u8) []]),
oS 10 4 20,
oM 5 21,
oM 6 22])
(sq (sq (.keep [0,1,3,4,5,6]
(.yld [oM 23 0,
oK 24 10 4,
oM 25 6] (some 26) (.t 23) [(.t 24),(.t 25)] [0,1,3,5,6] [oD 27 (.un .not 26),
oM 28 27,
oF 28 29 (.mov 6),
oF 28 30 (.bin .neq 29 (cI 0)),
oP 31 28 cT 30]))
(.cond 31
.ret
.skip))
(kr [0,1,3,5] [oL 32 1,
oM 33 5,
oD 34 (.slice 1 32 (some 33) none none),
oS 1 1 34])))))
(kr [0,1,3] [oM 10 3,
oB 11 .add 10 (cI 1),
oM 3 11])))))))))
(sq (sq (kr [0,2,3,4] [oM 18 0,
oE 19 18,
oB 20 .gtr 19 (cI 65528)])
(.cond 20
(sq (.reg [oN (.store 1 2 (.c (.nils))),
oN (.store 1 3 (cI 514))])
.ret)
.skip))
(sq (.reg [oL 21 4,
oS 1 2 21,
oN (.store 1 3 (cI 0))])
.ret)))))
def YE_:List RD:=[.cell 2 none true [(some Y2)],.cell 3 none true []]
theorem YZ_:zl_ Tryz.prog Tryz.f152 vn_ YE_=true:=by kernel_rfl
def KI_:List AV->List Obj->Option (Prop × AV)
 | [.imm (.int .u8) b],[]=>some ((b.length<=100000000,.tup [.imm Y2 (adL b),.int .i64 (adE b)]))
 | _,_=>none
theorem yl_:zf_ Tryz.prog 152 (RoF KI_).sum:=by
 refine zj_ Tryz.func152 YZ_ (za_ (s:=RoF kH_) xa_ (za_ (s:=RwF wN_) Vg_ (ze_ _))) fun args objs p v e=>?_
 unfold KI_ at e
 split at e
 ·rename_i b
  cases e
  refine ⟨rfl,fun hw ho hp=>?_⟩
  change List Int at b
  clear hw ho
  repeat'(intro t ht;first|(cases t<;>first|(cases ht;done)|(try simp only[zh_]at ht;try(exfalso;first|contradiction|omega)))|((first|refine zb_ ht ?_|refine ht ?_ ?_|refine ht.1 ?_ ?_|refine ht ?_)<;>clear ht))
  all_goals first
   | exact True.intro
   | (refine .inl fun lr ln=>?_)
  repeat'(intro t ht;first|(cases t<;>first|(cases ht;done)|(try simp only[zh_]at ht;try(exfalso;first|contradiction|omega)))|((first|refine zb_ ht ?_|refine ht ?_ ?_|refine ht.1 ?_ ?_|refine ht ?_)<;>clear ht))
  all_goals first
   | exact True.intro
   | (intro r h1 h2;clear h1;refine h2 ⟨[],[0,1,3],Option (List AC × List Int),(fun a=>match a with | none=>True | some a=>a.1.length<=64/\a.2.length<=b.length/\alG [] b=alG a.1 a.2),(fun a=>match a with | none=>[.yv ln,.ptr 0 0,.int .i64 0] | some a=>[.yv ln,.ptr 0 0,.int .i64 a.1.length]),(fun a=>match a with | none=>[.box [.imm (.int .u8) b],.box [.nils],.box [.int .i64 0],.box [.nils],.lrec lr 0] | some a=>[.box [.imm (.int .u8) a.2],.box [.nils],.box [.int .i64 0],.box [.own 5],.lrec lr 0,.row false Y2 a.1]),(fun a=>match a with | none=>b.length+1 | some a=>a.2.length),⟨none,True.intro,rfl,rfl⟩,?_⟩;clear h2)
  rintro (_ | ⟨acc,y⟩) hJ
  ·clear hJ
   repeat'(intro t ht;first|(cases t<;>first|(cases ht;done)|(try simp only[zh_]at ht;try(exfalso;first|contradiction|omega)))|((first|refine zb_ ht ?_|refine ht ?_ ?_|refine ht.1 ?_ ?_|refine ht ?_)<;>clear ht))
   all_goals (try dsimp only at*)
   all_goals first
    | exact True.intro
    | ((try simp only [zn_,zo_,zm_] at*);omega)
    | exact ⟨rfl,rfl⟩
    | (have hg:=w8_ (acc:=[]) (y:=b) (by omega)
       rw [((XF_ hg).2 (by omega)).1,((XF_ hg).2 (by omega)).2];exact ⟨rfl,rfl⟩)
    | (simp only [Z8_,List.length_cons,List.length_nil];constructor<;>omega)
    | (have h0:acE b=0:=by assumption
       obtain ⟨g1,g2,_⟩:=H8_ h0
       have e1:∀ x,acI b x=x:=fun x=>if_pos h0
       first
        | (rw [e1];constructor<;>omega)
        | (have hm:=gG_ (acc:=[]) (by omega) (by decide) h0 (by omega)
           refine ⟨some ([]++[vA b],b.drop (tN b).toNat),⟨by simp,?_,hm⟩,?_,rfl,?_⟩
           ·dsimp only;rw [List.length_drop];omega
           ·dsimp only;rw [List.length_drop];omega
           ·dsimp only;rw [e1,e1];rfl))
    | (have h0:¬ acE b=0:=by assumption
       have hm:=gH_ (acc:=[]) (by omega) (by decide) h0
       obtain ⟨d1,d2⟩:=H7_ (b:=b) (e:=acE b) (by rw [hm]) h0
       rw [d1,d2];exact ⟨rfl,rfl⟩)
  ·obtain ⟨j1,j2,j3⟩:=hJ
   dsimp only at j1 j2 j3
   repeat'(intro t ht;first|(cases t<;>first|(cases ht;done)|(try simp only[zh_]at ht;try(exfalso;first|contradiction|omega)))|((first|refine zb_ ht ?_|refine ht ?_ ?_|refine ht.1 ?_ ?_|refine ht ?_)<;>clear ht))
   all_goals (try dsimp only at*)
   all_goals first
    | exact True.intro
    | ((try simp only [zn_,zo_,zm_] at*);omega)
    | exact ⟨rfl,rfl⟩
    | (have hg:=w8_ (acc:=acc) (y:=y) (by omega)
       rw [<- j3] at hg
       first
        | (obtain ⟨d1,d2⟩:=(XF_ hg).1 (by omega)
           rw [d1,d2];exact ⟨rfl,rfl⟩)
        | (obtain ⟨d1,d2⟩:=(XF_ hg).2 (by omega)
           rw [d1,d2];exact ⟨rfl,rfl⟩))
    | (simp only [Z8_,List.length_cons,List.length_nil];constructor<;>omega)
    | (have hm:=hM_ (acc:=acc) (y:=y) (by omega) (by omega)
       rw [<- j3] at hm
       obtain ⟨d1,d2⟩:=H7_ (b:=b) (e:=520) (by rw [hm]) (by decide)
       rw [d1,d2];exact ⟨rfl,rfl⟩)
    | (have h0:acE y=0:=by assumption
       obtain ⟨g1,g2,_⟩:=H8_ h0
       have e1:∀ x,acI y x=x:=fun x=>if_pos h0
       first
        | (rw [e1];constructor<;>omega)
        | (have hm:=gG_ (acc:=acc) (by omega) (by omega) h0 (by omega)
           refine ⟨some (acc++[vA y],y.drop (tN y).toNat),⟨?_,?_,j3.trans hm⟩,?_,?_,?_⟩
           ·simp only [List.length_append,List.length_cons,List.length_nil];omega
           ·dsimp only;rw [List.length_drop];omega
           ·dsimp only;rw [List.length_drop];omega
           ·dsimp only;rw [List.length_append];rfl
           ·dsimp only;rw [e1,e1];rfl))
    | (have h0:¬ acE y=0:=by assumption
       have hm:=gH_ (acc:=acc) (y:=y) (by omega) (by omega) h0
       rw [<- j3] at hm
       obtain ⟨d1,d2⟩:=H7_ (b:=b) (e:=acE y) (by rw [hm]) h0
       rw [d1,d2];exact ⟨rfl,rfl⟩)
 ·cases e
end Go.Eng

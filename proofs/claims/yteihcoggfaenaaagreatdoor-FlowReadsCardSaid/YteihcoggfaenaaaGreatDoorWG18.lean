/- Parts of the proof: A7, A8, A9, H1, H2, H3, H4. No condition. -/
import Derived.Test.YteihcoggfaenaaaGreatDoorProg
import Derived.Test.YteihcoggfaenaaaGreatDoorWG10
import Derived.KernelRfl
import Derived.Test.YteihcoggfaenaaaGreatDoorWG17
import Derived.Test.YteihcoggfaenaaaGreatDoorWG15
namespace Go.Eng
open Go.Proofs
set_option linter.unusedVariables false
set_option linter.unusedSimpArgs false
set_option maxRecDepth 100000
set_option maxHeartbeats 1000000
def WU_:IR:=
(sq (kr [0] [oD 2 (.mov (.c (.imm (.int .u8) [])))])
(sq (kr [0] [oM 3 0,
oM 4 0,
oC 5 47 [4],
oC 6 98 [3,5],
oM 2 6])
.ret))
def Wp_:List RD:=[.tmp 2 true (some (.int .u8))]
theorem WF_:zm_ Tryz.prog Tryz.f99 WU_ Wp_=true:=by kernel_rfl
def Zl_:List AV->List Obj->Option (Prop × AV × List Obj)
 | [.ptr 0 0],[.box [.imm (.int .u8) b,.int .i64 p,.int .i64 sh,.int .i64 od,.int .i64 e,.bool true]]=>some ((0<=p/\p<=b.length/\b.length<=140737488355328/\sh ≠ 0,.imm (.int .u8) (if e=0 then b.drop p.toNat else []),[.box [.imm (.int .u8) b,.int .i64 ((if e=0 then (b.length:Int) else p)),.int .i64 sh,.int .i64 od,.int .i64 e,.bool true]]))
 | _,_=>none
theorem ZL_:zd_ Tryz.prog 99 (RwF Zl_).sum:=by
 refine qa_ Tryz.func99 WF_ (za_ (s:=RoF zW_) Za_ (za_ (s:=RwF zN_) z4_ (zc_ _))) fun args objs p v o e=>?_
 unfold Zl_ at e
 split at e
 ·rename_i b p sh od e
  cases e
  refine ⟨rfl,fun hw ho hp=>?_⟩
  change List Int at b
  clear hw ho
  obtain ⟨h1,h2,h3,h4⟩:=hp
  have hE:Z1_ ((b.length:Int) - p) b p sh e=e:=by unfold Z1_;rw [if_neg (by omega),if_neg (by omega)]
  have hL:Qn_ ((b.length:Int) - p) b p sh e=if e=0 then b.drop p.toNat else []:=by
   unfold Qn_;rw [hE,show (p+((b.length:Int) - p)).toNat=b.length by omega,List.take_length]
  have hP:jB_ ((b.length:Int) - p) b p sh e=if e=0 then (b.length:Int) else p:=by
   unfold jB_;rw [hE,show p+((b.length:Int) - p)=b.length by omega]
  repeat'(intro t ht;first|(cases t<;>first|(cases ht;done)|(try simp only[zg_]at ht))|((first|refine zb_ ht ?_|refine ht ?_ ?_|refine ht.1 ?_ ?_|refine ht ?_)<;>clear ht))
  all_goals first
   | exact True.intro
   | exact ⟨h1,h2⟩
   | exact ⟨h1,h2,h3,h4⟩
   | (rw [hE,hL,hP];exact ⟨rfl,rfl⟩)
 ·cases e
def hX_:IR:=
(sq (kr [0] [oD 2 (.box [.int .i64 0,.int .i64 0,.kb false,.int .u64 0,.imm (.int .u8) [],.imm (.int .u8) []]),
oD 3 (.mov (cI 0))])
(sq (kr [0,2] [oM 8 0,
oC 9 181 [8],
oM 7 9,
oX 10 7 0,
oX 11 7 1,
oX 12 7 2,
oD 4 (.box [.int .i64 0,.int .i64 0,.kb false,.int .u64 0,.imm (.int .u8) [],.imm (.int .u8) []]),
oS 6 4 10,
oM 5 11,
oM 6 12])
(sq (sq (kr [0,2,4,5,6] [oM 13 6])
(.block 0
(sq (.reg [oB 16 .eql 13 (cI 0),
oM 15 16])
(.cond 15
.skip
(sq (.reg [oB 18 .eql 13 (cI 1026),
oM 17 18])
(.cond 17
(sq (kr [2,4] [oK 19 6 4,
oS 6 2 19,
oD 3 (.mov (cI 527))])
.ret)
(sq (kr [2,4,13] [oB 21 .eql 13 (cI 1031),
oM 20 21])
(.cond 20
(sq (.reg [oK 22 6 4,
oS 6 2 22,
oD 3 (.mov (cI 526))])
.ret)
(sq (.reg [oK 14 6 4,
oS 6 2 14,
oD 3 (.mov (cI 528))])
.ret)))))))))
(sq (.block 1
(sq (kr [0,2,4,5] [oA 24 0 4,
oL 25 24,
oB 26 .neq 25 (cI 32768),
oM 27 26,
oF 27 28 (.fieldAddr 1 4),
oF 27 29 (.load none 28),
oF 27 30 (.call false (.f 227) [29]),
oF 27 31 (.un .not 30),
oP 32 27 cT 31,
oM 23 32])
(.cond 23
(sq (kr [2,4] [oK 33 6 4,
oS 6 2 33,
oD 3 (.mov (cI 526))])
.ret)
(sq (kr [0,2,4,5] [oA 35 2 4,
oL 36 35,
oM 34 36])
(.cond 34
(sq (.reg [oK 37 6 4,
oS 6 2 37,
oD 3 (.mov (cI 528))])
.ret)
(sq (kr [0,2,4,5] [oM 39 0,
oE 40 39,
oM 41 5,
oB 42 .add 41 (cI 8),
oB 43 .geq 40 42,
oM 38 43])
(.cond 38
(sq (kr [2,4] [oK 44 6 4,
oS 6 2 44,
oD 3 (.mov (cI 527))])
.ret)
(sq (kr [0,2,4,5] [oM 46 0,
oM 47 5,
oD 48 (.slice 1 46 (some 47) none none),
oC 49 189 [48,(.c (.str [0]))],
oE 50 49,
oB 51 .gtr 50 (cI 0),
oM 45 51])
(.cond 45
(sq (kr [2,4] [oK 52 6 4,
oS 6 2 52,
oD 3 (.mov (cI 528))])
.ret)
.skip)))))))))
(sq (kr [2,4] [oK 53 6 4,
oS 6 2 53,
oD 3 (.mov (cI 0))])
.ret)))))
def GS_:List RD:=[.cell 2 (some 6) true [],.tmp 3 true none]
theorem ho_:zm_ Tryz.prog Tryz.f223 hX_ GS_=true:=by kernel_rfl
def Wa_:List AV->List Obj->Option (Prop × AV)
 | [.imm (.int .u8) b],[]=>some ((b.length<=140737488355328,.tup [.agg [.int .i64 (ZG_ b (zu_ b)),.int .i64 (ZG_ b (zz_ b)),.bool ((if zK_ b=0 then z5_ b else false)),.int .u64 (ZG_ b (qf_ b)),.imm (.int .u8) (Z8_ b (Zp_ b)),.imm (.int .u8) (Z8_ b (Zq_ b))],.int .i64 (xk_ b)]))
 | _,_=>none
theorem u7_:zd_ Tryz.prog 223 (RoF Wa_).sum:=by
 refine zi_ Tryz.func223 ho_ (za_ (s:=RoF KM_) xa_ (za_ (s:=RoF Qa_) K7_ (za_ (s:=RoF KU_) xi_ (zc_ _)))) fun args objs p v e=>?_
 unfold Wa_ at e
 split at e
 ·rename_i b
  cases e
  refine ⟨rfl,fun hw ho hp=>?_⟩
  change List Int at b
  have hb:∀ x ∈ (b:List Int),(0:Int)<=x/\x<=255:=fun x hx=>(hw (.imm (.int .u8) b) (by simp)).1 x hx
  clear hw ho
  by_cases h0:zK_ b=0
  ·obtain ⟨E1,E2,E3,E4⟩:=zac_ hb h0
   have htz:=h5_ (b.drop (z9_ b).toNat)
   have hS:xk_ b=if ¬ (zu_ b=32768/\X1_ (zz_ b)=true) then 526 else if z5_ b=true then 528 else if z9_ b+8<=b.length then 527 else if zT_ (b.drop (z9_ b).toNat)=true then 0 else 528:=if_pos h0
   repeat'(intro t ht;first|(cases t<;>first|(cases ht;done)|(try simp only[zg_]at ht;try(exfalso;first|contradiction|omega)))|((first|refine zb_ ht ?_|refine ht ?_ ?_|refine ht.1 ?_ ?_|refine ht ?_)<;>clear ht))
   all_goals (try simp only [ZG_,h0,if_true] at*)
   all_goals first
    | exact True.intro
    | exact hp
    | omega
    | ((try simp only [zk_,zl_,zj_] at*);omega)
    | (rw [List.length_drop];omega)
    | (exfalso;simp_all;done)
    | (refine ⟨congrArg (fun z=>AV.tup [_,AV.int .i64 z]) ?_,by first | rfl | exact True.intro⟩;rw [hS];clear hS;simp_all;done)
    | (refine ⟨?_,by first | rfl | exact True.intro⟩;rw [hS];clear hS;simp_all;done)
    | (have hz:zT_ (b.drop (z9_ b).toNat)=true:=by rw [<- htz];exact decide_eq_true (by omega)
       refine ⟨?_,by first | rfl | exact True.intro⟩;rw [hS];clear hS;simp_all;done)
    | (have hz:zT_ (b.drop (z9_ b).toNat)=false:=by rw [<- htz];exact decide_eq_false (by omega)
       refine ⟨?_,by first | rfl | exact True.intro⟩;rw [hS];clear hS;simp_all;done)
  ·have hS:xk_ b=if zK_ b=1026 then 527 else if zK_ b=1031 then 526 else 528:=if_neg h0
   repeat'(intro t ht;first|(cases t<;>first|(cases ht;done)|(try simp only[zg_]at ht;try(exfalso;first|contradiction|omega)))|((first|refine zb_ ht ?_|refine ht ?_ ?_|refine ht.1 ?_ ?_|refine ht ?_)<;>clear ht))
   all_goals first
    | exact True.intro
    | exact hp
    | (exfalso;omega)
    | (refine ⟨congrArg (fun z=>AV.tup [_,AV.int .i64 z]) ?_,by first | rfl | exact True.intro⟩;rw [hS];clear hS;simp_all;done)
 ·cases e
def Hc_ (q a b c f:Int) (h:Bool) (x:Int) (v m d:List Int) (q' a' b' c' f':Int) (h':Bool) (x':Int) (v' m' d':List Int):Bool:=decide (q=q') && decide (a=a') && decide (b=b') && QX_ c f h x v m c' f' h' x' v' m' && decide (d=d')
theorem zdH_ (q a b c f:Int) (h:Bool) (x:Int) (v m d:List Int):Hc_ q a b c f h x v m d q a b c f h x v m d=true:=by unfold Hc_;rw [Hb_];simp
theorem gx_:∀ (w b o:List Int),(ZE_ w b o).2 ≠ 0->(ZE_ w b o).1=[]
 | [],b,o,h=>absurd rfl h
 | n :: r,b,o,h=>by
   simp only [ZE_] at h ⊢
   split at h
   ·rename_i c;rw [if_pos c]
   ·rename_i c
    rw [if_neg c]
    split at h
    ·rename_i c2;rw [if_pos c2];exact gx_ r _ _ h
    ·rename_i c2
     rw [if_neg c2]
     split at h
     ·rename_i c3;rw [if_pos c3];exact gx_ r _ _ h
     ·rename_i c3;rw [if_neg c3]
theorem gr_ {w b:List Int} (h:zQ_ w b ≠ 0):zG_ w b=[]:=by
 unfold zQ_ Zy_ at h;unfold zG_ Zy_
 split at h
 ·rename_i c;rw [if_pos c];exact gx_ _ _ _ h
 ·rename_i c;rw [if_neg c]
theorem zcU_ {w b:List Int} (hb:∀ x ∈ b,0<=x/\x<=255) (h:zQ_ w b=0):((zG_ w b).length:Int)=zH_ w:=by
 obtain ⟨p1,_,_⟩:=JC_ hb (show Zy_ w b=(zG_ w b,0) from Prod.ext rfl h)
 unfold qq_ at p1
 obtain ⟨r,hr⟩:=Option.isSome_iff_exists.1 p1
 unfold jz_ at hr
 split at hr
 ·rename_i h;exact h.2.symm
 ·cases hr
def plA (q:Int) (y:List Int) (k:Nat):Int:=if ¬ q=65535/\¬ (y.length:Int)=zD_ (zE_ q) then 0 else (zG_ (zE_ q) y).getD k 0
def plD (q:Int) (y:List Int):List Int:=if plE q y=0 then y.drop (zD_ (zE_ q)).toNat else []
def ul_:IR:=
(sq (kr [0,1,2] [oD 3 (.boxv 0),
oD 6 (.box [.int .i64 0,.int .u64 0,.int .u64 0,.int .i64 0,.int .i64 0,.kb false,.int .u64 0,.imm (.int .u8) [],.imm (.int .u8) [],.imm (.int .u8) []]),
oD 7 (.mov (cI 0))])
(sq (sq (kr [1,2,3,6] [oA 11 0 3,
oL 12 11,
oB 13 .neq 12 (cI 65535),
oM 14 13,
oT 14 15 (.mov 2),
oT 14 16 (.len 15),
oT 14 17 (.mov 1),
oT 14 18 (.call false (.f 94) [17]),
oT 14 19 (.bin .neq 16 18),
oP 20 14 19 cF])
(.cond 20
(sq (kr [3,6] [oK 21 10 3,
oS 10 6 21,
oD 7 (.mov (cI 514))])
.ret)
.skip))
(sq (kr [1,2,3,6] [oM 22 2,
oC 23 41 [22,(cI 514),(cI 518)],
oM 8 23])
(sq (sq (kr [1,3,6,8] [oM 24 8,
oM 25 1,
oC 26 42 [24,25],
oE 27 26,
oD 28 (.mov (cI 0))])
(.block 0
(.loop
(sq (kr [3,6,8,26,27,28] [oB 29 .lss 28 27])
(sq (.cond 29
.skip
(.exit 0))
(sq (.block 1
(sq (kr [3,6,8,26,27,28] [oM 30 28,
oI 31 1 26 28,
oL 32 31,
oM 9 30,
oM 10 32])
(sq (.reg [oM 33 9,
oB 34 .eql 33 (cI 0)])
(.cond 34
(kr [3,6,8,10,26,27,28] [oM 35 10,
oA 36 1 3,
oS 1 36 35])
(kr [3,6,8,10,26,27,28] [oM 37 10,
oA 38 2 3,
oS 1 38 37])))))
(kr [3,6,8,26,27,28] [oB 39 .add 28 (cI 1),
oM 28 39])))))))
(sq (kr [3,6,8] [oM 40 8,
oA 41 0 3,
oL 42 41,
oA 43 1 3,
oL 44 43,
oC 45 221 [42,44],
oC 46 44 [40,45]])
(sq (kr [3,6,8] [oM 47 8,
oC 48 99 [47],
oA 49 9 3,
oS 1 49 48])
(sq (.regD [(oK 50 10 3,[]),
(oM 51 8,[0]),
(oC 52 43 [51],[1]),
(oS 10 6 50,[]),
(oM 7 52,[])])
.ret)))))))
def VV_:List RD:=[.cell 6 (some 10) true [],.tmp 7 true none]
theorem V7_:zm_ Tryz.prog Tryz.f224 ul_ VV_=true:=by kernel_rfl
def jv_:List AV->List Obj->Option (Prop × AV)
 | [.agg [.int .i64 q,.int .u64 0,.int .u64 0,.int .i64 c,.int .i64 f,.bool h,.int .u64 x,.imm (.int .u8) v,.imm (.int .u8) m,.imm (.int .u8) ([])],.imm (.int .i64) w,.imm (.int .u8) y],[]=>some ((w=zE_ q/\y.length<=1000000,.tup [.agg [.int .i64 q,.int .u64 (plA q y 0),.int .u64 (plA q y 1),.int .i64 c,.int .i64 f,.bool h,.int .u64 x,.imm (.int .u8) v,.imm (.int .u8) m,.imm (.int .u8) (plD q y)],.int .i64 (plE q y)]))
 | _,_=>none
theorem Y2_:zd_ Tryz.prog 224 (RoF jv_).sum:=by
 refine zi_ Tryz.func224 V7_ (za_ (s:=RoF QC_) QW_ (za_ (s:=RwF ZP_) ZQ_ (za_ (s:=RwF z1_) Zf_ (za_ (s:=RoF kg_) Jo_ (za_ (s:=RwF zs_) zt_ (za_ (s:=RwF Zl_) ZL_ (za_ (s:=RoF zp_) zq_ (zc_ _)))))))) fun args objs p v e=>?_
 unfold jv_ at e
 split at e
 ·rename_i q c f h x v m w y
  cases e
  refine ⟨rfl,fun hw ho hp=>?_⟩
  change List Int at v
  change List Int at m
  change List Int at w
  change List Int at y
  have hyb:∀ x ∈ (y:List Int),(0:Int)<=x/\x<=255:=fun x hx=>(hw (.imm (.int .u8) y) (by simp)).1 x hx
  clear hw ho
  obtain ⟨rfl,hy⟩:=hp
  have hz:=u8_ q
  have hcn:=gG_ q
  have hd0:y.drop (0:Int).toNat=y:=rfl
  have hf0:∀ e,zv_ 0 e=e:=fun e=>if_pos rfl
  by_cases hm:¬ q=65535/\¬ (y.length:Int)=zD_ (zE_ q)
  ·have e1:plE q y=514:=if_pos hm
   have e2:∀ k,plA q y k=0:=fun k=>if_pos hm
   have e3:plD q y=[]:=by unfold plD;rw [e1];rfl
   rw [e1,e2,e2,e3]
   repeat'(intro t ht;first|(cases t<;>first|(cases ht;done)|(try simp only[zg_]at ht;try(exfalso;first|contradiction|omega)))|((first|refine zb_ ht ?_|refine ht ?_ ?_|refine ht.1 ?_ ?_|refine ht ?_)<;>clear ht))
   all_goals first
    | exact True.intro
    | omega
    | exact ⟨rfl,rfl⟩
  ·have e2:∀ k,plA q y k=(zG_ (zE_ q) y).getD k 0:=fun k=>if_neg hm
   have e1:plE q y=if zQ_ (zE_ q) y=1 then 514 else if zQ_ (zE_ q) y=2 then 518 else gP_ q ((zG_ (zE_ q) y).getD 0 0):=if_neg hm
   have hcL:QR_ (zE_ q) y 0 0=zG_ (zE_ q) y:=by unfold QR_;rw [if_pos rfl,hd0]
   have hcE:Kg_ (zE_ q) y 0 514 518 0=if zQ_ (zE_ q) y=1 then 514 else if zQ_ (zE_ q) y=2 then 518 else 0:=by unfold Kg_;rw [if_pos rfl,hd0]
   have hcP:kC_ (zE_ q) y 0 0=if zQ_ (zE_ q) y=1 then 0 else if zQ_ (zE_ q) y=2 then 0 else 0+zD_ (zE_ q):=by unfold kC_;rw [if_pos rfl,hd0]
   by_cases hK0:zQ_ (zE_ q) y=0
   ·have hl:=zcU_ hyb hK0
    rw [hK0,if_neg (by decide),if_neg (by decide)] at hcE hcP e1
    unfold plD
    rw [e1,e2,e2]
    have hsz:zD_ (zE_ q)<=y.length:=by
     have hpf:=JC_ hyb (show Zy_ (zE_ q) y=(zG_ (zE_ q) y,0) from Prod.ext rfl hK0)
     have:=Jw_ hpf.1
     rw [hpf.2.1,List.length_take] at this
     omega
    rcases hL:zG_ (zE_ q) y with _ | ⟨u,_ | ⟨w,_ | ⟨w2,r2⟩⟩⟩
    ·rw [hL] at hcL hl e1
     repeat'(intro t ht;first|(cases t<;>first|(cases ht;done)|(try simp only[zg_]at ht;try(exfalso;first|contradiction|omega)))|((first|refine zb_ ht ?_|refine ht ?_ ?_|refine ht.1 ?_ ?_|refine ht ?_)<;>clear ht))
     all_goals (try simp only [hcL,hcE,hcP] at*)
     all_goals first
      | exact True.intro
      | omega
      | exact ⟨by omega,by omega,by omega⟩
      | (intro r h1 h2;refine h1 ⟨1,?_⟩;clear h1 h2)
     all_goals repeat'(intro t ht;first|(cases t<;>first|(cases ht;done)|(try simp only[zg_]at ht;try(exfalso;first|contradiction|omega)))|((first|refine zb_ ht ?_|refine ht ?_ ?_|refine ht.1 ?_ ?_|refine ht ?_)<;>clear ht))
     all_goals (try simp only [hcL,hcE,hcP,List.getD_cons_zero,List.getD_cons_succ,List.getD_nil] at*)
     all_goals first
      | exact True.intro
      | omega
      | ((try simp only [zk_,zl_,zj_] at*);omega)
      | exact ⟨by omega,by omega,by omega,by decide⟩
      | (refine ⟨?_,by first | rfl | exact True.intro⟩;simp only [hf0,Int.zero_add];rfl)
    ·rw [hL] at hcL hl e1
     repeat'(intro t ht;first|(cases t<;>first|(cases ht;done)|(try simp only[zg_]at ht;try(exfalso;first|contradiction|omega)))|((first|refine zb_ ht ?_|refine ht ?_ ?_|refine ht.1 ?_ ?_|refine ht ?_)<;>clear ht))
     all_goals (try simp only [hcL,hcE,hcP] at*)
     all_goals first
      | exact True.intro
      | omega
      | exact ⟨by omega,by omega,by omega⟩
      | (intro r h1 h2;refine h1 ⟨2,?_⟩;clear h1 h2)
     all_goals repeat'(intro t ht;first|(cases t<;>first|(cases ht;done)|(try simp only[zg_]at ht;try(exfalso;first|contradiction|omega)))|((first|refine zb_ ht ?_|refine ht ?_ ?_|refine ht.1 ?_ ?_|refine ht ?_)<;>clear ht))
     all_goals (try simp only [hcL,hcE,hcP,List.getD_cons_zero,List.getD_cons_succ,List.getD_nil] at*)
     all_goals first
      | exact True.intro
      | omega
      | ((try simp only [zk_,zl_,zj_] at*);omega)
      | exact ⟨by omega,by omega,by omega,by decide⟩
      | (refine ⟨?_,by first | rfl | exact True.intro⟩;simp only [hf0,Int.zero_add];rfl)
    ·rw [hL] at hcL hl e1
     repeat'(intro t ht;first|(cases t<;>first|(cases ht;done)|(try simp only[zg_]at ht;try(exfalso;first|contradiction|omega)))|((first|refine zb_ ht ?_|refine ht ?_ ?_|refine ht.1 ?_ ?_|refine ht ?_)<;>clear ht))
     all_goals (try simp only [hcL,hcE,hcP] at*)
     all_goals first
      | exact True.intro
      | omega
      | exact ⟨by omega,by omega,by omega⟩
      | (intro r h1 h2;refine h1 ⟨3,?_⟩;clear h1 h2)
     all_goals repeat'(intro t ht;first|(cases t<;>first|(cases ht;done)|(try simp only[zg_]at ht;try(exfalso;first|contradiction|omega)))|((first|refine zb_ ht ?_|refine ht ?_ ?_|refine ht.1 ?_ ?_|refine ht ?_)<;>clear ht))
     all_goals (try simp only [hcL,hcE,hcP,List.getD_cons_zero,List.getD_cons_succ,List.getD_nil] at*)
     all_goals first
      | exact True.intro
      | omega
      | ((try simp only [zk_,zl_,zj_] at*);omega)
      | exact ⟨by omega,by omega,by omega,by decide⟩
      | (refine ⟨?_,by first | rfl | exact True.intro⟩;simp only [hf0,Int.zero_add];rfl)
    ·rw [hL] at hl;simp only [List.length_cons] at hl;omega
   ·have hL:=gr_ hK0
    have hE:∃ e,e ≠ 0/\(if zQ_ (zE_ q) y=1 then (514:Int) else if zQ_ (zE_ q) y=2 then 518 else 0)=e/\(if zQ_ (zE_ q) y=1 then (514:Int) else if zQ_ (zE_ q) y=2 then 518 else gP_ q (([]:List Int).getD 0 0))=e:=by
     rcases KF_ (zE_ q) y with h | h | h
     ·exact absurd h hK0
     ·rw [h];exact ⟨514,by decide,rfl,rfl⟩
     ·rw [h];exact ⟨518,by decide,rfl,rfl⟩
    obtain ⟨e,he,h1,h2⟩:=hE
    rw [h1] at hcE;rw [hL] at hcL e1;rw [h2] at e1
    unfold plD
    rw [e1,e2,e2,hL,if_neg he]
    repeat'(intro t ht;first|(cases t<;>first|(cases ht;done)|(try simp only[zg_]at ht;try(exfalso;first|contradiction|omega)))|((first|refine zb_ ht ?_|refine ht ?_ ?_|refine ht.1 ?_ ?_|refine ht ?_)<;>clear ht))
    all_goals (try simp only [hcL,hcE] at*)
    all_goals first
     | exact True.intro
     | omega
     | exact ⟨by omega,by omega,by omega⟩
     | (intro r h1 h2;refine h1 ⟨1,?_⟩;clear h1 h2)
    all_goals repeat'(intro t ht;first|(cases t<;>first|(cases ht;done)|(try simp only[zg_]at ht;try(exfalso;first|contradiction|omega)))|((first|refine zb_ ht ?_|refine ht ?_ ?_|refine ht.1 ?_ ?_|refine ht ?_)<;>clear ht))
    all_goals (try simp only [hcL,hcE] at*)
    all_goals first
     | exact True.intro
     | omega
     | ((try simp only [zk_,zl_,zj_] at*);omega)
     | (refine ⟨?_,by first | rfl | exact True.intro⟩;simp only [zv_,if_neg he];done)
     | (refine ⟨?_,by first | rfl | exact True.intro⟩;simp only [zv_,if_neg he];rfl)
 ·cases e
theorem j6_ {b:List Int} (h:acE b ≠ 0):(∀ x,acI b x=0)/\(∀ k,acA b k=0)/\(∀ x,acS b x=0)/\acH b=false/\(∀ l,acV b l=[])/\acD b=[]:=by
 have hI:∀ x,acI b x=0:=fun x=>if_neg h
 refine ⟨hI,fun k=>hI _,fun x=>hI _,?_,fun l=>if_neg h,if_neg h⟩
 unfold acH;rw [decide_eq_false h];rfl
theorem zjb_ {b:List Int} (h:acE b=0) (h25:tT b=25):(∀ x,acI b x=x)/\(∀ k,acA b k=0)/\(∀ x,acS b x=x)/\acH b=z5_ (bd b)/\(∀ l,acV b l=l)/\acD b=[]:=by
 have hI:∀ x,acI b x=x:=fun x=>if_pos h
 refine ⟨hI,fun k=>(hI _).trans (if_pos h25),fun x=>(hI _).trans (if_pos h25),?_,fun l=>(if_pos h).trans (if_pos h25),(if_pos h).trans (if_pos h25)⟩
 unfold acH;rw [decide_eq_true h,decide_eq_true h25];rfl
theorem zjc_ {b:List Int} (h:acE b=0) (h25:¬ tT b=25):(∀ x,acI b x=x)/\(∀ k,acA b k=(zG_ (zE_ (tT b)) (bd b)).getD k 0)/\(∀ x,acS b x=0)/\acH b=false/\(∀ l,acV b l=[])/\acD b=(bd b).drop (zD_ (zE_ (tT b))).toNat:=by
 have hI:∀ x,acI b x=x:=fun x=>if_pos h
 refine ⟨hI,fun k=>(hI _).trans (if_neg h25),fun x=>(hI _).trans (if_neg h25),?_,fun l=>(if_pos h).trans (if_neg h25),(if_pos h).trans (if_neg h25)⟩
 unfold acH;rw [decide_eq_false h25];simp
def vw_:IR:=
(sq (kr [0] [oD 2 (.box [.int .i64 0,.int .u64 0,.int .u64 0,.int .i64 0,.int .i64 0,.kb false,.int .u64 0,.imm (.int .u8) [],.imm (.int .u8) [],.imm (.int .u8) []]),
oD 3 (.mov (cI 0)),
oD 4 (.mov (cI 0))])
(sq (kr [0,2] [oD 12 (.build [.int .i64 0,.int .i64 0,.kb false,.int .i64 0,.int .i64 0] [(0,1,(cI 8)),(1,1,(cI 8)),(3,1,(cI 514)),(4,1,(cI 514))]),
oM 13 0,
oC 14 136 [12,13],
oM 11 14,
oX 15 11 0,
oX 16 11 1,
oX 17 11 2,
oD 5 (.box [.int .i64 0,.imm (.int .u8) []]),
oS 2 5 15,
oM 6 16,
oM 7 17])
(sq (sq (kr [2,5,6,7] [oM 18 7,
oB 19 .neq 18 (cI 0)])
(.cond 19
(sq (.reg [oD 20 (.build [.int .i64 0,.int .u64 0,.int .u64 0,.int .i64 0,.int .i64 0,.kb false,.int .u64 0,.imm (.int .u8) [],.imm (.int .u8) [],.imm (.int .u8) []] []),
oM 21 7,
oS 10 2 20,
oD 3 (.mov (cI 0)),
oM 4 21])
.ret)
.skip))
(sq (kr [2,5,6] [oA 22 0 5,
oL 23 22,
oD 24 (.build [.int .i64 0,.int .u64 0,.int .u64 0,.int .i64 0,.int .i64 0,.kb false,.int .u64 0,.imm (.int .u8) [],.imm (.int .u8) [],.imm (.int .u8) []] [(0,1,23)]),
oD 8 (.box [.int .i64 0,.int .u64 0,.int .u64 0,.int .i64 0,.int .i64 0,.kb false,.int .u64 0,.imm (.int .u8) [],.imm (.int .u8) [],.imm (.int .u8) []]),
oS 10 8 24])
(sq (kr [2,5,6,8] [oA 26 0 5,
oL 27 26,
oC 28 212 [27],
oM 25 28,
oX 29 25 0,
oX 30 25 1,
oM 9 29,
oM 10 30])
(sq (.block 0
(sq (kr [2,5,6,8,9,10] [oA 32 0 5,
oL 33 32,
oB 34 .eql 33 (cI 25),
oM 31 34])
(.cond 31
(kr [2,5,6,8] [oA 36 1 5,
oL 37 36,
oC 38 223 [37],
oM 35 38,
oX 39 35 0,
oX 40 35 1,
oA 41 3 8,
oS 6 41 39,
oM 7 40])
(sq (.reg [oM 43 10,
oM 42 43])
(.cond 42
(kr [2,5,6,8,9] [oK 45 10 8,
oM 46 9,
oA 47 1 5,
oL 48 47,
oC 49 224 [45,46,48],
oM 44 49,
oX 50 44 0,
oX 51 44 1,
oS 10 8 50,
oM 7 51])
(kr [2,6,8] [oD 7 (.mov (cI 513))]))))))
(sq (sq (kr [2,6,7,8] [oM 52 7,
oB 53 .neq 52 (cI 0)])
(.cond 53
(sq (.reg [oD 54 (.build [.int .i64 0,.int .u64 0,.int .u64 0,.int .i64 0,.int .i64 0,.kb false,.int .u64 0,.imm (.int .u8) [],.imm (.int .u8) [],.imm (.int .u8) []] []),
oM 55 7,
oS 10 2 54,
oD 3 (.mov (cI 0)),
oM 4 55])
.ret)
.skip))
(sq (kr [2,6,8] [oK 56 10 8,
oM 57 6,
oS 10 2 56,
oM 3 57,
oD 4 (.mov (cI 0))])
.ret))))))))
def vb_:List RD:=[.cell 2 (some 10) true [],.tmp 3 true none,.tmp 4 true none]
theorem vl_:zm_ Tryz.prog Tryz.f214 vw_ vb_=true:=by kernel_rfl
def Kp_:List AV->List Obj->Option (Prop × AV)
 | [.imm (.int .u8) b],[]=>some ((b.length<=140737488355328,.tup [.agg [.int .i64 (acI b (tT b)),.int .u64 (acA b 0),.int .u64 (acA b 1),.int .i64 (acS b (zu_ (bd b))),.int .i64 (acS b (zz_ (bd b))),.bool (acH b),.int .u64 (acS b (qf_ (bd b))),.imm (.int .u8) (acV b (Zp_ (bd b))),.imm (.int .u8) (acV b (Zq_ (bd b))),.imm (.int .u8) (acD b)],.int .i64 (acI b (tN b)),.int .i64 (acE b)]))
 | _,_=>none
theorem y7_:zd_ Tryz.prog 214 (RoF Kp_).sum:=by
 refine zi_ Tryz.func214 vl_ (za_ (s:=RoF KZ_) jD_ (za_ (s:=RoF qy_) Qy_ (za_ (s:=RoF Wa_) u7_ (za_ (s:=RoF jv_) Y2_ (zc_ _))))) fun args objs p v e=>?_
 unfold Kp_ at e
 split at e
 ·rename_i b
  cases e
  refine ⟨rfl,fun hw ho hp=>?_⟩
  change List Int at b
  have hb:∀ x ∈ (b:List Int),(0:Int)<=x/\x<=255:=fun x hx=>(hw (.imm (.int .u8) b) (by simp)).1 x hx
  clear hw ho
  have hbl:=gN_ hb
  have hs:(False=False)/\(4<=(8:Int)/\(8:Int)<=60000/\1<=(8:Int)/\(8:Int)<=64/\(514:Int) ≠ 0/\(514:Int) ≠ 0):=⟨rfl,by decide,by decide,by decide,by decide,by decide,by decide⟩
  by_cases hT:tlE b 8 8 514=0
  ·have hI:∀ x,tlI b 8 8 514 x=x:=fun x=>if_pos hT
   have hR:tlR b 8 8 514=bd b:=if_pos hT
   by_cases h25:tT b=25
   ·have hE:acE b=xk_ (bd b):=by unfold acE;rw [if_neg (not_not_intro hT),if_pos h25]
    by_cases h0:xk_ (bd b)=0
    ·have hd0:zK_ (bd b)=0:=Classical.byContradiction fun h=>by
      unfold xk_ at h0;rw [if_neg h] at h0
      split at h0
      ·cases h0
      ·split at h0<;>cases h0
     have hdI:∀ x,ZG_ (bd b) x=x:=fun x=>if_pos hd0
     have hdR:∀ l,Z8_ (bd b) l=l:=fun l=>if_pos hd0
     obtain ⟨n1,n2,n3,n4,n5,n6⟩:=zjb_ (hE.trans h0) h25
     rw [n1,n2,n2,n3,n3,n3,n4,n5,n5,n6,n1,hE,h0]
     repeat'(intro t ht;first|(cases t<;>first|(cases ht;done)|(try simp only[zg_]at ht;try(exfalso;first|contradiction|omega)))|((first|refine zb_ ht ?_|refine ht ?_ ?_|refine ht.1 ?_ ?_|refine ht ?_)<;>clear ht))
     all_goals (try simp only [hT,hI,hR,h0,h25,hdI,hdR,if_pos hd0,not_true_eq_false] at*)
     all_goals first
      | exact True.intro
      | omega
      | exact ⟨by first | rfl | exact True.intro,⟨by decide,by decide,by decide,by decide,by decide,by decide⟩,hp⟩
      | exact ⟨rfl,by first | rfl | exact True.intro⟩
         | exact ⟨True.intro,True.intro⟩
    ·obtain ⟨n1,n2,n3,n4,n5,n6⟩:=j6_ (b:=b) (by rw [hE];exact h0)
     rw [n1,n2,n2,n3,n3,n3,n4,n5,n5,n6,n1,hE]
     repeat'(intro t ht;first|(cases t<;>first|(cases ht;done)|(try simp only[zg_]at ht;try(exfalso;first|contradiction|omega)))|((first|refine zb_ ht ?_|refine ht ?_ ?_|refine ht.1 ?_ ?_|refine ht ?_)<;>clear ht))
     all_goals (try simp only [hT,hI,hR,h25,not_true_eq_false] at*)
     all_goals first
      | exact True.intro
      | omega
      | exact ⟨by first | rfl | exact True.intro,⟨by decide,by decide,by decide,by decide,by decide,by decide⟩,hp⟩
      | exact ⟨rfl,by first | rfl | exact True.intro⟩
         | exact ⟨True.intro,True.intro⟩
   ·cases hK:Gm_ (tT b) with
    | false=>
      have hE:acE b=513:=by unfold acE;rw [if_neg (not_not_intro hT),if_neg h25,hK];rfl
      obtain ⟨n1,n2,n3,n4,n5,n6⟩:=j6_ (b:=b) (by rw [hE];decide)
      rw [n1,n2,n2,n3,n3,n3,n4,n5,n5,n6,n1,hE]
      repeat'(intro t ht;first|(cases t<;>first|(cases ht;done)|(try simp only[zg_]at ht;try(exfalso;first|contradiction|omega)))|((first|refine zb_ ht ?_|refine ht ?_ ?_|refine ht.1 ?_ ?_|refine ht ?_)<;>clear ht))
      all_goals (try simp only [hT,hI,hR,not_true_eq_false] at*)
      all_goals first
       | exact True.intro
       | omega
       | exact ⟨by first | rfl | exact True.intro,⟨by decide,by decide,by decide,by decide,by decide,by decide⟩,hp⟩
       | exact ⟨rfl,by first | rfl | exact True.intro⟩
          | exact ⟨True.intro,True.intro⟩
       | (exfalso;simp_all;done)
    | true=>
      have hE:acE b=plE (tT b) (bd b):=by unfold acE;rw [if_neg (not_not_intro hT),if_neg h25,if_pos hK]
      by_cases h0:plE (tT b) (bd b)=0
      ·obtain ⟨n1,n2,n3,n4,n5,n6⟩:=zjc_ (hE.trans h0) h25
       have hm:¬ (¬ tT b=65535/\¬ ((bd b).length:Int)=zD_ (zE_ (tT b))):=fun h=>by unfold plE at h0;rw [if_pos h] at h0;cases h0
       have hA:∀ k,plA (tT b) (bd b) k=(zG_ (zE_ (tT b)) (bd b)).getD k 0:=fun k=>if_neg hm
       have hD:plD (tT b) (bd b)=(bd b).drop (zD_ (zE_ (tT b))).toNat:=if_pos h0
       rw [n1,n2,n2,n3,n3,n3,n4,n5,n5,n6,n1,hE,h0]
       repeat'(intro t ht;first|(cases t<;>first|(cases ht;done)|(try simp only[zg_]at ht;try(exfalso;first|contradiction|omega)))|((first|refine zb_ ht ?_|refine ht ?_ ?_|refine ht.1 ?_ ?_|refine ht ?_)<;>clear ht))
       all_goals (try simp only [hT,hI,hR,h0,hA,hD,not_true_eq_false] at*)
       all_goals first
        | exact True.intro
        | omega
        | exact ⟨by first | rfl | exact True.intro,⟨by decide,by decide,by decide,by decide,by decide,by decide⟩,hp⟩
        | exact ⟨rfl,by first | rfl | exact True.intro⟩
          | exact ⟨True.intro,True.intro⟩
        | exact ⟨trivial,by omega⟩
        | (exfalso;simp_all;done)
      ·obtain ⟨n1,n2,n3,n4,n5,n6⟩:=j6_ (b:=b) (by rw [hE];exact h0)
       rw [n1,n2,n2,n3,n3,n3,n4,n5,n5,n6,n1,hE]
       repeat'(intro t ht;first|(cases t<;>first|(cases ht;done)|(try simp only[zg_]at ht;try(exfalso;first|contradiction|omega)))|((first|refine zb_ ht ?_|refine ht ?_ ?_|refine ht.1 ?_ ?_|refine ht ?_)<;>clear ht))
       all_goals (try simp only [hT,hI,hR,not_true_eq_false] at*)
       all_goals first
        | exact True.intro
        | omega
        | exact ⟨by first | rfl | exact True.intro,⟨by decide,by decide,by decide,by decide,by decide,by decide⟩,hp⟩
        | exact ⟨rfl,by first | rfl | exact True.intro⟩
          | exact ⟨True.intro,True.intro⟩
        | exact ⟨trivial,by omega⟩
        | (exfalso;simp_all;done)
  ·have hE:acE b=tlE b 8 8 514:=by unfold acE;rw [if_pos hT]
   obtain ⟨n1,n2,n3,n4,n5,n6⟩:=j6_ (b:=b) (by rw [hE];exact hT)
   rw [n1,n2,n2,n3,n3,n3,n4,n5,n5,n6,n1,hE]
   repeat'(intro t ht;first|(cases t<;>first|(cases ht;done)|(try simp only[zg_]at ht;try(exfalso;first|contradiction|omega)))|((first|refine zb_ ht ?_|refine ht ?_ ?_|refine ht.1 ?_ ?_|refine ht ?_)<;>clear ht))
   all_goals first
    | exact True.intro
    | exact ⟨by first | rfl | exact True.intro,⟨by decide,by decide,by decide,by decide,by decide,by decide⟩,hp⟩
    | exact ⟨rfl,by first | rfl | exact True.intro⟩
            | exact ⟨True.intro,True.intro⟩
 ·cases e
def zcA_:IR:=
(sq (kr [0,1] [oD 2 (.boxv 0),
oD 3 (.boxv 1),
oD 4 (.mov cF)])
(sq (kr [2,3] [oA 5 0 2,
oL 6 5,
oA 7 0 3,
oL 8 7,
oB 9 .eql 6 8,
oM 10 9,
oT 10 11 (.fieldAddr 1 2),
oT 10 12 (.load none 11),
oT 10 13 (.fieldAddr 1 3),
oT 10 14 (.load none 13),
oT 10 15 (.bin .eql 12 14),
oP 16 10 15 cF,
oM 17 16,
oT 17 18 (.fieldAddr 2 2),
oT 17 19 (.load none 18),
oT 17 20 (.fieldAddr 2 3),
oT 17 21 (.load none 20),
oT 17 22 (.bin .eql 19 21),
oP 23 17 22 cF,
oM 24 23,
oT 24 25 (.fieldAddr 3 2),
oT 24 26 (.load (some 6) 25),
oT 24 27 (.fieldAddr 3 3),
oT 24 28 (.load (some 6) 27),
oT 24 29 (.call false (.f 110) [26,28]),
oP 30 24 29 cF,
oM 31 30,
oT 31 32 (.fieldAddr 9 2),
oT 31 33 (.load none 32),
oT 31 34 (.fieldAddr 9 3),
oT 31 35 (.load none 34),
oT 31 36 (.call false (.f 13) [33,35]),
oP 37 31 36 cF,
oM 4 37])
.ret))
def za9_:List RD:=[.tmp 4 true none]
theorem zbM_:zm_ Tryz.prog Tryz.f111 zcA_ za9_=true:=by kernel_rfl
def yE_:List AV->List Obj->Option (Prop × AV)
 | [.agg [.int .i64 q,.int .u64 a,.int .u64 b,.int .i64 c,.int .i64 f,.bool h,.int .u64 x,.imm (.int .u8) v,.imm (.int .u8) m,.imm (.int .u8) d],.agg [.int .i64 q',.int .u64 a',.int .u64 b',.int .i64 c',.int .i64 f',.bool h',.int .u64 x',.imm (.int .u8) v',.imm (.int .u8) m',.imm (.int .u8) d']],[]=>some ((True,.bool (Hc_ q a b c f h x v m d q' a' b' c' f' h' x' v' m' d')))
 | _,_=>none
theorem H0_:zd_ Tryz.prog 111 (RoF yE_).sum:=by
 refine zi_ Tryz.func111 zbM_ (za_ (s:=RoF wZ_) y2_ (za_ (s:=RoF Zx_) Zr_ (zc_ _))) fun args objs p v e=>?_
 unfold yE_ at e
 split at e
 ·rename_i q a b c f h x v m d q' a' b' c' f' h' x' v' m' d'
  cases e
  refine ⟨rfl,fun hw ho hp=>?_⟩
  change List Int at v
  change List Int at m
  change List Int at d
  change List Int at v'
  change List Int at m'
  change List Int at d'
  clear hw ho
  repeat'(intro t ht;first|(cases t<;>first|(cases ht;done)|(try simp only[zg_]at ht;try(exfalso;first|contradiction|omega)))|((first|refine zb_ ht ?_|refine ht ?_ ?_|refine ht.1 ?_ ?_|refine ht ?_)<;>clear ht))
  all_goals first
   | exact True.intro
   | (refine ⟨congrArg AV.bool ?_,rfl⟩;unfold Hc_;simp_all;done)
 ·cases e
abbrev AC:=Int × Int × Int × OV × List Int × Unit
instance:DecidableEq (OV × List Int × Unit):=inferInstance
instance:DecidableEq (Int × OV × List Int × Unit):=inferInstance
instance:DecidableEq AC:=inferInstance
def rgA (a:AC):Bool:=qh_ (zS_ a.2.2.2.1.1 a.2.2.2.1.2.1 a.2.2.2.1.2.2.1 a.2.2.2.1.2.2.2.1 a.2.2.2.1.2.2.2.2.1 a.2.2.2.1.2.2.2.2.2.1) a.1 a.2.1 a.2.2.1 a.2.2.2.1.1 a.2.2.2.1.2.1 a.2.2.2.1.2.2.1 a.2.2.2.1.2.2.2.1 a.2.2.2.1.2.2.2.2.1 a.2.2.2.1.2.2.2.2.2.1 a.2.2.2.2.1
def szA (a:AC):Int:=y8_ (zS_ a.2.2.2.1.1 a.2.2.2.1.2.1 a.2.2.2.1.2.2.1 a.2.2.2.1.2.2.2.1 a.2.2.2.1.2.2.2.2.1 a.2.2.2.1.2.2.2.2.2.1) (Qc_ a.2.2.2.1.1 a.2.2.2.1.2.1 a.2.2.2.1.2.2.1 a.2.2.2.1.2.2.2.1 a.2.2.2.1.2.2.2.2.1 a.2.2.2.1.2.2.2.2.2.1) a.1 a.2.1 a.2.2.1 a.2.2.2.1.1 a.2.2.2.1.2.1 a.2.2.2.1.2.2.1 a.2.2.2.1.2.2.2.1 a.2.2.2.1.2.2.2.2.1 a.2.2.2.1.2.2.2.2.2.1 a.2.2.2.2.1
def ebA (a:AC):List Int:=gE_ a.1 a.2.1 a.2.2.1 (ZF_ a.2.2.2.1.1 a.2.2.2.1.2.1 a.2.2.2.1.2.2.1 a.2.2.2.1.2.2.2.1 a.2.2.2.1.2.2.2.2.1 a.2.2.2.1.2.2.2.2.2.1) a.2.2.2.2.1
def exA (a:AC):List Int:=if rgA a=true then ebA a else []
def eeA (a:AC):Int:=if rgA a=true then 0 else 10001
def lenA (a:AC):Prop:=a.2.2.2.1.2.2.2.2.1.length<=100000/\a.2.2.2.1.2.2.2.2.2.1.length<=100000/\a.2.2.2.2.1.length<=100000
theorem zij_ {a:AC} (h:lenA a):a.2.2.2.1.2.2.2.2.1.length<=1000000/\a.2.2.2.1.2.2.2.2.2.1.length<=1000000:=⟨Nat.le_trans h.1 (by decide),Nat.le_trans h.2.1 (by decide)⟩
structure okL (l:List AC):Prop where
 a:∀ o ∈ l,lenA o
 n:l.length<=1000000
theorem zkM_ {a:AC} (h:rgA a=false):szA a=0:=by
 unfold szA y8_;unfold rgA at h;rw [h];rfl
theorem uO_ {a:AC} (h:rgA a=true):szA a=(ebA a).length/\8<=szA a/\szA a<=65528/\(ebA a).length % 8=0:=by
 obtain ⟨s0,s1,s2,s3⟩:=Xx_ h
 have l2:=zn_ (n:=a.1) (w:=2) (by decide)
 have hb:(ebA a).length=4+(qu_ a.1 a.2.1 a.2.2.1 (ZF_ a.2.2.2.1.1 a.2.2.2.1.2.1 a.2.2.2.1.2.2.1 a.2.2.2.1.2.2.2.1 a.2.2.2.1.2.2.2.2.1 a.2.2.2.1.2.2.2.2.2.1) a.2.2.2.2.1).length:=by
  have l3:=zn_ (n:=(4+(qu_ a.1 a.2.1 a.2.2.1 (ZF_ a.2.2.2.1.1 a.2.2.2.1.2.1 a.2.2.2.1.2.2.1 a.2.2.2.1.2.2.2.1 a.2.2.2.1.2.2.2.2.1 a.2.2.2.1.2.2.2.2.2.1) a.2.2.2.2.1).length)) (w:=2) (by decide)
  unfold ebA gE_;simp only [List.length_append];omega
 have e:szA a=4+((qu_ a.1 a.2.1 a.2.2.1 (ZF_ a.2.2.2.1.1 a.2.2.2.1.2.1 a.2.2.2.1.2.2.1 a.2.2.2.1.2.2.2.1 a.2.2.2.1.2.2.2.2.1 a.2.2.2.1.2.2.2.2.2.1) a.2.2.2.2.1).length:Int):=s0
 omega
theorem zht_ (a:AC):0<=szA a/\szA a<=65528:=by
 cases h:rgA a with
 | true=>have:=uO_ h;omega
 | false=>rw [zkM_ h];decide
def smT (l:List AC) (i:Nat):Int:=((l.take i).map szA).sum
def smL (l:List AC):Int:=(l.map szA).sum
theorem zaM_ {l:List AC} {i:Nat} {d:AC} (h:i < l.length):smT l (i+1)=smT l i+szA (l.getD i d):=by
 unfold smT
 rw [List.take_succ_eq_append_getElem h,List.map_append,List.sum_append,List.getD_eq_getElem?_getD,List.getElem?_eq_getElem h]
 simp
theorem zjB_ {l:List AC} {i:Nat} (h:l.length<=i):smT l i=smL l:=by unfold smT smL;rw [List.take_of_length_le h]
theorem zln_ {l:List AC} (i:Nat) (hi:i<=l.length):0<=smT l i/\smT l i<=65528*i:=by
 induction i with
 | zero=>unfold smT;simp
 | succ i ih=>
   have:=ih (by omega)
   have d:AC:=(0,0,0,(0,0,false,0,[],[],()),[],())
   have hs:=zht_ (l.getD i d)
   rw [zaM_ (d:=d) (by omega)];omega
def szL (l:List AC):Int:=if 64 < l.length then 0 else if l.all rgA=true then (if 65528 < smL l then 0 else smL l) else 0
def B1_:IR:=
(sq (kr [0] [oD 2 (.mov (cI 0))])
(sq (sq (.reg [oM 6 0,
oE 7 6,
oB 8 .gtr 7 (cI 64)])
(.cond 8
(sq (.reg [oD 2 (.mov (cI 0))])
.ret)
.skip))
(sq (sq (.reg [oM 9 0,
oE 10 9,
oD 11 (.mov (cI 0))])
(.block 0
(.loop
(sq (kr [2,9,10,11] [oB 12 .lss 11 10])
(sq (.cond 12
.skip
(.exit 0))
(sq (.block 1
(sq (.reg [oI 13 10 9 11,
oK 14 10 13,
oD 4 (.box [.int .i64 0,.int .u64 0,.int .u64 0,.int .i64 0,.int .i64 0,.kb false,.int .u64 0,.imm (.int .u8) [],.imm (.int .u8) [],.imm (.int .u8) []]),
oS 10 4 14])
(sq (.reg [oK 15 10 4,
oC 16 209 [15],
oM 5 16])
(sq (sq (kr [2,5,9,10,11] [oM 17 5,
oB 18 .eql 17 (cI 0)])
(.cond 18
(sq (.reg [oD 2 (.mov (cI 0))])
.ret)
.skip))
(.reg [oM 19 2,
oM 20 5,
oB 21 .add 19 20,
oM 2 21])))))
(kr [2,9,10,11] [oB 22 .add 11 (cI 1),
oM 11 22])))))))
(sq (sq (kr [2] [oM 23 2,
oB 24 .gtr 23 (cI 65528)])
(.cond 24
(sq (.reg [oD 2 (.mov (cI 0))])
.ret)
.skip))
(sq (.reg [oM 25 2,
oM 2 25])
.ret)))))
def bJ_:List RD:=[.tmp 2 true none]
theorem Bk_:zm_ Tryz.prog Tryz.f194 B1_ bJ_=true:=by kernel_rfl
def Xp_:List AV->List Obj->Option (Prop × AV)
 | [.imm ty0 l],[]=>ZY_ ty0 Y2 l fun l=>some ((okL l,.int .i64 (szL l)))
 | _,_=>none
theorem Gk_:zd_ Tryz.prog 194 (RoF Xp_).sum:=by
 refine zi_ Tryz.func194 Bk_ (za_ (s:=RoF k2_) Wd_ (zc_ _)) fun args objs p v e=>?_
 unfold Xp_ at e
 split at e
 ·rename_i ty0 l
  obtain rfl:=zY_ e
  replace e:=zZ_ e
  cases e
  refine ⟨rfl,fun hw ho hp=>?_⟩
  change List AC at l
  clear hw ho
  have hn:=hp.n
  by_cases h64:64 < l.length
  ·have e:szL l=0:=if_pos h64
   rw [e]
   repeat'(intro t ht;first|(cases t<;>first|(cases ht;done)|(try simp only[zg_]at ht;try(exfalso;first|contradiction|omega)))|((first|refine zb_ ht ?_|refine ht ?_ ?_|refine ht.1 ?_ ?_|refine ht ?_)<;>clear ht))
   all_goals first
    | exact True.intro
    | exact ⟨rfl,rfl⟩
    | (exfalso;omega)
  ·have e:szL l=if l.all rgA=true then (if 65528 < smL l then 0 else smL l) else 0:=if_neg h64
   repeat'(intro t ht;first|(cases t<;>first|(cases ht;done)|(try simp only[zg_]at ht;try(exfalso;first|contradiction|omega)))|((first|refine zb_ ht ?_|refine ht ?_ ?_|refine ht.1 ?_ ?_|refine ht ?_)<;>clear ht))
   all_goals first
    | exact True.intro
    | (intro r h1 h2;clear h1;refine h2 ⟨[2,9,10,11],Nat,(fun i=>i<=l.length/\(l.take i).all rgA=true),fun i=>[.int .i64 (smT l i),.imm Y2 l,.int .i64 l.length,.int .i64 i],fun _=>[],fun i=>l.length - i,⟨0,⟨Nat.zero_le _,rfl⟩,rfl,rfl⟩,?_⟩;clear h2)
   rintro i ⟨hi,he⟩
   have hle:=zln_ (l:=l) i hi
   repeat'(intro t ht;first|(cases t<;>first|(cases ht;done)|(try simp only[zg_]at ht;try(exfalso;first|contradiction|omega)))|((first|refine zb_ ht ?_|refine ht ?_ ?_|refine ht.1 ?_ ?_|refine ht ?_)<;>clear ht))
   all_goals (try generalize (Ty.dflt Y2)=od at*)
   all_goals first
    | exact True.intro
    | ((try simp only [zk_,zl_,zj_] at*);omega)
    | (have ha:=zi7_ (by omega) he
       have hs:=zjB_ (l:=l) (i:=i) (by omega)
       rw [e,if_pos ha,<- hs]
       first
        | (rw [if_pos (by assumption)];exact ⟨rfl,rfl⟩)
        | (rw [if_neg (by assumption)];exact ⟨rfl,rfl⟩))
    | (have hlt:i < l.length:=by omega
       have hln:=hp.a _ (zL_ hlt od)
       have hsz:=zht_ (l.getD i od)
       first
        | exact zij_ hln
        | (unfold szA at hsz;simp only [zj_,Int.toNat_natCast];omega)
        | (have h0:szA (l.getD i od)=0:=by assumption
           have hr:rgA (l.getD i od)=false:=by
            cases hk:rgA (l.getD i od) with
            | false=>rfl
            | true=>have:=uO_ hk;omega
           rw [e,if_neg (by rw [zi6_ hlt hr];decide)];exact ⟨rfl,rfl⟩)
        | (have h0:¬ szA (l.getD i od)=0:=by assumption
           have hr:rgA (l.getD i od)=true:=by
            cases hk:rgA (l.getD i od) with
            | true=>rfl
            | false=>exact absurd (zkM_ hk) h0
           refine ⟨i+1,⟨by omega,zg6_ hlt he hr⟩,by dsimp only;omega,?_,rfl⟩
           dsimp only;rw [zaM_ (d:=od) hlt];rfl))
 ·cases e
def rgL (l:List AC):Bool:=decide (l.length=0) || decide (0 < szL l)
def hW_:IR:=
(sq (kr [0] [oD 2 (.mov cF)])
(sq (kr [0] [oM 3 0,
oE 4 3,
oB 5 .eql 4 (cI 0),
oM 6 5,
oF 6 7 (.mov 0),
oF 6 8 (.call false (.f 194) [7]),
oF 6 9 (.bin .gtr 8 (cI 0)),
oP 10 6 cT 9,
oM 2 10])
.ret))
def GR_:List RD:=[.tmp 2 true none]
theorem hn_:zm_ Tryz.prog Tryz.f177 hW_ GR_=true:=by kernel_rfl
def KV_:List AV->List Obj->Option (Prop × AV)
 | [.imm ty0 l],[]=>ZY_ ty0 Y2 l fun l=>some ((okL l,.bool (rgL l)))
 | _,_=>none
theorem xj_:zd_ Tryz.prog 177 (RoF KV_).sum:=by
 refine zi_ Tryz.func177 hn_ (za_ (s:=RoF Xp_) Gk_ (zc_ _)) fun args objs p v e=>?_
 unfold KV_ at e
 split at e
 ·rename_i ty0 l
  obtain rfl:=zY_ e
  replace e:=zZ_ e
  cases e
  refine ⟨rfl,fun hw ho hp=>?_⟩
  change List AC at l
  clear hw ho
  have hok:=hp
  by_cases h0:l.length=0
  ·repeat'(intro t ht;first|(cases t<;>first|(cases ht;done)|(try simp only[zg_]at ht;try(exfalso;first|contradiction|omega)))|((first|refine zb_ ht ?_|refine ht ?_ ?_|refine ht.1 ?_ ?_|refine ht ?_)<;>clear ht))
   all_goals first
    | exact True.intro
    | exact hok
    | (refine ⟨congrArg AV.bool ?_,rfl⟩;unfold rgL;rw [decide_eq_true h0];rfl)
    | (exfalso;omega)
  ·repeat'(intro t ht;first|(cases t<;>first|(cases ht;done)|(try simp only[zg_]at ht;try(exfalso;first|contradiction|omega)))|((first|refine zb_ ht ?_|refine ht ?_ ?_|refine ht.1 ?_ ?_|refine ht ?_)<;>clear ht))
   all_goals first
    | exact True.intro
    | exact hok
    | (refine ⟨congrArg AV.bool ?_,rfl⟩;unfold rgL;rw [decide_eq_false h0];rfl)
    | (exfalso;omega)
 ·cases e
def wrS {α:Type} (x:α->List Int) (f:α->Int) (room:Int):List α->List Int->Int->List Int × Int
 | [],l,e=>(l,e)
 | o :: r,l,e=>wrS x f room r (kH_ (x o) l room (zv_ e (f o))) (QS_ (x o) l room (zv_ e (f o)))
theorem zau_ {α:Type} {x:α->List Int} {f:α->Int} {room:Int} {l:List α} {i:Nat} {d:α} {b:List Int} {e:Int} (h:i < l.length):wrS x f room (l.drop i) b e=wrS x f room (l.drop (i+1)) (kH_ (x (l.getD i d)) b room (zv_ e (f (l.getD i d)))) (QS_ (x (l.getD i d)) b room (zv_ e (f (l.getD i d)))):=by
 rw [zw_ h d];rfl
def apB (x:List AC) (l:List Int) (room e:Int):List Int:=if rgL x=true then (wrS exA eeA room x l e).1 else l
def apE (x:List AC) (l:List Int) (room e:Int):Int:=if rgL x=true then (wrS exA eeA room x l e).2 else zv_ e 10001
theorem ziE_ {a:AC}:(exA a).length<=1000000:=by
 unfold exA;split
 ·have:=uO_ (by assumption);omega
 ·simp
def zcR_:IR:=
(sq (sq (kr [0,1] [oM 8 1,
oC 9 177 [8],
oD 10 (.un .not 9)])
(.cond 10
(sq (.reg [oM 11 0,
oC 12 34 [11,(cI 10001)]])
.ret)
.skip))
(sq (.reg [oM 13 1,
oE 14 13,
oD 15 (.mov (cI 0))])
(.block 0
(.loop
(sq (kr [0,13,14,15] [oB 16 .lss 15 14])
(sq (.cond 16
.skip
(.exit 0))
(sq (.block 1
(sq (.reg [oI 17 10 13 15,
oK 18 10 17,
oD 5 (.box [.int .i64 0,.int .u64 0,.int .u64 0,.int .i64 0,.int .i64 0,.kb false,.int .u64 0,.imm (.int .u8) [],.imm (.int .u8) [],.imm (.int .u8) []]),
oS 10 5 18])
(sq (kr [0,5,13,14,15] [oK 20 10 5,
oC 21 195 [20],
oM 19 21,
oX 22 19 0,
oX 23 19 1,
oM 6 22,
oM 7 23])
(sq (kr [0,6,7,13,14,15] [oM 24 0,
oM 25 7,
oC 26 34 [24,25]])
(.reg [oM 27 0,
oM 28 6,
oC 29 65 [27,28]])))))
(kr [0,13,14,15] [oB 30 .add 15 (cI 1),
oM 15 30]))))))))
def zbr_:List RD:=[]
theorem zb3_:zm_ Tryz.prog Tryz.f178 zcR_ zbr_=true:=by kernel_rfl
def gV_:List AV->List Obj->Option (Prop × Res)
 | [.ptr 0 0,.imm (.cons (.int .i64) (.cons (.int .u64) (.cons (.int .u64) (.cons (.cons (.int .i64) (.cons (.int .i64) (.cons .bool (.cons (.int .u64) (.cons (.sl (.int .u8)) (.cons (.sl (.int .u8)) .nil)))))) (.cons (.sl (.int .u8)) .nil))))) x],[.box [.own 1,.int .i64 room,.mapv 2,.int .i64 e],.row false (.int .u8) l,.map sq (.int .i64) (.int .i64) h]=>some (okL x/\0<=room/\room<=1000000/\l.length<=1000000,.br (rgL x && decide (0 < x.length)) (.one (.tup []) [.box [.own 3,.int .i64 room,.mapv 2,.int .i64 (apE x l room e)],.dead,.map sq (.int .i64) (.int .i64) h,.row false (.int .u8) (apB x l room e)]) (.one (.tup []) [.box [.own 1,.int .i64 room,.mapv 2,.int .i64 (apE x l room e)],.row false (.int .u8) l,.map sq (.int .i64) (.int .i64) h]))
 | _,_=>none
def yN_:List AV->List Obj->Option (Prop × AV × List Obj)
 | [.ptr 0 0,.imm (.cons (.int .i64) (.cons (.int .u64) (.cons (.int .u64) (.cons (.cons (.int .i64) (.cons (.int .i64) (.cons .bool (.cons (.int .u64) (.cons (.sl (.int .u8)) (.cons (.sl (.int .u8)) .nil)))))) (.cons (.sl (.int .u8)) .nil))))) x],[.box [.own 1,.int .i64 room,.mapv 2,.int .i64 e],.row false (.int .u8) l,.map sq (.int .i64) (.int .i64) h]=>some (okL x/\0<=room/\room<=1000000/\l.length<=1000000,.tup [],[.box [.own 3,.int .i64 room,.mapv 2,.int .i64 (apE x l room e)],.dead,.map sq (.int .i64) (.int .i64) h,.row false (.int .u8) (apB x l room e)])
 | _,_=>none
theorem HN_:zd_ Tryz.prog 178 (RcF gV_).sum:=by
 refine Uv_ Tryz.func178 zb3_ (za_ (s:=RoF KV_) xj_ (za_ (s:=RwF zF_) zJ_ (za_ (s:=RoF Ko_) y6_ (za_ (s:=RwF zx_) zB_ (zc_ _))))) fun args objs p v e=>?_
 unfold gV_ at e
 split at e
 ·rename_i x room e l sq h
  cases e
  change List Int at l
  change List AC at x
  refine ⟨rfl,fun hw' ho hp=>?_⟩
  clear hw' ho
  obtain ⟨hok,hp1,hp2,hp3⟩:=hp
  have hok':=hok
  have hn:=hok.n
  cases hr:rgL x with
  | false=>
    have e1:apE x l room e=zv_ e 10001:=by unfold apE;rw [hr];rfl
    rw [e1]
    repeat'(intro t ht;first|(cases t<;>first|(cases ht;done)|(try simp only[zg_]at ht;try(exfalso;first|contradiction|omega)))|((first|refine zb_ ht ?_|refine ht ?_ ?_|refine ht.1 ?_ ?_|refine ht ?_)<;>clear ht))
    all_goals first
     | exact True.intro
     | exact hok
     | (exfalso;simp_all;done)
     | exact ⟨rfl,rfl⟩
  | true=>
    have q1:apE x l room e=(wrS exA eeA room x l e).2:=if_pos hr
    have q2:apB x l room e=(wrS exA eeA room x l e).1:=if_pos hr
    rw [q1,q2]
    repeat'(intro t ht;first|(cases t<;>first|(cases ht;done)|(try simp only[zg_]at ht;try(exfalso;first|contradiction|omega)))|((first|refine zb_ ht ?_|refine ht ?_ ?_|refine ht.1 ?_ ?_|refine ht ?_)<;>clear ht))
    all_goals first
     | exact True.intro
     | exact hok
     | (exfalso;simp_all;done)
     | (intro r h1 h2;clear h1;refine h2 ⟨[0,13,14,15],Option (Nat × List Int × Int),(fun a=>match a with | none=>True | some a=>0 < a.1/\a.1<=x.length/\a.2.1.length<=1000000/\wrS exA eeA room x l e=wrS exA eeA room (x.drop a.1) a.2.1 a.2.2),(fun a=>match a with | none=>[.ptr 0 0,.imm Y2 x,.int .i64 x.length,.int .i64 0] | some a=>[.ptr 0 0,.imm Y2 x,.int .i64 x.length,.int .i64 a.1]),(fun a=>match a with | none=>[.box [.own 1,.int .i64 room,.mapv 2,.int .i64 e],.row false (.int .u8) l,.map sq (.int .i64) (.int .i64) h] | some a=>[.box [.own 3,.int .i64 room,.mapv 2,.int .i64 a.2.2],.dead,.map sq (.int .i64) (.int .i64) h,.row false (.int .u8) a.2.1]),(fun a=>match a with | none=>x.length+1 | some a=>x.length - a.1),⟨none,True.intro,rfl,rfl⟩,?_⟩;clear h2)
    rintro (_ | ⟨i,b,f⟩) hJ
    ·repeat'(intro t ht;first|(cases t<;>first|(cases ht;done)|(try simp only[zg_]at ht;try(exfalso;first|contradiction|omega)))|((first|refine zb_ ht ?_|refine ht ?_ ?_|refine ht.1 ?_ ?_|refine ht ?_)<;>clear ht))
     all_goals (try generalize (Ty.dflt Y2)=od at*)
     all_goals first
      | exact True.intro
      | ((try simp only [zk_,zl_,zj_] at*);omega)
      | exact ⟨hp1,hp2,hp3,ziE_ (a:=x.getD 0 od)⟩
      | exact zij_ (hok'.a _ (zL_ (show 0 < x.length by omega) od))
      | (have hx:x=[]:=List.eq_nil_of_length_eq_zero (by omega)
         subst hx;exact ⟨rfl,rfl⟩)
      | (have hs:=zau_ (x:=exA) (f:=eeA) (room:=room) (l:=x) (i:=0) (d:=od) (b:=l) (e:=e) (by omega)
         refine ⟨some (1,kH_ (exA (x.getD 0 od)) l room (zv_ e (eeA (x.getD 0 od))),QS_ (exA (x.getD 0 od)) l room (zv_ e (eeA (x.getD 0 od)))),⟨Nat.one_pos,?_,?_,hs⟩,?_,rfl,rfl⟩
         ·dsimp only;omega
         ·exact Q9_ hp3 hp2
         ·dsimp only;omega)
    ·obtain ⟨hi0,hi,hb,he⟩:=hJ
     dsimp only at hi0 hi hb he
     repeat'(intro t ht;first|(cases t<;>first|(cases ht;done)|(try simp only[zg_]at ht;try(exfalso;first|contradiction|omega)))|((first|refine zb_ ht ?_|refine ht ?_ ?_|refine ht.1 ?_ ?_|refine ht ?_)<;>clear ht))
     all_goals (try generalize (Ty.dflt Y2)=od at*)
     all_goals first
      | exact True.intro
      | ((try simp only [zk_,zl_,zj_] at*);omega)
      | exact ⟨hp1,hp2,hb,ziE_ (a:=x.getD i od)⟩
      | exact zij_ (hok'.a _ (zL_ (show i < x.length by omega) od))
      | (rw [List.drop_of_length_le (show x.length<=i by omega)] at he
         have h1:wrS exA eeA room x l e=(b,f):=he
         rw [h1,decide_eq_true (show 0 < x.length by omega)];exact ⟨rfl,rfl⟩)
      | (refine ⟨some (i+1,kH_ (exA (x.getD i od)) b room (zv_ f (eeA (x.getD i od))),QS_ (exA (x.getD i od)) b room (zv_ f (eeA (x.getD i od)))),⟨?_,?_,?_,he.trans (zau_ (d:=od) (show i < x.length by omega))⟩,?_,rfl,rfl⟩
         ·dsimp only;omega
         ·dsimp only;omega
         ·exact Q9_ hb hp2
         ·dsimp only;omega)
 ·cases e
theorem H9_:zd_ Tryz.prog 178 (RwF yN_).sum:=by
 refine Yd_ HN_ fun args objs p v o e=>?_
 unfold yN_ at e
 split at e
 ·rename_i x room e l sq h
  cases e
  cases hb:(rgL x && decide (0 < x.length)) with
  | true=>exact ⟨_,_,rfl,ja_ hb,.inl rfl⟩
  | false=>
    refine ⟨_,_,rfl,Q1_ hb,.inr ⟨0,1,[],[.int .i64 room,.mapv 2,.int .i64 (apE x l room e)],.int .u8,l,rfl,rfl,?_⟩⟩
    have e1:apB x l room e=l:=by
     unfold apB
     split
     ·rename_i hr
      rw [hr,Bool.true_and,decide_eq_false_iff_not] at hb
      have hx:x=[]:=List.eq_nil_of_length_eq_zero (by omega)
      subst hx;rfl
     ·rfl
    rw [e1];rfl
 ·cases e
def boA (l:List AC):List Int:=l.flatMap ebA
theorem JL_ (o:AC) (r:List AC):boA (o :: r)=ebA o++boA r:=List.flatMap_cons
theorem zf2_:∀ (l:List AC),l.all rgA=true->((boA l).length:Int)=smL l/\8*l.length<=(boA l).length
 | [],_=>⟨rfl,Nat.le_refl _⟩
 | o :: r,h=>by
   rw [List.all_cons,Bool.and_eq_true] at h
   obtain ⟨i1,i2⟩:=zf2_ r h.2
   have hs:=uO_ h.1
   unfold smL at i1 ⊢
   rw [JL_,List.length_append,List.map_cons,List.sum_cons,List.length_cons];omega
theorem Jt_ {l:List AC} (h:rgL l=true):l.all rgA=true/\l.length<=64/\(boA l).length<=65528/\szL l=(boA l).length:=by
 unfold rgL at h
 rw [Bool.or_eq_true,decide_eq_true_eq,decide_eq_true_eq] at h
 rcases h with h | h
 ·have:l=[]:=List.eq_nil_of_length_eq_zero h
  subst this;exact ⟨rfl,Nat.zero_le _,Nat.zero_le _,rfl⟩
 ·unfold szL at h ⊢
  by_cases h1:64 < l.length
  ·rw [if_pos h1] at h;omega
  ·rw [if_neg h1] at h ⊢
   by_cases h2:l.all rgA=true
   ·rw [if_pos h2] at h ⊢
    by_cases h3:65528 < smL l
    ·rw [if_pos h3] at h;omega
    ·rw [if_neg h3]
     obtain ⟨b1,b2⟩:=zf2_ l h2
     exact ⟨h2,by omega,by omega,b1.symm⟩
   ·rw [if_neg h2] at h;omega
theorem zkZ_ {a:AC} (h:rgA a=true):exA a=ebA a/\eeA a=0:=⟨if_pos h,if_pos h⟩
theorem zhg_ {room:Int}:∀ (r:List AC) (l:List Int),r.all rgA=true->(l.length:Int)+(boA r).length<=room->wrS exA eeA room r l 0=(l++boA r,0)
 | [],l,_,_=>by unfold boA wrS;simp
 | o :: r,l,h,hl=>by
   rw [List.all_cons,Bool.and_eq_true] at h
   obtain ⟨h2,h3⟩:=zkZ_ h.1
   rw [JL_,List.length_append] at hl
   obtain ⟨b1,b2⟩:=x1_ (x:=ebA o) (l:=l) (room:=room) (by omega)
   have f0:zv_ 0 0=0:=rfl
   unfold wrS
   rw [h2,h3,f0,b1,b2,zhg_ r (l++ebA o) h.2 (by rw [List.length_append];omega),JL_,List.append_assoc]
theorem zm9_ {x:List AC} {l:List Int} {room:Int} (h:rgL x=true) (hl:(l.length:Int)+(boA x).length<=room):apB x l room 0=l++boA x/\apE x l room 0=0:=by
 unfold apB apE
 rw [if_pos h,if_pos h,zhg_ x l (Jt_ h).1 hl];exact ⟨rfl,rfl⟩
theorem zi4_ {x:List AC} {l:List Int} {room e:Int} (h:rgL x=false):apB x l room e=l/\apE x l room e=zv_ e 10001:=by
 unfold apB apE;rw [h];exact ⟨rfl,rfl⟩
def vA (y:List Int):AC:=(tT y,acA y 0,acA y 1,(acS y (zu_ (bd y)),acS y (zz_ (bd y)),acH y,acS y (qf_ (bd y)),acV y (Zp_ (bd y)),acV y (Zq_ (bd y)),()),acD y,())
def alG (acc:List AC) (y:List Int):List AC × Int:=
 if y.length=0 then (acc,0) else if acc.length=64 then ([],520) else if ¬ acE y=0 then ([],acE y) else alG (acc++[vA y]) (y.drop (max 1 (tN y).toNat))
termination_by y.length
decreasing_by all_goals (rw [List.length_drop];omega)
theorem uG_ {acc:List AC} {y:List Int} (h:y.length=0):alG acc y=(acc,0):=by rw [alG,if_pos h]
theorem zdp_ {acc:List AC} {y:List Int} (h:¬ y.length=0) (h1:acc.length=64):alG acc y=([],520):=by rw [alG,if_neg h,if_pos h1]
theorem zam_ {acc:List AC} {y:List Int} (h:¬ y.length=0) (h1:¬ acc.length=64) (h2:¬ acE y=0):alG acc y=([],acE y):=by rw [alG,if_neg h,if_neg h1,if_pos h2]
theorem zal_ {acc:List AC} {y:List Int} (h:¬ y.length=0) (h1:¬ acc.length=64) (h2:acE y=0) (hn:1<=tN y):alG acc y=alG (acc++[vA y]) (y.drop (tN y).toNat):=by
 rw [alG,if_neg h,if_neg h1,if_neg (not_not_intro h2),show max 1 (tN y).toNat=(tN y).toNat by omega]
theorem ze7_ {b:List Int} (h0:acE b=0):8<=tN b/\tN b<=b.length/\(tN b).tmod 8=0:=by
 have hT:tlE b 8 8 514=0:=Classical.byContradiction fun h=>by
  unfold acE at h0;rw [if_pos h] at h0;exact h h0
 unfold tlE at hT
 by_cases h1:b.length < 4
 ·rw [if_pos h1] at hT;cases hT
 ·rw [if_neg h1] at hT
  by_cases h2:tN b < 8\/¬ (tN b).tmod 8=0
  ·rw [if_pos h2] at hT;cases hT
  ·rw [if_neg h2] at hT
   by_cases h3:(b.length:Int) < tN b
   ·rw [if_pos h3] at hT;cases hT
   ·omega
def adE (b:List Int):Int:=if ¬ (alG [] b).2=0 then (alG [] b).2 else if 65528 < b.length then 514 else 0
def adL (b:List Int):List AC:=if adE b=0 then (alG [] b).1 else []
theorem gU_ {b:List Int} {e:Int} (h:(alG [] b).2=e) (h0:¬ e=0):adL b=[]/\adE b=e:=by
 have:adE b=e:=by unfold adE;rw [h,if_pos h0]
 exact ⟨by unfold adL;rw [this,if_neg h0],this⟩
theorem yw_ {b:List Int} {acc:List AC} (h:alG [] b=(acc,0)):(65528 < b.length->adL b=[]/\adE b=514)/\(¬ 65528 < b.length->adL b=acc/\adE b=0):=by
 have e:adE b=if 65528 < b.length then 514 else 0:=by unfold adE;rw [h];rfl
 constructor
 ·intro hl
  rw [if_pos hl] at e
  exact ⟨by unfold adL;rw [e];rfl,e⟩
 ·intro hl
  rw [if_neg hl] at e
  exact ⟨by unfold adL;rw [e,h];rfl,e⟩
def BZ_:IR:=
(sq (kr [0] [oD 1 (.boxv 0),
oD 2 (.mov (.c (.undef)))])
(sq (.reg [oD 3 (.mkfn 213 [] [1]),
oM 2 3])
.ret))
def bH_:List RD:=[.tmp 2 true none]
theorem Bi_:zm_ Tryz.prog Tryz.f198 BZ_ bH_=true:=by kernel_rfl
def Xn_:List AV->List Obj->Option (Prop × AV × List Obj)
 | [.imm (.int .u8) b],[]=>some ((True,.fn 213 [] [.ptr 0 0],[.box [.imm (.int .u8) b]]))
 | _,_=>none
theorem Gi_:zd_ Tryz.prog 198 (RwF Xn_).sum:=by
 refine qa_ Tryz.func198 Bi_ (zc_ _) fun args objs p v o e=>?_
 unfold Xn_ at e
 split at e
 ·rename_i b
  cases e
  refine ⟨rfl,fun hw ho hp=>?_⟩
  change List Int at b
  repeat'(intro t ht;first|(cases t<;>first|(cases ht;done)|(try simp only[zg_]at ht;try(exfalso;first|contradiction|omega)))|((first|refine zb_ ht ?_|refine ht ?_ ?_|refine ht.1 ?_ ?_|refine ht ?_)<;>clear ht))
  all_goals first
   | exact True.intro
   | exact ⟨rfl,rfl⟩
 ·cases e
def gi_:IR:=
(sq (kr [0] [oD 2 (.box [.nils]),
oD 3 (.box [.int .i64 0])])
(sq (.reg [oD 4 (.box [.nils])])
(sq (sq (.reg [oM 7 0,
oC 8 198 [7]])
(.block 0
(.rng 8 [9,10] [0,2,3,4] 213
(sq (kr [2,3,4,9,10] [oD 5 (.box [.int .i64 0,.int .u64 0,.int .u64 0,.int .i64 0,.int .i64 0,.kb false,.int .u64 0,.nils,.nils,.nils]),
oS 10 5 9])
(.reg [oM 6 10]))
(.block 1
(sq (sq (kr [2,3,4,5,6] [oM 11 6,
oB 12 .neq 11 (cI 0)])
(.cond 12
(sq (.reg [oM 13 6,
oN (.store 1 2 (.c (.nils))),
oS 1 3 13])
.ret)
.skip))
(.reg [oL 14 4,
oK 15 10 5,
oD 16 (.sliceAll Y2 1 [(0,10,15)]),
oD 17 (.append Y2 128 14 16),
oS 1 4 17])))
(sq (kr [0,1] [oD 3 (.mov (cI 0))])
(.block 0
(.loop
(sq (sq (kr [0,1,3] [oL 7 1,
oE 8 7,
oB 9 .gtr 8 (cI 0)])
(.cond 9
.skip
(.exit 0)))
(sq (.block 1
(sq (sq (.reg [oM 12 3,
oB 13 .eql 12 (cI 64)])
(.cond 13
(sq (.keep [0]
(.yld [oM 14 0,
oD 15 (.build [.int .i64 0,.int .u64 0,.int .u64 0,.int .i64 0,.int .i64 0,.kb false,.int .u64 0,.imm (.int .u8) [],.imm (.int .u8) [],.imm (.int .u8) []] [])] (some 16) (.t 14) [(.t 15),(.c (.int .i64 520))] [] []))
.ret)
.skip))
(sq (kr [0,1,3] [oL 18 1,
oC 19 214 [18],
oM 17 19,
oX 20 17 0,
oX 21 17 1,
oX 22 17 2,
oD 4 (.box [.int .i64 0,.int .u64 0,.int .u64 0,.int .i64 0,.int .i64 0,.kb false,.int .u64 0,.imm (.int .u8) [],.imm (.int .u8) [],.imm (.int .u8) []]),
oS 10 4 20,
oM 5 21,
oM 6 22])
(sq (sq (.keep [0,1,3,4,5,6]
(.yld [oM 23 0,
oK 24 10 4,
oM 25 6] (some 26) (.t 23) [(.t 24),(.t 25)] [0,1,3,5,6] [oD 27 (.un .not 26),
oM 28 27,
oF 28 29 (.mov 6),
oF 28 30 (.bin .neq 29 (cI 0)),
oP 31 28 cT 30]))
(.cond 31
.ret
.skip))
(kr [0,1,3,5] [oL 32 1,
oM 33 5,
oD 34 (.slice 1 32 (some 33) none none),
oS 1 1 34])))))
(kr [0,1,3] [oM 10 3,
oB 11 .add 10 (cI 1),
oM 3 11])))))))))
(sq (sq (kr [0,2,3,4] [oM 18 0,
oE 19 18,
oB 20 .gtr 19 (cI 65528)])
(.cond 20
(sq (.reg [oN (.store 1 2 (.c (.nils))),
oN (.store 1 3 (cI 514))])
.ret)
.skip))
(sq (.reg [oL 21 4,
oS 1 2 21,
oN (.store 1 3 (cI 0))])
.ret)))))
def Ur_:List RD:=[.cell 2 none true [(some Y2)],.cell 3 none true []]
theorem US_:zm_ Tryz.prog Tryz.f182 gi_ Ur_=true:=by kernel_rfl
def Jd_:List AV->List Obj->Option (Prop × AV)
 | [.imm (.int .u8) b],[]=>some ((b.length<=100000000,.tup [.imm Y2 (adL b),.int .i64 (adE b)]))
 | _,_=>none
theorem VK_:zd_ Tryz.prog 182 (RoF Jd_).sum:=by
 refine zi_ Tryz.func182 US_ (za_ (s:=RoF Kp_) y7_ (za_ (s:=RwF Xn_) Gi_ (zc_ _))) fun args objs p v e=>?_
 unfold Jd_ at e
 split at e
 ·rename_i b
  cases e
  refine ⟨rfl,fun hw ho hp=>?_⟩
  change List Int at b
  clear hw ho
  repeat'(intro t ht;first|(cases t<;>first|(cases ht;done)|(try simp only[zg_]at ht;try(exfalso;first|contradiction|omega)))|((first|refine zb_ ht ?_|refine ht ?_ ?_|refine ht.1 ?_ ?_|refine ht ?_)<;>clear ht))
  all_goals first
   | exact True.intro
   | (refine .inl fun lr ln=>?_)
  repeat'(intro t ht;first|(cases t<;>first|(cases ht;done)|(try simp only[zg_]at ht;try(exfalso;first|contradiction|omega)))|((first|refine zb_ ht ?_|refine ht ?_ ?_|refine ht.1 ?_ ?_|refine ht ?_)<;>clear ht))
  all_goals first
   | exact True.intro
   | (intro r h1 h2;clear h1;refine h2 ⟨[0,1,3],Option (List AC × List Int),(fun a=>match a with | none=>True | some a=>a.1.length<=64/\a.2.length<=b.length/\alG [] b=alG a.1 a.2),(fun a=>match a with | none=>[.yv ln,.ptr 0 0,.int .i64 0] | some a=>[.yv ln,.ptr 0 0,.int .i64 a.1.length]),(fun a=>match a with | none=>[.box [.imm (.int .u8) b],.box [.nils],.box [.int .i64 0],.box [.nils],.lrec lr 0] | some a=>[.box [.imm (.int .u8) a.2],.box [.nils],.box [.int .i64 0],.box [.own 5],.lrec lr 0,.row false Y2 a.1]),(fun a=>match a with | none=>b.length+1 | some a=>a.2.length),⟨none,True.intro,rfl,rfl⟩,?_⟩;clear h2)
  rintro (_ | ⟨acc,y⟩) hJ
  ·clear hJ
   repeat'(intro t ht;first|(cases t<;>first|(cases ht;done)|(try simp only[zg_]at ht;try(exfalso;first|contradiction|omega)))|((first|refine zb_ ht ?_|refine ht ?_ ?_|refine ht.1 ?_ ?_|refine ht ?_)<;>clear ht))
   all_goals (try dsimp only at*)
   all_goals first
    | exact True.intro
    | ((try simp only [zk_,zl_,zj_] at*);omega)
    | exact ⟨rfl,rfl⟩
    | (have hg:=uG_ (acc:=[]) (y:=b) (by omega)
       rw [((yw_ hg).2 (by omega)).1,((yw_ hg).2 (by omega)).2];exact ⟨rfl,rfl⟩)
    | (simp only [zX_,List.length_cons,List.length_nil];constructor<;>omega)
    | (have h0:acE b=0:=by assumption
       obtain ⟨g1,g2,_⟩:=ze7_ h0
       have e1:∀ x,acI b x=x:=fun x=>if_pos h0
       first
        | (rw [e1];constructor<;>omega)
        | (have hm:=zal_ (acc:=[]) (by omega) (by decide) h0 (by omega)
           refine ⟨some ([]++[vA b],b.drop (tN b).toNat),⟨by simp,?_,hm⟩,?_,rfl,?_⟩
           ·dsimp only;rw [List.length_drop];omega
           ·dsimp only;rw [List.length_drop];omega
           ·dsimp only;rw [e1,e1];rfl))
    | (have h0:¬ acE b=0:=by assumption
       have hm:=zam_ (acc:=[]) (by omega) (by decide) h0
       obtain ⟨d1,d2⟩:=gU_ (b:=b) (e:=acE b) (by rw [hm]) h0
       rw [d1,d2];exact ⟨rfl,rfl⟩)
  ·obtain ⟨j1,j2,j3⟩:=hJ
   dsimp only at j1 j2 j3
   repeat'(intro t ht;first|(cases t<;>first|(cases ht;done)|(try simp only[zg_]at ht;try(exfalso;first|contradiction|omega)))|((first|refine zb_ ht ?_|refine ht ?_ ?_|refine ht.1 ?_ ?_|refine ht ?_)<;>clear ht))
   all_goals (try dsimp only at*)
   all_goals first
    | exact True.intro
    | ((try simp only [zk_,zl_,zj_] at*);omega)
    | exact ⟨rfl,rfl⟩
    | (have hg:=uG_ (acc:=acc) (y:=y) (by omega)
       rw [<- j3] at hg
       first
        | (obtain ⟨d1,d2⟩:=(yw_ hg).1 (by omega)
           rw [d1,d2];exact ⟨rfl,rfl⟩)
        | (obtain ⟨d1,d2⟩:=(yw_ hg).2 (by omega)
           rw [d1,d2];exact ⟨rfl,rfl⟩))
    | (simp only [zX_,List.length_cons,List.length_nil];constructor<;>omega)
    | (have hm:=zdp_ (acc:=acc) (y:=y) (by omega) (by omega)
       rw [<- j3] at hm
       obtain ⟨d1,d2⟩:=gU_ (b:=b) (e:=520) (by rw [hm]) (by decide)
       rw [d1,d2];exact ⟨rfl,rfl⟩)
    | (have h0:acE y=0:=by assumption
       obtain ⟨g1,g2,_⟩:=ze7_ h0
       have e1:∀ x,acI y x=x:=fun x=>if_pos h0
       first
        | (rw [e1];constructor<;>omega)
        | (have hm:=zal_ (acc:=acc) (by omega) (by omega) h0 (by omega)
           refine ⟨some (acc++[vA y],y.drop (tN y).toNat),⟨?_,?_,j3.trans hm⟩,?_,?_,?_⟩
           ·simp only [List.length_append,List.length_cons,List.length_nil];omega
           ·dsimp only;rw [List.length_drop];omega
           ·dsimp only;rw [List.length_drop];omega
           ·dsimp only;rw [List.length_append];rfl
           ·dsimp only;rw [e1,e1];rfl))
    | (have h0:¬ acE y=0:=by assumption
       have hm:=zam_ (acc:=acc) (y:=y) (by omega) (by omega) h0
       rw [<- j3] at hm
       obtain ⟨d1,d2⟩:=gU_ (b:=b) (e:=acE y) (by rw [hm]) h0
       rw [d1,d2];exact ⟨rfl,rfl⟩)
 ·cases e
def smA (a b:AC):Bool:=Hc_ a.1 a.2.1 a.2.2.1 a.2.2.2.1.1 a.2.2.2.1.2.1 a.2.2.2.1.2.2.1 a.2.2.2.1.2.2.2.1 a.2.2.2.1.2.2.2.2.1 a.2.2.2.1.2.2.2.2.2.1 a.2.2.2.2.1 b.1 b.2.1 b.2.2.1 b.2.2.2.1.1 b.2.2.2.1.2.1 b.2.2.2.1.2.2.1 b.2.2.2.1.2.2.2.1 b.2.2.2.1.2.2.2.2.1 b.2.2.2.1.2.2.2.2.2.1 b.2.2.2.2.1
theorem zmt_ {a b:AC} (h:smA a b=true):a=b:=by
 obtain ⟨a1,a2,a3,⟨a4,a5,a6,a7,a8,a9,_⟩,a10,_⟩:=a
 obtain ⟨b1,b2,b3,⟨b4,b5,b6,b7,b8,b9,_⟩,b10,_⟩:=b
 unfold smA Hc_ QX_ at h
 simp only [Bool.and_eq_true,decide_eq_true_eq,beq_iff_eq] at h
 obtain ⟨⟨⟨⟨h1,h2⟩,h3⟩,⟨⟨⟨⟨⟨h4,h5⟩,h7⟩,h6⟩,h8⟩,h9⟩⟩,h10⟩:=h
 rw [h1,h2,h3,h4,h5,h6,h7,h8,h9,h10]
theorem zmu_ {a b:AC} (h:smA a b=false):¬ a=b:=fun e=>by
 rw [e] at h;unfold smA at h;rw [zdH_] at h;cases h
def zcz_:IR:=
(sq (kr [0,1] [oD 4 (.mov cF)])
(sq (sq (kr [0,1] [oM 6 0,
oE 7 6,
oM 8 1,
oE 9 8,
oB 10 .neq 7 9])
(.cond 10
(sq (.reg [oD 4 (.mov cF)])
.ret)
.skip))
(sq (sq (kr [0,1] [oD 5 (.mov (cI 0))])
(.block 0
(.loop
(sq (sq (kr [0,1,5] [oM 11 5,
oM 12 0,
oE 13 12,
oB 14 .lss 11 13])
(.cond 14
.skip
(.exit 0)))
(sq (.block 1
(sq (kd [0,1,5] [(oM 17 0,[]),
(oM 18 5,[0]),
(oI 19 10 17 18,[]),
(oK 20 10 19,[]),
(oM 21 1,[0,0,0,0]),
(oM 22 5,[0,0,0,0,0]),
(oI 23 10 21 22,[2,0,0,0]),
(oK 24 10 23,[3,0,0,0]),
(oC 25 111 [20,24],[]),
(oD 26 (.un .not 25),[])])
(.cond 26
(sq (kr [] [oD 4 (.mov cF)])
.ret)
.skip)))
(kr [0,1,5] [oM 15 5,
oB 16 .add 15 (cI 1),
oM 5 16]))))))
(sq (kr [] [oD 4 (.mov cT)])
.ret))))
def za8_:List RD:=[.tmp 4 true none]
theorem zbL_:zm_ Tryz.prog Tryz.f55 zcz_ za8_=true:=by kernel_rfl
def ji_:List AV->List Obj->Option (Prop × AV)
 | [.imm ty0 a,.imm ty1 b],[]=>ZY_ ty0 Y2 a fun a=>ZY_ ty1 Y2 b fun b=>some ((True,.bool (decide ((a:List AC)=b))))
 | _,_=>none
theorem JX_:zd_ Tryz.prog 55 (RoF ji_).sum:=by
 refine zi_ Tryz.func55 zbL_ (za_ (s:=RoF yE_) H0_ (zc_ _)) fun args objs p v e=>?_
 unfold ji_ at e
 split at e
 ·rename_i ty0 a ty1 b
  obtain rfl:=zY_ e
  replace e:=zZ_ e
  obtain rfl:=zY_ e
  replace e:=zZ_ e
  cases e
  refine ⟨rfl,fun hw ho hp=>?_⟩
  change List AC at a
  change List AC at b
  have hl:a.length<=maxLen:=(hw (.imm Y2 a) (by simp)).2
  unfold maxLen at hl
  clear hw ho
  repeat'(intro t ht;first|(cases t<;>first|(cases ht;done)|(try simp only[zg_]at ht))|((first|refine zb_ ht ?_|refine ht ?_ ?_|refine ht.1 ?_ ?_|refine ht ?_)<;>clear ht))
  all_goals first
   | (have hne:a ≠ b:=fun h=>(by assumption:¬ (a.length:Int)=b.length) (by rw [h])
      refine ⟨?_,rfl⟩;rw [decide_eq_false hne];done)
   | (intro r h1 h2;clear h1;refine h2 ⟨[0,1,5],Nat,(fun i=>i<=a.length/\a.take i=b.take i),fun i=>[.imm Y2 a,.imm Y2 b,.int .i64 i],fun _=>[],fun i=>a.length - i,⟨0,⟨Nat.zero_le _,rfl⟩,rfl,rfl⟩,?_⟩;clear h2)
  rintro i ⟨hi,he⟩
  have hl2:a.length=b.length:=by omega
  repeat'(intro t ht;first|(cases t<;>first|(cases ht;done)|(try simp only[zg_]at ht;try(exfalso;first|contradiction|omega)))|((first|refine zb_ ht ?_|refine ht ?_ ?_|refine ht.1 ?_ ?_|refine ht ?_)<;>clear ht))
  all_goals (try generalize (Ty.dflt Y2)=od at*)
  all_goals first
   | exact True.intro
   | ((try simp only [zk_,zl_,zj_] at*);omega)
   | (have e:=Ks_ he (by omega) hl2
      refine ⟨?_,rfl⟩;rw [decide_eq_true e];done)
   | (have hs:smA (a.getD i od) (b.getD i od)=false:=by assumption
      have hne:a ≠ b:=XO_ (d:=od) (i:=i) (zmu_ hs)
      refine ⟨?_,rfl⟩;rw [decide_eq_false hne];done)
   | (have hs:smA (a.getD i od) (b.getD i od)=true:=by assumption
      exact ⟨i+1,⟨by omega,Qe_ he (by omega) hl2 (d:=od) (zmt_ hs)⟩,by (try simp only [zk_,zl_,zj_] at*);omega,rfl,rfl⟩)
 ·cases e
theorem Xw_ {α:Type} {l:List α} {i:Nat} {d:α} (h:i < l.length):l.take i++[l.getD i d]=l.take (i+1):=by
 rw [List.take_succ_eq_append_getElem h,List.getD_eq_getElem?_getD,List.getElem?_eq_getElem h];rfl
end Go.Eng

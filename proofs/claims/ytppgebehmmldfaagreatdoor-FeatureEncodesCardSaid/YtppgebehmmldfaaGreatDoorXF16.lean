/- Parts of the proof: TH, TE, TF, P7, TG, TI, S2, S3, S5. No condition. -/
import Derived.Test.YtppgebehmmldfaaGreatDoorProg
import Derived.Test.YtppgebehmmldfaaGreatDoorXF10
import Derived.KernelRfl
import Derived.Test.YtppgebehmmldfaaGreatDoorXF15
import Derived.Test.YtppgebehmmldfaaGreatDoorXF12
import Derived.Test.YtppgebehmmldfaaGreatDoorXF13
namespace Go.Eng
open Go.Proofs
set_option linter.unusedVariables false
set_option linter.unusedSimpArgs false
set_option maxRecDepth 100000
set_option maxHeartbeats 1000000
set_option maxHeartbeats 8000000
def yI_:IR:=
(sq (kr [0] [oD 2 (.box [.int .u64 0,.str [],.int .u64 0,.int .u64 0,.int .u64 0,.int .u64 0,.nils]),
oD 3 (.mov (cI 0))])
(sq (.reg [oM 11 0,
oC 12 15 [11],
oM 4 12])
(sq (sq (.reg [oM 13 4,
oB 14 .lss 13 (cI 64)])
(.cond 14
(sq (kr [0,2] [oM 15 0,
oC 16 40 [15,(cI 3332)]])
(sq (.reg [oK 17 7 2,
oS 7 2 17,
oD 3 (.mov (cI 0))])
.ret))
.skip))
(sq (kr [0,2,4] [oM 18 0,
oC 19 12 [18,(cI 64)],
oC 20 11 [19,(cI 3332),(cI 3333)],
oM 5 20])
(sq (.reg [oM 21 5,
oC 22 80 [21,(cI 2)],
oD 23 (.conv .i64 22),
oM 6 23])
(sq (sq (kr [0,2,4,5,6] [oM 24 6,
oB 25 .lss 24 (cI 64),
oM 26 25,
oF 26 27 (.mov 6),
oF 26 28 (.bin .rem 27 (cI 8)),
oF 26 29 (.bin .neq 28 (cI 0)),
oP 30 26 cT 29,
oM 31 30,
oF 31 32 (.mov 6),
oF 31 33 (.mov 4),
oF 31 34 (.bin .gtr 32 33),
oP 35 31 cT 34])
(.cond 35
(kr [0,2,5,6] [oM 36 5,
oC 37 40 [36,(cI 3332)]])
.skip))
(sq (kr [0,2,5,6] [oM 38 5,
oC 39 80 [38,(cI 1)],
oA 40 0 2,
oS 1 40 39])
(sq (.reg [oM 41 5,
oD 42 (.sliceAll (.int .i64) 1 [(0,1,(cI (-5)))]),
oC 43 81 [41,42]])
(sq (sq (.reg [oA 44 0 2,
oL 45 44,
oB 46 .gtr 45 (.c (.int .u64 254))])
(.cond 46
(kr [0,2,5,6] [oM 47 5,
oC 48 40 [47,(cI 266)]])
.skip))
(sq (kr [0,2,5,6] [oM 50 5,
oC 51 12 [50,(cI 32)],
oD 52 (.sliceAll (.int .u8) 1 [(0,1,(.c (.int .u8 0)))]),
oC 53 82 [51,52],
oM 49 53,
oX 54 49 0,
oX 55 49 1,
oX 56 49 2,
oM 7 54,
oM 8 55,
oM 9 56])
(sq (sq (kr [0,2,5,6,7,8,9] [oM 57 9,
oD 58 (.un .not 57),
oM 59 58,
oF 59 60 (.mov 7),
oF 59 61 (.b2s 60),
oF 59 62 (.call false (.f 71) [61]),
oF 59 63 (.un .not 62),
oP 64 59 cT 63,
oM 65 64,
oF 65 66 (.mov 8),
oF 65 67 (.call false (.f 83) [66,(.c (.str [0]))]),
oF 65 68 (.len 67),
oF 65 69 (.bin .gtr 68 (cI 0)),
oP 70 65 cT 69])
(.cond 70
(kr [0,2,5,6,7] [oM 71 5,
oC 72 40 [71,(cI 3333)]])
.skip))
(sq (kr [0,2,5,6,7] [oM 73 7,
oD 74 (.b2s 73),
oA 75 1 2,
oS 1 75 74])
(sq (kr [0,2,5,6] [oM 76 5,
oD 77 (.sliceAll (.int .i64) 4 [(0,1,(cI 8)),(1,1,(cI 8)),(2,1,(cI 4)),(3,1,(cI 4))]),
oC 78 81 [76,77],
oD 79 (.sliceAll (.int .u64) 4 [(0,1,(.c (.int .u64 0))),(1,1,(.c (.int .u64 0))),(2,1,(.c (.int .u64 0))),(3,1,(.c (.int .u64 0)))]),
oD 80 (.append (.int .u64) 8 78 79),
oM 10 80])
(sq (kd [0,2,5,6,10] [(oM 81 10,[]),
(oD 82 (.indexSl 1 81 (cI 0)),[]),
(oL 83 82,[]),
(oM 84 10,[0,0,0]),
(oD 85 (.indexSl 1 84 (cI 1)),[1,0,0]),
(oL 86 85,[2,0,0]),
(oM 87 10,[0,0,0,0,0,0]),
(oD 88 (.indexSl 1 87 (cI 2)),[1,0,0,0,0,0]),
(oL 89 88,[2,0,0,0,0,0]),
(oM 90 10,[0,0,0,0,0,0,0,0,0]),
(oD 91 (.indexSl 1 90 (cI 3)),[1,0,0,0,0,0,0,0,0]),
(oL 92 91,[2,0,0,0,0,0,0,0,0]),
(oA 93 2 2,[0,0,0,0,0,0,0,0,0]),
(oS 1 93 83,[1,0,0,0,0,0,0,0,0]),
(oA 94 3 2,[2,0,0,0,0,0]),
(oS 1 94 86,[3,0,0,0,0,0]),
(oA 95 4 2,[4,0,0]),
(oS 1 95 89,[5,0,0]),
(oA 96 5 2,[]),
(oS 1 96 92,[])])
(sq (kr [0,2,5,6] [oM 97 0,
oM 98 5,
oC 99 14 [98],
oC 100 40 [97,99]])
(sq (.reg [oK 101 7 2,
oM 102 6,
oB 103 .sub 102 (cI 64),
oS 7 2 101,
oM 3 103])
.ret))))))))))))))))
def yu_:List RD:=[.cell 2 (some 7) false [],.tmp 3 false none]
theorem yB_:zo_ Tryz.prog Tryz.f63 yI_ yu_=true:=by kernel_rfl
def Kl_:List AV->List Obj->Option (Prop × AV × List Obj)
 | [.ptr 0 0],[.box [.imm (.int .u8) b,.int .i64 p,.int .i64 sh,.int .i64 od,.int .i64 e,.bool true]]=>some ((0<=p/\p<=b.length/\b.length<=100000/\sh ≠ 0/\e=0,.tup [.agg [.int .u64 (hdT b p).1,.str (hdT b p).2.1,.int .u64 (hdT b p).2.2.1,.int .u64 (hdT b p).2.2.2.1,.int .u64 (hdT b p).2.2.2.2.1,.int .u64 (hdT b p).2.2.2.2.2.1,.nils],.int .i64 (hdQ b p)],[.box [.imm (.int .u8) b,.int .i64 (hdP b p),.int .i64 sh,.int .i64 od,.int .i64 (hdE b p),.bool true]]))
 | _,_=>none
theorem x3_:ze_ Tryz.prog 63 (RwF Kl_).sum:=by
 refine ZJ_ Tryz.func63 yB_ (za_ (s:=RoF zO_) z3_ (za_ (s:=RwF zr_) zw_ (za_ (s:=RwF zR_) Zk_ (za_ (s:=RwF qx_) Qo_ (za_ (s:=RwF ZI_) QJ_ (za_ (s:=RwF Z6_) K1_ (za_ (s:=RoF wL_) vC_ (za_ (s:=RoF qY_) Kz_ (za_ (s:=RoF j3_) Yc_ (za_ (s:=RoF zv_) zy_ (zd_ _))))))))))) fun args objs p v o e=>?_
 unfold Kl_ at e
 split at e
 ·rename_i b p sh od e
  cases e
  refine ⟨rfl,fun hw ho hp=>?_⟩
  change List Int at b
  have hb:∀ x ∈ (b:List Int),(0:Int)<=x/\x<=255:=fun x hx=>((ho _ (List.mem_cons_self ..)) (.imm (.int .u8) b) (by simp)).1 x hx
  clear hw ho
  change List Int at b
  obtain ⟨hp0,hp1,hp2,hp3,rfl⟩:=hp
  by_cases hs:(b.length:Int) - p < 64
  ·obtain ⟨s1,s2,s3,s4⟩:=zdw_ (b:=b) (p:=p) hs
   rw [s1,s2,s3,s4]
   repeat'(intro t ht;first|(cases t<;>first|(cases ht;done)|(try simp only[zg_]at ht;try(exfalso;first|contradiction|omega)))|((first|refine zb_ ht ?_|refine ht ?_ ?_|refine ht.1 ?_ ?_|refine ht ?_)<;>clear ht))
   all_goals first
    | exact True.intro
    | exact ⟨hp0,hp1⟩
    | exact ⟨rfl,rfl⟩
    | (exfalso;omega)
  ·obtain ⟨k1,k2,k3⟩:=b64 (sh:=sh) hp0 hs
   have hxl:(zm_ 64 b p sh 0).length=64:=by rw [k2,List.length_take,List.length_drop];omega
   have hxb:∀ z ∈ zm_ 64 b p sh 0,(0:Int)<=z/\z<=255:=fun z hz=>by rw [k2] at hz;exact hb z (List.mem_of_mem_drop (List.mem_of_mem_take hz))
   obtain ⟨c1,c2,c3,c4,c5⟩:=B5_ hxb hxl
   unfold u1N at c1 c2 c3
   have fb:(zl_ (zi_ 2 (zm_ 64 b p sh 0) 0 3332 3333 0) 3332) ≠ 0:=by show zl_ (u1E (zm_ 64 b p sh 0)) 3332 ≠ 0;rw [c5];decide
   have r1:(JA_ 1 (zm_ 64 b p sh 0) (zh_ 2 (zm_ 64 b p sh 0) 0 0) (zl_ (zi_ 2 (zm_ 64 b p sh 0) 0 3332 3333 0) 3332))=0:=za7_ fb
   have r2:¬ ctK (zm_ 32 (zm_ 64 b p sh 0) (Zz_ [-5] (zm_ 64 b p sh 0) (zh_ 1 (zm_ 64 b p sh 0) (zh_ 2 (zm_ 64 b p sh 0) 0 0) (zl_ (zi_ 2 (zm_ 64 b p sh 0) 0 3332 3333 0) 3332)) (zi_ 1 (zm_ 64 b p sh 0) (zh_ 2 (zm_ 64 b p sh 0) 0 0) 3332 3333 (zl_ (zi_ 2 (zm_ 64 b p sh 0) 0 3332 3333 0) 3332))) 3332 (ZC_ [-5] (zm_ 64 b p sh 0) (zh_ 1 (zm_ 64 b p sh 0) (zh_ 2 (zm_ 64 b p sh 0) 0 0) (zl_ (zi_ 2 (zm_ 64 b p sh 0) 0 3332 3333 0) 3332)) 3332 3333 (zi_ 1 (zm_ 64 b p sh 0) (zh_ 2 (zm_ 64 b p sh 0) 0 0) 3332 3333 (zl_ (zi_ 2 (zm_ 64 b p sh 0) 0 3332 3333 0) 3332)))) (([0]:List Int).getD 0 0)=true:=B3_ (Ul_ (h9_ fb))
   have r3:¬ ctK (zm_ 32 (zm_ 64 b p sh 0) (Zz_ [-5] (zm_ 64 b p sh 0) (zh_ 1 (zm_ 64 b p sh 0) (zh_ 2 (zm_ 64 b p sh 0) 0 0) (zi_ 2 (zm_ 64 b p sh 0) 0 3332 3333 0)) (zi_ 1 (zm_ 64 b p sh 0) (zh_ 2 (zm_ 64 b p sh 0) 0 0) 3332 3333 (zi_ 2 (zm_ 64 b p sh 0) 0 3332 3333 0))) 3332 (zl_ (ZC_ [-5] (zm_ 64 b p sh 0) (zh_ 1 (zm_ 64 b p sh 0) (zh_ 2 (zm_ 64 b p sh 0) 0 0) (zi_ 2 (zm_ 64 b p sh 0) 0 3332 3333 0)) 3332 3333 (zi_ 1 (zm_ 64 b p sh 0) (zh_ 2 (zm_ 64 b p sh 0) 0 0) 3332 3333 (zi_ 2 (zm_ 64 b p sh 0) 0 3332 3333 0))) 266)) (([0]:List Int).getD 0 0)=true:=B3_ (by unfold zl_;split;decide;assumption)
   have q0:(0:Int)<=0/\(0:Int)<=(zm_ 64 b p sh 0).length:=⟨Int.le_refl _,by omega⟩
   have q1:=h7_ (w:=2) (e:=0) q0.1 q0.2
   have q2:=fun e=>h7_ (w:=1) (e:=e) q1.1 q1.2
   have q3:=fun e e'=>Hs_ (w:=[-5]) (e:=e') (q2 e).1 (q2 e).2
   have q4:=fun e e' e2=>bI_ (n:=32) (sh:=3332) (e:=e2) (q3 e e').1 (q3 e e').2 (by decide)
   have hxl2:(zm_ 64 b p sh 0).length<=140737488355328:=by omega
   have hyl:=fun p s e=>UE_ (n:=32) (b:=zm_ 64 b p sh 0) (p:=s) (sh:=3332) (e:=e)
   clear hxb hb c4 c5 fb
   repeat'(intro t ht;first|(cases t<;>first|(cases ht;done)|(try simp only[zg_]at ht;try(exfalso;first|contradiction|omega)))|((first|refine zb_ ht ?_|refine ht ?_ ?_|refine ht.1 ?_ ?_|refine ht ?_)<;>clear ht))
   all_goals first
    | exact True.intro
    | exact rfl
    | exact ⟨hp0,hp1⟩
    | exact ⟨hp0,hp1,by omega,hp3⟩
    | exact hxl2
    | exact ⟨q0.1,q0.2,hxl2⟩
    | exact ⟨q1.1,q1.2,hxl2⟩
    | exact ⟨(q2 _).1,(q2 _).2,hxl2⟩
    | exact ⟨(q3 _ _).1,(q3 _ _).2,hxl2,by decide⟩
    | exact ⟨(q4 _ _ _).1,(q4 _ _ _).2,hxl2⟩
    | ((try dsimp only);simp only [zk_];omega)
    | decide
    | exact Nat.le_trans zc3_ (Nat.le_trans (hyl _ _ _) hxl2)
    | (generalize hz:ww_ [8,8,4,4] _ _ _=z
       have hz4:z.length<=4:=by rw [<- hz];exact zbH_ _ _ _ _
       simp only [Ke_,List.length_append,List.length_cons,List.length_nil]
       first | omega | (constructor<;>omega) | (refine ⟨?_,?_,?_⟩<;>omega))
    | skip
   all_goals clear r1 r2 r3 q0 q1 q2 q3 q4 hxl2 hyl
   all_goals obtain ⟨s1,s2,s3,s4⟩:=BH_ (b:=b) (p:=p) hs
   all_goals have hX:hdX b p=zm_ 64 b p sh 0:=k2.symm
   all_goals have hA:hdA b p=(b.length:Int) - p:=rfl
   all_goals rw [hX,hA] at s1 s4
   all_goals rw [hX] at s2
   all_goals rw [s1,s2,s3,s4,k1,k3]
   all_goals clear s1 s2 s3 s4 hX hA k1 k2 k3
   all_goals generalize zm_ 64 b p sh 0=x at*
   all_goals generalize (b.length:Int) - p=A at*
   all_goals first
    | (have h2:u2E x A=(zl_ (zi_ 2 x 0 3332 3333 0) 3332):=(if_pos (zdf_ (by first | exact .inl (by assumption) | exact .inr (.inl (by assumption)) | exact .inr (.inr (by assumption)))))
       obtain ⟨a1,a2,a3⟩:=UD_ h2
       have h5:u5E x A=(ZC_ [-5] x (zh_ 1 x (zh_ 2 x 0 0) (zl_ (zi_ 2 x 0 3332 3333 0) 3332)) 3332 3333 (zi_ 1 x (zh_ 2 x 0 0) 3332 3333 (zl_ (zi_ 2 x 0 3332 3333 0) 3332))):=by unfold u5E;rw [if_neg (by rw [a1];assumption),a3]
       have h6:u6N x A=zm_ 32 x (Zz_ [-5] x (zh_ 1 x (zh_ 2 x 0 0) (zl_ (zi_ 2 x 0 3332 3333 0) 3332)) (zi_ 1 x (zh_ 2 x 0 0) 3332 3333 (zl_ (zi_ 2 x 0 3332 3333 0) 3332))) 3332 (ZC_ [-5] x (zh_ 1 x (zh_ 2 x 0 0) (zl_ (zi_ 2 x 0 3332 3333 0) 3332)) 3332 3333 (zi_ 1 x (zh_ 2 x 0 0) 3332 3333 (zl_ (zi_ 2 x 0 3332 3333 0) 3332))):=by unfold u6N;rw [a2,h5]
       have h7:u7O x A=true:=by unfold u7O;rw [h6];first | (rw [show ctK (zm_ 32 x (Zz_ [-5] x (zh_ 1 x (zh_ 2 x 0 0) (zl_ (zi_ 2 x 0 3332 3333 0) 3332)) (zi_ 1 x (zh_ 2 x 0 0) 3332 3333 (zl_ (zi_ 2 x 0 3332 3333 0) 3332))) 3332 (ZC_ [-5] x (zh_ 1 x (zh_ 2 x 0 0) (zl_ (zi_ 2 x 0 3332 3333 0) 3332)) 3332 3333 (zi_ 1 x (zh_ 2 x 0 0) 3332 3333 (zl_ (zi_ 2 x 0 3332 3333 0) 3332)))) 0=false by assumption];rfl) | (rw [show QL_ (ctB (zm_ 32 x (Zz_ [-5] x (zh_ 1 x (zh_ 2 x 0 0) (zl_ (zi_ 2 x 0 3332 3333 0) 3332)) (zi_ 1 x (zh_ 2 x 0 0) 3332 3333 (zl_ (zi_ 2 x 0 3332 3333 0) 3332))) 3332 (ZC_ [-5] x (zh_ 1 x (zh_ 2 x 0 0) (zl_ (zi_ 2 x 0 3332 3333 0) 3332)) 3332 3333 (zi_ 1 x (zh_ 2 x 0 0) 3332 3333 (zl_ (zi_ 2 x 0 3332 3333 0) 3332)))) 0)=false by assumption];simp) | (rw [show decide (0 < (QI_ (k5_ (ctR (zm_ 32 x (Zz_ [-5] x (zh_ 1 x (zh_ 2 x 0 0) (zl_ (zi_ 2 x 0 3332 3333 0) 3332)) (zi_ 1 x (zh_ 2 x 0 0) 3332 3333 (zl_ (zi_ 2 x 0 3332 3333 0) 3332))) 3332 (ZC_ [-5] x (zh_ 1 x (zh_ 2 x 0 0) (zl_ (zi_ 2 x 0 3332 3333 0) 3332)) 3332 3333 (zi_ 1 x (zh_ 2 x 0 0) 3332 3333 (zl_ (zi_ 2 x 0 3332 3333 0) 3332)))) 0) 0) 0).length)=true from decide_eq_true (by (have c:(0:Int) < ((QI_ (k5_ (ctR (zm_ 32 x (Zz_ [-5] x (zh_ 1 x (zh_ 2 x 0 0) (zl_ (zi_ 2 x 0 3332 3333 0) 3332)) (zi_ 1 x (zh_ 2 x 0 0) 3332 3333 (zl_ (zi_ 2 x 0 3332 3333 0) 3332))) 3332 (ZC_ [-5] x (zh_ 1 x (zh_ 2 x 0 0) (zl_ (zi_ 2 x 0 3332 3333 0) 3332)) 3332 3333 (zi_ 1 x (zh_ 2 x 0 0) 3332 3333 (zl_ (zi_ 2 x 0 3332 3333 0) 3332)))) 0) 0) 0).length:Int):=by assumption);omega)];simp)
       obtain ⟨d1,d2,d3,d4⟩:=Ub_ h2 h5 h7
       rw [d1,d2,d3,d3,d3,d3,d4]
       exact ⟨rfl,rfl⟩)
    | (have h2:u2E x A=(zi_ 2 x 0 3332 3333 0):=(if_neg (by rw [bB_ (by assumption) (by assumption) (by assumption)];decide))
       obtain ⟨a1,a2,a3⟩:=UD_ h2
       have h5:u5E x A=(zl_ (ZC_ [-5] x (zh_ 1 x (zh_ 2 x 0 0) (zi_ 2 x 0 3332 3333 0)) 3332 3333 (zi_ 1 x (zh_ 2 x 0 0) 3332 3333 (zi_ 2 x 0 3332 3333 0))) 266):=by unfold u5E;rw [if_pos (by rw [a1];assumption),a3]
       have h6:u6N x A=zm_ 32 x (Zz_ [-5] x (zh_ 1 x (zh_ 2 x 0 0) (zi_ 2 x 0 3332 3333 0)) (zi_ 1 x (zh_ 2 x 0 0) 3332 3333 (zi_ 2 x 0 3332 3333 0))) 3332 (zl_ (ZC_ [-5] x (zh_ 1 x (zh_ 2 x 0 0) (zi_ 2 x 0 3332 3333 0)) 3332 3333 (zi_ 1 x (zh_ 2 x 0 0) 3332 3333 (zi_ 2 x 0 3332 3333 0))) 266):=by unfold u6N;rw [a2,h5]
       have h7:u7O x A=true:=by unfold u7O;rw [h6];first | (rw [show ctK (zm_ 32 x (Zz_ [-5] x (zh_ 1 x (zh_ 2 x 0 0) (zi_ 2 x 0 3332 3333 0)) (zi_ 1 x (zh_ 2 x 0 0) 3332 3333 (zi_ 2 x 0 3332 3333 0))) 3332 (zl_ (ZC_ [-5] x (zh_ 1 x (zh_ 2 x 0 0) (zi_ 2 x 0 3332 3333 0)) 3332 3333 (zi_ 1 x (zh_ 2 x 0 0) 3332 3333 (zi_ 2 x 0 3332 3333 0))) 266)) 0=false by assumption];rfl) | (rw [show QL_ (ctB (zm_ 32 x (Zz_ [-5] x (zh_ 1 x (zh_ 2 x 0 0) (zi_ 2 x 0 3332 3333 0)) (zi_ 1 x (zh_ 2 x 0 0) 3332 3333 (zi_ 2 x 0 3332 3333 0))) 3332 (zl_ (ZC_ [-5] x (zh_ 1 x (zh_ 2 x 0 0) (zi_ 2 x 0 3332 3333 0)) 3332 3333 (zi_ 1 x (zh_ 2 x 0 0) 3332 3333 (zi_ 2 x 0 3332 3333 0))) 266)) 0)=false by assumption];simp) | (rw [show decide (0 < (QI_ (k5_ (ctR (zm_ 32 x (Zz_ [-5] x (zh_ 1 x (zh_ 2 x 0 0) (zi_ 2 x 0 3332 3333 0)) (zi_ 1 x (zh_ 2 x 0 0) 3332 3333 (zi_ 2 x 0 3332 3333 0))) 3332 (zl_ (ZC_ [-5] x (zh_ 1 x (zh_ 2 x 0 0) (zi_ 2 x 0 3332 3333 0)) 3332 3333 (zi_ 1 x (zh_ 2 x 0 0) 3332 3333 (zi_ 2 x 0 3332 3333 0))) 266)) 0) 0) 0).length)=true from decide_eq_true (by (have c:(0:Int) < ((QI_ (k5_ (ctR (zm_ 32 x (Zz_ [-5] x (zh_ 1 x (zh_ 2 x 0 0) (zi_ 2 x 0 3332 3333 0)) (zi_ 1 x (zh_ 2 x 0 0) 3332 3333 (zi_ 2 x 0 3332 3333 0))) 3332 (zl_ (ZC_ [-5] x (zh_ 1 x (zh_ 2 x 0 0) (zi_ 2 x 0 3332 3333 0)) 3332 3333 (zi_ 1 x (zh_ 2 x 0 0) 3332 3333 (zi_ 2 x 0 3332 3333 0))) 266)) 0) 0) 0).length:Int):=by assumption);omega)];simp)
       obtain ⟨d1,d2,d3,d4⟩:=Ub_ h2 h5 h7
       rw [d1,d2,d3,d3,d3,d3,d4]
       exact ⟨rfl,rfl⟩)
    | (have h2:u2E x A=(zi_ 2 x 0 3332 3333 0):=(if_neg (by rw [bB_ (by assumption) (by assumption) (by assumption)];decide))
       obtain ⟨a1,a2,a3⟩:=UD_ h2
       have h5:u5E x A=(ZC_ [-5] x (zh_ 1 x (zh_ 2 x 0 0) (zi_ 2 x 0 3332 3333 0)) 3332 3333 (zi_ 1 x (zh_ 2 x 0 0) 3332 3333 (zi_ 2 x 0 3332 3333 0))):=by unfold u5E;rw [if_neg (by rw [a1];assumption),a3]
       have h6:u6N x A=zm_ 32 x (Zz_ [-5] x (zh_ 1 x (zh_ 2 x 0 0) (zi_ 2 x 0 3332 3333 0)) (zi_ 1 x (zh_ 2 x 0 0) 3332 3333 (zi_ 2 x 0 3332 3333 0))) 3332 (ZC_ [-5] x (zh_ 1 x (zh_ 2 x 0 0) (zi_ 2 x 0 3332 3333 0)) 3332 3333 (zi_ 1 x (zh_ 2 x 0 0) 3332 3333 (zi_ 2 x 0 3332 3333 0))):=by unfold u6N;rw [a2,h5]
       have h7:u7O x A=true:=by unfold u7O;rw [h6];first | (rw [show ctK (zm_ 32 x (Zz_ [-5] x (zh_ 1 x (zh_ 2 x 0 0) (zi_ 2 x 0 3332 3333 0)) (zi_ 1 x (zh_ 2 x 0 0) 3332 3333 (zi_ 2 x 0 3332 3333 0))) 3332 (ZC_ [-5] x (zh_ 1 x (zh_ 2 x 0 0) (zi_ 2 x 0 3332 3333 0)) 3332 3333 (zi_ 1 x (zh_ 2 x 0 0) 3332 3333 (zi_ 2 x 0 3332 3333 0)))) 0=false by assumption];rfl) | (rw [show QL_ (ctB (zm_ 32 x (Zz_ [-5] x (zh_ 1 x (zh_ 2 x 0 0) (zi_ 2 x 0 3332 3333 0)) (zi_ 1 x (zh_ 2 x 0 0) 3332 3333 (zi_ 2 x 0 3332 3333 0))) 3332 (ZC_ [-5] x (zh_ 1 x (zh_ 2 x 0 0) (zi_ 2 x 0 3332 3333 0)) 3332 3333 (zi_ 1 x (zh_ 2 x 0 0) 3332 3333 (zi_ 2 x 0 3332 3333 0)))) 0)=false by assumption];simp) | (rw [show decide (0 < (QI_ (k5_ (ctR (zm_ 32 x (Zz_ [-5] x (zh_ 1 x (zh_ 2 x 0 0) (zi_ 2 x 0 3332 3333 0)) (zi_ 1 x (zh_ 2 x 0 0) 3332 3333 (zi_ 2 x 0 3332 3333 0))) 3332 (ZC_ [-5] x (zh_ 1 x (zh_ 2 x 0 0) (zi_ 2 x 0 3332 3333 0)) 3332 3333 (zi_ 1 x (zh_ 2 x 0 0) 3332 3333 (zi_ 2 x 0 3332 3333 0)))) 0) 0) 0).length)=true from decide_eq_true (by (have c:(0:Int) < ((QI_ (k5_ (ctR (zm_ 32 x (Zz_ [-5] x (zh_ 1 x (zh_ 2 x 0 0) (zi_ 2 x 0 3332 3333 0)) (zi_ 1 x (zh_ 2 x 0 0) 3332 3333 (zi_ 2 x 0 3332 3333 0))) 3332 (ZC_ [-5] x (zh_ 1 x (zh_ 2 x 0 0) (zi_ 2 x 0 3332 3333 0)) 3332 3333 (zi_ 1 x (zh_ 2 x 0 0) 3332 3333 (zi_ 2 x 0 3332 3333 0)))) 0) 0) 0).length:Int):=by assumption);omega)];simp)
       obtain ⟨d1,d2,d3,d4⟩:=Ub_ h2 h5 h7
       rw [d1,d2,d3,d3,d3,d3,d4]
       exact ⟨rfl,rfl⟩)
    | (have h2:u2E x A=(zi_ 2 x 0 3332 3333 0):=(if_neg (by rw [bB_ (by assumption) (by assumption) (by assumption)];decide))
       obtain ⟨a1,a2,a3⟩:=UD_ h2
       have h5:u5E x A=(ZC_ [-5] x (zh_ 1 x (zh_ 2 x 0 0) (zi_ 2 x 0 3332 3333 0)) 3332 3333 (zi_ 1 x (zh_ 2 x 0 0) 3332 3333 (zi_ 2 x 0 3332 3333 0))):=by unfold u5E;rw [if_neg (by rw [a1];assumption),a3]
       have h6:u6N x A=zm_ 32 x (Zz_ [-5] x (zh_ 1 x (zh_ 2 x 0 0) (zi_ 2 x 0 3332 3333 0)) (zi_ 1 x (zh_ 2 x 0 0) 3332 3333 (zi_ 2 x 0 3332 3333 0))) 3332 (ZC_ [-5] x (zh_ 1 x (zh_ 2 x 0 0) (zi_ 2 x 0 3332 3333 0)) 3332 3333 (zi_ 1 x (zh_ 2 x 0 0) 3332 3333 (zi_ 2 x 0 3332 3333 0))):=by unfold u6N;rw [a2,h5]
       have h9:decide (0 < (QI_ (k5_ (ctR (zm_ 32 x (Zz_ [-5] x (zh_ 1 x (zh_ 2 x 0 0) (zi_ 2 x 0 3332 3333 0)) (zi_ 1 x (zh_ 2 x 0 0) 3332 3333 (zi_ 2 x 0 3332 3333 0))) 3332 (ZC_ [-5] x (zh_ 1 x (zh_ 2 x 0 0) (zi_ 2 x 0 3332 3333 0)) 3332 3333 (zi_ 1 x (zh_ 2 x 0 0) 3332 3333 (zi_ 2 x 0 3332 3333 0)))) 0) 0) 0).length)=false:=decide_eq_false (fun c=>(show ¬ (0:Int) < ((QI_ (k5_ (ctR (zm_ 32 x (Zz_ [-5] x (zh_ 1 x (zh_ 2 x 0 0) (zi_ 2 x 0 3332 3333 0)) (zi_ 1 x (zh_ 2 x 0 0) 3332 3333 (zi_ 2 x 0 3332 3333 0))) 3332 (ZC_ [-5] x (zh_ 1 x (zh_ 2 x 0 0) (zi_ 2 x 0 3332 3333 0)) 3332 3333 (zi_ 1 x (zh_ 2 x 0 0) 3332 3333 (zi_ 2 x 0 3332 3333 0)))) 0) 0) 0).length:Int) by assumption) (by omega))
       have h7:u7O x A=false:=by unfold u7O;rw [h6,h9,show ctK (zm_ 32 x (Zz_ [-5] x (zh_ 1 x (zh_ 2 x 0 0) (zi_ 2 x 0 3332 3333 0)) (zi_ 1 x (zh_ 2 x 0 0) 3332 3333 (zi_ 2 x 0 3332 3333 0))) 3332 (ZC_ [-5] x (zh_ 1 x (zh_ 2 x 0 0) (zi_ 2 x 0 3332 3333 0)) 3332 3333 (zi_ 1 x (zh_ 2 x 0 0) 3332 3333 (zi_ 2 x 0 3332 3333 0)))) 0=true by assumption,show QL_ (ctB (zm_ 32 x (Zz_ [-5] x (zh_ 1 x (zh_ 2 x 0 0) (zi_ 2 x 0 3332 3333 0)) (zi_ 1 x (zh_ 2 x 0 0) 3332 3333 (zi_ 2 x 0 3332 3333 0))) 3332 (ZC_ [-5] x (zh_ 1 x (zh_ 2 x 0 0) (zi_ 2 x 0 3332 3333 0)) 3332 3333 (zi_ 1 x (zh_ 2 x 0 0) 3332 3333 (zi_ 2 x 0 3332 3333 0)))) 0)=true by assumption];rfl
       obtain ⟨d1,d2,d3,d4⟩:=Ub_ h2 h5 h7
       rw [d1,d2,d3,d3,d3,d3,d4]
       exact ⟨rfl,rfl⟩)
 ·cases e
end Go.Eng
namespace Go.Eng
open Go.Proofs
set_option linter.unusedVariables false
set_option linter.unusedSimpArgs false
set_option maxRecDepth 100000
set_option maxHeartbeats 1000000
def ftV (acc:List FV) (y:List Int):FV:=(tT y,ftN ((tyL acc).contains (tT y)) (tT y) (bd y),ftD (tT y) (bd y),())
def ftX (acc:List FV) (y:List Int):Int:=ftE ((tyL acc).contains (tT y)) (tT y) (bd y)
def tlN (y:List Int):Int:=tN y+zr (tN y)
def fsG (acc:List FV) (e:Int) (y:List Int):List FV × Int:=
 if y.length=0 then (acc,e) else if tlK y=0 then fsG (acc++[ftV acc y]) (zl_ e (ftX acc y)) (y.drop (max 1 (tlN y).toNat)) else (acc,zl_ e (tlK y))
termination_by y.length
decreasing_by all_goals (rw [List.length_drop];omega)
theorem Go_ {y:List Int} (h:tlK y=0):4<=tN y/\4<=tlN y/\tlN y<=y.length/\¬ y.length < 4/\qg_ ((y.drop (tN y).toNat).take (zr (tN y)).toNat)=true:=by
 by_cases c1:y.length < 4
 ·rw [zb2_ c1] at h;cases h
 ·by_cases c2:tN y < 4
  ·rw [zb0_ c2] at h;cases h
  ·by_cases c3:(y.length:Int) < tN y+zr (tN y)
   ·rw [zb1_ c3] at h;cases h
   ·have hz:=Gl_ (n:=tN y) (by omega)
    rw [bE_ c1 c2 c3] at h
    unfold tlN
    refine ⟨by omega,by omega,by omega,c1,?_⟩
    by_cases c4:qg_ ((y.drop (tN y).toNat).take (zr (tN y)).toNat)=true
    ·exact c4
    ·rw [if_neg c4] at h;cases h
theorem Uc_ {acc:List FV} {e:Int} {y:List Int} (h:y.length=0):fsG acc e y=(acc,e):=by rw [fsG,if_pos h]
theorem BN_ {acc:List FV} {e:Int} {y:List Int} (h:¬ y.length=0) (h1:¬ tlK y=0):fsG acc e y=(acc,zl_ e (tlK y)):=by rw [fsG,if_neg h,if_neg h1]
theorem BM_ {acc:List FV} {e:Int} {y:List Int} (h1:tlK y=0):fsG acc e y=fsG (acc++[ftV acc y]) (zl_ e (ftX acc y)) (y.drop (tlN y).toNat):=by
 have h:=Go_ h1
 rw [fsG,if_neg (by omega),if_pos h1,show max 1 (tlN y).toNat=(tlN y).toNat by omega]
def xY_ (b:List Int) (p:Int):Int:=if 0 > hdQ b p then 0 else hdQ b p
def Qf_ (b:List Int) (p sh:Int):List Int:=zm_ (xY_ b p) b (hdP b p) sh (hdE b p)
def UA_ (b:List Int) (p sh:Int):Int:=q9_ (xY_ b p) b (hdP b p) sh (hdE b p)
def Wu_ (b:List Int) (p sh:Int):List FV × Int:=fsG [] (Ze_ (xY_ b p) b (hdP b p) sh (hdE b p)) (Qf_ b p sh)
theorem zcS_ {b:List Int} {p:Int} (h0:0<=p) (h1:p<=b.length):0<=hdP b p/\hdP b p<=b.length:=by
 unfold hdP hdA;split<;>omega
theorem bD_ {y:List Int} (h:tlK y=0):tlI y (tT y)=tT y/\tlR y=bd y/\tlI y (tN y+zr (tN y))=tlN y:=⟨(y7_ h _).1,(y7_ h 0).2,(y7_ h _).1⟩
theorem zc6_ {y:List Int}:(bd y).length<=y.length:=by unfold bd;rw [List.length_drop,List.length_take];omega
theorem hP_ (y:List Int):(tlR y).length<=y.length:=by
 unfold tlR;split
 ·exact zc6_
 ·exact Nat.zero_le _
theorem zaC_ (acc:List FV) (f:FV):tyL (acc++[f])=tyL acc++[f.1]:=by unfold tyL;rw [List.map_append];rfl
theorem Hq_ (e:Int):zl_ e 0=e:=by unfold zl_;split<;>simp_all
theorem Hw_ {m:List (Int × Int)} {acc:List FV} (h:cntM m (tyL acc)) (y:List Int):cntM (q4_ m (tT y) ((zt_ m (tT y)).getD 0+1)) (tyL (acc++[ftV acc y])):=by
 rw [zaC_];exact yY_ h
def yG_:IR:=
(sq (kr [0] [oD 2 (.box [.int .u64 0,.str [],.int .u64 0,.int .u64 0,.int .u64 0,.int .u64 0,.nils])])
(sq (kr [0,2] [oM 12 0,
oC 13 63 [12],
oM 11 13,
oX 14 11 0,
oX 15 11 1,
oD 3 (.box [.int .u64 0,.str [],.int .u64 0,.int .u64 0,.int .u64 0,.int .u64 0,.nils]),
oS 7 3 14,
oM 4 15])
(sq (kr [0,2,3,4] [oM 16 0,
oM 17 4,
oD 18 (.minmax true 17 (cI 0)),
oC 19 12 [16,18],
oM 5 19])
(sq (.reg [oD 20 (.mkmap (.int .i64) (.int .i64)),
oM 6 20])
(sq (.block 0
(.loop
(sq (sq (kr [0,2,3,5,6] [oM 21 5,
oE 22 21,
oB 23 .gtr 22 (cI 0)])
(.cond 23
.skip
(.exit 0)))
(.block 1
(sq (kr [0,2,3,5,6] [oC 25 65 [],
oM 26 5,
oC 27 64 [25,26],
oM 24 27,
oX 28 24 0,
oX 29 24 1,
oX 30 24 2,
oD 7 (.box [.int .i64 0,.nils]),
oS 2 7 28,
oM 8 29,
oM 9 30])
(sq (kr [0,2,3,5,6,7,8,9] [oM 31 0,
oM 32 9,
oC 33 40 [31,32]])
(sq (sq (.reg [oM 34 9,
oB 35 .neq 34 (cI 0)])
(.cond 35
(sq (.reg [oK 36 7 3,
oS 7 2 36])
.ret)
.skip))
(sq (kr [0,2,3,5,6,7,8] [oK 38 2 7,
oM 39 6,
oC 40 66 [38,39],
oM 37 40,
oX 41 37 0,
oX 42 37 1,
oD 10 (.box [.int .i64 0,.nils,.nils]),
oS 3 10 41,
oM 9 42])
(sq (kr [0,2,3,5,6,8,9,10] [oM 43 0,
oM 44 9,
oC 45 40 [43,44]])
(sq (kr [0,2,3,5,6,8,10] [oM 46 6,
oA 47 0 10,
oL 48 47,
oD 49 (.mget (.int .i64) (.int .i64) (0:Int) false 46 48),
oB 50 .add 49 (cI 1),
oN (.mput (.int .i64) (.int .i64) 46 48 50)])
(kd [0,2,3,5,6,8,10] [(oA 51 6 3,[]),
(oL 52 51,[]),
(oK 53 3 10,[0,0]),
(oD 54 (.sliceAll (.cons (.int .i64) (.cons (.sl (.int .u64)) (.cons (.sl (.int .u8)) .nil))) 1 [(0,3,53)]),[1,0]),
(oD 55 (.append (.cons (.int .i64) (.cons (.sl (.int .u64)) (.cons (.sl (.int .u8)) .nil))) 56 52 54),[]),
(oM 56 5,[0,0,0,0,0]),
(oM 57 8,[0,0,0,0,0,0]),
(oD 58 (.slice 1 56 (some 57) none none),[2,0,0,0,0]),
(oA 59 6 3,[0,0,0]),
(oS 1 59 55,[1,0,0]),
(oM 5 58,[])])))))))))))
(sq (kr [2,3] [oK 60 7 3,
oS 7 2 60])
.ret))))))
def ys_:List RD:=[.cell 2 (some 7) true [none,none,none,none,none,none,(some (.cons (.int .i64) (.cons (.sl (.int .u64)) (.cons (.sl (.int .u8)) .nil))))]]
theorem yz_:zo_ Tryz.prog Tryz.f39 yG_ ys_=true:=by kernel_rfl
def Kj_:List AV->List Obj->Option (Prop × AV × List Obj)
 | [.ptr 0 0],[.box [.imm (.int .u8) b,.int .i64 p,.int .i64 sh,.int .i64 od,.int .i64 e,.bool true]]=>some ((0<=p/\p<=b.length/\b.length<=100000/\sh ≠ 0/\e=0,.agg [.int .u64 ((hdT b p).1),.str ((hdT b p).2.1),.int .u64 ((hdT b p).2.2.1),.int .u64 ((hdT b p).2.2.2.1),.int .u64 ((hdT b p).2.2.2.2.1),.int .u64 ((hdT b p).2.2.2.2.2.1),.imm (.cons (.int .i64) (.cons (.sl (.int .u64)) (.cons (.sl (.int .u8)) .nil))) ((Wu_ b p sh).1)],[.box [.imm (.int .u8) b,.int .i64 (UA_ b p sh),.int .i64 sh,.int .i64 od,.int .i64 ((Wu_ b p sh).2),.bool true]]))
 | _,_=>none
theorem x1_:ze_ Tryz.prog 39 (RwF Kj_).sum:=by
 refine ZJ_ Tryz.func39 yz_ (za_ (s:=RwF Kl_) x3_ (za_ (s:=RwF zR_) Zk_ (za_ (s:=RoF qX_) Ky_ (za_ (s:=RoF XP_) UF_ (za_ (s:=RwF zr_) zw_ (za_ (s:=RoF Km_) x4_ (zd_ _))))))) fun args objs p v o e=>?_
 unfold Kj_ at e
 split at e
 ·rename_i b p sh od e
  cases e
  refine ⟨rfl,fun hw ho hp=>?_⟩
  change List Int at b
  clear hw ho
  change List Int at b
  obtain ⟨hp0,hp1,hp2,hp3,rfl⟩:=hp
  have hP:=zcS_ hp0 hp1
  have hY:(Qf_ b p sh).length<=b.length:=UE_
  unfold Qf_ xY_ at hY
  repeat'(intro t ht;first|(cases t<;>first|(cases ht;done)|(try simp only[zg_]at ht;try(exfalso;first|contradiction|omega)))|((first|refine zb_ ht ?_|refine ht ?_ ?_|refine ht.1 ?_ ?_|refine ht ?_)<;>clear ht))
  all_goals first
   | exact True.intro
   | exact ⟨hp0,hp1,hp2,hp3,rfl⟩
   | exact ⟨hP.1,hP.2,by omega,hp3⟩
   | (intro r h1 h2;clear h1;refine h2 ⟨[0,2,3,5,6],Option (List FV × List (Int × Int) × List Int × Int),(fun a=>match a with | none=>True | some a=>a.1.length+a.2.2.1.length<=(Qf_ b p sh).length/\cntM a.2.1 (tyL a.1)/\Wu_ b p sh=fsG a.1 a.2.2.2 a.2.2.1),(fun a=>match a with | none=>[.ptr 0 0,.ptr 1 0,.ptr 2 0,.imm (.int .u8) (Qf_ b p sh),.mapv 3] | some a=>[.ptr 0 0,.ptr 1 0,.ptr 2 0,.imm (.int .u8) a.2.2.1,.mapv 3]),(fun a=>match a with | none=>[.box [.imm (.int .u8) b,.int .i64 (UA_ b p sh),.int .i64 sh,.int .i64 od,.int .i64 (Ze_ (xY_ b p) b (hdP b p) sh (hdE b p)),.bool true],.box [.int .u64 0,.str [],.int .u64 0,.int .u64 0,.int .u64 0,.int .u64 0,.nils],.box [.int .u64 (hdT b p).1,.str (hdT b p).2.1,.int .u64 (hdT b p).2.2.1,.int .u64 (hdT b p).2.2.2.1,.int .u64 (hdT b p).2.2.2.2.1,.int .u64 (hdT b p).2.2.2.2.2.1,.nils],.map true (.int .i64) (.int .i64) ([])] | some a=>[.box [.imm (.int .u8) b,.int .i64 (UA_ b p sh),.int .i64 sh,.int .i64 od,.int .i64 a.2.2.2,.bool true],.box [.int .u64 0,.str [],.int .u64 0,.int .u64 0,.int .u64 0,.int .u64 0,.nils],.box [.int .u64 (hdT b p).1,.str (hdT b p).2.1,.int .u64 (hdT b p).2.2.1,.int .u64 (hdT b p).2.2.2.1,.int .u64 (hdT b p).2.2.2.2.1,.int .u64 (hdT b p).2.2.2.2.2.1,.own 4],.map true (.int .i64) (.int .i64) a.2.1,.row false (.cons (.int .i64) (.cons (.sl (.int .u64)) (.cons (.sl (.int .u8)) .nil))) a.1]),(fun a=>match a with | none=>(Qf_ b p sh).length+1 | some a=>a.2.2.1.length),⟨none,True.intro,rfl,rfl⟩,?_⟩;clear h2)
  have hY2:(Qf_ b p sh).length<=b.length:=hY
  have hG:Wu_ b p sh=fsG [] (Ze_ (xY_ b p) b (hdP b p) sh (hdE b p)) (Qf_ b p sh):=rfl
  rintro (_ | ⟨acc,m,y,e⟩) hJ
  ·clear hJ
   have hq:=fun h:tlK (Qf_ b p sh)=0=>bD_ h
   have hk:=fun h:tlK (Qf_ b p sh)=0=>Go_ h
   have hdc:=Um_ (acc:=tyL []) xK_ (tT (Qf_ b p sh))
   have hcr:=fun k=>xK_.r k
   have hcl:(tyL ([]:List FV)).length=([]:List FV).length:=List.length_map ..
   repeat'(intro t ht;first|(cases t<;>first|(cases ht;done)|(try simp only[zg_]at ht;try(exfalso;first|contradiction|omega)))|((first|refine zb_ ht ?_|refine ht ?_ ?_|refine ht.1 ?_ ?_|refine ht ?_)<;>clear ht))
   all_goals first
    | exact True.intro
    | exact ⟨rfl,rfl,rfl,rfl,rfl,by first | omega | (dsimp only;omega)⟩
    | exact Nat.le_trans (hP_ _) (by first | omega | (dsimp only;omega))
    | (have e1:Wu_ b p sh=(([]:List FV),(Ze_ (xY_ b p) b (hdP b p) sh (hdE b p))):=hG.trans (Uc_ (by first | omega | (dsimp only at*;omega)))
       rw [e1];exact ⟨rfl,rfl⟩)
    | (have hx:¬ tlK (Qf_ b p sh)=0:=by assumption
       have e1:Wu_ b p sh=(([]:List FV),zl_ (Ze_ (xY_ b p) b (hdP b p) sh (hdE b p)) (tlK (Qf_ b p sh))):=hG.trans (BN_ (by first | omega | (dsimp only at*;omega)) hx)
       rw [e1];exact ⟨rfl,rfl⟩)
    | skip
   all_goals have hx:tlK (Qf_ b p sh)=0:=by assumption
   all_goals obtain ⟨q1,q2,q3⟩:=hq hx
   all_goals obtain ⟨w1,w2,w3,w4,w5⟩:=hk hx
   all_goals have w6:((Qf_ b p sh).drop (tlN (Qf_ b p sh)).toNat).length=(Qf_ b p sh).length - (tlN (Qf_ b p sh)).toNat:=List.length_drop
   all_goals first
    | (have hc:=hcr (tlI (Qf_ b p sh) (tT (Qf_ b p sh)))
       (try dsimp only)
       exact (show IntKind.i64.min<=(0:Int)+1/\(0:Int)+1<=IntKind.i64.max from by simp only [zk_];omega))
    | (simp only [List.length_cons,List.length_nil];constructor<;>omega)
    | (dsimp only;rw [q3];constructor<;>omega)
    | (rw [q3];constructor<;>omega)
    | (have e1:=hG.trans (BM_ hx)
       refine ⟨some (([]:List FV)++[ftV ([]:List FV) (Qf_ b p sh)],q4_ ([]:List (Int × Int)) (tT (Qf_ b p sh)) ((zt_ ([]:List (Int × Int)) (tT (Qf_ b p sh))).getD 0+1),(Qf_ b p sh).drop (tlN (Qf_ b p sh)).toNat,zl_ (Ze_ (xY_ b p) b (hdP b p) sh (hdE b p)) (ftX ([]:List FV) (Qf_ b p sh))),⟨?_,?_,?_⟩,?_,?_,?_⟩
       ·dsimp only;simp only [List.length_append,List.length_cons,List.length_nil];omega
       ·exact Hw_ xK_ _
       ·exact e1
       ·dsimp only;omega
       ·dsimp only;rw [q3];rfl
       ·dsimp only
        rw [q1,q2,hx,Hq_]
        unfold ftV ftX
        rw [<- hdc];rfl)
  ·obtain ⟨j1,j2,j3⟩:=hJ
   dsimp only at j1 j2 j3
   have hq:=fun h:tlK y=0=>bD_ h
   have hk:=fun h:tlK y=0=>Go_ h
   have hdc:=Um_ j2 (tT y)
   have hcr:=fun k=>j2.r k
   have hcl:(tyL acc).length=acc.length:=List.length_map ..
   repeat'(intro t ht;first|(cases t<;>first|(cases ht;done)|(try simp only[zg_]at ht;try(exfalso;first|contradiction|omega)))|((first|refine zb_ ht ?_|refine ht ?_ ?_|refine ht.1 ?_ ?_|refine ht ?_)<;>clear ht))
   all_goals first
    | exact True.intro
    | exact ⟨rfl,rfl,rfl,rfl,rfl,by first | omega | (dsimp only;omega)⟩
    | exact Nat.le_trans (hP_ _) (by first | omega | (dsimp only;omega))
    | (have e1:Wu_ b p sh=(acc,e):=j3.trans (Uc_ (by first | omega | (dsimp only at*;omega)))
       rw [e1];exact ⟨rfl,rfl⟩)
    | (have hx:¬ tlK y=0:=by assumption
       have e1:Wu_ b p sh=(acc,zl_ e (tlK y)):=j3.trans (BN_ (by first | omega | (dsimp only at*;omega)) hx)
       rw [e1];exact ⟨rfl,rfl⟩)
    | skip
   all_goals have hx:tlK y=0:=by assumption
   all_goals obtain ⟨q1,q2,q3⟩:=hq hx
   all_goals obtain ⟨w1,w2,w3,w4,w5⟩:=hk hx
   all_goals have w6:(y.drop (tlN y).toNat).length=y.length - (tlN y).toNat:=List.length_drop
   all_goals first
    | (have hc:=hcr (tlI y (tT y))
       (try dsimp only)
       exact (show IntKind.i64.min<=(zt_ m (tlI y (tT y))).getD 0+1/\(zt_ m (tlI y (tT y))).getD 0+1<=IntKind.i64.max from by simp only [zk_];omega))
    | (simp only [List.length_cons,List.length_nil];constructor<;>omega)
    | (dsimp only;rw [q3];constructor<;>omega)
    | (rw [q3];constructor<;>omega)
    | (have e1:=j3.trans (BM_ hx)
       refine ⟨some (acc++[ftV acc y],q4_ m (tT y) ((zt_ m (tT y)).getD 0+1),y.drop (tlN y).toNat,zl_ e (ftX acc y)),⟨?_,?_,?_⟩,?_,?_,?_⟩
       ·dsimp only;simp only [List.length_append,List.length_cons,List.length_nil];omega
       ·exact Hw_ j2 _
       ·exact e1
       ·dsimp only;omega
       ·dsimp only;rw [q3];rfl
       ·dsimp only
        rw [q1,q2,hx,Hq_]
        unfold ftV ftX
        rw [<- hdc];rfl)
 ·cases e
def fE (y:List Int):Int:=if (y.length:Int) < 64 then 3332 else u8E (y.take 64) y.length
def fN (y:List Int):Int:=u1N (y.take 64)
def fF (y:List Int):List FV × Int:=fsG [] 0 ((y.take (fN y).toNat).drop 64)
def tbX (y:List Int):Int:=if fE y=0 then (fF y).2 else fE y
def tbS (y:List Int):Int:=if (y.length:Int) < 64 then 0 else if fE y=0 then fN y else 64
def tbV (y:List Int):TV:=(u3V (y.take 64) y.length,ctB (u6N (y.take 64) y.length) 0,uS (y.take 64) y.length 0,uS (y.take 64) y.length 1,uS (y.take 64) y.length 2,uS (y.take 64) y.length 3,(fF y).1,())
theorem zcm_ {x:List Int} {a:Int} (h:u2B x a=true):u8E x a ≠ 0:=by
 have h2:u2E x a ≠ 0:=by unfold u2E;rw [if_pos h];exact Kd_ (by decide)
 have h4:u4E x a ≠ 0:=Ul_ (h9_ h2)
 have h5:u5E x a ≠ 0:=by unfold u5E;split;exact Kd_ (by decide);exact h4
 have h6:u6E x a ≠ 0:=by unfold u6E;rw [y8_ h5];exact h5
 have h7:u7E x a ≠ 0:=by unfold u7E;split;exact Kd_ (by decide);exact h6
 exact Ul_ h7
theorem BX_ {y:List Int} (h:fE y=0):¬ (y.length:Int) < 64/\64<=fN y/\fN y<=y.length/\(fN y).tmod 8=0:=by
 unfold fE at h
 by_cases c:(y.length:Int) < 64
 ·rw [if_pos c] at h;cases h
 ·rw [if_neg c] at h
  have hb:u2B (y.take 64) y.length=false:=by
   cases k:u2B (y.take 64) y.length with
   | false=>rfl
   | true=>exact absurd h (zcm_ k)
  unfold u2B at hb
  rw [Bool.or_eq_false_iff,Bool.or_eq_false_iff,Bool.not_eq_false',decide_eq_false_iff_not,decide_eq_true_eq,decide_eq_false_iff_not] at hb
  unfold fN
  exact ⟨c,by omega,by omega,hb.2.1⟩
theorem zdx_ {b:List Int} {p:Nat} (h:p<=b.length):hdX b p=(b.drop p).take 64/\hdA b p=((b.drop p).length:Int):=by
 unfold hdX hdA
 rw [Int.toNat_natCast,List.length_drop]
 exact ⟨rfl,by omega⟩
theorem zaz_ {b:List Int} {p:Nat} (h:p<=b.length) {sh:Int}:UA_ b p sh=p+tbS (b.drop p)/\(Wu_ b p sh).2=tbX (b.drop p)/\(tbX (b.drop p)=0->(((hdT b p).1,(hdT b p).2.1,(hdT b p).2.2.1,(hdT b p).2.2.2.1,(hdT b p).2.2.2.2.1,(hdT b p).2.2.2.2.2.1,(Wu_ b p sh).1,()):TV)=tbV (b.drop p)/\tbS (b.drop p)=fN (b.drop p)):=by
 obtain ⟨a1,a2⟩:=zdx_ h
 have hl:(b.drop p).length=b.length - p:=List.length_drop
 have eE:hdE b p=fE (b.drop p):=by unfold hdE fE;rw [a1,a2]
 by_cases h0:fE (b.drop p)=0
 ·obtain ⟨c1,c2,c3,c4⟩:=BX_ h0
  have hs:¬ hdA b p < 64:=by rw [a2];exact c1
  obtain ⟨s1,s2,s3,s4⟩:=BH_ hs
  have eW:xY_ b p=fN (b.drop p) - 64:=by
   unfold xY_;rw [s2,a1];show (if 0 > fN (b.drop p) - 64 then _ else fN (b.drop p) - 64)=_
   rw [if_neg (by omega)]
  have e1:Ze_ (xY_ b p) b (hdP b p) sh (hdE b p)=0:=by
   rw [eE,h0,eW,s3];unfold Ze_;rw [if_neg (by omega),if_neg (by omega)]
  have e2:Qf_ b p sh=((b.drop p).take (fN (b.drop p)).toNat).drop 64:=by
   unfold Qf_ zm_;rw [if_pos e1,eW,s3]
   rw [show ((p:Int)+64+(fN (b.drop p) - 64)).toNat=p+(fN (b.drop p)).toNat by omega,show ((p:Int)+64).toNat=p+64 by omega,List.take_drop,List.drop_drop]
  have e3:UA_ b p sh=p+fN (b.drop p):=by
   unfold UA_ q9_;rw [if_pos e1,eW,s3];omega
  have eG:Wu_ b p sh=fF (b.drop p):=by unfold Wu_;rw [e1,e2];rfl
  have t1:tbS (b.drop p)=fN (b.drop p):=by unfold tbS;rw [if_neg c1,if_pos h0]
  have t2:tbX (b.drop p)=(fF (b.drop p)).2:=by unfold tbX;rw [if_pos h0]
  refine ⟨by rw [e3,t1],by rw [eG,t2],fun _=>⟨?_,t1⟩⟩
  rw [s1,eG,a1,a2];rfl
 ·have e1:Ze_ (xY_ b p) b (hdP b p) sh (hdE b p)=fE (b.drop p):=by rw [eE];exact y8_ h0
  have e2:Qf_ b p sh=[]:=by unfold Qf_ zm_;rw [e1,if_neg h0]
  have e3:UA_ b p sh=hdP b p:=by unfold UA_ q9_;rw [e1,if_neg h0]
  have eG:Wu_ b p sh=([],fE (b.drop p)):=by unfold Wu_;rw [e1,e2,Uc_ rfl]
  have t2:tbX (b.drop p)=fE (b.drop p):=by unfold tbX;rw [if_neg h0]
  refine ⟨?_,by rw [eG,t2],fun c=>absurd (t2.symm.trans c) h0⟩
  rw [e3]
  unfold hdP tbS
  rw [a2]
  by_cases c:((b.drop p).length:Int) < 64
  ·rw [if_pos c,if_pos c];omega
  ·rw [if_neg c,if_neg c,if_neg h0]
def fdG (y:List Int):List TV × Int × Int:=gG tbX fN tbS tbV y
def fdL (y:List Int):List TV:=if (fdG y).2.1=0 then (fdG y).1 else []
def fdE (y:List Int):Int:=(fdG y).2.1
theorem zb4_ {y:List Int} (h:tbX y=0):fE y=0/\64<=fN y/\fN y<=y.length:=by
 unfold tbX at h
 split at h
 ·rename_i c;have:=BX_ c;exact ⟨c,this.2.1,this.2.2.1⟩
 ·exact absurd h (by assumption)
theorem hm_ {y:List Int} (h:y.length=0):fdG y=([],0,0):=zcU_ h
theorem zcg_ {y:List Int} (h:¬ y.length=0) (h1:tbX y=0):fdG y=(tbV y :: (fdG (y.drop (fN y).toNat)).1,(fdG (y.drop (fN y).toNat)).2.1,fN y+(fdG (y.drop (fN y).toNat)).2.2):=zdA_ h h1 (by have:=zb4_ h1;omega)
theorem zcY_ {y:List Int} (h:¬ y.length=0) (h1:¬ tbX y=0):fdG y=([],tbX y,tbS y):=zcV_ h h1
theorem zcp_ {y:List Int}:0<=tbS y/\tbS y<=y.length:=by
 unfold tbS
 by_cases c:(y.length:Int) < 64
 ·rw [if_pos c];omega
 ·rw [if_neg c]
  by_cases c2:fE y=0
  ·have:=BX_ c2;rw [if_pos c2];omega
  ·rw [if_neg c2];omega
def yL_:IR:=
(sq (kr [0] [oD 2 (.nilrow YA)])
(sq (.reg [oM 4 0,
oC 5 15 [4],
oM 3 5])
(sq (.block 0
(.loop
(sq (sq (kr [0,2,3] [oM 6 0,
oC 7 14 [6],
oB 8 .eql 7 (cI 0),
oM 9 8,
oT 9 10 (.mov 0),
oT 9 11 (.call false (.f 15) [10]),
oT 9 12 (.bin .gtr 11 (cI 0)),
oP 13 9 12 cF])
(.cond 13
.skip
(.exit 0)))
(.block 1
(kr [0,2,3] [oM 14 2,
oM 15 0,
oC 16 39 [15],
oD 17 (.sliceAll YA 1 [(0,7,16)]),
oD 18 (.append YA 80 14 17),
oM 2 18])))))
(sq (sq (kr [0,2,3] [oM 19 3,
oB 20 .gtr 19 (cI 65528)])
(.cond 20
(.reg [oM 21 0,
oC 22 40 [21,(cI 3332)]])
.skip))
(sq (sq (.reg [oM 23 0,
oC 24 14 [23],
oB 25 .neq 24 (cI 0)])
(.cond 25
(sq (kr [] [oD 2 (.nilrow YA)])
.ret)
.skip))
(sq (kr [2] [oM 26 2,
oM 2 26])
.ret))))))
def yx_:List RD:=[.tmp 2 true (some YA)]
theorem yE_:zo_ Tryz.prog Tryz.f13 yL_ yx_=true:=by kernel_rfl
def Kn_:List AV->List Obj->Option (Prop × AV × List Obj)
 | [.ptr 0 0],[.box [.imm (.int .u8) b,.int .i64 p,.int .i64 sh,.int .i64 od,.int .i64 e,.bool true]]=>some ((0<=p/\p<=b.length/\b.length<=60000/\sh ≠ 0/\e=0,.imm YA (fdL (b.drop p.toNat)),[.box [.imm (.int .u8) b,.int .i64 (p+(fdG (b.drop p.toNat)).2.2),.int .i64 sh,.int .i64 od,.int .i64 (fdE (b.drop p.toNat)),.bool true]]))
 | _,_=>none
theorem x5_:ze_ Tryz.prog 13 (RwF Kn_).sum:=by
 refine ZJ_ Tryz.func13 yE_ (za_ (s:=RoF zO_) z3_ (za_ (s:=RoF zv_) zy_ (za_ (s:=RwF Kj_) x1_ (za_ (s:=RwF zr_) zw_ (zd_ _))))) fun args objs p v o e=>?_
 unfold Kn_ at e
 split at e
 ·rename_i b p sh od e
  cases e
  refine ⟨rfl,fun hw ho hp=>?_⟩
  change List Int at b
  clear hw ho
  change List Int at b
  obtain ⟨hp0,hp1,hp2,hp3,rfl⟩:=hp
  obtain ⟨p,rfl⟩:=Int.eq_ofNat_of_zero_le hp0
  rw [Int.toNat_natCast]
  repeat'(intro t ht;first|(cases t<;>first|(cases ht;done)|(try simp only[zg_]at ht;try(exfalso;first|contradiction|omega)))|((first|refine zb_ ht ?_|refine ht ?_ ?_|refine ht.1 ?_ ?_|refine ht ?_)<;>clear ht))
  all_goals first
   | exact True.intro
   | exact ⟨hp0,hp1⟩
   | (intro r h1 h2;clear h1;refine h2 ⟨[0,2,3],Nat × Int × List TV,(fun a=>a.1<=b.length/\a.2.2.length<=a.1+1/\((a.2.1=0/\a.2.2.length<=a.1/\(fdG (b.drop p)).1=a.2.2++(fdG (b.drop a.1)).1/\(fdG (b.drop p)).2.1=(fdG (b.drop a.1)).2.1/\p+(fdG (b.drop p)).2.2=a.1+(fdG (b.drop a.1)).2.2)\/(a.2.1 ≠ 0/\(fdG (b.drop p)).2.1=a.2.1/\p+(fdG (b.drop p)).2.2=a.1))),fun a=>[.ptr 0 0,.own 1,.int .i64 (b.length - p)],fun a=>[.box [.imm (.int .u8) b,.int .i64 a.1,.int .i64 sh,.int .i64 od,.int .i64 a.2.1,.bool true],.row false YA a.2.2],fun a=>if a.2.1=0 then b.length - a.1+1 else 0,⟨(p,0,[]),⟨by omega,by simp,.inl ⟨rfl,by simp,rfl,rfl,rfl⟩⟩,rfl,rfl⟩,?_⟩;clear h2)
  rintro ⟨q,e,acc⟩ ⟨hq,hl,hJ⟩
  dsimp only at hq hl hJ
  have hxl:=zaz_ hq (sh:=sh)
  have hsl:=zcp_ (y:=b.drop q)
  have hdl:(b.drop q).length=b.length - q:=List.length_drop
  repeat'(intro t ht;first|(cases t<;>first|(cases ht;done)|(try simp only[zg_]at ht;try(exfalso;first|contradiction|omega)))|((first|refine zb_ ht ?_|refine ht ?_ ?_|refine ht.1 ?_ ?_|refine ht ?_)<;>clear ht))
  all_goals (try dsimp only)
  all_goals first
   | exact ⟨Int.natCast_nonneg _,by omega⟩
   | exact ⟨Int.natCast_nonneg _,by omega,by omega,hp3,by assumption⟩
   | (simp only [List.length_cons,List.length_nil];constructor<;>omega)
   | (have h0:¬ e=0:=by assumption
      rcases hJ with hJ | ⟨_,j2,j3⟩
      ·exact absurd hJ.1 h0
      ·have d1:fdL (b.drop p)=[]:=by unfold fdL;rw [j2,if_neg h0]
       have d2:fdE (b.drop p)=e:=j2
       rw [d1,d2,j3];exact ⟨rfl,rfl⟩)
   | skip
  all_goals have h0:e=0:=by assumption
  all_goals subst h0
  all_goals rcases hJ with ⟨_,j1,j2,j3,j4⟩ | hJ
  all_goals first
   | exact absurd rfl hJ.1
   | (have hn:(b.drop q).length=0:=by omega
      rw [hm_ hn] at j2 j3 j4
      have d1:fdL (b.drop p)=acc:=by unfold fdL;rw [j3,j2,if_pos rfl,List.append_nil]
      have d2:fdE (b.drop p)=0:=j3
      dsimp only at j4
      rw [d1,d2,j4,Int.add_zero];exact ⟨rfl,rfl⟩)
   | skip
  all_goals have hn:¬ (b.drop q).length=0:=by omega
  all_goals obtain ⟨k1,k2,k3⟩:=hxl
  all_goals by_cases hx:tbX (b.drop q)=0
  all_goals first
   | (obtain ⟨k4,k5⟩:=k3 hx
      have k6:=zb4_ hx
      rw [zcg_ hn hx] at j2 j3 j4
      rw [List.drop_drop] at j2 j3 j4
      refine ⟨(q+(fN (b.drop q)).toNat,tbX (b.drop q),acc++[tbV (b.drop q)]),⟨?_,?_,.inl ⟨hx,?_,?_,j3,?_⟩⟩,?_,rfl,?_⟩
      ·dsimp only;omega
      ·simp only [List.length_append,List.length_cons,List.length_nil];omega
      ·simp only [List.length_append,List.length_cons,List.length_nil];omega
      ·dsimp only;rw [j2,List.append_assoc];rfl
      ·dsimp only at j4 ⊢;omega
      ·dsimp only;rw [if_pos hx,if_pos rfl];omega
      ·dsimp only
       rw [k1,k2,k5,<- k4,show ((q:Int)+fN (b.drop q))=((q+(fN (b.drop q)).toNat:Nat):Int) by omega])
   | (rw [zcY_ hn hx] at j2 j3 j4
      refine ⟨(q+(tbS (b.drop q)).toNat,tbX (b.drop q),acc++[((hdT b q).1,(hdT b q).2.1,(hdT b q).2.2.1,(hdT b q).2.2.2.1,(hdT b q).2.2.2.2.1,(hdT b q).2.2.2.2.2.1,(Wu_ b q sh).1,())]),⟨?_,?_,.inr ⟨hx,j3,?_⟩⟩,?_,rfl,?_⟩
      ·dsimp only;omega
      ·simp only [List.length_append,List.length_cons,List.length_nil];omega
      ·dsimp only at j4 ⊢;omega
      ·dsimp only;rw [if_neg hx,if_pos rfl];omega
      ·dsimp only
       rw [k1,k2,show ((q:Int)+tbS (b.drop q))=((q+(tbS (b.drop q)).toNat:Nat):Int) by omega])
 ·cases e
def xC_:IR:=
(sq (kr [0] [oD 2 (.mov (.c (.imm YA []))),
oD 3 (.mov (cI 0))])
(sq (.reg [oM 6 0,
oC 7 11 [6,(cI 3332),(cI 3332)],
oM 4 7])
(sq (.reg [oM 8 4,
oC 9 13 [8],
oM 5 9])
(sq (kr [4,5] [oM 10 5,
oM 11 4,
oC 12 14 [11],
oM 2 10,
oM 3 12])
.ret))))
def xk_:List RD:=[.tmp 2 true (some YA),.tmp 3 true none]
theorem xs_:zo_ Tryz.prog Tryz.f8 xC_ xk_=true:=by kernel_rfl
def Q5_:List AV->List Obj->Option (Prop × AV)
 | [.imm (.int .u8) b],[]=>some ((b.length<=60000,.tup [.imm YA (fdL b),.int .i64 (fdE b)]))
 | _,_=>none
theorem Wy_:ze_ Tryz.prog 8 (RoF Q5_).sum:=by
 refine zs_ Tryz.func8 xs_ (za_ (s:=RwF qx_) Qo_ (za_ (s:=RwF Kn_) x5_ (za_ (s:=RoF zv_) zy_ (zd_ _)))) fun args objs p v e=>?_
 unfold Q5_ at e
 split at e
 ·rename_i b
  cases e
  refine ⟨rfl,fun hw ho hp=>?_⟩
  change List Int at b
  clear hw ho
  repeat'(intro t ht;first|(cases t<;>first|(cases ht;done)|(try simp only[zg_]at ht;try(exfalso;first|contradiction|omega)))|((first|refine zb_ ht ?_|refine ht ?_ ?_|refine ht.1 ?_ ?_|refine ht ?_)<;>clear ht))
  all_goals first
   | exact True.intro
   | omega
   | ((try simp only [zF_,zG_,zk_] at*);omega)
   | exact ⟨by decide,Int.natCast_nonneg _,hp,by decide,rfl⟩
   | exact ⟨rfl,rfl⟩
 ·cases e
def z1 (y:List Int):Bool:=qg_ ((y.drop 4).take 4) && qg_ ((y.drop 14).take 2)
theorem zdj_ {y:List Int} (h:fE y=0):tbX y=(fF y).2:=by unfold tbX;rw [if_pos h]
structure SrX where
 r:List Int
structure SrM where
 r:List Int
 m:Nat
structure SrF where
 r:List Int
 m:Nat
 f:Bool
structure SrI where
 s:Int
structure SrP where
 j:Int
 h:Int
 s:Int
theorem kC_.mono {l:List Int} {a b c:Nat} (h:kC_ l a b) (hc:c<=b):kC_ l a c:=fun i j h1 h2 h3=>h i j h1 h2 (by omega)
def XA_:IR:=
(sq (kr [0] [oD 2 (.mov cF)])
(sq (.reg [oM 3 0,
oM 4 0,
oB 5 .neq 3 4,
oM 2 5])
.ret))
def Xe_:List RD:=[.tmp 2 true none]
theorem Xo_:zo_ Tryz.prog Tryz.f122 XA_ Xe_=true:=by kernel_rfl
def kF_:List AV->List Obj->Option (Prop × AV)
 | [.int .i64 x],[]=>some ((True,.bool false))
 | _,_=>none
theorem xg_:ze_ Tryz.prog 122 (RoF kF_).sum:=by
 refine zs_ Tryz.func122 Xo_ (zd_ _) fun args objs p v e=>?_
 unfold kF_ at e
 split at e
 ·rename_i x
  cases e
  refine ⟨rfl,fun hw ho hp=>?_⟩
  repeat'(intro t ht;first|(cases t<;>first|(cases ht;done)|(try simp only[zg_]at ht;try(exfalso;first|contradiction|omega)))|((first|refine zb_ ht ?_|refine ht ?_ ?_|refine ht.1 ?_ ?_|refine ht ?_)<;>clear ht))
  all_goals first
   | exact True.intro
   | exact ⟨rfl,rfl⟩
   | (refine ⟨congrArg AV.bool ?_,rfl⟩;simp;done)
 ·cases e
def yM_:IR:=
(sq (kr [0,1] [oD 4 (.mov cF)])
(sq (kr [0,1] [oM 5 0,
oC 6 122 [5],
oM 7 6,
oT 7 8 (.mov 1),
oT 7 9 (.call false (.f 122) [8]),
oT 7 10 (.un .not 9),
oP 11 7 10 cF,
oM 12 11,
oF 12 13 (.mov 0),
oF 12 14 (.mov 1),
oF 12 15 (.bin .lss 13 14),
oP 16 12 cT 15,
oM 4 16])
.ret))
def yy_:List RD:=[.tmp 4 true none]
theorem yF_:zo_ Tryz.prog Tryz.f95 yM_ yy_=true:=by kernel_rfl
def z7_:List AV->List Obj->Option (Prop × AV)
 | [.int .i64 x,.int .i64 y],[]=>some ((True,.bool (decide (x < y))))
 | _,_=>none
theorem Zc_:ze_ Tryz.prog 95 (RoF z7_).sum:=by
 refine zs_ Tryz.func95 yF_ (za_ (s:=RoF kF_) xg_ (zd_ _)) fun args objs p v e=>?_
 unfold z7_ at e
 split at e
 ·rename_i x y
  cases e
  refine ⟨rfl,fun hw ho hp=>?_⟩
  repeat'(intro t ht;first|(cases t<;>first|(cases ht;done)|(try simp only[zg_]at ht;try(exfalso;first|contradiction|omega)))|((first|refine zb_ ht ?_|refine ht ?_ ?_|refine ht.1 ?_ ?_|refine ht ?_)<;>clear ht))
  all_goals first
   | exact True.intro
   | exact ⟨rfl,rfl⟩
 ·cases e
def q5_:IR:=
(sq (kr [0,1,2] [oM 8 1,
oB 9 .add 8 (cI 1),
oM 6 9])
(.block 0
(.loop
(sq (sq (kr [0,1,2,6] [oM 10 6,
oM 11 2,
oB 12 .lss 10 11])
(.cond 12
.skip
(.exit 0)))
(sq (.block 1
(sq (.reg [oM 15 6,
oM 7 15])
(.block 2
(.loop
(sq (sq (kd [0,1,2,6,7] [(oM 16 7,[]),
(oM 17 1,[0]),
(oB 18 .gtr 16 17,[]),
(oM 19 18,[]),
(oT 19 20 (.mov 0),[]),
(oT 19 21 (.mov 7),[0]),
(oT 19 22 (.indexSl 1 20 21),[]),
(oT 19 23 (.load none 22),[]),
(oT 19 24 (.mov 0),[0,0,0,0]),
(oT 19 25 (.mov 7),[0,0,0,0,0]),
(oT 19 26 (.bin .sub 25 (cI 1)),[1,0,0,0,0]),
(oT 19 27 (.indexSl 1 24 26),[3,0,0,0]),
(oT 19 28 (.load none 27),[4,0,0,0]),
(oT 19 29 (.call false (.f 95) [23,28]),[]),
(oP 30 19 29 cF,[])])
(.cond 30
.skip
(.exit 2)))
(sq (.block 3
(kd [0,1,2,6,7] [(oM 33 0,[]),
(oM 34 7,[0]),
(oM 35 0,[0,0]),
(oM 36 7,[0,0,0]),
(oB 37 .sub 36 (cI 1),[1,0,0]),
(oM 38 0,[0,0,0,0,0]),
(oM 39 7,[0,0,0,0,0,0]),
(oB 40 .sub 39 (cI 1),[1,0,0,0,0,0]),
(oI 41 1 38 40,[3,0,0,0,0]),
(oL 42 41,[4,0,0,0,0]),
(oM 43 0,[0,0,0,0,0,0,0,0,0,0]),
(oM 44 7,[0,0,0,0,0,0,0,0,0,0,0]),
(oI 45 1 43 44,[2,0,0,0,0,0,0,0,0,0]),
(oL 46 45,[3,0,0,0,0,0,0,0,0,0]),
(oI 47 1 33 34,[9,0,0]),
(oS 1 47 42,[10,0,0]),
(oI 48 1 35 37,[]),
(oS 1 48 46,[])]))
(kr [0,1,2,6,7] [oM 31 7,
oB 32 .sub 31 (cI 1),
oM 7 32])))))))
(kr [0,1,2,6] [oM 13 6,
oB 14 .add 13 (cI 1),
oM 6 14]))))))
def q0_:List RD:=[]
theorem q2_:zo_ Tryz.prog Tryz.f89 q5_ q0_=true:=by kernel_rfl
def z0_:List AV->List Obj->Option (Prop × AV × List Obj)
 | [.own 0,.int .i64 a,.int .i64 b],[.row false (.int .i64) l]=>some ((0<=a/\a<=b/\b<=l.length/\l.length<=1000000,.tup [],[.row false (.int .i64) (srt l a.toNat b.toNat)]))
 | _,_=>none
theorem qH_:ze_ Tryz.prog 89 (RwF z0_).sum:=by
 refine ZJ_ Tryz.func89 q2_ (za_ (s:=RoF z7_) Zc_ (zd_ _)) fun args objs p v o e=>?_
 unfold z0_ at e
 split at e
 ·rename_i a b l
  cases e
  refine ⟨rfl,fun hw ho hp=>?_⟩
  change List Int at l
  clear hw ho
  change List Int at l
  obtain ⟨h1,h2,h3,h4⟩:=hp
  obtain ⟨a,rfl⟩:=Int.eq_ofNat_of_zero_le h1
  obtain ⟨b,rfl⟩:=Int.eq_ofNat_of_zero_le (show 0<=b by omega)
  rw [Int.toNat_natCast,Int.toNat_natCast]
  have hab:a<=b:=by omega
  have hbl:b<=l.length:=by omega
  repeat'(intro t ht;first|(cases t<;>first|(cases ht;done)|(try simp only[zg_]at ht;try(exfalso;first|contradiction|omega)))|((first|refine zb_ ht ?_|refine ht ?_ ?_|refine ht.1 ?_ ?_|refine ht ?_)<;>clear ht))
  all_goals first
   | exact True.intro
   | omega
   | ((try simp only [zF_,zG_,zk_] at*);omega)
   | (intro r h1 h2;clear h1;refine h2 ⟨[0,1,2,6],Nat × List Int,(fun s=>a+1<=s.1/\(s.1<=b\/s.1=a+1)/\Rear l a b s.2/\kC_ s.2 a s.1),fun s=>[.own 0,.int .i64 a,.int .i64 b,.int .i64 s.1],fun s=>[.row false (.int .i64) s.2],fun s=>b+1 - s.1,⟨(a+1,l),⟨Nat.le_refl _,.inr rfl,Rear.refl _ _ _,fun p q _ _ _=>by omega⟩,rfl,rfl⟩,?_⟩;clear h2)
  rintro ⟨i,u⟩ ⟨hi1,hi2,hR,hS⟩
  dsimp only at hi1 hi2 hR hS
  have hl:=hR.len
  repeat'(intro t ht;first|(cases t<;>first|(cases ht;done)|(try simp only[zg_]at ht;try(exfalso;first|contradiction|omega)))|((first|refine zb_ ht ?_|refine ht ?_ ?_|refine ht.1 ?_ ?_|refine ht ?_)<;>clear ht))
  all_goals first
   | exact True.intro
   | omega
   | ((try simp only [zF_,zG_,zk_] at*);omega)
   | (intro r h1 h2;clear h1;refine h2 ⟨[0,1,2,6,7],Nat × List Int,(fun s=>InsJ l s.2 a b i s.1),fun s=>[.own 0,.int .i64 a,.int .i64 b,.int .i64 i,.int .i64 s.1],fun s=>[.row false (.int .i64) s.2],fun s=>s.1,⟨(i,u),Vu_ hR hS (by omega) (by omega),rfl,rfl⟩,?_⟩;clear h2)
   | (have hge:b<=i:=by omega
      have e:=Wx_ hab hbl hR (hS.mono hge)
      rw [e];exact ⟨rfl,rfl⟩)
  rintro ⟨j,q⟩ hJ
  dsimp only at hJ
  have hq:=hJ.R.len
  have hj1:=hJ.aj
  have hj2:=hJ.ji
  have hj3:=hJ.ib
  have e0:((j:Int)).toNat=j:=Int.toNat_natCast j
  have e1:((j:Int) - 1).toNat=j - 1:=by omega
  repeat'(intro t ht;first|(cases t<;>first|(cases ht;done)|(try simp only[zg_]at ht;try(exfalso;first|contradiction|omega)))|((first|refine zb_ ht ?_|refine ht ?_ ?_|refine ht.1 ?_ ?_|refine ht ?_)<;>clear ht))
  all_goals (try simp only [e0,e1] at*)
  all_goals first
   | exact True.intro
   | omega
   | ((try simp only [zF_,zG_,zk_] at*);omega)
   | (constructor<;>omega)
   | (rw [List.length_set];omega)
   | (refine ⟨(j - 1,_),gD_ hbl hJ (by omega) (by assumption),?_,?_,?_⟩
      ·dsimp only;omega
      ·rw [show ((j - 1:Nat):Int)=(j:Int) - 1 by omega]
      ·rfl)
   | (have hs:=YQ_ hJ (by first | exact .inr (by assumption) | exact .inl (by omega))
      refine ⟨(i+1,q),⟨?_,?_,hJ.R,hs⟩,?_,?_,?_⟩
      ·dsimp only;omega
      ·dsimp only;omega
      ·dsimp only;omega
      ·rfl
      ·rfl)
 ·cases e
theorem hm_1 {u:List Int} {f hi x:Nat} (h:¬ 2*x+2 < hi\/¬ u.getD (f+(2*x+1)) 0 < u.getD (f+(2*x+2)) 0):∀ c,(c=2*x+1\/c=2*x+2)->c < hi->u.getD (f+c) 0<=u.getD (f+(2*x+1)) 0:=fun c hc hlt=>by
 rcases hc with rfl | rfl
 ·exact Int.le_refl _
 ·rcases h with h | h
  ·omega
  ·omega
theorem hm_2 {u:List Int} {f hi x:Nat} (h:u.getD (f+(2*x+1)) 0 < u.getD (f+(2*x+2)) 0):∀ c,(c=2*x+1\/c=2*x+2)->c < hi->u.getD (f+c) 0<=u.getD (f+(2*x+2)) 0:=fun c hc hlt=>by
 rcases hc with rfl | rfl
 ·omega
 ·exact Int.le_refl _
theorem zbt_ {u:List Int} {a i:Nat} (hb:a+i < u.length) (h:Hp u a 0 (i+1)):Hp (swp u a (a+i)) a 1 i:=fun j c h1 h2 h3=>by
 have g:=kO_ u (i:=a) (j:=a+i) (by omega) hb
 rw [g (a+c),g (a+j),if_neg (by omega),if_neg (by omega),if_neg (by omega),if_neg (by omega)]
 exact h j c (by omega) h2 (by omega)
theorem GG_ {l u:List Int} {a b k:Nat} (hR:Rear l a b u) (hH:Hp u a k (b - a)) (hk:k=0) (hab:a<=b):PopJ l u a b (b - a):=by subst hk;exact HP_ hR hH hab
theorem zcT_ (n:Nat):((n:Int) - 1).tdiv 2=(((n - 1) / 2+1:Nat):Int) - 1:=by
 cases n with
 | zero=>rfl
 | succ m=>rw [Int.tdiv_eq_ediv_of_nonneg (by omega)];omega
def km_:IR:=
(sq (kr [0,1,2,3] [oM 10 1,
oM 8 10])
(.block 0
(.loop
(.block 1
(sq (kr [0,2,3,8] [oM 11 8,
oB 12 .mul (cI 2) 11,
oB 13 .add 12 (cI 1),
oM 9 13])
(sq (sq (.reg [oM 14 9,
oM 15 2,
oB 16 .geq 14 15])
(.cond 16
(.exit 0)
.skip))
(sq (sq (kd [0,2,3,8,9] [(oM 17 9,[]),
(oB 18 .add 17 (cI 1),[]),
(oM 19 2,[0,0]),
(oB 20 .lss 18 19,[]),
(oM 21 20,[]),
(oT 21 22 (.mov 0),[]),
(oT 21 23 (.mov 3),[0]),
(oT 21 24 (.mov 9),[0,0]),
(oT 21 25 (.bin .add 23 24),[2]),
(oT 21 26 (.indexSl 1 22 25),[]),
(oT 21 27 (.load none 26),[]),
(oT 21 28 (.mov 0),[0,0,0,0,0,0]),
(oT 21 29 (.mov 3),[0,0,0,0,0,0,0]),
(oT 21 30 (.mov 9),[0,0,0,0,0,0,0,0]),
(oT 21 31 (.bin .add 29 30),[2,0,0,0,0,0,0]),
(oT 21 32 (.bin .add 31 (cI 1)),[3,0,0,0,0,0,0]),
(oT 21 33 (.indexSl 1 28 32),[5,0,0,0,0,0]),
(oT 21 34 (.load none 33),[6,0,0,0,0,0]),
(oT 21 35 (.call false (.f 95) [27,34]),[]),
(oP 36 21 35 cF,[])])
(.cond 36
(kr [0,2,3,8,9] [oM 37 9,
oB 38 .add 37 (cI 1),
oM 9 38])
.skip))
(sq (sq (kd [0,2,3,8,9] [(oM 39 0,[]),
(oM 40 3,[0]),
(oM 41 8,[0,0]),
(oB 42 .add 40 41,[2]),
(oI 43 1 39 42,[]),
(oL 44 43,[]),
(oM 45 0,[0,0,0,0,0,0]),
(oM 46 3,[0,0,0,0,0,0,0]),
(oM 47 9,[0,0,0,0,0,0,0,0]),
(oB 48 .add 46 47,[2,0,0,0,0,0,0]),
(oI 49 1 45 48,[4,0,0,0,0,0]),
(oL 50 49,[5,0,0,0,0,0]),
(oC 51 95 [44,50],[]),
(oD 52 (.un .not 51),[])])
(.cond 52
.ret
.skip))
(sq (kd [0,2,3,8,9] [(oM 53 0,[]),
(oM 54 3,[0]),
(oM 55 8,[0,0]),
(oB 56 .add 54 55,[2]),
(oM 57 0,[0,0,0,0]),
(oM 58 3,[0,0,0,0,0]),
(oM 59 9,[0,0,0,0,0,0]),
(oB 60 .add 58 59,[2,0,0,0,0]),
(oM 61 0,[0,0,0,0,0,0,0,0]),
(oM 62 3,[0,0,0,0,0,0,0,0,0]),
(oM 63 9,[0,0,0,0,0,0,0,0,0,0]),
(oB 64 .add 62 63,[2,0,0,0,0,0,0,0,0]),
(oI 65 1 61 64,[4,0,0,0,0,0,0,0]),
(oL 66 65,[5,0,0,0,0,0,0,0]),
(oM 67 0,[0,0,0,0,0,0,0,0,0,0,0,0,0,0]),
(oM 68 3,[0,0,0,0,0,0,0,0,0,0,0,0,0,0,0]),
(oM 69 8,[0,0,0,0,0,0,0,0,0,0,0,0,0,0,0,0]),
(oB 70 .add 68 69,[2,0,0,0,0,0,0,0,0,0,0,0,0,0,0]),
(oI 71 1 67 70,[4,0,0,0,0,0,0,0,0,0,0,0,0,0]),
(oL 72 71,[5,0,0,0,0,0,0,0,0,0,0,0,0,0]),
(oI 73 1 53 56,[12,0,0,0]),
(oS 1 73 66,[13,0,0,0]),
(oI 74 1 57 60,[]),
(oS 1 74 72,[])])
(kr [0,2,3,9] [oM 75 9,
oM 8 75]))))))))))
def ki_:List RD:=[]
theorem kk_:zo_ Tryz.prog Tryz.f117 km_ ki_=true:=by kernel_rfl
def Zn_:List AV->List Obj->Option NdR
 | [.own 0,.int .i64 lo,.int .i64 hi,.int .i64 f],[.row false (.int .i64) l]=>some (⟨0<=lo/\lo<=hi/\0<=f/\0<=hi/\f+hi<=l.length/\l.length<=1000000/\Hp l f.toNat (lo.toNat+1) hi.toNat,SrX,fun x=>Rear l (f.toNat+lo.toNat) (f.toNat+hi.toNat) x.r/\Hp x.r f.toNat lo.toNat hi.toNat,fun _=>.tup [],fun x=>[.row false (.int .i64) x.r]⟩)
 | _,_=>none
theorem QQ_:jh_ Tryz.prog 117 (NdF Zn_):=by
 refine X6_ Tryz.func117 kk_ (za_ (s:=RoF z7_) Zc_ (zd_ _)) fun args objs r e=>?_
 unfold Zn_ at e
 split at e
 ·rename_i lo hi f l
  cases e
  refine ⟨rfl,fun hw ho hp=>?_⟩
  change List Int at l
  clear hw ho
  change List Int at l
  obtain ⟨g1,g0,g2,g3,g4,g5,g6⟩:=hp
  obtain ⟨lo,rfl⟩:=Int.eq_ofNat_of_zero_le g1
  obtain ⟨f,rfl⟩:=Int.eq_ofNat_of_zero_le g2
  obtain ⟨hi,rfl⟩:=Int.eq_ofNat_of_zero_le g3
  simp only [Int.toNat_natCast] at g6
  have hb:f+hi<=l.length:=by omega
  repeat'(intro t ht;first|(cases t<;>first|(cases ht;done)|(try simp only[zg_]at ht;try(exfalso;first|contradiction|omega)))|((first|refine zb_ ht ?_|refine ht ?_ ?_|refine ht.1 ?_ ?_|refine ht ?_)<;>clear ht))
  all_goals first
   | exact True.intro
   | (intro r h1 h2;clear h1;refine h2 ⟨[0,2,3,8],Nat × List Int,(fun s=>SiftJ l s.2 f lo hi s.1/\s.1<=lo+hi),fun s=>[.own 0,.int .i64 hi,.int .i64 f,.int .i64 s.1],fun s=>[.row false (.int .i64) s.2],fun s=>lo+hi+1 - s.1,⟨(lo,l),⟨Gu_ g6,by dsimp only;omega⟩,rfl,rfl⟩,?_⟩;clear h2)
  rintro ⟨x,u⟩ ⟨hJ,hx⟩
  dsimp only at hJ hx
  have hl:=hJ.R.len
  have hlx:=hJ.lx
  have e1:((f:Int)+(2*(x:Int)+1)).toNat=f+(2*x+1):=by omega
  have e2:((f:Int)+(2*(x:Int)+1)+1).toNat=f+(2*x+2):=by omega
  have e3:((f:Int)+(2*(x:Int)+1+1)).toNat=f+(2*x+2):=by omega
  have e4:((f:Int)+(x:Int)).toNat=f+x:=by omega
  repeat'(intro t ht;first|(cases t<;>first|(cases ht;done)|(try simp only[zg_]at ht;try(exfalso;first|contradiction|omega)))|((first|refine zb_ ht ?_|refine ht ?_ ?_|refine ht.1 ?_ ?_|refine ht ?_)<;>clear ht))
  all_goals (try simp only [e1,e2,e3,e4] at*)
  all_goals first
   | exact True.intro
   | omega
   | (constructor<;>omega)
   | (rw [List.length_set];omega)
   | (rw [List.length_set];constructor<;>omega)
   | (simp only [zk_];omega)
   | (refine ⟨⟨u⟩,⟨hJ.R,HM_ hJ (by omega)⟩,?_,?_⟩<;>first | rfl | exact True.intro)
   | (refine ⟨⟨u⟩,⟨hJ.R,Vb_ (c0:=2*x+1) hJ (hm_1 (by first | exact .inl (by omega) | exact .inr (by assumption))) (by assumption)⟩,?_,?_⟩<;>first | rfl | exact True.intro)
   | (refine ⟨⟨u⟩,⟨hJ.R,Vb_ (c0:=2*x+2) hJ (hm_2 (by assumption)) (by assumption)⟩,?_,?_⟩<;>first | rfl | exact True.intro)
   | (refine ⟨(2*x+1,swp u (f+x) (f+(2*x+1))),⟨Vc_ hb hJ (.inl rfl) (by omega) (hm_1 (by first | exact .inl (by omega) | exact .inr (by assumption))) (by assumption),?_⟩,?_,?_,?_⟩
      ·show 2*x+1<=lo+hi;omega
      ·show lo+hi+1 - (2*x+1) < lo+hi+1 - x;omega
      ·show [AV.own 0,AV.int .i64 hi,AV.int .i64 f,AV.int .i64 (2*(x:Int)+1)]=[AV.own 0,AV.int .i64 hi,AV.int .i64 f,AV.int .i64 ((2*x+1:Nat):Int)]
       rw [show ((2*x+1:Nat):Int)=2*(x:Int)+1 by omega]
      ·rfl)
   | (refine ⟨(2*x+2,swp u (f+x) (f+(2*x+2))),⟨Vc_ hb hJ (.inr rfl) (by omega) (hm_2 (by assumption)) (by assumption),?_⟩,?_,?_,?_⟩
      ·show 2*x+2<=lo+hi;omega
      ·show lo+hi+1 - (2*x+2) < lo+hi+1 - x;omega
      ·show [AV.own 0,AV.int .i64 hi,AV.int .i64 f,AV.int .i64 (2*(x:Int)+1+1)]=[AV.own 0,AV.int .i64 hi,AV.int .i64 f,AV.int .i64 ((2*x+2:Nat):Int)]
       rw [show ((2*x+2:Nat):Int)=2*(x:Int)+1+1 by omega]
      ·rfl)
 ·cases e
def kn_:IR:=
(sq (kr [0,1,2] [oM 11 1,
oM 6 11])
(sq (.reg [oD 7 (.mov (cI 0))])
(sq (.reg [oM 12 2,
oM 13 1,
oB 14 .sub 12 13,
oM 8 14])
(sq (sq (kr [0,6,7,8] [oM 15 8,
oB 16 .sub 15 (cI 1),
oB 17 .quo 16 (cI 2),
oM 9 17])
(.block 0
(.loop
(sq (sq (kr [0,6,7,8,9] [oM 18 9,
oB 19 .geq 18 (cI 0)])
(.cond 19
.skip
(.exit 0)))
(sq (.block 1
(kr [0,6,7,8,9] [oM 22 0,
oM 23 9,
oM 24 8,
oM 25 6,
oD 26 (.calln (.f 117) [22,23,24,25])]))
(kr [0,6,7,8,9] [oM 20 9,
oB 21 .sub 20 (cI 1),
oM 9 21]))))))
(sq (kr [0,6,7,8] [oM 27 8,
oB 28 .sub 27 (cI 1),
oM 10 28])
(.block 2
(.loop
(sq (sq (kr [0,6,7,10] [oM 29 10,
oB 30 .geq 29 (cI 0)])
(.cond 30
.skip
(.exit 2)))
(sq (.block 3
(sq (kd [0,6,7,10] [(oM 33 0,[]),
(oM 34 6,[0]),
(oM 35 0,[0,0]),
(oM 36 6,[0,0,0]),
(oM 37 10,[0,0,0,0]),
(oB 38 .add 36 37,[2,0,0]),
(oM 39 0,[0,0,0,0,0,0]),
(oM 40 6,[0,0,0,0,0,0,0]),
(oM 41 10,[0,0,0,0,0,0,0,0]),
(oB 42 .add 40 41,[2,0,0,0,0,0,0]),
(oI 43 1 39 42,[4,0,0,0,0,0]),
(oL 44 43,[5,0,0,0,0,0]),
(oM 45 0,[0,0,0,0,0,0,0,0,0,0,0,0]),
(oM 46 6,[0,0,0,0,0,0,0,0,0,0,0,0,0]),
(oI 47 1 45 46,[2,0,0,0,0,0,0,0,0,0,0,0]),
(oL 48 47,[3,0,0,0,0,0,0,0,0,0,0,0]),
(oI 49 1 33 34,[10,0,0,0]),
(oS 1 49 44,[11,0,0,0]),
(oI 50 1 35 38,[]),
(oS 1 50 48,[])])
(kr [0,6,7,10] [oM 51 0,
oM 52 7,
oM 53 10,
oM 54 6,
oD 55 (.calln (.f 117) [51,52,53,54])])))
(kr [0,6,7,10] [oM 31 10,
oB 32 .sub 31 (cI 1),
oM 10 32]))))))))))
def kj_:List RD:=[]
theorem kl_:zo_ Tryz.prog Tryz.f90 kn_ kj_=true:=by kernel_rfl
def Zo_:List AV->List Obj->Option (Prop × AV × List Obj)
 | [.own 0,.int .i64 a,.int .i64 b],[.row false (.int .i64) l]=>some ((0<=a/\a<=b/\b<=l.length/\l.length<=1000000,.tup [],[.row false (.int .i64) (srt l a.toNat b.toNat)]))
 | _,_=>none
theorem QR_:ze_ Tryz.prog 90 (RwF Zo_).sum:=by
 refine ZJ_ Tryz.func90 kl_ (za_ (s:=NdF Zn_) QQ_ (zd_ _)) fun args objs p v o e=>?_
 unfold Zo_ at e
 split at e
 ·rename_i a b l
  cases e
  refine ⟨rfl,fun hw ho hp=>?_⟩
  change List Int at l
  clear hw ho
  change List Int at l
  obtain ⟨g1,g2,g3,g4⟩:=hp
  obtain ⟨a,rfl⟩:=Int.eq_ofNat_of_zero_le g1
  obtain ⟨b,rfl⟩:=Int.eq_ofNat_of_zero_le (show 0<=b by omega)
  rw [Int.toNat_natCast,Int.toNat_natCast]
  have hab:a<=b:=by omega
  have hbl:b<=l.length:=by omega
  have hh:((b:Int) - (a:Int))=((b - a:Nat):Int):=by omega
  have hq9:((b:Int) - (a:Int) - 1).tdiv 2=(((b - a - 1) / 2+1:Nat):Int) - 1:=by rw [hh];exact zcT_ _
  repeat'(intro t ht;first|(cases t<;>first|(cases ht;done)|(try simp only[zg_]at ht;try(exfalso;first|contradiction|omega)))|((first|refine zb_ ht ?_|refine ht ?_ ?_|refine ht.1 ?_ ?_|refine ht ?_)<;>clear ht))
  all_goals first
   | exact True.intro
   | decide
   | (simp only [zk_];omega)
   | (intro r h1 h2;clear h1;refine h2 ⟨[0,6,7,8,9],Nat × List Int,(fun s=>s.1<=(b - a - 1) / 2+1/\Rear l a b s.2/\Hp s.2 a s.1 (b - a)),fun s=>[.own 0,.int .i64 a,.int .i64 0,.int .i64 ((b:Int) - (a:Int)),.int .i64 ((s.1:Int) - 1)],fun s=>[.row false (.int .i64) s.2],fun s=>s.1,⟨((b - a - 1) / 2+1,l),⟨Nat.le_refl _,Rear.refl _ _ _,BF_ (Nat.le_refl _)⟩,(by rw [hq9]),rfl⟩,?_⟩;clear h2)
  rintro ⟨k,u⟩ ⟨hk,hR,hH⟩
  dsimp only at hk hR hH
  have hl:=hR.len
  have hb9:((b:Int) - (a:Int)).toNat=b - a:=by omega
  repeat'(intro t ht;first|(cases t<;>first|(cases ht;done)|(try simp only[zg_]at ht;try(exfalso;first|contradiction|omega)))|((first|refine zb_ ht ?_|refine ht ?_ ?_|refine ht.1 ?_ ?_|refine ht ?_)<;>clear ht))
  all_goals first
   | exact True.intro
   | (simp only [zk_];omega)
   | (dsimp only;simp only [zk_];omega)
   | (intro r h1 h2;clear h1;refine h2 ⟨[0,6,7,10],Nat × List Int,(fun s=>s.1<=b - a/\PopJ l s.2 a b s.1),fun s=>[.own 0,.int .i64 a,.int .i64 0,.int .i64 ((s.1:Int) - 1)],fun s=>[.row false (.int .i64) s.2],fun s=>s.1,⟨(b - a,u),⟨Nat.le_refl _,GG_ hR hH (by omega) hab⟩,(by rw [hh]),rfl⟩,?_⟩;clear h2)
   | (refine ⟨?_,?_,?_,?_,?_,?_,?_⟩
      all_goals (try dsimp only)
      all_goals first
       | omega
       | (rw [Int.toNat_natCast,hb9,show ((k:Int) - 1).toNat+1=k by omega];exact hH))
   | (obtain ⟨hr1,hr2⟩:=ht
      rw [hb9,show ((k:Int) - 1).toNat=k - 1 by omega] at hr1 hr2
      refine ⟨(k - 1,_),⟨?_,hR.trans (hr1.wide (by omega) (by omega)),hr2⟩,?_,?_,rfl⟩
      ·show k - 1<=(b - a - 1) / 2+1;omega
      ·show k - 1 < k;omega
      ·show [AV.own 0,AV.int .i64 a,AV.int .i64 0,AV.int .i64 ((b:Int) - (a:Int)),AV.int .i64 ((k:Int) - 1 - 1)]=[AV.own 0,AV.int .i64 a,AV.int .i64 0,AV.int .i64 ((b:Int) - (a:Int)),AV.int .i64 (((k - 1:Nat):Int) - 1)]
       rw [show ((k - 1:Nat):Int)=(k:Int) - 1 by omega])
  clear hk hR hH hl ht k u
  rintro ⟨k,u⟩ ⟨hk,hJ⟩
  dsimp only at hk hJ
  have hl:=hJ.R.len
  by_cases hk0:k=0
  ·subst hk0
   repeat'(intro t ht;first|(cases t<;>first|(cases ht;done)|(try simp only[zg_]at ht;try(exfalso;first|contradiction|omega)))|((first|refine zb_ ht ?_|refine ht ?_ ?_|refine ht.1 ?_ ?_|refine ht ?_)<;>clear ht))
   all_goals first
    | exact True.intro
    | (have e:=zaX_ hab hbl hJ
       rw [show ((0,u):Nat × List Int).2=srt l a b from e];exact ⟨rfl,rfl⟩)
  ·obtain ⟨i,rfl⟩:∃ i,k=i+1:=⟨k - 1,by omega⟩
   have e1:((a:Int)+(((i+1:Nat):Int) - 1)).toNat=a+i:=by omega
   have e2:(((i+1:Nat):Int) - 1).toNat=i:=by omega
   have e3:((i+1:Nat):Int) - 1=(i:Int):=by omega
   have hlen:(swp u a (a+i)).length=u.length:=V3_ ..
   have hps:=zbt_ (u:=u) (a:=a) (i:=i) (by omega) hJ.h
   repeat'(intro t ht;first|(cases t<;>first|(cases ht;done)|(try simp only[zg_]at ht;try(exfalso;first|contradiction|omega)))|((first|refine zb_ ht ?_|refine ht ?_ ?_|refine ht.1 ?_ ?_|refine ht ?_)<;>clear ht))
   all_goals first
    | exact True.intro
    | (simp only [zk_];omega)
    | (dsimp only;simp only [zk_];omega)
    | (dsimp only;omega)
    | (dsimp only;rw [List.length_set];omega)
    | (refine ⟨?_,?_,?_,?_,?_,?_,?_⟩
       all_goals (try dsimp only)
       all_goals (try simp only [List.length_set])
       all_goals first
        | omega
        | (rw [e1,e2];exact hps))
    | (rw [e1,e2] at ht
       obtain ⟨hr1,hr2⟩:=ht
       refine ⟨(i,_),⟨?_,b0_ hbl (by omega) hJ hr1 hr2⟩,?_,?_,rfl⟩
       ·show i<=b - a;omega
       ·show i < i+1;omega
       ·show [AV.own 0,AV.int .i64 a,AV.int .i64 0,AV.int .i64 (((i+1:Nat):Int) - 1 - 1)]=[AV.own 0,AV.int .i64 a,AV.int .i64 0,AV.int .i64 ((i:Int) - 1)]
        rw [e3])
 ·cases e
end Go.Eng

/- Parts of the proof: TH, TE, TF, P7, TG. No condition. -/
import Derived.Test.YtppgebehmmldfaaGreatDoorProg
import Derived.Test.YtppgebehmmldfaaGreatDoorXE10
import Derived.KernelRfl
import Derived.Test.YtppgebehmmldfaaGreatDoorXE16
import Derived.Test.YtppgebehmmldfaaGreatDoorXE12
namespace Go.Eng
open Go.Proofs
set_option linter.unusedVariables false
set_option linter.unusedSimpArgs false
set_option maxRecDepth 100000
set_option maxHeartbeats 1000000
set_option maxHeartbeats 8000000
def yp_:IR:=
(sq (kr [0] [oD 2 (.box [.int .u64 0,.str [],.int .u64 0,.int .u64 0,.int .u64 0,.int .u64 0,.nils]),
oD 3 (.mov (cI 0))])
(sq (.reg [oM 11 0,
oC 12 15 [11],
oM 4 12])
(sq (sq (.reg [oM 13 4,
oB 14 .lss 13 (cI 64)])
(.cond 14
(sq (kr [0,2] [oM 15 0,
oC 16 40 [15,(cI 3332)]])
(sq (.reg [oK 17 7 2,
oS 7 2 17,
oD 3 (.mov (cI 0))])
.ret))
.skip))
(sq (kr [0,2,4] [oM 18 0,
oC 19 12 [18,(cI 64)],
oC 20 11 [19,(cI 3332),(cI 3333)],
oM 5 20])
(sq (.reg [oM 21 5,
oC 22 80 [21,(cI 2)],
oD 23 (.conv .i64 22),
oM 6 23])
(sq (sq (kr [0,2,4,5,6] [oM 24 6,
oB 25 .lss 24 (cI 64),
oM 26 25,
oF 26 27 (.mov 6),
oF 26 28 (.bin .rem 27 (cI 8)),
oF 26 29 (.bin .neq 28 (cI 0)),
oP 30 26 cT 29,
oM 31 30,
oF 31 32 (.mov 6),
oF 31 33 (.mov 4),
oF 31 34 (.bin .gtr 32 33),
oP 35 31 cT 34])
(.cond 35
(kr [0,2,5,6] [oM 36 5,
oC 37 40 [36,(cI 3332)]])
.skip))
(sq (kr [0,2,5,6] [oM 38 5,
oC 39 80 [38,(cI 1)],
oA 40 0 2,
oS 1 40 39])
(sq (.reg [oM 41 5,
oD 42 (.sliceAll (.int .i64) 1 [(0,1,(cI (-5)))]),
oC 43 81 [41,42]])
(sq (sq (.reg [oA 44 0 2,
oL 45 44,
oB 46 .gtr 45 (.c (.int .u64 254))])
(.cond 46
(kr [0,2,5,6] [oM 47 5,
oC 48 40 [47,(cI 266)]])
.skip))
(sq (kr [0,2,5,6] [oM 50 5,
oC 51 12 [50,(cI 32)],
oD 52 (.sliceAll (.int .u8) 1 [(0,1,(.c (.int .u8 0)))]),
oC 53 82 [51,52],
oM 49 53,
oX 54 49 0,
oX 55 49 1,
oX 56 49 2,
oM 7 54,
oM 8 55,
oM 9 56])
(sq (sq (kr [0,2,5,6,7,8,9] [oM 57 9,
oD 58 (.un .not 57),
oM 59 58,
oF 59 60 (.mov 7),
oF 59 61 (.b2s 60),
oF 59 62 (.call false (.f 71) [61]),
oF 59 63 (.un .not 62),
oP 64 59 cT 63,
oM 65 64,
oF 65 66 (.mov 8),
oF 65 67 (.call false (.f 83) [66,(.c (.str [0]))]),
oF 65 68 (.len 67),
oF 65 69 (.bin .gtr 68 (cI 0)),
oP 70 65 cT 69])
(.cond 70
(kr [0,2,5,6,7] [oM 71 5,
oC 72 40 [71,(cI 3333)]])
.skip))
(sq (kr [0,2,5,6,7] [oM 73 7,
oD 74 (.b2s 73),
oA 75 1 2,
oS 1 75 74])
(sq (kr [0,2,5,6] [oM 76 5,
oD 77 (.sliceAll (.int .i64) 4 [(0,1,(cI 8)),(1,1,(cI 8)),(2,1,(cI 4)),(3,1,(cI 4))]),
oC 78 81 [76,77],
oD 79 (.sliceAll (.int .u64) 4 [(0,1,(.c (.int .u64 0))),(1,1,(.c (.int .u64 0))),(2,1,(.c (.int .u64 0))),(3,1,(.c (.int .u64 0)))]),
oD 80 (.append (.int .u64) 8 78 79),
oM 10 80])
(sq (kd [0,2,5,6,10] [(oM 81 10,[]),
(oD 82 (.indexSl 1 81 (cI 0)),[]),
(oL 83 82,[]),
(oM 84 10,[0,0,0]),
(oD 85 (.indexSl 1 84 (cI 1)),[1,0,0]),
(oL 86 85,[2,0,0]),
(oM 87 10,[0,0,0,0,0,0]),
(oD 88 (.indexSl 1 87 (cI 2)),[1,0,0,0,0,0]),
(oL 89 88,[2,0,0,0,0,0]),
(oM 90 10,[0,0,0,0,0,0,0,0,0]),
(oD 91 (.indexSl 1 90 (cI 3)),[1,0,0,0,0,0,0,0,0]),
(oL 92 91,[2,0,0,0,0,0,0,0,0]),
(oA 93 2 2,[0,0,0,0,0,0,0,0,0]),
(oS 1 93 83,[1,0,0,0,0,0,0,0,0]),
(oA 94 3 2,[2,0,0,0,0,0]),
(oS 1 94 86,[3,0,0,0,0,0]),
(oA 95 4 2,[4,0,0]),
(oS 1 95 89,[5,0,0]),
(oA 96 5 2,[]),
(oS 1 96 92,[])])
(sq (kr [0,2,5,6] [oM 97 0,
oM 98 5,
oC 99 14 [98],
oC 100 40 [97,99]])
(sq (.reg [oK 101 7 2,
oM 102 6,
oB 103 .sub 102 (cI 64),
oS 7 2 101,
oM 3 103])
.ret))))))))))))))))
def X7_:List RD:=[.cell 2 (some 7) false [],.tmp 3 false none]
theorem yh_:zo_ Tryz.prog Tryz.f63 yp_ X7_=true:=by kernel_rfl
def Kd_:List AV->List Obj->Option (Prop × AV × List Obj)
 | [.ptr 0 0],[.box [.imm (.int .u8) b,.int .i64 p,.int .i64 sh,.int .i64 od,.int .i64 e,.bool true]]=>some ((0<=p/\p<=b.length/\b.length<=100000/\sh ≠ 0/\e=0,.tup [.agg [.int .u64 (hdT b p).1,.str (hdT b p).2.1,.int .u64 (hdT b p).2.2.1,.int .u64 (hdT b p).2.2.2.1,.int .u64 (hdT b p).2.2.2.2.1,.int .u64 (hdT b p).2.2.2.2.2.1,.nils],.int .i64 (hdQ b p)],[.box [.imm (.int .u8) b,.int .i64 (hdP b p),.int .i64 sh,.int .i64 od,.int .i64 (hdE b p),.bool true]]))
 | _,_=>none
theorem xM_:zf_ Tryz.prog 63 (RwF Kd_).sum:=by
 refine ZS_ Tryz.func63 yh_ (zb_ (s:=RoF zB_) zO_ (zb_ (s:=RwF zr_) zy_ (zb_ (s:=RwF zG_) zX_ (zb_ (s:=RwF ZO_) qd_ (zb_ (s:=RwF ZE_) QE_ (zb_ (s:=RwF Z1_) KP_ (zb_ (s:=RoF wt_) vf_ (zb_ (s:=RoF qT_) Kn_ (zb_ (s:=RoF jR_) yU_ (zb_ (s:=RoF zq_) zu_ (zg_ _))))))))))) fun args objs p v o e=>?_
 unfold Kd_ at e
 split at e
 ·rename_i b p sh od e
  cases e
  refine ⟨rfl,fun hw ho hp=>?_⟩
  change List Int at b
  have hb:∀ x ∈ (b:List Int),(0:Int)<=x/\x<=255:=fun x hx=>((ho _ (List.mem_cons_self ..)) (.imm (.int .u8) b) (by simp)).1 x hx
  clear hw ho
  change List Int at b
  obtain ⟨hp0,hp1,hp2,hp3,rfl⟩:=hp
  by_cases hs:(b.length:Int) - p < 64
  ·obtain ⟨s1,s2,s3,s4⟩:=zct_ (b:=b) (p:=p) hs
   rw [s1,s2,s3,s4]
   repeat'(intro t ht;first|(cases t<;>first|(cases ht;done)|(try simp only[zh_]at ht;try(exfalso;first|contradiction|omega)))|((first|refine za_ ht ?_|refine ht ?_ ?_|refine ht.1 ?_ ?_|refine ht ?_)<;>clear ht))
   all_goals first
    | exact True.intro
    | exact ⟨hp0,hp1⟩
    | exact ⟨rfl,rfl⟩
    | (exfalso;omega)
  ·obtain ⟨k1,k2,k3⟩:=b64 (sh:=sh) hp0 hs
   have hxl:(zm_ 64 b p sh 0).length=64:=by rw [k2,List.length_take,List.length_drop];omega
   have hxb:∀ z ∈ zm_ 64 b p sh 0,(0:Int)<=z/\z<=255:=fun z hz=>by rw [k2] at hz;exact hb z (List.mem_of_mem_drop (List.mem_of_mem_take hz))
   obtain ⟨c1,c2,c3,c4,c5⟩:=gl_ hxb hxl
   unfold u1N at c1 c2 c3
   have fb:(zn_ (zj_ 2 (zm_ 64 b p sh 0) 0 3332 3333 0) 3332) ≠ 0:=by show zn_ (u1E (zm_ 64 b p sh 0)) 3332 ≠ 0;rw [c5];decide
   have r1:(Jm_ 1 (zm_ 64 b p sh 0) (zi_ 2 (zm_ 64 b p sh 0) 0 0) (zn_ (zj_ 2 (zm_ 64 b p sh 0) 0 3332 3333 0) 3332))=0:=hi_ fb
   have r2:¬ ctK (zm_ 32 (zm_ 64 b p sh 0) (Zu_ [-5] (zm_ 64 b p sh 0) (zi_ 1 (zm_ 64 b p sh 0) (zi_ 2 (zm_ 64 b p sh 0) 0 0) (zn_ (zj_ 2 (zm_ 64 b p sh 0) 0 3332 3333 0) 3332)) (zj_ 1 (zm_ 64 b p sh 0) (zi_ 2 (zm_ 64 b p sh 0) 0 0) 3332 3333 (zn_ (zj_ 2 (zm_ 64 b p sh 0) 0 3332 3333 0) 3332))) 3332 (Zm_ [-5] (zm_ 64 b p sh 0) (zi_ 1 (zm_ 64 b p sh 0) (zi_ 2 (zm_ 64 b p sh 0) 0 0) (zn_ (zj_ 2 (zm_ 64 b p sh 0) 0 3332 3333 0) 3332)) 3332 3333 (zj_ 1 (zm_ 64 b p sh 0) (zi_ 2 (zm_ 64 b p sh 0) 0 0) 3332 3333 (zn_ (zj_ 2 (zm_ 64 b p sh 0) 0 3332 3333 0) 3332)))) (([0]:List Int).getD 0 0)=true:=Bg_ (uK_ (hl_ fb))
   have r3:¬ ctK (zm_ 32 (zm_ 64 b p sh 0) (Zu_ [-5] (zm_ 64 b p sh 0) (zi_ 1 (zm_ 64 b p sh 0) (zi_ 2 (zm_ 64 b p sh 0) 0 0) (zj_ 2 (zm_ 64 b p sh 0) 0 3332 3333 0)) (zj_ 1 (zm_ 64 b p sh 0) (zi_ 2 (zm_ 64 b p sh 0) 0 0) 3332 3333 (zj_ 2 (zm_ 64 b p sh 0) 0 3332 3333 0))) 3332 (zn_ (Zm_ [-5] (zm_ 64 b p sh 0) (zi_ 1 (zm_ 64 b p sh 0) (zi_ 2 (zm_ 64 b p sh 0) 0 0) (zj_ 2 (zm_ 64 b p sh 0) 0 3332 3333 0)) 3332 3333 (zj_ 1 (zm_ 64 b p sh 0) (zi_ 2 (zm_ 64 b p sh 0) 0 0) 3332 3333 (zj_ 2 (zm_ 64 b p sh 0) 0 3332 3333 0))) 266)) (([0]:List Int).getD 0 0)=true:=Bg_ (by unfold zn_;split;decide;assumption)
   have q0:(0:Int)<=0/\(0:Int)<=(zm_ 64 b p sh 0).length:=⟨Int.le_refl _,by omega⟩
   have q1:=hk_ (w:=2) (e:=0) q0.1 q0.2
   have q2:=fun e=>hk_ (w:=1) (e:=e) q1.1 q1.2
   have q3:=fun e e'=>hB_ (w:=[-5]) (e:=e') (q2 e).1 (q2 e).2
   have q4:=fun e e' e2=>HV_ (n:=32) (sh:=3332) (e:=e2) (q3 e e').1 (q3 e e').2 (by decide)
   have hxl2:(zm_ 64 b p sh 0).length<=140737488355328:=by omega
   have hyl:=fun p s e=>u3_ (n:=32) (b:=zm_ 64 b p sh 0) (p:=s) (sh:=3332) (e:=e)
   clear hxb hb c4 c5 fb
   repeat'(intro t ht;first|(cases t<;>first|(cases ht;done)|(try simp only[zh_]at ht;try(exfalso;first|contradiction|omega)))|((first|refine za_ ht ?_|refine ht ?_ ?_|refine ht.1 ?_ ?_|refine ht ?_)<;>clear ht))
   all_goals first
    | exact True.intro
    | exact rfl
    | exact ⟨hp0,hp1⟩
    | exact ⟨hp0,hp1,by omega,hp3⟩
    | exact hxl2
    | exact ⟨q0.1,q0.2,hxl2⟩
    | exact ⟨q1.1,q1.2,hxl2⟩
    | exact ⟨(q2 _).1,(q2 _).2,hxl2⟩
    | exact ⟨(q3 _ _).1,(q3 _ _).2,hxl2,by decide⟩
    | exact ⟨(q4 _ _ _).1,(q4 _ _ _).2,hxl2⟩
    | ((try dsimp only);simp only [zl_];omega)
    | decide
    | exact Nat.le_trans zbW_ (Nat.le_trans (hyl _ _ _) hxl2)
    | (generalize hz:Jy_ [8,8,4,4] _ _ _=z
       have hz4:z.length<=4:=by rw [<- hz];exact zaH_ _ _ _ _
       simp only [k8_,List.length_append,List.length_cons,List.length_nil]
       first | omega | (constructor<;>omega) | (refine ⟨?_,?_,?_⟩<;>omega))
    | skip
   all_goals clear r1 r2 r3 q0 q1 q2 q3 q4 hxl2 hyl
   all_goals obtain ⟨s1,s2,s3,s4⟩:=bY_ (b:=b) (p:=p) hs
   all_goals have hX:hdX b p=zm_ 64 b p sh 0:=k2.symm
   all_goals have hA:hdA b p=(b.length:Int) - p:=rfl
   all_goals rw [hX,hA] at s1 s4
   all_goals rw [hX] at s2
   all_goals rw [s1,s2,s3,s4,k1,k3]
   all_goals clear s1 s2 s3 s4 hX hA k1 k2 k3
   all_goals generalize zm_ 64 b p sh 0=x at*
   all_goals generalize (b.length:Int) - p=A at*
   all_goals first
    | (have h2:u2E x A=(zn_ (zj_ 2 x 0 3332 3333 0) 3332):=(if_pos (za0_ (by first | exact .inl (by assumption) | exact .inr (.inl (by assumption)) | exact .inr (.inr (by assumption)))))
       obtain ⟨a1,a2,a3⟩:=yN_ h2
       have h5:u5E x A=(Zm_ [-5] x (zi_ 1 x (zi_ 2 x 0 0) (zn_ (zj_ 2 x 0 3332 3333 0) 3332)) 3332 3333 (zj_ 1 x (zi_ 2 x 0 0) 3332 3333 (zn_ (zj_ 2 x 0 3332 3333 0) 3332))):=by unfold u5E;rw [if_neg (by rw [a1];assumption),a3]
       have h6:u6N x A=zm_ 32 x (Zu_ [-5] x (zi_ 1 x (zi_ 2 x 0 0) (zn_ (zj_ 2 x 0 3332 3333 0) 3332)) (zj_ 1 x (zi_ 2 x 0 0) 3332 3333 (zn_ (zj_ 2 x 0 3332 3333 0) 3332))) 3332 (Zm_ [-5] x (zi_ 1 x (zi_ 2 x 0 0) (zn_ (zj_ 2 x 0 3332 3333 0) 3332)) 3332 3333 (zj_ 1 x (zi_ 2 x 0 0) 3332 3333 (zn_ (zj_ 2 x 0 3332 3333 0) 3332))):=by unfold u6N;rw [a2,h5]
       have h7:u7O x A=true:=by unfold u7O;rw [h6];first | (rw [show ctK (zm_ 32 x (Zu_ [-5] x (zi_ 1 x (zi_ 2 x 0 0) (zn_ (zj_ 2 x 0 3332 3333 0) 3332)) (zj_ 1 x (zi_ 2 x 0 0) 3332 3333 (zn_ (zj_ 2 x 0 3332 3333 0) 3332))) 3332 (Zm_ [-5] x (zi_ 1 x (zi_ 2 x 0 0) (zn_ (zj_ 2 x 0 3332 3333 0) 3332)) 3332 3333 (zj_ 1 x (zi_ 2 x 0 0) 3332 3333 (zn_ (zj_ 2 x 0 3332 3333 0) 3332)))) 0=false by assumption];rfl) | (rw [show qw_ (ctB (zm_ 32 x (Zu_ [-5] x (zi_ 1 x (zi_ 2 x 0 0) (zn_ (zj_ 2 x 0 3332 3333 0) 3332)) (zj_ 1 x (zi_ 2 x 0 0) 3332 3333 (zn_ (zj_ 2 x 0 3332 3333 0) 3332))) 3332 (Zm_ [-5] x (zi_ 1 x (zi_ 2 x 0 0) (zn_ (zj_ 2 x 0 3332 3333 0) 3332)) 3332 3333 (zj_ 1 x (zi_ 2 x 0 0) 3332 3333 (zn_ (zj_ 2 x 0 3332 3333 0) 3332)))) 0)=false by assumption];simp) | (rw [show decide (0 < (q4_ (Q7_ (ctR (zm_ 32 x (Zu_ [-5] x (zi_ 1 x (zi_ 2 x 0 0) (zn_ (zj_ 2 x 0 3332 3333 0) 3332)) (zj_ 1 x (zi_ 2 x 0 0) 3332 3333 (zn_ (zj_ 2 x 0 3332 3333 0) 3332))) 3332 (Zm_ [-5] x (zi_ 1 x (zi_ 2 x 0 0) (zn_ (zj_ 2 x 0 3332 3333 0) 3332)) 3332 3333 (zj_ 1 x (zi_ 2 x 0 0) 3332 3333 (zn_ (zj_ 2 x 0 3332 3333 0) 3332)))) 0) 0) 0).length)=true from decide_eq_true (by (have c:(0:Int) < ((q4_ (Q7_ (ctR (zm_ 32 x (Zu_ [-5] x (zi_ 1 x (zi_ 2 x 0 0) (zn_ (zj_ 2 x 0 3332 3333 0) 3332)) (zj_ 1 x (zi_ 2 x 0 0) 3332 3333 (zn_ (zj_ 2 x 0 3332 3333 0) 3332))) 3332 (Zm_ [-5] x (zi_ 1 x (zi_ 2 x 0 0) (zn_ (zj_ 2 x 0 3332 3333 0) 3332)) 3332 3333 (zj_ 1 x (zi_ 2 x 0 0) 3332 3333 (zn_ (zj_ 2 x 0 3332 3333 0) 3332)))) 0) 0) 0).length:Int):=by assumption);omega)];simp)
       obtain ⟨d1,d2,d3,d4⟩:=uA_ h2 h5 h7
       rw [d1,d2,d3,d3,d3,d3,d4]
       exact ⟨rfl,rfl⟩)
    | (have h2:u2E x A=(zj_ 2 x 0 3332 3333 0):=(if_neg (by rw [G0_ (by assumption) (by assumption) (by assumption)];decide))
       obtain ⟨a1,a2,a3⟩:=yN_ h2
       have h5:u5E x A=(zn_ (Zm_ [-5] x (zi_ 1 x (zi_ 2 x 0 0) (zj_ 2 x 0 3332 3333 0)) 3332 3333 (zj_ 1 x (zi_ 2 x 0 0) 3332 3333 (zj_ 2 x 0 3332 3333 0))) 266):=by unfold u5E;rw [if_pos (by rw [a1];assumption),a3]
       have h6:u6N x A=zm_ 32 x (Zu_ [-5] x (zi_ 1 x (zi_ 2 x 0 0) (zj_ 2 x 0 3332 3333 0)) (zj_ 1 x (zi_ 2 x 0 0) 3332 3333 (zj_ 2 x 0 3332 3333 0))) 3332 (zn_ (Zm_ [-5] x (zi_ 1 x (zi_ 2 x 0 0) (zj_ 2 x 0 3332 3333 0)) 3332 3333 (zj_ 1 x (zi_ 2 x 0 0) 3332 3333 (zj_ 2 x 0 3332 3333 0))) 266):=by unfold u6N;rw [a2,h5]
       have h7:u7O x A=true:=by unfold u7O;rw [h6];first | (rw [show ctK (zm_ 32 x (Zu_ [-5] x (zi_ 1 x (zi_ 2 x 0 0) (zj_ 2 x 0 3332 3333 0)) (zj_ 1 x (zi_ 2 x 0 0) 3332 3333 (zj_ 2 x 0 3332 3333 0))) 3332 (zn_ (Zm_ [-5] x (zi_ 1 x (zi_ 2 x 0 0) (zj_ 2 x 0 3332 3333 0)) 3332 3333 (zj_ 1 x (zi_ 2 x 0 0) 3332 3333 (zj_ 2 x 0 3332 3333 0))) 266)) 0=false by assumption];rfl) | (rw [show qw_ (ctB (zm_ 32 x (Zu_ [-5] x (zi_ 1 x (zi_ 2 x 0 0) (zj_ 2 x 0 3332 3333 0)) (zj_ 1 x (zi_ 2 x 0 0) 3332 3333 (zj_ 2 x 0 3332 3333 0))) 3332 (zn_ (Zm_ [-5] x (zi_ 1 x (zi_ 2 x 0 0) (zj_ 2 x 0 3332 3333 0)) 3332 3333 (zj_ 1 x (zi_ 2 x 0 0) 3332 3333 (zj_ 2 x 0 3332 3333 0))) 266)) 0)=false by assumption];simp) | (rw [show decide (0 < (q4_ (Q7_ (ctR (zm_ 32 x (Zu_ [-5] x (zi_ 1 x (zi_ 2 x 0 0) (zj_ 2 x 0 3332 3333 0)) (zj_ 1 x (zi_ 2 x 0 0) 3332 3333 (zj_ 2 x 0 3332 3333 0))) 3332 (zn_ (Zm_ [-5] x (zi_ 1 x (zi_ 2 x 0 0) (zj_ 2 x 0 3332 3333 0)) 3332 3333 (zj_ 1 x (zi_ 2 x 0 0) 3332 3333 (zj_ 2 x 0 3332 3333 0))) 266)) 0) 0) 0).length)=true from decide_eq_true (by (have c:(0:Int) < ((q4_ (Q7_ (ctR (zm_ 32 x (Zu_ [-5] x (zi_ 1 x (zi_ 2 x 0 0) (zj_ 2 x 0 3332 3333 0)) (zj_ 1 x (zi_ 2 x 0 0) 3332 3333 (zj_ 2 x 0 3332 3333 0))) 3332 (zn_ (Zm_ [-5] x (zi_ 1 x (zi_ 2 x 0 0) (zj_ 2 x 0 3332 3333 0)) 3332 3333 (zj_ 1 x (zi_ 2 x 0 0) 3332 3333 (zj_ 2 x 0 3332 3333 0))) 266)) 0) 0) 0).length:Int):=by assumption);omega)];simp)
       obtain ⟨d1,d2,d3,d4⟩:=uA_ h2 h5 h7
       rw [d1,d2,d3,d3,d3,d3,d4]
       exact ⟨rfl,rfl⟩)
    | (have h2:u2E x A=(zj_ 2 x 0 3332 3333 0):=(if_neg (by rw [G0_ (by assumption) (by assumption) (by assumption)];decide))
       obtain ⟨a1,a2,a3⟩:=yN_ h2
       have h5:u5E x A=(Zm_ [-5] x (zi_ 1 x (zi_ 2 x 0 0) (zj_ 2 x 0 3332 3333 0)) 3332 3333 (zj_ 1 x (zi_ 2 x 0 0) 3332 3333 (zj_ 2 x 0 3332 3333 0))):=by unfold u5E;rw [if_neg (by rw [a1];assumption),a3]
       have h6:u6N x A=zm_ 32 x (Zu_ [-5] x (zi_ 1 x (zi_ 2 x 0 0) (zj_ 2 x 0 3332 3333 0)) (zj_ 1 x (zi_ 2 x 0 0) 3332 3333 (zj_ 2 x 0 3332 3333 0))) 3332 (Zm_ [-5] x (zi_ 1 x (zi_ 2 x 0 0) (zj_ 2 x 0 3332 3333 0)) 3332 3333 (zj_ 1 x (zi_ 2 x 0 0) 3332 3333 (zj_ 2 x 0 3332 3333 0))):=by unfold u6N;rw [a2,h5]
       have h7:u7O x A=true:=by unfold u7O;rw [h6];first | (rw [show ctK (zm_ 32 x (Zu_ [-5] x (zi_ 1 x (zi_ 2 x 0 0) (zj_ 2 x 0 3332 3333 0)) (zj_ 1 x (zi_ 2 x 0 0) 3332 3333 (zj_ 2 x 0 3332 3333 0))) 3332 (Zm_ [-5] x (zi_ 1 x (zi_ 2 x 0 0) (zj_ 2 x 0 3332 3333 0)) 3332 3333 (zj_ 1 x (zi_ 2 x 0 0) 3332 3333 (zj_ 2 x 0 3332 3333 0)))) 0=false by assumption];rfl) | (rw [show qw_ (ctB (zm_ 32 x (Zu_ [-5] x (zi_ 1 x (zi_ 2 x 0 0) (zj_ 2 x 0 3332 3333 0)) (zj_ 1 x (zi_ 2 x 0 0) 3332 3333 (zj_ 2 x 0 3332 3333 0))) 3332 (Zm_ [-5] x (zi_ 1 x (zi_ 2 x 0 0) (zj_ 2 x 0 3332 3333 0)) 3332 3333 (zj_ 1 x (zi_ 2 x 0 0) 3332 3333 (zj_ 2 x 0 3332 3333 0)))) 0)=false by assumption];simp) | (rw [show decide (0 < (q4_ (Q7_ (ctR (zm_ 32 x (Zu_ [-5] x (zi_ 1 x (zi_ 2 x 0 0) (zj_ 2 x 0 3332 3333 0)) (zj_ 1 x (zi_ 2 x 0 0) 3332 3333 (zj_ 2 x 0 3332 3333 0))) 3332 (Zm_ [-5] x (zi_ 1 x (zi_ 2 x 0 0) (zj_ 2 x 0 3332 3333 0)) 3332 3333 (zj_ 1 x (zi_ 2 x 0 0) 3332 3333 (zj_ 2 x 0 3332 3333 0)))) 0) 0) 0).length)=true from decide_eq_true (by (have c:(0:Int) < ((q4_ (Q7_ (ctR (zm_ 32 x (Zu_ [-5] x (zi_ 1 x (zi_ 2 x 0 0) (zj_ 2 x 0 3332 3333 0)) (zj_ 1 x (zi_ 2 x 0 0) 3332 3333 (zj_ 2 x 0 3332 3333 0))) 3332 (Zm_ [-5] x (zi_ 1 x (zi_ 2 x 0 0) (zj_ 2 x 0 3332 3333 0)) 3332 3333 (zj_ 1 x (zi_ 2 x 0 0) 3332 3333 (zj_ 2 x 0 3332 3333 0)))) 0) 0) 0).length:Int):=by assumption);omega)];simp)
       obtain ⟨d1,d2,d3,d4⟩:=uA_ h2 h5 h7
       rw [d1,d2,d3,d3,d3,d3,d4]
       exact ⟨rfl,rfl⟩)
    | (have h2:u2E x A=(zj_ 2 x 0 3332 3333 0):=(if_neg (by rw [G0_ (by assumption) (by assumption) (by assumption)];decide))
       obtain ⟨a1,a2,a3⟩:=yN_ h2
       have h5:u5E x A=(Zm_ [-5] x (zi_ 1 x (zi_ 2 x 0 0) (zj_ 2 x 0 3332 3333 0)) 3332 3333 (zj_ 1 x (zi_ 2 x 0 0) 3332 3333 (zj_ 2 x 0 3332 3333 0))):=by unfold u5E;rw [if_neg (by rw [a1];assumption),a3]
       have h6:u6N x A=zm_ 32 x (Zu_ [-5] x (zi_ 1 x (zi_ 2 x 0 0) (zj_ 2 x 0 3332 3333 0)) (zj_ 1 x (zi_ 2 x 0 0) 3332 3333 (zj_ 2 x 0 3332 3333 0))) 3332 (Zm_ [-5] x (zi_ 1 x (zi_ 2 x 0 0) (zj_ 2 x 0 3332 3333 0)) 3332 3333 (zj_ 1 x (zi_ 2 x 0 0) 3332 3333 (zj_ 2 x 0 3332 3333 0))):=by unfold u6N;rw [a2,h5]
       have h9:decide (0 < (q4_ (Q7_ (ctR (zm_ 32 x (Zu_ [-5] x (zi_ 1 x (zi_ 2 x 0 0) (zj_ 2 x 0 3332 3333 0)) (zj_ 1 x (zi_ 2 x 0 0) 3332 3333 (zj_ 2 x 0 3332 3333 0))) 3332 (Zm_ [-5] x (zi_ 1 x (zi_ 2 x 0 0) (zj_ 2 x 0 3332 3333 0)) 3332 3333 (zj_ 1 x (zi_ 2 x 0 0) 3332 3333 (zj_ 2 x 0 3332 3333 0)))) 0) 0) 0).length)=false:=decide_eq_false (fun c=>(show ¬ (0:Int) < ((q4_ (Q7_ (ctR (zm_ 32 x (Zu_ [-5] x (zi_ 1 x (zi_ 2 x 0 0) (zj_ 2 x 0 3332 3333 0)) (zj_ 1 x (zi_ 2 x 0 0) 3332 3333 (zj_ 2 x 0 3332 3333 0))) 3332 (Zm_ [-5] x (zi_ 1 x (zi_ 2 x 0 0) (zj_ 2 x 0 3332 3333 0)) 3332 3333 (zj_ 1 x (zi_ 2 x 0 0) 3332 3333 (zj_ 2 x 0 3332 3333 0)))) 0) 0) 0).length:Int) by assumption) (by omega))
       have h7:u7O x A=false:=by unfold u7O;rw [h6,h9,show ctK (zm_ 32 x (Zu_ [-5] x (zi_ 1 x (zi_ 2 x 0 0) (zj_ 2 x 0 3332 3333 0)) (zj_ 1 x (zi_ 2 x 0 0) 3332 3333 (zj_ 2 x 0 3332 3333 0))) 3332 (Zm_ [-5] x (zi_ 1 x (zi_ 2 x 0 0) (zj_ 2 x 0 3332 3333 0)) 3332 3333 (zj_ 1 x (zi_ 2 x 0 0) 3332 3333 (zj_ 2 x 0 3332 3333 0)))) 0=true by assumption,show qw_ (ctB (zm_ 32 x (Zu_ [-5] x (zi_ 1 x (zi_ 2 x 0 0) (zj_ 2 x 0 3332 3333 0)) (zj_ 1 x (zi_ 2 x 0 0) 3332 3333 (zj_ 2 x 0 3332 3333 0))) 3332 (Zm_ [-5] x (zi_ 1 x (zi_ 2 x 0 0) (zj_ 2 x 0 3332 3333 0)) 3332 3333 (zj_ 1 x (zi_ 2 x 0 0) 3332 3333 (zj_ 2 x 0 3332 3333 0)))) 0)=true by assumption];rfl
       obtain ⟨d1,d2,d3,d4⟩:=uA_ h2 h5 h7
       rw [d1,d2,d3,d3,d3,d3,d4]
       exact ⟨rfl,rfl⟩)
 ·cases e
end Go.Eng
namespace Go.Eng
open Go.Proofs
set_option linter.unusedVariables false
set_option linter.unusedSimpArgs false
set_option maxRecDepth 100000
set_option maxHeartbeats 1000000
def ftV (acc:List FV) (y:List Int):FV:=(tT y,ftN ((tyL acc).contains (tT y)) (tT y) (bd y),ftD (tT y) (bd y),())
def ftX (acc:List FV) (y:List Int):Int:=ftE ((tyL acc).contains (tT y)) (tT y) (bd y)
def tlN (y:List Int):Int:=tN y+zr (tN y)
def fsG (acc:List FV) (e:Int) (y:List Int):List FV × Int:=
 if y.length=0 then (acc,e) else if tlK y=0 then fsG (acc++[ftV acc y]) (zn_ e (ftX acc y)) (y.drop (max 1 (tlN y).toNat)) else (acc,zn_ e (tlK y))
termination_by y.length
decreasing_by all_goals (rw [List.length_drop];omega)
theorem xH_ {y:List Int} (h:tlK y=0):4<=tN y/\4<=tlN y/\tlN y<=y.length/\¬ y.length < 4/\zK_ ((y.drop (tN y).toNat).take (zr (tN y)).toNat)=true:=by
 by_cases c1:y.length < 4
 ·rw [G3_ c1] at h;cases h
 ·by_cases c2:tN y < 4
  ·rw [G1_ c2] at h;cases h
  ·by_cases c3:(y.length:Int) < tN y+zr (tN y)
   ·rw [G2_ c3] at h;cases h
   ·have hz:=gG_ (n:=tN y) (by omega)
    rw [gJ_ c1 c2 c3] at h
    unfold tlN
    refine ⟨by omega,by omega,by omega,c1,?_⟩
    by_cases c4:zK_ ((y.drop (tN y).toNat).take (zr (tN y)).toNat)=true
    ·exact c4
    ·rw [if_neg c4] at h;cases h
theorem Xh_ {acc:List FV} {e:Int} {y:List Int} (h:y.length=0):fsG acc e y=(acc,e):=by rw [fsG,if_pos h]
theorem uC_ {acc:List FV} {e:Int} {y:List Int} (h:¬ y.length=0) (h1:¬ tlK y=0):fsG acc e y=(acc,zn_ e (tlK y)):=by rw [fsG,if_neg h,if_neg h1]
theorem v7_ {acc:List FV} {e:Int} {y:List Int} (h1:tlK y=0):fsG acc e y=fsG (acc++[ftV acc y]) (zn_ e (ftX acc y)) (y.drop (tlN y).toNat):=by
 have h:=xH_ h1
 rw [fsG,if_neg (by omega),if_pos h1,show max 1 (tlN y).toNat=(tlN y).toNat by omega]
def xF_ (b:List Int) (p:Int):Int:=if 0 > hdQ b p then 0 else hdQ b p
def Qc_ (b:List Int) (p sh:Int):List Int:=zm_ (xF_ b p) b (hdP b p) sh (hdE b p)
def uY_ (b:List Int) (p sh:Int):Int:=Z5_ (xF_ b p) b (hdP b p) sh (hdE b p)
def w9_ (b:List Int) (p sh:Int):List FV × Int:=fsG [] (zW_ (xF_ b p) b (hdP b p) sh (hdE b p)) (Qc_ b p sh)
theorem zbK_ {b:List Int} {p:Int} (h0:0<=p) (h1:p<=b.length):0<=hdP b p/\hdP b p<=b.length:=by
 unfold hdP hdA;split<;>omega
theorem VD_ {y:List Int} (h:tlK y=0):tlI y (tT y)=tT y/\tlR y=bd y/\tlI y (tN y+zr (tN y))=tlN y:=⟨(xG_ h _).1,(xG_ h 0).2,(xG_ h _).1⟩
theorem zbY_ {y:List Int}:(bd y).length<=y.length:=by unfold bd;rw [List.length_drop,List.length_take];omega
theorem wz_ (y:List Int):(tlR y).length<=y.length:=by
 unfold tlR;split
 ·exact zbY_
 ·exact Nat.zero_le _
theorem BO_ (acc:List FV) (f:FV):tyL (acc++[f])=tyL acc++[f.1]:=by unfold tyL;rw [List.map_append];rfl
theorem hy_ (e:Int):zn_ e 0=e:=by unfold zn_;split<;>simp_all
theorem hD_ {m:List (Int × Int)} {acc:List FV} (h:cntM m (tyL acc)) (y:List Int):cntM (qZ_ m (tT y) ((zs_ m (tT y)).getD 0+1)) (tyL (acc++[ftV acc y])):=by
 rw [BO_];exact yG_ h
def yn_:IR:=
(sq (kr [0] [oD 2 (.box [.int .u64 0,.str [],.int .u64 0,.int .u64 0,.int .u64 0,.int .u64 0,.nils])])
(sq (kr [0,2] [oM 12 0,
oC 13 63 [12],
oM 11 13,
oX 14 11 0,
oX 15 11 1,
oD 3 (.box [.int .u64 0,.str [],.int .u64 0,.int .u64 0,.int .u64 0,.int .u64 0,.nils]),
oS 7 3 14,
oM 4 15])
(sq (kr [0,2,3,4] [oM 16 0,
oM 17 4,
oD 18 (.minmax true 17 (cI 0)),
oC 19 12 [16,18],
oM 5 19])
(sq (.reg [oD 20 (.mkmap (.int .i64) (.int .i64)),
oM 6 20])
(sq (.block 0
(.loop
(sq (sq (kr [0,2,3,5,6] [oM 21 5,
oE 22 21,
oB 23 .gtr 22 (cI 0)])
(.cond 23
.skip
(.exit 0)))
(.block 1
(sq (kr [0,2,3,5,6] [oC 25 65 [],
oM 26 5,
oC 27 64 [25,26],
oM 24 27,
oX 28 24 0,
oX 29 24 1,
oX 30 24 2,
oD 7 (.box [.int .i64 0,.nils]),
oS 2 7 28,
oM 8 29,
oM 9 30])
(sq (kr [0,2,3,5,6,7,8,9] [oM 31 0,
oM 32 9,
oC 33 40 [31,32]])
(sq (sq (.reg [oM 34 9,
oB 35 .neq 34 (cI 0)])
(.cond 35
(sq (.reg [oK 36 7 3,
oS 7 2 36])
.ret)
.skip))
(sq (kr [0,2,3,5,6,7,8] [oK 38 2 7,
oM 39 6,
oC 40 66 [38,39],
oM 37 40,
oX 41 37 0,
oX 42 37 1,
oD 10 (.box [.int .i64 0,.nils,.nils]),
oS 3 10 41,
oM 9 42])
(sq (kr [0,2,3,5,6,8,9,10] [oM 43 0,
oM 44 9,
oC 45 40 [43,44]])
(sq (kr [0,2,3,5,6,8,10] [oM 46 6,
oA 47 0 10,
oL 48 47,
oD 49 (.mget (.int .i64) (.int .i64) (0:Int) false 46 48),
oB 50 .add 49 (cI 1),
oN (.mput (.int .i64) (.int .i64) 46 48 50)])
(kd [0,2,3,5,6,8,10] [(oA 51 6 3,[]),
(oL 52 51,[]),
(oK 53 3 10,[0,0]),
(oD 54 (.sliceAll (.cons (.int .i64) (.cons (.sl (.int .u64)) (.cons (.sl (.int .u8)) .nil))) 1 [(0,3,53)]),[1,0]),
(oD 55 (.append (.cons (.int .i64) (.cons (.sl (.int .u64)) (.cons (.sl (.int .u8)) .nil))) 56 52 54),[]),
(oM 56 5,[0,0,0,0,0]),
(oM 57 8,[0,0,0,0,0,0]),
(oD 58 (.slice 1 56 (some 57) none none),[2,0,0,0,0]),
(oA 59 6 3,[0,0,0]),
(oS 1 59 55,[1,0,0]),
(oM 5 58,[])])))))))))))
(sq (kr [2,3] [oK 60 7 3,
oS 7 2 60])
.ret))))))
def X5_:List RD:=[.cell 2 (some 7) true [none,none,none,none,none,none,(some (.cons (.int .i64) (.cons (.sl (.int .u64)) (.cons (.sl (.int .u8)) .nil))))]]
theorem yf_:zo_ Tryz.prog Tryz.f39 yn_ X5_=true:=by kernel_rfl
def Kb_:List AV->List Obj->Option (Prop × AV × List Obj)
 | [.ptr 0 0],[.box [.imm (.int .u8) b,.int .i64 p,.int .i64 sh,.int .i64 od,.int .i64 e,.bool true]]=>some ((0<=p/\p<=b.length/\b.length<=100000/\sh ≠ 0/\e=0,.agg [.int .u64 ((hdT b p).1),.str ((hdT b p).2.1),.int .u64 ((hdT b p).2.2.1),.int .u64 ((hdT b p).2.2.2.1),.int .u64 ((hdT b p).2.2.2.2.1),.int .u64 ((hdT b p).2.2.2.2.2.1),.imm (.cons (.int .i64) (.cons (.sl (.int .u64)) (.cons (.sl (.int .u8)) .nil))) ((w9_ b p sh).1)],[.box [.imm (.int .u8) b,.int .i64 (uY_ b p sh),.int .i64 sh,.int .i64 od,.int .i64 ((w9_ b p sh).2),.bool true]]))
 | _,_=>none
theorem xK_:zf_ Tryz.prog 39 (RwF Kb_).sum:=by
 refine ZS_ Tryz.func39 yf_ (zb_ (s:=RwF Kd_) xM_ (zb_ (s:=RwF zG_) zX_ (zb_ (s:=RoF qS_) Km_ (zb_ (s:=RoF Xv_) u5_ (zb_ (s:=RwF zr_) zy_ (zb_ (s:=RoF Ke_) xN_ (zg_ _))))))) fun args objs p v o e=>?_
 unfold Kb_ at e
 split at e
 ·rename_i b p sh od e
  cases e
  refine ⟨rfl,fun hw ho hp=>?_⟩
  change List Int at b
  clear hw ho
  change List Int at b
  obtain ⟨hp0,hp1,hp2,hp3,rfl⟩:=hp
  have hP:=zbK_ hp0 hp1
  have hY:(Qc_ b p sh).length<=b.length:=u3_
  unfold Qc_ xF_ at hY
  repeat'(intro t ht;first|(cases t<;>first|(cases ht;done)|(try simp only[zh_]at ht;try(exfalso;first|contradiction|omega)))|((first|refine za_ ht ?_|refine ht ?_ ?_|refine ht.1 ?_ ?_|refine ht ?_)<;>clear ht))
  all_goals first
   | exact True.intro
   | exact ⟨hp0,hp1,hp2,hp3,rfl⟩
   | exact ⟨hP.1,hP.2,by omega,hp3⟩
   | (intro r h1 h2;clear h1;refine h2 ⟨[0,2,3,5,6],Option (List FV × List (Int × Int) × List Int × Int),(fun a=>match a with | none=>True | some a=>a.1.length+a.2.2.1.length<=(Qc_ b p sh).length/\cntM a.2.1 (tyL a.1)/\w9_ b p sh=fsG a.1 a.2.2.2 a.2.2.1),(fun a=>match a with | none=>[.ptr 0 0,.ptr 1 0,.ptr 2 0,.imm (.int .u8) (Qc_ b p sh),.mapv 3] | some a=>[.ptr 0 0,.ptr 1 0,.ptr 2 0,.imm (.int .u8) a.2.2.1,.mapv 3]),(fun a=>match a with | none=>[.box [.imm (.int .u8) b,.int .i64 (uY_ b p sh),.int .i64 sh,.int .i64 od,.int .i64 (zW_ (xF_ b p) b (hdP b p) sh (hdE b p)),.bool true],.box [.int .u64 0,.str [],.int .u64 0,.int .u64 0,.int .u64 0,.int .u64 0,.nils],.box [.int .u64 (hdT b p).1,.str (hdT b p).2.1,.int .u64 (hdT b p).2.2.1,.int .u64 (hdT b p).2.2.2.1,.int .u64 (hdT b p).2.2.2.2.1,.int .u64 (hdT b p).2.2.2.2.2.1,.nils],.map true (.int .i64) (.int .i64) ([])] | some a=>[.box [.imm (.int .u8) b,.int .i64 (uY_ b p sh),.int .i64 sh,.int .i64 od,.int .i64 a.2.2.2,.bool true],.box [.int .u64 0,.str [],.int .u64 0,.int .u64 0,.int .u64 0,.int .u64 0,.nils],.box [.int .u64 (hdT b p).1,.str (hdT b p).2.1,.int .u64 (hdT b p).2.2.1,.int .u64 (hdT b p).2.2.2.1,.int .u64 (hdT b p).2.2.2.2.1,.int .u64 (hdT b p).2.2.2.2.2.1,.own 4],.map true (.int .i64) (.int .i64) a.2.1,.row false (.cons (.int .i64) (.cons (.sl (.int .u64)) (.cons (.sl (.int .u8)) .nil))) a.1]),(fun a=>match a with | none=>(Qc_ b p sh).length+1 | some a=>a.2.2.1.length),⟨none,True.intro,rfl,rfl⟩,?_⟩;clear h2)
  have hY2:(Qc_ b p sh).length<=b.length:=hY
  have hG:w9_ b p sh=fsG [] (zW_ (xF_ b p) b (hdP b p) sh (hdE b p)) (Qc_ b p sh):=rfl
  rintro (_ | ⟨acc,m,y,e⟩) hJ
  ·clear hJ
   have hq:=fun h:tlK (Qc_ b p sh)=0=>VD_ h
   have hk:=fun h:tlK (Qc_ b p sh)=0=>xH_ h
   have hdc:=uL_ (acc:=tyL []) xp_ (tT (Qc_ b p sh))
   have hcr:=fun k=>xp_.r k
   have hcl:(tyL ([]:List FV)).length=([]:List FV).length:=List.length_map ..
   repeat'(intro t ht;first|(cases t<;>first|(cases ht;done)|(try simp only[zh_]at ht;try(exfalso;first|contradiction|omega)))|((first|refine za_ ht ?_|refine ht ?_ ?_|refine ht.1 ?_ ?_|refine ht ?_)<;>clear ht))
   all_goals first
    | exact True.intro
    | exact ⟨rfl,rfl,rfl,rfl,rfl,by first | omega | (dsimp only;omega)⟩
    | exact Nat.le_trans (wz_ _) (by first | omega | (dsimp only;omega))
    | (have e1:w9_ b p sh=(([]:List FV),(zW_ (xF_ b p) b (hdP b p) sh (hdE b p))):=hG.trans (Xh_ (by first | omega | (dsimp only at*;omega)))
       rw [e1];exact ⟨rfl,rfl⟩)
    | (have hx:¬ tlK (Qc_ b p sh)=0:=by assumption
       have e1:w9_ b p sh=(([]:List FV),zn_ (zW_ (xF_ b p) b (hdP b p) sh (hdE b p)) (tlK (Qc_ b p sh))):=hG.trans (uC_ (by first | omega | (dsimp only at*;omega)) hx)
       rw [e1];exact ⟨rfl,rfl⟩)
    | skip
   all_goals have hx:tlK (Qc_ b p sh)=0:=by assumption
   all_goals obtain ⟨q1,q2,q3⟩:=hq hx
   all_goals obtain ⟨w1,w2,w3,w4,w5⟩:=hk hx
   all_goals have w6:((Qc_ b p sh).drop (tlN (Qc_ b p sh)).toNat).length=(Qc_ b p sh).length - (tlN (Qc_ b p sh)).toNat:=List.length_drop
   all_goals first
    | (have hc:=hcr (tlI (Qc_ b p sh) (tT (Qc_ b p sh)))
       (try dsimp only)
       exact (show IntKind.i64.min<=(0:Int)+1/\(0:Int)+1<=IntKind.i64.max from by simp only [zl_];omega))
    | (simp only [List.length_cons,List.length_nil];constructor<;>omega)
    | (dsimp only;rw [q3];constructor<;>omega)
    | (rw [q3];constructor<;>omega)
    | (have e1:=hG.trans (v7_ hx)
       refine ⟨some (([]:List FV)++[ftV ([]:List FV) (Qc_ b p sh)],qZ_ ([]:List (Int × Int)) (tT (Qc_ b p sh)) ((zs_ ([]:List (Int × Int)) (tT (Qc_ b p sh))).getD 0+1),(Qc_ b p sh).drop (tlN (Qc_ b p sh)).toNat,zn_ (zW_ (xF_ b p) b (hdP b p) sh (hdE b p)) (ftX ([]:List FV) (Qc_ b p sh))),⟨?_,?_,?_⟩,?_,?_,?_⟩
       ·dsimp only;simp only [List.length_append,List.length_cons,List.length_nil];omega
       ·exact hD_ xp_ _
       ·exact e1
       ·dsimp only;omega
       ·dsimp only;rw [q3];rfl
       ·dsimp only
        rw [q1,q2,hx,hy_]
        unfold ftV ftX
        rw [<- hdc];rfl)
  ·obtain ⟨j1,j2,j3⟩:=hJ
   dsimp only at j1 j2 j3
   have hq:=fun h:tlK y=0=>VD_ h
   have hk:=fun h:tlK y=0=>xH_ h
   have hdc:=uL_ j2 (tT y)
   have hcr:=fun k=>j2.r k
   have hcl:(tyL acc).length=acc.length:=List.length_map ..
   repeat'(intro t ht;first|(cases t<;>first|(cases ht;done)|(try simp only[zh_]at ht;try(exfalso;first|contradiction|omega)))|((first|refine za_ ht ?_|refine ht ?_ ?_|refine ht.1 ?_ ?_|refine ht ?_)<;>clear ht))
   all_goals first
    | exact True.intro
    | exact ⟨rfl,rfl,rfl,rfl,rfl,by first | omega | (dsimp only;omega)⟩
    | exact Nat.le_trans (wz_ _) (by first | omega | (dsimp only;omega))
    | (have e1:w9_ b p sh=(acc,e):=j3.trans (Xh_ (by first | omega | (dsimp only at*;omega)))
       rw [e1];exact ⟨rfl,rfl⟩)
    | (have hx:¬ tlK y=0:=by assumption
       have e1:w9_ b p sh=(acc,zn_ e (tlK y)):=j3.trans (uC_ (by first | omega | (dsimp only at*;omega)) hx)
       rw [e1];exact ⟨rfl,rfl⟩)
    | skip
   all_goals have hx:tlK y=0:=by assumption
   all_goals obtain ⟨q1,q2,q3⟩:=hq hx
   all_goals obtain ⟨w1,w2,w3,w4,w5⟩:=hk hx
   all_goals have w6:(y.drop (tlN y).toNat).length=y.length - (tlN y).toNat:=List.length_drop
   all_goals first
    | (have hc:=hcr (tlI y (tT y))
       (try dsimp only)
       exact (show IntKind.i64.min<=(zs_ m (tlI y (tT y))).getD 0+1/\(zs_ m (tlI y (tT y))).getD 0+1<=IntKind.i64.max from by simp only [zl_];omega))
    | (simp only [List.length_cons,List.length_nil];constructor<;>omega)
    | (dsimp only;rw [q3];constructor<;>omega)
    | (rw [q3];constructor<;>omega)
    | (have e1:=j3.trans (v7_ hx)
       refine ⟨some (acc++[ftV acc y],qZ_ m (tT y) ((zs_ m (tT y)).getD 0+1),y.drop (tlN y).toNat,zn_ e (ftX acc y)),⟨?_,?_,?_⟩,?_,?_,?_⟩
       ·dsimp only;simp only [List.length_append,List.length_cons,List.length_nil];omega
       ·exact hD_ j2 _
       ·exact e1
       ·dsimp only;omega
       ·dsimp only;rw [q3];rfl
       ·dsimp only
        rw [q1,q2,hx,hy_]
        unfold ftV ftX
        rw [<- hdc];rfl)
 ·cases e
def fE (y:List Int):Int:=if (y.length:Int) < 64 then 3332 else u8E (y.take 64) y.length
def fN (y:List Int):Int:=u1N (y.take 64)
def fF (y:List Int):List FV × Int:=fsG [] 0 ((y.take (fN y).toNat).drop 64)
def tbX (y:List Int):Int:=if fE y=0 then (fF y).2 else fE y
def tbS (y:List Int):Int:=if (y.length:Int) < 64 then 0 else if fE y=0 then fN y else 64
def tbV (y:List Int):TV:=(u3V (y.take 64) y.length,ctB (u6N (y.take 64) y.length) 0,uS (y.take 64) y.length 0,uS (y.take 64) y.length 1,uS (y.take 64) y.length 2,uS (y.take 64) y.length 3,(fF y).1,())
theorem zbl_ {x:List Int} {a:Int} (h:u2B x a=true):u8E x a ≠ 0:=by
 have h2:u2E x a ≠ 0:=by unfold u2E;rw [if_pos h];exact k7_ (by decide)
 have h4:u4E x a ≠ 0:=uK_ (hl_ h2)
 have h5:u5E x a ≠ 0:=by unfold u5E;split;exact k7_ (by decide);exact h4
 have h6:u6E x a ≠ 0:=by unfold u6E;rw [WR_ h5];exact h5
 have h7:u7E x a ≠ 0:=by unfold u7E;split;exact k7_ (by decide);exact h6
 exact uK_ h7
theorem hz_ {y:List Int} (h:fE y=0):¬ (y.length:Int) < 64/\64<=fN y/\fN y<=y.length/\(fN y).tmod 8=0:=by
 unfold fE at h
 by_cases c:(y.length:Int) < 64
 ·rw [if_pos c] at h;cases h
 ·rw [if_neg c] at h
  have hb:u2B (y.take 64) y.length=false:=by
   cases k:u2B (y.take 64) y.length with
   | false=>rfl
   | true=>exact absurd h (zbl_ k)
  unfold u2B at hb
  rw [Bool.or_eq_false_iff,Bool.or_eq_false_iff,Bool.not_eq_false',decide_eq_false_iff_not,decide_eq_true_eq,decide_eq_false_iff_not] at hb
  unfold fN
  exact ⟨c,by omega,by omega,hb.2.1⟩
theorem zcu_ {b:List Int} {p:Nat} (h:p<=b.length):hdX b p=(b.drop p).take 64/\hdA b p=((b.drop p).length:Int):=by
 unfold hdX hdA
 rw [Int.toNat_natCast,List.length_drop]
 exact ⟨rfl,by omega⟩
theorem BL_ {b:List Int} {p:Nat} (h:p<=b.length) {sh:Int}:uY_ b p sh=p+tbS (b.drop p)/\(w9_ b p sh).2=tbX (b.drop p)/\(tbX (b.drop p)=0->(((hdT b p).1,(hdT b p).2.1,(hdT b p).2.2.1,(hdT b p).2.2.2.1,(hdT b p).2.2.2.2.1,(hdT b p).2.2.2.2.2.1,(w9_ b p sh).1,()):TV)=tbV (b.drop p)/\tbS (b.drop p)=fN (b.drop p)):=by
 obtain ⟨a1,a2⟩:=zcu_ h
 have hl:(b.drop p).length=b.length - p:=List.length_drop
 have eE:hdE b p=fE (b.drop p):=by unfold hdE fE;rw [a1,a2]
 by_cases h0:fE (b.drop p)=0
 ·obtain ⟨c1,c2,c3,c4⟩:=hz_ h0
  have hs:¬ hdA b p < 64:=by rw [a2];exact c1
  obtain ⟨s1,s2,s3,s4⟩:=bY_ hs
  have eW:xF_ b p=fN (b.drop p) - 64:=by
   unfold xF_;rw [s2,a1];show (if 0 > fN (b.drop p) - 64 then _ else fN (b.drop p) - 64)=_
   rw [if_neg (by omega)]
  have e1:zW_ (xF_ b p) b (hdP b p) sh (hdE b p)=0:=by
   rw [eE,h0,eW,s3];unfold zW_;rw [if_neg (by omega),if_neg (by omega)]
  have e2:Qc_ b p sh=((b.drop p).take (fN (b.drop p)).toNat).drop 64:=by
   unfold Qc_ zm_;rw [if_pos e1,eW,s3]
   rw [show ((p:Int)+64+(fN (b.drop p) - 64)).toNat=p+(fN (b.drop p)).toNat by omega,show ((p:Int)+64).toNat=p+64 by omega,List.take_drop,List.drop_drop]
  have e3:uY_ b p sh=p+fN (b.drop p):=by
   unfold uY_ Z5_;rw [if_pos e1,eW,s3];omega
  have eG:w9_ b p sh=fF (b.drop p):=by unfold w9_;rw [e1,e2];rfl
  have t1:tbS (b.drop p)=fN (b.drop p):=by unfold tbS;rw [if_neg c1,if_pos h0]
  have t2:tbX (b.drop p)=(fF (b.drop p)).2:=by unfold tbX;rw [if_pos h0]
  refine ⟨by rw [e3,t1],by rw [eG,t2],fun _=>⟨?_,t1⟩⟩
  rw [s1,eG,a1,a2];rfl
 ·have e1:zW_ (xF_ b p) b (hdP b p) sh (hdE b p)=fE (b.drop p):=by rw [eE];exact WR_ h0
  have e2:Qc_ b p sh=[]:=by unfold Qc_ zm_;rw [e1,if_neg h0]
  have e3:uY_ b p sh=hdP b p:=by unfold uY_ Z5_;rw [e1,if_neg h0]
  have eG:w9_ b p sh=([],fE (b.drop p)):=by unfold w9_;rw [e1,e2,Xh_ rfl]
  have t2:tbX (b.drop p)=fE (b.drop p):=by unfold tbX;rw [if_neg h0]
  refine ⟨?_,by rw [eG,t2],fun c=>absurd (t2.symm.trans c) h0⟩
  rw [e3]
  unfold hdP tbS
  rw [a2]
  by_cases c:((b.drop p).length:Int) < 64
  ·rw [if_pos c,if_pos c];omega
  ·rw [if_neg c,if_neg c,if_neg h0]
def fdG (y:List Int):List TV × Int × Int:=gG tbX fN tbS tbV y
def fdL (y:List Int):List TV:=if (fdG y).2.1=0 then (fdG y).1 else []
def fdE (y:List Int):Int:=(fdG y).2.1
theorem HU_ {y:List Int} (h:tbX y=0):fE y=0/\64<=fN y/\fN y<=y.length:=by
 unfold tbX at h
 split at h
 ·rename_i c;have:=hz_ c;exact ⟨c,this.2.1,this.2.2.1⟩
 ·exact absurd h (by assumption)
theorem YJ_ {y:List Int} (h:y.length=0):fdG y=([],0,0):=zbM_ h
theorem ge_ {y:List Int} (h:¬ y.length=0) (h1:tbX y=0):fdG y=(tbV y :: (fdG (y.drop (fN y).toNat)).1,(fdG (y.drop (fN y).toNat)).2.1,fN y+(fdG (y.drop (fN y).toNat)).2.2):=zcx_ h h1 (by have:=HU_ h1;omega)
theorem Gz_ {y:List Int} (h:¬ y.length=0) (h1:¬ tbX y=0):fdG y=([],tbX y,tbS y):=zbN_ h h1
theorem zbn_ {y:List Int}:0<=tbS y/\tbS y<=y.length:=by
 unfold tbS
 by_cases c:(y.length:Int) < 64
 ·rw [if_pos c];omega
 ·rw [if_neg c]
  by_cases c2:fE y=0
  ·have:=hz_ c2;rw [if_pos c2];omega
  ·rw [if_neg c2];omega
def ys_:IR:=
(sq (kr [0] [oD 2 (.nilrow YA)])
(sq (.reg [oM 4 0,
oC 5 15 [4],
oM 3 5])
(sq (.block 0
(.loop
(sq (sq (kr [0,2,3] [oM 6 0,
oC 7 14 [6],
oB 8 .eql 7 (cI 0),
oM 9 8,
oT 9 10 (.mov 0),
oT 9 11 (.call false (.f 15) [10]),
oT 9 12 (.bin .gtr 11 (cI 0)),
oP 13 9 12 cF])
(.cond 13
.skip
(.exit 0)))
(.block 1
(kr [0,2,3] [oM 14 2,
oM 15 0,
oC 16 39 [15],
oD 17 (.sliceAll YA 1 [(0,7,16)]),
oD 18 (.append YA 80 14 17),
oM 2 18])))))
(sq (sq (kr [0,2,3] [oM 19 3,
oB 20 .gtr 19 (cI 65528)])
(.cond 20
(.reg [oM 21 0,
oC 22 40 [21,(cI 3332)]])
.skip))
(sq (sq (.reg [oM 23 0,
oC 24 14 [23],
oB 25 .neq 24 (cI 0)])
(.cond 25
(sq (kr [] [oD 2 (.nilrow YA)])
.ret)
.skip))
(sq (kr [2] [oM 26 2,
oM 2 26])
.ret))))))
def ya_:List RD:=[.tmp 2 true (some YA)]
theorem yk_:zo_ Tryz.prog Tryz.f13 ys_ ya_=true:=by kernel_rfl
def Qv_:List AV->List Obj->Option (Prop × AV × List Obj)
 | [.ptr 0 0],[.box [.imm (.int .u8) b,.int .i64 p,.int .i64 sh,.int .i64 od,.int .i64 e,.bool true]]=>some ((0<=p/\p<=b.length/\b.length<=60000/\sh ≠ 0/\e=0,.imm YA (fdL (b.drop p.toNat)),[.box [.imm (.int .u8) b,.int .i64 (p+(fdG (b.drop p.toNat)).2.2),.int .i64 sh,.int .i64 od,.int .i64 (fdE (b.drop p.toNat)),.bool true]]))
 | _,_=>none
theorem KO_:zf_ Tryz.prog 13 (RwF Qv_).sum:=by
 refine ZS_ Tryz.func13 yk_ (zb_ (s:=RoF zB_) zO_ (zb_ (s:=RoF zq_) zu_ (zb_ (s:=RwF Kb_) xK_ (zb_ (s:=RwF zr_) zy_ (zg_ _))))) fun args objs p v o e=>?_
 unfold Qv_ at e
 split at e
 ·rename_i b p sh od e
  cases e
  refine ⟨rfl,fun hw ho hp=>?_⟩
  change List Int at b
  clear hw ho
  change List Int at b
  obtain ⟨hp0,hp1,hp2,hp3,rfl⟩:=hp
  obtain ⟨p,rfl⟩:=Int.eq_ofNat_of_zero_le hp0
  rw [Int.toNat_natCast]
  repeat'(intro t ht;first|(cases t<;>first|(cases ht;done)|(try simp only[zh_]at ht;try(exfalso;first|contradiction|omega)))|((first|refine za_ ht ?_|refine ht ?_ ?_|refine ht.1 ?_ ?_|refine ht ?_)<;>clear ht))
  all_goals first
   | exact True.intro
   | exact ⟨hp0,hp1⟩
   | (intro r h1 h2;clear h1;refine h2 ⟨[0,2,3],Nat × Int × List TV,(fun a=>a.1<=b.length/\a.2.2.length<=a.1+1/\((a.2.1=0/\a.2.2.length<=a.1/\(fdG (b.drop p)).1=a.2.2++(fdG (b.drop a.1)).1/\(fdG (b.drop p)).2.1=(fdG (b.drop a.1)).2.1/\p+(fdG (b.drop p)).2.2=a.1+(fdG (b.drop a.1)).2.2)\/(a.2.1 ≠ 0/\(fdG (b.drop p)).2.1=a.2.1/\p+(fdG (b.drop p)).2.2=a.1))),fun a=>[.ptr 0 0,.own 1,.int .i64 (b.length - p)],fun a=>[.box [.imm (.int .u8) b,.int .i64 a.1,.int .i64 sh,.int .i64 od,.int .i64 a.2.1,.bool true],.row false YA a.2.2],fun a=>if a.2.1=0 then b.length - a.1+1 else 0,⟨(p,0,[]),⟨by omega,by simp,.inl ⟨rfl,by simp,rfl,rfl,rfl⟩⟩,rfl,rfl⟩,?_⟩;clear h2)
  rintro ⟨q,e,acc⟩ ⟨hq,hl,hJ⟩
  dsimp only at hq hl hJ
  have hxl:=BL_ hq (sh:=sh)
  have hsl:=zbn_ (y:=b.drop q)
  have hdl:(b.drop q).length=b.length - q:=List.length_drop
  repeat'(intro t ht;first|(cases t<;>first|(cases ht;done)|(try simp only[zh_]at ht;try(exfalso;first|contradiction|omega)))|((first|refine za_ ht ?_|refine ht ?_ ?_|refine ht.1 ?_ ?_|refine ht ?_)<;>clear ht))
  all_goals (try dsimp only)
  all_goals first
   | exact ⟨Int.natCast_nonneg _,by omega⟩
   | exact ⟨Int.natCast_nonneg _,by omega,by omega,hp3,by assumption⟩
   | (simp only [List.length_cons,List.length_nil];constructor<;>omega)
   | (have h0:¬ e=0:=by assumption
      rcases hJ with hJ | ⟨_,j2,j3⟩
      ·exact absurd hJ.1 h0
      ·have d1:fdL (b.drop p)=[]:=by unfold fdL;rw [j2,if_neg h0]
       have d2:fdE (b.drop p)=e:=j2
       rw [d1,d2,j3];exact ⟨rfl,rfl⟩)
   | skip
  all_goals have h0:e=0:=by assumption
  all_goals subst h0
  all_goals rcases hJ with ⟨_,j1,j2,j3,j4⟩ | hJ
  all_goals first
   | exact absurd rfl hJ.1
   | (have hn:(b.drop q).length=0:=by omega
      rw [YJ_ hn] at j2 j3 j4
      have d1:fdL (b.drop p)=acc:=by unfold fdL;rw [j3,j2,if_pos rfl,List.append_nil]
      have d2:fdE (b.drop p)=0:=j3
      dsimp only at j4
      rw [d1,d2,j4,Int.add_zero];exact ⟨rfl,rfl⟩)
   | skip
  all_goals have hn:¬ (b.drop q).length=0:=by omega
  all_goals obtain ⟨k1,k2,k3⟩:=hxl
  all_goals by_cases hx:tbX (b.drop q)=0
  all_goals first
   | (obtain ⟨k4,k5⟩:=k3 hx
      have k6:=HU_ hx
      rw [ge_ hn hx] at j2 j3 j4
      rw [List.drop_drop] at j2 j3 j4
      refine ⟨(q+(fN (b.drop q)).toNat,tbX (b.drop q),acc++[tbV (b.drop q)]),⟨?_,?_,.inl ⟨hx,?_,?_,j3,?_⟩⟩,?_,rfl,?_⟩
      ·dsimp only;omega
      ·simp only [List.length_append,List.length_cons,List.length_nil];omega
      ·simp only [List.length_append,List.length_cons,List.length_nil];omega
      ·dsimp only;rw [j2,List.append_assoc];rfl
      ·dsimp only at j4 ⊢;omega
      ·dsimp only;rw [if_pos hx,if_pos rfl];omega
      ·dsimp only
       rw [k1,k2,k5,<- k4,show ((q:Int)+fN (b.drop q))=((q+(fN (b.drop q)).toNat:Nat):Int) by omega])
   | (rw [Gz_ hn hx] at j2 j3 j4
      refine ⟨(q+(tbS (b.drop q)).toNat,tbX (b.drop q),acc++[((hdT b q).1,(hdT b q).2.1,(hdT b q).2.2.1,(hdT b q).2.2.2.1,(hdT b q).2.2.2.2.1,(hdT b q).2.2.2.2.2.1,(w9_ b q sh).1,())]),⟨?_,?_,.inr ⟨hx,j3,?_⟩⟩,?_,rfl,?_⟩
      ·dsimp only;omega
      ·simp only [List.length_append,List.length_cons,List.length_nil];omega
      ·dsimp only at j4 ⊢;omega
      ·dsimp only;rw [if_neg hx,if_pos rfl];omega
      ·dsimp only
       rw [k1,k2,show ((q:Int)+tbS (b.drop q))=((q+(tbS (b.drop q)).toNat:Nat):Int) by omega])
 ·cases e
def xj_:IR:=
(sq (kr [0] [oD 2 (.mov (.c (.imm YA []))),
oD 3 (.mov (cI 0))])
(sq (.reg [oM 6 0,
oC 7 11 [6,(cI 3332),(cI 3332)],
oM 4 7])
(sq (.reg [oM 8 4,
oC 9 13 [8],
oM 5 9])
(sq (kr [4,5] [oM 10 5,
oM 11 4,
oC 12 14 [11],
oM 2 10,
oM 3 12])
.ret))))
def W0_:List RD:=[.tmp 2 true (some YA),.tmp 3 true none]
theorem W7_:zo_ Tryz.prog Tryz.f8 xj_ W0_=true:=by kernel_rfl
def qu_:List AV->List Obj->Option (Prop × AV)
 | [.imm (.int .u8) b],[]=>some ((b.length<=60000,.tup [.imm YA (fdL b),.int .i64 (fdE b)]))
 | _,_=>none
theorem k0_:zf_ Tryz.prog 8 (RoF qu_).sum:=by
 refine zw_ Tryz.func8 W7_ (zb_ (s:=RwF ZO_) qd_ (zb_ (s:=RwF Qv_) KO_ (zb_ (s:=RoF zq_) zu_ (zg_ _)))) fun args objs p v e=>?_
 unfold qu_ at e
 split at e
 ·rename_i b
  cases e
  refine ⟨rfl,fun hw ho hp=>?_⟩
  change List Int at b
  clear hw ho
  repeat'(intro t ht;first|(cases t<;>first|(cases ht;done)|(try simp only[zh_]at ht;try(exfalso;first|contradiction|omega)))|((first|refine za_ ht ?_|refine ht ?_ ?_|refine ht.1 ?_ ?_|refine ht ?_)<;>clear ht))
  all_goals first
   | exact True.intro
   | omega
   | ((try simp only [zH_,zJ_,zl_] at*);omega)
   | exact ⟨by decide,Int.natCast_nonneg _,hp,by decide,rfl⟩
   | exact ⟨rfl,rfl⟩
 ·cases e
def z1 (y:List Int):Bool:=zK_ ((y.drop 4).take 4) && zK_ ((y.drop 14).take 2)
theorem JA_ {y:List Int} {a n m:Nat} (h:a+n<=m):((y.take m).drop a).take n=(y.drop a).take n:=by
 rw [List.drop_take,List.take_take,Nat.min_eq_left (by omega)]
theorem xI_ {y:List Int} {n m:Nat} (h:n<=m):(y.take m).take n=y.take n:=by
 rw [List.take_take,Nat.min_eq_left h]
theorem numZ:∀ (l:List Int) (n:Int),0<=n->(∀ x ∈ l,0<=x)->(l.foldl (fun n c=>n*256+c) n=0 ↔ n=0/\zK_ l=true)
 | [],n,h,_=>⟨fun h=>⟨h,rfl⟩,fun h=>h.1⟩
 | c :: r,n,h,hl=>by
   have hc:=hl c (List.mem_cons_self ..)
   have ih:=numZ r (n*256+c) (by omega) fun x hx=>hl x (List.mem_cons_of_mem _ hx)
   rw [List.foldl_cons,ih]
   unfold zK_
   rw [List.all_cons,Bool.and_eq_true,decide_eq_true_eq]
   constructor
   ·rintro ⟨h1,h2⟩;exact ⟨by omega,by omega,h2⟩
   ·rintro ⟨h1,h2,h3⟩;exact ⟨by omega,h3⟩
theorem bs_ {l:List Int} (hl:∀ x ∈ l,0<=x):ze_ l=0 ↔ zK_ l=true:=by
 have:=numZ l 0 (Int.le_refl _) hl
 unfold ze_;rw [this];simp
def Wo_ (b:List Int):Bool:=zK_ (b.drop (zi b)) && qw_ (b.take (zi b))
theorem zbD_ {b:List Int} (h:b.length=32):Wo_ b=(ctK b 0 && qw_ (ctB b 0) && zK_ (ctR b 0))/\(Wo_ b=true->nmS b=ctB b 0):=by
 have hle:=yD_ (c:=0) b 0 (Int.le_refl _)
 by_cases hi:0<=ZY_ 0 b 0
 ·have hz:zi b=(ZY_ 0 b 0).toNat:=if_pos hi
  have hlt:zi b < 32:=by omega
  have h0:b.getD (zi b) 0=0:=by
   have:∀ (l:List Int) (i:Int),0<=i->0<=ZY_ 0 l i->i<=ZY_ 0 l i/\l.getD (ZY_ 0 l i - i).toNat 0=0:=by
    intro l
    induction l with
    | nil=>intro i _ h;exact absurd h (by unfold ZY_;decide)
    | cons a l ih=>
      intro i h1 h2
      unfold ZY_ at h2 ⊢
      split
      ·rename_i ha;rw [Int.sub_self];exact ⟨Int.le_refl _,ha⟩
      ·rename_i ha
       rw [if_neg ha] at h2
       obtain ⟨h3,h4⟩:=ih (i+1) (by omega) h2
       refine ⟨by omega,?_⟩
       have:(ZY_ 0 l (i+1) - i).toNat=(ZY_ 0 l (i+1) - (i+1)).toNat+1:=by omega
       rw [this,List.getD_cons_succ];exact h4
   have:=(this b 0 (Int.le_refl _) hi).2
   rwa [Int.sub_zero,<- hz] at this
  have hB:ctB b 0=b.take (zi b):=by unfold ctB;rw [if_pos hi,hz]
  have hR:ctR b 0=b.drop (zi b+1):=by unfold ctR;rw [if_pos hi,hz];congr 1;omega
  have hd:zK_ (b.drop (zi b))=zK_ (b.drop (zi b+1)):=by
   rw [zC_ (show zi b < b.length by omega) 0,h0];unfold zK_;rw [List.all_cons];rfl
  have hK:ctK b 0=true:=decide_eq_true hi
  unfold Wo_ nmS
  rw [hK,hB,hR,hd]
  refine ⟨by simp only [Bool.true_and,Bool.and_comm],fun hh=>?_⟩
  simp only [Bool.and_eq_true] at hh
  rw [if_pos hh.1]
 ·have hz:zi b=32:=by unfold zi;rw [if_neg hi,h]
  have hK:ctK b 0=false:=decide_eq_false hi
  have hn:qw_ (b.take 32)=false:=by unfold qw_;rw [decide_eq_false (by rw [List.length_take];omega)];rfl
  unfold Wo_
  rw [hK,hz,hn]
  refine ⟨by simp,fun hh=>by simp at hh⟩
theorem uB_ {y:List Int} (h:24<=y.length):ZB_ [8,8,4,4] y=[ze_ (y.take 8),ze_ ((y.drop 8).take 8),ze_ ((y.drop 16).take 4),ze_ ((y.drop 20).take 4)]/\qh_ [8,8,4,4] y=0:=by
 have hr:zZ_ [8,8,4,4]=true:=by decide
 have a4:zx_ 4=4:=by decide
 have a8:zx_ 8=8:=by decide
 have t8:Int.toNat 8=8:=rfl
 have t4:Int.toNat 4=4:=rfl
 have p8:(0:Int) < 8:=by decide
 have p4:(0:Int) < 4:=by decide
 unfold ZB_ qh_ ZZ_
 rw [if_pos hr]
 simp only [QD_,a4,a8,t8,t4,if_pos p8,if_pos p4,List.length_drop,List.drop_drop]
 rw [if_neg (by omega),if_neg (by omega),if_neg (by omega),if_neg (by omega)]
 exact ⟨rfl,rfl⟩
theorem HQ_ {x:List Int} {a:Int} {e:Int} (h:u5E x a=e) (h0:e ≠ 0):u8E x a=e:=by
 have h6:u6E x a=e:=by unfold u6E;rw [h];exact WR_ h0
 have h7:u7E x a=e:=by
  unfold u7E;rw [h6];split
  ·exact K0_ h0
  ·rfl
 unfold u8E Zm_;rw [h7,if_neg h0]
theorem zaf_ {w p sh od e:Int} {b:List Int} (h:e ≠ 0):zj_ w b p sh od e=e:=by
 unfold zj_;split
 ·unfold Zm_;rw [if_neg h]
 ·exact K0_ h
def idY (y:List Int):Int:=y.getD 2 0
def nmY (y:List Int):List Int:=(y.take 40).drop 8
def rE (y:List Int):Int:=if ze_ (y.take 2) < 64\/¬ (ze_ (y.take 2)).tmod 8=0\/(y.length:Int) < ze_ (y.take 2) then 3332 else if ¬ ze_ ((y.take 8).drop 3)=0 then 3333 else if idY y=255 then 266 else if Wo_ (nmY y)=false then 3333 else 0
theorem zbR_ {y:List Int} (hb:∀ z ∈ y,0<=z/\z<=255) (h:¬ (y.length:Int) < 64):fE y=rE y/\fN y=ze_ (y.take 2)/\(rE y=0->u3V (y.take 64) y.length=idY y/\ctB (u6N (y.take 64) y.length) 0=nmS (nmY y)/\∀ k,k < 4->uS (y.take 64) y.length k=(ZB_ [8,8,4,4] (y.drop 40)).getD k 0):=by
 have hx:(y.take 64).length=64:=by rw [List.length_take];omega
 have hxb:∀ z ∈ y.take 64,0<=z/\z<=255:=fun z hz=>hb z (List.mem_of_mem_take hz)
 obtain ⟨c1,c2,c3,c4,c5⟩:=gl_ hxb hx
 have e2:(y.take 64).take 2=y.take 2:=xI_ (by decide)
 rw [e2] at c1
 have hfE:fE y=u8E (y.take 64) y.length:=if_neg h
 have hfN:fN y=ze_ (y.take 2):=c1
 rw [hfE,hfN]
 refine and_comm.2 ?_
 rw [and_assoc]
 refine ⟨rfl,?_⟩
 by_cases B:ze_ (y.take 2) < 64\/¬ (ze_ (y.take 2)).tmod 8=0\/(y.length:Int) < ze_ (y.take 2)
 ·have r:rE y=3332:=if_pos B
  have hB:u2B (y.take 64) y.length=true:=za0_ (by rw [c1];exact B)
  have h2:u2E (y.take 64) y.length=3332:=by unfold u2E;rw [if_pos hB,c5];rfl
  obtain ⟨a1,a2,a3⟩:=yN_ h2
  have h3:u3V (y.take 64) y.length=0:=by rw [a1];exact hi_ (by decide)
  have h4:u4E (y.take 64) y.length=3332:=by rw [a3,zaf_ (by decide)];unfold Zm_;rw [if_neg (by decide)]
  have h5:u5E (y.take 64) y.length=3332:=by unfold u5E;rw [h3,if_neg (by decide),h4]
  rw [r]
  exact ⟨fun c=>(by cases c),HQ_ h5 (by decide)⟩
 ·have hB:u2B (y.take 64) y.length=false:=by
   refine G0_ ?_ ?_ ?_
   ·rw [c1];exact fun c=>B (.inl c)
   ·rw [c1];exact Classical.byContradiction fun c=>B (.inr (.inl c))
   ·rw [c1];exact fun c=>B (.inr (.inr c))
  have h2:u2E (y.take 64) y.length=0:=by unfold u2E;rw [hB,c5];rfl
  obtain ⟨a1,a2,a3⟩:=yN_ h2
  have p1:zi_ 2 (y.take 64) 0 0=2:=c4
  rw [p1] at a1 a2 a3
  obtain ⟨n1,n2,n3⟩:=yC_ (w:=1) (p:=2) (sh:=3332) (od:=3333) (b:=y.take 64) (by decide) (by decide) (by decide) (by omega)
  have hid:u3V (y.take 64) y.length=idY y:=by
   rw [a1,n1]
   show ze_ (((y.take 64).drop 2).take 1)=_
   rw [JA_ (by decide)]
   unfold idY
   rw [zC_ (show 2 < y.length by omega) 0]
   unfold ze_;simp
  rw [n2,n3] at a2 a3
  obtain ⟨z1,z2⟩:=gm_ (k:=5) (p:=3) (sh:=3332) (od:=3333) (b:=y.take 64) (by decide) (by decide) (by decide) (by omega)
  have e5:((y.take 64).drop (3:Int).toNat).take (5:Int).toNat=(y.take 8).drop 3:=by
   show ((y.take 64).drop 3).take 5=_
   rw [JA_ (by decide),List.drop_take]
  rw [e5] at z1 z2
  have a3':u4E (y.take 64) y.length=Zm_ [0 - 5] (y.take 64) 3 3332 3333 0:=a3
  have a2':u4P (y.take 64) y.length=Zu_ [0 - 5] (y.take 64) 3 0:=a2
  rw [z1] at a3'
  rw [z2] at a2'
  have hz0:ze_ ((y.take 8).drop 3)=0 ↔ zK_ ((y.take 8).drop 3)=true:=bs_ fun z hz=>(hb z (List.mem_of_mem_take (List.mem_of_mem_drop hz))).1
  have r1:rE y=if ¬ ze_ ((y.take 8).drop 3)=0 then 3333 else if idY y=255 then 266 else if Wo_ (nmY y)=false then 3333 else 0:=if_neg B
  by_cases Z:zK_ ((y.take 8).drop 3)=true
  ·rw [if_pos Z] at a3' a2'
   rw [if_neg (not_not_intro (hz0.2 Z))] at r1
   have hid2:0<=idY y/\idY y<=255:=hb _ (zv_ (show 2 < y.length by omega) 0)
   by_cases I:idY y=255
   ·rw [if_pos I] at r1
    have h5:u5E (y.take 64) y.length=266:=by unfold u5E;rw [hid,I,if_pos (by decide),a3'];rfl
    rw [r1]
    exact ⟨fun c=>(by cases c),HQ_ h5 (by decide)⟩
   ·rw [if_neg I] at r1
    have h5:u5E (y.take 64) y.length=0:=by unfold u5E;rw [hid,if_neg (by omega),a3']
    have t1:zW_ 32 (y.take 64) 8 3332 0=0:=by unfold zW_;rw [if_neg (by decide),if_neg (by omega)]
    have h6:u6N (y.take 64) y.length=nmY y:=by
     unfold u6N;rw [a2',h5]
     show zm_ 32 (y.take 64) 8 3332 0=_
     unfold zm_;rw [if_pos t1]
     show ((y.take 64).take 40).drop 8=_
     rw [xI_ (by decide)];rfl
    have h6p:u6P (y.take 64) y.length=40:=by
     unfold u6P;rw [a2',h5]
     show Z5_ 32 (y.take 64) 8 3332 0=_
     unfold Z5_;rw [if_pos t1];rfl
    have h6e:u6E (y.take 64) y.length=0:=by unfold u6E;rw [a2',h5];exact t1
    have hbl:(nmY y).length=32:=by unfold nmY;rw [List.length_drop,List.length_take];omega
    obtain ⟨m1,m2⟩:=zbD_ hbl
    have hO:u7O (y.take 64) y.length=!Wo_ (nmY y):=by
     unfold u7O;rw [h6,m1]
     have tz:=hQ_ (ctR (nmY y) 0)
     rw [<- tz]
     cases ctK (nmY y) 0<;>cases qw_ (ctB (nmY y) 0)<;>simp [Nat.pos_iff_ne_zero]
    cases hn:Wo_ (nmY y) with
    | false=>
      rw [hn] at hO r1
      have h7:u7E (y.take 64) y.length=3333:=by unfold u7E;rw [hO,h6e];rfl
      have h8:u8E (y.take 64) y.length=3333:=by unfold u8E Zm_;rw [h7];rfl
      rw [r1,h8];exact ⟨fun c=>(by cases c),rfl⟩
    | true=>
      rw [hn] at hO r1
      have h7:u7E (y.take 64) y.length=0:=by unfold u7E;rw [hO,h6e];rfl
      obtain ⟨g1,g2⟩:=uB_ (y:=(y.take 64).drop 40) (by rw [List.length_drop];omega)
      obtain ⟨g3,g4⟩:=uB_ (y:=y.drop 40) (by rw [List.length_drop];omega)
      have h8:u8E (y.take 64) y.length=0:=by
       unfold u8E Zm_;rw [h7,h6p,if_pos rfl]
       have g2':qh_ [8,8,4,4] ((y.take 64).drop (40:Int).toNat)=0:=g2
       rw [g2'];rfl
      have hL:u8L (y.take 64) y.length=ZB_ [8,8,4,4] (y.drop 40)++[0,0,0,0]:=by
       unfold u8L Jy_;rw [h7,h6p,if_pos rfl]
       show ZB_ [8,8,4,4] ((y.take 64).drop 40)++_=_
       rw [g1,g3]
       have q:(y.take 64).drop 40=(y.drop 40).take 24:=by rw [List.drop_take]
       rw [q,xI_ (by decide),JA_ (by decide),JA_ (by decide),JA_ (by decide)]
      rw [r1,h8]
      refine ⟨fun _=>⟨hid,?_,fun k hk=>?_⟩,rfl⟩
      ·rw [h6];exact (m2 hn).symm
      ·unfold uS;rw [hL,g3]
       have:k=0\/k=1\/k=2\/k=3:=by omega
       rcases this with rfl | rfl | rfl | rfl<;>rfl
  ·rw [if_neg Z] at a3'
   rw [if_pos fun c=>Z (hz0.1 c)] at r1
   have h5:u5E (y.take 64) y.length=3333:=by
    unfold u5E;rw [a3'];split<;>rfl
   rw [r1]
   exact ⟨fun c=>(by cases c),HQ_ h5 (by decide)⟩
theorem za9_:∀ (n:Nat) (acc:List FV) (e:Int) (y:List Int),y.length<=n->e ≠ 0->(fsG acc e y).2=e
 | n,acc,e,y,hn,he=>by
   by_cases h0:y.length=0
   ·rw [Xh_ h0]
   ·by_cases h1:tlK y=0
    ·have:=xH_ h1
     rw [v7_ h1,K0_ he]
     cases n with
     | zero=>omega
     | succ n=>exact za9_ n _ e _ (by rw [List.length_drop];omega) he
    ·rw [uC_ h0 h1];exact K0_ he
theorem zch_ {D:Bool} {t:Int} {x:List Int} (h:ftE D t x=0):rfN D t x=ftN D t x:=by
 unfold ftE at h
 unfold rfN ftN
 split
 ·rfl
 ·rename_i c;rw [if_neg c] at h
  split
  ·rfl
  ·rename_i c2;rw [if_neg c2] at h
   split
   ·rfl
   ·rename_i c3;rw [if_neg c3] at h
    split
    ·rfl
    ·rename_i c4;rw [if_neg c4] at h;rw [if_pos h]
def UY_:IR:=
(sq (kr [0] [oD 2 (.mov (.c (.str []))),
oD 3 (.mov cF)])
(sq (.reg [oD 4 (.mov (cI 0))])
(sq (.block 0
(.loop
(sq (sq (kr [0,4] [oM 6 4,
oB 7 .lss 6 (cI 32),
oM 8 7,
oT 8 9 (.mov 0),
oT 8 10 (.mov 4),
oT 8 11 (.indexSl 1 9 10),
oT 8 12 (.load none 11),
oT 8 13 (.bin .neq 12 (.c (.int .u8 0))),
oP 14 8 13 cF])
(.cond 14
.skip
(.exit 0)))
(.block 1
(kr [0,4] [oM 15 4,
oB 16 .add 15 (cI 1),
oM 4 16])))))
(sq (sq (kr [0,4] [oM 17 4,
oM 5 17])
(.block 2
(.loop
(sq (sq (kr [0,4,5] [oM 18 5,
oB 19 .lss 18 (cI 32)])
(.cond 19
.skip
(.exit 2)))
(sq (.block 3
(sq (kr [0,4,5] [oM 22 0,
oM 23 5,
oI 24 1 22 23,
oL 25 24,
oB 26 .neq 25 (.c (.int .u8 0))])
(.cond 26
(sq (.reg [oD 2 (.mov (.c (.str []))),
oD 3 (.mov cF)])
.ret)
.skip)))
(kr [0,4,5] [oM 20 5,
oB 21 .add 20 (cI 1),
oM 5 21]))))))
(sq (kd [0,4] [(oM 27 0,[]),
(oM 28 4,[0]),
(oD 29 (.slice 1 27 none (some 28) none),[]),
(oD 30 (.b2s 29),[]),
(oM 31 0,[0,0,0,0]),
(oM 32 4,[0,0,0,0,0]),
(oD 33 (.slice 1 31 none (some 32) none),[2,0,0,0]),
(oD 34 (.b2s 33),[3,0,0,0]),
(oC 35 56 [34],[4,0,0,0]),
(oM 2 30,[]),
(oM 3 35,[])])
.ret)))))
def Ui_:List RD:=[.tmp 2 true none,.tmp 3 true none]
theorem Ux_:zo_ Tryz.prog Tryz.f32 UY_ Ui_=true:=by kernel_rfl
def WE_:List AV->List Obj->Option (Prop × AV)
 | [.imm (.int .u8) b],[]=>some ((b.length=32,.tup [.str (nmS b),.bool (Wo_ b)]))
 | _,_=>none
theorem VG_:zf_ Tryz.prog 32 (RoF WE_).sum:=by
 refine zw_ Tryz.func32 Ux_ (zb_ (s:=RoF wp_) vb_ (zg_ _)) fun args objs p v e=>?_
 unfold WE_ at e
 split at e
 ·rename_i b
  cases e
  refine ⟨rfl,fun hw ho hp=>?_⟩
  change List Int at b
  clear hw ho
  repeat'(intro t ht;first|(cases t<;>first|(cases ht;done)|(try simp only[zh_]at ht))|((first|refine za_ ht ?_|refine ht ?_ ?_|refine ht.1 ?_ ?_|refine ht ?_)<;>clear ht))
  all_goals first
   | exact True.intro
   | (intro r h1 h2;clear h1;refine h2 ⟨[0,4],Nat,(fun i=>i<=32/\ZY_ 0 b 0=ZY_ 0 (b.drop i) i),fun i=>[.imm (.int .u8) b,.int .i64 i],fun _=>[],fun i=>32 - i,⟨0,⟨Nat.zero_le _,rfl⟩,rfl,rfl⟩,?_⟩;clear h2)
  rintro i ⟨hi,he⟩
  repeat'(intro t ht;first|(cases t<;>first|(cases ht;done)|(try simp only[zh_]at ht;try(exfalso;first|contradiction|omega)))|((first|refine za_ ht ?_|refine ht ?_ ?_|refine ht.1 ?_ ?_|refine ht ?_)<;>clear ht))
  all_goals first
   | exact True.intro
   | ((try simp only [zH_,zJ_,zl_] at*);omega)
   | (have hz:zi b=i:=by
       first
        | (exact (zbg_ (by omega) he).trans (by omega))
        | (exact zb5_ (by omega) he (by assumption))
      (intro r h1 h2;clear h1;refine h2 ⟨[0,4,5],Nat,(fun j=>i<=j/\j<=32/\zK_ ((b.drop i).take (j - i))=true),fun j=>[.imm (.int .u8) b,.int .i64 i,.int .i64 j],fun _=>[],fun j=>32 - j,⟨i,⟨Nat.le_refl _,hi,by rw [Nat.sub_self];rfl⟩,rfl,rfl⟩,?_⟩;clear h2))
   | exact ⟨i+1,⟨by omega,he.trans (zaw_ (by omega) (by assumption))⟩,by dsimp only;omega,rfl,rfl⟩
  all_goals rintro j ⟨hj1,hj2,hj3⟩
  all_goals repeat'(intro t ht;first|(cases t<;>first|(cases ht;done)|(try simp only[zh_]at ht;try(exfalso;first|contradiction|omega)))|((first|refine za_ ht ?_|refine ht ?_ ?_|refine ht.1 ?_ ?_|refine ht ?_)<;>clear ht))
  all_goals first
   | exact True.intro
   | ((try simp only [zH_,zJ_,zl_] at*);omega)
   | (have h0:zK_ (b.drop (zi b))=false:=by
       rw [hz]
       have:=xE_ (b:=b) (p:=i) (k:=j) (n:=b.length) (by omega) hj1 (by omega) (by assumption)
       rwa [List.take_of_length_le (by rw [List.length_drop];omega)] at this
      refine ⟨?_,rfl⟩;unfold nmS Wo_;rw [h0];rfl)
   | exact ⟨j+1,⟨by omega,by omega,w8_ (by omega) hj3 hj1 (by assumption)⟩,by dsimp only;omega,rfl,rfl⟩
   | (have h0:zK_ (b.drop (zi b))=true:=by
       rw [hz];rwa [List.take_of_length_le (by rw [List.length_drop];omega)] at hj3
      refine ⟨?_,rfl⟩;unfold nmS Wo_;rw [h0,hz];rfl)
 ·cases e
end Go.Eng

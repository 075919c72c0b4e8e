/- Parts of the proof: N4, N5, N6, N7, N8, N9, P1, P2. No condition. -/
import Derived.Test.YtjajlkddpekdjaaDoorProg
import Derived.Test.YtjajlkddpekdjaaDoorXC10
import Derived.KernelRfl
import Derived.Test.YtjajlkddpekdjaaDoorXC14
namespace Go.Eng
open Go.Proofs
set_option linter.unusedVariables false
set_option linter.unusedSimpArgs false
set_option maxRecDepth 100000
set_option maxHeartbeats 1000000
def Xv_:IR:=
(sq (kr [0,1] [oD 2 (.boxv 0),
oD 4 (.mov cF)])
(sq (sq (.reg [oA 6 4 2,
oL 7 6,
oE 8 7,
oD 9 (.mov (cI 0))])
(.block 0
(.loop
(sq (kr [1,8,9] [oB 10 .lss 9 8])
(sq (.cond 10
.skip
(.exit 0))
(sq (.block 1
(sq (.reg [oM 11 9,
oM 5 11])
(sq (.reg [oM 12 1,
oM 13 5,
oD 14 (.call false 12 [13]),
oD 15 (.un .not 14)])
(.cond 15
(sq (kr [] [oD 4 (.mov cF)])
.ret)
.skip))))
(kr [1,8,9] [oB 16 .add 9 (cI 1),
oM 9 16])))))))
(sq (kr [] [oD 4 (.mov cT)])
.ret)))
def xT_:List RD:=[.tmp 4 true none]
theorem Xe_:zm_ Tryd.prog Tryd.f39 Xv_ xT_=true:=by kernel_rfl
def qB_:List AV->List Obj->Option (Prop × AV)
 | [.agg [.int .i64 c,.int .i64 f,.bool h,.int .u64 x,.imm (.int .u8) v,.imm (.int .u8) m],.fn 59 [] [.ptr 0 0,.ptr 1 0]],[.box [.int .i64 a1,.int .i64 a2,.bool a3,.int .u64 a4,.imm (.int .u8) a5,.imm (.int .u8) a6],.box [.int .i64 b1,.int .i64 b2,.bool b3,.int .u64 b4,.imm (.int .u8) b5,.imm (.int .u8) b6]]=>some ((v.length<=a5.length/\v.length<=b5.length/\v.length<=1000000,.bool ((List.range v.length).all (tkA (a1,a2,a3,a4,a5,a6,()) (b1,b2,b3,b4,b5,b6,())))))
 | [.agg [.int .i64 c,.int .i64 f,.bool h,.int .u64 x,.imm (.int .u8) v,.imm (.int .u8) m],.fn 42 [] [.ptr 0 0,.ptr 1 0]],[.box [.int .i64 a1,.int .i64 a2,.bool a3,.int .u64 a4,.imm (.int .u8) a5,.imm (.int .u8) a6],.box [.int .i64 b1,.int .i64 b2,.bool b3,.int .u64 b4,.imm (.int .u8) b5,.imm (.int .u8) b6]]=>some ((v.length<=a5.length/\v.length<=b5.length/\v.length<=1000000,.bool ((List.range v.length).all (clA (a1,a2,a3,a4,a5,a6,()) (b1,b2,b3,b4,b5,b6,())))))
 | [.agg [.int .i64 c,.int .i64 f,.bool h,.int .u64 x,.imm (.int .u8) v,.imm (.int .u8) m],.fn 40 [] [.ptr 0 0,.ptr 1 0]],[.box [.int .i64 a1,.int .i64 a2,.bool a3,.int .u64 a4,.imm (.int .u8) a5,.imm (.int .u8) a6],.box [.int .i64 b1,.int .i64 b2,.bool b3,.int .u64 b4,.imm (.int .u8) b5,.imm (.int .u8) b6]]=>some ((v.length<=a5.length/\v.length<=b5.length/\v.length<=1000000,.bool ((List.range v.length).all (cvA (b1,b2,b3,b4,b5,b6,()) (a1,a2,a3,a4,a5,a6,())))))
 | _,_=>none
theorem Q9_:zf_ Tryd.prog 39 (RoF qB_).sum:=by
 refine zi_ Tryd.func39 Xe_ (zb_ (s:=RoF qG_) kP_ (zb_ (s:=RoF qn_) kz_ (zb_ (s:=RoF qF_) kO_ (ze_ _)))) fun args objs p v e=>?_
 unfold qB_ at e
 split at e
 ·rename_i c f h x v m a1 a2 a3 a4 a5 a6 b1 b2 b3 b4 b5 b6
  cases e
  refine ⟨rfl,fun hw ho hp=>?_⟩
  change List Int at v
  change List Int at m
  change List Int at a5
  change List Int at a6
  change List Int at b5
  change List Int at b6
  clear hw ho
  obtain ⟨h1,h2,h3⟩:=hp
  repeat'(intro t ht;first|(cases t<;>first|(cases ht;done)|(try simp only[zg_]at ht;try(exfalso;first|contradiction|omega)))|((first|refine za_ ht ?_|refine ht ?_ ?_|refine ht.1 ?_ ?_|refine ht ?_)<;>clear ht))
  all_goals first
   | exact True.intro
   | (intro r h1 h2;clear h1;refine h2 ⟨[1,8,9],Nat,(fun i=>i<=v.length/\(List.range i).all (tkA (a1,a2,a3,a4,a5,a6,()) (b1,b2,b3,b4,b5,b6,()))=true),fun i=>[.fn 59 [] [.ptr 0 0,.ptr 1 0],.int .i64 v.length,.int .i64 i],fun _=>[.box [.int .i64 a1,.int .i64 a2,.bool a3,.int .u64 a4,.imm (.int .u8) a5,.imm (.int .u8) a6],.box [.int .i64 b1,.int .i64 b2,.bool b3,.int .u64 b4,.imm (.int .u8) b5,.imm (.int .u8) b6]],fun i=>v.length - i,⟨0,⟨Nat.zero_le _,rfl⟩,rfl,rfl⟩,?_⟩;clear h2)
  rintro i ⟨hi,hJ⟩
  have e1:=fun k=>Wb_ (g:=tkA (a1,a2,a3,a4,a5,a6,()) (b1,b2,b3,b4,b5,b6,())) (i:=i) hJ k
  have e2:=fun h k=>v1_ (g:=tkA (a1,a2,a3,a4,a5,a6,()) (b1,b2,b3,b4,b5,b6,())) (i:=i) (n:=v.length) h k
  repeat'(intro t ht;first|(cases t<;>first|(cases ht;done)|(try simp only[zg_]at ht;try(exfalso;first|contradiction|omega)))|((first|refine za_ ht ?_|refine ht ?_ ?_|refine ht.1 ?_ ?_|refine ht ?_)<;>clear ht))
  all_goals (try simp only [Int.toNat_natCast] at ht ⊢)
  all_goals first
   | exact True.intro
   | omega
   | (refine ⟨?_,?_,?_⟩<;>omega)
   | ((try dsimp only);simp only [zp_];omega)
   | (rw [e2 (by omega) ht];exact ⟨rfl,by first | rfl | exact True.intro⟩)
   | (have e:i=v.length:=by omega
      rw [e] at hJ;rw [hJ];exact ⟨rfl,by first | rfl | exact True.intro⟩)
   | (refine ⟨i+1,⟨by omega,e1 ht⟩,?_,rfl,by first | rfl | exact True.intro⟩
      (try dsimp only);omega)
 ·rename_i c f h x v m a1 a2 a3 a4 a5 a6 b1 b2 b3 b4 b5 b6
  cases e
  refine ⟨rfl,fun hw ho hp=>?_⟩
  change List Int at v
  change List Int at m
  change List Int at a5
  change List Int at a6
  change List Int at b5
  change List Int at b6
  clear hw ho
  obtain ⟨h1,h2,h3⟩:=hp
  repeat'(intro t ht;first|(cases t<;>first|(cases ht;done)|(try simp only[zg_]at ht;try(exfalso;first|contradiction|omega)))|((first|refine za_ ht ?_|refine ht ?_ ?_|refine ht.1 ?_ ?_|refine ht ?_)<;>clear ht))
  all_goals first
   | exact True.intro
   | (intro r h1 h2;clear h1;refine h2 ⟨[1,8,9],Nat,(fun i=>i<=v.length/\(List.range i).all (clA (a1,a2,a3,a4,a5,a6,()) (b1,b2,b3,b4,b5,b6,()))=true),fun i=>[.fn 42 [] [.ptr 0 0,.ptr 1 0],.int .i64 v.length,.int .i64 i],fun _=>[.box [.int .i64 a1,.int .i64 a2,.bool a3,.int .u64 a4,.imm (.int .u8) a5,.imm (.int .u8) a6],.box [.int .i64 b1,.int .i64 b2,.bool b3,.int .u64 b4,.imm (.int .u8) b5,.imm (.int .u8) b6]],fun i=>v.length - i,⟨0,⟨Nat.zero_le _,rfl⟩,rfl,rfl⟩,?_⟩;clear h2)
  rintro i ⟨hi,hJ⟩
  have e1:=fun k=>Wb_ (g:=clA (a1,a2,a3,a4,a5,a6,()) (b1,b2,b3,b4,b5,b6,())) (i:=i) hJ k
  have e2:=fun h k=>v1_ (g:=clA (a1,a2,a3,a4,a5,a6,()) (b1,b2,b3,b4,b5,b6,())) (i:=i) (n:=v.length) h k
  repeat'(intro t ht;first|(cases t<;>first|(cases ht;done)|(try simp only[zg_]at ht;try(exfalso;first|contradiction|omega)))|((first|refine za_ ht ?_|refine ht ?_ ?_|refine ht.1 ?_ ?_|refine ht ?_)<;>clear ht))
  all_goals (try simp only [Int.toNat_natCast] at ht ⊢)
  all_goals first
   | exact True.intro
   | omega
   | (refine ⟨?_,?_,?_⟩<;>omega)
   | ((try dsimp only);simp only [zp_];omega)
   | (rw [e2 (by omega) ht];exact ⟨rfl,by first | rfl | exact True.intro⟩)
   | (have e:i=v.length:=by omega
      rw [e] at hJ;rw [hJ];exact ⟨rfl,by first | rfl | exact True.intro⟩)
   | (refine ⟨i+1,⟨by omega,e1 ht⟩,?_,rfl,by first | rfl | exact True.intro⟩
      (try dsimp only);omega)
 ·rename_i c f h x v m a1 a2 a3 a4 a5 a6 b1 b2 b3 b4 b5 b6
  cases e
  refine ⟨rfl,fun hw ho hp=>?_⟩
  change List Int at v
  change List Int at m
  change List Int at a5
  change List Int at a6
  change List Int at b5
  change List Int at b6
  clear hw ho
  obtain ⟨h1,h2,h3⟩:=hp
  repeat'(intro t ht;first|(cases t<;>first|(cases ht;done)|(try simp only[zg_]at ht;try(exfalso;first|contradiction|omega)))|((first|refine za_ ht ?_|refine ht ?_ ?_|refine ht.1 ?_ ?_|refine ht ?_)<;>clear ht))
  all_goals first
   | exact True.intro
   | (intro r h1 h2;clear h1;refine h2 ⟨[1,8,9],Nat,(fun i=>i<=v.length/\(List.range i).all (cvA (b1,b2,b3,b4,b5,b6,()) (a1,a2,a3,a4,a5,a6,()))=true),fun i=>[.fn 40 [] [.ptr 0 0,.ptr 1 0],.int .i64 v.length,.int .i64 i],fun _=>[.box [.int .i64 a1,.int .i64 a2,.bool a3,.int .u64 a4,.imm (.int .u8) a5,.imm (.int .u8) a6],.box [.int .i64 b1,.int .i64 b2,.bool b3,.int .u64 b4,.imm (.int .u8) b5,.imm (.int .u8) b6]],fun i=>v.length - i,⟨0,⟨Nat.zero_le _,rfl⟩,rfl,rfl⟩,?_⟩;clear h2)
  rintro i ⟨hi,hJ⟩
  have e1:=fun k=>Wb_ (g:=cvA (b1,b2,b3,b4,b5,b6,()) (a1,a2,a3,a4,a5,a6,())) (i:=i) hJ k
  have e2:=fun h k=>v1_ (g:=cvA (b1,b2,b3,b4,b5,b6,()) (a1,a2,a3,a4,a5,a6,())) (i:=i) (n:=v.length) h k
  repeat'(intro t ht;first|(cases t<;>first|(cases ht;done)|(try simp only[zg_]at ht;try(exfalso;first|contradiction|omega)))|((first|refine za_ ht ?_|refine ht ?_ ?_|refine ht.1 ?_ ?_|refine ht ?_)<;>clear ht))
  all_goals (try simp only [Int.toNat_natCast] at ht ⊢)
  all_goals first
   | exact True.intro
   | omega
   | (refine ⟨?_,?_,?_⟩<;>omega)
   | ((try dsimp only);simp only [zp_];omega)
   | (rw [e2 (by omega) ht];exact ⟨rfl,by first | rfl | exact True.intro⟩)
   | (have e:i=v.length:=by omega
      rw [e] at hJ;rw [hJ];exact ⟨rfl,by first | rfl | exact True.intro⟩)
   | (refine ⟨i+1,⟨by omega,e1 ht⟩,?_,rfl,by first | rfl | exact True.intro⟩
      (try dsimp only);omega)
 ·cases e
def Xu_:IR:=
(sq (kr [0,1] [oD 2 (.boxv 0),
oD 3 (.boxv 1),
oD 4 (.mov cF)])
(sq (sq (kr [2,3] [oK 5 6 2,
oK 6 6 3,
oC 7 34 [5,6],
oD 8 (.un .not 7),
oM 9 8,
oF 9 10 (.fieldAddr 2 3),
oF 9 11 (.load none 10),
oP 12 9 cT 11,
oM 13 12,
oF 13 14 (.fieldAddr 4 2),
oF 13 15 (.load none 14),
oF 13 16 (.len 15),
oF 13 17 (.fieldAddr 4 3),
oF 13 18 (.load none 17),
oF 13 19 (.len 18),
oF 13 20 (.bin .neq 16 19),
oP 21 13 cT 20])
(.cond 21
(sq (kr [] [oD 4 (.mov cF)])
.ret)
.skip))
(sq (kr [2,3] [oK 22 6 2,
oD 23 (.mkfn 59 [] [2,3]),
oC 24 39 [22,23],
oM 4 24])
.ret)))
def xS_:List RD:=[.tmp 4 true none]
theorem Xd_:zm_ Tryd.prog Tryd.f38 Xu_ xS_=true:=by kernel_rfl
def k6_:List AV->List Obj->Option (Prop × AV)
 | [.agg [.int .i64 c,.int .i64 f,.bool h,.int .u64 x,.imm (.int .u8) v,.imm (.int .u8) m],.agg [.int .i64 c',.int .i64 f',.bool h',.int .u64 x',.imm (.int .u8) v',.imm (.int .u8) m']],[]=>some ((v.length<=1000000,.bool (Zr_ (c,f,h,x,v,m,()) (c',f',h',x',v',m',()))))
 | _,_=>none
theorem WK_:zf_ Tryd.prog 38 (RoF k6_).sum:=by
 refine zi_ Tryd.func38 Xd_ (zb_ (s:=RoF qP_) QQ_ (zb_ (s:=RoF qF_) kO_ (zb_ (s:=RoF qB_) Q9_ (ze_ _)))) fun args objs p v e=>?_
 unfold k6_ at e
 split at e
 ·rename_i c f h x v m c' f' h' x' v' m'
  cases e
  refine ⟨rfl,fun hw ho hp=>?_⟩
  change List Int at v
  change List Int at m
  change List Int at v'
  change List Int at m'
  clear hw ho
  by_cases e:(c=c'/\f=f')/\x=x'
  ·have hal:alO (c,f,h,x,v,m,()) (c',f',h',x',v',m',())=true:=go_ e
   cases h'
   ·by_cases hl:v.length=v'.length
    ·have hF:Zr_ (c,f,h,x,v,m,()) (c',f',false,x',v',m',())=(List.range v.length).all (tkA (c,f,h,x,v,m,()) (c',f',false,x',v',m',())):=by
      unfold Zr_ lnV
      rw [hal,decide_eq_true hl];rfl
     rw [hF]
     repeat'(intro t ht;first|(cases t<;>first|(cases ht;done)|(try simp only[zg_]at ht;try(exfalso;first|contradiction|omega)))|((first|refine za_ ht ?_|refine ht ?_ ?_|refine ht.1 ?_ ?_|refine ht ?_)<;>clear ht))
     all_goals first
      | exact True.intro
      | exact ⟨rfl,by first | rfl | exact True.intro⟩
      | (refine ⟨?_,?_,?_⟩<;>omega)
      | (exfalso;omega)
    ·have hF:Zr_ (c,f,h,x,v,m,()) (c',f',false,x',v',m',())=false:=by
      unfold Zr_ lnV
      rw [decide_eq_false hl,Bool.and_false,Bool.false_and]
     rw [hF]
     repeat'(intro t ht;first|(cases t<;>first|(cases ht;done)|(try simp only[zg_]at ht;try(exfalso;first|contradiction|omega)))|((first|refine za_ ht ?_|refine ht ?_ ?_|refine ht.1 ?_ ?_|refine ht ?_)<;>clear ht))
     all_goals first
      | exact True.intro
      | exact ⟨rfl,by first | rfl | exact True.intro⟩
      | (refine ⟨?_,?_,?_⟩<;>omega)
      | (exfalso;omega)
   ·have hF:Zr_ (c,f,h,x,v,m,()) (c',f',true,x',v',m',())=false:=by
     unfold Zr_
     rw [hal];rfl
    rw [hF]
    repeat'(intro t ht;first|(cases t<;>first|(cases ht;done)|(try simp only[zg_]at ht;try(exfalso;first|contradiction|omega)))|((first|refine za_ ht ?_|refine ht ?_ ?_|refine ht.1 ?_ ?_|refine ht ?_)<;>clear ht))
    all_goals first
     | exact True.intro
     | exact ⟨rfl,by first | rfl | exact True.intro⟩
     | (refine ⟨?_,?_,?_⟩<;>omega)
     | (exfalso;omega)
  ·have hal:alO (c,f,h,x,v,m,()) (c',f',h',x',v',m',())=false:=Bool.eq_false_iff.2 fun k=>e (by
    obtain ⟨k1,k2,k3⟩:=(ko_ _ _).1 k
    exact ⟨⟨k1,k2⟩,k3⟩)
   have hF:Zr_ (c,f,h,x,v,m,()) (c',f',h',x',v',m',())=false:=by unfold Zr_;rw [hal];rfl
   rw [hF]
   repeat'(intro t ht;first|(cases t<;>first|(cases ht;done)|(try simp only[zg_]at ht;try(exfalso;first|contradiction|omega)))|((first|refine za_ ht ?_|refine ht ?_ ?_|refine ht.1 ?_ ?_|refine ht ?_)<;>clear ht))
   all_goals first
    | exact True.intro
    | exact ⟨rfl,by first | rfl | exact True.intro⟩
    | (exfalso;omega)
 ·cases e
def Xw_:IR:=
(sq (kr [0,1] [oD 2 (.boxv 0),
oD 3 (.boxv 1),
oD 4 (.mov cF)])
(sq (sq (.reg [oK 5 6 2,
oK 6 6 3,
oC 7 34 [5,6],
oD 8 (.un .not 7)])
(.cond 8
(sq (kr [] [oD 4 (.mov cF)])
.ret)
.skip))
(sq (kr [2,3] [oA 9 4 2,
oL 10 9,
oE 11 10,
oA 12 4 3,
oL 13 12,
oE 14 13,
oB 15 .neq 11 14,
oM 16 15,
oF 16 17 (.load (some 6) 2),
oF 16 18 (.mkfn 42 [] [2,3]),
oF 16 19 (.call false (.f 39) [17,18]),
oF 16 20 (.un .not 19),
oP 21 16 cT 20,
oM 4 21])
.ret)))
def xU_:List RD:=[.tmp 4 true none]
theorem Xf_:zm_ Tryd.prog Tryd.f23 Xw_ xU_=true:=by kernel_rfl
def k7_:List AV->List Obj->Option (Prop × AV)
 | [.agg [.int .i64 c,.int .i64 f,.bool h,.int .u64 x,.imm (.int .u8) v,.imm (.int .u8) m],.agg [.int .i64 c',.int .i64 f',.bool h',.int .u64 x',.imm (.int .u8) v',.imm (.int .u8) m']],[]=>some ((v.length<=1000000,.bool (zE_ (c,f,h,x,v,m,()) (c',f',h',x',v',m',()))))
 | _,_=>none
theorem WL_:zf_ Tryd.prog 23 (RoF k7_).sum:=by
 refine zi_ Tryd.func23 Xf_ (zb_ (s:=RoF qP_) QQ_ (zb_ (s:=RoF qG_) kP_ (zb_ (s:=RoF qB_) Q9_ (ze_ _)))) fun args objs p v e=>?_
 unfold k7_ at e
 split at e
 ·rename_i c f h x v m c' f' h' x' v' m'
  cases e
  refine ⟨rfl,fun hw ho hp=>?_⟩
  change List Int at v
  change List Int at m
  change List Int at v'
  change List Int at m'
  clear hw ho
  by_cases e:(c=c'/\f=f')/\x=x'
  ·have hal:alO (c,f,h,x,v,m,()) (c',f',h',x',v',m',())=true:=go_ e
   by_cases hl:v.length=v'.length
   ·have hF:zE_ (c,f,h,x,v,m,()) (c',f',h',x',v',m',())=!(List.range v.length).all (clA (c,f,h,x,v,m,()) (c',f',h',x',v',m',())):=by
     unfold zE_ lnV
     rw [hal,decide_eq_true hl];rfl
    rw [hF]
    repeat'(intro t ht;first|(cases t<;>first|(cases ht;done)|(try simp only[zg_]at ht;try(exfalso;first|contradiction|omega)))|((first|refine za_ ht ?_|refine ht ?_ ?_|refine ht.1 ?_ ?_|refine ht ?_)<;>clear ht))
    all_goals first
     | exact True.intro
     | exact ⟨rfl,by first | rfl | exact True.intro⟩
     | (refine ⟨?_,?_,?_⟩<;>omega)
     | (exfalso;omega)
   ·have hF:zE_ (c,f,h,x,v,m,()) (c',f',h',x',v',m',())=true:=by
     unfold zE_ lnV
     rw [hal,decide_eq_false hl];rfl
    rw [hF]
    repeat'(intro t ht;first|(cases t<;>first|(cases ht;done)|(try simp only[zg_]at ht;try(exfalso;first|contradiction|omega)))|((first|refine za_ ht ?_|refine ht ?_ ?_|refine ht.1 ?_ ?_|refine ht ?_)<;>clear ht))
    all_goals first
     | exact True.intro
     | exact ⟨rfl,by first | rfl | exact True.intro⟩
     | (refine ⟨?_,?_,?_⟩<;>omega)
     | (exfalso;omega)
  ·have hal:alO (c,f,h,x,v,m,()) (c',f',h',x',v',m',())=false:=Bool.eq_false_iff.2 fun k=>e (by
    obtain ⟨k1,k2,k3⟩:=(ko_ _ _).1 k
    exact ⟨⟨k1,k2⟩,k3⟩)
   have hF:zE_ (c,f,h,x,v,m,()) (c',f',h',x',v',m',())=false:=by unfold zE_;rw [hal];rfl
   rw [hF]
   repeat'(intro t ht;first|(cases t<;>first|(cases ht;done)|(try simp only[zg_]at ht;try(exfalso;first|contradiction|omega)))|((first|refine za_ ht ?_|refine ht ?_ ?_|refine ht.1 ?_ ?_|refine ht ?_)<;>clear ht))
   all_goals first
    | exact True.intro
    | exact ⟨rfl,by first | rfl | exact True.intro⟩
    | (exfalso;omega)
 ·cases e
def W4_:IR:=
(sq (kr [0,1] [oD 2 (.boxv 0),
oD 3 (.boxv 1),
oD 4 (.mov cF)])
(sq (sq (kr [2,3] [oK 5 6 2,
oK 6 6 3,
oC 7 34 [5,6],
oD 8 (.un .not 7),
oM 9 8,
oF 9 10 (.fieldAddr 4 2),
oF 9 11 (.load none 10),
oF 9 12 (.len 11),
oF 9 13 (.fieldAddr 4 3),
oF 9 14 (.load none 13),
oF 9 15 (.len 14),
oF 9 16 (.bin .neq 12 15),
oP 17 9 cT 16])
(.cond 17
(sq (kr [] [oD 4 (.mov cF)])
.ret)
.skip))
(sq (kr [2,3] [oK 18 6 2,
oD 19 (.mkfn 40 [] [3,2]),
oC 20 39 [18,19],
oM 4 20])
.ret)))
def WR_:List RD:=[.tmp 4 true none]
theorem WY_:zm_ Tryd.prog Tryd.f20 W4_ WR_=true:=by kernel_rfl
def kK_:List AV->List Obj->Option (Prop × AV)
 | [.agg [.int .i64 c,.int .i64 f,.bool h,.int .u64 x,.imm (.int .u8) v,.imm (.int .u8) m],.agg [.int .i64 c',.int .i64 f',.bool h',.int .u64 x',.imm (.int .u8) v',.imm (.int .u8) m']],[]=>some ((v.length<=1000000,.bool (zH_ (c,f,h,x,v,m,()) (c',f',h',x',v',m',()))))
 | _,_=>none
theorem wx_:zf_ Tryd.prog 20 (RoF kK_).sum:=by
 refine zi_ Tryd.func20 WY_ (zb_ (s:=RoF qP_) QQ_ (zb_ (s:=RoF qn_) kz_ (zb_ (s:=RoF qB_) Q9_ (ze_ _)))) fun args objs p v e=>?_
 unfold kK_ at e
 split at e
 ·rename_i c f h x v m c' f' h' x' v' m'
  cases e
  refine ⟨rfl,fun hw ho hp=>?_⟩
  change List Int at v
  change List Int at m
  change List Int at v'
  change List Int at m'
  clear hw ho
  by_cases e:(c=c'/\f=f')/\x=x'
  ·have hal:alO (c,f,h,x,v,m,()) (c',f',h',x',v',m',())=true:=go_ e
   by_cases hl:v.length=v'.length
   ·have hF:zH_ (c,f,h,x,v,m,()) (c',f',h',x',v',m',())=(List.range v.length).all (cvA (c,f,h,x,v,m,()) (c',f',h',x',v',m',())):=by
     unfold zH_ lnV
     rw [hal,decide_eq_true hl];rfl
    rw [hF]
    repeat'(intro t ht;first|(cases t<;>first|(cases ht;done)|(try simp only[zg_]at ht;try(exfalso;first|contradiction|omega)))|((first|refine za_ ht ?_|refine ht ?_ ?_|refine ht.1 ?_ ?_|refine ht ?_)<;>clear ht))
    all_goals first
     | exact True.intro
     | exact ⟨rfl,by first | rfl | exact True.intro⟩
     | (refine ⟨?_,?_,?_⟩<;>omega)
     | (exfalso;omega)
   ·have hF:zH_ (c,f,h,x,v,m,()) (c',f',h',x',v',m',())=false:=by
     unfold zH_ lnV
     rw [decide_eq_false hl,Bool.and_false,Bool.false_and]
    rw [hF]
    repeat'(intro t ht;first|(cases t<;>first|(cases ht;done)|(try simp only[zg_]at ht;try(exfalso;first|contradiction|omega)))|((first|refine za_ ht ?_|refine ht ?_ ?_|refine ht.1 ?_ ?_|refine ht ?_)<;>clear ht))
    all_goals first
     | exact True.intro
     | exact ⟨rfl,by first | rfl | exact True.intro⟩
     | (refine ⟨?_,?_,?_⟩<;>omega)
     | (exfalso;omega)
  ·have hal:alO (c,f,h,x,v,m,()) (c',f',h',x',v',m',())=false:=Bool.eq_false_iff.2 fun k=>e (by
    obtain ⟨k1,k2,k3⟩:=(ko_ _ _).1 k
    exact ⟨⟨k1,k2⟩,k3⟩)
   have hF:zH_ (c,f,h,x,v,m,()) (c',f',h',x',v',m',())=false:=by unfold zH_;rw [hal];rfl
   rw [hF]
   repeat'(intro t ht;first|(cases t<;>first|(cases ht;done)|(try simp only[zg_]at ht;try(exfalso;first|contradiction|omega)))|((first|refine za_ ht ?_|refine ht ?_ ?_|refine ht.1 ?_ ?_|refine ht ?_)<;>clear ht))
   all_goals first
    | exact True.intro
    | exact ⟨rfl,by first | rfl | exact True.intro⟩
    | (exfalso;omega)
 ·cases e
def wU_:IR:=
(sq (kr [0,1] [oD 2 (.boxv 0),
oD 3 (.mov cF)])
(sq (.reg [oK 4 6 1,
oK 5 6 2,
oC 6 38 [4,5],
oM 3 6])
.ret))
def wC_:List RD:=[.tmp 3 true none]
theorem wL_:zm_ Tryd.prog Tryd.f37 wU_ wC_=true:=by kernel_rfl
def ZE_:List AV->List Obj->Option (Prop × AV)
 | [.agg [.int .i64 c',.int .i64 f',.bool h',.int .u64 x',.imm (.int .u8) v',.imm (.int .u8) m'],.ptr 0 0],[.box [.int .i64 c,.int .i64 f,.bool h,.int .u64 x,.imm (.int .u8) v,.imm (.int .u8) m]]=>some ((v.length<=1000000,.bool (Zr_ (c,f,h,x,v,m,()) (c',f',h',x',v',m',()))))
 | _,_=>none
theorem q1_:zf_ Tryd.prog 37 (RoF ZE_).sum:=by
 refine zi_ Tryd.func37 wL_ (zb_ (s:=RoF k6_) WK_ (ze_ _)) fun args objs p v e=>?_
 unfold ZE_ at e
 split at e
 ·rename_i c' f' h' x' v' m' c f h x v m
  cases e
  refine ⟨rfl,fun hw ho hp=>?_⟩
  change List Int at v'
  change List Int at m'
  change List Int at v
  change List Int at m
  clear hw ho
  repeat'(intro t ht;first|(cases t<;>first|(cases ht;done)|(try simp only[zg_]at ht;try(exfalso;first|contradiction|omega)))|((first|refine za_ ht ?_|refine ht ?_ ?_|refine ht.1 ?_ ?_|refine ht ?_)<;>clear ht))
  all_goals first
   | exact True.intro
   | exact hp
   | exact ⟨rfl,by first | rfl | exact True.intro⟩
 ·cases e
def Jm_:IR:=
(sq (kr [0,1] [oD 2 (.boxv 0),
oD 3 (.mov cF)])
(sq (.reg [oK 4 6 1,
oK 5 6 2,
oC 6 23 [4,5],
oM 3 6])
.ret))
def Jd_:List RD:=[.tmp 3 true none]
theorem Jg_:zm_ Tryd.prog Tryd.f22 Jm_ Jd_=true:=by kernel_rfl
def Zn_:List AV->List Obj->Option (Prop × AV)
 | [.agg [.int .i64 c',.int .i64 f',.bool h',.int .u64 x',.imm (.int .u8) v',.imm (.int .u8) m'],.ptr 0 0],[.box [.int .i64 c,.int .i64 f,.bool h,.int .u64 x,.imm (.int .u8) v,.imm (.int .u8) m]]=>some ((v.length<=1000000,.bool (zE_ (c,f,h,x,v,m,()) (c',f',h',x',v',m',()))))
 | _,_=>none
theorem qr_:zf_ Tryd.prog 22 (RoF Zn_).sum:=by
 refine zi_ Tryd.func22 Jg_ (zb_ (s:=RoF k7_) WL_ (ze_ _)) fun args objs p v e=>?_
 unfold Zn_ at e
 split at e
 ·rename_i c' f' h' x' v' m' c f h x v m
  cases e
  refine ⟨rfl,fun hw ho hp=>?_⟩
  change List Int at v'
  change List Int at m'
  change List Int at v
  change List Int at m
  clear hw ho
  repeat'(intro t ht;first|(cases t<;>first|(cases ht;done)|(try simp only[zg_]at ht;try(exfalso;first|contradiction|omega)))|((first|refine za_ ht ?_|refine ht ?_ ?_|refine ht.1 ?_ ?_|refine ht ?_)<;>clear ht))
  all_goals first
   | exact True.intro
   | exact hp
   | exact ⟨rfl,by first | rfl | exact True.intro⟩
 ·cases e
def we_:IR:=
(sq (kr [0,1] [oD 2 (.boxv 0),
oD 3 (.mov cF)])
(sq (.reg [oK 4 6 2,
oK 5 6 1,
oC 6 20 [4,5],
oM 3 6])
.ret))
def JQ_:List RD:=[.tmp 3 true none]
theorem JX_:zm_ Tryd.prog Tryd.f19 we_ JQ_=true:=by kernel_rfl
def Zw_:List AV->List Obj->Option (Prop × AV)
 | [.agg [.int .i64 c',.int .i64 f',.bool h',.int .u64 x',.imm (.int .u8) v',.imm (.int .u8) m'],.ptr 0 0],[.box [.int .i64 c,.int .i64 f,.bool h,.int .u64 x,.imm (.int .u8) v,.imm (.int .u8) m]]=>some ((v'.length<=1000000,.bool (zH_ (c',f',h',x',v',m',()) (c,f,h,x,v,m,()))))
 | _,_=>none
theorem qJ_:zf_ Tryd.prog 19 (RoF Zw_).sum:=by
 refine zi_ Tryd.func19 JX_ (zb_ (s:=RoF kK_) wx_ (ze_ _)) fun args objs p v e=>?_
 unfold Zw_ at e
 split at e
 ·rename_i c' f' h' x' v' m' c f h x v m
  cases e
  refine ⟨rfl,fun hw ho hp=>?_⟩
  change List Int at v'
  change List Int at m'
  change List Int at v
  change List Int at m
  clear hw ho
  repeat'(intro t ht;first|(cases t<;>first|(cases ht;done)|(try simp only[zg_]at ht;try(exfalso;first|contradiction|omega)))|((first|refine za_ ht ?_|refine ht ?_ ?_|refine ht.1 ?_ ?_|refine ht ?_)<;>clear ht))
  all_goals first
   | exact True.intro
   | exact hp
   | exact ⟨rfl,by first | rfl | exact True.intro⟩
 ·cases e
def qj_:IR:=
(sq (kr [0,1] [oD 4 (.mov (cI 0))])
(sq (sq (.reg [oM 6 0,
oE 7 6,
oD 8 (.mov (cI 0))])
(.block 0
(.loop
(sq (kr [0,1,7,8] [oB 9 .lss 8 7])
(sq (.cond 9
.skip
(.exit 0))
(sq (.block 1
(sq (.reg [oM 10 8,
oM 5 10])
(sq (kr [0,1,5,7,8] [oM 11 1,
oM 12 0,
oM 13 5,
oI 14 6 12 13,
oK 15 6 14,
oD 16 (.call false 11 [15])])
(.cond 16
(sq (kr [5] [oM 17 5,
oM 4 17])
.ret)
.skip))))
(kr [0,1,7,8] [oB 18 .add 8 (cI 1),
oM 8 18])))))))
(sq (kr [] [oD 4 (.mov (cI (-1)))])
.ret)))
def qc_:List RD:=[.tmp 4 false none]
theorem qe_:zm_ Tryd.prog Tryd.f30 qj_ qc_=true:=by kernel_rfl
def zF_:List AV->List Obj->Option (Prop × AV)
 | [.imm (.cons (.int .i64) (.cons (.int .i64) (.cons .bool (.cons (.int .u64) (.cons (.sl (.int .u8)) (.cons (.sl (.int .u8)) .nil)))))) l,.fn 37 [] [.ptr 0 0]],[.box [.int .i64 c,.int .i64 f,.bool h,.int .u64 x,.imm (.int .u8) v,.imm (.int .u8) m]]=>some ((v.length<=1000000,.int .i64 (ql_ (α:=OV) (Zr_ (c,f,h,x,v,m,())) l 0)))
 | [.imm (.cons (.int .i64) (.cons (.int .i64) (.cons .bool (.cons (.int .u64) (.cons (.sl (.int .u8)) (.cons (.sl (.int .u8)) .nil)))))) l,.fn 22 [] [.ptr 0 0]],[.box [.int .i64 c,.int .i64 f,.bool h,.int .u64 x,.imm (.int .u8) v,.imm (.int .u8) m]]=>some ((v.length<=1000000,.int .i64 (ql_ (α:=OV) (zE_ (c,f,h,x,v,m,())) l 0)))
 | [.imm (.cons (.int .i64) (.cons (.int .i64) (.cons .bool (.cons (.int .u64) (.cons (.sl (.int .u8)) (.cons (.sl (.int .u8)) .nil)))))) l,.fn 19 [] [.ptr 0 0]],[.box [.int .i64 c,.int .i64 f,.bool h,.int .u64 x,.imm (.int .u8) v,.imm (.int .u8) m]]=>some ((allLen l,.int .i64 (ql_ (α:=OV) (fun z=>zH_ z (c,f,h,x,v,m,())) l 0)))
 | _,_=>none
theorem ZS_:zf_ Tryd.prog 30 (RoF zF_).sum:=by
 refine zi_ Tryd.func30 qe_ (zb_ (s:=RoF Zn_) qr_ (zb_ (s:=RoF ZE_) q1_ (zb_ (s:=RoF Zw_) qJ_ (zb_ (s:=RoF Zf_) ZQ_ (zb_ (s:=RoF Zu_) Z9_ (zb_ (s:=RoF qm_) q0_ (ze_ _))))))) fun args objs p v e=>?_
 unfold zF_ at e
 split at e
 ·rename_i l c f h x v m
  cases e
  refine ⟨rfl,fun hw ho hp=>?_⟩
  change List Int at v
  change List Int at m
  change List OV at l
  have hl:l.length<=maxLen:=(hw (.imm Y1 l) (by simp)).2
  unfold maxLen at hl
  clear hw ho
  repeat'(intro t ht;first|(cases t<;>first|(cases ht;done)|(try simp only[zg_]at ht))|((first|refine za_ ht ?_|refine ht ?_ ?_|refine ht.1 ?_ ?_|refine ht ?_)<;>clear ht))
  all_goals first
   | (intro r h1 h2;clear h1;refine h2 ⟨[0,1,7,8],Nat,(fun i=>i<=l.length/\ql_ (Zr_ (c,f,h,x,v,m,())) l 0=ql_ (Zr_ (c,f,h,x,v,m,())) (l.drop i) i),fun i=>[.imm Y1 l,.fn 37 [] [.ptr 0 0],.int .i64 l.length,.int .i64 i],fun _=>[.box [.int .i64 c,.int .i64 f,.bool h,.int .u64 x,.imm (.int .u8) v,.imm (.int .u8) m]],fun i=>l.length - i,⟨0,⟨Nat.zero_le _,rfl⟩,rfl,rfl⟩,?_⟩;clear h2)
  rintro i ⟨hi,he⟩
  repeat'(intro t ht;first|(cases t<;>first|(cases ht;done)|(try simp only[zg_]at ht;try(exfalso;first|contradiction|omega)))|((first|refine za_ ht ?_|refine ht ?_ ?_|refine ht.1 ?_ ?_|refine ht ?_)<;>clear ht))
  all_goals (try generalize (Ty.dflt Y1)=od at*)
  all_goals first
   | exact True.intro
   | ((try simp only [zZ_,z0_,zp_] at*);omega)
   | exact hp
   | (refine ⟨?_,rfl⟩;rw [he,Qc_ (by omega)];done)
   | (refine ⟨?_,rfl⟩;rw [he,km_ (p:=Zr_ (c,f,h,x,v,m,())) (d:=od) (by omega) ht];done)
   | exact ⟨i+1,⟨by omega,he.trans (kl_ (p:=Zr_ (c,f,h,x,v,m,())) (d:=od) (by omega) ht)⟩,by dsimp only;omega,rfl,rfl⟩
 ·rename_i l c f h x v m
  cases e
  refine ⟨rfl,fun hw ho hp=>?_⟩
  change List Int at v
  change List Int at m
  change List OV at l
  have hl:l.length<=maxLen:=(hw (.imm Y1 l) (by simp)).2
  unfold maxLen at hl
  clear hw ho
  repeat'(intro t ht;first|(cases t<;>first|(cases ht;done)|(try simp only[zg_]at ht))|((first|refine za_ ht ?_|refine ht ?_ ?_|refine ht.1 ?_ ?_|refine ht ?_)<;>clear ht))
  all_goals first
   | (intro r h1 h2;clear h1;refine h2 ⟨[0,1,7,8],Nat,(fun i=>i<=l.length/\ql_ (zE_ (c,f,h,x,v,m,())) l 0=ql_ (zE_ (c,f,h,x,v,m,())) (l.drop i) i),fun i=>[.imm Y1 l,.fn 22 [] [.ptr 0 0],.int .i64 l.length,.int .i64 i],fun _=>[.box [.int .i64 c,.int .i64 f,.bool h,.int .u64 x,.imm (.int .u8) v,.imm (.int .u8) m]],fun i=>l.length - i,⟨0,⟨Nat.zero_le _,rfl⟩,rfl,rfl⟩,?_⟩;clear h2)
  rintro i ⟨hi,he⟩
  repeat'(intro t ht;first|(cases t<;>first|(cases ht;done)|(try simp only[zg_]at ht;try(exfalso;first|contradiction|omega)))|((first|refine za_ ht ?_|refine ht ?_ ?_|refine ht.1 ?_ ?_|refine ht ?_)<;>clear ht))
  all_goals (try generalize (Ty.dflt Y1)=od at*)
  all_goals first
   | exact True.intro
   | ((try simp only [zZ_,z0_,zp_] at*);omega)
   | exact hp
   | (refine ⟨?_,rfl⟩;rw [he,Qc_ (by omega)];done)
   | (refine ⟨?_,rfl⟩;rw [he,km_ (p:=zE_ (c,f,h,x,v,m,())) (d:=od) (by omega) ht];done)
   | exact ⟨i+1,⟨by omega,he.trans (kl_ (p:=zE_ (c,f,h,x,v,m,())) (d:=od) (by omega) ht)⟩,by dsimp only;omega,rfl,rfl⟩
 ·rename_i l c f h x v m
  cases e
  refine ⟨rfl,fun hw ho hp=>?_⟩
  change List Int at v
  change List Int at m
  change List OV at l
  have hl:l.length<=maxLen:=(hw (.imm Y1 l) (by simp)).2
  unfold maxLen at hl
  clear hw ho
  repeat'(intro t ht;first|(cases t<;>first|(cases ht;done)|(try simp only[zg_]at ht))|((first|refine za_ ht ?_|refine ht ?_ ?_|refine ht.1 ?_ ?_|refine ht ?_)<;>clear ht))
  all_goals first
   | (intro r h1 h2;clear h1;refine h2 ⟨[0,1,7,8],Nat,(fun i=>i<=l.length/\ql_ (fun z=>zH_ z (c,f,h,x,v,m,())) l 0=ql_ (fun z=>zH_ z (c,f,h,x,v,m,())) (l.drop i) i),fun i=>[.imm Y1 l,.fn 19 [] [.ptr 0 0],.int .i64 l.length,.int .i64 i],fun _=>[.box [.int .i64 c,.int .i64 f,.bool h,.int .u64 x,.imm (.int .u8) v,.imm (.int .u8) m]],fun i=>l.length - i,⟨0,⟨Nat.zero_le _,rfl⟩,rfl,rfl⟩,?_⟩;clear h2)
  rintro i ⟨hi,he⟩
  repeat'(intro t ht;first|(cases t<;>first|(cases ht;done)|(try simp only[zg_]at ht;try(exfalso;first|contradiction|omega)))|((first|refine za_ ht ?_|refine ht ?_ ?_|refine ht.1 ?_ ?_|refine ht ?_)<;>clear ht))
  all_goals (try generalize (Ty.dflt Y1)=od at*)
  all_goals first
   | exact True.intro
   | ((try simp only [zZ_,z0_,zp_] at*);omega)
   | exact (Ua_ (hp.h _ (z1_ (by omega) od))).1
   | (refine ⟨?_,rfl⟩;rw [he,Qc_ (by omega)];done)
   | (refine ⟨?_,rfl⟩;rw [he,km_ (p:=fun z=>zH_ z (c,f,h,x,v,m,())) (d:=od) (by omega) ht];done)
   | exact ⟨i+1,⟨by omega,he.trans (kl_ (p:=fun z=>zH_ z (c,f,h,x,v,m,())) (d:=od) (by omega) ht)⟩,by dsimp only;omega,rfl,rfl⟩
 ·cases e
def ZM_:IR:=
(sq (kr [0,1] [oD 4 (.mov cF)])
(sq (kr [0,1] [oM 5 0,
oM 6 1,
oC 7 30 [5,6],
oB 8 .geq 7 (cI 0),
oM 4 8])
.ret))
def ZG_:List RD:=[.tmp 4 false none]
theorem ZJ_:zm_ Tryd.prog Tryd.f13 ZM_ ZG_=true:=by kernel_rfl
def zj_:List AV->List Obj->Option (Prop × AV)
 | [.imm (.cons (.int .i64) (.cons (.int .i64) (.cons .bool (.cons (.int .u64) (.cons (.sl (.int .u8)) (.cons (.sl (.int .u8)) .nil)))))) l,.fn 37 [] [.ptr 0 0]],[.box [.int .i64 c,.int .i64 f,.bool h,.int .u64 x,.imm (.int .u8) v,.imm (.int .u8) m]]=>some ((v.length<=1000000,.bool ((l:List OV).any (Zr_ (c,f,h,x,v,m,())))))
 | [.imm (.cons (.int .i64) (.cons (.int .i64) (.cons .bool (.cons (.int .u64) (.cons (.sl (.int .u8)) (.cons (.sl (.int .u8)) .nil)))))) l,.fn 22 [] [.ptr 0 0]],[.box [.int .i64 c,.int .i64 f,.bool h,.int .u64 x,.imm (.int .u8) v,.imm (.int .u8) m]]=>some ((v.length<=1000000,.bool ((l:List OV).any (zE_ (c,f,h,x,v,m,())))))
 | [.imm (.cons (.int .i64) (.cons (.int .i64) (.cons .bool (.cons (.int .u64) (.cons (.sl (.int .u8)) (.cons (.sl (.int .u8)) .nil)))))) l,.fn 19 [] [.ptr 0 0]],[.box [.int .i64 c,.int .i64 f,.bool h,.int .u64 x,.imm (.int .u8) v,.imm (.int .u8) m]]=>some ((allLen l,.bool ((l:List OV).any (fun z=>zH_ z (c,f,h,x,v,m,())))))
 | _,_=>none
theorem zs_:zf_ Tryd.prog 13 (RoF zj_).sum:=by
 refine zi_ Tryd.func13 ZJ_ (zb_ (s:=RoF zF_) ZS_ (ze_ _)) fun args objs p v e=>?_
 unfold zj_ at e
 split at e
 ·rename_i l c f h x v m
  cases e
  refine ⟨rfl,fun hw ho hp=>?_⟩
  change List Int at v
  change List Int at m
  have h9:=qy_ (p:=Zr_ (c,f,h,x,v,m,())) l 0 (Int.le_refl _)
  repeat'(intro t ht;first|(cases t<;>first|(cases ht;done)|(try simp only[zg_]at ht;try(exfalso;first|contradiction|omega)))|((first|refine za_ ht ?_|refine ht ?_ ?_|refine ht.1 ?_ ?_|refine ht ?_)<;>clear ht))
  all_goals first
   | exact True.intro
   | exact hp
   | exact ⟨congrArg AV.bool h9,rfl⟩
 ·rename_i l c f h x v m
  cases e
  refine ⟨rfl,fun hw ho hp=>?_⟩
  change List Int at v
  change List Int at m
  have h9:=qy_ (p:=zE_ (c,f,h,x,v,m,())) l 0 (Int.le_refl _)
  repeat'(intro t ht;first|(cases t<;>first|(cases ht;done)|(try simp only[zg_]at ht;try(exfalso;first|contradiction|omega)))|((first|refine za_ ht ?_|refine ht ?_ ?_|refine ht.1 ?_ ?_|refine ht ?_)<;>clear ht))
  all_goals first
   | exact True.intro
   | exact hp
   | exact ⟨congrArg AV.bool h9,rfl⟩
 ·rename_i l c f h x v m
  cases e
  refine ⟨rfl,fun hw ho hp=>?_⟩
  change List Int at v
  change List Int at m
  have h9:=qy_ (p:=fun z=>zH_ z (c,f,h,x,v,m,())) l 0 (Int.le_refl _)
  repeat'(intro t ht;first|(cases t<;>first|(cases ht;done)|(try simp only[zg_]at ht;try(exfalso;first|contradiction|omega)))|((first|refine za_ ht ?_|refine ht ?_ ?_|refine ht.1 ?_ ?_|refine ht ?_)<;>clear ht))
  all_goals first
   | exact True.intro
   | exact hp
   | exact ⟨congrArg AV.bool h9,rfl⟩
 ·cases e
def wV_:IR:=
(sq (kr [0,1] [oD 2 (.boxv 0),
oD 3 (.mov cF)])
(sq (.reg [oL 4 1,
oD 5 (.mkfn 22 [] [2]),
oC 6 13 [4,5],
oM 3 6])
.ret))
def wD_:List RD:=[.tmp 3 true none]
theorem wM_:zm_ Tryd.prog Tryd.f21 wV_ wD_=true:=by kernel_rfl
def qH_:List AV->List Obj->Option (Prop × AV)
 | [.agg [.int .i64 c,.int .i64 f,.bool h,.int .u64 x,.imm (.int .u8) v,.imm (.int .u8) m],.ptr 0 0],[.box [.imm (.cons (.int .i64) (.cons (.int .i64) (.cons .bool (.cons (.int .u64) (.cons (.sl (.int .u8)) (.cons (.sl (.int .u8)) .nil)))))) l]]=>some ((v.length<=1000000,.bool ((l:List OV).any (zE_ (c,f,h,x,v,m,())))))
 | _,_=>none
theorem kQ_:zf_ Tryd.prog 21 (RoF qH_).sum:=by
 refine zi_ Tryd.func21 wM_ (zb_ (s:=RoF Zn_) qr_ (zb_ (s:=RoF zj_) zs_ (ze_ _))) fun args objs p v e=>?_
 unfold qH_ at e
 split at e
 ·rename_i c f h x v m l
  cases e
  refine ⟨rfl,fun hw ho hp=>?_⟩
  change List Int at v
  change List Int at m
  clear hw ho
  repeat'(intro t ht;first|(cases t<;>first|(cases ht;done)|(try simp only[zg_]at ht;try(exfalso;first|contradiction|omega)))|((first|refine za_ ht ?_|refine ht ?_ ?_|refine ht.1 ?_ ?_|refine ht ?_)<;>clear ht))
  all_goals first
   | exact True.intro
   | exact hp
   | exact ⟨rfl,by first | rfl | exact True.intro⟩
 ·cases e
def qk_:IR:=
(sq (kr [0,1] [oD 4 (.mov (cI 0))])
(sq (sq (.reg [oM 6 0,
oE 7 6,
oD 8 (.mov (cI 0))])
(.block 0
(.loop
(sq (kr [0,1,7,8] [oB 9 .lss 8 7])
(sq (.cond 9
.skip
(.exit 0))
(sq (.block 1
(sq (.reg [oM 10 8,
oM 5 10])
(sq (kr [0,1,5,7,8] [oM 11 1,
oM 12 0,
oM 13 5,
oI 14 6 12 13,
oK 15 6 14,
oD 16 (.call false 11 [15])])
(.cond 16
(sq (kr [5] [oM 17 5,
oM 4 17])
.ret)
.skip))))
(kr [0,1,7,8] [oB 18 .add 8 (cI 1),
oM 8 18])))))))
(sq (kr [] [oD 4 (.mov (cI (-1)))])
.ret)))
def qd_:List RD:=[.tmp 4 false none]
theorem qf_:zm_ Tryd.prog Tryd.f30 qk_ qd_=true:=by kernel_rfl
def zG_:List AV->List Obj->Option (Prop × AV)
 | [.imm (.cons (.int .i64) (.cons (.int .i64) (.cons .bool (.cons (.int .u64) (.cons (.sl (.int .u8)) (.cons (.sl (.int .u8)) .nil)))))) l,.fn 21 [] [.ptr 0 0]],[.box [.imm (.cons (.int .i64) (.cons (.int .i64) (.cons .bool (.cons (.int .u64) (.cons (.sl (.int .u8)) (.cons (.sl (.int .u8)) .nil)))))) q]]=>some ((allLen l,.int .i64 (ql_ (α:=OV) (fun z=>(q:List OV).any (zE_ z)) l 0)))
 | _,_=>none
theorem ZT_:zf_ Tryd.prog 30 (RoF zG_).sum:=by
 refine zi_ Tryd.func30 qf_ (zb_ (s:=RoF qH_) kQ_ (zb_ (s:=RoF Zn_) qr_ (zb_ (s:=RoF ZE_) q1_ (zb_ (s:=RoF Zw_) qJ_ (zb_ (s:=RoF Zf_) ZQ_ (zb_ (s:=RoF Zu_) Z9_ (zb_ (s:=RoF qm_) q0_ (ze_ _)))))))) fun args objs p v e=>?_
 unfold zG_ at e
 split at e
 ·rename_i l q
  cases e
  refine ⟨rfl,fun hw ho hp=>?_⟩
  change List OV at l
  have hl:l.length<=maxLen:=(hw (.imm Y1 l) (by simp)).2
  unfold maxLen at hl
  clear hw ho
  repeat'(intro t ht;first|(cases t<;>first|(cases ht;done)|(try simp only[zg_]at ht))|((first|refine za_ ht ?_|refine ht ?_ ?_|refine ht.1 ?_ ?_|refine ht ?_)<;>clear ht))
  all_goals first
   | (intro r h1 h2;clear h1;refine h2 ⟨[0,1,7,8],Nat,(fun i=>i<=l.length/\ql_ (fun z=>(q:List OV).any (zE_ z)) l 0=ql_ (fun z=>(q:List OV).any (zE_ z)) (l.drop i) i),fun i=>[.imm Y1 l,.fn 21 [] [.ptr 0 0],.int .i64 l.length,.int .i64 i],fun _=>[.box [.imm Y1 q]],fun i=>l.length - i,⟨0,⟨Nat.zero_le _,rfl⟩,rfl,rfl⟩,?_⟩;clear h2)
  rintro i ⟨hi,he⟩
  repeat'(intro t ht;first|(cases t<;>first|(cases ht;done)|(try simp only[zg_]at ht;try(exfalso;first|contradiction|omega)))|((first|refine za_ ht ?_|refine ht ?_ ?_|refine ht.1 ?_ ?_|refine ht ?_)<;>clear ht))
  all_goals (try generalize (Ty.dflt Y1)=od at*)
  all_goals first
   | exact True.intro
   | ((try simp only [zZ_,z0_,zp_] at*);omega)
   | exact (Ua_ (hp.h _ (z1_ (by omega) od))).1
   | (refine ⟨?_,rfl⟩;rw [he,Qc_ (by omega)];done)
   | (refine ⟨?_,rfl⟩;rw [he,km_ (p:=fun z=>(q:List OV).any (zE_ z)) (d:=od) (by omega) ht];done)
   | exact ⟨i+1,⟨by omega,he.trans (kl_ (p:=fun z=>(q:List OV).any (zE_ z)) (d:=od) (by omega) ht)⟩,by dsimp only;omega,rfl,rfl⟩
 ·cases e
def ZN_:IR:=
(sq (kr [0,1] [oD 4 (.mov cF)])
(sq (kr [0,1] [oM 5 0,
oM 6 1,
oC 7 30 [5,6],
oB 8 .geq 7 (cI 0),
oM 4 8])
.ret))
def ZH_:List RD:=[.tmp 4 false none]
theorem ZK_:zm_ Tryd.prog Tryd.f13 ZN_ ZH_=true:=by kernel_rfl
def zy_:List AV->List Obj->Option (Prop × AV)
 | [.imm (.cons (.int .i64) (.cons (.int .i64) (.cons .bool (.cons (.int .u64) (.cons (.sl (.int .u8)) (.cons (.sl (.int .u8)) .nil)))))) l,.fn 21 [] [.ptr 0 0]],[.box [.imm (.cons (.int .i64) (.cons (.int .i64) (.cons .bool (.cons (.int .u64) (.cons (.sl (.int .u8)) (.cons (.sl (.int .u8)) .nil)))))) q]]=>some ((allLen l,.bool ((l:List OV).any (fun z=>(q:List OV).any (zE_ z)))))
 | _,_=>none
theorem ZC_:zf_ Tryd.prog 13 (RoF zy_).sum:=by
 refine zi_ Tryd.func13 ZK_ (zb_ (s:=RoF zG_) ZT_ (ze_ _)) fun args objs p v e=>?_
 unfold zy_ at e
 split at e
 ·rename_i l q
  cases e
  refine ⟨rfl,fun hw ho hp=>?_⟩
  have h9:=qy_ (p:=fun z=>(q:List OV).any (zE_ z)) l 0 (Int.le_refl _)
  repeat'(intro t ht;first|(cases t<;>first|(cases ht;done)|(try simp only[zg_]at ht;try(exfalso;first|contradiction|omega)))|((first|refine za_ ht ?_|refine ht ?_ ?_|refine ht.1 ?_ ?_|refine ht ?_)<;>clear ht))
  all_goals first
   | exact True.intro
   | exact hp
   | exact ⟨congrArg AV.bool h9,rfl⟩
 ·cases e
def Xy_:IR:=
(sq (kr [0,1] [oD 3 (.boxv 1),
oD 4 (.mov cF)])
(sq (.reg [oM 5 0,
oD 6 (.mkfn 21 [] [3]),
oC 7 13 [5,6],
oM 4 7])
.ret))
def xW_:List RD:=[.tmp 4 true none]
theorem Xh_:zm_ Tryd.prog Tryd.f8 Xy_ xW_=true:=by kernel_rfl
def qC_:List AV->List Obj->Option (Prop × AV)
 | [.imm (.cons (.int .i64) (.cons (.int .i64) (.cons .bool (.cons (.int .u64) (.cons (.sl (.int .u8)) (.cons (.sl (.int .u8)) .nil)))))) a,.imm (.cons (.int .i64) (.cons (.int .i64) (.cons .bool (.cons (.int .u64) (.cons (.sl (.int .u8)) (.cons (.sl (.int .u8)) .nil)))))) b],[]=>some ((allLen a,.bool (Zp_ a b)))
 | _,_=>none
theorem ka_:zf_ Tryd.prog 8 (RoF qC_).sum:=by
 refine zi_ Tryd.func8 Xh_ (zb_ (s:=RoF qH_) kQ_ (zb_ (s:=RoF zy_) ZC_ (ze_ _))) fun args objs p v e=>?_
 unfold qC_ at e
 split at e
 ·rename_i a b
  cases e
  refine ⟨rfl,fun hw ho hp=>?_⟩
  repeat'(intro t ht;first|(cases t<;>first|(cases ht;done)|(try simp only[zg_]at ht;try(exfalso;first|contradiction|omega)))|((first|refine za_ ht ?_|refine ht ?_ ?_|refine ht.1 ?_ ?_|refine ht ?_)<;>clear ht))
  all_goals first
   | exact True.intro
   | exact hp
   | exact ⟨rfl,by first | rfl | exact True.intro⟩
 ·cases e
def Xx_:IR:=
(sq (kr [0,1] [oD 4 (.mov cF)])
(sq (sq (.reg [oM 7 0,
oE 8 7,
oD 9 (.mov (cI 0))])
(.block 0
(.loop
(sq (kr [1,7,8,9] [oB 10 .lss 9 8])
(sq (.cond 10
.skip
(.exit 0))
(sq (.block 1
(sq (.reg [oI 11 6 7 9,
oK 12 6 11,
oD 6 (.box [.int .i64 0,.int .i64 0,.kb false,.int .u64 0,.imm (.int .u8) [],.imm (.int .u8) []]),
oS 6 6 12])
(sq (.reg [oM 13 1,
oD 14 (.mkfn 37 [] [6]),
oC 15 13 [13,14],
oD 16 (.un .not 15)])
(.cond 16
(sq (kr [] [oD 4 (.mov cF)])
.ret)
.skip))))
(kr [1,7,8,9] [oB 17 .add 9 (cI 1),
oM 9 17])))))))
(sq (kr [] [oD 4 (.mov cT)])
.ret)))
def xV_:List RD:=[.tmp 4 true none]
theorem Xg_:zm_ Tryd.prog Tryd.f18 Xx_ xV_=true:=by kernel_rfl
def k8_:List AV->List Obj->Option (Prop × AV)
 | [.imm (.cons (.int .i64) (.cons (.int .i64) (.cons .bool (.cons (.int .u64) (.cons (.sl (.int .u8)) (.cons (.sl (.int .u8)) .nil)))))) a,.imm (.cons (.int .i64) (.cons (.int .i64) (.cons .bool (.cons (.int .u64) (.cons (.sl (.int .u8)) (.cons (.sl (.int .u8)) .nil)))))) b],[]=>some ((allLen a,.bool (v2_ a b)))
 | _,_=>none
theorem WM_:zf_ Tryd.prog 18 (RoF k8_).sum:=by
 refine zi_ Tryd.func18 Xg_ (zb_ (s:=RoF ZE_) q1_ (zb_ (s:=RoF zj_) zs_ (ze_ _))) fun args objs p v e=>?_
 unfold k8_ at e
 split at e
 ·rename_i a b
  cases e
  refine ⟨rfl,fun hw ho hp=>?_⟩
  change List OV at a
  change List OV at b
  have hl:a.length<=maxLen:=(hw (.imm Y1 a) (by simp)).2
  unfold maxLen at hl
  clear hw ho
  unfold v2_
  repeat'(intro t ht;first|(cases t<;>first|(cases ht;done)|(try simp only[zg_]at ht;try(exfalso;first|contradiction|omega)))|((first|refine za_ ht ?_|refine ht ?_ ?_|refine ht.1 ?_ ?_|refine ht ?_)<;>clear ht))
  all_goals first
   | exact True.intro
   | (intro r h1 h2;clear h1;refine h2 ⟨[1,7,8,9],Nat,(fun i=>i<=a.length/\(a.take i).all (fun o=>b.any fun x=>Zr_ o x)=true),fun i=>[.imm Y1 b,.imm Y1 a,.int .i64 a.length,.int .i64 i],fun _=>[],fun i=>a.length - i,⟨0,⟨Nat.zero_le _,rfl⟩,rfl,rfl⟩,?_⟩;clear h2)
  rintro i ⟨hi,hJ⟩
  repeat'(intro t ht;first|(cases t<;>first|(cases ht;done)|(try simp only[zg_]at ht;try(exfalso;first|contradiction|omega)))|((first|refine za_ ht ?_|refine ht ?_ ?_|refine ht.1 ?_ ?_|refine ht ?_)<;>clear ht))
  all_goals (try simp only [Int.toNat_natCast] at ht ⊢)
  all_goals (try generalize (Ty.dflt Y1)=od at*)
  all_goals first
   | exact True.intro
   | omega
   | ((try dsimp only);simp only [zp_];omega)
   | exact (Ua_ (hp.h _ (z1_ (by omega) od))).1
   | (rw [X5_ (by omega) hJ];exact ⟨rfl,by first | rfl | exact True.intro⟩)
   | (rw [X4_ (f:=fun o=>b.any fun x=>Zr_ o x) (d:=od) (by omega) ht];exact ⟨rfl,by first | rfl | exact True.intro⟩)
   | (refine ⟨i+1,⟨by omega,Wa_ (d:=od) (by omega) hJ ht⟩,?_,rfl,by first | rfl | exact True.intro⟩
      (try dsimp only);omega)
 ·cases e
def W5_:IR:=
(sq (kr [0,1] [oD 4 (.mov cF)])
(sq (sq (.reg [oM 7 1,
oE 8 7,
oD 9 (.mov (cI 0))])
(.block 0
(.loop
(sq (kr [0,7,8,9] [oB 10 .lss 9 8])
(sq (.cond 10
.skip
(.exit 0))
(sq (.block 1
(sq (.reg [oI 11 6 7 9,
oK 12 6 11,
oD 6 (.box [.int .i64 0,.int .i64 0,.kb false,.int .u64 0,.imm (.int .u8) [],.imm (.int .u8) []]),
oS 6 6 12])
(sq (.reg [oM 13 0,
oD 14 (.mkfn 19 [] [6]),
oC 15 13 [13,14],
oD 16 (.un .not 15)])
(.cond 16
(sq (kr [] [oD 4 (.mov cF)])
.ret)
.skip))))
(kr [0,7,8,9] [oB 17 .add 9 (cI 1),
oM 9 17])))))))
(sq (kr [] [oD 4 (.mov cT)])
.ret)))
def WS_:List RD:=[.tmp 4 true none]
theorem WZ_:zm_ Tryd.prog Tryd.f7 W5_ WS_=true:=by kernel_rfl
def Qj_:List AV->List Obj->Option (Prop × AV)
 | [.imm (.cons (.int .i64) (.cons (.int .i64) (.cons .bool (.cons (.int .u64) (.cons (.sl (.int .u8)) (.cons (.sl (.int .u8)) .nil)))))) a,.imm (.cons (.int .i64) (.cons (.int .i64) (.cons .bool (.cons (.int .u64) (.cons (.sl (.int .u8)) (.cons (.sl (.int .u8)) .nil)))))) b],[]=>some ((allLen a,.bool (Zm_ a b)))
 | _,_=>none
theorem k9_:zf_ Tryd.prog 7 (RoF Qj_).sum:=by
 refine zi_ Tryd.func7 WZ_ (zb_ (s:=RoF Zw_) qJ_ (zb_ (s:=RoF zj_) zs_ (ze_ _))) fun args objs p v e=>?_
 unfold Qj_ at e
 split at e
 ·rename_i a b
  cases e
  refine ⟨rfl,fun hw ho hp=>?_⟩
  change List OV at a
  change List OV at b
  have hl:b.length<=maxLen:=(hw (.imm Y1 b) (by simp)).2
  unfold maxLen at hl
  clear hw ho
  unfold Zm_
  repeat'(intro t ht;first|(cases t<;>first|(cases ht;done)|(try simp only[zg_]at ht;try(exfalso;first|contradiction|omega)))|((first|refine za_ ht ?_|refine ht ?_ ?_|refine ht.1 ?_ ?_|refine ht ?_)<;>clear ht))
  all_goals first
   | exact True.intro
   | (intro r h1 h2;clear h1;refine h2 ⟨[0,7,8,9],Nat,(fun i=>i<=b.length/\(b.take i).all (fun y=>a.any fun x=>zH_ x y)=true),fun i=>[.imm Y1 a,.imm Y1 b,.int .i64 b.length,.int .i64 i],fun _=>[],fun i=>b.length - i,⟨0,⟨Nat.zero_le _,rfl⟩,rfl,rfl⟩,?_⟩;clear h2)
  rintro i ⟨hi,hJ⟩
  repeat'(intro t ht;first|(cases t<;>first|(cases ht;done)|(try simp only[zg_]at ht;try(exfalso;first|contradiction|omega)))|((first|refine za_ ht ?_|refine ht ?_ ?_|refine ht.1 ?_ ?_|refine ht ?_)<;>clear ht))
  all_goals (try simp only [Int.toNat_natCast] at ht ⊢)
  all_goals (try generalize (Ty.dflt Y1)=od at*)
  all_goals first
   | exact True.intro
   | omega
   | ((try dsimp only);simp only [zp_];omega)
   | exact hp
   | (rw [X5_ (by omega) hJ];exact ⟨rfl,by first | rfl | exact True.intro⟩)
   | (rw [X4_ (f:=fun y=>a.any fun x=>zH_ x y) (d:=od) (by omega) ht];exact ⟨rfl,by first | rfl | exact True.intro⟩)
   | (refine ⟨i+1,⟨by omega,Wa_ (d:=od) (by omega) hJ ht⟩,?_,rfl,by first | rfl | exact True.intro⟩
      (try dsimp only);omega)
 ·cases e
def vv_ (c f:Int) (ms:List Int) (t:Nat):Prop:=zo_ .and .u8 (ms.getD (ms.length - 1 - t) 0) (JS_ (wdM c f ms.length - 8*(t:Int)))=JS_ (wdM c f ms.length - 8*(t:Int))
theorem HV_ {c f:Int} {ms:List Int} (h:∀ t:Nat,t < ms.length->vv_ c f ms t):Wx_ c f ms=true:=by
 unfold Wx_
 refine List.all_eq_true.2 fun i hi=>decide_eq_true ?_
 have hi:=List.mem_range.1 hi
 have h1:=h (ms.length - 1 - i) (by omega)
 unfold vv_ at h1
 have e1:ms.length - 1 - (ms.length - 1 - i)=i:=by omega
 have e2:((ms.length - 1 - i:Nat):Int)=(ms.length:Int) - 1 - i:=by omega
 rw [e1,e2] at h1
 exact h1
theorem ge_ {c f:Int} {ms:List Int} {t:Nat} (ht:t < ms.length) (h:¬ vv_ c f ms t):Wx_ c f ms=false:=by
 unfold Wx_
 rw [List.all_eq_false]
 refine ⟨ms.length - 1 - t,List.mem_range.2 (by omega),fun k=>h ?_⟩
 have e2:(ms.length:Int) - 1 - ((ms.length - 1 - t:Nat):Int)=t:=by omega
 have k:=of_decide_eq_true k
 rw [e2] at k
 exact k
theorem Hw_ {l:Int} (h:l < 8):JS_ l=2 ^ (if l < 0 then 0 else l).toNat - 1:=if_pos h
theorem Hx_ {l:Int} (h:¬ l < 8):JS_ l=255:=if_neg h
theorem Hv_ {l:Int} (h:l < 8):(0<=(1:Int)*2 ^ (min (if 0 > l then 0 else l).toNat 8)/\(1:Int)*2 ^ (min (if 0 > l then 0 else l).toNat 8)<=255)/\(0<=(1:Int)*2 ^ (min (if 0 > l then 0 else l).toNat 8) - 1/\(1:Int)*2 ^ (min (if 0 > l then 0 else l).toNat 8) - 1<=255)/\(1:Int)*2 ^ (min (if 0 > l then 0 else l).toNat 8) - 1=JS_ l:=by
 rw [Hw_ h]
 have hcase:l < 0\/l=0\/l=1\/l=2\/l=3\/l=4\/l=5\/l=6\/l=7:=by omega
 rcases hcase with h | rfl | rfl | rfl | rfl | rfl | rfl | rfl | rfl
 ·rw [if_pos (show (0:Int) > l from h)];decide
 all_goals decide
theorem bO_ {c f:Int} {m:List Int} {j:Nat} (h:0<=(m.length:Int) - 1 - j):vv_ c f m j ↔ zo_ .and .u8 (m.getD ((m.length:Int) - 1 - j).toNat 0) (JS_ (wdM c f m.length - 8*(j:Int)))=JS_ (wdM c f m.length - 8*(j:Int)):=by
 unfold vv_
 rw [show ((m.length:Int) - 1 - j).toNat=m.length - 1 - j by omega]
theorem U2_ {c f:Int} {m:List Int} {j:Nat} (h:∀ t:Nat,t < j->vv_ c f m t) (k:vv_ c f m j):∀ t:Nat,t < j+1->vv_ c f m t:=fun t ht=>by
 by_cases e:t=j
 ·rw [e];exact k
 ·exact h t (by omega)
def y2_:IR:=
(sq (kr [0] [oD 1 (.boxv 0),
oD 2 (.mov cF)])
(sq (kr [1] [oA 8 5 1,
oL 9 8,
oE 10 9,
oB 11 .mul (cI 8) 10,
oM 3 11])
(sq (sq (kr [1,3] [oA 13 1 1,
oL 14 13,
oC 15 51 [14],
oM 12 15,
oX 16 12 0,
oX 17 12 1,
oD 4 (.box [.int .i64 0,.int .i64 0,.kb false,.int .i64 0,.imm (.int .u64) []]),
oS 5 4 16,
oM 5 17])
(sq (kr [1,3,4,5] [oM 18 5,
oM 19 18,
oT 19 20 (.fieldAddr 0 1),
oT 19 21 (.load none 20),
oT 19 22 (.bin .eql 21 (cI 32768)),
oP 23 19 22 cF])
(.cond 23
(kr [1,4] [oA 24 0 4,
oL 25 24,
oM 3 25])
.skip)))
(sq (sq (kr [1,3] [oA 26 5 1,
oL 27 26,
oE 28 27,
oB 29 .sub 28 (cI 1),
oM 6 29])
(.block 0
(.loop
(sq (sq (kr [1,3,6] [oM 30 6,
oB 31 .geq 30 (cI 0)])
(.cond 31
.skip
(.exit 0)))
(sq (.block 1
(sq (.reg [oD 7 (.mov (.c (.int .u8 255)))])
(sq (sq (.reg [oM 34 3,
oB 35 .lss 34 (cI 8)])
(.cond 35
(kr [1,3,6] [oM 36 3,
oD 37 (.minmax true 36 (cI 0)),
oB 38 .shl (.c (.int .u8 1)) 37,
oB 39 .sub 38 (.c (.int .u8 1)),
oM 7 39])
.skip))
(sq (sq (kr [1,3,6,7] [oA 40 5 1,
oL 41 40,
oM 42 6,
oI 43 1 41 42,
oL 44 43,
oM 45 7,
oB 46 .and 44 45,
oM 47 7,
oB 48 .neq 46 47])
(.cond 48
(sq (kr [] [oD 2 (.mov cF)])
.ret)
.skip))
(kr [1,3,6] [oM 49 3,
oB 50 .sub 49 (cI 8),
oM 3 50])))))
(kr [1,3,6] [oM 32 6,
oB 33 .sub 32 (cI 1),
oM 6 33]))))))
(sq (kr [] [oD 2 (.mov cT)])
.ret)))))
def yv_:List RD:=[.tmp 2 true none]
theorem yK_:zm_ Tryd.prog Tryd.f43 y2_ yv_=true:=by kernel_rfl
def KU_:List AV->List Obj->Option (Prop × AV)
 | [.agg [.int .i64 c,.int .i64 f,.bool h,.int .u64 x,.imm (.int .u8) v,.imm (.int .u8) m]],[]=>some ((m.length<=1000000,.bool (Wx_ c f m)))
 | _,_=>none
theorem xF_:zf_ Tryd.prog 43 (RoF KU_).sum:=by
 refine zi_ Tryd.func43 yK_ (zb_ (s:=RoF QM_) kh_ (ze_ _)) fun args objs p v e=>?_
 unfold KU_ at e
 split at e
 ·rename_i c f h x v m
  cases e
  refine ⟨rfl,fun hw ho hp=>?_⟩
  change List Int at v
  change List Int at m
  clear hw ho
  have hb:=BD_ f
  have hK:(c=32768/\fIs f=true/\wdM c f m.length=kF_ f)\/(c ≠ 32768/\wdM c f m.length=8*(m.length:Int))\/(fIs f=false/\wdM c f m.length=8*(m.length:Int)):=by
   unfold wdM
   by_cases e:c=32768
   ·cases e2:fIs f
    ·exact .inr (.inr ⟨rfl,if_neg fun k=>Bool.noConfusion k.2⟩)
    ·exact .inl ⟨e,rfl,if_pos ⟨e,rfl⟩⟩
   ·exact .inr (.inl ⟨e,if_neg fun k=>e k.1⟩)
  have hw:0<=wdM c f m.length/\wdM c f m.length<=8000001:=by omega
  rcases hK with ⟨k1,k2,k3⟩ | ⟨k1,k3⟩ | ⟨k2,k3⟩
  all_goals repeat'(intro t ht;first|(cases t<;>first|(cases ht;done)|(try simp only[zg_]at ht;try(exfalso;first|contradiction|omega)))|((first|refine za_ ht ?_|refine ht ?_ ?_|refine ht.1 ?_ ?_|refine ht ?_)<;>clear ht))
  all_goals first
   | exact True.intro
   | omega
   | (exfalso;exact absurd (‹fIs f=true›) (by rw [k2];decide))
   | (exfalso;exact absurd (‹fIs f=false›) (by rw [k2];decide))
   | ((try dsimp only);simp only [zp_];omega)
   | (intro r h1 h2;clear h1;refine h2 ⟨[1,3,6],Nat,(fun j=>j<=m.length/\∀ t:Nat,t < j->vv_ c f m t),fun j=>[.ptr 0 0,.int .i64 (wdM c f m.length - 8*(j:Int)),.int .i64 ((m.length:Int) - 1 - (j:Int))],fun _=>[.box [.int .i64 c,.int .i64 f,.bool h,.int .u64 x,.imm (.int .u8) v,.imm (.int .u8) m]],fun j=>m.length - j,⟨0,⟨Nat.zero_le _,fun t ht=>absurd ht (Nat.not_lt_zero t)⟩,(by dsimp only;refine List.cons_eq_cons.2 ⟨rfl,List.cons_eq_cons.2 ⟨congrArg (AV.int _) ?_,List.cons_eq_cons.2 ⟨congrArg (AV.int _) ?_,rfl⟩⟩⟩<;>omega),rfl⟩,?_⟩;clear h2)
  all_goals rintro j ⟨hj,hJ⟩
  all_goals have hO:=fun h=>bO_ (c:=c) (f:=f) (m:=m) (j:=j) h
  all_goals have hG:=fun h=>Hx_ (l:=wdM c f m.length - 8*(j:Int)) h
  all_goals have hR:=fun h=>Hv_ (l:=wdM c f m.length - 8*(j:Int)) h
  all_goals repeat'(intro t ht;first|(cases t<;>first|(cases ht;done)|(try simp only[zg_]at ht;try(exfalso;first|contradiction|omega)))|((first|refine za_ ht ?_|refine ht ?_ ?_|refine ht.1 ?_ ?_|refine ht ?_)<;>clear ht))
  all_goals first
   | exact True.intro
   | omega
   | ((try dsimp only);simp only [zp_];omega)
   | (refine ⟨?_,?_⟩<;>omega)
   | (refine ⟨?_,?_,?_⟩<;>omega)
   | (show (0:Int)<=if 0 > _ then 0 else _;split<;>omega)
   | exact (hR (by assumption)).1
   | exact (hR (by assumption)).2.1
   | exact ⟨congrArg AV.bool (HV_ fun t h=>hJ t (by omega)).symm,rfl⟩
   | exact ⟨congrArg AV.bool (ge_ (t:=j) (by omega) fun k=>ht (by
      have h1:=(hO (by omega)).1 k
      rw [hG (by assumption)] at h1;exact h1)).symm,rfl⟩
   | exact ⟨congrArg AV.bool (ge_ (t:=j) (by omega) fun k=>ht (by
      have h1:=(hO (by omega)).1 k
      rw [<- (hR (by assumption)).2.2] at h1;exact h1)).symm,rfl⟩
   | exact ⟨j+1,⟨by omega,U2_ hJ ((hO (by omega)).2 (by rw [hG (by assumption)];exact ht))⟩,by dsimp only;omega,by dsimp only;refine List.cons_eq_cons.2 ⟨rfl,List.cons_eq_cons.2 ⟨congrArg (AV.int _) ?_,List.cons_eq_cons.2 ⟨congrArg (AV.int _) ?_,rfl⟩⟩⟩<;>omega,rfl⟩
   | exact ⟨j+1,⟨by omega,U2_ hJ ((hO (by omega)).2 (by rw [<- (hR (by assumption)).2.2];exact ht))⟩,by dsimp only;omega,by dsimp only;refine List.cons_eq_cons.2 ⟨rfl,List.cons_eq_cons.2 ⟨congrArg (AV.int _) ?_,List.cons_eq_cons.2 ⟨congrArg (AV.int _) ?_,rfl⟩⟩⟩<;>omega,rfl⟩
 ·cases e
theorem GE_ {l r:List Int} {i:Nat} {x:Int} (hi:i < l.length) (hx:x=l.getD i 0) (hr:0 < r.length):(l.take i++r).set i x=l.take (i+1)++r.drop 1:=by
 have h1:(l.take i).length=i:=List.length_take_of_le (by omega)
 rw [List.set_append_right _ _ (by omega),h1,Nat.sub_self]
 obtain ⟨y,r',rfl⟩:∃ y r',r=y :: r':=by
  cases r with
  | nil=>exact absurd hr (by decide)
  | cons y r'=>exact ⟨y,r',rfl⟩
 have h2:l.take (i+1)=l.take i++[x]:=by
  rw [hx,List.take_add_one,List.getD_eq_getElem?_getD,List.getElem?_eq_getElem hi];rfl
 rw [h2];simp
theorem BS_ {l v m w:List Int} {i:Nat} (hi:i < v.length) (hl:l.length=v.length) (e:l.getD i 0=zo_ .or .u8 (v.getD i 0) (w.getD i 0)):(l.take i++(v.drop i++m)).set (0+(i:Int).toNat) (zo_ .or .u8 ((l.take i++(v.drop i++m)).getD (0+(i:Int).toNat) 0) (w.getD (i:Int).toNat 0))=l.take (i+1)++(v.drop (i+1)++m):=by
 rw [Int.toNat_natCast,Nat.zero_add]
 have h1:(l.take i).length=i:=List.length_take_of_le (by omega)
 have h2:(l.take i++(v.drop i++m)).getD i 0=v.getD i 0:=by
  rw [List.getD_eq_getElem?_getD,List.getElem?_append_right (by omega),h1,Nat.sub_self,List.getElem?_append_left (by rw [List.length_drop];omega),List.getElem?_drop,Nat.add_zero,<- List.getD_eq_getElem?_getD]
 rw [h2,<- e,GE_ (by omega) rfl (by rw [List.length_append,List.length_drop];omega),List.drop_append_of_le_length (by rw [List.length_drop];omega),List.drop_drop]
theorem BR_ {l:List Int} {i n:Nat} {y:Int} (hi:i < n) (hl:l.length=n) (e:l.getD i 0=y):(l.take i++List.replicate (n - i) 0).set (i:Int).toNat y=l.take (i+1)++List.replicate (n - (i+1)) 0:=by
 rw [Int.toNat_natCast,GE_ (by omega) e.symm (by rw [List.length_replicate];omega),List.drop_replicate]
 rw [show n - i - 1=n - (i+1) by omega]
theorem BG_ {l v m:List Int} (h:l.length=v.length):(((l.take v.length++(v.drop v.length++m)).drop 0).take v.length)=l:=by
 rw [List.drop_zero,<- h,List.take_length,List.take_left]
theorem BF_ {l:List Int} {n:Nat} (h:l.length=n):l.take n++List.replicate (n - n) 0=l:=by
 rw [<- h,List.take_length,Nat.sub_self,List.replicate_zero,List.append_nil]
theorem B0_ {l v m:List Int} {i:Nat} (hi:i<=v.length) (h:l.length=v.length):(l.take i++(v.drop i++m)).length=v.length+m.length:=by
 rw [List.length_append,List.length_append,List.length_drop,List.length_take];omega
theorem BZ_ {l:List Int} {i n:Nat} (hi:i<=n) (h:l.length=n):(l.take i++List.replicate (n - i) (0:Int)).length=n:=by
 rw [List.length_append,List.length_replicate,List.length_take];omega
def y3_:IR:=
(sq (kr [0,1] [oD 2 (.boxv 0),
oD 3 (.boxv 1),
oD 4 (.box [.int .i64 0,.int .i64 0,.kb false,.int .u64 0,.imm (.int .u8) [],.imm (.int .u8) []])])
(sq (.reg [oK 7 6 2,
oC 8 26 [7],
oD 5 (.box [.int .i64 0,.int .i64 0,.kb false,.int .u64 0,.imm (.int .u8) [],.imm (.int .u8) []]),
oS 6 5 8])
(sq (kr [2,3,4,5] [oA 9 4 2,
oL 10 9,
oE 11 10,
oD 12 (.mkrow (.int .u8) 1 (0:Int) 11 11),
oA 13 5 5,
oS 1 13 12])
(sq (sq (.reg [oA 14 4 5,
oL 15 14,
oE 16 15,
oD 17 (.mov (cI 0))])
(.block 0
(.loop
(sq (kr [2,3,4,5,16,17] [oB 18 .lss 17 16])
(sq (.cond 18
.skip
(.exit 0))
(sq (.block 1
(sq (.reg [oM 19 17,
oM 6 19])
(sq (kd [2,3,4,5,6,16,17] [(oA 20 4 5,[]),
(oL 21 20,[]),
(oM 22 6,[0,0]),
(oI 23 1 21 22,[]),
(oL 24 23,[]),
(oA 25 4 3,[0,0,0,0,0]),
(oL 26 25,[1,0,0,0,0]),
(oM 27 6,[0,0,0,0,0,0,0]),
(oI 28 1 26 27,[3,0,0,0,0]),
(oL 29 28,[4,0,0,0,0]),
(oB 30 .or 24 29,[]),
(oI 31 1 21 22,[]),
(oS 1 31 30,[])])
(kd [2,3,4,5,6,16,17] [(oA 32 5 5,[]),
(oL 33 32,[]),
(oM 34 6,[0,0]),
(oK 35 6 2,[0,0,0]),
(oM 36 6,[0,0,0,0]),
(oC 37 41 [35,36],[2,0,0]),
(oK 38 6 3,[0,0,0,0,0,0]),
(oM 39 6,[0,0,0,0,0,0,0]),
(oC 40 41 [38,39],[5,0,0]),
(oB 41 .or 37 40,[6,0,0]),
(oI 42 1 33 34,[]),
(oS 1 42 41,[])]))))
(kr [2,3,4,5,16,17] [oB 43 .add 17 (cI 1),
oM 17 43])))))))
(sq (kr [2,3,4,5] [oA 44 2 2,
oL 45 44,
oM 46 45,
oT 46 47 (.fieldAddr 2 3),
oT 46 48 (.load none 47),
oP 49 46 48 cF,
oM 50 49,
oT 50 51 (.load (some 6) 5),
oT 50 52 (.call false (.f 43) [51]),
oT 50 53 (.un .not 52),
oP 54 50 53 cF,
oA 55 2 5,
oS 1 55 54])
(sq (sq (kr [4,5] [oA 56 2 5,
oL 57 56,
oD 58 (.un .not 57)])
(.cond 58
(.reg [oA 59 5 5,
oN (.store 1 59 (.c (.imm (.int .u8) [])))])
.skip))
(sq (.reg [oK 60 6 5,
oS 6 4 60])
.ret)))))))
def yw_:List RD:=[.cell 4 (some 6) true []]
theorem yL_:zm_ Tryd.prog Tryd.f25 y3_ yw_=true:=by kernel_rfl
def KV_:List AV->List Obj->Option (Prop × AV)
 | [.agg [.int .i64 c,.int .i64 f,.bool h,.int .u64 x,.imm (.int .u8) v,.imm (.int .u8) m],.agg [.int .i64 c',.int .i64 f',.bool h',.int .u64 x',.imm (.int .u8) v',.imm (.int .u8) m']],[]=>some ((v.length=v'.length/\v.length<=1000/\m.length<=1000,.agg [.int .i64 c,.int .i64 f,.bool (ue_ (c,f,h,x,v,m,()) (c',f',h',x',v',m',())),.int .u64 x,.imm (.int .u8) (orV (c,f,h,x,v,m,()) (c',f',h',x',v',m',())),.imm (.int .u8) (if ue_ (c,f,h,x,v,m,()) (c',f',h',x',v',m',())=true then orM (c,f,h,x,v,m,()) (c',f',h',x',v',m',()) else [])]))
 | _,_=>none
theorem xG_:zf_ Tryd.prog 25 (RoF KV_).sum:=by
 refine zi_ Tryd.func25 yL_ (zb_ (s:=RwF kI_) Kq_ (zb_ (s:=RoF Zv_) qa_ (zb_ (s:=RoF KU_) xF_ (ze_ _)))) fun args objs p v e=>?_
 unfold KV_ at e
 split at e
 ·rename_i c f h x v m c' f' h' x' v' m'
  cases e
  refine ⟨rfl,fun hw ho hp=>?_⟩
  change List Int at v
  change List Int at m
  change List Int at v'
  change List Int at m'
  clear hw ho
  obtain ⟨p1,p2,p3⟩:=hp
  repeat'(intro t ht;first|(cases t<;>first|(cases ht;done)|(try simp only[zg_]at ht;try(exfalso;first|contradiction|omega)))|((first|refine za_ ht ?_|refine ht ?_ ?_|refine ht.1 ?_ ?_|refine ht ?_)<;>clear ht))
  all_goals first
   | exact True.intro
   | omega
   | ((try dsimp only);simp only [zp_];omega)
   | (refine ⟨?_,?_⟩<;>omega)
   | (intro r h1 h2;clear h1;refine h2 ⟨[2,3,4,5,16,17],Nat,(fun i=>i<=v.length/\True),fun i=>[.ptr 0 0,.ptr 1 0,.ptr 2 0,.ptr 3 0,.int .i64 v.length,.int .i64 i],fun i=>[.box [.int .i64 c,.int .i64 f,.bool h,.int .u64 x,.imm (.int .u8) v,.imm (.int .u8) m],.box [.int .i64 c',.int .i64 f',.bool h',.int .u64 x',.imm (.int .u8) v',.imm (.int .u8) m'],.box [.int .i64 0,.int .i64 0,.bool false,.int .u64 0,.imm (.int .u8) ([]),.imm (.int .u8) ([])],.box [.int .i64 c,.int .i64 f,.bool h,.int .u64 x,.view 4 0 v.length,.own 5],.row false (.int .u8) ((orV (c,f,h,x,v,m,()) (c',f',h',x',v',m',())).take i++(v.drop i++m)),.row false (.int .u8) ((orM (c,f,h,x,v,m,()) (c',f',h',x',v',m',())).take i++List.replicate (v.length - i) 0)],fun i=>v.length - i,⟨0,⟨Nat.zero_le _,True.intro⟩,rfl,rfl⟩,?_⟩;clear h2)
  rintro i ⟨hi,-⟩
  have oV:(orV (c,f,h,x,v,m,()) (c',f',h',x',v',m',())).length=v.length:=by unfold orV;rw [List.length_map,List.length_range];rfl
  have oM:(orM (c,f,h,x,v,m,()) (c',f',h',x',v',m',())).length=v.length:=jM_ _ _
  have lA:=B0_ (m:=m) hi oV
  have lB:=BZ_ hi oM
  repeat'(intro t ht;first|(cases t<;>first|(cases ht;done)|(try simp only[zg_]at ht;try(exfalso;first|contradiction|omega)))|((first|refine za_ ht ?_|refine ht ?_ ?_|refine ht.1 ?_ ?_|refine ht ?_)<;>clear ht))
  all_goals first
   | exact True.intro
   | omega
   | ((try dsimp only);simp only [zp_];omega)
   | (refine ⟨?_,?_⟩<;>omega)
   | (have e:i=v.length:=by omega
      subst e
      refine ⟨?_,rfl⟩
      rw [BG_ oV]
      cases h<;>cases h'<;>first | contradiction | rfl | fail)
   | (have e:i=v.length:=by omega
      subst e
      refine ⟨?_,rfl⟩
      rw [BF_ oM] at ht
      (try rw [BF_ oM])
      rw [BG_ oV]
      cases h<;>cases h'<;>first | contradiction | (unfold ue_;dsimp only;rw [ht];rfl) | fail)
   | (refine ⟨i+1,⟨by omega,True.intro⟩,by dsimp only;omega,rfl,?_⟩
      have hi2:i < v.length:=by omega
      have s1:=BS_ (m:=m) (w:=v') (l:=orV (c,f,h,x,v,m,()) (c',f',h',x',v',m',())) hi2 oV (JM_ hi2)
      have s2:=BR_ (l:=orM (c,f,h,x,v,m,()) (c',f',h',x',v',m',())) hi2 oM (JM_ hi2)
      dsimp only
      rw [<- s1,<- s2]
      rfl)
 ·cases e
end Go.Eng

/- Parts of the proof: W2. No condition. -/
import Derived.Test.YtimkdohmkfjfaaaGreatDoorProg
import Derived.Test.YtimkdohmkfjfaaaGreatDoorXK11
import Derived.KernelRfl
import Derived.Test.YtimkdohmkfjfaaaGreatDoorXK19
import Derived.Test.YtimkdohmkfjfaaaGreatDoorXK20
namespace Go.Eng
open Go.Proofs
set_option linter.unusedVariables false
set_option linter.unusedSimpArgs false
set_option maxRecDepth 100000
set_option maxHeartbeats 1000000
set_option maxHeartbeats 8000000
def xI_:IR:=
(sq (kr [0,1,2] [oD 6 (.mov cF)])
(sq (sq (kr [0,1,2] [oM 22 0,
oC 23 29 [22],
oD 24 (.un .not 23),
oM 25 24,
oF 25 26 (.mov 1),
oF 25 27 (.call false (.f 29) [26]),
oF 25 28 (.un .not 27),
oP 29 25 cT 28,
oM 30 29,
oF 30 31 (.mov 2),
oF 30 32 (.len 31),
oF 30 33 (.bin .gtr 32 (cI 3000)),
oP 34 30 cT 33])
(.cond 34
(sq (kr [] [oC 35 30 [],
oM 6 35])
.ret)
.skip))
(sq (sq (kr [0,1,2] [oM 37 0,
oC 38 31 [37],
oM 36 38,
oX 39 36 0,
oX 40 36 1,
oM 7 39,
oM 8 40])
(sq (kr [0,1,2,7,8] [oM 41 8,
oB 42 .eql 41 (cI 0)])
(.cond 42
(sq (kr [0,1,2,7] [oM 44 7,
oC 45 32 [44],
oM 43 45,
oX 46 43 0,
oX 47 43 1,
oM 9 46,
oM 10 47])
(sq (sq (kr [0,1,2,7,9,10] [oM 48 10,
oB 49 .neq 48 (cI 0),
oM 50 49,
oF 50 51 (.mov 9),
oF 50 52 (.mov 0),
oF 50 53 (.callL (.f 33) [51,52]),
oF 50 54 (.un .not 53),
oP 55 50 cT 54])
(.cond 55
(sq (kr [] [oD 6 (.mov cF)])
.ret)
.skip))
(sq (kr [0,1,2,7] [oM 56 7,
oE 57 56,
oB 58 .gtr 57 (cI 0)])
(.cond 58
(sq (kr [0,1,2,7] [oM 60 7,
oM 61 7,
oE 62 61,
oB 63 .sub 62 (cI 1),
oD 64 (.slice 1 60 none (some 63) none),
oC 65 32 [64],
oM 59 65,
oX 66 59 0,
oX 67 59 1,
oM 11 66,
oM 12 67])
(sq (kr [0,1,2,12] [oM 68 12,
oB 69 .eql 68 (cI 0)])
(.cond 69
(sq (.reg [oD 6 (.mov cF)])
.ret)
.skip)))
.skip))))
.skip)))
(sq (.reg [oM 70 0,
oD 71 (.callF (.f 34) [70]),
oM 13 71])
(sq (sq (kr [0,1,2,13] [oM 72 13,
oM 73 0,
oD 74 (.callL (.f 33) [72,73]),
oD 75 (.un .not 74),
oM 76 75,
oF 76 77 (.mov 13),
oF 76 78 (.mov 0),
oF 76 79 (.callL (.f 35) [77,78]),
oF 76 80 (.un .not 79),
oP 81 76 cT 80,
oM 82 81,
oF 82 83 (.mov 0),
oF 82 84 (.mov 1),
oF 82 85 (.callL (.f 35) [83,84]),
oF 82 86 (.mov 0),
oF 82 87 (.mov 1),
oF 82 88 (.callL (.f 33) [86,87]),
oF 82 89 (.eqb true 85 88),
oP 90 82 cT 89])
(.cond 90
(sq (kr [] [oD 6 (.mov cF)])
.ret)
.skip))
(sq (kr [0,2,13] [oM 91 0,
oD 92 (.callF (.f 34) [91]),
oM 14 92])
(sq (sq (.reg [oD 15 (.mov (cI 0))])
(.block 0
(.loop
(sq (sq (kr [0,2,13,14,15] [oM 93 15,
oM 94 13,
oE 95 94,
oB 96 .lss 93 95])
(.cond 96
.skip
(.exit 0)))
(sq (.block 1
(sq (kr [0,2,13,14,15] [oM 99 13,
oM 100 15,
oM 101 13,
oM 102 15,
oI 103 7 101 102,
oA 104 0 103,
oL 105 104,
oB 106 .add 105 (.c (.int .u64 1)),
oI 107 7 99 100,
oA 108 0 107,
oS 1 108 106])
(sq (kr [0,2,13,14,15] [oD 16 (.mov (cI 0))])
(.block 2
(.loop
(sq (sq (kr [0,2,13,14,15,16] [oM 109 16,
oM 110 13,
oM 111 15,
oI 112 7 110 111,
oA 113 6 112,
oL 114 113,
oE 115 114,
oB 116 .lss 109 115])
(.cond 116
.skip
(.exit 2)))
(sq (.block 3
(sq (kr [0,2,13,14,15,16] [oM 119 13,
oM 120 15,
oI 121 7 119 120,
oA 122 6 121,
oL 123 122,
oM 124 16,
oI 125 3 123 124,
oA 126 0 125,
oN (.store 1 126 (cI (-1)))])
(sq (kr [0,2,13,14,15,16] [oD 17 (.mov (cI 0))])
(.block 4
(.loop
(sq (sq (kr [0,2,13,14,15,16,17] [oM 127 17,
oM 128 13,
oM 129 15,
oI 130 7 128 129,
oA 131 6 130,
oL 132 131,
oM 133 16,
oI 134 3 132 133,
oA 135 1 134,
oL 136 135,
oE 137 136,
oB 138 .lss 127 137])
(.cond 138
.skip
(.exit 4)))
(sq (.block 5
(kd [0,2,13,14,15,16,17] [(oM 141 13,[]),
(oM 142 15,[0]),
(oI 143 7 141 142,[]),
(oA 144 6 143,[]),
(oL 145 144,[]),
(oM 146 16,[0,0,0,0,0]),
(oI 147 3 145 146,[]),
(oA 148 1 147,[]),
(oL 149 148,[]),
(oM 150 17,[0,0,0,0,0,0,0,0,0]),
(oM 151 13,[0,0,0,0,0,0,0,0,0,0]),
(oM 152 15,[0,0,0,0,0,0,0,0,0,0,0]),
(oI 153 7 151 152,[2,0,0,0,0,0,0,0,0,0]),
(oA 154 6 153,[3,0,0,0,0,0,0,0,0,0]),
(oL 155 154,[4,0,0,0,0,0,0,0,0,0]),
(oM 156 16,[0,0,0,0,0,0,0,0,0,0,0,0,0,0,0]),
(oI 157 3 155 156,[6,0,0,0,0,0,0,0,0,0]),
(oA 158 1 157,[7,0,0,0,0,0,0,0,0,0]),
(oL 159 158,[8,0,0,0,0,0,0,0,0,0]),
(oM 160 17,[0,0,0,0,0,0,0,0,0,0,0,0,0,0,0,0,0,0,0]),
(oI 161 1 159 160,[10,0,0,0,0,0,0,0,0,0]),
(oL 162 161,[11,0,0,0,0,0,0,0,0,0]),
(oB 163 .add 162 (.c (.int .u64 1)),[12,0,0,0,0,0,0,0,0,0]),
(oI 164 1 149 150,[]),
(oS 1 164 163,[])]))
(kr [0,2,13,14,15,16,17] [oM 139 17,
oB 140 .add 139 (cI 1),
oM 17 140]))))))))
(kr [0,2,13,14,15,16] [oM 117 16,
oB 118 .add 117 (cI 1),
oM 16 118]))))))))
(kr [0,2,13,14,15] [oM 97 15,
oB 98 .add 97 (cI 1),
oM 15 98]))))))
(sq (sq (kr [0,2,14] [oM 165 14,
oM 166 0,
oD 167 (.callL (.f 33) [165,166]),
oD 168 (.un .not 167)])
(.cond 168
(sq (.reg [oD 6 (.mov cF)])
.ret)
.skip))
(sq (kr [2] [oM 170 2,
oC 171 32 [170],
oM 169 171,
oX 172 169 0,
oX 173 169 1,
oM 18 172,
oM 19 173])
(sq (sq (kr [2,18,19] [oM 174 19,
oB 175 .neq 174 (cI 0)])
(.cond 175
(sq (kr [18] [oM 176 18,
oE 177 176,
oB 178 .eql 177 (cI 0),
oM 179 178,
oT 179 180 (.call false (.f 30) []),
oP 181 179 180 cF,
oM 6 181])
.ret)
.skip))
(sq (kr [2,18] [oM 183 18,
oC 184 31 [183],
oM 182 184,
oX 185 182 0,
oX 186 182 1,
oM 20 185,
oM 21 186])
(sq (kr [2,18,20,21] [oM 187 21,
oB 188 .eql 187 (cI 0),
oM 189 188,
oT 189 190 (.mov 18),
oT 189 191 (.call false (.f 36) [190]),
oP 192 189 191 cF,
oM 193 192,
oT 193 194 (.mov 20),
oT 193 195 (.mov 2),
oT 193 196 (.call false (.f 20) [194,195]),
oP 197 193 196 cF,
oM 198 197,
oT 198 199 (.call false (.f 30) []),
oP 200 198 199 cF,
oM 6 200])
.ret))))))))))))
def xv_:List RD:=[.tmp 6 true none]
theorem xB_:zo_ Tryz.prog Tryz.f6 xI_ xv_=true:=by kernel_rfl
def kk_:List AV->List Obj->Option (Prop × AV)
 | [.imm ty0 l,.imm ty1 m,.imm (.int .u8) b],[]=>QU_ ty0 YA l fun l=>QU_ ty1 YA m fun m=>some ((True,.bool true))
 | _,_=>none
theorem W6_:ze_ Tryz.prog 6 (RoF kk_).sum:=by
 refine zz_ Tryz.func6 xB_ (zb_ (s:=RoF yZ_) gq_ (zb_ (s:=RoF xV_) u8_ (zb_ (s:=RoF qf_) QE_ (zb_ (s:=RoF q3_) K4_ (zb_ (s:=RoF xS_) u5_ (zb_ (s:=RoF kO_) xr_ (zb_ (s:=RoF jl_) yb_ (zb_ (s:=RoF Ky_) x6_ (zb_ (s:=RoF Kl_) jE_ (zf_ _)))))))))) fun args objs p v e=>?_
 unfold kk_ at e
 split at e
 ·rename_i ty0 l ty1 m b
  obtain rfl:=ZX_ e
  replace e:=ZY_ e
  obtain rfl:=ZX_ e
  replace e:=ZY_ e
  cases e
  refine ⟨rfl,fun hw ho hp=>?_⟩
  change List Int at b
  change List TV at l
  change List TV at m
  have hwl:=zc0_ (l:=l) (hw (.imm YA l) (by simp))
  have hbb:∀ x ∈ (b:List Int),(0:Int)<=x/\x<=255:=fun x hx=>(hw (.imm (.int .u8) b) (by simp)).1 x hx
  clear hw ho
  by_cases hc:(YV_ l=true/\YV_ m=true)/\b.length<=3000
  ·obtain ⟨⟨h1,h2⟩,h3⟩:=hc
   obtain ⟨⟨hok,hn⟩,_⟩:=zdB_ h1
   have hla:=hok.a
   have hd:decide ((l:List TV)=l)=true:=decide_eq_true rfl
   have r0:tbE l=0->fdE (tbL l)=0/\fdL (tbL l)=l:=zdV_ hwl
   have r1:tbE l=0->0 < (tbL l).length->¬ fdE ((tbL l).take (((tbL l).length:Int) - 1).toNat)=0:=fun h h0=>zb8_ (r0 h).1 h0
   have hll:(tbL l).length<=65528:=zdX_ l
   have q0:fdE b=0->okT (fdL b)/\tbE (fdL b)=0/\tbL (fdL b)=b:=zc1_ hbb h3
   have q1:¬ fdE b=0->fdL b=[]:=zb7_
   have TB:(fdE b=0/\okT (fdL b)/\tbE (fdL b)=0/\tbL (fdL b)=b)\/(¬ fdE b=0/\fdL b=[]):=by
    by_cases h:fdE b=0
    ·exact .inl ⟨h,q0 h⟩
    ·exact .inr ⟨h,q1 h⟩
   have he:∀ x:Bool,¬ (x == x)=false:=fun x=>by cases x<;>decide
   have htl:∀ n:Nat,((tbL l).take n).length<=65528:=fun n=>by rw [List.length_take];omega
   repeat'(intro t ht;first|(cases t<;>first|(cases ht;done)|(try simp only[zh_]at ht;try(exfalso;first|contradiction|omega)))|((first|refine za_ ht ?_|refine ht ?_ ?_|refine ht.1 ?_ ?_|refine ht ?_)<;>clear ht))
   all_goals first
    | exact True.intro
    | contradiction
    | exact hok
    | exact hll
    | (exfalso;exact he _ (by assumption))
    | ((try simp only [zI_,zK_,zn_] at*);omega)
    | exact htl _
    | (exfalso;have g:=r0 (by assumption);simp_all;done)
    | (exfalso;have g:=r1 (by assumption) (by omega);simp_all;done)
    | (intro r h1 h2;clear h1;refine h2 ⟨[],[0,2,13,14,15],Bool × Nat,(fun a=>a.2<=l.length),fun a=>[.imm YA l,.imm (.int .u8) b,.jsl 0 YA l,.jsl 1 YA l,.int .i64 a.2],fun a=>[.reg true a.1,.reg true true],fun a=>l.length - a.2,⟨(true,0),Nat.zero_le _,rfl,rfl⟩,?_⟩;clear h2)
    | (exfalso;simp_all;done)
   all_goals
    rintro ⟨kn,i⟩ hi
    replace hi:i<=l.length:=hi
    cases kn
   all_goals repeat'(intro t ht;first|(cases t<;>first|(cases ht;done)|(try simp only[zh_]at ht;try(exfalso;first|contradiction|omega)))|((first|refine za_ ht ?_|refine ht ?_ ?_)<;>clear ht)|(refine ht.1 (by simp only[zn_];omega) ?_;clear ht)|(refine ht.2 ?_;clear ht)|(refine ht ?_;clear ht))
   all_goals (try generalize hod:(Ty.dflt YA)=od at*)
   all_goals first
    | exact True.intro
    | contradiction
    | exact ⟨rfl,rfl⟩
    | exact ⟨True.intro,True.intro⟩
    | ((try simp only [zI_,zK_,zn_] at*);omega)
    | omega
    | exact (q0 (by assumption)).1
    | (simp only [Int.toNat_natCast];omega)
    | (rcases TB with ⟨g0,g1,g2,g3⟩ | ⟨g0,g1⟩<;>first | contradiction | (simp_all;done))
    | (intro r h1 h2;clear h1;refine h2 ⟨[],[0,2,13,14,15,16],Nat,(fun a=>a<=(l.getD i od).2.2.2.2.2.2.1.length),fun a=>[.imm YA l,.imm (.int .u8) b,.jsl 0 YA l,.jsl 1 YA l,.int .i64 i,.int .i64 a],fun a=>[.reg true false,.reg true true],fun a=>(l.getD i od).2.2.2.2.2.2.1.length - a,⟨0,Nat.zero_le _,rfl,rfl⟩,?_⟩;clear h2)
   all_goals clear TB q0 q1 r0 r1 he htl hll hwl hbb
   all_goals
    rintro k hk
    have hlt:i < l.length:=by omega
    have hlm:=hla _ (zv_ hlt od)
    have hln:=hlm.n
   all_goals repeat'(intro t ht;first|(cases t<;>first|(cases ht;done)|(try simp only[zh_]at ht;try(exfalso;first|contradiction|omega)))|((first|refine za_ ht ?_|refine ht ?_ ?_)<;>clear ht)|(refine ht.1 (by simp only[zn_];omega) ?_;clear ht)|(refine ht.2 ?_;clear ht)|(refine ht ?_;clear ht))
   all_goals (try generalize hof:(Ty.dflt (.cons (.int .i64) (.cons (.sl (.int .u64)) (.cons (.sl (.int .u8)) .nil))))=of at*)
   all_goals (try simp only [hod,Int.toNat_natCast] at ht ⊢)
   all_goals first
    | exact True.intro
    | contradiction
    | ((try simp only [zI_,zK_,zn_] at*);omega)
    | (simp only [Int.toNat_natCast];omega)
    | (dsimp only;omega)
    | omega
    | (refine ⟨(false,i+1),by dsimp only;omega,by dsimp only;omega,rfl,rfl⟩;done)
    | (intro r h1 h2;clear h1;refine h2 ⟨[],[0,2,13,14,15,16,17],Nat,(fun a=>a<=((l.getD i od).2.2.2.2.2.2.1.getD k of).2.1.length),fun a=>[.imm YA l,.imm (.int .u8) b,.jsl 0 YA l,.jsl 1 YA l,.int .i64 i,.int .i64 k,.int .i64 a],fun a=>[.reg true false,.reg true true],fun a=>((l.getD i od).2.2.2.2.2.2.1.getD k of).2.1.length - a,⟨0,Nat.zero_le _,rfl,rfl⟩,?_⟩;clear h2)
   all_goals
    rintro j hj
    have hkt:k < (l.getD i od).2.2.2.2.2.2.1.length:=by omega
    have hlf:=(hlm.a _ (zv_ hkt of)).1
   all_goals repeat'(intro t ht;first|(cases t<;>first|(cases ht;done)|(try simp only[zh_]at ht;try(exfalso;first|contradiction|omega)))|((first|refine za_ ht ?_|refine ht ?_ ?_)<;>clear ht)|(refine ht.1 (by simp only[zn_];omega) ?_;clear ht)|(refine ht.2 ?_;clear ht)|(refine ht ?_;clear ht))
   all_goals (try simp only [hod,hof,Int.toNat_natCast] at ht ⊢)
   all_goals first
    | exact True.intro
    | contradiction
    | ((try simp only [zI_,zK_,zn_] at*);omega)
    | (simp only [Int.toNat_natCast];omega)
    | (dsimp only;omega)
    | omega
    | (refine ⟨j+1,by omega,by omega,rfl,True.intro⟩;done)
    | (refine ⟨k+1,by omega,by omega,rfl,True.intro⟩;done)
    | (refine ⟨j+1,by omega,by omega,rfl,rfl⟩;done)
    | (refine ⟨k+1,by omega,by omega,rfl,rfl⟩;done)
  ·by_cases h1:YV_ l=true
   ·by_cases h2:YV_ m=true
    ·have h3:¬ b.length<=3000:=fun h=>hc ⟨⟨h1,h2⟩,h⟩
     repeat'(intro t ht;first|(cases t<;>first|(cases ht;done)|(try simp only[zh_]at ht;try(exfalso;first|contradiction|omega)))|((first|refine za_ ht ?_|refine ht ?_ ?_|refine ht.1 ?_ ?_|refine ht ?_)<;>clear ht))
     all_goals first
      | exact True.intro
      | contradiction
      | exact ⟨rfl,rfl⟩
      | (exfalso;omega)
      | (exfalso;simp_all;done)
    ·repeat'(intro t ht;first|(cases t<;>first|(cases ht;done)|(try simp only[zh_]at ht;try(exfalso;first|contradiction|omega)))|((first|refine za_ ht ?_|refine ht ?_ ?_|refine ht.1 ?_ ?_|refine ht ?_)<;>clear ht))
     all_goals first
      | exact True.intro
      | contradiction
      | exact ⟨rfl,rfl⟩
      | (exfalso;simp_all;done)
   ·repeat'(intro t ht;first|(cases t<;>first|(cases ht;done)|(try simp only[zh_]at ht;try(exfalso;first|contradiction|omega)))|((first|refine za_ ht ?_|refine ht ?_ ?_|refine ht.1 ?_ ?_|refine ht ?_)<;>clear ht))
    all_goals first
     | exact True.intro
     | contradiction
     | exact ⟨rfl,rfl⟩
     | (exfalso;simp_all;done)
 ·cases e
end Go.Eng

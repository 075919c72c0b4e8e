/- Parts of the proof: J4, J5, A1, A2, M3, M4, SX, G1, S5, S6, S7, SB, S4, SC, F6, F7, F8, F9, G2, G3, G4, G5. No condition. -/
import Derived.Test.YtjajlkddpekdjaaGreatDoorProg
import Derived.Test.YtjajlkddpekdjaaGreatDoorXD10
import Derived.KernelRfl
import Derived.Test.YtjajlkddpekdjaaGreatDoorXD14
import Derived.Test.YtjajlkddpekdjaaGreatDoorXD12
import Derived.Test.YtjajlkddpekdjaaGreatDoorXD13
import Derived.Test.YtjajlkddpekdjaaGreatDoorXD11
namespace Go.Eng
open Go.Proofs
set_option linter.unusedVariables false
set_option linter.unusedSimpArgs false
set_option maxRecDepth 100000
set_option maxHeartbeats 1000000
structure OneJ (l:List OV) (d:OV) (x:Nat) (lo hi i j:Nat) (up:Bool):Prop where
 li:lo<=i
 ij:i<=j
 jh:j<=hi
 f:∀ h,lo<=h->h < i->(if up=true then ltO (l.getD h d) (l.getD x d)=true else ltO (l.getD x d) (l.getD h d)=false)
 t:∀ h,j<=h->h < hi->(if up=true then ltO (l.getD h d) (l.getD x d)=false else ltO (l.getD x d) (l.getD h d)=true)
theorem X5_ (l:List OV) (d:OV) (x:Nat) {lo hi:Nat} (up:Bool) (h:lo<=hi):OneJ l d x lo hi lo hi up:=⟨Nat.le_refl _,h,Nat.le_refl _,fun h h1 h2=>by omega,fun h h1 h2=>by omega⟩
theorem zab_ {l:List OV} {d:OV} {a b i j h:Nat} (hs:zX_ ltO d l (a+1) b) (J:OneJ l d a (a+1) b i j true) (h1:i<=h) (h2:h < j) (hlt:ltO (l.getD h d) (l.getD a d)=true):OneJ l d a (a+1) b (h+1) j true:=by
 obtain ⟨j1,j2,j3,j4,j5⟩:=J
 refine ⟨by omega,by omega,j3,fun k k1 k2=>?_,j5⟩
 rw [if_pos rfl]
 have e1:=qL_ zp_ hs (i:=k) (j:=h) k1 (by omega) (by omega)
 exact zp_.le_lt e1 hlt
theorem zac_ {l:List OV} {d:OV} {a b i j h:Nat} (hs:zX_ ltO d l (a+1) b) (J:OneJ l d a (a+1) b i j true) (h1:i<=h) (h2:h < j) (hlt:ltO (l.getD h d) (l.getD a d)=false):OneJ l d a (a+1) b i h true:=by
 obtain ⟨j1,j2,j3,j4,j5⟩:=J
 refine ⟨j1,h1,by omega,j4,fun k k1 k2=>?_⟩
 rw [if_pos rfl]
 have e1:=qL_ zp_ hs (i:=h) (j:=k) (by omega) k1 k2
 exact zp_.neg _ _ _ e1 hlt
theorem zad_ {l:List OV} {d:OV} {a m i j h:Nat} (hs:zX_ ltO d l a m) (J:OneJ l d m a m i j false) (h1:i<=h) (h2:h < j) (hlt:ltO (l.getD m d) (l.getD h d)=false):OneJ l d m a m (h+1) j false:=by
 obtain ⟨j1,j2,j3,j4,j5⟩:=J
 refine ⟨by omega,by omega,j3,fun k k1 k2=>?_,j5⟩
 rw [if_neg (by decide)]
 have e1:=qL_ zp_ hs (i:=k) (j:=h) k1 (by omega) (by omega)
 exact zp_.neg _ _ _ hlt e1
theorem zae_ {l:List OV} {d:OV} {a m i j h:Nat} (hs:zX_ ltO d l a m) (J:OneJ l d m a m i j false) (h1:i<=h) (h2:h < j) (hlt:ltO (l.getD m d) (l.getD h d)=true):OneJ l d m a m i h false:=by
 obtain ⟨j1,j2,j3,j4,j5⟩:=J
 refine ⟨j1,h1,by omega,j4,fun k k1 k2=>?_⟩
 rw [if_neg (by decide)]
 have e1:=qL_ zp_ hs (i:=h) (j:=k) (by omega) k1 (by omega)
 exact zp_.lt_le hlt e1
theorem zbx_ {l u:List OV} {d:OV} {a b i:Nat} (hb:b<=l.length) (hab:a < b) (hs:zX_ ltO d l (a+1) b) (J:OneJ l d a (a+1) b i i true) (h:Rot l a (a+1) i d u):u=stS ltO l a b:=
 zcd_ zp_ hb J.li J.jh hs (fun k k1 k2=>by have:=J.f k k1 k2;rwa [if_pos rfl] at this) (fun k k1 k2=>by have:=J.t k k1 k2;rwa [if_pos rfl] at this) h
theorem zby_ {l u:List OV} {d:OV} {a m i:Nat} (hb:m+1<=l.length) (hs:zX_ ltO d l a m) (J:OneJ l d m a m i i false) (h:Rot l i m (m+1) d u):u=stS ltO l a (m+1):=
 zce_ zp_ hb J.li J.jh hs (fun k k1 k2=>by have:=J.f k k1 k2;rwa [if_neg (by decide)] at this) (fun k k1 k2=>by have:=J.t k k1 k2;rwa [if_neg (by decide)] at this) h
theorem zaz_ (x:Nat):((x:Int)).fdiv (2 ^ min (Int.toNat 1) IntKind.u64.bits)=((x / 2:Nat):Int):=by
 show ((x:Int)).fdiv (2 ^ 1)=_
 rw [Int.fdiv_eq_ediv_of_nonneg _ (by decide)];omega
theorem wZ_ (x y:Nat):((x:Int)+(y:Int)).fdiv (2 ^ min (Int.toNat 1) IntKind.u64.bits)=(((x+y) / 2:Nat):Int):=by
 rw [<- zaz_];rfl
theorem H8_ {l:List OV} (d:OV) {a m b:Nat} (ham:a<=m) (hmb:m<=b) (hb:b<=l.length):Rot l a m b d (H9_ l a m b):=by
 refine ⟨?_,fun k hk=>?_⟩
 ·unfold H9_;simp only [List.length_append,List.length_take,List.length_drop];omega
 ·unfold H9_ zs_
  rw [Zp_,Zp_,Zp_,wP_,wP_,kQ_]
  simp only [List.length_take,List.length_drop]
  by_cases c1:k < a
  ·rw [if_pos c1,if_pos (show k < min a l.length by omega),kP_ c1]
  ·rw [if_neg c1,if_neg (show ¬ k < min a l.length by omega)]
   by_cases c2:k < a+(b - m)
   ·rw [if_pos c2,if_pos (show k - min a l.length < min b l.length - m by omega),if_pos (by omega)];congr 1;omega
   ·rw [if_neg c2,if_neg (show ¬ k - min a l.length < min b l.length - m by omega)]
    by_cases c3:k < b
    ·rw [if_pos c3,if_pos (show k - min a l.length - (min b l.length - m) < min m l.length - a by omega),if_pos (by omega)];congr 1;omega
    ·rw [if_neg c3,if_neg (show ¬ k - min a l.length - (min b l.length - m) < min m l.length - a by omega)];congr 1;omega
def q7_:IR:=
(sq (sq (kr [0,1,2,3,4] [oM 25 2,
oM 26 1,
oB 27 .sub 25 26,
oB 28 .eql 27 (cI 1)])
(.cond 28
(sq (.reg [oM 29 2,
oM 10 29])
(sq (kr [0,1,3,4,10] [oM 30 3,
oM 11 30])
(sq (.block 0
(.loop
(sq (sq (kr [0,1,4,10,11] [oM 31 10,
oM 32 11,
oB 33 .lss 31 32])
(.cond 33
.skip
(.exit 0)))
(.block 1
(sq (kr [0,1,4,10,11] [oM 34 10,
oM 35 11,
oB 36 .add 34 35,
oD 37 (.conv .u64 36),
oB 38 .shr 37 (.c (.int .u64 1)),
oD 39 (.conv .i64 38),
oM 12 39])
(sq (kd [0,1,4,10,11,12] [(oM 40 4,[]),
(oM 41 0,[0]),
(oM 42 12,[0,0]),
(oI 43 6 41 42,[2]),
(oK 44 6 43,[3]),
(oM 45 0,[0,0,0,0,0]),
(oM 46 1,[0,0,0,0,0,0]),
(oI 47 6 45 46,[2,0,0,0,0]),
(oK 48 6 47,[3,0,0,0,0]),
(oD 49 (.call false 40 [44,48]),[]),
(oB 50 .lss 49 (cI 0),[])])
(.cond 50
(kr [0,1,4,11,12] [oM 51 12,
oB 52 .add 51 (cI 1),
oM 10 52])
(kr [0,1,4,10,12] [oM 53 12,
oM 11 53]))))))))
(sq (sq (kr [0,1,10] [oM 54 1,
oM 13 54])
(.block 2
(.loop
(sq (sq (kr [0,10,13] [oM 55 13,
oM 56 10,
oB 57 .sub 56 (cI 1),
oB 58 .lss 55 57])
(.cond 58
.skip
(.exit 2)))
(sq (.block 3
(kd [0,10,13] [(oM 61 0,[]),
(oM 62 13,[0]),
(oM 63 0,[0,0]),
(oM 64 13,[0,0,0]),
(oB 65 .add 64 (cI 1),[1,0,0]),
(oM 66 0,[0,0,0,0,0]),
(oM 67 13,[0,0,0,0,0,0]),
(oB 68 .add 67 (cI 1),[1,0,0,0,0,0]),
(oI 69 6 66 68,[3,0,0,0,0]),
(oK 70 6 69,[4,0,0,0,0]),
(oM 71 0,[0,0,0,0,0,0,0,0,0,0]),
(oM 72 13,[0,0,0,0,0,0,0,0,0,0,0]),
(oI 73 6 71 72,[2,0,0,0,0,0,0,0,0,0]),
(oK 74 6 73,[3,0,0,0,0,0,0,0,0,0]),
(oI 75 6 61 62,[9,0,0]),
(oS 6 75 70,[10,0,0]),
(oI 76 6 63 65,[]),
(oS 6 76 74,[])]))
(kr [0,10,13] [oM 59 13,
oB 60 .add 59 (cI 1),
oM 13 60]))))))
.ret))))
.skip))
(sq (sq (kr [0,1,2,3,4] [oM 77 3,
oM 78 2,
oB 79 .sub 77 78,
oB 80 .eql 79 (cI 1)])
(.cond 80
(sq (.reg [oM 81 1,
oM 14 81])
(sq (kr [0,2,4,14] [oM 82 2,
oM 15 82])
(sq (.block 4
(.loop
(sq (sq (kr [0,2,4,14,15] [oM 83 14,
oM 84 15,
oB 85 .lss 83 84])
(.cond 85
.skip
(.exit 4)))
(.block 5
(sq (kr [0,2,4,14,15] [oM 86 14,
oM 87 15,
oB 88 .add 86 87,
oD 89 (.conv .u64 88),
oB 90 .shr 89 (.c (.int .u64 1)),
oD 91 (.conv .i64 90),
oM 16 91])
(sq (kd [0,2,4,14,15,16] [(oM 92 4,[]),
(oM 93 0,[0]),
(oM 94 2,[0,0]),
(oI 95 6 93 94,[2]),
(oK 96 6 95,[3]),
(oM 97 0,[0,0,0,0,0]),
(oM 98 16,[0,0,0,0,0,0]),
(oI 99 6 97 98,[2,0,0,0,0]),
(oK 100 6 99,[3,0,0,0,0]),
(oD 101 (.call false 92 [96,100]),[]),
(oB 102 .lss 101 (cI 0),[]),
(oD 103 (.un .not 102),[])])
(.cond 103
(kr [0,2,4,15,16] [oM 104 16,
oB 105 .add 104 (cI 1),
oM 14 105])
(kr [0,2,4,14,16] [oM 106 16,
oM 15 106]))))))))
(sq (sq (kr [0,2,14] [oM 107 2,
oM 17 107])
(.block 6
(.loop
(sq (sq (kr [0,14,17] [oM 108 17,
oM 109 14,
oB 110 .gtr 108 109])
(.cond 110
.skip
(.exit 6)))
(sq (.block 7
(kd [0,14,17] [(oM 113 0,[]),
(oM 114 17,[0]),
(oM 115 0,[0,0]),
(oM 116 17,[0,0,0]),
(oB 117 .sub 116 (cI 1),[1,0,0]),
(oM 118 0,[0,0,0,0,0]),
(oM 119 17,[0,0,0,0,0,0]),
(oB 120 .sub 119 (cI 1),[1,0,0,0,0,0]),
(oI 121 6 118 120,[3,0,0,0,0]),
(oK 122 6 121,[4,0,0,0,0]),
(oM 123 0,[0,0,0,0,0,0,0,0,0,0]),
(oM 124 17,[0,0,0,0,0,0,0,0,0,0,0]),
(oI 125 6 123 124,[2,0,0,0,0,0,0,0,0,0]),
(oK 126 6 125,[3,0,0,0,0,0,0,0,0,0]),
(oI 127 6 113 114,[9,0,0]),
(oS 6 127 122,[10,0,0]),
(oI 128 6 115 117,[]),
(oS 6 128 126,[])]))
(kr [0,14,17] [oM 111 17,
oB 112 .sub 111 (cI 1),
oM 17 112]))))))
.ret))))
.skip))
(sq (kr [0,1,2,3,4] [oM 129 1,
oM 130 3,
oB 131 .add 129 130,
oD 132 (.conv .u64 131),
oB 133 .shr 132 (.c (.int .u64 1)),
oD 134 (.conv .i64 133),
oM 18 134])
(sq (kr [0,1,2,3,4,18] [oM 135 18,
oM 136 2,
oB 137 .add 135 136,
oM 19 137])
(sq (.reg [oD 20 (.mov (cI 0)),
oD 21 (.mov (cI 0))])
(sq (sq (.reg [oM 138 2,
oM 139 18,
oB 140 .gtr 138 139])
(.cond 140
(sq (kr [0,1,2,3,4,18,19] [oM 141 19,
oM 142 3,
oB 143 .sub 141 142,
oM 20 143])
(.reg [oM 144 18,
oM 21 144]))
(sq (kr [0,1,2,3,4,18,19] [oM 145 1,
oM 20 145])
(.reg [oM 146 2,
oM 21 146]))))
(sq (.reg [oM 147 19,
oB 148 .sub 147 (cI 1),
oM 22 148])
(sq (.block 8
(.loop
(sq (sq (kr [0,1,2,3,4,18,19,20,21,22] [oM 149 20,
oM 150 21,
oB 151 .lss 149 150])
(.cond 151
.skip
(.exit 8)))
(.block 9
(sq (kr [0,1,2,3,4,18,19,20,21,22] [oM 152 20,
oM 153 21,
oB 154 .add 152 153,
oD 155 (.conv .u64 154),
oB 156 .shr 155 (.c (.int .u64 1)),
oD 157 (.conv .i64 156),
oM 23 157])
(sq (kd [0,1,2,3,4,18,19,20,21,22,23] [(oM 158 4,[]),
(oM 159 0,[0]),
(oM 160 22,[0,0]),
(oM 161 23,[0,0,0]),
(oB 162 .sub 160 161,[2,0]),
(oI 163 6 159 162,[4]),
(oK 164 6 163,[5]),
(oM 165 0,[0,0,0,0,0,0,0]),
(oM 166 23,[0,0,0,0,0,0,0,0]),
(oI 167 6 165 166,[2,0,0,0,0,0,0]),
(oK 168 6 167,[3,0,0,0,0,0,0]),
(oD 169 (.call false 158 [164,168]),[]),
(oB 170 .lss 169 (cI 0),[]),
(oD 171 (.un .not 170),[])])
(.cond 171
(kr [0,1,2,3,4,18,19,21,22,23] [oM 172 23,
oB 173 .add 172 (cI 1),
oM 20 173])
(kr [0,1,2,3,4,18,19,20,22,23] [oM 174 23,
oM 21 174]))))))))
(sq (kr [0,1,2,3,4,18,19,20] [oM 175 19,
oM 176 20,
oB 177 .sub 175 176,
oM 24 177])
(sq (sq (kr [0,1,2,3,4,18,20,24] [oM 178 20,
oM 179 2,
oB 180 .lss 178 179,
oM 181 180,
oT 181 182 (.mov 2),
oT 181 183 (.mov 24),
oT 181 184 (.bin .lss 182 183),
oP 185 181 184 cF])
(.cond 185
(kr [0,1,2,3,4,18,20,24] [oM 186 0,
oM 187 20,
oM 188 2,
oM 189 24,
oM 190 4,
oD 191 (.call true (.f 101) [186,187,188,189,190])])
.skip))
(sq (sq (kr [0,1,3,4,18,20,24] [oM 192 1,
oM 193 20,
oB 194 .lss 192 193,
oM 195 194,
oT 195 196 (.mov 20),
oT 195 197 (.mov 18),
oT 195 198 (.bin .lss 196 197),
oP 199 195 198 cF])
(.cond 199
(kr [0,1,3,4,18,20,24] [oM 200 0,
oM 201 1,
oM 202 20,
oM 203 18,
oM 204 4,
oD 205 (.call true (.f 94) [200,201,202,203,204])])
.skip))
(sq (kr [0,3,4,18,24] [oM 206 18,
oM 207 24,
oB 208 .lss 206 207,
oM 209 208,
oT 209 210 (.mov 24),
oT 209 211 (.mov 3),
oT 209 212 (.bin .lss 210 211),
oP 213 209 212 cF])
(.cond 213
(kr [0,3,4,18,24] [oM 214 0,
oM 215 18,
oM 216 24,
oM 217 3,
oM 218 4,
oD 219 (.call true (.f 94) [214,215,216,217,218])])
.skip)))))))))))))
def q5_:List RD:=[]
theorem q6_:zl_ Tryz.prog Tryz.f94 q7_ q5_=true:=by kernel_rfl
def zW_:List AV->List Obj->Option (Prop × AV × List Obj)
 | [.own 0,.int .i64 a,.int .i64 m,.int .i64 b,(.fn 45 [] [])],[.row false (.cons (.int .i64) (.cons (.int .i64) (.cons .bool (.cons (.int .u64) (.cons (.sl (.int .u8)) (.cons (.sl (.int .u8)) .nil)))))) l]=>some ((0<=a/\a < m/\m < b/\b<=l.length/\l.length<=100000/\zX_ ltO (Ty.dflt Y1) (l:List OV) a.toNat m.toNat/\zX_ ltO (Ty.dflt Y1) (l:List OV) m.toNat b.toNat,.tup [],[.row false Y1 (stS ltO (l:List OV) a.toNat b.toNat)]))
 | _,_=>none
theorem qP_:zf_ Tryz.prog 94 (RwF zW_).sum:=by
 refine zbo_ (fun args=>match args with | [_,.int _ a,_,.int _ b,_]=>(b - a).toNat | _=>0) Tryz.func94 q6_ (zb_ (s:=RoF qI_) kl_ (zb_ (s:=RwF z4_) q9_ (zd_ _))) fun args objs p v o e=>?_
 unfold zW_ at e
 split at e
 ·rename_i a m b l
  cases e
  refine ⟨rfl,fun hw ho hp=>?_⟩
  clear hw ho
  change List OV at l
  obtain ⟨h1,h2,h3,h4,h5,hs1,hs2⟩:=hp
  obtain ⟨a,rfl⟩:=Int.eq_ofNat_of_zero_le h1
  obtain ⟨m,rfl⟩:=Int.eq_ofNat_of_zero_le (show 0<=m by omega)
  obtain ⟨b,rfl⟩:=Int.eq_ofNat_of_zero_le (show 0<=b by omega)
  simp only [Int.toNat_natCast] at hs1 hs2 ⊢
  have hb:b<=l.length:=by omega
  have ham:a < m:=by omega
  have hmb:m < b:=by omega
  have hmid:=wZ_ a b
  generalize hMid:(a+b) / 2=mid at hmid
  have hm2:2*mid<=a+b/\a+b<=2*mid+1:=by omega
  obtain ⟨s0,r0,k1,k2,k3,k4,k5,k6,k7,k8,k9⟩:∃ s0 r0:Nat,a<=s0/\r0<=m/\mid+m<=b+s0/\m+r0<=mid+m/\s0<=r0/\(s0=a\/mid+m - s0=b)/\(r0=m\/mid+m - r0=m)/\r0<=mid/\((mid < m/\s0=mid+m - b/\r0=mid)\/(m<=mid/\s0=a/\r0=m)):=by
   by_cases c:mid < m
   ·exact ⟨mid+m - b,mid,by omega,by omega,by omega,by omega,by omega,by omega,by omega,by omega,by omega⟩
   ·exact ⟨a,m,by omega,by omega,by omega,by omega,by omega,by omega,by omega,by omega,by omega⟩
  by_cases c1:m=a+1
  ·have hs2':zX_ ltO (Ty.dflt Y1) l (a+1) b:=by rw [<- c1];exact hs2
   repeat'(intro t ht;first|(cases t<;>first|(cases ht;done)|(try simp only[zg_]at ht;try(exfalso;first|contradiction|omega)))|((first|refine za_ ht ?_|refine ht ?_ ?_|refine ht.1 ?_ ?_|refine ht ?_)<;>clear ht))
   all_goals first
    | exact True.intro
    | omega
    | ((try dsimp only);simp only [zj_];omega)
    | (intro r h1 h2;clear h1;refine h2 ⟨[0,1,4,10,11],Nat × Nat,(fun s=>OneJ l (Ty.dflt Y1) a (a+1) b s.1 s.2 true),fun s=>[.own 0,.int .i64 a,(.fn 45 [] []),.int .i64 s.1,.int .i64 s.2],fun _=>[.row false Y1 l],fun s=>s.2 - s.1,⟨(a+1,b),X5_ l (Ty.dflt Y1) a true (by omega),(by dsimp only;rw [show ((a+1:Nat):Int)=m by omega]),rfl⟩,?_⟩;clear h2)
   rintro ⟨i,j⟩ hJ
   dsimp only at hJ
   have q1:=hJ.li
   have q2:=hJ.ij
   have q3:=hJ.jh
   have hh:=wZ_ i j
   obtain ⟨h,hh1⟩:∃ h,h=(i+j) / 2:=⟨_,rfl⟩
   rw [<- hh1] at hh
   repeat'(intro t ht;first|(cases t<;>first|(cases ht;done)|(try simp only[zg_]at ht;try(exfalso;first|contradiction|omega)))|((first|refine za_ ht ?_|refine ht ?_ ?_|refine ht.1 ?_ ?_|refine ht ?_)<;>clear ht))
   all_goals (try simp only [hh,Int.toNat_natCast] at ht ⊢)
   all_goals first
    | exact True.intro
    | omega
    | ((try dsimp only);simp only [zj_];omega)
    | (constructor<;>omega)
    | (refine ⟨(h+1,j),zab_ hs2' hJ (by omega) (by omega) ((yK_ _ _).1 ht),?_,rfl,by first | rfl | exact True.intro⟩
       (try dsimp only);omega)
    | (refine ⟨(i,h),zac_ hs2' hJ (by omega) (by omega) ((uB_ _ _).1 ht),?_,rfl,by first | rfl | exact True.intro⟩
       (try dsimp only);omega)
    | (intro r h1 h2;clear h1;refine h2 ⟨[0,10,13],Nat × List OV,(fun s=>a<=s.1/\s.1+1<=i/\Rot l a (a+1) (s.1+1) (Ty.dflt Y1) s.2),fun s=>[.own 0,.int .i64 i,.int .i64 s.1],fun s=>[.row false Y1 s.2],fun s=>i - s.1,⟨(a,l),⟨Nat.le_refl _,by (try dsimp only);omega,zbr_ l a (Ty.dflt Y1)⟩,rfl,rfl⟩,?_⟩;clear h2)
   rintro ⟨k,u⟩ ⟨p1,p2,p3⟩
   dsimp only at p1 p2 p3
   have hl:=p3.len
   have e1:((k:Int)+1).toNat=k+1:=by omega
   repeat'(intro t ht;first|(cases t<;>first|(cases ht;done)|(try simp only[zg_]at ht;try(exfalso;first|contradiction|omega)))|((first|refine za_ ht ?_|refine ht ?_ ?_|refine ht.1 ?_ ?_|refine ht ?_)<;>clear ht))
   all_goals (try simp only [Int.toNat_natCast,e1] at ht ⊢)
   all_goals first
    | exact True.intro
    | omega
    | ((try dsimp only);simp only [zj_];omega)
    | (constructor<;>omega)
    | (rw [List.length_set];omega)
    | (simp only [List.length_set];constructor<;>omega)
    | (have e2:j=i:=by omega
       have e3:k+1=i:=by omega
       subst e2
       rw [e3] at p3
       have e4:=zbx_ hb (by omega) hs2' hJ p3
       rw [e4];exact ⟨by first | exact True.intro | rfl,rfl⟩)
    | (refine ⟨(k+1,_),⟨?_,?_,BY_ p3 p1 (by omega)⟩,?_,rfl,by first | rfl | exact True.intro⟩
       ·(try dsimp only);omega
       ·(try dsimp only);omega
       ·(try dsimp only);omega)
  ·by_cases c2:b=m+1
   ·subst c2
    repeat'(intro t ht;first|(cases t<;>first|(cases ht;done)|(try simp only[zg_]at ht;try(exfalso;first|contradiction|omega)))|((first|refine za_ ht ?_|refine ht ?_ ?_|refine ht.1 ?_ ?_|refine ht ?_)<;>clear ht))
    all_goals first
     | exact True.intro
     | omega
     | ((try dsimp only);simp only [zj_];omega)
     | (intro r h1 h2;clear h1;refine h2 ⟨[0,2,4,14,15],Nat × Nat,(fun s=>OneJ l (Ty.dflt Y1) m a m s.1 s.2 false),fun s=>[.own 0,.int .i64 m,(.fn 45 [] []),.int .i64 s.1,.int .i64 s.2],fun _=>[.row false Y1 l],fun s=>s.2 - s.1,⟨(a,m),X5_ l (Ty.dflt Y1) m false (by omega),rfl,rfl⟩,?_⟩;clear h2)
    rintro ⟨i,j⟩ hJ
    dsimp only at hJ
    have q1:=hJ.li
    have q2:=hJ.ij
    have q3:=hJ.jh
    have hh:=wZ_ i j
    obtain ⟨h,hh1⟩:∃ h,h=(i+j) / 2:=⟨_,rfl⟩
    rw [<- hh1] at hh
    repeat'(intro t ht;first|(cases t<;>first|(cases ht;done)|(try simp only[zg_]at ht;try(exfalso;first|contradiction|omega)))|((first|refine za_ ht ?_|refine ht ?_ ?_|refine ht.1 ?_ ?_|refine ht ?_)<;>clear ht))
    all_goals (try simp only [hh,Int.toNat_natCast] at ht ⊢)
    all_goals first
     | exact True.intro
     | omega
     | ((try dsimp only);simp only [zj_];omega)
     | (constructor<;>omega)
     | (refine ⟨(h+1,j),zad_ hs1 hJ (by omega) (by omega) ((uB_ _ _).1 ht),?_,rfl,by first | rfl | exact True.intro⟩
        (try dsimp only);omega)
     | (refine ⟨(i,h),zae_ hs1 hJ (by omega) (by omega) ((yK_ _ _).1 ht),?_,rfl,by first | rfl | exact True.intro⟩
        (try dsimp only);omega)
     | (intro r h1 h2;clear h1;refine h2 ⟨[0,14,17],Nat × List OV,(fun s=>i<=s.1/\s.1<=m/\Rot l s.1 m (m+1) (Ty.dflt Y1) s.2),fun s=>[.own 0,.int .i64 i,.int .i64 s.1],fun s=>[.row false Y1 s.2],fun s=>s.1,⟨(m,l),⟨by (try dsimp only);omega,Nat.le_refl _,H7_ l m (Ty.dflt Y1)⟩,rfl,rfl⟩,?_⟩;clear h2)
    rintro ⟨k,u⟩ ⟨p1,p2,p3⟩
    dsimp only at p1 p2 p3
    have hl:=p3.len
    have e1:((k:Int) - 1).toNat=k - 1:=by omega
    repeat'(intro t ht;first|(cases t<;>first|(cases ht;done)|(try simp only[zg_]at ht;try(exfalso;first|contradiction|omega)))|((first|refine za_ ht ?_|refine ht ?_ ?_|refine ht.1 ?_ ?_|refine ht ?_)<;>clear ht))
    all_goals (try simp only [Int.toNat_natCast,e1] at ht ⊢)
    all_goals first
     | exact True.intro
     | omega
     | ((try dsimp only);simp only [zj_];omega)
     | (constructor<;>omega)
     | (rw [List.length_set];omega)
     | (simp only [List.length_set];constructor<;>omega)
     | (have e2:j=i:=by omega
        have e3:k=i:=by omega
        subst e2
        subst e3
        have e4:=zby_ hb hs1 hJ p3
        rw [e4];exact ⟨by first | exact True.intro | rfl,rfl⟩)
     | (refine ⟨(k - 1,_),⟨?_,?_,GZ_ p3 (by omega) p2 (by omega)⟩,?_,?_,by first | rfl | exact True.intro⟩
        ·(try dsimp only);omega
        ·(try dsimp only);omega
        ·(try dsimp only);omega
        ·(try dsimp only)
         rw [show ((k - 1:Nat):Int)=(k:Int) - 1 by omega])
   ·repeat'(intro t ht;first|(cases t<;>first|(cases ht;done)|(try simp only[zg_]at ht;try(exfalso;first|contradiction|omega)))|((first|refine za_ ht ?_|refine ht ?_ ?_|refine ht.1 ?_ ?_|refine ht ?_)<;>clear ht))
    all_goals (try simp only [hmid] at ht ⊢)
    all_goals first
     | exact True.intro
     | omega
     | ((try dsimp only);simp only [zj_];omega)
     | (intro r h1 h2;clear h1;refine h2 ⟨[0,1,2,3,4,18,19,20,21,22],Nat × Nat,(fun s=>SymJ ltO (Ty.dflt Y1) l m b (mid+m) s0 r0 s.1 s.2),fun s=>[.own 0,.int .i64 a,.int .i64 m,.int .i64 b,(.fn 45 [] []),.int .i64 mid,.int .i64 ((mid:Int)+m),.int .i64 s.1,.int .i64 s.2,.int .i64 ((mid:Int)+m - 1)],fun _=>[.row false Y1 l],fun s=>s.2 - s.1,⟨(s0,r0),gG_ l k5,(by simp only [hmid];first | (rw [show (s0:Int)=(mid:Int)+m - b by omega,show r0=mid by omega]) | (rw [show s0=a by omega,show r0=m by omega])),rfl⟩,?_⟩;clear h2)
    all_goals rintro ⟨i,j⟩ hJ
    all_goals dsimp only at hJ
    all_goals have q1:=hJ.s0s
    all_goals have q2:=hJ.sr
    all_goals have q3:=hJ.rr0
    all_goals have hh:=wZ_ i j
    all_goals obtain ⟨h,hh1⟩:∃ h,h=(i+j) / 2:=⟨_,rfl⟩
    all_goals rw [<- hh1] at hh
    all_goals have e3:((mid:Int)+m - 1 - h).toNat=mid+m - 1 - h:=by omega
    all_goals have e4:((mid:Int)+m - i).toNat=mid+m - i:=by omega
    all_goals by_cases cij:i < j
    all_goals first
     | (have cpos:i < j:=by assumption
        repeat'(intro t ht;first|(cases t<;>first|(cases ht;done)|(try simp only[zg_]at ht;try(exfalso;first|contradiction|omega)))|((first|refine za_ ht ?_|refine ht ?_ ?_|refine ht.1 ?_ ?_|refine ht ?_)<;>clear ht))
        all_goals (try simp only [hh,Int.toNat_natCast,e3] at ht ⊢)
        all_goals first
         | exact True.intro
         | omega
         | ((try dsimp only);simp only [zj_];omega)
         | (constructor<;>omega)
         | (refine ⟨(h+1,j),BP_ zp_ hs1 hs2 k1 k2 k3 k4 hJ (by omega) (by omega) ((uB_ _ _).1 ht),?_,rfl,by first | rfl | exact True.intro⟩
            (try dsimp only);omega)
         | (refine ⟨(i,h),BQ_ zp_ hs1 hs2 k1 k2 k3 k4 hJ (by omega) (by omega) ((yK_ _ _).1 ht),?_,rfl,by first | rfl | exact True.intro⟩
            (try dsimp only);omega))
     | skip
    all_goals clear hh hh1 e3 h
    all_goals have hJ':SymJ ltO (Ty.dflt Y1) l m b (mid+m) s0 r0 i i:=by (have z:j=i:=by omega);(rw [z] at hJ);exact hJ
    all_goals have K:∀ u,Rot l i m (mid+m - i) (Ty.dflt Y1) u->SymR ltO (Ty.dflt Y1) l u a i mid (mid+m - i) b:=fun u hu=>BO_ zp_ hb hs1 hs2 k1 k2 k3 k4 rfl rfl k6 k7 (by omega) (by omega) (by omega) hJ' hu
    all_goals obtain ⟨e,he⟩:∃ e,e=mid+m - i:=⟨_,rfl⟩
    all_goals rw [<- he] at K
    all_goals have e5:(mid:Int)+m - i=(e:Int):=by omega
    all_goals clear hJ hJ' e4
    all_goals by_cases cr:i < m/\m < e
    all_goals first
     | (have cr2:=cr.2
        have hR:=H8_ (Ty.dflt Y1) (l:=l) (a:=i) (m:=m) (b:=e) (by omega) (by omega) (by omega)
        have K1:=K _ hR
        have hlen:=hR.len
        generalize hU:H9_ l i m e=U at*)
     | (have K1:=K _ (H6_ (Ty.dflt Y1) (by omega) (by omega) (by omega))
        have hlen:l.length=l.length:=rfl)
    all_goals have hst:=KJ_ zp_ _ (a:=a) (b:=mid) (by omega) (by first | (have z:=K1.R.len;rw [z];omega) | omega)
    all_goals repeat'(intro t ht;first|(cases t<;>first|(cases ht;done)|(try simp only[zg_]at ht;try(exfalso;first|contradiction|omega)))|((first|refine za_ ht ?_|refine ht ?_ ?_|refine ht.1 ?_ ?_|refine ht ?_)<;>clear ht))
    all_goals (try simp only [e5,Int.toNat_natCast] at ht ⊢)
    all_goals (try simp only [hU] at ht ⊢)
    all_goals first
     | exact True.intro
     | omega
     | ((try dsimp only);simp only [zj_];omega)
     | (refine ⟨?_,?_,?_,?_,?_⟩<;>omega)
     | (refine ⟨⟨?_,?_,?_,?_,?_,K1.p1,K1.p2⟩,?_⟩<;>(try rw [hlen])<;>omega)
     | (refine ⟨⟨?_,?_,?_,?_,?_,K1.p3,K1.p4⟩,?_⟩<;>(try rw [hlen])<;>omega)
     | (refine ⟨⟨?_,?_,?_,?_,?_,K1.p3.keep hst (.inr (Nat.le_refl _)),K1.p4.keep hst (.inr (by omega))⟩,?_⟩<;>(try rw [hst.len,hlen])<;>omega)
     | (have x1:=wk_ zp_ hb (by omega) (by omega) K1
        rw [x1];exact ⟨by first | exact True.intro | rfl,rfl⟩)
     | (have x1:=wk_ zp_ hb (by omega) (by omega) K1
        have x2:=GU_ zp_ hb (by omega) (by omega) K1 (by omega)
        rw [x2] at x1
        rw [x1];exact ⟨by first | exact True.intro | rfl,rfl⟩)
     | (have x1:=wk_ zp_ hb (by omega) (by omega) K1
        have x2:=GV_ zp_ hb (by omega) (by omega) K1 (by omega)
        rw [x2] at x1
        rw [x1];exact ⟨by first | exact True.intro | rfl,rfl⟩)
     | (have x1:=wk_ zp_ hb (by omega) (by omega) K1
        have x2:=GV_ zp_ hb (by omega) (by omega) K1 (by omega)
        have x3:=GU_ zp_ hb (by omega) (by omega) K1 (by omega)
        rw [x3,x2] at x1
        rw [<- x1];exact ⟨by first | exact True.intro | rfl,rfl⟩)
 ·cases e
structure OkT (l:List OV) (n:Nat) (u:List OV):Prop where
 h:Stb ltO l 0 n u
 n:n<=l.length
theorem bl_ {l:List OV} {n:Nat} (h:n<=l.length):OkT l n l:=⟨Stb.refl l 0 n,h⟩
theorem OkT.len {l u:List OV} {n:Nat} (h:OkT l n u):u.length=l.length:=h.h.len
theorem OkT.stb {l u:List OV} {n a b:Nat} (h:OkT l n u) (hab:a<=b) (hb:b<=n):Stb ltO u a b (stS ltO u a b):=KJ_ zp_ u hab (by rw [h.len];have:=h.n;omega)
theorem OkT.more {l u:List OV} {n a b:Nat} (h:OkT l n u) (hab:a<=b) (hb:b<=n):OkT l n (stS ltO u a b):=
 ⟨h.h.trans ((h.stb hab hb).wide (Nat.zero_le _) hb),h.n⟩
theorem OkT.srt {l u:List OV} {n a b:Nat} (d:OV) (h:OkT l n u) (hab:a<=b) (hb:b<=n):zX_ ltO d (stS ltO u a b) a b:=wn_ zp_ d u hab (by rw [h.len];have:=h.n;omega)
theorem OkT.old {l u:List OV} {n a b p q:Nat} {d:OV} (h:OkT l n u) (hab:a<=b) (hb:b<=n) (hs:zX_ ltO d u p q) (hd:q<=a\/b<=p):zX_ ltO d (stS ltO u a b) p q:=hs.keep (h.stb hab hb) hd
theorem OkT.fin {l u:List OV} {n:Nat} (h:OkT l n u):stS ltO u 0 n=stS ltO l 0 n:=hN_ zp_ ((Ty.dflt Y1)) (Nat.zero_le _) h.n h.h
theorem OkT.nil {l u:List OV} {n a b:Nat} (h:OkT l n u) (hab:a<=b) (hb:b<=n) (hs:b<=a+1):stS ltO u a b=u:=gJ_ zp_ (d:=(Ty.dflt Y1)) hab (by rw [h.len];have:=h.n;omega) (zX_.none u hs)
theorem OkT.srt2 {l u:List OV} {n a b p q:Nat} {d:OV} (h:OkT l n u) (hab:a<=b) (hb:b<=n) (h1:a<=p) (h2:q<=b):zX_ ltO d (stS ltO u a b) p q:=(h.srt d hab hb).sub h1 h2
theorem OkT.c1 {l u:List OV} {n:Nat} {a b:Int} (h:OkT l n u) (hl:l.length<=100000) (h1:0<=a) (h2:a<=b) (h3:b<=n):0<=a/\a<=b/\b<=u.length/\u.length<=100000:=by
 have:=h.len;have:=h.n
 exact ⟨h1,h2,by omega,by omega⟩
theorem OkT.c2 {l u:List OV} {n:Nat} {d:OV} {a m b:Int} (h:OkT l n u) (hl:l.length<=100000) (h1:0<=a) (h2:a < m) (h3:m < b) (h4:b<=n) (s1:zX_ ltO d u a.toNat m.toNat) (s2:zX_ ltO d u m.toNat b.toNat):0<=a/\a < m/\m < b/\b<=u.length/\u.length<=100000/\zX_ ltO d u a.toNat m.toNat/\zX_ ltO d u m.toNat b.toNat:=by
 have:=h.len;have:=h.n
 exact ⟨h1,h2,h3,by omega,by omega,s1,s2⟩
theorem OkT.fin2 {l u:List OV} {n a b:Nat} (h:OkT l n u) (ha:a=0) (hb:b=n):stS ltO u a b=stS ltO l 0 n:=by rw [ha,hb];exact h.fin
theorem OkT.fin3 {l u:List OV} {n a b c e:Nat} (h:OkT l n u) (ha:a=0) (hb:b=n) (hc:c=n) (he:e=n):stS ltO (stS ltO u a b) c e=stS ltO l 0 n:=by
 rw [ha,hb,hc,he,(h.more (Nat.zero_le n) (Nat.le_refl n)).nil (Nat.le_refl n) (Nat.le_refl n) (by omega)];exact h.fin
def QB_:IR:=
(sq (kr [0,1,2] [oD 6 (.mov (cI 20))])
(sq (.reg [oM 10 6,
oD 7 (.mov (cI 0)),
oM 8 10])
(sq (.block 0
(.loop
(sq (sq (kr [0,1,2,6,7,8] [oM 11 8,
oM 12 1,
oB 13 .leq 11 12])
(.cond 13
.skip
(.exit 0)))
(.block 1
(sq (kr [0,1,2,6,7,8] [oM 14 0,
oM 15 7,
oM 16 8,
oM 17 2,
oD 18 (.call true (.f 93) [14,15,16,17])])
(sq (.reg [oM 19 8,
oM 7 19])
(kr [0,1,2,6,7,8] [oM 20 8,
oM 21 6,
oB 22 .add 20 21,
oM 8 22])))))))
(sq (kr [0,1,2,6,7] [oM 23 0,
oM 24 7,
oM 25 1,
oM 26 2,
oD 27 (.call true (.f 93) [23,24,25,26])])
(.block 2
(.loop
(sq (sq (kr [0,1,2,6] [oM 28 6,
oM 29 1,
oB 30 .lss 28 29])
(.cond 30
.skip
(.exit 2)))
(.block 3
(sq (.reg [oM 31 6,
oB 32 .mul (cI 2) 31,
oD 7 (.mov (cI 0)),
oM 8 32])
(sq (.block 4
(.loop
(sq (sq (kr [0,1,2,6,7,8] [oM 33 8,
oM 34 1,
oB 35 .leq 33 34])
(.cond 35
.skip
(.exit 4)))
(.block 5
(sq (kr [0,1,2,6,7,8] [oM 36 0,
oM 37 7,
oM 38 7,
oM 39 6,
oB 40 .add 38 39,
oM 41 8,
oM 42 2,
oD 43 (.call true (.f 94) [36,37,40,41,42])])
(sq (kr [0,1,2,6,8] [oM 44 8,
oM 7 44])
(kr [0,1,2,6,7,8] [oM 45 8,
oM 46 6,
oB 47 .mul (cI 2) 46,
oB 48 .add 45 47,
oM 8 48])))))))
(sq (sq (kr [0,1,2,6,7] [oM 49 7,
oM 50 6,
oB 51 .add 49 50,
oM 9 51])
(sq (.reg [oM 52 9,
oM 53 1,
oB 54 .lss 52 53])
(.cond 54
(kr [0,1,2,6,7,9] [oM 55 0,
oM 56 7,
oM 57 9,
oM 58 1,
oM 59 2,
oD 60 (.call true (.f 94) [55,56,57,58,59])])
.skip)))
(kr [0,1,2,6] [oM 61 6,
oB 62 .mul 61 (cI 2),
oM 6 62]))))))))))))
def Qu_:List RD:=[]
theorem Qx_:zl_ Tryz.prog Tryz.f70 QB_ Qu_=true:=by kernel_rfl
def z3_:List AV->List Obj->Option (Prop × AV × List Obj)
 | [.own 0,.int .i64 n,(.fn 45 [] [])],[.row false (.cons (.int .i64) (.cons (.int .i64) (.cons .bool (.cons (.int .u64) (.cons (.sl (.int .u8)) (.cons (.sl (.int .u8)) .nil)))))) l]=>some ((0<=n/\n<=120/\n<=l.length/\l.length<=100000,.tup [],[.row false Y1 (stS ltO (l:List OV) 0 n.toNat)]))
 | _,_=>none
theorem q8_:zf_ Tryz.prog 70 (RwF z3_).sum:=by
 refine wu_ Tryz.func70 Qx_ (zb_ (s:=RwF zJ_) ZV_ (zb_ (s:=RwF zW_) qP_ (zd_ _))) fun args objs p v o e=>?_
 unfold z3_ at e
 split at e
 ·rename_i n l
  cases e
  refine ⟨rfl,fun hw ho hp=>?_⟩
  clear hw ho
  change List OV at l
  obtain ⟨h1,h2,h3,h4⟩:=hp
  obtain ⟨n,rfl⟩:=Int.eq_ofNat_of_zero_le h1
  simp only [Int.toNat_natCast]
  have h0:OkT l n l:=bl_ (by omega)
  repeat'(first|(intro t ht;first|(cases t<;>first|(cases ht;done)|(try simp only[zg_]at ht;try(exfalso;first|contradiction|omega)))|((first|refine za_ ht ?_|refine ht ?_ ?_|refine ht.1 ?_ ?_|refine ht ?_)<;>clear ht))|(intro r h1 h2;refine h1 ⟨8,?_⟩;clear h1 h2))
  all_goals first
   | exact True.intro
   | omega
   | ((try dsimp only);simp only [zj_];omega)
   | (refine OkT.c1 (n:=n) ?_ h4 ?_ ?_ ?_<;>first | omega | ((repeat (first | refine OkT.more ?_ ?_ ?_ | exact h0))<;>omega))
   | (refine OkT.c2 (n:=n) ?_ h4 ?_ ?_ ?_ ?_ ?_ ?_
      ·((repeat (first | refine OkT.more ?_ ?_ ?_ | exact h0))<;>omega)
      ·omega
      ·omega
      ·omega
      ·omega
      ·((repeat (first | (refine OkT.srt2 (n:=n) (l:=l) ?_ ?_ ?_ ?_ ?_<;>first | omega | ((repeat (first | refine OkT.more ?_ ?_ ?_ | exact h0))<;>omega)) | (refine OkT.old (n:=n) (l:=l) ?_ ?_ ?_ ?_ ?_<;>first | omega | ((repeat (first | refine OkT.more ?_ ?_ ?_ | exact h0))<;>omega) | skip)))<;>first | exact zX_.none _ (by omega) | fail)
      ·((repeat (first | (refine OkT.srt2 (n:=n) (l:=l) ?_ ?_ ?_ ?_ ?_<;>first | omega | ((repeat (first | refine OkT.more ?_ ?_ ?_ | exact h0))<;>omega)) | (refine OkT.old (n:=n) (l:=l) ?_ ?_ ?_ ?_ ?_<;>first | omega | ((repeat (first | refine OkT.more ?_ ?_ ?_ | exact h0))<;>omega) | skip)))<;>first | exact zX_.none _ (by omega) | fail))
   | (have e:=OkT.fin2 (l:=l) (n:=n) (u:=l) h0 (a:=Int.toNat 0) rfl (b:=(n:Int).toNat) (by omega)
      rw [e];exact ⟨by first | exact True.intro | rfl,rfl⟩)
   | (refine ⟨by first | exact True.intro | rfl,congrArg (fun x=>[Obj.row false _ x]) (OkT.fin2 ?_ ?_ ?_)⟩<;>first | omega | ((repeat (first | refine OkT.more ?_ ?_ ?_ | exact h0))<;>omega))
   | (refine ⟨by first | exact True.intro | rfl,congrArg (fun x=>[Obj.row false _ x]) (OkT.fin3 ?_ ?_ ?_ ?_ ?_)⟩<;>first | omega | ((repeat (first | refine OkT.more ?_ ?_ ?_ | exact h0))<;>omega))
 ·cases e
theorem H2_ {c f:Int} {h:Bool} {x:Int} {v m:List Int} (hv:v.length<=1000000) (hm:m.length<=1000000):0<=jE_ c f h x v m/\jE_ c f h x v m<=3000000:=by
 unfold jE_ QE_;repeat' split
 all_goals omega
theorem uY_ {c f:Int} {h:Bool} {x:Int} {v m:List Int} (hr:z7_ c f h x v m=true):jE_ c f h x v m=(Hq_ c f h x v m).length/\(Hq_ c f h x v m).length<=300:=by
 have h1:jE_ c f h x v m=((XL_ c f h x v m).length:Int):=by rw [H0_,if_pos hr]
 have hrn:=KP_ hr
 have hl2:=QU_ (n:=c) (w:=2) (by decide)
 have:((XL_ c f h x v m).length:Int)=4+QE_ c v m:=by
  rw [hrn.2.2.2.2.2.2.2];unfold XL_;simp only [List.length_append,List.length_cons,List.length_nil];omega
 rw [hr_ hr]
 exact ⟨h1,by omega⟩
def fwO (o:OV):Bool:=decide (o.2.2.2.2.1.length<=300) && decide (o.2.2.2.2.2.1.length<=300)
theorem zcp_ {o:OV} (h:o.2.2.2.2.1.length<=300/\o.2.2.2.2.2.1.length<=300):fwO o=true:=by unfold fwO;simp [h.1,h.2]
theorem zcq_ {o:OV} (h:¬ o.2.2.2.2.1.length<=300\/¬ o.2.2.2.2.2.1.length<=300):fwO o=false:=by unfold fwO;rcases h with h | h<;>simp [h]
def xY_ (l:List OV):Bool:=l.all fwO && decide (l.length<=60)
def smO (a b:OV):Bool:=xg_ a.1 a.2.1 a.2.2.1 a.2.2.2.1 a.2.2.2.2.1 a.2.2.2.2.2.1 b.1 b.2.1 b.2.2.1 b.2.2.2.1 b.2.2.2.2.1 b.2.2.2.2.2.1
theorem zb5_ {a b:OV} (h:smO a b=true):a=b:=by
 obtain ⟨a1,a2,a3,a4,a5,a6,_⟩:=a
 obtain ⟨b1,b2,b3,b4,b5,b6,_⟩:=b
 unfold smO xg_ at h
 simp only [Bool.and_eq_true,decide_eq_true_eq,beq_iff_eq] at h
 obtain ⟨⟨⟨⟨⟨h1,h2⟩,h3⟩,h4⟩,h5⟩,h6⟩:=h
 rw [h1,h2,h3,h4,h5,h6]
theorem zb6_ {a b:OV} (h:smO a b=false):¬ a=b:=fun e=>by
 rw [e] at h;unfold smO at h;rw [hR_] at h;cases h
structure okM (l:List OV):Prop where
 a:allLen l
 n:l.length<=100000
theorem jR_ {l:List OV} (h:xY_ l=true):okM l/\l.length<=60:=by
 unfold xY_ at h
 simp only [Bool.and_eq_true,decide_eq_true_eq] at h
 refine ⟨⟨⟨fun o ho=>?_⟩,by omega⟩,h.2⟩
 have:=List.all_eq_true.1 h.1 o ho
 unfold fwO at this
 simp only [Bool.and_eq_true,decide_eq_true_eq] at this
 exact ⟨by omega,by omega⟩
def Gi_:IR:=
(sq (kr [0] [oD 2 (.mov cF)])
(sq (sq (.reg [oD 3 (.mov (cI 0))])
(.block 0
(.loop
(sq (sq (kr [0,3] [oM 4 3,
oM 5 0,
oE 6 5,
oB 7 .lss 4 6])
(.cond 7
.skip
(.exit 0)))
(sq (.block 1
(sq (kr [0,3] [oM 10 0,
oM 11 3,
oI 12 6 10 11,
oK 13 6 12,
oC 14 16 [13],
oD 15 (.un .not 14)])
(.cond 15
(sq (kr [] [oD 2 (.mov cF)])
.ret)
.skip)))
(kr [0,3] [oM 8 3,
oB 9 .add 8 (cI 1),
oM 3 9]))))))
(sq (kr [0] [oM 16 0,
oE 17 16,
oB 18 .leq 17 (cI 60),
oM 2 18])
.ret)))
def gW_:List RD:=[.tmp 2 true none]
theorem g3_:zl_ Tryz.prog Tryz.f5 Gi_ gW_=true:=by kernel_rfl
def W3_:List AV->List Obj->Option (Prop × AV)
 | [.imm (.cons (.int .i64) (.cons (.int .i64) (.cons .bool (.cons (.int .u64) (.cons (.sl (.int .u8)) (.cons (.sl (.int .u8)) .nil)))))) l],[]=>some ((True,.bool (xY_ l)))
 | _,_=>none
theorem uV_:zf_ Tryz.prog 5 (RoF W3_).sum:=by
 refine zh_ Tryz.func5 g3_ (zb_ (s:=RoF W4_) uW_ (zd_ _)) fun args objs p v e=>?_
 unfold W3_ at e
 split at e
 ·rename_i l
  cases e
  refine ⟨rfl,fun hw ho hp=>?_⟩
  change List OV at l
  have hl:l.length<=maxLen:=(hw (.imm Y1 l) (by simp)).2
  unfold maxLen at hl
  clear hw ho
  repeat'(intro t ht;first|(cases t<;>first|(cases ht;done)|(try simp only[zg_]at ht))|((first|refine za_ ht ?_|refine ht ?_ ?_|refine ht.1 ?_ ?_|refine ht ?_)<;>clear ht))
  all_goals first
   | (intro r h1 h2;clear h1;refine h2 ⟨[0,3],Nat,(fun i=>i<=l.length/\(l.take i).all fwO=true),fun i=>[.imm Y1 l,.int .i64 i],fun _=>[],fun i=>l.length - i,⟨0,⟨Nat.zero_le _,rfl⟩,rfl,rfl⟩,?_⟩;clear h2)
  rintro i ⟨hi,he⟩
  repeat'(intro t ht;first|(cases t<;>first|(cases ht;done)|(try simp only[zg_]at ht;try(exfalso;first|contradiction|omega)))|((first|refine za_ ht ?_|refine ht ?_ ?_|refine ht.1 ?_ ?_|refine ht ?_)<;>clear ht))
  all_goals (try generalize (Ty.dflt Y1)=od at*)
  all_goals first
   | ((try simp only [zq_,zr_,zj_] at*);omega)
   | (have h:=w7_ (by omega) he
      refine ⟨?_,rfl⟩;unfold xY_;rw [h,Bool.true_and];congr 1;exact decide_eq_decide.2 (by omega))
   | exact True.intro
   | (have hf:=zcp_ ht
      exact ⟨i+1,⟨by omega,Jp_ (d:=od) (by omega) he hf⟩,by dsimp only;omega,rfl,rfl⟩)
   | (have hf:=zcq_ ht
      have h:xY_ l=false:=by unfold xY_;rw [w6_ (d:=od) (show i < l.length by omega) hf,Bool.false_and]
      refine ⟨?_,rfl⟩;rw [h];done)
 ·cases e
def UU_:IR:=
(sq (kr [0,1] [oD 4 (.mov cF)])
(sq (sq (kr [0,1] [oM 6 0,
oE 7 6,
oM 8 1,
oE 9 8,
oB 10 .neq 7 9])
(.cond 10
(sq (.reg [oD 4 (.mov cF)])
.ret)
.skip))
(sq (sq (kr [0,1] [oD 5 (.mov (cI 0))])
(.block 0
(.loop
(sq (sq (kr [0,1,5] [oM 11 5,
oM 12 0,
oE 13 12,
oB 14 .lss 11 13])
(.cond 14
.skip
(.exit 0)))
(sq (.block 1
(sq (kd [0,1,5] [(oM 17 0,[]),
(oM 18 5,[0]),
(oI 19 6 17 18,[]),
(oK 20 6 19,[]),
(oM 21 1,[0,0,0,0]),
(oM 22 5,[0,0,0,0,0]),
(oI 23 6 21 22,[2,0,0,0]),
(oK 24 6 23,[3,0,0,0]),
(oC 25 26 [20,24],[]),
(oD 26 (.un .not 25),[])])
(.cond 26
(sq (kr [] [oD 4 (.mov cF)])
.ret)
.skip)))
(kr [0,1,5] [oM 15 5,
oB 16 .add 15 (cI 1),
oM 5 16]))))))
(sq (kr [] [oD 4 (.mov cT)])
.ret))))
def u8_:List RD:=[.tmp 4 true none]
theorem Uq_:zl_ Tryz.prog Tryz.f9 UU_ u8_=true:=by kernel_rfl
def K9_:List AV->List Obj->Option (Prop × AV)
 | [.imm (.cons (.int .i64) (.cons (.int .i64) (.cons .bool (.cons (.int .u64) (.cons (.sl (.int .u8)) (.cons (.sl (.int .u8)) .nil)))))) a,.imm (.cons (.int .i64) (.cons (.int .i64) (.cons .bool (.cons (.int .u64) (.cons (.sl (.int .u8)) (.cons (.sl (.int .u8)) .nil)))))) b],[]=>some ((True,.bool (decide ((a:List OV)=b))))
 | _,_=>none
theorem wq_:zf_ Tryz.prog 9 (RoF K9_).sum:=by
 refine zh_ Tryz.func9 Uq_ (zb_ (s:=RoF J9_) Vf_ (zd_ _)) fun args objs p v e=>?_
 unfold K9_ at e
 split at e
 ·rename_i a b
  cases e
  refine ⟨rfl,fun hw ho hp=>?_⟩
  change List OV at a
  change List OV at b
  have hl:a.length<=maxLen:=(hw (.imm Y1 a) (by simp)).2
  unfold maxLen at hl
  clear hw ho
  repeat'(intro t ht;first|(cases t<;>first|(cases ht;done)|(try simp only[zg_]at ht))|((first|refine za_ ht ?_|refine ht ?_ ?_|refine ht.1 ?_ ?_|refine ht ?_)<;>clear ht))
  all_goals first
   | (have hne:a ≠ b:=fun h=>(by assumption:¬ (a.length:Int)=b.length) (by rw [h])
      refine ⟨?_,rfl⟩;rw [decide_eq_false hne];done)
   | (intro r h1 h2;clear h1;refine h2 ⟨[0,1,5],Nat,(fun i=>i<=a.length/\a.take i=b.take i),fun i=>[.imm Y1 a,.imm Y1 b,.int .i64 i],fun _=>[],fun i=>a.length - i,⟨0,⟨Nat.zero_le _,rfl⟩,rfl,rfl⟩,?_⟩;clear h2)
  rintro i ⟨hi,he⟩
  have hl2:a.length=b.length:=by omega
  repeat'(intro t ht;first|(cases t<;>first|(cases ht;done)|(try simp only[zg_]at ht;try(exfalso;first|contradiction|omega)))|((first|refine za_ ht ?_|refine ht ?_ ?_|refine ht.1 ?_ ?_|refine ht ?_)<;>clear ht))
  all_goals (try generalize (Ty.dflt Y1)=od at*)
  all_goals first
   | exact True.intro
   | ((try simp only [zq_,zr_,zj_] at*);omega)
   | (have e:=za2_ he (by omega) hl2
      refine ⟨?_,rfl⟩;rw [decide_eq_true e];done)
   | (have hs:smO (a.getD i od) (b.getD i od)=false:=by assumption
      have hne:a ≠ b:=tkNe (d:=od) (i:=i) (zb6_ hs)
      refine ⟨?_,rfl⟩;rw [decide_eq_false hne];done)
   | (have hs:smO (a.getD i od) (b.getD i od)=true:=by assumption
      exact ⟨i+1,⟨by omega,HS_ he (by omega) hl2 (d:=od) (zb5_ hs)⟩,by (try simp only [zq_,zr_,zj_] at*);omega,rfl,rfl⟩)
 ·cases e
def lgT (l:List OV) (i:Nat):Int:=4+((l.take i).map szO).sum
def vy_ (l:List OV):Int:=4+(l.map szO).sum
theorem UK_ {l:List OV} {i:Nat} {d:OV} (h:i < l.length):lgT l (i+1)=lgT l i+szO (l.getD i d):=by
 unfold lgT
 rw [List.take_succ_eq_append_getElem h,List.map_append,List.sum_append,List.getD_eq_getElem?_getD,List.getElem?_eq_getElem h]
 simp only [List.map_cons,List.map_nil,List.sum_cons,List.sum_nil,Option.getD_some];omega
theorem zat_ {l:List OV} {i:Nat} (h:l.length<=i):lgT l i=vy_ l:=by unfold lgT vy_;rw [List.take_of_length_le h]
theorem HV_ {o:OV} (h:lenO o):0<=szO o/\szO o<=3000000:=by
 unfold szO;exact H2_ (ub_ h).1 (ub_ h).2
theorem zbG_ {l:List OV} (h:allLen l) (i:Nat) (hi:i<=l.length):4<=lgT l i/\lgT l i<=4+3000000*i:=by
 induction i with
 | zero=>unfold lgT;simp
 | succ i ih=>
   have:=ih (by omega)
   have d:OV:=(0,0,false,0,[],[],())
   have hs:=HV_ (h.h _ (zu_ (show i < l.length by omega) d))
   rw [UK_ (d:=d) (by omega)];omega
def Y1_:IR:=
(sq (kr [0] [oD 2 (.mov (cI 0))])
(sq (.reg [oD 3 (.mov (cI 4))])
(sq (sq (.reg [oM 6 0,
oE 7 6,
oD 8 (.mov (cI 0))])
(.block 0
(.loop
(sq (kr [3,6,7,8] [oB 9 .lss 8 7])
(sq (.cond 9
.skip
(.exit 0))
(sq (.block 1
(sq (.reg [oI 10 6 6 8,
oK 11 6 10,
oD 5 (.box [.int .i64 0,.int .i64 0,.kb false,.int .u64 0,.imm (.int .u8) [],.imm (.int .u8) []]),
oS 6 5 11])
(kr [3,5,6,7,8] [oM 12 3,
oK 13 6 5,
oC 14 62 [13],
oB 15 .add 12 14,
oM 3 15])))
(kr [3,6,7,8] [oB 16 .add 8 (cI 1),
oM 8 16])))))))
(sq (kr [3] [oM 17 3,
oM 2 17])
.ret))))
def Yt_:List RD:=[.tmp 2 true none]
theorem YJ_:zl_ Tryz.prog Tryz.f31 Y1_ Yt_=true:=by kernel_rfl
def jd_:List AV->List Obj->Option (Prop × AV)
 | [.imm (.cons (.int .i64) (.cons (.int .i64) (.cons .bool (.cons (.int .u64) (.cons (.sl (.int .u8)) (.cons (.sl (.int .u8)) .nil)))))) l],[]=>some ((okM l,.int .i64 (vy_ l)))
 | _,_=>none
theorem Xy_:zf_ Tryz.prog 31 (RoF jd_).sum:=by
 refine zh_ Tryz.func31 YJ_ (zb_ (s:=RoF wd_) Vj_ (zd_ _)) fun args objs p v e=>?_
 unfold jd_ at e
 split at e
 ·rename_i l
  cases e
  refine ⟨rfl,fun hw ho hp=>?_⟩
  change List OV at l
  clear hw ho
  have hn:=hp.n
  repeat'(intro t ht;first|(cases t<;>first|(cases ht;done)|(try simp only[zg_]at ht))|((first|refine za_ ht ?_|refine ht ?_ ?_|refine ht.1 ?_ ?_|refine ht ?_)<;>clear ht))
  all_goals first
   | exact True.intro
   | (intro r h1 h2;clear h1;refine h2 ⟨[3,6,7,8],Nat,(fun i=>i<=l.length),fun i=>[.int .i64 (lgT l i),.imm Y1 l,.int .i64 l.length,.int .i64 i],fun _=>[],fun i=>l.length - i,⟨0,Nat.zero_le _,rfl,rfl⟩,?_⟩;clear h2)
  intro i hi
  repeat'(intro t ht;first|(cases t<;>first|(cases ht;done)|(try simp only[zg_]at ht;try(exfalso;first|contradiction|omega)))|((first|refine za_ ht ?_|refine ht ?_ ?_|refine ht.1 ?_ ?_|refine ht ?_)<;>clear ht))
  all_goals (try generalize (Ty.dflt Y1)=od at*)
  all_goals first
   | exact True.intro
   | ((try simp only [zq_,zr_,zj_] at*);omega)
   | (rw [zat_ (by omega)];exact ⟨rfl,rfl⟩)
   | (have hs:=hp.a.h _ (zu_ (show i < l.length by omega) od)
      first
       | exact ub_ hs
       | (have h1:=zbG_ hp.a i (by omega)
          have h2:0<=szO (l.getD i od)/\szO (l.getD i od)<=3000000:=HV_ hs
          unfold szO at h2
          simp only [he_,hg_,Int.toNat_natCast];omega)
       | (refine ⟨i+1,by omega,by dsimp only;omega,?_,rfl⟩
          dsimp only
          rw [UK_ (d:=od) (by omega)];rfl))
 ·cases e
def rgM (l:List OV):Bool:=l.all rgO && decide ((ckS [] l).2=0) && decide (vy_ l<=65528)
theorem zaO_ {l:List OV}:(l.any fun o=>!rgO o)=!l.all rgO:=by
 rw [List.not_all_eq_any_not]
def yq_:IR:=
(sq (kr [0] [oD 2 (.mov cF)])
(sq (sq (.reg [oM 5 0,
oC 6 27 [5,.f 28]])
(.cond 6
(sq (.reg [oD 2 (.mov cF)])
.ret)
.skip))
(sq (kr [0] [oM 8 0,
oC 9 30 [8],
oM 7 9,
oX 10 7 0,
oX 11 7 1,
oM 3 10,
oM 4 11])
(sq (kr [0,4] [oM 12 4,
oB 13 .eql 12 (cI 0),
oM 14 13,
oT 14 15 (.mov 0),
oT 14 16 (.call false (.f 31) [15]),
oT 14 17 (.bin .leq 16 (cI 65528)),
oP 18 14 17 cF,
oM 2 18])
.ret))))
def XP_:List RD:=[.tmp 2 true none]
theorem X9_:zl_ Tryz.prog Tryz.f10 yq_ XP_=true:=by kernel_rfl
def Kp_:List AV->List Obj->Option (Prop × AV)
 | [.imm (.cons (.int .i64) (.cons (.int .i64) (.cons .bool (.cons (.int .u64) (.cons (.sl (.int .u8)) (.cons (.sl (.int .u8)) .nil)))))) l],[]=>some ((okM l,.bool (rgM l)))
 | _,_=>none
theorem xA_:zf_ Tryz.prog 10 (RoF Kp_).sum:=by
 refine zh_ Tryz.func10 X9_ (zb_ (s:=RoF zo_) zC_ (zb_ (s:=RoF Zk_) ZU_ (zb_ (s:=RoF jc_) Xx_ (zb_ (s:=RoF jd_) Xy_ (zd_ _))))) fun args objs p v e=>?_
 unfold Kp_ at e
 split at e
 ·rename_i l
  cases e
  refine ⟨rfl,fun hw ho hp=>?_⟩
  change List OV at l
  clear hw ho
  have hA:=hp.a
  have hN:=zaO_ (l:=l)
  repeat'(intro t ht;first|(cases t<;>first|(cases ht;done)|(try simp only[zg_]at ht;try(exfalso;first|contradiction|omega)))|((first|refine za_ ht ?_|refine ht ?_ ?_|refine ht.1 ?_ ?_|refine ht ?_)<;>clear ht))
  all_goals first
   | exact True.intro
   | exact hA
   | exact hp
   | (have ha:l.all rgO=false:=by rw [ht] at hN;cases h:l.all rgO<;>simp_all
      refine ⟨congrArg AV.bool ?_,rfl⟩;unfold rgM;rw [ha];rfl)
   | (refine ⟨congrArg AV.bool ?_,rfl⟩;unfold rgM;simp_all;done)
 ·cases e
def exO (o:OV):List Int:=if rgO o=true then Hq_ o.1 o.2.1 o.2.2.1 o.2.2.2.1 o.2.2.2.2.1 o.2.2.2.2.2.1 else []
def eeO (o:OV):Int:=if rgO o=true then 0 else 10001
theorem tkS {α:Type} {l:List α} {i:Nat} {d:α} (h:i < l.length):l.take (i+1)=l.take i++[l.getD i d]:=by
 rw [List.take_succ_eq_append_getElem h,List.getD_eq_getElem?_getD,List.getElem?_eq_getElem h];rfl
structure kOk (m:List (Int × Int)) (ks:List Int):Prop where
 nd:(m.map Prod.fst).Nodup
 mem:∀ z,z ∈ m.map Prod.fst ↔ z ∈ ks
 r:∀ z,0<=(zS_ m z).getD 0/\(zS_ m z).getD 0<=ks.length
 l:m.length<=ks.length
def ZP_:IR:=
(kr [0,1] [oM 4 0,
oM 5 0,
oE 6 5,
oM 7 1,
oD 8 (.call true (.f 70) [4,6,7])])
def ZJ_:List RD:=[]
theorem ZM_:zl_ Tryz.prog Tryz.f44 ZP_ ZJ_=true:=by kernel_rfl
def zE_:List AV->List Obj->Option (Prop × AV × List Obj)
 | [.own 0,(.fn 45 [] [])],[.row false (.cons (.int .i64) (.cons (.int .i64) (.cons .bool (.cons (.int .u64) (.cons (.sl (.int .u8)) (.cons (.sl (.int .u8)) .nil)))))) l]=>some ((l.length<=120,.tup [],[.row false Y1 (isG ltO (l:List OV))]))
 | _,_=>none
theorem ZD_:zf_ Tryz.prog 44 (RwF zE_).sum:=by
 refine wu_ Tryz.func44 ZM_ (zb_ (s:=RwF z3_) q8_ (zd_ _)) fun args objs p v o e=>?_
 unfold zE_ at e
 split at e
 ·rename_i l
  cases e
  refine ⟨rfl,fun hw ho hp=>?_⟩
  clear hw ho
  change List OV at l
  have e:=BU_ (lt:=ltO) l
  repeat'(intro t ht;first|(cases t<;>first|(cases ht;done)|(try simp only[zg_]at ht;try(exfalso;first|contradiction|omega)))|((first|refine za_ ht ?_|refine ht ?_ ?_|refine ht.1 ?_ ?_|refine ht ?_)<;>clear ht))
  all_goals first
   | exact True.intro
   | (refine ⟨?_,?_,?_,?_⟩<;>omega)
   | (simp only [Int.toNat_natCast,e];exact ⟨by first | exact True.intro | rfl,by first | exact True.intro | rfl⟩)
 ·cases e
def ut_:IR:=
(sq (kr [0] [oD 2 (.mov (.c (.imm Y1 [])))])
(sq (.reg [oM 6 0,
oE 7 6,
oD 8 (.mkrow Y1 80 ((0:Int),((0:Int),(false,((0:Int),(([]:List (Ty.den (.int .u8))),(([]:List (Ty.den (.int .u8))),())))))) (cI 0) 7),
oM 3 8])
(sq (sq (.reg [oM 9 0,
oE 10 9,
oD 11 (.mov (cI 0))])
(.block 0
(.loop
(sq (kr [3,9,10,11] [oB 12 .lss 11 10])
(sq (.cond 12
.skip
(.exit 0))
(sq (.block 1
(sq (.reg [oI 13 6 9 11,
oK 14 6 13,
oD 5 (.box [.int .i64 0,.int .i64 0,.kb false,.int .u64 0,.imm (.int .u8) [],.imm (.int .u8) []]),
oS 6 5 14])
(kr [3,5,9,10,11] [oM 15 3,
oK 16 6 5,
oC 17 19 [16],
oD 18 (.sliceAll Y1 1 [(0,6,17)]),
oD 19 (.append Y1 80 15 18),
oM 3 19])))
(kr [3,9,10,11] [oB 20 .add 11 (cI 1),
oM 11 20])))))))
(sq (kr [3] [oM 21 3,
oD 22 (.call true (.f 44) [21,.f 45])])
(sq (.reg [oM 23 3,
oM 2 23])
.ret)))))
def VG_:List RD:=[.tmp 2 true (some Y1)]
theorem VZ_:zl_ Tryz.prog Tryz.f20 ut_ VG_=true:=by kernel_rfl
def j9_:List AV->List Obj->Option (Prop × AV)
 | [.imm (.cons (.int .i64) (.cons (.int .i64) (.cons .bool (.cons (.int .u64) (.cons (.sl (.int .u8)) (.cons (.sl (.int .u8)) .nil)))))) l],[]=>some ((l.length<=120/\allLen l,.imm Y1 (isG ltO (l:List OV))))
 | _,_=>none
theorem Ym_:zf_ Tryz.prog 20 (RoF j9_).sum:=by
 refine zh_ Tryz.func20 VZ_ (zb_ (s:=RwF kW_) KK_ (zb_ (s:=RwF zE_) ZD_ (zb_ (s:=RoF qI_) kl_ (zd_ _)))) fun args objs p v e=>?_
 unfold j9_ at e
 split at e
 ·rename_i l
  cases e
  refine ⟨rfl,fun hw ho hp=>?_⟩
  change List OV at l
  clear hw ho
  obtain ⟨hn,ha⟩:=hp
  repeat'(intro t ht;first|(cases t<;>first|(cases ht;done)|(try simp only[zg_]at ht))|((first|refine za_ ht ?_|refine ht ?_ ?_|refine ht.1 ?_ ?_|refine ht ?_)<;>clear ht))
  all_goals first
   | exact True.intro
   | ((try simp only [zq_,zr_,zj_] at*);omega)
   | (intro r h1 h2;clear h1;refine h2 ⟨[3,9,10,11],Nat,(fun i=>i<=l.length),fun i=>[.own 0,.imm Y1 l,.int .i64 l.length,.int .i64 i],fun i=>[.row false Y1 (l.take i)],fun i=>l.length - i,⟨0,Nat.zero_le _,rfl,rfl⟩,?_⟩;clear h2)
  rintro i hi
  have e1:∀ o:OV,(o.2.2.2.2.1++o.2.2.2.2.2.1).take o.2.2.2.2.1.length=o.2.2.2.2.1:=fun o=>List.take_left
  have e2:∀ o:OV,(o.2.2.2.2.1++o.2.2.2.2.2.1).drop o.2.2.2.2.1.length=o.2.2.2.2.2.1:=fun o=>List.drop_left
  have e3:∀ l:List Int,l.take l.length=l:=fun l=>List.take_length
  have ec:∀ o:OV,((o.1,o.2.1,o.2.2.1,o.2.2.2.1,List.take o.2.2.2.2.1.length (List.drop 0 (o.2.2.2.2.1++o.2.2.2.2.2.1)),List.take o.2.2.2.2.2.1.length (List.drop o.2.2.2.2.1.length (o.2.2.2.2.1++o.2.2.2.2.2.1)),()):OV)=o:=fun o=>by rw [List.drop_zero,List.take_left,List.drop_left,List.take_length]
  repeat'(intro t ht;first|(cases t<;>first|(cases ht;done)|(try simp only[zg_]at ht;try(exfalso;first|contradiction|omega)))|((first|refine za_ ht ?_|refine ht ?_ ?_|refine ht.1 ?_ ?_|refine ht ?_)<;>clear ht))
  all_goals (try simp only [Int.toNat_natCast] at*)
  all_goals (try generalize (Ty.dflt Y1)=od at*)
  all_goals first
   | exact True.intro
   | ((try simp only [zq_,zr_,zj_] at*);omega)
   | (have ht:l.take i=l:=List.take_of_length_le (by omega)
      rw [ht];first | exact (show l.length<=120 by omega) | exact ⟨rfl,by first | rfl | exact True.intro⟩)
   | (have hlt:i < l.length:=by omega
      have hln:=ha.h _ (zu_ hlt od)
      have htk:(l.take i).length=i:=jA_ hi
      first
       | exact ⟨hln.1,hln.2⟩
       | (simp only [List.length_append,List.length_cons,List.length_nil];constructor<;>omega)
       | (simp only [List.length_append];omega)
       | exact ⟨i+1,by omega,by (try dsimp only);omega,rfl,(congrArg (fun x=>[Obj.row false Y1 (l.take i++[x])]) (ec (l.getD i od))).trans (congrArg (fun x=>[Obj.row false Y1 x]) (tkS (d:=od) hlt).symm)⟩)
 ·cases e
def YW_:IR:=
(sq (kr [0,1] [oD 2 (.boxv 0),
oD 3 (.boxv 1),
oD 4 (.mov cF)])
(sq (sq (kr [2,3] [oA 5 0 2,
oL 6 5,
oA 7 0 3,
oL 8 7,
oB 9 .neq 6 8])
(.cond 9
(sq (kr [2,3] [oA 10 0 2,
oL 11 10,
oA 12 0 3,
oL 13 12,
oB 14 .lss 11 13,
oM 4 14])
.ret)
.skip))
(sq (sq (kr [2,3] [oA 15 1 2,
oL 16 15,
oA 17 1 3,
oL 18 17,
oB 19 .neq 16 18])
(.cond 19
(sq (kr [2,3] [oA 20 1 2,
oL 21 20,
oA 22 1 3,
oL 23 22,
oB 24 .lss 21 23,
oM 4 24])
.ret)
.skip))
(sq (kr [2,3] [oA 25 3 2,
oL 26 25,
oA 27 3 3,
oL 28 27,
oB 29 .lss 26 28,
oM 4 29])
.ret))))
def Yo_:List RD:=[.tmp 4 true none]
theorem YE_:zl_ Tryz.prog Tryz.f54 YW_ Yo_=true:=by kernel_rfl
def K8_:List AV->List Obj->Option (Prop × AV)
 | [.agg [.int .i64 c,.int .i64 f,.bool h,.int .u64 x,.imm (.int .u8) v,.imm (.int .u8) m],.agg [.int .i64 c',.int .i64 f',.bool h',.int .u64 x',.imm (.int .u8) v',.imm (.int .u8) m']],[]=>some ((True,.bool (ltO (c,f,h,x,v,m,()) (c',f',h',x',v',m',()))))
 | _,_=>none
theorem Xu_:zf_ Tryz.prog 54 (RoF K8_).sum:=by
 refine zh_ Tryz.func54 YE_ (zd_ _) fun args objs p v e=>?_
 unfold K8_ at e
 split at e
 ·rename_i c f h x v m c' f' h' x' v' m'
  cases e
  refine ⟨rfl,fun hw ho hp=>?_⟩
  change List Int at v
  change List Int at m
  change List Int at v'
  change List Int at m'
  clear hw ho
  unfold ltO
  repeat'(intro t ht;first|(cases t<;>first|(cases ht;done)|(try simp only[zg_]at ht;try(exfalso;first|contradiction|omega)))|((first|refine za_ ht ?_|refine ht ?_ ?_|refine ht.1 ?_ ?_|refine ht ?_)<;>clear ht))
  all_goals first
   | exact True.intro
   | (refine ⟨congrArg AV.bool ?_,by first | exact True.intro | rfl⟩;simp only [];simp [*];done)
   | (refine ⟨congrArg AV.bool ?_,by first | exact True.intro | rfl⟩;(rw [Bool.eq_iff_iff];simp only [decide_eq_true_eq,Bool.or_eq_true,Bool.and_eq_true];omega))
 ·cases e
theorem bN_ (l:List OV) (x:OV):isG ltO (l++[x])=kn_ ltO x (isG ltO l):=by unfold isG;rw [List.foldl_append];rfl
theorem ho_ (x d:OV):∀ (o:List OV) (at':Nat),o.Pairwise (fun x y=>ltO y x=false)->at'<=o.length->(∀ k,at'<=k->k < o.length->ltO x (o.getD k d)=true)->(at'=0\/ltO x (o.getD (at' - 1) d)=false)->o.take at'++[x]++o.drop at'=kn_ ltO x o
 | [],at',_,h,_,_=>by
   have:at'=0:=by rw [List.length_nil] at h;omega
   subst this;rfl
 | y :: r,0,_,_,h2,_=>by
   have:=h2 0 (Nat.le_refl _) (by rw [List.length_cons];omega)
   have h:ltO x y=true:=this
   unfold kn_;rw [if_pos h];rfl
 | y :: r,n+1,hp,h1,h2,h3=>by
   have hp':=List.pairwise_cons.1 hp
   rw [List.length_cons] at h1
   have hx:ltO x ((y :: r).getD n d)=false:=by rcases h3 with h | h;omega;exact h
   have hy:ltO x y=false:=by
    cases n with
    | zero=>exact hx
    | succ n=>
      have hm:r.getD n d ∈ r:=zu_ (by omega) d
      exact zp_.neg _ _ _ hx (hp'.1 _ hm)
   unfold kn_
   rw [if_neg (by rw [hy];decide),<- ho_ x d r n hp'.2 (by omega) (fun k k1 k2=>h2 (k+1) (by omega) (by rw [List.length_cons];omega)) (by
    cases n with
    | zero=>exact .inl rfl
    | succ n=>exact .inr hx)]
   rfl
theorem bR_ {x d:OV} {o:List OV} {a:Nat} (h1:o.Pairwise (fun x y=>ltO y x=false)) (h2:a<=o.length) (h3:∀ k,a<=k->k < o.length->ltO x (o.getD k d)=true) (h4:a=0\/ltO x (o.getD (a - 1) d)=false):[]++List.take a (List.drop (Int.toNat 0) o)++[x]++List.take ((o.length:Int) - (a:Int)).toNat (List.drop a o)=kn_ ltO x o:=by
 rw [<- ho_ x d o a h1 h2 h3 h4,List.take_of_length_le (l:=o.drop a) (by rw [List.length_drop];omega)];rfl
def UT_:IR:=
(sq (kr [0] [oD 2 (.nilrow Y1)])
(sq (.reg [oD 3 (.nilrow Y1)])
(sq (sq (.reg [oD 4 (.mov (cI 0))])
(.block 0
(.loop
(sq (sq (kr [0,3,4] [oM 7 4,
oM 8 0,
oE 9 8,
oB 10 .lss 7 9])
(.cond 10
.skip
(.exit 0)))
(sq (.block 1
(sq (.reg [oM 13 3,
oE 14 13,
oM 5 14])
(sq (.block 2
(.loop
(sq (sq (kd [0,3,4,5] [(oM 15 5,[]),
(oB 16 .gtr 15 (cI 0),[]),
(oM 17 16,[]),
(oT 17 18 (.mov 0),[]),
(oT 17 19 (.mov 4),[0]),
(oT 17 20 (.indexSl 6 18 19),[]),
(oT 17 21 (.load (some 6) 20),[]),
(oT 17 22 (.mov 3),[0,0,0,0]),
(oT 17 23 (.mov 5),[0,0,0,0,0]),
(oT 17 24 (.bin .sub 23 (cI 1)),[1,0,0,0,0]),
(oT 17 25 (.indexSl 6 22 24),[3,0,0,0]),
(oT 17 26 (.load (some 6) 25),[4,0,0,0]),
(oT 17 27 (.call false (.f 54) [21,26]),[]),
(oP 28 17 27 cF,[])])
(.cond 28
.skip
(.exit 2)))
(.block 3
(kr [0,3,4,5] [oM 29 5,
oB 30 .sub 29 (cI 1),
oM 5 30])))))
(sq (kr [0,3,4,5] [oD 31 (.slice0 Y1),
oM 32 3,
oM 33 5,
oD 34 (.slice 6 32 none (some 33) none),
oD 35 (.append Y1 80 31 34),
oM 6 35])
(sq (kr [0,3,4,5,6] [oM 36 6,
oM 37 0,
oM 38 4,
oI 39 6 37 38,
oK 40 6 39,
oD 41 (.sliceAll Y1 1 [(0,6,40)]),
oD 42 (.append Y1 80 36 41),
oM 6 42])
(kr [0,3,4,5,6] [oM 43 6,
oM 44 3,
oM 45 5,
oD 46 (.slice 6 44 (some 45) none none),
oD 47 (.append Y1 80 43 46),
oM 3 47]))))))
(kr [0,3,4] [oM 11 4,
oB 12 .add 11 (cI 1),
oM 4 12]))))))
(sq (kr [3] [oM 48 3,
oM 2 48])
.ret))))
def u7_:List RD:=[.tmp 2 true (some Y1)]
theorem Up_:zl_ Tryz.prog Tryz.f25 UT_ u7_=true:=by kernel_rfl
def J7_:List AV->List Obj->Option (Prop × AV)
 | [.imm (.cons (.int .i64) (.cons (.int .i64) (.cons .bool (.cons (.int .u64) (.cons (.sl (.int .u8)) (.cons (.sl (.int .u8)) .nil)))))) l],[]=>some ((l.length<=100000,.imm Y1 (isG ltO (l:List OV))))
 | _,_=>none
theorem Vd_:zf_ Tryz.prog 25 (RoF J7_).sum:=by
 refine zh_ Tryz.func25 Up_ (zb_ (s:=RoF K8_) Xu_ (zd_ _)) fun args objs p v e=>?_
 unfold J7_ at e
 split at e
 ·rename_i l
  cases e
  refine ⟨rfl,fun hw ho hp=>?_⟩
  change List OV at l
  clear hw ho
  repeat'(intro t ht;first|(cases t<;>first|(cases ht;done)|(try simp only[zg_]at ht;try(exfalso;first|contradiction|omega)))|((first|refine za_ ht ?_|refine ht ?_ ?_|refine ht.1 ?_ ?_|refine ht ?_)<;>clear ht))
  all_goals first
   | exact True.intro
   | (intro r h1 h2;clear h1;refine h2 ⟨[0,3,4],Nat,(fun i=>i<=l.length),fun i=>[.imm Y1 l,.own 0,.int .i64 i],fun i=>[.row false Y1 (isG ltO (l.take i))],fun i=>l.length - i,⟨0,Nat.zero_le _,rfl,rfl⟩,?_⟩;clear h2)
  rintro i hi
  have hP:=bO_ zp_ (l.take i)
  have hL:=Xb_ zp_ (l.take i)
  have hS:i < l.length->isG ltO (l.take (i+1))=kn_ ltO (l.getD i (Ty.dflt Y1)) (isG ltO (l.take i)):=fun h=>by rw [tkS (d:=(Ty.dflt Y1)) h,bN_]
  have hE:¬ i < l.length->l.take i=l:=fun h=>List.take_of_length_le (by omega)
  rw [List.length_take] at hL
  repeat'(intro t ht;first|(cases t<;>first|(cases ht;done)|(try simp only[zg_]at ht;try(exfalso;first|contradiction|omega)))|((first|refine za_ ht ?_|refine ht ?_ ?_|refine ht.1 ?_ ?_|refine ht ?_)<;>clear ht))
  all_goals first
   | exact True.intro
   | omega
   | ((try dsimp only);simp only [zj_];omega)
   | (rw [hE (by omega)];exact ⟨rfl,rfl⟩)
   | (intro r h1 h2;clear h1;refine h2 ⟨[0,3,4,5],Nat,(fun a=>a<=(isG ltO (l.take i)).length/\∀ k,a<=k->k < (isG ltO (l.take i)).length->ltO (l.getD i (Ty.dflt Y1)) ((isG ltO (l.take i)).getD k (Ty.dflt Y1))=true),fun a=>[.imm Y1 l,.own 0,.int .i64 i,.int .i64 a],fun _=>[.row false Y1 (isG ltO (l.take i))],fun a=>a,⟨(isG ltO (l.take i)).length,⟨Nat.le_refl _,fun k h1 h2=>by omega⟩,rfl,rfl⟩,?_⟩;clear h2)
  rintro a ⟨ha,hk⟩
  have hil:i < l.length:=by omega
  have hS':=hS hil
  clear hS hE
  generalize isG ltO (l.take i)=o at*
  have e1:((a:Int) - 1).toNat=a - 1:=by omega
  have hR:=fun h4=>bR_ (x:=l.getD i (Ty.dflt Y1)) (d:=(Ty.dflt Y1)) hP ha hk h4
  repeat'(intro t ht;first|(cases t<;>first|(cases ht;done)|(try simp only[zg_]at ht;try(exfalso;first|contradiction|omega)))|((first|refine za_ ht ?_|refine ht ?_ ?_|refine ht.1 ?_ ?_|refine ht ?_)<;>clear ht))
  all_goals (try simp only [Int.toNat_natCast,Int.sub_zero,e1] at ht ⊢)
  all_goals first
   | exact True.intro
   | omega
   | ((try dsimp only);simp only [zj_];omega)
   | (constructor<;>omega)
   | (simp only [List.length_append,List.length_take,List.length_drop,List.length_cons,List.length_nil];constructor<;>omega)
   | (have hx:ltO (l.getD i (Ty.dflt Y1)) (o.getD (a - 1) (Ty.dflt Y1))=true:=ht
      refine ⟨a - 1,⟨?_,fun k k1 k2=>?_⟩,?_,?_,by first | rfl | exact True.intro⟩
      ·omega
      ·by_cases e:k=a - 1
       ·rw [e];exact hx
       ·exact hk k (by omega) k2
      ·(try dsimp only);omega
      ·(try dsimp only)
       rw [show ((a - 1:Nat):Int)=(a:Int) - 1 by omega];try rfl)
   | (have hx:ltO (l.getD i (Ty.dflt Y1)) (o.getD (a - 1) (Ty.dflt Y1))=false:=ht
      have e9:=hR (.inr hx)
      refine ⟨i+1,?_,?_,rfl,?_⟩
      ·(try dsimp only);omega
      ·(try dsimp only);omega
      ·(try dsimp only)
       rw [hS',<- e9])
   | (have e9:=hR (.inl (by omega))
      refine ⟨i+1,?_,?_,rfl,?_⟩
      ·(try dsimp only);omega
      ·(try dsimp only);omega
      ·(try dsimp only)
       rw [hS',<- e9])
 ·cases e
theorem y2_.up {u:List Int} {a i:Nat} (h:y2_ u a i) (ha:a < i) (hlt:¬ u.getD i 0 < u.getD (i - 1) 0):y2_ u a (i+1):=fun x y h1 h2 h3=>by
 by_cases e:y=i
 ·subst e
  by_cases e2:x=y - 1
  ·rw [e2];omega
  ·have:=h x (y - 1) h1 (by omega) (by omega);omega
 ·exact h x y h1 h2 (by omega)
theorem y2_.one (u:List Int) (a:Nat):y2_ u a (a+1):=fun x y h1 h2 h3=>by omega
theorem We_.at {l r:List Int} {a b k:Nat} (h:We_ l a b) (hR:Rear l a b r) (hab:a<=b) (hb:b<=l.length) (h0:0 < a) (h1:a<=k) (h2:k < b):¬ r.getD k 0 < r.getD (a - 1) 0:=by
 have:=h.rear hR hab hb h0 k h1 h2;omega
structure PisJ (l u:List Int) (a b i:Nat):Prop where
 R:Rear l a b u
 ai:a < i
 ib:i<=b
 s:y2_ u a i
structure PdqJ (l u:List Int) (a b i j:Nat):Prop where
 n:u.length=l.length
 ai:a<=i
 ij:i<=j
 jb:j<=b
 e:srt u i j=srt l a b
 lo:We_ u i j
def hasB (l:List OV) (z:Int):Bool:=l.any fun o=>decide (o.1=32768) && decide (o.2.1=z)
structure HasJ (m:List (Int × Int)) (l:List OV):Prop where
 r:∀ z,0<=(zS_ m z).getD 0/\(zS_ m z).getD 0<=l.length
 z:∀ z,(zS_ m z).getD 0=0 ↔ hasB l z=false
 n:m.length<=l.length
structure MisJ (l:List OV) (seen:List Int) (m:List (Int × Int)) (out:List Int):Prop where
 nd:out.Nodup
 mem:∀ z,z ∈ out ↔ z ∈ seen/\hasB l z=false
 zer:∀ z,(zS_ m z).getD 0=0 ↔ hasB l z=false/\z ∉ out
 r:∀ z,0<=(zS_ m z).getD 0/\(zS_ m z).getD 0<=l.length+1
 n:out.length<=seen.length
theorem ckC (pre:List OV) (o:OV) (r:List OV):ckS pre (o :: r)=if pre.any (fun x=>alO x o)=true then (((pre.length:Nat):Int),1035) else if Kk_ pre o.1 o.2.1=true then ckS (pre++[o]) r else (((pre.length:Nat):Int),1034):=rfl
theorem Bd_ (d:OV):∀ (r pre:List OV),(ckS pre r).2=0 ↔ ∀ k,k < r.length->((pre++r.take k).any (fun x=>alO x (r.getD k d))=false/\Kk_ (pre++r.take k) (r.getD k d).1 (r.getD k d).2.1=true)
 | [],_=>⟨fun _ k h=>absurd h (Nat.not_lt_zero _),fun _=>rfl⟩
 | o :: r,pre=>by
   rw [ckC]
   by_cases h1:pre.any (fun x=>alO x o)=true
   ·simp only [if_pos h1]
    constructor
    ·intro h;cases h
    ·intro h
     have:=(h 0 (by rw [List.length_cons];omega)).1
     rw [List.take_zero,List.append_nil] at this
     have h3:pre.any (fun x=>alO x o)=false:=this
     rw [h1] at h3;cases h3
   ·simp only [if_neg h1]
    by_cases h2:Kk_ pre o.1 o.2.1=true
    ·simp only [if_pos h2]
     rw [Bd_ d r (pre++[o])]
     constructor
     ·intro h k hk
      cases k with
      | zero=>
        rw [List.take_zero,List.append_nil]
        exact ⟨Bool.eq_false_iff.2 h1,h2⟩
      | succ k=>
        have:=h k (by rw [List.length_cons] at hk;omega)
        rw [List.append_assoc] at this
        exact this
     ·intro h k hk
      have:=h (k+1) (by rw [List.length_cons];omega)
      rw [List.append_assoc]
      exact this
    ·simp only [if_neg h2]
     constructor
     ·intro h;cases h
     ·intro h
      have:=(h 0 (by rw [List.length_cons];omega)).2
      rw [List.take_zero,List.append_nil] at this
      exact absurd this h2
def Chk (d:OV) (l:List OV):Prop:=∀ k,k < l.length->((l.take k).any (fun x=>alO x (l.getD k d))=false/\Kk_ (l.take k) (l.getD k d).1 (l.getD k d).2.1=true)
theorem zaH_ (d:OV) (l:List OV):(ckS [] l).2=0 ↔ Chk d l:=by
 have:=Bd_ d l []
 simp only [List.nil_append] at this
 exact this
theorem vB_ (x:OV):∀ o:List OV,(kn_ ltO x o).Perm (x :: o)
 | []=>.refl _
 | y :: r=>by
   unfold kn_
   split
   ·exact .refl _
   ·exact ((vB_ x r).cons y).trans (.swap x y r)
theorem wV_:∀ (l o:List OV),(l.foldl (fun o x=>kn_ ltO x o) o).Perm (o++l)
 | [],o=>by rw [List.append_nil];exact .refl _
 | x :: l,o=>by
   refine (wV_ l (kn_ ltO x o)).trans ?_
   refine ((vB_ x o).append_right l).trans ?_
   rw [List.cons_append]
   exact List.perm_middle.symm
theorem ym_ (l:List OV):(isG ltO l).Perm l:=by have:=wV_ l [];rwa [List.nil_append] at this
theorem zaw_ {l:List OV} {x:OV}:x ∈ isG ltO l ↔ x ∈ l:=(ym_ l).mem_iff
theorem bP_ {l:List OV} (h:allLen l):allLen (isG ltO l):=⟨fun o ho=>h.h o (zaw_.1 ho)⟩
theorem Kd_ (x o:OV):alO x o=true ↔ x.1=o.1/\x.2.1=o.2.1/\x.2.2.2.1=o.2.2.2.1:=by
 unfold alO
 rw [Bool.and_eq_true,Bool.and_eq_true,decide_eq_true_eq,decide_eq_true_eq,decide_eq_true_eq,and_assoc]
theorem zbh_ {l:List OV} {d:OV} {j k:Nat} (h:j < k) (hj:j < l.length):l.getD j d ∈ l.take k:=by
 have:(l.take k)[j]?=some (l.getD j d):=by
  rw [List.getElem?_take,if_pos h,List.getD_eq_getElem?_getD,List.getElem?_eq_getElem hj];rfl
 exact List.mem_of_getElem? this
theorem Hw_ {d:OV} {l:List OV} (h:Chk d l):l.Pairwise fun x y=>alO x y=false:=by
 rw [List.pairwise_iff_getElem]
 intro i j hi hj hij
 have h1:=(h j hj).1
 have e:∀ k (hk:k < l.length),l.getD k d=l[k]:=fun k hk=>by rw [List.getD_eq_getElem?_getD,List.getElem?_eq_getElem hk];rfl
 rw [List.any_eq_false] at h1
 have:=h1 _ (zbh_ (d:=d) hij hi)
 rw [e i hi,e j hj] at this
 exact Bool.eq_false_iff.2 this
theorem Bx_ {x y:OV} (h:alO x y=false):alO y x=false:=by
 rw [Bool.eq_false_iff,Ne,Kd_] at h ⊢
 rintro ⟨a,b,c⟩;exact h ⟨a.symm,b.symm,c.symm⟩
end Go.Eng

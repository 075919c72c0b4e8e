/- Parts of the proof: SC, TJ, TK, TL, TN, TO. No condition. -/
import Derived.Test.YtppgebehmmldfaaGreatDoorProg
import Derived.Test.YtppgebehmmldfaaGreatDoorXF10
import Derived.KernelRfl
import Derived.Test.YtppgebehmmldfaaGreatDoorXF17
import Derived.Test.YtppgebehmmldfaaGreatDoorXF16
namespace Go.Eng
open Go.Proofs
set_option linter.unusedVariables false
set_option linter.unusedSimpArgs false
set_option maxRecDepth 100000
set_option maxHeartbeats 1000000
structure PdqJ (l u:List Int) (a b i j:Nat):Prop where
 n:u.length=l.length
 ai:a<=i
 ij:i<=j
 jb:j<=b
 e:srt u i j=srt l a b
 lo:kt_ u i j
theorem HQ_ {l:List Int} {a b:Nat} (hab:a<=b) (h:kt_ l a b):PdqJ l l a b a b:=⟨rfl,Nat.le_refl _,hab,Nat.le_refl _,rfl,h⟩
theorem U1_ {l u r:List Int} {a b i j:Nat} (hb:b<=l.length) (J:PdqJ l u a b i j) (hR:Rear u i j r):PdqJ l r a b i j:=by
 obtain ⟨h1,h2,h3,h4,h5,h6⟩:=J
 exact ⟨by rw [hR.len,h1],h2,h3,h4,by rw [wS_ h3 (by omega) hR,h5],h6.rear hR h3 (by omega)⟩
theorem b4_ {l u r:List Int} {a b i j:Nat} (hb:b<=l.length) (J:PdqJ l u a b i j) (hR:Rear u i j r) (hS:kC_ r i j):r=srt l a b:=by
 obtain ⟨h1,h2,h3,h4,h5,h6⟩:=J
 rw [Wx_ h3 (by omega) hR hS,h5]
theorem b3_ {l u r:List Int} {a b i j m:Nat} (hb:b<=l.length) (J:PdqJ l u a b i j) (P:PartR u r i j m):kt_ r i m/\PdqJ l (srt r i m) a b (m+1) j:=by
 obtain ⟨h1,h2,h3,h4,h5,h6⟩:=J
 obtain ⟨e,lo⟩:=HS_ (by omega) P
 have hl:=P.R.len
 have p1:=P.am
 have p2:=P.mb
 exact ⟨(h6.rear P.R h3 (by omega)).sub (Nat.le_of_lt p2),⟨by rw [hS_ r p1,hl,h1],by omega,by omega,h4,by rw [<- e,h5],lo⟩⟩
theorem HR_ {l u r:List Int} {a b i j m:Nat} (hb:b<=l.length) (J:PdqJ l u a b i j) (P:PartR u r i j m):kt_ r (m+1) j/\PdqJ l (srt r (m+1) j) a b i m:=by
 obtain ⟨h1,h2,h3,h4,h5,h6⟩:=J
 have e:=GI_ (by omega) P
 have hl:=P.R.len
 have p1:=P.am
 have p2:=P.mb
 have hs:=kf_ r (a:=m+1) (b:=j) (by omega) (by omega)
 refine ⟨fun _ k k1 k2=>by rw [show m+1 - 1=m by omega];exact P.hi k (by omega) k2,⟨by rw [hS_ r (by omega),hl,h1],h2,p1,by omega,by rw [<- e,h5],fun h0 k k1 k2=>?_⟩⟩
 rw [hs.get (.inl (by omega)),hs.get (.inl (by omega))]
 exact h6.rear P.R h3 (by omega) h0 k k1 (by omega)
theorem za0_ {l u r:List Int} {a b i j m:Nat} {x:Int} (hb:b<=l.length) (J:PdqJ l u a b i j) (E:EqlR u r i j m x) (h0:0 < i) (hx:¬ u.getD (i - 1) 0 < x):PdqJ l r a b m j:=by
 obtain ⟨h1,h2,h3,h4,h5,h6⟩:=J
 have p1:=E.am
 have p2:=E.mb
 have hl:=E.R.len
 obtain ⟨e,lo⟩:=BZ_ (by omega) E fun k k1 k2=>by
  have:=h6.rear E.R h3 (by omega) h0 k k1 k2
  rw [E.R.get (.inl (by omega))] at this
  rw [E.pv];omega
 exact ⟨by rw [hl,h1],by omega,p2,h4,by rw [<- e,h5],lo⟩
def kz_:IR:=
(sq (kr [0,1,2,3] [oD 8 (.mov cT)])
(sq (.reg [oD 9 (.mov cT)])
(.block 0
(.loop
(.block 1
(sq (kr [0,1,2,3,8,9] [oM 19 2,
oM 20 1,
oB 21 .sub 19 20,
oM 10 21])
(sq (sq (.reg [oM 22 10,
oB 23 .leq 22 (cI 12)])
(.cond 23
(sq (kr [0,1,2] [oM 24 0,
oM 25 1,
oM 26 2,
oD 27 (.call true (.f 89) [24,25,26])])
.ret)
.skip))
(sq (sq (kr [0,1,2,3,8,9,10] [oM 28 3,
oB 29 .eql 28 (cI 0)])
(.cond 29
(sq (.reg [oM 30 0,
oM 31 1,
oM 32 2,
oD 33 (.call true (.f 90) [30,31,32])])
.ret)
.skip))
(sq (sq (kr [0,1,2,3,8,9,10] [oM 34 8,
oD 35 (.un .not 34)])
(.cond 35
(sq (.reg [oM 36 0,
oM 37 1,
oM 38 2,
oD 39 (.calln (.f 91) [36,37,38])])
(kr [0,1,2,3,8,9,10] [oM 40 3,
oB 41 .sub 40 (cI 1),
oM 3 41]))
.skip))
(sq (kr [0,1,2,3,8,9,10] [oM 43 0,
oM 44 1,
oM 45 2,
oD 46 (.calln (.f 92) [43,44,45]),
oM 42 46,
oX 47 42 0,
oX 48 42 1,
oM 11 47,
oM 12 48])
(sq (sq (kr [0,1,2,3,8,9,10,11,12] [oM 49 12,
oB 50 .eql 49 (cI 2)])
(.cond 50
(sq (.reg [oM 51 0,
oM 52 1,
oM 53 2,
oD 54 (.calln (.f 93) [51,52,53])])
(sq (kr [0,1,2,3,8,9,10,11] [oM 55 2,
oB 56 .sub 55 (cI 1),
oM 57 11,
oM 58 1,
oB 59 .sub 57 58,
oB 60 .sub 56 59,
oM 11 60])
(kr [0,1,2,3,8,9,10,11] [oD 12 (.mov (cI 1))])))
.skip))
(sq (sq (kr [0,1,2,3,8,9,10,11,12] [oM 61 8,
oM 62 61,
oT 62 63 (.mov 9),
oP 64 62 63 cF,
oM 65 64,
oT 65 66 (.mov 12),
oT 65 67 (.bin .eql 66 (cI 1)),
oP 68 65 67 cF])
(.cond 68
(sq (kr [0,1,2,3,8,9,10,11] [oM 69 0,
oM 70 1,
oM 71 2,
oD 72 (.calln (.f 94) [69,70,71])])
(.cond 72
.ret
.skip))
.skip))
(sq (sq (kd [0,1,2,3,8,9,10,11] [(oM 73 1,[]),
(oB 74 .gtr 73 (cI 0),[]),
(oM 75 74,[]),
(oT 75 76 (.mov 0),[]),
(oT 75 77 (.mov 1),[0]),
(oT 75 78 (.bin .sub 77 (cI 1)),[1]),
(oT 75 79 (.indexSl 1 76 78),[]),
(oT 75 80 (.load none 79),[]),
(oT 75 81 (.mov 0),[0,0,0,0,0]),
(oT 75 82 (.mov 11),[0,0,0,0,0,0]),
(oT 75 83 (.indexSl 1 81 82),[2,0,0,0,0]),
(oT 75 84 (.load none 83),[3,0,0,0,0]),
(oT 75 85 (.call false (.f 95) [80,84]),[]),
(oT 75 86 (.un .not 85),[]),
(oP 87 75 86 cF,[])])
(.cond 87
(sq (kr [0,1,2,3,8,9,11] [oM 88 0,
oM 89 1,
oM 90 2,
oM 91 11,
oD 92 (.calln (.f 96) [88,89,90,91]),
oM 13 92])
(sq (.reg [oM 93 13,
oM 1 93])
(.exit 1)))
.skip))
(sq (kr [0,1,2,3,10,11] [oM 95 0,
oM 96 1,
oM 97 2,
oM 98 11,
oD 99 (.calln (.f 97) [95,96,97,98]),
oM 94 99,
oX 100 94 0,
oX 101 94 1,
oM 14 100,
oM 15 101])
(sq (kr [0,1,2,3,10,14,15] [oM 102 15,
oM 9 102])
(sq (kr [0,1,2,3,9,10,14] [oM 103 14,
oM 104 1,
oB 105 .sub 103 104,
oM 106 2,
oM 107 14,
oB 108 .sub 106 107,
oM 16 105,
oM 17 108])
(sq (kr [0,1,2,3,9,10,14,16,17] [oM 109 10,
oB 110 .quo 109 (cI 8),
oM 18 110])
(sq (.reg [oM 111 16,
oM 112 17,
oB 113 .lss 111 112])
(.cond 113
(sq (kr [0,1,2,3,9,14,16,18] [oM 114 16,
oM 115 18,
oB 116 .geq 114 115,
oM 8 116])
(sq (kr [0,1,2,3,8,9,14] [oM 117 0,
oM 118 1,
oM 119 14,
oM 120 3,
oD 121 (.call true (.f 67) [117,118,119,120])])
(.reg [oM 122 14,
oB 123 .add 122 (cI 1),
oM 1 123])))
(sq (kr [0,1,2,3,9,14,17,18] [oM 124 17,
oM 125 18,
oB 126 .geq 124 125,
oM 8 126])
(sq (kr [0,1,2,3,8,9,14] [oM 127 0,
oM 128 14,
oB 129 .add 128 (cI 1),
oM 130 2,
oM 131 3,
oD 132 (.call true (.f 67) [127,129,130,131])])
(.reg [oM 133 14,
oM 2 133]))))))))))))))))))))))
def kw_:List RD:=[]
theorem kx_:zo_ Tryz.prog Tryz.f67 kz_ kw_=true:=by kernel_rfl
def Zr_:List AV->List Obj->Option (Prop × AV × List Obj)
 | [.own 0,.int .i64 a,.int .i64 b,.int .i64 n],[.row false (.int .i64) l]=>some ((0<=a/\a<=b/\b<=l.length/\l.length<=60000/\0<=n/\n<=64/\kt_ l a.toNat b.toNat,.tup [],[.row false (.int .i64) (srt l a.toNat b.toNat)]))
 | _,_=>none
theorem kg_:ze_ Tryz.prog 67 (RwF Zr_).sum:=by
 refine zcx_ (fun args=>match args with | [_,.int _ a,.int _ b,_]=>(b - a).toNat | _=>0) Tryz.func67 kx_ (za_ (s:=RwF z0_) qH_ (za_ (s:=RwF Zo_) QR_ (za_ (s:=NdF z1_) qI_ (za_ (s:=NdF z9_) Qg_ (za_ (s:=NdF z5_) qZ_ (za_ (s:=NdF zH_) ZN_ (za_ (s:=RoF z7_) Zc_ (za_ (s:=NdF zW_) qA_ (za_ (s:=NdF Zh_) QF_ (zd_ _)))))))))) fun args objs p v o e=>?_
 unfold Zr_ at e
 split at e
 ·rename_i a b n l
  cases e
  refine ⟨rfl,fun hw ho hp=>?_⟩
  change List Int at l
  clear hw ho
  change List Int at l
  obtain ⟨g1,g2,g3,g4,g5,g6,g7⟩:=hp
  obtain ⟨a,rfl⟩:=Int.eq_ofNat_of_zero_le g1
  obtain ⟨b,rfl⟩:=Int.eq_ofNat_of_zero_le (show 0<=b by omega)
  obtain ⟨n,rfl⟩:=Int.eq_ofNat_of_zero_le g5
  simp only [Int.toNat_natCast] at g7 ⊢
  have hb:b<=l.length:=by omega
  have hab:a<=b:=by omega
  repeat'(intro t ht;first|(cases t<;>first|(cases ht;done)|(try simp only[zg_]at ht;try(exfalso;first|contradiction|omega)))|((first|refine zb_ ht ?_|refine ht ?_ ?_|refine ht.1 ?_ ?_|refine ht ?_)<;>clear ht))
  all_goals first
   | exact True.intro
   | omega
   | (intro r h1 h2;clear h1;refine h2 ⟨[0,1,2,3,8,9],Nat × Nat × Nat × Bool × Bool × List Int,(fun s=>PdqJ l s.2.2.2.2.2 a b s.1 s.2.1/\s.2.2.1<=64),fun s=>[.own 0,.int .i64 s.1,.int .i64 s.2.1,.int .i64 s.2.2.1,.bool s.2.2.2.1,.bool s.2.2.2.2.1],fun s=>[.row false (.int .i64) s.2.2.2.2.2],fun s=>s.2.1 - s.1,⟨(a,b,n,true,true,l),⟨HQ_ hab g7,by (try dsimp only);omega⟩,rfl,rfl⟩,?_⟩;clear h2)
  rintro ⟨i,j,k,wb,wp,u⟩ ⟨hJ,hk⟩
  dsimp only at hJ hk
  have hn:=hJ.n
  have k1:=hJ.ai
  have k2:=hJ.ij
  have k3:=hJ.jb
  cases wb<;>cases wp
  all_goals repeat'(intro t ht;first|(cases t<;>first|(cases ht;done)|(try simp only[zg_]at ht;try(exfalso;first|contradiction|omega)))|((first|refine zb_ ht ?_|refine ht ?_ ?_|refine ht.1 ?_ ?_|refine ht ?_)<;>clear ht))
  all_goals (try dsimp only)
  all_goals (try simp only [Int.toNat_natCast] at ht ⊢)
  all_goals (have ei:((i:Int) - 1).toNat=i - 1:=by omega)
  all_goals (repeat (replace hJ:=U1_ hb hJ (by assumption)))
  all_goals first
   | exact True.intro
   | (rename Rear _ _ _ _/\_=>hA
      obtain ⟨hA,hB⟩:=hA
      first
       | (have e9:=b4_ hb hJ hA (hB ht)
          exact ⟨by first | exact True.intro | rfl,congrArg (fun x=>[Obj.row false _ x]) e9⟩)
       | replace hJ:=U1_ hb hJ hA)
   | skip
  all_goals (replace hn:=hJ.n)
  all_goals (have h8:(((j:Int) - (i:Int)).tdiv 8)=((j:Int) - (i:Int)) / 8:=Int.tdiv_eq_ediv_of_nonneg (by omega))
  all_goals (try simp only [h8])
  all_goals first
   | (have ek:(k:Int) - 1=((k - 1:Nat):Int):=by omega
      simp only [ek])
   | skip
  all_goals first
   | omega
   | (simp only [zk_];omega)
   | (constructor<;>omega)
   | (refine ⟨?_,?_,?_,?_,hJ.lo⟩<;>omega)
   | (refine ⟨?_,?_,?_,?_⟩<;>omega)
   | (refine ⟨?_,?_,?_,?_,?_,?_⟩<;>omega)
   | exact ⟨by first | exact True.intro | rfl,congrArg (fun x=>[Obj.row false _ x]) hJ.e⟩
   | (rename PartR _ _ _ _ _=>hP
      have hPL:=b3_ hb hJ hP
      have hPR:=HR_ hb hJ hP
      have p1:=hP.am
      have p2:=hP.mb
      have pl:=hP.R.len
      first
       | omega
       | (simp only [zk_];omega)
       | (refine ⟨⟨?_,?_,?_,?_,?_,?_,hPR.1⟩,?_⟩<;>omega)
       | (refine ⟨⟨?_,?_,?_,?_,?_,?_,hPL.1⟩,?_⟩<;>omega)
       | (refine ⟨(_,_,_,_,_,_),⟨hPL.2,?_⟩,?_,rfl,rfl⟩
          ·(try dsimp only);omega
          ·(try dsimp only);omega)
       | (refine ⟨(_,_,_,_,_,_),⟨hPR.2,?_⟩,?_,rfl,rfl⟩
          ·(try dsimp only);omega
          ·(try dsimp only);omega))
   | (rename EqlR _ _ _ _ _ _=>hE
      have hEJ:=za0_ hb hJ hE (by omega) (by rw [<- ei];assumption)
      have p1:=hE.am
      have p2:=hE.mb
      have pl:=hE.R.len
      refine ⟨(_,_,_,_,_,_),⟨hEJ,?_⟩,?_,rfl,rfl⟩
      ·(try dsimp only);omega
      ·(try dsimp only);omega)
 ·cases e
def jN_:IR:=
(sq (kr [0] [oM 3 0,
oE 4 3,
oM 2 4])
(kr [0,2] [oM 5 0,
oM 6 2,
oM 7 2,
oD 8 (.conv .u64 7),
oC 9 68 [8],
oD 10 (.call true (.f 67) [5,(cI 0),6,9])]))
def jy_:List RD:=[]
theorem jD_:zo_ Tryz.prog Tryz.f43 jN_ jy_=true:=by kernel_rfl
def Z5_:List AV->List Obj->Option (Prop × AV × List Obj)
 | [.own 0],[.row false (.int .i64) l]=>some ((l.length<=60000,.tup [],[.row false (.int .i64) (srt l 0 l.length)]))
 | _,_=>none
theorem KZ_:ze_ Tryz.prog 43 (RwF Z5_).sum:=by
 refine ZJ_ Tryz.func43 jD_ (za_ (s:=RoF qW_) Kx_ (za_ (s:=RwF Zr_) kg_ (zd_ _))) fun args objs p v o e=>?_
 unfold Z5_ at e
 split at e
 ·rename_i l
  cases e
  refine ⟨rfl,fun hw ho hp=>?_⟩
  change List Int at l
  clear hw ho
  change List Int at l
  have hr:=zcb_ l.length
  have hlo:kt_ l 0 l.length:=fun h0=>absurd h0 (by omega)
  repeat'(intro t ht;first|(cases t<;>first|(cases ht;done)|(try simp only[zg_]at ht;try(exfalso;first|contradiction|omega)))|((first|refine zb_ ht ?_|refine ht ?_ ?_|refine ht.1 ?_ ?_|refine ht ?_)<;>clear ht))
  all_goals first
   | exact True.intro
   | omega
   | (simp only [zk_];omega)
   | (constructor<;>omega)
   | (refine ⟨?_,?_,?_,?_,?_,?_,hlo⟩<;>omega)
   | exact ⟨rfl,rfl⟩
 ·cases e
def xu_ (fs:List FV):List Int:=fs.flatMap fun f=>if szT f.1=1 then f.2.1 else []
def ZE_ (l:List TV):List Int:=l.flatMap fun x=>xu_ x.2.2.2.2.2.2.1
def Zt_ (l:List TV):List Int:=l.map fun x=>x.1
def lkN (l:List TV):List Int:=(ZE_ l).filter fun n=>decide (n < 256) && !(Zt_ l).contains n
def lkF (l:List TV):List Int:=poF (lkN l)
def lkS (ids out:List Int) (n:Int):List Int:=if n < 256/\¬ n ∈ ids++out then out++[n] else out
def lkO (ids ns:List Int):List Int:=ns.foldl (lkS ids) []
theorem go_ (ids ns:List Int) (n:Int):lkO ids (ns++[n])=lkS ids (lkO ids ns) n:=by unfold lkO;rw [List.foldl_append];rfl
theorem Y1_ (ids:List Int):∀ (ns out:List Int),(out.Nodup/\∀ z ∈ out,z < 256/\z ∉ ids)->((ns.foldl (lkS ids) out).Nodup/\∀ z,z ∈ ns.foldl (lkS ids) out ↔ z ∈ out\/(z ∈ ns/\z < 256/\z ∉ ids))
 | [],out,h=>⟨h.1,fun z=>⟨.inl,fun k=>k.elim id fun k=>by cases k.1⟩⟩
 | n :: r,out,h=>by
   rw [List.foldl_cons]
   by_cases c:n < 256/\¬ n ∈ ids++out
   ·have e:lkS ids out n=out++[n]:=if_pos c
    have hn:=c.2
    rw [List.mem_append,not_or] at hn
    rw [e]
    obtain ⟨h1,h2⟩:=Y1_ ids r (out++[n]) ⟨List.nodup_append.2 ⟨h.1,List.pairwise_singleton ..,fun a ha b hb e=>by rw [List.mem_singleton] at hb;rw [e,hb] at ha;exact hn.2 ha⟩,fun z hz=>by
     rcases List.mem_append.1 hz with hz | hz
     ·exact h.2 z hz
     ·rw [List.mem_singleton] at hz;rw [hz];exact ⟨c.1,hn.1⟩⟩
    refine ⟨h1,fun z=>(h2 z).trans ?_⟩
    rw [List.mem_append,List.mem_singleton,List.mem_cons]
    constructor
    ·rintro ((k | k) | k)
     ·exact .inl k
     ·exact .inr ⟨.inl k,by rw [k];exact c.1,by rw [k];exact hn.1⟩
     ·exact .inr ⟨.inr k.1,k.2⟩
    ·rintro (k | ⟨k | k,k2⟩)
     ·exact .inl (.inl k)
     ·exact .inl (.inr k)
     ·exact .inr ⟨k,k2⟩
   ·have e:lkS ids out n=out:=if_neg c
    rw [e]
    obtain ⟨h1,h2⟩:=Y1_ ids r out h
    refine ⟨h1,fun z=>(h2 z).trans ?_⟩
    rw [List.mem_cons]
    constructor
    ·rintro (k | k)
     ·exact .inl k
     ·exact .inr ⟨.inr k.1,k.2⟩
    ·rintro (k | ⟨k | k,k2⟩)
     ·exact .inl k
     ·have:z ∈ ids++out:=Classical.byContradiction fun m=>c (by rw [<- k];exact ⟨k2.1,m⟩)
      rcases List.mem_append.1 this with m | m
      ·exact absurd m k2.2
      ·exact .inl m
     ·exact .inr ⟨k,k2⟩
theorem G4_ (ids ns:List Int):(lkO ids ns).Nodup/\∀ z,z ∈ lkO ids ns ↔ z ∈ ns/\z < 256/\z ∉ ids:=by
 obtain ⟨h1,h2⟩:=Y1_ ids ns [] ⟨List.Pairwise.nil,fun z hz=>by cases hz⟩
 refine ⟨h1,fun z=>(h2 z).trans ⟨fun k=>k.elim (fun k=>by cases k) id,.inr⟩⟩
theorem uP_ (l:List TV) (z:Int):z ∈ lkN l ↔ z ∈ ZE_ l/\z < 256/\z ∉ Zt_ l:=by
 unfold lkN
 rw [List.mem_filter,Bool.and_eq_true,decide_eq_true_eq,Bool.not_eq_true',<- Bool.not_eq_true,List.contains_iff_mem]
theorem zcM_ (l:List TV):srt (lkO (Zt_ l) (ZE_ l)) 0 (lkO (Zt_ l) (ZE_ l)).length=lkF l:=
 zcu_ (G4_ _ _).1 fun z=>((G4_ _ _).2 z).trans (uP_ l z).symm
theorem HU_ {l:List TV} {i:Nat} (h:i < l.length) (d:TV):ZE_ (l.take (i+1))=ZE_ (l.take i)++xu_ (l.getD i d).2.2.2.2.2.2.1:=by
 unfold ZE_;rw [<- k1_ (d:=d) h,List.flatMap_append];simp
theorem Vq_ {fs:List FV} {i:Nat} (h:i < fs.length) (d:FV):xu_ (fs.take (i+1))=xu_ (fs.take i)++(if szT (fs.getD i d).1=1 then (fs.getD i d).2.1 else []):=by
 unfold xu_;rw [<- k1_ (d:=d) h,List.flatMap_append];simp
def Jo_ (l:List TV) (i j:Nat) (d:TV):List Int:=ZE_ (l.take i)++xu_ ((l.getD i d).2.2.2.2.2.2.1.take j)
theorem zbh_ {m:List (Int × Int)} {ids ns:List Int} {n:Int} (h:cntM m (ids++lkO ids ns)) (h0:(zt_ m n).getD 0=0) (hn:n < 256):lkO ids (ns++[n])=lkO ids ns++[n]/\cntM (q4_ m n ((zt_ m n).getD 0+1)) (ids++lkO ids (ns++[n])):=by
 have hm:¬ n ∈ ids++lkO ids ns:=fun c=>by have:=(h.s n).2 c;omega
 have e:lkO ids (ns++[n])=lkO ids ns++[n]:=by rw [go_];exact if_pos ⟨hn,hm⟩
 refine ⟨e,?_⟩
 rw [e,<- List.append_assoc];exact yY_ h
theorem zbi_ {m:List (Int × Int)} {ids ns:List Int} {n:Int} (h:cntM m (ids++lkO ids ns)) (h0:¬ (n < 256/\(zt_ m n).getD 0=0)):lkO ids (ns++[n])=lkO ids ns:=by
 rw [go_]
 refine if_neg fun c=>h0 ⟨c.1,?_⟩
 have h1:=h.r n
 have:¬ 0 < (zt_ m n).getD 0:=fun k=>c.2 ((h.s n).1 k)
 omega
theorem Vo_ {fs:List FV} {z:Int} (h:z ∈ xu_ fs):∃ f ∈ fs,z ∈ f.2.1:=by
 unfold xu_ at h
 obtain ⟨f,hf,hz⟩:=List.mem_flatMap.1 h
 refine ⟨f,hf,?_⟩
 split at hz
 ·exact hz
 ·cases hz
theorem Xr_ {l:List TV} {z:Int} (h:z ∈ ZE_ l):∃ x ∈ l,∃ f ∈ x.2.2.2.2.2.2.1,z ∈ f.2.1:=by
 unfold ZE_ at h
 obtain ⟨x,hx,hz⟩:=List.mem_flatMap.1 h
 exact ⟨x,hx,Vo_ hz⟩
theorem Bh_ {o:List Int} (h:o.Nodup) (hr:∀ z ∈ o,0<=z/\z < 256):o.length<=256:=by
 have:=GY_ 256 (o.map Int.toNat) (by
  refine List.pairwise_map.2 (List.Pairwise.imp_of_mem ?_ h)
  intro a b ha hb hne e
  have h1:=hr a ha
  have h2:=hr b hb
  exact hne (by omega)) (fun d hd=>by
  obtain ⟨z,hz,rfl⟩:=List.mem_map.1 hd
  have:=hr z hz;omega)
 rwa [List.length_map] at this
theorem uQ_ {ids ns:List Int} (h:∀ z ∈ ns,0<=z):(lkO ids ns).length<=256:=by
 obtain ⟨h1,h2⟩:=G4_ ids ns
 exact Bh_ h1 fun z hz=>by
  have:=(h2 z).1 hz
  exact ⟨h z this.1,this.2.1⟩
structure nnL (l:List TV):Prop where
 h:∀ x ∈ l,∀ f ∈ x.2.2.2.2.2.2.1,∀ z ∈ f.2.1,0<=z
theorem nn_L {l:List TV} (h:nnL l) (i:Nat):∀ z ∈ ZE_ (l.take i),0<=z:=fun z hz=>by
 obtain ⟨x,hx,f,hf,hz⟩:=Xr_ hz
 exact h.h x (List.mem_of_mem_take hx) f hf z hz
theorem nn_3 {l:List TV} (h:nnL l) {i:Nat} (hi:i < l.length) (j:Nat) (d:TV):∀ z ∈ Jo_ l i j d,0<=z:=fun z hz=>by
 rcases List.mem_append.1 hz with hz | hz
 ·exact nn_L h i z hz
 ·obtain ⟨f,hf,hz⟩:=Vo_ hz
  exact h.h _ (zn_ hi d) f (List.mem_of_mem_take hf) z hz
theorem bG_ {l:List TV} (h:Ty.wf (.sl YA) l):nnL l:=⟨fun x hx f hf z hz=>by
 obtain ⟨_,_,_,_,_,_,h7,_⟩:=h.1 x hx
 obtain ⟨_,h2,_⟩:=h7.1 f hf
 have:=h2.1 z hz
 unfold Ty.wf inK at this;rw [yV_] at this;exact this.1⟩
theorem gG_ {l:List TV} {i:Nat} (h:i < l.length) (d:TV):Zt_ (l.take (i+1))=Zt_ (l.take i)++[(l.getD i d).1]:=Z1_ h d _
def J5_ (l:List TV) (i j k:Nat) (d:TV) (g:FV):List Int:=Jo_ l i j d++(if szT g.1=1 then g.2.1.take k else [])
theorem nn_4 {l:List TV} (h:nnL l) {i j:Nat} (hi:i < l.length) (d:TV) (e:FV) (hj:j < (l.getD i d).2.2.2.2.2.2.1.length) (k:Nat):∀ z ∈ J5_ l i j k d ((l.getD i d).2.2.2.2.2.2.1.getD j e),0<=z:=fun z hz=>by
 rcases List.mem_append.1 hz with hz | hz
 ·exact nn_3 h hi j d z hz
 ·split at hz
  ·exact h.h _ (zn_ hi d) _ (zn_ hj e) z (List.mem_of_mem_take hz)
  ·cases hz
theorem GF_ (l:List TV) (i j:Nat) (d:TV) (g:FV):J5_ l i j 0 d g=Jo_ l i j d:=by
 unfold J5_;split<;>simp
theorem Vk_ {l:List TV} {i j k:Nat} {d:TV} {g:FV} (h:k < g.2.1.length):J5_ l i j (k+1) d g=J5_ l i j k d g++(if szT g.1=1 then [g.2.1.getD k 0] else []):=by
 unfold J5_
 by_cases c:szT g.1=1
 ·rw [if_pos c,if_pos c,if_pos c,<- k1_ (d:=0) h,List.append_assoc]
 ·rw [if_neg c,if_neg c,if_neg c];simp
theorem UZ_ {l:List TV} {i j k:Nat} {d:TV} {e:FV} (hj:j < (l.getD i d).2.2.2.2.2.2.1.length) (hk:((l.getD i d).2.2.2.2.2.2.1.getD j e).2.1.length<=k):J5_ l i j k d ((l.getD i d).2.2.2.2.2.2.1.getD j e)=Jo_ l i (j+1) d:=by
 unfold J5_ Jo_
 rw [List.take_of_length_le hk,Vq_ hj e,List.append_assoc]
theorem up_ (l:List TV) (i:Nat) (d:TV):Jo_ l i 0 d=ZE_ (l.take i):=by unfold Jo_ xu_;simp
theorem U0_ {l:List TV} {i j:Nat} {d:TV} (hi:i < l.length) (hj:(l.getD i d).2.2.2.2.2.2.1.length<=j):Jo_ l i j d=ZE_ (l.take (i+1)):=by
 unfold Jo_;rw [List.take_of_length_le hj,HU_ hi d]
def Xz_:IR:=
(sq (kr [0] [oD 2 (.nilrow (.int .i64))])
(sq (.reg [oD 12 (.mkmap (.int .u64) (.int .i64)),
oM 3 12])
(sq (sq (.reg [oM 13 0,
oE 14 13,
oD 15 (.mov (cI 0))])
(.block 0
(.loop
(sq (kr [0,2,3,13,14,15] [oB 16 .lss 15 14])
(sq (.cond 16
.skip
(.exit 0))
(sq (.block 1
(sq (.reg [oI 17 7 13 15,
oK 18 7 17,
oD 5 (.box [.int .u64 0,.str [],.int .u64 0,.int .u64 0,.int .u64 0,.int .u64 0,.imm (.cons (.int .i64) (.cons (.sl (.int .u64)) (.cons (.sl (.int .u8)) .nil))) []]),
oS 7 5 18])
(kr [0,2,3,5,13,14,15] [oM 19 3,
oA 20 0 5,
oL 21 20,
oD 22 (.mget (.int .u64) (.int .i64) (0:Int) false 19 21),
oB 23 .add 22 (cI 1),
oN (.mput (.int .u64) (.int .i64) 19 21 23)])))
(kr [0,2,3,13,14,15] [oB 24 .add 15 (cI 1),
oM 15 24])))))))
(sq (sq (kr [0,2,3] [oM 25 0,
oE 26 25,
oD 27 (.mov (cI 0))])
(.block 2
(.loop
(sq (kr [2,3,25,26,27] [oB 28 .lss 27 26])
(sq (.cond 28
.skip
(.exit 2))
(sq (.block 3
(sq (.reg [oI 29 7 25 27,
oK 30 7 29,
oD 7 (.box [.int .u64 0,.str [],.int .u64 0,.int .u64 0,.int .u64 0,.int .u64 0,.imm (.cons (.int .i64) (.cons (.sl (.int .u64)) (.cons (.sl (.int .u8)) .nil))) []]),
oS 7 7 30])
(sq (.reg [oA 31 6 7,
oL 32 31,
oE 33 32,
oD 34 (.mov (cI 0))])
(.block 4
(.loop
(sq (kr [2,3,25,26,27,32,33,34] [oB 35 .lss 34 33])
(sq (.cond 35
.skip
(.exit 4))
(sq (.block 5
(sq (.reg [oI 36 3 32 34,
oK 37 3 36,
oD 9 (.box [.int .i64 0,.imm (.int .u64) [],.imm (.int .u8) []]),
oS 3 9 37])
(sq (.reg [oA 38 1 9,
oL 39 38,
oE 40 39,
oD 41 (.mov (cI 0))])
(.block 6
(.loop
(sq (kr [2,3,9,25,26,27,32,33,34,39,40,41] [oB 42 .lss 41 40])
(sq (.cond 42
.skip
(.exit 6))
(sq (.block 7
(sq (.reg [oI 43 1 39 41,
oL 44 43,
oM 11 44])
(sq (kr [2,3,9,11,25,26,27,32,33,34,39,40,41] [oA 45 0 9,
oL 46 45,
oC 47 42 [46],
oD 48 (.field none 0 47),
oB 49 .eql 48 (cI 1),
oM 50 49,
oT 50 51 (.mov 11),
oT 50 52 (.bin .lss 51 (.c (.int .u64 256))),
oP 53 50 52 cF,
oM 54 53,
oT 54 55 (.mov 3),
oT 54 56 (.mov 11),
oT 54 57 (.mget (.int .u64) (.int .i64) (0:Int) false 55 56),
oT 54 58 (.bin .eql 57 (cI 0)),
oP 59 54 58 cF])
(.cond 59
(sq (kr [2,3,9,11,25,26,27,32,33,34,39,40,41] [oM 60 3,
oM 61 11,
oD 62 (.mget (.int .u64) (.int .i64) (0:Int) false 60 61),
oB 63 .add 62 (cI 1),
oN (.mput (.int .u64) (.int .i64) 60 61 63)])
(kr [2,3,9,11,25,26,27,32,33,34,39,40,41] [oM 64 2,
oM 65 11,
oD 66 (.conv .i64 65),
oD 67 (.sliceAll (.int .i64) 1 [(0,1,66)]),
oD 68 (.append (.int .i64) 8 64 67),
oM 2 68]))
.skip))))
(kr [2,3,9,25,26,27,32,33,34,39,40,41] [oB 69 .add 41 (cI 1),
oM 41 69])))))))))
(kr [2,3,25,26,27,32,33,34] [oB 70 .add 34 (cI 1),
oM 34 70])))))))))
(kr [2,3,25,26,27] [oB 71 .add 27 (cI 1),
oM 27 71])))))))
(sq (kr [2] [oM 72 2,
oD 73 (.call true (.f 43) [72])])
(sq (.reg [oM 74 2,
oM 2 74])
.ret))))))
def Xd_:List RD:=[.tmp 2 true (some (.int .i64))]
theorem Xn_:zo_ Tryz.prog Tryz.f17 Xz_ Xd_=true:=by kernel_rfl
def Z0_:List AV->List Obj->Option (Prop × AV)
 | [.imm ty0 l],[]=>Kf_ ty0 YA l fun l=>some ((okT l,.imm (.int .i64) (lkF l)))
 | _,_=>none
theorem Qn_:ze_ Tryz.prog 17 (RoF Z0_).sum:=by
 refine zs_ Tryz.func17 Xn_ (za_ (s:=RoF ZT_) qh_ (za_ (s:=RwF Z5_) KZ_ (zd_ _))) fun args objs p v e=>?_
 unfold Z0_ at e
 split at e
 ·rename_i ty0 l
  obtain rfl:=qS_ e
  replace e:=qT_ e
  cases e
  refine ⟨rfl,fun hw ho hp=>?_⟩
  change List TV at l
  have hnn:=bG_ (hw (.imm YA l) (by simp))
  clear hw ho
  obtain ⟨hok,hn⟩:=hp
  repeat'(intro t ht;first|(cases t<;>first|(cases ht;done)|(try simp only[zg_]at ht;try(exfalso;first|contradiction|omega)))|((first|refine zb_ ht ?_|refine ht ?_ ?_|refine ht.1 ?_ ?_|refine ht ?_)<;>clear ht))
  all_goals first
   | exact True.intro
   | (intro r h1 h2;clear h1;refine h2 ⟨[0,2,3,13,14,15],Nat × List (Int × Int),(fun a=>a.1<=l.length/\cntM a.2 (Zt_ (l.take a.1))),fun a=>[.imm YA l,.own 0,.mapv 1,.imm YA l,.int .i64 l.length,.int .i64 a.1],fun a=>[.row false (.int .i64) [],.map true (.int .u64) (.int .i64) a.2],fun a=>l.length - a.1,⟨(0,[]),⟨Nat.zero_le _,xK_⟩,rfl,rfl⟩,?_⟩;clear h2)
  rintro ⟨i,m⟩ ⟨hi,hm⟩
  dsimp only at hi hm
  have hsn:=fun (d:TV) (h:i < l.length)=>gG_ h d
  have hr:=hm.r
  have hil:(Zt_ (l.take i)).length<=i:=by unfold Zt_;rw [List.length_map,List.length_take];omega
  have hfull:l.length<=i->Zt_ (l.take i)=Zt_ l:=fun h=>by rw [List.take_of_length_le h]
  repeat'(intro t ht;first|(cases t<;>first|(cases ht;done)|(try simp only[zg_]at ht;try(exfalso;first|contradiction|omega)))|((first|refine zb_ ht ?_|refine ht ?_ ?_|refine ht.1 ?_ ?_|refine ht ?_)<;>clear ht))
  all_goals (try generalize hod:(Ty.dflt YA)=od at*)
  all_goals first
   | exact True.intro
   | omega
   | ((try simp only [zF_,zG_,zk_] at*);omega)
   | (have hc:=hr (l.getD i od).1
      exact (show IntKind.i64.min<=(zt_ m (l.getD i od).1).getD 0+1/\(zt_ m (l.getD i od).1).getD 0+1<=IntKind.i64.max from by simp only [zk_];omega))
   | (refine ⟨(i+1,q4_ m (l.getD i od).1 ((zt_ m (l.getD i od).1).getD 0+1)),⟨by dsimp only;omega,?_⟩,by dsimp only;omega,rfl,rfl⟩
      dsimp only;rw [hsn od (by omega)];exact yY_ hm)
   | (intro r h1 h2;clear h1;refine h2 ⟨[2,3,25,26,27],Nat × List (Int × Int),(fun a=>a.1<=l.length/\cntM a.2 (Zt_ l++lkO (Zt_ l) (ZE_ (l.take a.1)))),fun a=>[.own 0,.mapv 1,.imm YA l,.int .i64 l.length,.int .i64 a.1],fun a=>[.row false (.int .i64) (lkO (Zt_ l) (ZE_ (l.take a.1))),.map true (.int .u64) (.int .i64) a.2],fun a=>l.length - a.1,⟨(0,m),⟨Nat.zero_le _,by have h:=hfull (by omega);rw [h] at hm;exact (List.append_nil (Zt_ l)).symm ▸ hm⟩,rfl,rfl⟩,?_⟩;clear h2)
  rintro ⟨i,m⟩ ⟨hi,hm⟩
  dsimp only at hi hm
  have h256:=uQ_ (ids:=Zt_ l) (nn_L hnn i)
  have hend:l.length<=i->lkO (Zt_ l) (ZE_ (l.take i))=lkO (Zt_ l) (ZE_ l):=fun h=>by rw [List.take_of_length_le h]
  have hsr:=zcM_ l
  repeat'(intro t ht;first|(cases t<;>first|(cases ht;done)|(try simp only[zg_]at ht;try(exfalso;first|contradiction|omega)))|((first|refine zb_ ht ?_|refine ht ?_ ?_|refine ht.1 ?_ ?_|refine ht ?_)<;>clear ht))
  all_goals first
   | exact True.intro
   | omega
   | ((try simp only [zF_,zG_,zk_] at*);omega)
   | (have e:=hend (by omega)
      refine ⟨?_,rfl⟩
      dsimp only
      rw [e,hsr])
   | (intro r h1 h2;clear h1;refine h2 ⟨[2,3,25,26,27,32,33,34],Nat × List (Int × Int),(fun a=>a.1<=(l.getD i (Ty.dflt YA)).2.2.2.2.2.2.1.length/\cntM a.2 (Zt_ l++lkO (Zt_ l) (Jo_ l i a.1 (Ty.dflt YA)))),fun a=>[.own 0,.mapv 1,.imm YA l,.int .i64 l.length,.int .i64 i,.imm (.cons (.int .i64) (.cons (.sl (.int .u64)) (.cons (.sl (.int .u8)) .nil))) (l.getD i (Ty.dflt YA)).2.2.2.2.2.2.1,.int .i64 ((l.getD i (Ty.dflt YA)).2.2.2.2.2.2.1.length:Int),.int .i64 a.1],fun a=>[.row false (.int .i64) (lkO (Zt_ l) (Jo_ l i a.1 (Ty.dflt YA))),.map true (.int .u64) (.int .i64) a.2],fun a=>(l.getD i (Ty.dflt YA)).2.2.2.2.2.2.1.length - a.1,⟨(0,m),⟨Nat.zero_le _,by rw [up_];exact hm⟩,rfl,(by show _=[Obj.row false (.int .i64) (lkO (Zt_ l) (Jo_ l i 0 (Ty.dflt YA))),.map true (.int .u64) (.int .i64) m];rw [up_])⟩,?_⟩;clear h2)
  have hlt:i < l.length:=by omega
  have hFok:=hok _ (zn_ hlt (Ty.dflt YA))
  clear hm h256 hend hsr
  rintro ⟨j,m⟩ ⟨hj,hm⟩
  dsimp only at hj hm
  have h256:=uQ_ (ids:=Zt_ l) (nn_3 hnn hlt j (Ty.dflt YA))
  have hend:=fun h=>U0_ (l:=l) (i:=i) (j:=j) (d:=(Ty.dflt YA)) hlt h
  have hFn:=hFok.n
  repeat'(intro t ht;first|(cases t<;>first|(cases ht;done)|(try simp only[zg_]at ht;try(exfalso;first|contradiction|omega)))|((first|refine zb_ ht ?_|refine ht ?_ ?_|refine ht.1 ?_ ?_|refine ht ?_)<;>clear ht))
  all_goals first
   | exact True.intro
   | omega
   | ((try simp only [zF_,zG_,zk_] at*);omega)
   | (refine ⟨(i+1,m),⟨by dsimp only;omega,?_⟩,by dsimp only;omega,rfl,?_⟩
      ·dsimp only;rw [<- hend (by omega)];exact hm
      ·dsimp only;rw [<- hend (by omega)])
   | (intro r h1 h2;clear h1;refine h2 ⟨[2,3,9,25,26,27,32,33,34,39,40,41],Nat × List (Int × Int),(fun a=>a.1<=((l.getD i (Ty.dflt YA)).2.2.2.2.2.2.1.getD j (Ty.dflt (.cons (.int .i64) (.cons (.sl (.int .u64)) (.cons (.sl (.int .u8)) .nil))))).2.1.length/\cntM a.2 (Zt_ l++lkO (Zt_ l) (J5_ l i j a.1 (Ty.dflt YA) ((l.getD i (Ty.dflt YA)).2.2.2.2.2.2.1.getD j (Ty.dflt (.cons (.int .i64) (.cons (.sl (.int .u64)) (.cons (.sl (.int .u8)) .nil)))))))),fun a=>[.own 0,.mapv 1,.ptr 2 0,.imm YA l,.int .i64 l.length,.int .i64 i,.imm (.cons (.int .i64) (.cons (.sl (.int .u64)) (.cons (.sl (.int .u8)) .nil))) (l.getD i (Ty.dflt YA)).2.2.2.2.2.2.1,.int .i64 ((l.getD i (Ty.dflt YA)).2.2.2.2.2.2.1.length:Int),.int .i64 j,.imm (.int .u64) ((l.getD i (Ty.dflt YA)).2.2.2.2.2.2.1.getD j (Ty.dflt (.cons (.int .i64) (.cons (.sl (.int .u64)) (.cons (.sl (.int .u8)) .nil))))).2.1,.int .i64 (((l.getD i (Ty.dflt YA)).2.2.2.2.2.2.1.getD j (Ty.dflt (.cons (.int .i64) (.cons (.sl (.int .u64)) (.cons (.sl (.int .u8)) .nil))))).2.1.length:Int),.int .i64 a.1],fun a=>[.row false (.int .i64) (lkO (Zt_ l) (J5_ l i j a.1 (Ty.dflt YA) ((l.getD i (Ty.dflt YA)).2.2.2.2.2.2.1.getD j (Ty.dflt (.cons (.int .i64) (.cons (.sl (.int .u64)) (.cons (.sl (.int .u8)) .nil))))))),.map true (.int .u64) (.int .i64) a.2,.box [.int .i64 ((l.getD i (Ty.dflt YA)).2.2.2.2.2.2.1.getD j (Ty.dflt (.cons (.int .i64) (.cons (.sl (.int .u64)) (.cons (.sl (.int .u8)) .nil))))).1,.imm (.int .u64) ((l.getD i (Ty.dflt YA)).2.2.2.2.2.2.1.getD j (Ty.dflt (.cons (.int .i64) (.cons (.sl (.int .u64)) (.cons (.sl (.int .u8)) .nil))))).2.1,.imm (.int .u8) ((l.getD i (Ty.dflt YA)).2.2.2.2.2.2.1.getD j (Ty.dflt (.cons (.int .i64) (.cons (.sl (.int .u64)) (.cons (.sl (.int .u8)) .nil))))).2.2.1]],fun a=>((l.getD i (Ty.dflt YA)).2.2.2.2.2.2.1.getD j (Ty.dflt (.cons (.int .i64) (.cons (.sl (.int .u64)) (.cons (.sl (.int .u8)) .nil))))).2.1.length - a.1,⟨(0,m),⟨Nat.zero_le _,by rw [GF_];exact hm⟩,rfl,(by show _=[Obj.row false (.int .i64) (lkO (Zt_ l) (J5_ l i j 0 (Ty.dflt YA) ((l.getD i (Ty.dflt YA)).2.2.2.2.2.2.1.getD j (Ty.dflt (.cons (.int .i64) (.cons (.sl (.int .u64)) (.cons (.sl (.int .u8)) .nil))))))),.map true (.int .u64) (.int .i64) m,.box [.int .i64 ((l.getD i (Ty.dflt YA)).2.2.2.2.2.2.1.getD j (Ty.dflt (.cons (.int .i64) (.cons (.sl (.int .u64)) (.cons (.sl (.int .u8)) .nil))))).1,.imm (.int .u64) ((l.getD i (Ty.dflt YA)).2.2.2.2.2.2.1.getD j (Ty.dflt (.cons (.int .i64) (.cons (.sl (.int .u64)) (.cons (.sl (.int .u8)) .nil))))).2.1,.imm (.int .u8) ((l.getD i (Ty.dflt YA)).2.2.2.2.2.2.1.getD j (Ty.dflt (.cons (.int .i64) (.cons (.sl (.int .u64)) (.cons (.sl (.int .u8)) .nil))))).2.2.1]];rw [GF_];rfl)⟩,?_⟩;clear h2)
  have hjt:j < (l.getD i (Ty.dflt YA)).2.2.2.2.2.2.1.length:=by omega
  have hGok:=hFok.a _ (zn_ hjt (Ty.dflt (.cons (.int .i64) (.cons (.sl (.int .u64)) (.cons (.sl (.int .u8)) .nil)))))
  clear hm h256 hend
  rintro ⟨k,m⟩ ⟨hk,hm⟩
  dsimp only at hk hm
  have h256:=uQ_ (ids:=Zt_ l) (nn_4 hnn hlt (Ty.dflt YA) (Ty.dflt (.cons (.int .i64) (.cons (.sl (.int .u64)) (.cons (.sl (.int .u8)) .nil)))) hjt k)
  have hend:=fun h=>UZ_ (l:=l) (i:=i) (j:=j) (k:=k) (d:=(Ty.dflt YA)) (e:=(Ty.dflt (.cons (.int .i64) (.cons (.sl (.int .u64)) (.cons (.sl (.int .u8)) .nil))))) hjt h
  have hsn:=fun h=>Vk_ (l:=l) (i:=i) (j:=j) (k:=k) (d:=(Ty.dflt YA)) (g:=((l.getD i (Ty.dflt YA)).2.2.2.2.2.2.1.getD j (Ty.dflt (.cons (.int .i64) (.cons (.sl (.int .u64)) (.cons (.sl (.int .u8)) .nil)))))) h
  have hst:=fun h h1=>zbh_ (n:=((l.getD i (Ty.dflt YA)).2.2.2.2.2.2.1.getD j (Ty.dflt (.cons (.int .i64) (.cons (.sl (.int .u64)) (.cons (.sl (.int .u8)) .nil))))).2.1.getD k 0) hm h h1
  have hsk:=fun h=>zbi_ (n:=((l.getD i (Ty.dflt YA)).2.2.2.2.2.2.1.getD j (Ty.dflt (.cons (.int .i64) (.cons (.sl (.int .u64)) (.cons (.sl (.int .u8)) .nil))))).2.1.getD k 0) hm h
  have hr:=hm.r (((l.getD i (Ty.dflt YA)).2.2.2.2.2.2.1.getD j (Ty.dflt (.cons (.int .i64) (.cons (.sl (.int .u64)) (.cons (.sl (.int .u8)) .nil))))).2.1.getD k 0)
  have hn0:=fun h:k < ((l.getD i (Ty.dflt YA)).2.2.2.2.2.2.1.getD j (Ty.dflt (.cons (.int .i64) (.cons (.sl (.int .u64)) (.cons (.sl (.int .u8)) .nil))))).2.1.length=>hnn.h _ (zn_ hlt (Ty.dflt YA)) _ (zn_ hjt (Ty.dflt (.cons (.int .i64) (.cons (.sl (.int .u64)) (.cons (.sl (.int .u8)) .nil))))) _ (zn_ h 0)
  have hln:(Zt_ l++lkO (Zt_ l) (J5_ l i j k (Ty.dflt YA) ((l.getD i (Ty.dflt YA)).2.2.2.2.2.2.1.getD j (Ty.dflt (.cons (.int .i64) (.cons (.sl (.int .u64)) (.cons (.sl (.int .u8)) .nil))))))).length<=100000:=by
   have:(Zt_ l).length=l.length:=List.length_map ..
   rw [List.length_append];omega
  repeat'(intro t ht;first|(cases t<;>first|(cases ht;done)|(try simp only[zg_]at ht;try(exfalso;first|contradiction|omega)))|((first|refine zb_ ht ?_|refine ht ?_ ?_|refine ht.1 ?_ ?_|refine ht ?_)<;>clear ht))
  all_goals (try generalize (Ty.dflt YA)=od at*)
  all_goals (try generalize (Ty.dflt (.cons (.int .i64) (.cons (.sl (.int .u64)) (.cons (.sl (.int .u8)) .nil))))=oe at*)
  all_goals first
   | exact True.intro
   | omega
   | exact ⟨by dsimp only;omega,by dsimp only;omega⟩
   | ((try dsimp only);simp only [zk_];omega)
   | (dsimp only;simp only [List.length_cons,List.length_nil];constructor<;>omega)
   | (refine ⟨(j+1,m),⟨by dsimp only;omega,?_⟩,by dsimp only;omega,rfl,?_⟩
      ·dsimp only;rw [<- hend (by omega)];exact hm
      ·dsimp only;rw [<- hend (by omega)])
   | exact (show IntKind.i64.min<=(zt_ m (((l.getD i od).2.2.2.2.2.2.1.getD j oe).2.1.getD k 0)).getD 0+1/\(zt_ m (((l.getD i od).2.2.2.2.2.2.1.getD j oe).2.1.getD k 0)).getD 0+1<=IntKind.i64.max from by simp only [zk_];omega)
   | (have hz:=hn0 (by omega)
      exact (show IntKind.i64.min<=(((l.getD i od).2.2.2.2.2.2.1.getD j oe).2.1.getD k 0)/\(((l.getD i od).2.2.2.2.2.2.1.getD j oe).2.1.getD k 0)<=IntKind.i64.max from by simp only [zk_];omega))
   | (have c:szT ((l.getD i od).2.2.2.2.2.2.1.getD j oe).1=1:=by assumption
      have c2:(((l.getD i od).2.2.2.2.2.2.1.getD j oe).2.1.getD k 0) < 256:=by assumption
      have c3:(zt_ m (((l.getD i od).2.2.2.2.2.2.1.getD j oe).2.1.getD k 0)).getD 0=0:=by assumption
      obtain ⟨e1,e2⟩:=hst c3 c2
      have e3:=hsn (by omega)
      rw [if_pos c] at e3
      refine ⟨(k+1,q4_ m (((l.getD i od).2.2.2.2.2.2.1.getD j oe).2.1.getD k 0) ((zt_ m (((l.getD i od).2.2.2.2.2.2.1.getD j oe).2.1.getD k 0)).getD 0+1)),⟨by dsimp only;omega,?_⟩,by dsimp only;omega,rfl,?_⟩
      ·dsimp only;rw [e3];exact e2
      ·dsimp only;rw [e3,e1];rfl)
   | (have c:¬ szT ((l.getD i od).2.2.2.2.2.2.1.getD j oe).1=1:=by assumption
      have e3:=hsn (by omega)
      rw [if_neg c,List.append_nil] at e3
      refine ⟨(k+1,m),⟨by dsimp only;omega,?_⟩,by dsimp only;omega,rfl,?_⟩
      ·dsimp only;rw [e3];exact hm
      ·dsimp only;rw [e3])
   | (have c:szT ((l.getD i od).2.2.2.2.2.2.1.getD j oe).1=1:=by assumption
      have c2:¬ ((((l.getD i od).2.2.2.2.2.2.1.getD j oe).2.1.getD k 0) < 256/\(zt_ m (((l.getD i od).2.2.2.2.2.2.1.getD j oe).2.1.getD k 0)).getD 0=0):=by
       first
        | (have q:¬ (((l.getD i od).2.2.2.2.2.2.1.getD j oe).2.1.getD k 0) < 256:=by assumption
           exact fun z=>q z.1)
        | (have q:¬ (zt_ m (((l.getD i od).2.2.2.2.2.2.1.getD j oe).2.1.getD k 0)).getD 0=0:=by assumption
           exact fun z=>q z.2)
      have e1:=hsk c2
      have e3:=hsn (by omega)
      rw [if_pos c] at e3
      refine ⟨(k+1,m),⟨by dsimp only;omega,?_⟩,by dsimp only;omega,rfl,?_⟩
      ·dsimp only;rw [e3,e1];exact hm
      ·dsimp only;rw [e3,e1])
 ·cases e
theorem zco_ {a b:TV} (h1:a.1=b.1) (h2:a.2.1=b.2.1) (h3:a.2.2.1=b.2.2.1) (h4:a.2.2.2.1=b.2.2.2.1) (h5:a.2.2.2.2.1=b.2.2.2.2.1) (h6:a.2.2.2.2.2.1=b.2.2.2.2.2.1) (h7:a.2.2.2.2.2.2.1=b.2.2.2.2.2.2.1):a=b:=by
 obtain ⟨a1,a2,a3,a4,a5,a6,a7,_⟩:=a
 obtain ⟨b1,b2,b3,b4,b5,b6,b7,_⟩:=b
 dsimp only at h1 h2 h3 h4 h5 h6 h7
 rw [h1,h2,h3,h4,h5,h6,h7]
instance decTV (a b:TV):Decidable (a=b):=decidable_of_iff (a.1=b.1/\a.2.1=b.2.1/\a.2.2.1=b.2.2.1/\a.2.2.2.1=b.2.2.2.1/\a.2.2.2.2.1=b.2.2.2.2.1/\a.2.2.2.2.2.1=b.2.2.2.2.2.1/\a.2.2.2.2.2.2.1=b.2.2.2.2.2.2.1) ⟨fun ⟨h1,h2,h3,h4,h5,h6,h7⟩=>zco_ h1 h2 h3 h4 h5 h6 h7,fun h=>by rw [h];exact ⟨rfl,rfl,rfl,rfl,rfl,rfl,rfl⟩⟩
def S20:List TV:=[(1,[116],0,0,0,0,[(2,[2,3],[],())],())]
def B20:List Int:=[0,72,1,0,0,0,0,0,116,0,0,0,0,0,0,0,0,0,0,0,0,0,0,0,0,0,0,0,0,0,0,0,0,0,0,0,0,0,0,0,0,0,0,0,0,0,0,0,0,0,0,0,0,0,0,0,0,0,0,0,0,0,0,0,0,2,0,6,2,3,0,0]
theorem s20a:tbE S20=0/\tbL S20=B20/\lkF S20=[2,3]/\szT 2=1/\szT 12=4:=by decide+kernel
theorem s20b:fE B20=0/\(fN B20).toNat=72/\B20.length=72/\tlK [0,2,0,6,2,3,0,0]=0/\tT [0,2,0,6,2,3,0,0]=2/\bd [0,2,0,6,2,3,0,0]=[2,3]/\(tlN [0,2,0,6,2,3,0,0]).toNat=8/\fN B20=72:=by decide+kernel
theorem s20n:nuG 2 [2,3]=([2,3],0):=by
 have e1:=Bc_ (t:=2) (y:=[2,3]) (by decide) (by decide) (by decide)
 have e2:=Bc_ (t:=2) (y:=[3]) (by decide) (by decide) (by decide)
 have e3:=YB_ (t:=2) (y:=[]) rfl
 rw [e1]
 show (nuV 2 [2,3] :: (nuG 2 [3]).1,(nuG 2 [3]).2)=_
 rw [e2]
 show (nuV 2 [2,3] :: nuV 2 [3] :: (nuG 2 []).1,(nuG 2 []).2)=_
 rw [e3];decide
theorem s20x:ftX [] [0,2,0,6,2,3,0,0]=0/\ftV [] [0,2,0,6,2,3,0,0]=(2,[2,3],[],()):=by
 obtain ⟨_,_,_,_,e5,e6,_⟩:=s20b
 obtain ⟨a,b,c⟩:=ft_n (D:=false) (t:=2) (x:=[2,3]) (by decide) (by decide) rfl (by decide)
 rw [s20n] at a b
 unfold ftX ftV
 rw [e5,e6]
 have hc:(tyL []).contains (2:Int)=false:=rfl
 rw [hc,a,b,c];exact ⟨rfl,rfl⟩
theorem s20f:fF B20=([(2,[2,3],[],())],0):=by
 obtain ⟨_,e2,_,e4,_,_,e7,_⟩:=s20b
 obtain ⟨x1,x2⟩:=s20x
 unfold fF
 rw [e2]
 show fsG [] 0 [0,2,0,6,2,3,0,0]=_
 rw [BM_ e4,x1,x2,e7]
 show fsG [(2,[2,3],[],())] 0 []=_
 exact Uc_ rfl
theorem s20c:fdE B20=0/\fdL B20=S20:=by
 obtain ⟨e1,e2,e3,_⟩:=s20b
 have hX:tbX B20=0:=by rw [zdj_ e1,s20f]
 have hd:=zcg_ (y:=B20) (by rw [e3];decide) hX
 have hn:fdG (B20.drop (fN B20).toNat)=([],0,0):=hm_ (by rw [e2];rfl)
 rw [hn] at hd
 have hV:tbV B20=(1,[116],0,0,0,0,[(2,[2,3],[],())],()):=by
  have h:u3V (B20.take 64) B20.length=1/\ctB (u6N (B20.take 64) B20.length) 0=[116]/\uS (B20.take 64) B20.length 0=0/\uS (B20.take 64) B20.length 1=0/\uS (B20.take 64) B20.length 2=0/\uS (B20.take 64) B20.length 3=0:=by decide+kernel
  obtain ⟨h1,h2,h3,h4,h5,h6⟩:=h
  unfold tbV
  rw [h1,h2,h3,h4,h5,h6,s20f]
 have hE:fdE B20=0:=by unfold fdE;rw [hd]
 refine ⟨hE,?_⟩
 have hE2:(fdG B20).2.1=0:=hE
 unfold fdL
 rw [if_pos hE2,hd,hV];rfl
theorem s20d:fdE []=0/\fdL []=[]:=by unfold fdE fdL;rw [hm_ rfl];exact ⟨rfl,rfl⟩
theorem s20k:okT S20:=⟨fun x hx=>by
 unfold S20 at hx
 rw [List.mem_singleton] at hx
 subst hx
 exact ⟨fun f hf=>by rw [List.mem_singleton] at hf;subst hf;exact ⟨by simp,by simp⟩,by simp⟩,by unfold S20;simp⟩
def gz_:IR:=
(sq (kr [0,1] [oD 4 (.mov cF)])
(sq (sq (kr [0,1] [oM 6 0,
oE 7 6,
oM 8 1,
oE 9 8,
oB 10 .neq 7 9])
(.cond 10
(sq (.reg [oD 4 (.mov cF)])
.ret)
.skip))
(sq (sq (kr [0,1] [oD 5 (.mov (cI 0))])
(.block 0
(.loop
(sq (sq (kr [0,1,5] [oM 11 5,
oM 12 0,
oE 13 12,
oB 14 .lss 11 13])
(.cond 14
.skip
(.exit 0)))
(sq (.block 1
(sq (kd [0,1,5] [(oM 17 0,[]),
(oM 18 5,[0]),
(oI 19 1 17 18,[]),
(oL 20 19,[]),
(oM 21 1,[0,0,0,0]),
(oM 22 5,[0,0,0,0,0]),
(oI 23 1 21 22,[2,0,0,0]),
(oL 24 23,[3,0,0,0]),
(oB 25 .neq 20 24,[])])
(.cond 25
(sq (kr [] [oD 4 (.mov cF)])
.ret)
.skip)))
(kr [0,1,5] [oM 15 5,
oB 16 .add 15 (cI 1),
oM 5 16]))))))
(sq (kr [] [oD 4 (.mov cT)])
.ret))))
def UT_:List RD:=[.tmp 4 true none]
theorem ga_:zo_ Tryz.prog Tryz.f29 gz_ UT_=true:=by kernel_rfl
def j1_:List AV->List Obj->Option (Prop × AV)
 | [.imm (.int .i64) a,.imm (.int .i64) b],[]=>some ((True,.bool (decide ((a:List Int)=b))))
 | _,_=>none
theorem xc_:ze_ Tryz.prog 29 (RoF j1_).sum:=by
 refine zs_ Tryz.func29 ga_ (zd_ _) fun args objs p v e=>?_
 unfold j1_ at e
 split at e
 ·rename_i a b
  cases e
  refine ⟨rfl,fun hw ho hp=>?_⟩
  change List Int at a
  change List Int at b
  change List Int at a
  change List Int at b
  have hl:a.length<=maxLen:=(hw (.imm (.int .i64) a) (by simp)).2
  unfold maxLen at hl
  clear hw ho
  repeat'(intro t ht;first|(cases t<;>first|(cases ht;done)|(try simp only[zg_]at ht))|((first|refine zb_ ht ?_|refine ht ?_ ?_|refine ht.1 ?_ ?_|refine ht ?_)<;>clear ht))
  all_goals first
   | (have hne:a ≠ b:=fun h=>(by assumption:¬ (a.length:Int)=b.length) (by rw [h])
      refine ⟨?_,rfl⟩;rw [decide_eq_false hne];done)
   | (intro r h1 h2;clear h1;refine h2 ⟨[0,1,5],Nat,(fun i=>i<=a.length/\a.take i=b.take i),fun i=>[.imm (.int .i64) a,.imm (.int .i64) b,.int .i64 i],fun _=>[],fun i=>a.length - i,⟨0,⟨Nat.zero_le _,rfl⟩,rfl,rfl⟩,?_⟩;clear h2)
  rintro i ⟨hi,he⟩
  have hl2:a.length=b.length:=by omega
  repeat'(intro t ht;first|(cases t<;>first|(cases ht;done)|(try simp only[zg_]at ht;try(exfalso;first|contradiction|omega)))|((first|refine zb_ ht ?_|refine ht ?_ ?_|refine ht.1 ?_ ?_|refine ht ?_)<;>clear ht))
  all_goals first
   | exact True.intro
   | ((try simp only [zF_,zG_,zk_] at*);omega)
   | (have e:=zb3_ he (by omega) hl2
      refine ⟨?_,rfl⟩;rw [decide_eq_true e];done)
   | (have hne:a ≠ b:=tkNe (d:=0) (i:=i) (by assumption)
      refine ⟨?_,rfl⟩;rw [decide_eq_false hne];done)
   | exact ⟨i+1,⟨by omega,bF_ he (by omega) hl2 (d:=0) (by assumption)⟩,by (try simp only [zF_,zG_,zk_] at*);omega,rfl,rfl⟩
   | skip
 ·cases e
def gC_:IR:=
(sq (kr [] [oD 0 (.mov cF)])
(sq (kr [] [oC 8 8 [(.c (.imm (.int .u8) []))],
oM 7 8,
oX 9 7 0,
oX 10 7 1,
oM 1 9,
oM 2 10])
(sq (kr [1,2] [oD 12 (.sliceAll (.int .u64) 2 [(0,1,(.c (.int .u64 2))),(1,1,(.c (.int .u64 3)))]),
oD 13 (.build [.int .i64 0,.imm (.int .u64) [],.imm (.int .u8) []] [(0,1,(cI 2)),(1,1,12)]),
oD 14 (.sliceAll (.cons (.int .i64) (.cons (.sl (.int .u64)) (.cons (.sl (.int .u8)) .nil))) 1 [(0,3,13)]),
oD 15 (.build [.int .u64 0,.str [],.int .u64 0,.int .u64 0,.int .u64 0,.int .u64 0,.imm (.cons (.int .i64) (.cons (.sl (.int .u64)) (.cons (.sl (.int .u8)) .nil))) []] [(0,1,(.c (.int .u64 1))),(1,1,(.c (.str [116]))),(6,1,14)]),
oD 16 (.sliceAll YA 1 [(0,7,15)]),
oC 17 18 [16],
oM 11 17,
oX 18 11 0,
oX 19 11 1,
oM 3 18,
oM 4 19])
(sq (kr [1,2,3,4] [oM 21 3,
oC 22 8 [21],
oM 20 22,
oX 23 20 0,
oX 24 20 1,
oM 5 23,
oM 6 24])
(sq (kr [1,2,3,4,5,6] [oM 25 2,
oB 26 .eql 25 (cI 0),
oM 27 26,
oT 27 28 (.mov 1),
oT 27 29 (.len 28),
oT 27 30 (.bin .eql 29 (cI 0)),
oP 31 27 30 cF,
oM 32 31,
oT 32 33 (.mov 4),
oT 32 34 (.bin .eql 33 (cI 0)),
oP 35 32 34 cF,
oM 36 35,
oT 36 37 (.mov 3),
oT 36 38 (.len 37),
oT 36 39 (.bin .eql 38 (cI 72)),
oP 40 36 39 cF,
oM 41 40,
oT 41 42 (.mov 3),
oT 41 43 (.slice 1 42 (some (cI 64)) none none),
oT 41 44 (.sliceAll (.int .u8) 8 [(0,1,(.c (.int .u8 0))),(1,1,(.c (.int .u8 2))),(2,1,(.c (.int .u8 0))),(3,1,(.c (.int .u8 6))),(4,1,(.c (.int .u8 2))),(5,1,(.c (.int .u8 3))),(6,1,(.c (.int .u8 0))),(7,1,(.c (.int .u8 0)))]),
oT 41 45 (.call false (.f 25) [43,44]),
oP 46 41 45 cF,
oM 47 46,
oT 47 48 (.mov 6),
oT 47 49 (.bin .eql 48 (cI 0)),
oP 50 47 49 cF,
oM 51 50,
oT 51 52 (.mov 5),
oT 51 53 (.len 52),
oT 51 54 (.bin .eql 53 (cI 1)),
oP 55 51 54 cF,
oM 56 55,
oT 56 57 (.mov 5),
oT 56 58 (.call false (.f 17) [57]),
oT 56 59 (.sliceAll (.int .i64) 2 [(0,1,(cI 2)),(1,1,(cI 3))]),
oT 56 60 (.call false (.f 29) [58,59]),
oP 61 56 60 cF,
oM 62 61,
oT 62 63 (.call false (.f 30) [(cI 2)]),
oT 62 64 (.bin .eql 63 (cI 1)),
oP 65 62 64 cF,
oM 66 65,
oT 66 67 (.call false (.f 30) [(cI 12)]),
oT 66 68 (.bin .eql 67 (cI 4)),
oP 69 66 68 cF,
oM 0 69])
.ret)))))
def UW_:List RD:=[.tmp 0 true none]
theorem gd_:zo_ Tryz.prog Tryz.f7 gC_ UW_=true:=by kernel_rfl
def j2_:List AV->List Obj->Option (Prop × AV)
 | [],[]=>some ((True,.bool true))
 | _,_=>none
theorem xd_:ze_ Tryz.prog 7 (RoF j2_).sum:=by
 refine zs_ Tryz.func7 gd_ (za_ (s:=RoF Q5_) Wy_ (za_ (s:=RoF Zu_) ZO_ (za_ (s:=RoF KH_) Wn_ (za_ (s:=RoF Z0_) Qn_ (za_ (s:=RoF j1_) xc_ (za_ (s:=RoF QB_) K0_ (zd_ _))))))) fun args objs p v e=>?_
 unfold j2_ at e
 split at e
 ·cases e
  refine ⟨rfl,fun hw ho hp=>?_⟩
  obtain ⟨e1,e2,e3,e4,e5⟩:=s20a
  obtain ⟨e6,e7⟩:=s20c
  obtain ⟨e8,e9⟩:=s20d
  have hk:=s20k
  have e10:B20.length=72:=rfl
  have e11:B20.drop 64=[0,2,0,6,2,3,0,0]:=rfl
  unfold S20 at e1 e2 e3 e7 hk
  repeat'(intro t ht;first|(cases t<;>first|(cases ht;done)|(try simp only[zg_]at ht))|((first|refine zb_ ht ?_|refine ht ?_ ?_|refine ht.1 ?_ ?_|refine ht ?_)<;>clear ht))
  all_goals (try simp only [e1,e2,e3,e4,e5,e6,e7,e8,e9,e10,if_true,reduceCtorEq,not_true_eq_false,List.length_nil,List.length_cons] at*)
  all_goals first
   | exact True.intro
   | exact hk
   | exact ⟨by decide,by decide⟩
   | exact (by decide)
   | exact ⟨rfl,by first | rfl | exact True.intro⟩
   | contradiction
 ·cases e
def hj_ (x:FV):Bool:=decide (x.2.1.length<=100) && decide (x.2.2.1.length<=300)
def YY_ (x:TV):Bool:=x.2.2.2.2.2.2.1.all hj_ && (decide (x.2.2.2.2.2.2.1.length<=20) && decide (x.2.1.length<=100))
def xF_ (l:List TV):Bool:=l.all YY_ && decide (l.length<=12)
theorem BV_ {l:List TV} (h:xF_ l=true):(okT l/\l.length<=12)/\∀ x ∈ l,x.2.1.length<=100000:=by
 unfold xF_ at h
 rw [Bool.and_eq_true,decide_eq_true_eq] at h
 obtain ⟨h1,h2⟩:=h
 have k:∀ x ∈ l,YY_ x=true:=List.all_eq_true.1 h1
 refine ⟨⟨⟨fun x hx=>?_,by omega⟩,h2⟩,fun x hx=>?_⟩
 ·have:=k x hx
  unfold YY_ at this
  simp only [Bool.and_eq_true,decide_eq_true_eq] at this
  obtain ⟨h3,h4,h5⟩:=this
  refine ⟨fun f hf=>?_,by omega⟩
  have:=List.all_eq_true.1 h3 f hf
  unfold hj_ at this
  simp only [Bool.and_eq_true,decide_eq_true_eq] at this
  omega
 ·have:=k x hx
  unfold YY_ at this
  simp only [Bool.and_eq_true,decide_eq_true_eq] at this
  omega
def hf_:IR:=
(sq (kr [0] [oD 2 (.mov cF)])
(sq (sq (.reg [oD 3 (.mov (cI 0))])
(.block 0
(.loop
(sq (sq (kr [0,3] [oM 5 3,
oM 6 0,
oE 7 6,
oB 8 .lss 5 7])
(.cond 8
.skip
(.exit 0)))
(sq (.block 1
(sq (sq (.reg [oD 4 (.mov (cI 0))])
(.block 2
(.loop
(sq (sq (kr [0,3,4] [oM 11 4,
oM 12 0,
oM 13 3,
oI 14 7 12 13,
oA 15 6 14,
oL 16 15,
oE 17 16,
oB 18 .lss 11 17])
(.cond 18
.skip
(.exit 2)))
(sq (.block 3
(sq (kr [0,3,4] [oM 21 0,
oM 22 3,
oI 23 7 21 22,
oA 24 6 23,
oL 25 24,
oM 26 4,
oI 27 3 25 26,
oA 28 1 27,
oL 29 28,
oE 30 29,
oB 31 .gtr 30 (cI 100),
oM 32 31,
oF 32 33 (.mov 0),
oF 32 34 (.mov 3),
oF 32 35 (.indexSl 7 33 34),
oF 32 36 (.fieldAddr 6 35),
oF 32 37 (.load none 36),
oF 32 38 (.mov 4),
oF 32 39 (.indexSl 3 37 38),
oF 32 40 (.fieldAddr 2 39),
oF 32 41 (.load none 40),
oF 32 42 (.len 41),
oF 32 43 (.bin .gtr 42 (cI 300)),
oP 44 32 cT 43])
(.cond 44
(sq (kr [] [oD 2 (.mov cF)])
.ret)
.skip)))
(kr [0,3,4] [oM 19 4,
oB 20 .add 19 (cI 1),
oM 4 20]))))))
(sq (kr [0,3] [oM 45 0,
oM 46 3,
oI 47 7 45 46,
oA 48 6 47,
oL 49 48,
oE 50 49,
oB 51 .gtr 50 (cI 20),
oM 52 51,
oF 52 53 (.mov 0),
oF 52 54 (.mov 3),
oF 52 55 (.indexSl 7 53 54),
oF 52 56 (.fieldAddr 1 55),
oF 52 57 (.load none 56),
oF 52 58 (.slen 57),
oF 52 59 (.bin .gtr 58 (cI 100)),
oP 60 52 cT 59])
(.cond 60
(sq (kr [] [oD 2 (.mov cF)])
.ret)
.skip))))
(kr [0,3] [oM 9 3,
oB 10 .add 9 (cI 1),
oM 3 10]))))))
(sq (kr [0] [oM 61 0,
oE 62 61,
oB 63 .leq 62 (cI 12),
oM 2 63])
.ret)))
def GB_:List RD:=[.tmp 2 true none]
theorem GO_:zo_ Tryz.prog Tryz.f16 hf_ GB_=true:=by kernel_rfl
def w5_:List AV->List Obj->Option (Prop × AV)
 | [.imm ty0 l],[]=>Kf_ ty0 YA l fun l=>some ((True,.bool (xF_ l)))
 | _,_=>none
theorem X1_:ze_ Tryz.prog 16 (RoF w5_).sum:=by
 refine zs_ Tryz.func16 GO_ (zd_ _) fun args objs p v e=>?_
 unfold w5_ at e
 split at e
 ·rename_i ty0 l
  obtain rfl:=qS_ e
  replace e:=qT_ e
  cases e
  refine ⟨rfl,fun hw ho hp=>?_⟩
  change List TV at l
  have hl:l.length<=maxLen:=(hw (.imm YA l) (by simp)).2
  have hi2:∀ i,i < l.length->(l.getD i (Ty.dflt YA)).2.2.2.2.2.2.1.length<=maxLen:=fun i h=>by
   obtain ⟨_,_,_,_,_,_,h7,_⟩:=(hw (.imm YA l) (by simp)).1 _ (zn_ h (Ty.dflt YA))
   exact h7.2
  unfold maxLen at hl hi2
  clear hw ho
  repeat'(intro t ht;first|(cases t<;>first|(cases ht;done)|(try simp only[zg_]at ht))|((first|refine zb_ ht ?_|refine ht ?_ ?_|refine ht.1 ?_ ?_|refine ht ?_)<;>clear ht))
  all_goals first
   | (intro r h1 h2;clear h1;refine h2 ⟨[0,3],Nat,(fun i=>i<=l.length/\(l.take i).all YY_=true),fun i=>[.imm YA l,.int .i64 i],fun _=>[],fun i=>l.length - i,⟨0,⟨Nat.zero_le _,rfl⟩,rfl,rfl⟩,?_⟩;clear h2)
  rintro i ⟨hi,he⟩
  repeat'(intro t ht;first|(cases t<;>first|(cases ht;done)|(try simp only[zg_]at ht;try(exfalso;first|contradiction|omega)))|((first|refine zb_ ht ?_|refine ht ?_ ?_|refine ht.1 ?_ ?_|refine ht ?_)<;>clear ht))
  all_goals first
   | exact True.intro
   | ((try simp only [zF_,zG_,zk_] at*);omega)
   | (have h:=Uu_ (by omega) he
      refine ⟨?_,rfl⟩;unfold xF_;rw [h,Bool.true_and];congr 1;exact decide_eq_decide.2 (by omega))
   | (intro r h1 h2;clear h1;refine h2 ⟨[0,3,4],Nat,(fun k=>k<=(l.getD i (Ty.dflt YA)).2.2.2.2.2.2.1.length/\((l.getD i (Ty.dflt YA)).2.2.2.2.2.2.1.take k).all hj_=true),fun k=>[.imm YA l,.int .i64 i,.int .i64 k],fun _=>[],fun k=>(l.getD i (Ty.dflt YA)).2.2.2.2.2.2.1.length - k,⟨0,⟨Nat.zero_le _,rfl⟩,rfl,rfl⟩,?_⟩;clear h2)
  have hi3:i < l.length:=by omega
  have hi4:=hi2 i hi3
  rintro k ⟨hk,hke⟩
  repeat'(intro t ht;first|(cases t<;>first|(cases ht;done)|(try simp only[zg_]at ht;try(exfalso;first|contradiction|omega)))|((first|refine zb_ ht ?_|refine ht ?_ ?_|refine ht.1 ?_ ?_|refine ht ?_)<;>clear ht))
  all_goals (try generalize (Ty.dflt YA)=od at*)
  all_goals (try generalize (Ty.dflt (.cons (.int .i64) (.cons (.sl (.int .u64)) (.cons (.sl (.int .u8)) .nil))))=pd at*)
  all_goals first
   | exact True.intro
   | omega
   | ((try simp only [zF_,zG_,zk_] at*);omega)
   | (have hf:hj_ ((l.getD i od).2.2.2.2.2.2.1.getD k pd)=true:=by unfold hj_;simp only [Bool.and_eq_true,decide_eq_true_eq];omega
      exact ⟨k+1,⟨by omega,vk_ (d:=pd) (by omega) hke hf⟩,by dsimp only;omega,rfl,rfl⟩)
   | (have hf:hj_ ((l.getD i od).2.2.2.2.2.2.1.getD k pd)=false:=by unfold hj_;simp only [Bool.and_eq_false_iff,decide_eq_false_iff_not];omega
      have hg:YY_ (l.getD i od)=false:=by unfold YY_;rw [Ut_ (d:=pd) (by omega) hf,Bool.false_and]
      have h:xF_ l=false:=by unfold xF_;rw [Ut_ (d:=od) hi3 hg,Bool.false_and]
      refine ⟨?_,rfl⟩;rw [h];done)
   | (have ha:=Uu_ (by omega) hke
      have hg:YY_ (l.getD i od)=true:=by unfold YY_;rw [ha,Bool.true_and];simp only [Bool.and_eq_true,decide_eq_true_eq];omega
      exact ⟨i+1,⟨by omega,vk_ (d:=od) hi3 he hg⟩,by dsimp only;omega,rfl,rfl⟩)
   | (have hg:YY_ (l.getD i od)=false:=by unfold YY_;rw [Bool.and_eq_false_iff];right;simp only [Bool.and_eq_false_iff,decide_eq_false_iff_not];omega
      have h:xF_ l=false:=by unfold xF_;rw [Ut_ (d:=od) hi3 hg,Bool.false_and]
      refine ⟨?_,rfl⟩;rw [h];done)
 ·cases e
def j8_ (n:Int):TV:=(n,[],0,0,0,0,[],())
theorem b9_ (a b:List TV):ZE_ (a++b)=ZE_ a++ZE_ b:=by unfold ZE_;rw [List.flatMap_append]
theorem YA_:∀ (k:List Int),ZE_ (k.map j8_)=[]
 | []=>rfl
 | n :: r=>YA_ r
theorem Hm_:∀ (k:List Int),Zt_ (k.map j8_)=k
 | []=>rfl
 | n :: r=>congrArg (n :: ·) (Hm_ r)
theorem Br_ {l:List TV} (h:lkN l=[]):lkF l=[]:=by unfold lkF;rw [h];rfl
theorem zbj_ (k:List Int):lkF (k.map j8_)=[]:=by
 apply Br_;unfold lkN;rw [YA_];rfl
theorem Hh_ {l:List TV} {z:Int}:z ∈ lkF l ↔ z ∈ ZE_ l/\z < 256/\z ∉ Zt_ l:=by
 unfold lkF;rw [uq_];exact uP_ l z
theorem zbk_ (l:List TV):lkF (l++(lkF l).map j8_)=[]:=by
 apply Br_
 refine List.eq_nil_iff_forall_not_mem.2 fun z hz=>?_
 rw [uP_,b9_,YA_,List.append_nil] at hz
 obtain ⟨h1,h2,h3⟩:=hz
 unfold Zt_ at h3
 rw [List.map_append,List.mem_append,not_or] at h3
 refine h3.2 ?_
 have:=Hm_ (lkF l)
 unfold Zt_ at this
 rw [this]
 exact Hh_.2 ⟨h1,h2,h3.1⟩
theorem Hg_ {l:List TV} (h:nnL l):∀ z ∈ lkF l,0<=z/\z < 256:=fun z hz=>by
 obtain ⟨h1,h2,_⟩:=Hh_.1 hz
 obtain ⟨x,hx,f,hf,hz⟩:=Xr_ h1
 exact ⟨h.h x hx f hf z hz,h2⟩
theorem Hf_ (l:List TV):Sst (lkF l):=yR_ _
theorem zbo_ {l:List TV} (h:nnL l):(lkF l).length<=256:=Bh_ ((Hf_ l).imp fun h=>Int.ne_of_lt h) (Hg_ h)
theorem zct_ {o:List Int} (h:Sst o) {i j:Nat} (hj:j < o.length) (hi:i < j):o.getD i 0 < o.getD j 0:=by
 have:=List.pairwise_iff_getElem.1 h i j (by omega) hj hi
 rwa [<- List.getElem_eq_getD (h:=by omega) 0,<- List.getElem_eq_getD (h:=hj) 0]
theorem h4_:okF []:=⟨fun f hf=>(nomatch hf),Nat.zero_le _⟩
theorem za2_ (l:List TV) (h:l.length<=1000):okT (l.map fun x=>j8_ x.1):=⟨fun x hx=>by
 obtain ⟨n,_,rfl⟩:=List.mem_map.1 hx
 exact h4_,by rw [List.length_map];exact h⟩
theorem zcE_ (k:List Int) (h:k.length<=1000):okT (k.map j8_):=⟨fun x hx=>by
 obtain ⟨n,_,rfl⟩:=List.mem_map.1 hx
 exact h4_,by rw [List.length_map];exact h⟩
theorem zcF_ {a b:List TV} (ha:okT a) (hb:okT b) (h:a.length+b.length<=1000):okT (a++b):=⟨fun x hx=>(List.mem_append.1 hx).elim (ha.a x) (hb.a x),by rw [List.length_append];exact h⟩
theorem zbs_ (l:List TV):(l.map fun x=>x.1).map j8_=l.map fun x=>j8_ x.1:=by rw [List.map_map];rfl
def Wg_:IR:=
(sq (kr [0] [oD 2 (.mov cF)])
(sq (sq (.reg [oM 8 0,
oC 9 16 [8],
oD 10 (.un .not 9)])
(.cond 10
(sq (.reg [oC 11 7 [],
oM 2 11])
.ret)
.skip))
(sq (kr [0] [oM 12 0,
oC 13 17 [12],
oM 3 13])
(sq (.reg [oD 4 (.nilrow YA)])
(sq (sq (.reg [oD 5 (.mov (cI 0))])
(.block 0
(.loop
(sq (sq (kr [0,3,4,5] [oM 14 5,
oM 15 0,
oE 16 15,
oB 17 .lss 14 16])
(.cond 17
.skip
(.exit 0)))
(sq (.block 1
(kr [0,3,4,5] [oM 20 4,
oM 21 0,
oM 22 5,
oI 23 7 21 22,
oA 24 0 23,
oL 25 24,
oD 26 (.build [.int .u64 0,.str [],.int .u64 0,.int .u64 0,.int .u64 0,.int .u64 0,.imm (.cons (.int .i64) (.cons (.sl (.int .u64)) (.cons (.sl (.int .u8)) .nil))) []] [(0,1,25)]),
oD 27 (.sliceAll YA 1 [(0,7,26)]),
oD 28 (.append YA 80 20 27),
oM 4 28]))
(kr [0,3,4,5] [oM 18 5,
oB 19 .add 18 (cI 1),
oM 5 19]))))))
(sq (kr [0,3,4] [oD 29 (.slice0 YA),
oM 30 0,
oD 31 (.append YA 80 29 30),
oM 6 31])
(sq (sq (.reg [oD 7 (.mov (cI 0))])
(.block 2
(.loop
(sq (sq (kr [3,4,6,7] [oM 32 7,
oM 33 3,
oE 34 33,
oB 35 .lss 32 34])
(.cond 35
.skip
(.exit 2)))
(sq (.block 3
(sq (sq (kd [3,4,6,7] [(oM 38 3,[]),
(oM 39 7,[0]),
(oI 40 1 38 39,[]),
(oL 41 40,[]),
(oB 42 .lss 41 (cI 0),[]),
(oM 43 42,[]),
(oF 43 44 (.mov 3),[]),
(oF 43 45 (.mov 7),[0]),
(oF 43 46 (.indexSl 1 44 45),[]),
(oF 43 47 (.load none 46),[]),
(oF 43 48 (.bin .gtr 47 (cI 255)),[]),
(oP 49 43 cT 48,[]),
(oM 50 49,[]),
(oF 50 51 (.mov 7),[]),
(oF 50 52 (.bin .gtr 51 (cI 0)),[]),
(oF 50 53 (.mov 52),[]),
(oT 53 54 (.mov 3),[]),
(oT 53 55 (.mov 7),[0]),
(oT 53 56 (.indexSl 1 54 55),[]),
(oT 53 57 (.load none 56),[]),
(oT 53 58 (.mov 3),[0,0,0,0]),
(oT 53 59 (.mov 7),[0,0,0,0,0]),
(oT 53 60 (.bin .sub 59 (cI 1)),[1,0,0,0,0]),
(oT 53 61 (.indexSl 1 58 60),[3,0,0,0]),
(oT 53 62 (.load none 61),[4,0,0,0]),
(oT 53 63 (.bin .leq 57 62),[]),
(oF 50 64 (.pick 53 63 cF),[]),
(oP 65 50 cT 64,[])])
(.cond 65
(sq (kr [] [oD 2 (.mov cF)])
.ret)
.skip))
(kr [3,4,6,7] [oM 66 6,
oM 67 3,
oM 68 7,
oI 69 1 67 68,
oL 70 69,
oD 71 (.conv .u64 70),
oD 72 (.build [.int .u64 0,.str [],.int .u64 0,.int .u64 0,.int .u64 0,.int .u64 0,.imm (.cons (.int .i64) (.cons (.sl (.int .u64)) (.cons (.sl (.int .u8)) .nil))) []] [(0,1,71)]),
oD 73 (.sliceAll YA 1 [(0,7,72)]),
oD 74 (.append YA 80 66 73),
oM 6 74])))
(kr [3,4,6,7] [oM 36 7,
oB 37 .add 36 (cI 1),
oM 7 37]))))))
(sq (kr [4,6] [oM 75 6,
oC 76 17 [75],
oE 77 76,
oB 78 .eql 77 (cI 0),
oM 79 78,
oT 79 80 (.mov 4),
oT 79 81 (.call false (.f 17) [80]),
oT 79 82 (.len 81),
oT 79 83 (.bin .eql 82 (cI 0)),
oP 84 79 83 cF,
oM 85 84,
oT 85 86 (.call false (.f 7) []),
oP 87 85 86 cF,
oM 2 87])
.ret))))))))
def Wb_:List RD:=[.tmp 2 true none]
theorem Wd_:zo_ Tryz.prog Tryz.f4 Wg_ Wb_=true:=by kernel_rfl
def q7_:List AV->List Obj->Option (Prop × AV)
 | [.imm ty0 l],[]=>Kf_ ty0 YA l fun l=>some ((True,.bool true))
 | _,_=>none
theorem JS_:ze_ Tryz.prog 4 (RoF q7_).sum:=by
 refine zs_ Tryz.func4 Wd_ (za_ (s:=RoF w5_) X1_ (za_ (s:=RoF j2_) xd_ (za_ (s:=RoF Z0_) Qn_ (zd_ _)))) fun args objs p v e=>?_
 unfold q7_ at e
 split at e
 ·rename_i ty0 l
  obtain rfl:=qS_ e
  replace e:=qT_ e
  cases e
  refine ⟨rfl,fun hw ho hp=>?_⟩
  change List TV at l
  have hnn:=bG_ (hw (.imm YA l) (by simp))
  clear hw ho
  by_cases hc:xF_ l=false
  ·repeat'(intro t ht;first|(cases t<;>first|(cases ht;done)|(try simp only[zg_]at ht;try(exfalso;first|contradiction|omega)))|((first|refine zb_ ht ?_|refine ht ?_ ?_|refine ht.1 ?_ ?_|refine ht ?_)<;>clear ht))
   all_goals first
    | exact True.intro
    | exact ⟨rfl,rfl⟩
    | (rename_i q;rw [hc] at q;cases q;done)
    | (exfalso;rw [hc] at*;contradiction)
  have hc:xF_ l=true:=by revert hc;cases xF_ l<;>simp
  obtain ⟨⟨hok,hn⟩,_⟩:=BV_ hc
  have h256:=zbo_ hnn
  have hc1:¬ xF_ l=false:=by rw [hc];decide
  repeat'(intro t ht;first|(cases t<;>first|(cases ht;done)|(try simp only[zg_]at ht;try(exfalso;first|contradiction|omega)))|((first|refine zb_ ht ?_|refine ht ?_ ?_|refine ht.1 ?_ ?_|refine ht ?_)<;>clear ht))
  all_goals first
   | exact True.intro
   | exact hok
   | contradiction
   | (intro r h1 h2;clear h1;refine h2 ⟨[0,3,4,5],Nat,(fun i=>i<=l.length),fun i=>[.imm YA l,.imm (.int .i64) (lkF l),.own 0,.int .i64 i],fun i=>[.row false YA ((l.take i).map fun x=>j8_ x.1)],fun i=>l.length - i,⟨0,Nat.zero_le _,rfl,rfl⟩,?_⟩;clear h2)
  rintro i hi
  have hsn:=fun (h:i < l.length) (d:TV)=>(Z1_ h d (fun x:TV=>j8_ x.1))
  repeat'(intro t ht;first|(cases t<;>first|(cases ht;done)|(try simp only[zg_]at ht;try(exfalso;first|contradiction|omega)))|((first|refine zb_ ht ?_|refine ht ?_ ?_|refine ht.1 ?_ ?_|refine ht ?_)<;>clear ht))
  all_goals (try generalize hod:(Ty.dflt YA)=od at*)
  all_goals first
   | exact True.intro
   | omega
   | exact (show IntKind.i64.min<=((i:Int)+1)/\((i:Int)+1)<=IntKind.i64.max from by simp only [zk_];omega)
   | (simp only [List.length_map,List.length_take,List.length_append,List.length_nil,List.length_cons];omega)
   | (refine ⟨i+1,by omega,by dsimp only;omega,rfl,?_⟩
      dsimp only;rw [hsn (by omega) od];rfl)
   | (intro r h1 h2;clear h1;refine h2 ⟨[3,4,6,7],Nat,(fun i=>i<=(lkF l).length),fun i=>[.imm (.int .i64) (lkF l),.own 0,.own 1,.int .i64 i],fun i=>[.row false YA (l.map fun x=>j8_ x.1),.row false YA (l++((lkF l).take i).map j8_)],fun i=>(lkF l).length - i,⟨0,Nat.zero_le _,rfl,(by show [Obj.row false YA (List.map (fun x=>j8_ x.1) (List.take i l)),Obj.row false YA ([]++l)]=_;rw [List.take_of_length_le (by omega)];simp)⟩,?_⟩;clear h2)
  rintro j hj
  have hst:=Hf_ l
  have hrg:=Hg_ hnn
  have hlt:=fun (h:j < (lkF l).length)=>hrg _ (zn_ h 0)
  have hris:=fun (h:j < (lkF l).length) (h0:0 < j)=>zct_ hst h (show j - 1 < j by omega)
  have hno:=zbk_ l
  have hno2:=zbj_ (l.map fun x=>x.1)
  rw [zbs_] at hno2
  have hend:(lkF l).length<=j->(lkF l).take j=lkF l:=fun h=>List.take_of_length_le h
  have hokm:okT (l++((lkF l).take j).map j8_):=zcF_ hok (zcE_ _ (by rw [List.length_take];omega)) (by rw [List.length_map,List.length_take];omega)
  have hokn:okT (l.map fun x=>j8_ x.1):=za2_ l (by omega)
  have hj2:=fun (h:j < (lkF l).length)=>(Z1_ h 0 j8_)
  have hj3:((j:Int) - 1).toNat=j - 1:=by omega
  clear hst hrg hnn hok
  repeat'(intro t ht;first|(cases t<;>first|(cases ht;done)|(try simp only[zg_]at ht;try(exfalso;first|contradiction|omega)))|((first|refine zb_ ht ?_|refine ht ?_ ?_|refine ht.1 ?_ ?_|refine ht ?_)<;>clear ht))
  all_goals (try rw [hend (by omega)] at*)
  all_goals first
   | exact True.intro
   | omega
   | exact hokm
   | exact hokn
   | exact absurd (show ((lkF (l++(lkF l).map j8_)).length:Int)=0 by rw [hno];rfl) (by assumption)
   | exact absurd (show ((lkF (l.map fun x=>j8_ x.1)).length:Int)=0 by rw [hno2];rfl) (by assumption)
   | (refine ⟨?_,rfl⟩;congr 1;done)
   | exact ⟨rfl,rfl⟩
   | exact (show IntKind.i64.min<=((j:Int)+1)/\((j:Int)+1)<=IntKind.i64.max from by simp only [zk_];omega)
   | exact (show IntKind.i64.min<=((j:Int) - 1)/\((j:Int) - 1)<=IntKind.i64.max from by simp only [zk_];omega)
   | (have h:=hlt (by omega)
      exact (show IntKind.u64.min<=(lkF l).getD j 0/\(lkF l).getD j 0<=IntKind.u64.max from by simp only [zk_];omega))
   | (simp only [List.length_map,List.length_take,List.length_append,List.length_nil,List.length_cons];omega)
   | (have h:=hlt (by omega)
      have h2:=hris (by omega) (by omega)
      exfalso;first | omega | (rw [hj3] at*;omega))
   | (have h:=hlt (by omega)
      exfalso;omega)
   | (refine ⟨j+1,by dsimp only;omega,by dsimp only;omega,rfl,?_⟩
      dsimp only;rw [hj2 (by omega),<- List.append_assoc];rfl)
 ·cases e
end Go.Eng

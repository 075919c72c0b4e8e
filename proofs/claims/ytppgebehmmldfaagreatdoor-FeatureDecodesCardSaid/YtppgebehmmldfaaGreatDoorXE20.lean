/- Parts of the proof: TJ, TK, TL, TM. No condition. -/
import Derived.Test.YtppgebehmmldfaaGreatDoorProg
import Derived.Test.YtppgebehmmldfaaGreatDoorXE10
import Derived.KernelRfl
import Derived.Test.YtppgebehmmldfaaGreatDoorXE18
import Derived.Test.YtppgebehmmldfaaGreatDoorXE19
namespace Go.Eng
open Go.Proofs
set_option linter.unusedVariables false
set_option linter.unusedSimpArgs false
set_option maxRecDepth 100000
set_option maxHeartbeats 1000000
def W9_ (fs:List FV):List Int:=fs.flatMap fun f=>if szT f.1=1 then f.2.1 else []
def kf_ (l:List TV):List Int:=l.flatMap fun x=>W9_ x.2.2.2.2.2.2.1
def q2_ (l:List TV):List Int:=l.map fun x=>x.1
def lkN (l:List TV):List Int:=(kf_ l).filter fun n=>decide (n < 256) && !(q2_ l).contains n
def lkF (l:List TV):List Int:=poF (lkN l)
def lkS (ids out:List Int) (n:Int):List Int:=if n < 256/\¬ n ∈ ids++out then out++[n] else out
def lkO (ids ns:List Int):List Int:=ns.foldl (lkS ids) []
theorem UO_ (ids ns:List Int) (n:Int):lkO ids (ns++[n])=lkS ids (lkO ids ns) n:=by unfold lkO;rw [List.foldl_append];rfl
theorem YD_ (ids:List Int):∀ (ns out:List Int),(out.Nodup/\∀ z ∈ out,z < 256/\z ∉ ids)->((ns.foldl (lkS ids) out).Nodup/\∀ z,z ∈ ns.foldl (lkS ids) out ↔ z ∈ out\/(z ∈ ns/\z < 256/\z ∉ ids))
 | [],out,h=>⟨h.1,fun z=>⟨.inl,fun k=>k.elim id fun k=>by cases k.1⟩⟩
 | n :: r,out,h=>by
   rw [List.foldl_cons]
   by_cases c:n < 256/\¬ n ∈ ids++out
   ·have e:lkS ids out n=out++[n]:=if_pos c
    have hn:=c.2
    rw [List.mem_append,not_or] at hn
    rw [e]
    obtain ⟨h1,h2⟩:=YD_ ids r (out++[n]) ⟨List.nodup_append.2 ⟨h.1,List.pairwise_singleton ..,fun a ha b hb e=>by rw [List.mem_singleton] at hb;rw [e,hb] at ha;exact hn.2 ha⟩,fun z hz=>by
     rcases List.mem_append.1 hz with hz | hz
     ·exact h.2 z hz
     ·rw [List.mem_singleton] at hz;rw [hz];exact ⟨c.1,hn.1⟩⟩
    refine ⟨h1,fun z=>(h2 z).trans ?_⟩
    rw [List.mem_append,List.mem_singleton,List.mem_cons]
    constructor
    ·rintro ((k | k) | k)
     ·exact .inl k
     ·exact .inr ⟨.inl k,by rw [k];exact c.1,by rw [k];exact hn.1⟩
     ·exact .inr ⟨.inr k.1,k.2⟩
    ·rintro (k | ⟨k | k,k2⟩)
     ·exact .inl (.inl k)
     ·exact .inl (.inr k)
     ·exact .inr ⟨k,k2⟩
   ·have e:lkS ids out n=out:=if_neg c
    rw [e]
    obtain ⟨h1,h2⟩:=YD_ ids r out h
    refine ⟨h1,fun z=>(h2 z).trans ?_⟩
    rw [List.mem_cons]
    constructor
    ·rintro (k | k)
     ·exact .inl k
     ·exact .inr ⟨.inr k.1,k.2⟩
    ·rintro (k | ⟨k | k,k2⟩)
     ·exact .inl k
     ·have:z ∈ ids++out:=Classical.byContradiction fun m=>c (by rw [<- k];exact ⟨k2.1,m⟩)
      rcases List.mem_append.1 this with m | m
      ·exact absurd m k2.2
      ·exact .inl m
     ·exact .inr ⟨k,k2⟩
theorem Gk_ (ids ns:List Int):(lkO ids ns).Nodup/\∀ z,z ∈ lkO ids ns ↔ z ∈ ns/\z < 256/\z ∉ ids:=by
 obtain ⟨h1,h2⟩:=YD_ ids ns [] ⟨List.Pairwise.nil,fun z hz=>by cases hz⟩
 refine ⟨h1,fun z=>(h2 z).trans ⟨fun k=>k.elim (fun k=>by cases k) id,.inr⟩⟩
theorem zbF_ (l:List TV) (z:Int):z ∈ lkN l ↔ z ∈ kf_ l/\z < 256/\z ∉ q2_ l:=by
 unfold lkN
 rw [List.mem_filter,Bool.and_eq_true,decide_eq_true_eq,Bool.not_eq_true',<- Bool.not_eq_true,List.contains_iff_mem]
theorem zbE_ (l:List TV):srt (lkO (q2_ l) (kf_ l)) 0 (lkO (q2_ l) (kf_ l)).length=lkF l:=
 zbp_ (Gk_ _ _).1 fun z=>((Gk_ _ _).2 z).trans (zbF_ l z).symm
theorem Ha_ {l:List TV} {i:Nat} (h:i < l.length) (d:TV):kf_ (l.take (i+1))=kf_ (l.take i)++W9_ (l.getD i d).2.2.2.2.2.2.1:=by
 unfold kf_;rw [<- kV_ (d:=d) h,List.flatMap_append];simp
theorem Hc_ {fs:List FV} {i:Nat} (h:i < fs.length) (d:FV):W9_ (fs.take (i+1))=W9_ (fs.take i)++(if szT (fs.getD i d).1=1 then (fs.getD i d).2.1 else []):=by
 unfold W9_;rw [<- kV_ (d:=d) h,List.flatMap_append];simp
def ye_ (l:List TV) (i j:Nat) (d:TV):List Int:=kf_ (l.take i)++W9_ ((l.getD i d).2.2.2.2.2.2.1.take j)
theorem zaq_ {m:List (Int × Int)} {ids ns:List Int} {n:Int} (h:cntM m (ids++lkO ids ns)) (h0:(zs_ m n).getD 0=0) (hn:n < 256):lkO ids (ns++[n])=lkO ids ns++[n]/\cntM (qZ_ m n ((zs_ m n).getD 0+1)) (ids++lkO ids (ns++[n])):=by
 have hm:¬ n ∈ ids++lkO ids ns:=fun c=>by have:=(h.s n).2 c;omega
 have e:lkO ids (ns++[n])=lkO ids ns++[n]:=by rw [UO_];exact if_pos ⟨hn,hm⟩
 refine ⟨e,?_⟩
 rw [e,<- List.append_assoc];exact yG_ h
theorem zar_ {m:List (Int × Int)} {ids ns:List Int} {n:Int} (h:cntM m (ids++lkO ids ns)) (h0:¬ (n < 256/\(zs_ m n).getD 0=0)):lkO ids (ns++[n])=lkO ids ns:=by
 rw [UO_]
 refine if_neg fun c=>h0 ⟨c.1,?_⟩
 have h1:=h.r n
 have:¬ 0 < (zs_ m n).getD 0:=fun k=>c.2 ((h.s n).1 k)
 omega
theorem vZ_ {fs:List FV} {z:Int} (h:z ∈ W9_ fs):∃ f ∈ fs,z ∈ f.2.1:=by
 unfold W9_ at h
 obtain ⟨f,hf,hz⟩:=List.mem_flatMap.1 h
 refine ⟨f,hf,?_⟩
 split at hz
 ·exact hz
 ·cases hz
theorem Hb_ {l:List TV} {z:Int} (h:z ∈ kf_ l):∃ x ∈ l,∃ f ∈ x.2.2.2.2.2.2.1,z ∈ f.2.1:=by
 unfold kf_ at h
 obtain ⟨x,hx,hz⟩:=List.mem_flatMap.1 h
 exact ⟨x,hx,vZ_ hz⟩
theorem zbz_ {o:List Int} (h:o.Nodup) (hr:∀ z ∈ o,0<=z/\z < 256):o.length<=256:=by
 have:=Gf_ 256 (o.map Int.toNat) (by
  refine List.pairwise_map.2 (List.Pairwise.imp_of_mem ?_ h)
  intro a b ha hb hne e
  have h1:=hr a ha
  have h2:=hr b hb
  exact hne (by omega)) (fun d hd=>by
  obtain ⟨z,hz,rfl⟩:=List.mem_map.1 hd
  have:=hr z hz;omega)
 rwa [List.length_map] at this
theorem uk_ {ids ns:List Int} (h:∀ z ∈ ns,0<=z):(lkO ids ns).length<=256:=by
 obtain ⟨h1,h2⟩:=Gk_ ids ns
 exact zbz_ h1 fun z hz=>by
  have:=(h2 z).1 hz
  exact ⟨h z this.1,this.2.1⟩
structure nnL (l:List TV):Prop where
 h:∀ x ∈ l,∀ f ∈ x.2.2.2.2.2.2.1,∀ z ∈ f.2.1,0<=z
theorem nn_L {l:List TV} (h:nnL l) (i:Nat):∀ z ∈ kf_ (l.take i),0<=z:=fun z hz=>by
 obtain ⟨x,hx,f,hf,hz⟩:=Hb_ hz
 exact h.h x (List.mem_of_mem_take hx) f hf z hz
theorem nn_3 {l:List TV} (h:nnL l) {i:Nat} (hi:i < l.length) (j:Nat) (d:TV):∀ z ∈ ye_ l i j d,0<=z:=fun z hz=>by
 rcases List.mem_append.1 hz with hz | hz
 ·exact nn_L h i z hz
 ·obtain ⟨f,hf,hz⟩:=vZ_ hz
  exact h.h _ (zv_ hi d) f (List.mem_of_mem_take hf) z hz
theorem zca_ {l:List TV} (h:Ty.wf (.sl YA) l):nnL l:=⟨fun x hx f hf z hz=>by
 obtain ⟨_,_,_,_,_,_,h7,_⟩:=h.1 x hx
 obtain ⟨_,h2,_⟩:=h7.1 f hf
 have:=h2.1 z hz
 unfold Ty.wf inK at this;rw [uj_] at this;exact this.1⟩
theorem bU_ {l:List TV} {i:Nat} (h:i < l.length) (d:TV):q2_ (l.take (i+1))=q2_ (l.take i)++[(l.getD i d).1]:=KE_ h d _
def yd_ (l:List TV) (i j k:Nat) (d:TV) (g:FV):List Int:=ye_ l i j d++(if szT g.1=1 then g.2.1.take k else [])
theorem nn_4 {l:List TV} (h:nnL l) {i j:Nat} (hi:i < l.length) (d:TV) (e:FV) (hj:j < (l.getD i d).2.2.2.2.2.2.1.length) (k:Nat):∀ z ∈ yd_ l i j k d ((l.getD i d).2.2.2.2.2.2.1.getD j e),0<=z:=fun z hz=>by
 rcases List.mem_append.1 hz with hz | hz
 ·exact nn_3 h hi j d z hz
 ·split at hz
  ·exact h.h _ (zv_ hi d) _ (zv_ hj e) z (List.mem_of_mem_take hz)
  ·cases hz
theorem bf_ (l:List TV) (i j:Nat) (d:TV) (g:FV):yd_ l i j 0 d g=ye_ l i j d:=by
 unfold yd_;split<;>simp
theorem h3_ {l:List TV} {i j k:Nat} {d:TV} {g:FV} (h:k < g.2.1.length):yd_ l i j (k+1) d g=yd_ l i j k d g++(if szT g.1=1 then [g.2.1.getD k 0] else []):=by
 unfold yd_
 by_cases c:szT g.1=1
 ·rw [if_pos c,if_pos c,if_pos c,<- kV_ (d:=0) h,List.append_assoc]
 ·rw [if_neg c,if_neg c,if_neg c];simp
theorem be_ {l:List TV} {i j k:Nat} {d:TV} {e:FV} (hj:j < (l.getD i d).2.2.2.2.2.2.1.length) (hk:((l.getD i d).2.2.2.2.2.2.1.getD j e).2.1.length<=k):yd_ l i j k d ((l.getD i d).2.2.2.2.2.2.1.getD j e)=ye_ l i (j+1) d:=by
 unfold yd_ ye_
 rw [List.take_of_length_le hk,Hc_ hj e,List.append_assoc]
theorem bh_ (l:List TV) (i:Nat) (d:TV):ye_ l i 0 d=kf_ (l.take i):=by unfold ye_ W9_;simp
theorem bg_ {l:List TV} {i j:Nat} {d:TV} (hi:i < l.length) (hj:(l.getD i d).2.2.2.2.2.2.1.length<=j):ye_ l i j d=kf_ (l.take (i+1)):=by
 unfold ye_;rw [List.take_of_length_le hj,Ha_ hi d]
def Xc_:IR:=
(sq (kr [0] [oD 2 (.nilrow (.int .i64))])
(sq (.reg [oD 12 (.mkmap (.int .u64) (.int .i64)),
oM 3 12])
(sq (sq (.reg [oM 13 0,
oE 14 13,
oD 15 (.mov (cI 0))])
(.block 0
(.loop
(sq (kr [0,2,3,13,14,15] [oB 16 .lss 15 14])
(sq (.cond 16
.skip
(.exit 0))
(sq (.block 1
(sq (.reg [oI 17 7 13 15,
oK 18 7 17,
oD 5 (.box [.int .u64 0,.str [],.int .u64 0,.int .u64 0,.int .u64 0,.int .u64 0,.imm (.cons (.int .i64) (.cons (.sl (.int .u64)) (.cons (.sl (.int .u8)) .nil))) []]),
oS 7 5 18])
(kr [0,2,3,5,13,14,15] [oM 19 3,
oA 20 0 5,
oL 21 20,
oD 22 (.mget (.int .u64) (.int .i64) (0:Int) false 19 21),
oB 23 .add 22 (cI 1),
oN (.mput (.int .u64) (.int .i64) 19 21 23)])))
(kr [0,2,3,13,14,15] [oB 24 .add 15 (cI 1),
oM 15 24])))))))
(sq (sq (kr [0,2,3] [oM 25 0,
oE 26 25,
oD 27 (.mov (cI 0))])
(.block 2
(.loop
(sq (kr [2,3,25,26,27] [oB 28 .lss 27 26])
(sq (.cond 28
.skip
(.exit 2))
(sq (.block 3
(sq (.reg [oI 29 7 25 27,
oK 30 7 29,
oD 7 (.box [.int .u64 0,.str [],.int .u64 0,.int .u64 0,.int .u64 0,.int .u64 0,.imm (.cons (.int .i64) (.cons (.sl (.int .u64)) (.cons (.sl (.int .u8)) .nil))) []]),
oS 7 7 30])
(sq (.reg [oA 31 6 7,
oL 32 31,
oE 33 32,
oD 34 (.mov (cI 0))])
(.block 4
(.loop
(sq (kr [2,3,25,26,27,32,33,34] [oB 35 .lss 34 33])
(sq (.cond 35
.skip
(.exit 4))
(sq (.block 5
(sq (.reg [oI 36 3 32 34,
oK 37 3 36,
oD 9 (.box [.int .i64 0,.imm (.int .u64) [],.imm (.int .u8) []]),
oS 3 9 37])
(sq (.reg [oA 38 1 9,
oL 39 38,
oE 40 39,
oD 41 (.mov (cI 0))])
(.block 6
(.loop
(sq (kr [2,3,9,25,26,27,32,33,34,39,40,41] [oB 42 .lss 41 40])
(sq (.cond 42
.skip
(.exit 6))
(sq (.block 7
(sq (.reg [oI 43 1 39 41,
oL 44 43,
oM 11 44])
(sq (kr [2,3,9,11,25,26,27,32,33,34,39,40,41] [oA 45 0 9,
oL 46 45,
oC 47 42 [46],
oD 48 (.field none 0 47),
oB 49 .eql 48 (cI 1),
oM 50 49,
oT 50 51 (.mov 11),
oT 50 52 (.bin .lss 51 (.c (.int .u64 256))),
oP 53 50 52 cF,
oM 54 53,
oT 54 55 (.mov 3),
oT 54 56 (.mov 11),
oT 54 57 (.mget (.int .u64) (.int .i64) (0:Int) false 55 56),
oT 54 58 (.bin .eql 57 (cI 0)),
oP 59 54 58 cF])
(.cond 59
(sq (kr [2,3,9,11,25,26,27,32,33,34,39,40,41] [oM 60 3,
oM 61 11,
oD 62 (.mget (.int .u64) (.int .i64) (0:Int) false 60 61),
oB 63 .add 62 (cI 1),
oN (.mput (.int .u64) (.int .i64) 60 61 63)])
(kr [2,3,9,11,25,26,27,32,33,34,39,40,41] [oM 64 2,
oM 65 11,
oD 66 (.conv .i64 65),
oD 67 (.sliceAll (.int .i64) 1 [(0,1,66)]),
oD 68 (.append (.int .i64) 8 64 67),
oM 2 68]))
.skip))))
(kr [2,3,9,25,26,27,32,33,34,39,40,41] [oB 69 .add 41 (cI 1),
oM 41 69])))))))))
(kr [2,3,25,26,27,32,33,34] [oB 70 .add 34 (cI 1),
oM 34 70])))))))))
(kr [2,3,25,26,27] [oB 71 .add 27 (cI 1),
oM 27 71])))))))
(sq (kr [2] [oM 72 2,
oD 73 (.call true (.f 43) [72])])
(sq (.reg [oM 74 2,
oM 2 74])
.ret))))))
def xV_:List RD:=[.tmp 2 true (some (.int .i64))]
theorem x4_:zo_ Tryz.prog Tryz.f17 Xc_ xV_=true:=by kernel_rfl
def ky_:List AV->List Obj->Option (Prop × AV)
 | [.imm ty0 l],[]=>xs_ ty0 YA l fun l=>some ((okT l,.imm (.int .i64) (lkF l)))
 | _,_=>none
theorem WV_:zf_ Tryz.prog 17 (RoF ky_).sum:=by
 refine zw_ Tryz.func17 x4_ (zb_ (s:=RoF ZN_) qc_ (zb_ (s:=RwF Z0_) KN_ (zg_ _))) fun args objs p v e=>?_
 unfold ky_ at e
 split at e
 ·rename_i ty0 l
  obtain rfl:=xq_ e
  replace e:=xr_ e
  cases e
  refine ⟨rfl,fun hw ho hp=>?_⟩
  change List TV at l
  have hnn:=zca_ (hw (.imm YA l) (by simp))
  clear hw ho
  obtain ⟨hok,hn⟩:=hp
  repeat'(intro t ht;first|(cases t<;>first|(cases ht;done)|(try simp only[zh_]at ht;try(exfalso;first|contradiction|omega)))|((first|refine za_ ht ?_|refine ht ?_ ?_|refine ht.1 ?_ ?_|refine ht ?_)<;>clear ht))
  all_goals first
   | exact True.intro
   | (intro r h1 h2;clear h1;refine h2 ⟨[0,2,3,13,14,15],Nat × List (Int × Int),(fun a=>a.1<=l.length/\cntM a.2 (q2_ (l.take a.1))),fun a=>[.imm YA l,.own 0,.mapv 1,.imm YA l,.int .i64 l.length,.int .i64 a.1],fun a=>[.row false (.int .i64) [],.map true (.int .u64) (.int .i64) a.2],fun a=>l.length - a.1,⟨(0,[]),⟨Nat.zero_le _,xp_⟩,rfl,rfl⟩,?_⟩;clear h2)
  rintro ⟨i,m⟩ ⟨hi,hm⟩
  dsimp only at hi hm
  have hsn:=fun (d:TV) (h:i < l.length)=>bU_ h d
  have hr:=hm.r
  have hil:(q2_ (l.take i)).length<=i:=by unfold q2_;rw [List.length_map,List.length_take];omega
  have hfull:l.length<=i->q2_ (l.take i)=q2_ l:=fun h=>by rw [List.take_of_length_le h]
  repeat'(intro t ht;first|(cases t<;>first|(cases ht;done)|(try simp only[zh_]at ht;try(exfalso;first|contradiction|omega)))|((first|refine za_ ht ?_|refine ht ?_ ?_|refine ht.1 ?_ ?_|refine ht ?_)<;>clear ht))
  all_goals (try generalize hod:(Ty.dflt YA)=od at*)
  all_goals first
   | exact True.intro
   | omega
   | ((try simp only [zH_,zJ_,zl_] at*);omega)
   | (have hc:=hr (l.getD i od).1
      exact (show IntKind.i64.min<=(zs_ m (l.getD i od).1).getD 0+1/\(zs_ m (l.getD i od).1).getD 0+1<=IntKind.i64.max from by simp only [zl_];omega))
   | (refine ⟨(i+1,qZ_ m (l.getD i od).1 ((zs_ m (l.getD i od).1).getD 0+1)),⟨by dsimp only;omega,?_⟩,by dsimp only;omega,rfl,rfl⟩
      dsimp only;rw [hsn od (by omega)];exact yG_ hm)
   | (intro r h1 h2;clear h1;refine h2 ⟨[2,3,25,26,27],Nat × List (Int × Int),(fun a=>a.1<=l.length/\cntM a.2 (q2_ l++lkO (q2_ l) (kf_ (l.take a.1)))),fun a=>[.own 0,.mapv 1,.imm YA l,.int .i64 l.length,.int .i64 a.1],fun a=>[.row false (.int .i64) (lkO (q2_ l) (kf_ (l.take a.1))),.map true (.int .u64) (.int .i64) a.2],fun a=>l.length - a.1,⟨(0,m),⟨Nat.zero_le _,by have h:=hfull (by omega);rw [h] at hm;exact (List.append_nil (q2_ l)).symm ▸ hm⟩,rfl,rfl⟩,?_⟩;clear h2)
  rintro ⟨i,m⟩ ⟨hi,hm⟩
  dsimp only at hi hm
  have h256:=uk_ (ids:=q2_ l) (nn_L hnn i)
  have hend:l.length<=i->lkO (q2_ l) (kf_ (l.take i))=lkO (q2_ l) (kf_ l):=fun h=>by rw [List.take_of_length_le h]
  have hsr:=zbE_ l
  repeat'(intro t ht;first|(cases t<;>first|(cases ht;done)|(try simp only[zh_]at ht;try(exfalso;first|contradiction|omega)))|((first|refine za_ ht ?_|refine ht ?_ ?_|refine ht.1 ?_ ?_|refine ht ?_)<;>clear ht))
  all_goals first
   | exact True.intro
   | omega
   | ((try simp only [zH_,zJ_,zl_] at*);omega)
   | (have e:=hend (by omega)
      refine ⟨?_,rfl⟩
      dsimp only
      rw [e,hsr])
   | (intro r h1 h2;clear h1;refine h2 ⟨[2,3,25,26,27,32,33,34],Nat × List (Int × Int),(fun a=>a.1<=(l.getD i (Ty.dflt YA)).2.2.2.2.2.2.1.length/\cntM a.2 (q2_ l++lkO (q2_ l) (ye_ l i a.1 (Ty.dflt YA)))),fun a=>[.own 0,.mapv 1,.imm YA l,.int .i64 l.length,.int .i64 i,.imm (.cons (.int .i64) (.cons (.sl (.int .u64)) (.cons (.sl (.int .u8)) .nil))) (l.getD i (Ty.dflt YA)).2.2.2.2.2.2.1,.int .i64 ((l.getD i (Ty.dflt YA)).2.2.2.2.2.2.1.length:Int),.int .i64 a.1],fun a=>[.row false (.int .i64) (lkO (q2_ l) (ye_ l i a.1 (Ty.dflt YA))),.map true (.int .u64) (.int .i64) a.2],fun a=>(l.getD i (Ty.dflt YA)).2.2.2.2.2.2.1.length - a.1,⟨(0,m),⟨Nat.zero_le _,by rw [bh_];exact hm⟩,rfl,(by show _=[Obj.row false (.int .i64) (lkO (q2_ l) (ye_ l i 0 (Ty.dflt YA))),.map true (.int .u64) (.int .i64) m];rw [bh_])⟩,?_⟩;clear h2)
  have hlt:i < l.length:=by omega
  have hFok:=hok _ (zv_ hlt (Ty.dflt YA))
  clear hm h256 hend hsr
  rintro ⟨j,m⟩ ⟨hj,hm⟩
  dsimp only at hj hm
  have h256:=uk_ (ids:=q2_ l) (nn_3 hnn hlt j (Ty.dflt YA))
  have hend:=fun h=>bg_ (l:=l) (i:=i) (j:=j) (d:=(Ty.dflt YA)) hlt h
  have hFn:=hFok.n
  repeat'(intro t ht;first|(cases t<;>first|(cases ht;done)|(try simp only[zh_]at ht;try(exfalso;first|contradiction|omega)))|((first|refine za_ ht ?_|refine ht ?_ ?_|refine ht.1 ?_ ?_|refine ht ?_)<;>clear ht))
  all_goals first
   | exact True.intro
   | omega
   | ((try simp only [zH_,zJ_,zl_] at*);omega)
   | (refine ⟨(i+1,m),⟨by dsimp only;omega,?_⟩,by dsimp only;omega,rfl,?_⟩
      ·dsimp only;rw [<- hend (by omega)];exact hm
      ·dsimp only;rw [<- hend (by omega)])
   | (intro r h1 h2;clear h1;refine h2 ⟨[2,3,9,25,26,27,32,33,34,39,40,41],Nat × List (Int × Int),(fun a=>a.1<=((l.getD i (Ty.dflt YA)).2.2.2.2.2.2.1.getD j (Ty.dflt (.cons (.int .i64) (.cons (.sl (.int .u64)) (.cons (.sl (.int .u8)) .nil))))).2.1.length/\cntM a.2 (q2_ l++lkO (q2_ l) (yd_ l i j a.1 (Ty.dflt YA) ((l.getD i (Ty.dflt YA)).2.2.2.2.2.2.1.getD j (Ty.dflt (.cons (.int .i64) (.cons (.sl (.int .u64)) (.cons (.sl (.int .u8)) .nil)))))))),fun a=>[.own 0,.mapv 1,.ptr 2 0,.imm YA l,.int .i64 l.length,.int .i64 i,.imm (.cons (.int .i64) (.cons (.sl (.int .u64)) (.cons (.sl (.int .u8)) .nil))) (l.getD i (Ty.dflt YA)).2.2.2.2.2.2.1,.int .i64 ((l.getD i (Ty.dflt YA)).2.2.2.2.2.2.1.length:Int),.int .i64 j,.imm (.int .u64) ((l.getD i (Ty.dflt YA)).2.2.2.2.2.2.1.getD j (Ty.dflt (.cons (.int .i64) (.cons (.sl (.int .u64)) (.cons (.sl (.int .u8)) .nil))))).2.1,.int .i64 (((l.getD i (Ty.dflt YA)).2.2.2.2.2.2.1.getD j (Ty.dflt (.cons (.int .i64) (.cons (.sl (.int .u64)) (.cons (.sl (.int .u8)) .nil))))).2.1.length:Int),.int .i64 a.1],fun a=>[.row false (.int .i64) (lkO (q2_ l) (yd_ l i j a.1 (Ty.dflt YA) ((l.getD i (Ty.dflt YA)).2.2.2.2.2.2.1.getD j (Ty.dflt (.cons (.int .i64) (.cons (.sl (.int .u64)) (.cons (.sl (.int .u8)) .nil))))))),.map true (.int .u64) (.int .i64) a.2,.box [.int .i64 ((l.getD i (Ty.dflt YA)).2.2.2.2.2.2.1.getD j (Ty.dflt (.cons (.int .i64) (.cons (.sl (.int .u64)) (.cons (.sl (.int .u8)) .nil))))).1,.imm (.int .u64) ((l.getD i (Ty.dflt YA)).2.2.2.2.2.2.1.getD j (Ty.dflt (.cons (.int .i64) (.cons (.sl (.int .u64)) (.cons (.sl (.int .u8)) .nil))))).2.1,.imm (.int .u8) ((l.getD i (Ty.dflt YA)).2.2.2.2.2.2.1.getD j (Ty.dflt (.cons (.int .i64) (.cons (.sl (.int .u64)) (.cons (.sl (.int .u8)) .nil))))).2.2.1]],fun a=>((l.getD i (Ty.dflt YA)).2.2.2.2.2.2.1.getD j (Ty.dflt (.cons (.int .i64) (.cons (.sl (.int .u64)) (.cons (.sl (.int .u8)) .nil))))).2.1.length - a.1,⟨(0,m),⟨Nat.zero_le _,by rw [bf_];exact hm⟩,rfl,(by show _=[Obj.row false (.int .i64) (lkO (q2_ l) (yd_ l i j 0 (Ty.dflt YA) ((l.getD i (Ty.dflt YA)).2.2.2.2.2.2.1.getD j (Ty.dflt (.cons (.int .i64) (.cons (.sl (.int .u64)) (.cons (.sl (.int .u8)) .nil))))))),.map true (.int .u64) (.int .i64) m,.box [.int .i64 ((l.getD i (Ty.dflt YA)).2.2.2.2.2.2.1.getD j (Ty.dflt (.cons (.int .i64) (.cons (.sl (.int .u64)) (.cons (.sl (.int .u8)) .nil))))).1,.imm (.int .u64) ((l.getD i (Ty.dflt YA)).2.2.2.2.2.2.1.getD j (Ty.dflt (.cons (.int .i64) (.cons (.sl (.int .u64)) (.cons (.sl (.int .u8)) .nil))))).2.1,.imm (.int .u8) ((l.getD i (Ty.dflt YA)).2.2.2.2.2.2.1.getD j (Ty.dflt (.cons (.int .i64) (.cons (.sl (.int .u64)) (.cons (.sl (.int .u8)) .nil))))).2.2.1]];rw [bf_];rfl)⟩,?_⟩;clear h2)
  have hjt:j < (l.getD i (Ty.dflt YA)).2.2.2.2.2.2.1.length:=by omega
  have hGok:=hFok.a _ (zv_ hjt (Ty.dflt (.cons (.int .i64) (.cons (.sl (.int .u64)) (.cons (.sl (.int .u8)) .nil)))))
  clear hm h256 hend
  rintro ⟨k,m⟩ ⟨hk,hm⟩
  dsimp only at hk hm
  have h256:=uk_ (ids:=q2_ l) (nn_4 hnn hlt (Ty.dflt YA) (Ty.dflt (.cons (.int .i64) (.cons (.sl (.int .u64)) (.cons (.sl (.int .u8)) .nil)))) hjt k)
  have hend:=fun h=>be_ (l:=l) (i:=i) (j:=j) (k:=k) (d:=(Ty.dflt YA)) (e:=(Ty.dflt (.cons (.int .i64) (.cons (.sl (.int .u64)) (.cons (.sl (.int .u8)) .nil))))) hjt h
  have hsn:=fun h=>h3_ (l:=l) (i:=i) (j:=j) (k:=k) (d:=(Ty.dflt YA)) (g:=((l.getD i (Ty.dflt YA)).2.2.2.2.2.2.1.getD j (Ty.dflt (.cons (.int .i64) (.cons (.sl (.int .u64)) (.cons (.sl (.int .u8)) .nil)))))) h
  have hst:=fun h h1=>zaq_ (n:=((l.getD i (Ty.dflt YA)).2.2.2.2.2.2.1.getD j (Ty.dflt (.cons (.int .i64) (.cons (.sl (.int .u64)) (.cons (.sl (.int .u8)) .nil))))).2.1.getD k 0) hm h h1
  have hsk:=fun h=>zar_ (n:=((l.getD i (Ty.dflt YA)).2.2.2.2.2.2.1.getD j (Ty.dflt (.cons (.int .i64) (.cons (.sl (.int .u64)) (.cons (.sl (.int .u8)) .nil))))).2.1.getD k 0) hm h
  have hr:=hm.r (((l.getD i (Ty.dflt YA)).2.2.2.2.2.2.1.getD j (Ty.dflt (.cons (.int .i64) (.cons (.sl (.int .u64)) (.cons (.sl (.int .u8)) .nil))))).2.1.getD k 0)
  have hn0:=fun h:k < ((l.getD i (Ty.dflt YA)).2.2.2.2.2.2.1.getD j (Ty.dflt (.cons (.int .i64) (.cons (.sl (.int .u64)) (.cons (.sl (.int .u8)) .nil))))).2.1.length=>hnn.h _ (zv_ hlt (Ty.dflt YA)) _ (zv_ hjt (Ty.dflt (.cons (.int .i64) (.cons (.sl (.int .u64)) (.cons (.sl (.int .u8)) .nil))))) _ (zv_ h 0)
  have hln:(q2_ l++lkO (q2_ l) (yd_ l i j k (Ty.dflt YA) ((l.getD i (Ty.dflt YA)).2.2.2.2.2.2.1.getD j (Ty.dflt (.cons (.int .i64) (.cons (.sl (.int .u64)) (.cons (.sl (.int .u8)) .nil))))))).length<=100000:=by
   have:(q2_ l).length=l.length:=List.length_map ..
   rw [List.length_append];omega
  repeat'(intro t ht;first|(cases t<;>first|(cases ht;done)|(try simp only[zh_]at ht;try(exfalso;first|contradiction|omega)))|((first|refine za_ ht ?_|refine ht ?_ ?_|refine ht.1 ?_ ?_|refine ht ?_)<;>clear ht))
  all_goals (try generalize (Ty.dflt YA)=od at*)
  all_goals (try generalize (Ty.dflt (.cons (.int .i64) (.cons (.sl (.int .u64)) (.cons (.sl (.int .u8)) .nil))))=oe at*)
  all_goals first
   | exact True.intro
   | omega
   | exact ⟨by dsimp only;omega,by dsimp only;omega⟩
   | ((try dsimp only);simp only [zl_];omega)
   | (dsimp only;simp only [List.length_cons,List.length_nil];constructor<;>omega)
   | (refine ⟨(j+1,m),⟨by dsimp only;omega,?_⟩,by dsimp only;omega,rfl,?_⟩
      ·dsimp only;rw [<- hend (by omega)];exact hm
      ·dsimp only;rw [<- hend (by omega)])
   | exact (show IntKind.i64.min<=(zs_ m (((l.getD i od).2.2.2.2.2.2.1.getD j oe).2.1.getD k 0)).getD 0+1/\(zs_ m (((l.getD i od).2.2.2.2.2.2.1.getD j oe).2.1.getD k 0)).getD 0+1<=IntKind.i64.max from by simp only [zl_];omega)
   | (have hz:=hn0 (by omega)
      exact (show IntKind.i64.min<=(((l.getD i od).2.2.2.2.2.2.1.getD j oe).2.1.getD k 0)/\(((l.getD i od).2.2.2.2.2.2.1.getD j oe).2.1.getD k 0)<=IntKind.i64.max from by simp only [zl_];omega))
   | (have c:szT ((l.getD i od).2.2.2.2.2.2.1.getD j oe).1=1:=by assumption
      have c2:(((l.getD i od).2.2.2.2.2.2.1.getD j oe).2.1.getD k 0) < 256:=by assumption
      have c3:(zs_ m (((l.getD i od).2.2.2.2.2.2.1.getD j oe).2.1.getD k 0)).getD 0=0:=by assumption
      obtain ⟨e1,e2⟩:=hst c3 c2
      have e3:=hsn (by omega)
      rw [if_pos c] at e3
      refine ⟨(k+1,qZ_ m (((l.getD i od).2.2.2.2.2.2.1.getD j oe).2.1.getD k 0) ((zs_ m (((l.getD i od).2.2.2.2.2.2.1.getD j oe).2.1.getD k 0)).getD 0+1)),⟨by dsimp only;omega,?_⟩,by dsimp only;omega,rfl,?_⟩
      ·dsimp only;rw [e3];exact e2
      ·dsimp only;rw [e3,e1];rfl)
   | (have c:¬ szT ((l.getD i od).2.2.2.2.2.2.1.getD j oe).1=1:=by assumption
      have e3:=hsn (by omega)
      rw [if_neg c,List.append_nil] at e3
      refine ⟨(k+1,m),⟨by dsimp only;omega,?_⟩,by dsimp only;omega,rfl,?_⟩
      ·dsimp only;rw [e3];exact hm
      ·dsimp only;rw [e3])
   | (have c:szT ((l.getD i od).2.2.2.2.2.2.1.getD j oe).1=1:=by assumption
      have c2:¬ ((((l.getD i od).2.2.2.2.2.2.1.getD j oe).2.1.getD k 0) < 256/\(zs_ m (((l.getD i od).2.2.2.2.2.2.1.getD j oe).2.1.getD k 0)).getD 0=0):=by
       first
        | (have q:¬ (((l.getD i od).2.2.2.2.2.2.1.getD j oe).2.1.getD k 0) < 256:=by assumption
           exact fun z=>q z.1)
        | (have q:¬ (zs_ m (((l.getD i od).2.2.2.2.2.2.1.getD j oe).2.1.getD k 0)).getD 0=0:=by assumption
           exact fun z=>q z.2)
      have e1:=hsk c2
      have e3:=hsn (by omega)
      rw [if_pos c] at e3
      refine ⟨(k+1,m),⟨by dsimp only;omega,?_⟩,by dsimp only;omega,rfl,?_⟩
      ·dsimp only;rw [e3,e1];exact hm
      ·dsimp only;rw [e3,e1])
 ·cases e
theorem zbO_ {a b:FV} (h1:a.1=b.1) (h2:a.2.1=b.2.1) (h3:a.2.2.1=b.2.2.1):a=b:=by
 obtain ⟨a1,a2,a3,_⟩:=a
 obtain ⟨b1,b2,b3,_⟩:=b
 dsimp only at h1 h2 h3
 rw [h1,h2,h3]
theorem HS_ {a b:TV} (h1:a.1=b.1) (h2:a.2.1=b.2.1) (h3:a.2.2.1=b.2.2.1) (h4:a.2.2.2.1=b.2.2.2.1) (h5:a.2.2.2.2.1=b.2.2.2.2.1) (h6:a.2.2.2.2.2.1=b.2.2.2.2.2.1) (h7:a.2.2.2.2.2.2.1=b.2.2.2.2.2.2.1):a=b:=by
 obtain ⟨a1,a2,a3,a4,a5,a6,a7,_⟩:=a
 obtain ⟨b1,b2,b3,b4,b5,b6,b7,_⟩:=b
 dsimp only at h1 h2 h3 h4 h5 h6 h7
 rw [h1,h2,h3,h4,h5,h6,h7]
instance decTV (a b:TV):Decidable (a=b):=decidable_of_iff (a.1=b.1/\a.2.1=b.2.1/\a.2.2.1=b.2.2.1/\a.2.2.2.1=b.2.2.2.1/\a.2.2.2.2.1=b.2.2.2.2.1/\a.2.2.2.2.2.1=b.2.2.2.2.2.1/\a.2.2.2.2.2.2.1=b.2.2.2.2.2.2.1) ⟨fun ⟨h1,h2,h3,h4,h5,h6,h7⟩=>HS_ h1 h2 h3 h4 h5 h6 h7,fun h=>by rw [h];exact ⟨rfl,rfl,rfl,rfl,rfl,rfl,rfl⟩⟩
def U3_:IR:=
(sq (kr [0,1] [oD 4 (.mov cF)])
(sq (sq (kr [0,1] [oM 6 0,
oE 7 6,
oM 8 1,
oE 9 8,
oB 10 .neq 7 9])
(.cond 10
(sq (.reg [oD 4 (.mov cF)])
.ret)
.skip))
(sq (sq (kr [0,1] [oD 5 (.mov (cI 0))])
(.block 0
(.loop
(sq (sq (kr [0,1,5] [oM 11 5,
oM 12 0,
oE 13 12,
oB 14 .lss 11 13])
(.cond 14
.skip
(.exit 0)))
(sq (.block 1
(sq (kd [0,1,5] [(oM 17 0,[]),
(oM 18 5,[0]),
(oI 19 1 17 18,[]),
(oL 20 19,[]),
(oM 21 1,[0,0,0,0]),
(oM 22 5,[0,0,0,0,0]),
(oI 23 1 21 22,[2,0,0,0]),
(oL 24 23,[3,0,0,0]),
(oB 25 .neq 20 24,[])])
(.cond 25
(sq (kr [] [oD 4 (.mov cF)])
.ret)
.skip)))
(kr [0,1,5] [oM 15 5,
oB 16 .add 15 (cI 1),
oM 5 16]))))))
(sq (kr [] [oD 4 (.mov cT)])
.ret))))
def Un_:List RD:=[.tmp 4 true none]
theorem UC_:zo_ Tryz.prog Tryz.f62 U3_ Un_=true:=by kernel_rfl
def WJ_:List AV->List Obj->Option (Prop × AV)
 | [.imm (.int .u64) a,.imm (.int .u64) b],[]=>some ((True,.bool (decide ((a:List Int)=b))))
 | _,_=>none
theorem VL_:zf_ Tryz.prog 62 (RoF WJ_).sum:=by
 refine zw_ Tryz.func62 UC_ (zg_ _) fun args objs p v e=>?_
 unfold WJ_ at e
 split at e
 ·rename_i a b
  cases e
  refine ⟨rfl,fun hw ho hp=>?_⟩
  change List Int at a
  change List Int at b
  change List Int at a
  change List Int at b
  have hl:a.length<=maxLen:=(hw (.imm (.int .u64) a) (by simp)).2
  unfold maxLen at hl
  clear hw ho
  repeat'(intro t ht;first|(cases t<;>first|(cases ht;done)|(try simp only[zh_]at ht))|((first|refine za_ ht ?_|refine ht ?_ ?_|refine ht.1 ?_ ?_|refine ht ?_)<;>clear ht))
  all_goals first
   | (have hne:a ≠ b:=fun h=>(by assumption:¬ (a.length:Int)=b.length) (by rw [h])
      refine ⟨?_,rfl⟩;rw [decide_eq_false hne];done)
   | (intro r h1 h2;clear h1;refine h2 ⟨[0,1,5],Nat,(fun i=>i<=a.length/\a.take i=b.take i),fun i=>[.imm (.int .u64) a,.imm (.int .u64) b,.int .i64 i],fun _=>[],fun i=>a.length - i,⟨0,⟨Nat.zero_le _,rfl⟩,rfl,rfl⟩,?_⟩;clear h2)
  rintro i ⟨hi,he⟩
  have hl2:a.length=b.length:=by omega
  repeat'(intro t ht;first|(cases t<;>first|(cases ht;done)|(try simp only[zh_]at ht;try(exfalso;first|contradiction|omega)))|((first|refine za_ ht ?_|refine ht ?_ ?_|refine ht.1 ?_ ?_|refine ht ?_)<;>clear ht))
  all_goals first
   | exact True.intro
   | ((try simp only [zH_,zJ_,zl_] at*);omega)
   | (have e:=u1_ he (by omega) hl2
      refine ⟨?_,rfl⟩;rw [decide_eq_true e];done)
   | (have hne:a ≠ b:=HT_ (d:=0) (i:=i) (by assumption)
      refine ⟨?_,rfl⟩;rw [decide_eq_false hne];done)
   | exact ⟨i+1,⟨by omega,yO_ he (by omega) hl2 (d:=0) (by assumption)⟩,by (try simp only [zH_,zJ_,zl_] at*);omega,rfl,rfl⟩
   | skip
 ·cases e
def uu_:IR:=
(sq (kr [0,1] [oD 4 (.mov cF)])
(sq (sq (kr [0,1] [oM 6 0,
oE 7 6,
oM 8 1,
oE 9 8,
oB 10 .neq 7 9])
(.cond 10
(sq (.reg [oD 4 (.mov cF)])
.ret)
.skip))
(sq (sq (kr [0,1] [oD 5 (.mov (cI 0))])
(.block 0
(.loop
(sq (sq (kr [0,1,5] [oM 11 5,
oM 12 0,
oE 13 12,
oB 14 .lss 11 13])
(.cond 14
.skip
(.exit 0)))
(sq (.block 1
(sq (kd [0,1,5] [(oM 17 0,[]),
(oM 18 5,[0]),
(oI 19 3 17 18,[]),
(oA 20 0 19,[]),
(oL 21 20,[]),
(oM 22 1,[0,0,0,0,0]),
(oM 23 5,[0,0,0,0,0,0]),
(oI 24 3 22 23,[2,0,0,0,0]),
(oA 25 0 24,[3,0,0,0,0]),
(oL 26 25,[4,0,0,0,0]),
(oB 27 .neq 21 26,[]),
(oM 28 27,[]),
(oF 28 29 (.mov 0),[]),
(oF 28 30 (.mov 5),[0]),
(oF 28 31 (.indexSl 3 29 30),[]),
(oF 28 32 (.fieldAddr 1 31),[]),
(oF 28 33 (.load none 32),[]),
(oF 28 34 (.mov 1),[0,0,0,0,0]),
(oF 28 35 (.mov 5),[0,0,0,0,0,0]),
(oF 28 36 (.indexSl 3 34 35),[2,0,0,0,0]),
(oF 28 37 (.fieldAddr 1 36),[3,0,0,0,0]),
(oF 28 38 (.load none 37),[4,0,0,0,0]),
(oF 28 39 (.call false (.f 62) [33,38]),[]),
(oF 28 40 (.un .not 39),[]),
(oP 41 28 cT 40,[]),
(oM 42 41,[]),
(oF 42 43 (.mov 0),[]),
(oF 42 44 (.mov 5),[0]),
(oF 42 45 (.indexSl 3 43 44),[]),
(oF 42 46 (.fieldAddr 2 45),[]),
(oF 42 47 (.load none 46),[]),
(oF 42 48 (.mov 1),[0,0,0,0,0]),
(oF 42 49 (.mov 5),[0,0,0,0,0,0]),
(oF 42 50 (.indexSl 3 48 49),[2,0,0,0,0]),
(oF 42 51 (.fieldAddr 2 50),[3,0,0,0,0]),
(oF 42 52 (.load none 51),[4,0,0,0,0]),
(oF 42 53 (.call false (.f 25) [47,52]),[]),
(oF 42 54 (.un .not 53),[]),
(oP 55 42 cT 54,[])])
(.cond 55
(sq (kr [] [oD 4 (.mov cF)])
.ret)
.skip)))
(kr [0,1,5] [oM 15 5,
oB 16 .add 15 (cI 1),
oM 5 16]))))))
(sq (kr [] [oD 4 (.mov cT)])
.ret))))
def VW_:List RD:=[.tmp 4 true none]
theorem ub_:zo_ Tryz.prog Tryz.f36 uu_ VW_=true:=by kernel_rfl
def wq_:List AV->List Obj->Option (Prop × AV)
 | [.imm (.cons (.int .i64) (.cons (.sl (.int .u64)) (.cons (.sl (.int .u8)) .nil))) a,.imm (.cons (.int .i64) (.cons (.sl (.int .u64)) (.cons (.sl (.int .u8)) .nil))) b],[]=>some ((True,.bool (decide ((a:List FV)=b))))
 | _,_=>none
theorem vc_:zf_ Tryz.prog 36 (RoF wq_).sum:=by
 refine zw_ Tryz.func36 ub_ (zb_ (s:=RoF WJ_) VL_ (zb_ (s:=RoF Ku_) w1_ (zg_ _))) fun args objs p v e=>?_
 unfold wq_ at e
 split at e
 ·rename_i a b
  cases e
  refine ⟨rfl,fun hw ho hp=>?_⟩
  change List FV at a
  change List FV at b
  have hl:a.length<=maxLen:=(hw (.imm (.cons (.int .i64) (.cons (.sl (.int .u64)) (.cons (.sl (.int .u8)) .nil))) a) (by simp)).2
  unfold maxLen at hl
  clear hw ho
  repeat'(intro t ht;first|(cases t<;>first|(cases ht;done)|(try simp only[zh_]at ht))|((first|refine za_ ht ?_|refine ht ?_ ?_|refine ht.1 ?_ ?_|refine ht ?_)<;>clear ht))
  all_goals first
   | (have hne:a ≠ b:=fun h=>(by assumption:¬ (a.length:Int)=b.length) (by rw [h])
      refine ⟨?_,rfl⟩;rw [decide_eq_false hne];done)
   | (intro r h1 h2;clear h1;refine h2 ⟨[0,1,5],Nat,(fun i=>i<=a.length/\a.take i=b.take i),fun i=>[.imm (.cons (.int .i64) (.cons (.sl (.int .u64)) (.cons (.sl (.int .u8)) .nil))) a,.imm (.cons (.int .i64) (.cons (.sl (.int .u64)) (.cons (.sl (.int .u8)) .nil))) b,.int .i64 i],fun _=>[],fun i=>a.length - i,⟨0,⟨Nat.zero_le _,rfl⟩,rfl,rfl⟩,?_⟩;clear h2)
  rintro i ⟨hi,he⟩
  have hl2:a.length=b.length:=by omega
  repeat'(intro t ht;first|(cases t<;>first|(cases ht;done)|(try simp only[zh_]at ht;try(exfalso;first|contradiction|omega)))|((first|refine za_ ht ?_|refine ht ?_ ?_|refine ht.1 ?_ ?_|refine ht ?_)<;>clear ht))
  all_goals (try generalize (Ty.dflt (.cons (.int .i64) (.cons (.sl (.int .u64)) (.cons (.sl (.int .u8)) .nil))))=od at*)
  all_goals first
   | exact True.intro
   | omega
   | ((try dsimp only);simp only [zl_];omega)
   | (have e:=u1_ he (by omega) hl2
      refine ⟨?_,rfl⟩;rw [decide_eq_true e];done)
   | (have hne:a ≠ b:=HT_ (d:=od) (i:=i) (fun h=>by rw [h] at ht;revert ht;simp)
      refine ⟨?_,rfl⟩;rw [decide_eq_false hne];done)
   | exact ⟨i+1,⟨by omega,yO_ he (by omega) hl2 (d:=od) (zbO_ (by assumption) (by assumption) (by assumption))⟩,by dsimp only;omega,rfl,rfl⟩
 ·cases e
def U1_:IR:=
(sq (kr [0,1] [oD 4 (.mov cF)])
(sq (sq (kr [0,1] [oM 8 0,
oE 9 8,
oM 10 1,
oE 11 10,
oB 12 .neq 9 11])
(.cond 12
(sq (.reg [oD 4 (.mov cF)])
.ret)
.skip))
(sq (sq (kr [0,1] [oD 5 (.mov (cI 0))])
(.block 0
(.loop
(sq (sq (kr [0,1,5] [oM 13 5,
oM 14 0,
oE 15 14,
oB 16 .lss 13 15])
(.cond 16
.skip
(.exit 0)))
(sq (.block 1
(sq (kd [0,1,5] [(oM 19 0,[]),
(oM 20 5,[0]),
(oI 21 7 19 20,[]),
(oK 22 7 21,[]),
(oM 23 1,[0,0,0,0]),
(oM 24 5,[0,0,0,0,0]),
(oI 25 7 23 24,[2,0,0,0]),
(oK 26 7 25,[3,0,0,0]),
(oD 6 (.box [.int .u64 0,.str [],.int .u64 0,.int .u64 0,.int .u64 0,.int .u64 0,.imm (.cons (.int .i64) (.cons (.sl (.int .u64)) (.cons (.sl (.int .u8)) .nil))) []]),[0,0,0,0,0,0,0,0]),
(oD 7 (.box [.int .u64 0,.str [],.int .u64 0,.int .u64 0,.int .u64 0,.int .u64 0,.imm (.cons (.int .i64) (.cons (.sl (.int .u64)) (.cons (.sl (.int .u8)) .nil))) []]),[0,0,0,0,0,0,0,0,0]),
(oS 7 6 22,[2,0,0,0]),
(oS 7 7 26,[])])
(sq (kr [0,1,5,6,7] [oA 27 0 6,
oL 28 27,
oA 29 0 7,
oL 30 29,
oB 31 .eql 28 30,
oM 32 31,
oT 32 33 (.fieldAddr 1 6),
oT 32 34 (.load none 33),
oT 32 35 (.fieldAddr 1 7),
oT 32 36 (.load none 35),
oT 32 37 (.bin .eql 34 36),
oP 38 32 37 cF,
oM 39 38,
oT 39 40 (.fieldAddr 2 6),
oT 39 41 (.load none 40),
oT 39 42 (.fieldAddr 2 7),
oT 39 43 (.load none 42),
oT 39 44 (.bin .eql 41 43),
oP 45 39 44 cF,
oM 46 45,
oT 46 47 (.fieldAddr 3 6),
oT 46 48 (.load none 47),
oT 46 49 (.fieldAddr 3 7),
oT 46 50 (.load none 49),
oT 46 51 (.bin .eql 48 50),
oP 52 46 51 cF,
oM 53 52,
oT 53 54 (.fieldAddr 4 6),
oT 53 55 (.load none 54),
oT 53 56 (.fieldAddr 4 7),
oT 53 57 (.load none 56),
oT 53 58 (.bin .eql 55 57),
oP 59 53 58 cF,
oM 60 59,
oT 60 61 (.fieldAddr 5 6),
oT 60 62 (.load none 61),
oT 60 63 (.fieldAddr 5 7),
oT 60 64 (.load none 63),
oT 60 65 (.bin .eql 62 64),
oP 66 60 65 cF,
oM 67 66,
oT 67 68 (.fieldAddr 6 6),
oT 67 69 (.load none 68),
oT 67 70 (.fieldAddr 6 7),
oT 67 71 (.load none 70),
oT 67 72 (.call false (.f 36) [69,71]),
oP 73 67 72 cF,
oD 74 (.un .not 73)])
(.cond 74
(sq (kr [] [oD 4 (.mov cF)])
.ret)
.skip))))
(kr [0,1,5] [oM 17 5,
oB 18 .add 17 (cI 1),
oM 5 18]))))))
(sq (kr [] [oD 4 (.mov cT)])
.ret))))
def Ul_:List RD:=[.tmp 4 true none]
theorem UA_:zo_ Tryz.prog Tryz.f10 U1_ Ul_=true:=by kernel_rfl
def WH_:List AV->List Obj->Option (Prop × AV)
 | [.imm ty0 a,.imm ty1 b],[]=>xs_ ty0 YA a fun a=>xs_ ty1 YA b fun b=>some ((True,.bool (decide ((a:List TV)=b))))
 | _,_=>none
theorem VJ_:zf_ Tryz.prog 10 (RoF WH_).sum:=by
 refine zw_ Tryz.func10 UA_ (zb_ (s:=RoF wq_) vc_ (zg_ _)) fun args objs p v e=>?_
 unfold WH_ at e
 split at e
 ·rename_i ty0 a ty1 b
  obtain rfl:=xq_ e
  replace e:=xr_ e
  obtain rfl:=xq_ e
  replace e:=xr_ e
  cases e
  refine ⟨rfl,fun hw ho hp=>?_⟩
  change List TV at a
  change List TV at b
  have hl:a.length<=maxLen:=(hw (.imm YA a) (by simp)).2
  unfold maxLen at hl
  clear hw ho
  repeat'(intro t ht;first|(cases t<;>first|(cases ht;done)|(try simp only[zh_]at ht))|((first|refine za_ ht ?_|refine ht ?_ ?_|refine ht.1 ?_ ?_|refine ht ?_)<;>clear ht))
  all_goals first
   | (have hne:a ≠ b:=fun h=>(by assumption:¬ (a.length:Int)=b.length) (by rw [h])
      refine ⟨?_,rfl⟩;rw [decide_eq_false hne];done)
   | (intro r h1 h2;clear h1;refine h2 ⟨[0,1,5],Nat,(fun i=>i<=a.length/\a.take i=b.take i),fun i=>[.imm YA a,.imm YA b,.int .i64 i],fun _=>[],fun i=>a.length - i,⟨0,⟨Nat.zero_le _,rfl⟩,rfl,rfl⟩,?_⟩;clear h2)
  rintro i ⟨hi,he⟩
  have hl2:a.length=b.length:=by omega
  repeat'(intro t ht;first|(cases t<;>first|(cases ht;done)|(try simp only[zh_]at ht;try(exfalso;first|contradiction|omega)))|((first|refine za_ ht ?_|refine ht ?_ ?_|refine ht.1 ?_ ?_|refine ht ?_)<;>clear ht))
  all_goals (try generalize (Ty.dflt YA)=od at*)
  all_goals first
   | exact True.intro
   | omega
   | ((try dsimp only);simp only [zl_];omega)
   | (have e:=u1_ he (by omega) hl2
      refine ⟨?_,rfl⟩;rw [decide_eq_true e];done)
   | (have hne:a ≠ b:=HT_ (d:=od) (i:=i) (fun h=>by rw [h] at ht;revert ht;simp)
      refine ⟨?_,rfl⟩;rw [decide_eq_false hne];done)
   | exact ⟨i+1,⟨by omega,yO_ he (by omega) hl2 (d:=od) (HS_ (by assumption) (by assumption) (by assumption) (by assumption) (by assumption) (by assumption) (by assumption))⟩,by dsimp only;omega,rfl,rfl⟩
 ·cases e
def S20:List TV:=[(1,[116],0,0,0,0,[(2,[2,3],[],())],())]
def B20:List Int:=[0,72,1,0,0,0,0,0,116,0,0,0,0,0,0,0,0,0,0,0,0,0,0,0,0,0,0,0,0,0,0,0,0,0,0,0,0,0,0,0,0,0,0,0,0,0,0,0,0,0,0,0,0,0,0,0,0,0,0,0,0,0,0,0,0,2,0,6,2,3,0,0]
theorem s20a:tbE S20=0/\tbL S20=B20/\lkF S20=[2,3]/\szT 2=1/\szT 12=4:=by decide+kernel
theorem s20b:fE B20=0/\(fN B20).toNat=72/\B20.length=72/\tlK [0,2,0,6,2,3,0,0]=0/\tT [0,2,0,6,2,3,0,0]=2/\bd [0,2,0,6,2,3,0,0]=[2,3]/\(tlN [0,2,0,6,2,3,0,0]).toNat=8/\fN B20=72:=by decide+kernel
theorem s20n:nuG 2 [2,3]=([2,3],0):=by
 have e1:=bt_ (t:=2) (y:=[2,3]) (by decide) (by decide) (by decide)
 have e2:=bt_ (t:=2) (y:=[3]) (by decide) (by decide) (by decide)
 have e3:=k4_ (t:=2) (y:=[]) rfl
 rw [e1]
 show (nuV 2 [2,3] :: (nuG 2 [3]).1,(nuG 2 [3]).2)=_
 rw [e2]
 show (nuV 2 [2,3] :: nuV 2 [3] :: (nuG 2 []).1,(nuG 2 []).2)=_
 rw [e3];decide
theorem s20x:ftX [] [0,2,0,6,2,3,0,0]=0/\ftV [] [0,2,0,6,2,3,0,0]=(2,[2,3],[],()):=by
 obtain ⟨_,_,_,_,e5,e6,_⟩:=s20b
 obtain ⟨a,b,c⟩:=b4_ (D:=false) (t:=2) (x:=[2,3]) (by decide) (by decide) rfl (by decide)
 rw [s20n] at a b
 unfold ftX ftV
 rw [e5,e6]
 have hc:(tyL []).contains (2:Int)=false:=rfl
 rw [hc,a,b,c];exact ⟨rfl,rfl⟩
theorem s20f:fF B20=([(2,[2,3],[],())],0):=by
 obtain ⟨_,e2,_,e4,_,_,e7,_⟩:=s20b
 obtain ⟨x1,x2⟩:=s20x
 unfold fF
 rw [e2]
 show fsG [] 0 [0,2,0,6,2,3,0,0]=_
 rw [v7_ e4,x1,x2,e7]
 show fsG [(2,[2,3],[],())] 0 []=_
 exact Xh_ rfl
theorem s20c:fdE B20=0/\fdL B20=S20:=by
 obtain ⟨e1,e2,e3,_⟩:=s20b
 have hX:tbX B20=0:=by rw [u2_ e1,s20f]
 have hd:=ge_ (y:=B20) (by rw [e3];decide) hX
 have hn:fdG (B20.drop (fN B20).toNat)=([],0,0):=YJ_ (by rw [e2];rfl)
 rw [hn] at hd
 have hV:tbV B20=(1,[116],0,0,0,0,[(2,[2,3],[],())],()):=by
  have h:u3V (B20.take 64) B20.length=1/\ctB (u6N (B20.take 64) B20.length) 0=[116]/\uS (B20.take 64) B20.length 0=0/\uS (B20.take 64) B20.length 1=0/\uS (B20.take 64) B20.length 2=0/\uS (B20.take 64) B20.length 3=0:=by decide+kernel
  obtain ⟨h1,h2,h3,h4,h5,h6⟩:=h
  unfold tbV
  rw [h1,h2,h3,h4,h5,h6,s20f]
 have hE:fdE B20=0:=by unfold fdE;rw [hd]
 refine ⟨hE,?_⟩
 have hE2:(fdG B20).2.1=0:=hE
 unfold fdL
 rw [if_pos hE2,hd,hV];rfl
theorem s20d:fdE []=0/\fdL []=[]:=by unfold fdE fdL;rw [YJ_ rfl];exact ⟨rfl,rfl⟩
theorem s20k:okT S20:=⟨fun x hx=>by
 unfold S20 at hx
 rw [List.mem_singleton] at hx
 subst hx
 exact ⟨fun f hf=>by rw [List.mem_singleton] at hf;subst hf;exact ⟨by simp,by simp⟩,by simp⟩,by unfold S20;simp⟩
def U2_:IR:=
(sq (kr [0,1] [oD 4 (.mov cF)])
(sq (sq (kr [0,1] [oM 6 0,
oE 7 6,
oM 8 1,
oE 9 8,
oB 10 .neq 7 9])
(.cond 10
(sq (.reg [oD 4 (.mov cF)])
.ret)
.skip))
(sq (sq (kr [0,1] [oD 5 (.mov (cI 0))])
(.block 0
(.loop
(sq (sq (kr [0,1,5] [oM 11 5,
oM 12 0,
oE 13 12,
oB 14 .lss 11 13])
(.cond 14
.skip
(.exit 0)))
(sq (.block 1
(sq (kd [0,1,5] [(oM 17 0,[]),
(oM 18 5,[0]),
(oI 19 1 17 18,[]),
(oL 20 19,[]),
(oM 21 1,[0,0,0,0]),
(oM 22 5,[0,0,0,0,0]),
(oI 23 1 21 22,[2,0,0,0]),
(oL 24 23,[3,0,0,0]),
(oB 25 .neq 20 24,[])])
(.cond 25
(sq (kr [] [oD 4 (.mov cF)])
.ret)
.skip)))
(kr [0,1,5] [oM 15 5,
oB 16 .add 15 (cI 1),
oM 5 16]))))))
(sq (kr [] [oD 4 (.mov cT)])
.ret))))
def Um_:List RD:=[.tmp 4 true none]
theorem UB_:zo_ Tryz.prog Tryz.f29 U2_ Um_=true:=by kernel_rfl
def WI_:List AV->List Obj->Option (Prop × AV)
 | [.imm (.int .i64) a,.imm (.int .i64) b],[]=>some ((True,.bool (decide ((a:List Int)=b))))
 | _,_=>none
theorem VK_:zf_ Tryz.prog 29 (RoF WI_).sum:=by
 refine zw_ Tryz.func29 UB_ (zg_ _) fun args objs p v e=>?_
 unfold WI_ at e
 split at e
 ·rename_i a b
  cases e
  refine ⟨rfl,fun hw ho hp=>?_⟩
  change List Int at a
  change List Int at b
  change List Int at a
  change List Int at b
  have hl:a.length<=maxLen:=(hw (.imm (.int .i64) a) (by simp)).2
  unfold maxLen at hl
  clear hw ho
  repeat'(intro t ht;first|(cases t<;>first|(cases ht;done)|(try simp only[zh_]at ht))|((first|refine za_ ht ?_|refine ht ?_ ?_|refine ht.1 ?_ ?_|refine ht ?_)<;>clear ht))
  all_goals first
   | (have hne:a ≠ b:=fun h=>(by assumption:¬ (a.length:Int)=b.length) (by rw [h])
      refine ⟨?_,rfl⟩;rw [decide_eq_false hne];done)
   | (intro r h1 h2;clear h1;refine h2 ⟨[0,1,5],Nat,(fun i=>i<=a.length/\a.take i=b.take i),fun i=>[.imm (.int .i64) a,.imm (.int .i64) b,.int .i64 i],fun _=>[],fun i=>a.length - i,⟨0,⟨Nat.zero_le _,rfl⟩,rfl,rfl⟩,?_⟩;clear h2)
  rintro i ⟨hi,he⟩
  have hl2:a.length=b.length:=by omega
  repeat'(intro t ht;first|(cases t<;>first|(cases ht;done)|(try simp only[zh_]at ht;try(exfalso;first|contradiction|omega)))|((first|refine za_ ht ?_|refine ht ?_ ?_|refine ht.1 ?_ ?_|refine ht ?_)<;>clear ht))
  all_goals first
   | exact True.intro
   | ((try simp only [zH_,zJ_,zl_] at*);omega)
   | (have e:=u1_ he (by omega) hl2
      refine ⟨?_,rfl⟩;rw [decide_eq_true e];done)
   | (have hne:a ≠ b:=HT_ (d:=0) (i:=i) (by assumption)
      refine ⟨?_,rfl⟩;rw [decide_eq_false hne];done)
   | exact ⟨i+1,⟨by omega,yO_ he (by omega) hl2 (d:=0) (by assumption)⟩,by (try simp only [zH_,zJ_,zl_] at*);omega,rfl,rfl⟩
   | skip
 ·cases e
def U4_:IR:=
(sq (kr [] [oD 0 (.mov cF)])
(sq (kr [] [oC 8 8 [(.c (.imm (.int .u8) []))],
oM 7 8,
oX 9 7 0,
oX 10 7 1,
oM 1 9,
oM 2 10])
(sq (kr [1,2] [oD 12 (.sliceAll (.int .u64) 2 [(0,1,(.c (.int .u64 2))),(1,1,(.c (.int .u64 3)))]),
oD 13 (.build [.int .i64 0,.imm (.int .u64) [],.imm (.int .u8) []] [(0,1,(cI 2)),(1,1,12)]),
oD 14 (.sliceAll (.cons (.int .i64) (.cons (.sl (.int .u64)) (.cons (.sl (.int .u8)) .nil))) 1 [(0,3,13)]),
oD 15 (.build [.int .u64 0,.str [],.int .u64 0,.int .u64 0,.int .u64 0,.int .u64 0,.imm (.cons (.int .i64) (.cons (.sl (.int .u64)) (.cons (.sl (.int .u8)) .nil))) []] [(0,1,(.c (.int .u64 1))),(1,1,(.c (.str [116]))),(6,1,14)]),
oD 16 (.sliceAll YA 1 [(0,7,15)]),
oC 17 18 [16],
oM 11 17,
oX 18 11 0,
oX 19 11 1,
oM 3 18,
oM 4 19])
(sq (kr [1,2,3,4] [oM 21 3,
oC 22 8 [21],
oM 20 22,
oX 23 20 0,
oX 24 20 1,
oM 5 23,
oM 6 24])
(sq (kr [1,2,3,4,5,6] [oM 25 2,
oB 26 .eql 25 (cI 0),
oM 27 26,
oT 27 28 (.mov 1),
oT 27 29 (.len 28),
oT 27 30 (.bin .eql 29 (cI 0)),
oP 31 27 30 cF,
oM 32 31,
oT 32 33 (.mov 4),
oT 32 34 (.bin .eql 33 (cI 0)),
oP 35 32 34 cF,
oM 36 35,
oT 36 37 (.mov 3),
oT 36 38 (.len 37),
oT 36 39 (.bin .eql 38 (cI 72)),
oP 40 36 39 cF,
oM 41 40,
oT 41 42 (.mov 3),
oT 41 43 (.slice 1 42 (some (cI 64)) none none),
oT 41 44 (.sliceAll (.int .u8) 8 [(0,1,(.c (.int .u8 0))),(1,1,(.c (.int .u8 2))),(2,1,(.c (.int .u8 0))),(3,1,(.c (.int .u8 6))),(4,1,(.c (.int .u8 2))),(5,1,(.c (.int .u8 3))),(6,1,(.c (.int .u8 0))),(7,1,(.c (.int .u8 0)))]),
oT 41 45 (.call false (.f 25) [43,44]),
oP 46 41 45 cF,
oM 47 46,
oT 47 48 (.mov 6),
oT 47 49 (.bin .eql 48 (cI 0)),
oP 50 47 49 cF,
oM 51 50,
oT 51 52 (.mov 5),
oT 51 53 (.len 52),
oT 51 54 (.bin .eql 53 (cI 1)),
oP 55 51 54 cF,
oM 56 55,
oT 56 57 (.mov 5),
oT 56 58 (.call false (.f 17) [57]),
oT 56 59 (.sliceAll (.int .i64) 2 [(0,1,(cI 2)),(1,1,(cI 3))]),
oT 56 60 (.call false (.f 29) [58,59]),
oP 61 56 60 cF,
oM 62 61,
oT 62 63 (.call false (.f 30) [(cI 2)]),
oT 62 64 (.bin .eql 63 (cI 1)),
oP 65 62 64 cF,
oM 66 65,
oT 66 67 (.call false (.f 30) [(cI 12)]),
oT 66 68 (.bin .eql 67 (cI 4)),
oP 69 66 68 cF,
oM 0 69])
.ret)))))
def Uo_:List RD:=[.tmp 0 true none]
theorem UD_:zo_ Tryz.prog Tryz.f7 U4_ Uo_=true:=by kernel_rfl
def WK_:List AV->List Obj->Option (Prop × AV)
 | [],[]=>some ((True,.bool true))
 | _,_=>none
theorem VM_:zf_ Tryz.prog 7 (RoF WK_).sum:=by
 refine zw_ Tryz.func7 UD_ (zb_ (s:=RoF qu_) k0_ (zb_ (s:=RoF QW_) Wc_ (zb_ (s:=RoF Ku_) w1_ (zb_ (s:=RoF ky_) WV_ (zb_ (s:=RoF WI_) VK_ (zb_ (s:=RoF Kf_) xO_ (zg_ _))))))) fun args objs p v e=>?_
 unfold WK_ at e
 split at e
 ·cases e
  refine ⟨rfl,fun hw ho hp=>?_⟩
  obtain ⟨e1,e2,e3,e4,e5⟩:=s20a
  obtain ⟨e6,e7⟩:=s20c
  obtain ⟨e8,e9⟩:=s20d
  have hk:=s20k
  have e10:B20.length=72:=rfl
  have e11:B20.drop 64=[0,2,0,6,2,3,0,0]:=rfl
  unfold S20 at e1 e2 e3 e7 hk
  repeat'(intro t ht;first|(cases t<;>first|(cases ht;done)|(try simp only[zh_]at ht))|((first|refine za_ ht ?_|refine ht ?_ ?_|refine ht.1 ?_ ?_|refine ht ?_)<;>clear ht))
  all_goals (try simp only [e1,e2,e3,e4,e5,e6,e7,e8,e9,e10,if_true,reduceCtorEq,not_true_eq_false,List.length_nil,List.length_cons] at*)
  all_goals first
   | exact True.intro
   | exact hk
   | exact ⟨by decide,by decide⟩
   | exact (by decide)
   | exact ⟨rfl,by first | rfl | exact True.intro⟩
   | contradiction
 ·cases e
theorem bJ_ {b more:List Int} {sh:Int} (hm:more.length<=100):(zW_ (more.length:Int) (more++b) 0 sh 0=0/\Z5_ (more.length:Int) (more++b) 0 sh 0=more.length):=by
 have h:zW_ (more.length:Int) (more++b) 0 sh 0=0:=by
  unfold zW_;rw [if_neg (by omega),if_neg (by rw [List.length_append];omega)]
 refine ⟨h,?_⟩
 unfold Z5_;rw [if_pos h];omega
theorem Ba_:∀ (n:Nat) (y:List Int),y.length<=n->(fdG y).2.1=0->(fdG y).2.2=y.length
 | n,y,hn,h=>by
   by_cases h0:y.length=0
   ·rw [YJ_ h0];show (0:Int)=_;omega
   ·by_cases hx:tbX y=0
    ·obtain ⟨_,k1,k2⟩:=HU_ hx
     rw [ge_ h0 hx] at h ⊢
     cases n with
     | zero=>omega
     | succ n=>
       have ih:=Ba_ n (y.drop (fN y).toNat) (by rw [List.length_drop];omega) h
       show fN y+(fdG (y.drop (fN y).toNat)).2.2=_
       rw [ih,List.length_drop];omega
    ·rw [Gz_ h0 hx] at h;exact absurd h hx
def Jn_:IR:=
(sq (kr [0,1] [oD 4 (.mov cF)])
(sq (sq (kr [0,1] [oM 11 0,
oE 12 11,
oB 13 .gtr 12 (cI 3000),
oM 14 13,
oF 14 15 (.mov 1),
oF 14 16 (.len 15),
oF 14 17 (.bin .gtr 16 (cI 100)),
oP 18 14 cT 17])
(.cond 18
(sq (kr [] [oC 19 7 [],
oM 4 19])
.ret)
.skip))
(sq (kr [0,1] [oM 21 0,
oC 22 8 [21],
oM 20 22,
oX 23 20 0,
oX 24 20 1,
oM 5 23,
oM 6 24])
(sq (kr [0,1,5,6] [oM 26 0,
oC 27 9 [26],
oM 25 27,
oX 28 25 0,
oX 29 25 1,
oM 7 28,
oM 8 29])
(sq (sq (kr [0,1,5,6,7,8] [oM 30 5,
oM 31 7,
oC 32 10 [30,31],
oD 33 (.un .not 32),
oM 34 33,
oF 34 35 (.mov 6),
oF 34 36 (.mov 8),
oF 34 37 (.bin .neq 35 36),
oP 38 34 cT 37])
(.cond 38
(sq (kr [] [oD 4 (.mov cF)])
.ret)
.skip))
(sq (kr [0,1,7,8] [oD 39 (.slice0 (.int .u8)),
oM 40 1,
oD 41 (.append (.int .u8) 1 39 40),
oM 42 0,
oD 43 (.append (.int .u8) 1 41 42),
oC 44 11 [43,(cI 263),(cI 269)],
oM 9 44])
(sq (kr [1,7,8,9] [oM 45 9,
oM 46 1,
oE 47 46,
oC 48 12 [45,47]])
(sq (.reg [oM 49 9,
oC 50 13 [49],
oM 10 50])
(sq (kr [7,8,9,10] [oM 51 10,
oM 52 7,
oC 53 10 [51,52],
oM 54 53,
oT 54 55 (.mov 9),
oT 54 56 (.call false (.f 14) [55]),
oT 54 57 (.mov 8),
oT 54 58 (.bin .eql 56 57),
oP 59 54 58 cF,
oM 60 59,
oT 60 61 (.mov 8),
oT 60 62 (.bin .neq 61 (cI 0)),
oT 60 63 (.mov 62),
oF 63 64 (.mov 9),
oF 63 65 (.call false (.f 15) [64]),
oF 63 66 (.bin .eql 65 (cI 0)),
oT 60 67 (.pick 63 cT 66),
oP 68 60 67 cF,
oM 69 68,
oT 69 70 (.call false (.f 7) []),
oP 71 69 70 cF,
oM 4 71])
.ret)))))))))
def jZ_:List RD:=[.tmp 4 true none]
theorem Jb_:zo_ Tryz.prog Tryz.f3 Jn_ jZ_=true:=by kernel_rfl
def qk_:List AV->List Obj->Option (Prop × AV)
 | [.imm (.int .u8) b,.imm (.int .u8) more],[]=>some ((True,.bool true))
 | _,_=>none
theorem jf_:zf_ Tryz.prog 3 (RoF qk_).sum:=by
 refine zw_ Tryz.func3 Jb_ (zb_ (s:=RoF WK_) VM_ (zb_ (s:=RoF qu_) k0_ (zb_ (s:=RoF jQ_) yT_ (zb_ (s:=RoF WH_) VJ_ (zb_ (s:=RwF ZO_) qd_ (zb_ (s:=RwF zG_) zX_ (zb_ (s:=RwF Qv_) KO_ (zb_ (s:=RoF zq_) zu_ (zb_ (s:=RoF zB_) zO_ (zg_ _)))))))))) fun args objs p v e=>?_
 unfold qk_ at e
 split at e
 ·rename_i b more
  cases e
  refine ⟨rfl,fun hw ho hp=>?_⟩
  change List Int at b
  change List Int at more
  clear hw ho
  by_cases hc:b.length<=3000/\more.length<=100
  ·obtain ⟨hb,hm⟩:=hc
   have hlt:=fun sh=>bJ_ (b:=b) (sh:=sh) hm
   have hd:(more++b).drop more.length=b:=List.drop_left
   have hl:(more++b).length=more.length+b.length:=List.length_append
   have hz:fdE b=0->(fdG b).2.2=b.length:=fun h=>Ba_ _ b (Nat.le_refl _) h
   repeat'(intro t ht;first|(cases t<;>first|(cases ht;done)|(try simp only[zh_]at ht;try(exfalso;first|contradiction|omega)))|((first|refine za_ ht ?_|refine ht ?_ ?_|refine ht.1 ?_ ?_|refine ht ?_)<;>clear ht))
   all_goals (try simp only [List.nil_append,(hlt _).1,(hlt _).2,hd,Int.toNat_natCast,not_true_eq_false] at*)
   all_goals first
    | exact True.intro
    | exact ⟨True.intro,True.intro⟩
    | exact ⟨rfl,by first | rfl | exact True.intro⟩
    | omega
    | (simp only [List.length_nil];omega)
    | exact ⟨by omega,by omega,by omega,by decide⟩
    | exact ⟨by omega,by omega,by omega,by decide,True.intro⟩
    | (have h:=hz (by assumption);omega)
    | (exfalso;have h:=hz (by assumption);omega)
  ·repeat'(intro t ht;first|(cases t<;>first|(cases ht;done)|(try simp only[zh_]at ht;try(exfalso;first|contradiction|omega)))|((first|refine za_ ht ?_|refine ht ?_ ?_|refine ht.1 ?_ ?_|refine ht ?_)<;>clear ht))
   all_goals first
    | exact True.intro
    | exact ⟨rfl,rfl⟩
    | exact absurd ⟨by omega,by omega⟩ hc
    | (exfalso;exact hc ⟨by omega,by omega⟩)
 ·cases e
end Go.Eng

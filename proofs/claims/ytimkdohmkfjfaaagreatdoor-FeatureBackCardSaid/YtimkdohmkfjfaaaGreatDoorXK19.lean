/- Parts of the proof: TJ, TK, TL, TN, W1. No condition. -/
import Derived.Test.YtimkdohmkfjfaaaGreatDoorProg
import Derived.Test.YtimkdohmkfjfaaaGreatDoorXK11
import Derived.KernelRfl
import Derived.Test.YtimkdohmkfjfaaaGreatDoorXK17
import Derived.Test.YtimkdohmkfjfaaaGreatDoorXK18
namespace Go.Eng
open Go.Proofs
set_option linter.unusedVariables false
set_option linter.unusedSimpArgs false
set_option maxRecDepth 100000
set_option maxHeartbeats 1000000
def Xq_ (fs:List FV):List Int:=fs.flatMap fun f=>if szT f.1=1 then f.2.1 else []
def k9_ (l:List TV):List Int:=l.flatMap fun x=>Xq_ x.2.2.2.2.2.2.1
def QM_ (l:List TV):List Int:=l.map fun x=>x.1
def lkN (l:List TV):List Int:=(k9_ l).filter fun n=>decide (n < 256) && !(QM_ l).contains n
def lkF (l:List TV):List Int:=poF (lkN l)
def lkS (ids out:List Int) (n:Int):List Int:=if n < 256/\¬ n ∈ ids++out then out++[n] else out
def lkO (ids ns:List Int):List Int:=ns.foldl (lkS ids) []
theorem g0_ (ids ns:List Int) (n:Int):lkO ids (ns++[n])=lkS ids (lkO ids ns) n:=by unfold lkO;rw [List.foldl_append];rfl
theorem Vc_ (ids:List Int):∀ (ns out:List Int),(out.Nodup/\∀ z ∈ out,z < 256/\z ∉ ids)->((ns.foldl (lkS ids) out).Nodup/\∀ z,z ∈ ns.foldl (lkS ids) out ↔ z ∈ out\/(z ∈ ns/\z < 256/\z ∉ ids))
 | [],out,h=>⟨h.1,fun z=>⟨.inl,fun k=>k.elim id fun k=>by cases k.1⟩⟩
 | n :: r,out,h=>by
   rw [List.foldl_cons]
   by_cases c:n < 256/\¬ n ∈ ids++out
   ·have e:lkS ids out n=out++[n]:=if_pos c
    have hn:=c.2
    rw [List.mem_append,not_or] at hn
    rw [e]
    obtain ⟨h1,h2⟩:=Vc_ ids r (out++[n]) ⟨List.nodup_append.2 ⟨h.1,List.pairwise_singleton ..,fun a ha b hb e=>by rw [List.mem_singleton] at hb;rw [e,hb] at ha;exact hn.2 ha⟩,fun z hz=>by
     rcases List.mem_append.1 hz with hz | hz
     ·exact h.2 z hz
     ·rw [List.mem_singleton] at hz;rw [hz];exact ⟨c.1,hn.1⟩⟩
    refine ⟨h1,fun z=>(h2 z).trans ?_⟩
    rw [List.mem_append,List.mem_singleton,List.mem_cons]
    constructor
    ·rintro ((k | k) | k)
     ·exact .inl k
     ·exact .inr ⟨.inl k,by rw [k];exact c.1,by rw [k];exact hn.1⟩
     ·exact .inr ⟨.inr k.1,k.2⟩
    ·rintro (k | ⟨k | k,k2⟩)
     ·exact .inl (.inl k)
     ·exact .inl (.inr k)
     ·exact .inr ⟨k,k2⟩
   ·have e:lkS ids out n=out:=if_neg c
    rw [e]
    obtain ⟨h1,h2⟩:=Vc_ ids r out h
    refine ⟨h1,fun z=>(h2 z).trans ?_⟩
    rw [List.mem_cons]
    constructor
    ·rintro (k | k)
     ·exact .inl k
     ·exact .inr ⟨.inr k.1,k.2⟩
    ·rintro (k | ⟨k | k,k2⟩)
     ·exact .inl k
     ·have:z ∈ ids++out:=Classical.byContradiction fun m=>c (by rw [<- k];exact ⟨k2.1,m⟩)
      rcases List.mem_append.1 this with m | m
      ·exact absurd m k2.2
      ·exact .inl m
     ·exact .inr ⟨k,k2⟩
theorem hy_ (ids ns:List Int):(lkO ids ns).Nodup/\∀ z,z ∈ lkO ids ns ↔ z ∈ ns/\z < 256/\z ∉ ids:=by
 obtain ⟨h1,h2⟩:=Vc_ ids ns [] ⟨List.Pairwise.nil,fun z hz=>by cases hz⟩
 refine ⟨h1,fun z=>(h2 z).trans ⟨fun k=>k.elim (fun k=>by cases k) id,.inr⟩⟩
theorem zdq_ (l:List TV) (z:Int):z ∈ lkN l ↔ z ∈ k9_ l/\z < 256/\z ∉ QM_ l:=by
 unfold lkN
 rw [List.mem_filter,Bool.and_eq_true,decide_eq_true_eq,Bool.not_eq_true',<- Bool.not_eq_true,List.contains_iff_mem]
theorem zdp_ (l:List TV):srt (lkO (QM_ l) (k9_ l)) 0 (lkO (QM_ l) (k9_ l)).length=lkF l:=
 zc3_ (hy_ _ _).1 fun z=>((hy_ _ _).2 z).trans (zdq_ l z).symm
theorem bq_ {l:List TV} {i:Nat} (h:i < l.length) (d:TV):k9_ (l.take (i+1))=k9_ (l.take i)++Xq_ (l.getD i d).2.2.2.2.2.2.1:=by
 unfold k9_;rw [<- KZ_ (d:=d) h,List.flatMap_append];simp
theorem bt_ {fs:List FV} {i:Nat} (h:i < fs.length) (d:FV):Xq_ (fs.take (i+1))=Xq_ (fs.take i)++(if szT (fs.getD i d).1=1 then (fs.getD i d).2.1 else []):=by
 unfold Xq_;rw [<- KZ_ (d:=d) h,List.flatMap_append];simp
def YD_ (l:List TV) (i j:Nat) (d:TV):List Int:=k9_ (l.take i)++Xq_ ((l.getD i d).2.2.2.2.2.2.1.take j)
theorem zbZ_ {m:List (Int × Int)} {ids ns:List Int} {n:Int} (h:cntM m (ids++lkO ids ns)) (h0:(zx_ m n).getD 0=0) (hn:n < 256):lkO ids (ns++[n])=lkO ids ns++[n]/\cntM (QJ_ m n ((zx_ m n).getD 0+1)) (ids++lkO ids (ns++[n])):=by
 have hm:¬ n ∈ ids++lkO ids ns:=fun c=>by have:=(h.s n).2 c;omega
 have e:lkO ids (ns++[n])=lkO ids ns++[n]:=by rw [g0_];exact if_pos ⟨hn,hm⟩
 refine ⟨e,?_⟩
 rw [e,<- List.append_assoc];exact vd_ h
theorem zb0_ {m:List (Int × Int)} {ids ns:List Int} {n:Int} (h:cntM m (ids++lkO ids ns)) (h0:¬ (n < 256/\(zx_ m n).getD 0=0)):lkO ids (ns++[n])=lkO ids ns:=by
 rw [g0_]
 refine if_neg fun c=>h0 ⟨c.1,?_⟩
 have h1:=h.r n
 have:¬ 0 < (zx_ m n).getD 0:=fun k=>c.2 ((h.s n).1 k)
 omega
theorem ur_ {fs:List FV} {z:Int} (h:z ∈ Xq_ fs):∃ f ∈ fs,z ∈ f.2.1:=by
 unfold Xq_ at h
 obtain ⟨f,hf,hz⟩:=List.mem_flatMap.1 h
 refine ⟨f,hf,?_⟩
 split at hz
 ·exact hz
 ·cases hz
theorem br_ {l:List TV} {z:Int} (h:z ∈ k9_ l):∃ x ∈ l,∃ f ∈ x.2.2.2.2.2.2.1,z ∈ f.2.1:=by
 unfold k9_ at h
 obtain ⟨x,hx,hz⟩:=List.mem_flatMap.1 h
 exact ⟨x,hx,ur_ hz⟩
theorem zdh_ {o:List Int} (h:o.Nodup) (hr:∀ z ∈ o,0<=z/\z < 256):o.length<=256:=by
 have:=ht_ 256 (o.map Int.toNat) (by
  refine List.pairwise_map.2 (List.Pairwise.imp_of_mem ?_ h)
  intro a b ha hb hne e
  have h1:=hr a ha
  have h2:=hr b hb
  exact hne (by omega)) (fun d hd=>by
  obtain ⟨z,hz,rfl⟩:=List.mem_map.1 hd
  have:=hr z hz;omega)
 rwa [List.length_map] at this
theorem UD_ {ids ns:List Int} (h:∀ z ∈ ns,0<=z):(lkO ids ns).length<=256:=by
 obtain ⟨h1,h2⟩:=hy_ ids ns
 exact zdh_ h1 fun z hz=>by
  have:=(h2 z).1 hz
  exact ⟨h z this.1,this.2.1⟩
structure nnL (l:List TV):Prop where
 h:∀ x ∈ l,∀ f ∈ x.2.2.2.2.2.2.1,∀ z ∈ f.2.1,0<=z
theorem nn_L {l:List TV} (h:nnL l) (i:Nat):∀ z ∈ k9_ (l.take i),0<=z:=fun z hz=>by
 obtain ⟨x,hx,f,hf,hz⟩:=br_ hz
 exact h.h x (List.mem_of_mem_take hx) f hf z hz
theorem nn_3 {l:List TV} (h:nnL l) {i:Nat} (hi:i < l.length) (j:Nat) (d:TV):∀ z ∈ YD_ l i j d,0<=z:=fun z hz=>by
 rcases List.mem_append.1 hz with hz | hz
 ·exact nn_L h i z hz
 ·obtain ⟨f,hf,hz⟩:=ur_ hz
  exact h.h _ (zv_ hi d) f (List.mem_of_mem_take hf) z hz
theorem zdW_ {l:List TV} (h:Ty.wf (.sl YA) l):nnL l:=⟨fun x hx f hf z hz=>by
 obtain ⟨_,_,_,_,_,_,h7,_⟩:=h.1 x hx
 obtain ⟨_,h2,_⟩:=h7.1 f hf
 have:=h2.1 z hz
 unfold Ty.wf inK at this;rw [Y8_] at this;exact this.1⟩
theorem zaq_ {l:List TV} {i:Nat} (h:i < l.length) (d:TV):QM_ (l.take (i+1))=QM_ (l.take i)++[(l.getD i d).1]:=jL_ h d _
def YC_ (l:List TV) (i j k:Nat) (d:TV) (g:FV):List Int:=YD_ l i j d++(if szT g.1=1 then g.2.1.take k else [])
theorem nn_4 {l:List TV} (h:nnL l) {i j:Nat} (hi:i < l.length) (d:TV) (e:FV) (hj:j < (l.getD i d).2.2.2.2.2.2.1.length) (k:Nat):∀ z ∈ YC_ l i j k d ((l.getD i d).2.2.2.2.2.2.1.getD j e),0<=z:=fun z hz=>by
 rcases List.mem_append.1 hz with hz | hz
 ·exact nn_3 h hi j d z hz
 ·split at hz
  ·exact h.h _ (zv_ hi d) _ (zv_ hj e) z (List.mem_of_mem_take hz)
  ·cases hz
theorem BC_ (l:List TV) (i j:Nat) (d:TV) (g:FV):YC_ l i j 0 d g=YD_ l i j d:=by
 unfold YC_;split<;>simp
theorem bj_ {l:List TV} {i j k:Nat} {d:TV} {g:FV} (h:k < g.2.1.length):YC_ l i j (k+1) d g=YC_ l i j k d g++(if szT g.1=1 then [g.2.1.getD k 0] else []):=by
 unfold YC_
 by_cases c:szT g.1=1
 ·rw [if_pos c,if_pos c,if_pos c,<- KZ_ (d:=0) h,List.append_assoc]
 ·rw [if_neg c,if_neg c,if_neg c];simp
theorem BB_ {l:List TV} {i j k:Nat} {d:TV} {e:FV} (hj:j < (l.getD i d).2.2.2.2.2.2.1.length) (hk:((l.getD i d).2.2.2.2.2.2.1.getD j e).2.1.length<=k):YC_ l i j k d ((l.getD i d).2.2.2.2.2.2.1.getD j e)=YD_ l i (j+1) d:=by
 unfold YC_ YD_
 rw [List.take_of_length_le hk,bt_ hj e,List.append_assoc]
theorem BE_ (l:List TV) (i:Nat) (d:TV):YD_ l i 0 d=k9_ (l.take i):=by unfold YD_ Xq_;simp
theorem BD_ {l:List TV} {i j:Nat} {d:TV} (hi:i < l.length) (hj:(l.getD i d).2.2.2.2.2.2.1.length<=j):YD_ l i j d=k9_ (l.take (i+1)):=by
 unfold YD_;rw [List.take_of_length_le hj,bq_ hi d]
def yG_:IR:=
(sq (kr [0] [oD 2 (.nilrow (.int .i64))])
(sq (.reg [oD 12 (.mkmap (.int .u64) (.int .i64)),
oM 3 12])
(sq (sq (.reg [oM 13 0,
oE 14 13,
oD 15 (.mov (cI 0))])
(.block 0
(.loop
(sq (kr [0,2,3,13,14,15] [oB 16 .lss 15 14])
(sq (.cond 16
.skip
(.exit 0))
(sq (.block 1
(sq (.reg [oI 17 7 13 15,
oK 18 7 17,
oD 5 (.box [.int .u64 0,.str [],.int .u64 0,.int .u64 0,.int .u64 0,.int .u64 0,.imm (.cons (.int .i64) (.cons (.sl (.int .u64)) (.cons (.sl (.int .u8)) .nil))) []]),
oS 7 5 18])
(kr [0,2,3,5,13,14,15] [oM 19 3,
oA 20 0 5,
oL 21 20,
oD 22 (.mget (.int .u64) (.int .i64) (0:Int) false 19 21),
oB 23 .add 22 (cI 1),
oN (.mput (.int .u64) (.int .i64) 19 21 23)])))
(kr [0,2,3,13,14,15] [oB 24 .add 15 (cI 1),
oM 15 24])))))))
(sq (sq (kr [0,2,3] [oM 25 0,
oE 26 25,
oD 27 (.mov (cI 0))])
(.block 2
(.loop
(sq (kr [2,3,25,26,27] [oB 28 .lss 27 26])
(sq (.cond 28
.skip
(.exit 2))
(sq (.block 3
(sq (.reg [oI 29 7 25 27,
oK 30 7 29,
oD 7 (.box [.int .u64 0,.str [],.int .u64 0,.int .u64 0,.int .u64 0,.int .u64 0,.imm (.cons (.int .i64) (.cons (.sl (.int .u64)) (.cons (.sl (.int .u8)) .nil))) []]),
oS 7 7 30])
(sq (.reg [oA 31 6 7,
oL 32 31,
oE 33 32,
oD 34 (.mov (cI 0))])
(.block 4
(.loop
(sq (kr [2,3,25,26,27,32,33,34] [oB 35 .lss 34 33])
(sq (.cond 35
.skip
(.exit 4))
(sq (.block 5
(sq (.reg [oI 36 3 32 34,
oK 37 3 36,
oD 9 (.box [.int .i64 0,.imm (.int .u64) [],.imm (.int .u8) []]),
oS 3 9 37])
(sq (.reg [oA 38 1 9,
oL 39 38,
oE 40 39,
oD 41 (.mov (cI 0))])
(.block 6
(.loop
(sq (kr [2,3,9,25,26,27,32,33,34,39,40,41] [oB 42 .lss 41 40])
(sq (.cond 42
.skip
(.exit 6))
(sq (.block 7
(sq (.reg [oI 43 1 39 41,
oL 44 43,
oM 11 44])
(sq (kr [2,3,9,11,25,26,27,32,33,34,39,40,41] [oA 45 0 9,
oL 46 45,
oC 47 127 [46],
oD 48 (.field none 0 47),
oB 49 .eql 48 (cI 1),
oM 50 49,
oT 50 51 (.mov 11),
oT 50 52 (.bin .lss 51 (.c (.int .u64 256))),
oP 53 50 52 cF,
oM 54 53,
oT 54 55 (.mov 3),
oT 54 56 (.mov 11),
oT 54 57 (.mget (.int .u64) (.int .i64) (0:Int) false 55 56),
oT 54 58 (.bin .eql 57 (cI 0)),
oP 59 54 58 cF])
(.cond 59
(sq (kr [2,3,9,11,25,26,27,32,33,34,39,40,41] [oM 60 3,
oM 61 11,
oD 62 (.mget (.int .u64) (.int .i64) (0:Int) false 60 61),
oB 63 .add 62 (cI 1),
oN (.mput (.int .u64) (.int .i64) 60 61 63)])
(kr [2,3,9,11,25,26,27,32,33,34,39,40,41] [oM 64 2,
oM 65 11,
oD 66 (.conv .i64 65),
oD 67 (.sliceAll (.int .i64) 1 [(0,1,66)]),
oD 68 (.append (.int .i64) 8 64 67),
oM 2 68]))
.skip))))
(kr [2,3,9,25,26,27,32,33,34,39,40,41] [oB 69 .add 41 (cI 1),
oM 41 69])))))))))
(kr [2,3,25,26,27,32,33,34] [oB 70 .add 34 (cI 1),
oM 34 70])))))))))
(kr [2,3,25,26,27] [oB 71 .add 27 (cI 1),
oM 27 71])))))))
(sq (kr [2] [oM 72 2,
oD 73 (.call true (.f 128) [72])])
(sq (.reg [oM 74 2,
oM 2 74])
.ret))))))
def yj_:List RD:=[.tmp 2 true (some (.int .i64))]
theorem yu_:zo_ Tryz.prog Tryz.f73 yG_ yj_=true:=by kernel_rfl
def Kz_:List AV->List Obj->Option (Prop × AV)
 | [.imm ty0 l],[]=>QU_ ty0 YA l fun l=>some ((okT l,.imm (.int .i64) (lkF l)))
 | _,_=>none
theorem x7_:ze_ Tryz.prog 73 (RoF Kz_).sum:=by
 refine zz_ Tryz.func73 yu_ (zb_ (s:=RoF qo_) qH_ (zb_ (s:=RwF qw_) jV_ (zf_ _))) fun args objs p v e=>?_
 unfold Kz_ at e
 split at e
 ·rename_i ty0 l
  obtain rfl:=ZX_ e
  replace e:=ZY_ e
  cases e
  refine ⟨rfl,fun hw ho hp=>?_⟩
  change List TV at l
  have hnn:=zdW_ (hw (.imm YA l) (by simp))
  clear hw ho
  obtain ⟨hok,hn⟩:=hp
  repeat'(intro t ht;first|(cases t<;>first|(cases ht;done)|(try simp only[zh_]at ht;try(exfalso;first|contradiction|omega)))|((first|refine za_ ht ?_|refine ht ?_ ?_|refine ht.1 ?_ ?_|refine ht ?_)<;>clear ht))
  all_goals first
   | exact True.intro
   | (intro r h1 h2;clear h1;refine h2 ⟨[],[0,2,3,13,14,15],Nat × List (Int × Int),(fun a=>a.1<=l.length/\cntM a.2 (QM_ (l.take a.1))),fun a=>[.imm YA l,.own 0,.mapv 1,.imm YA l,.int .i64 l.length,.int .i64 a.1],fun a=>[.row false (.int .i64) [],.map true (.int .u64) (.int .i64) a.2],fun a=>l.length - a.1,⟨(0,[]),⟨Nat.zero_le _,XK_⟩,rfl,rfl⟩,?_⟩;clear h2)
  rintro ⟨i,m⟩ ⟨hi,hm⟩
  dsimp only at hi hm
  have hsn:=fun (d:TV) (h:i < l.length)=>zaq_ h d
  have hr:=hm.r
  have hil:(QM_ (l.take i)).length<=i:=by unfold QM_;rw [List.length_map,List.length_take];omega
  have hfull:l.length<=i->QM_ (l.take i)=QM_ l:=fun h=>by rw [List.take_of_length_le h]
  repeat'(intro t ht;first|(cases t<;>first|(cases ht;done)|(try simp only[zh_]at ht;try(exfalso;first|contradiction|omega)))|((first|refine za_ ht ?_|refine ht ?_ ?_|refine ht.1 ?_ ?_|refine ht ?_)<;>clear ht))
  all_goals (try generalize hod:(Ty.dflt YA)=od at*)
  all_goals first
   | exact True.intro
   | omega
   | ((try simp only [zI_,zK_,zn_] at*);omega)
   | (have hc:=hr (l.getD i od).1
      exact (show IntKind.i64.min<=(zx_ m (l.getD i od).1).getD 0+1/\(zx_ m (l.getD i od).1).getD 0+1<=IntKind.i64.max from by simp only [zn_];omega))
   | (refine ⟨(i+1,QJ_ m (l.getD i od).1 ((zx_ m (l.getD i od).1).getD 0+1)),⟨by dsimp only;omega,?_⟩,by dsimp only;omega,rfl,rfl⟩
      dsimp only;rw [hsn od (by omega)];exact vd_ hm)
   | (intro r h1 h2;clear h1;refine h2 ⟨[],[2,3,25,26,27],Nat × List (Int × Int),(fun a=>a.1<=l.length/\cntM a.2 (QM_ l++lkO (QM_ l) (k9_ (l.take a.1)))),fun a=>[.own 0,.mapv 1,.imm YA l,.int .i64 l.length,.int .i64 a.1],fun a=>[.row false (.int .i64) (lkO (QM_ l) (k9_ (l.take a.1))),.map true (.int .u64) (.int .i64) a.2],fun a=>l.length - a.1,⟨(0,m),⟨Nat.zero_le _,by have h:=hfull (by omega);rw [h] at hm;exact (List.append_nil (QM_ l)).symm ▸ hm⟩,rfl,rfl⟩,?_⟩;clear h2)
  rintro ⟨i,m⟩ ⟨hi,hm⟩
  dsimp only at hi hm
  have h256:=UD_ (ids:=QM_ l) (nn_L hnn i)
  have hend:l.length<=i->lkO (QM_ l) (k9_ (l.take i))=lkO (QM_ l) (k9_ l):=fun h=>by rw [List.take_of_length_le h]
  have hsr:=zdp_ l
  repeat'(intro t ht;first|(cases t<;>first|(cases ht;done)|(try simp only[zh_]at ht;try(exfalso;first|contradiction|omega)))|((first|refine za_ ht ?_|refine ht ?_ ?_|refine ht.1 ?_ ?_|refine ht ?_)<;>clear ht))
  all_goals first
   | exact True.intro
   | omega
   | ((try simp only [zI_,zK_,zn_] at*);omega)
   | (have e:=hend (by omega)
      refine ⟨?_,rfl⟩
      dsimp only
      rw [e,hsr])
   | (intro r h1 h2;clear h1;refine h2 ⟨[],[2,3,25,26,27,32,33,34],Nat × List (Int × Int),(fun a=>a.1<=(l.getD i (Ty.dflt YA)).2.2.2.2.2.2.1.length/\cntM a.2 (QM_ l++lkO (QM_ l) (YD_ l i a.1 (Ty.dflt YA)))),fun a=>[.own 0,.mapv 1,.imm YA l,.int .i64 l.length,.int .i64 i,.imm (.cons (.int .i64) (.cons (.sl (.int .u64)) (.cons (.sl (.int .u8)) .nil))) (l.getD i (Ty.dflt YA)).2.2.2.2.2.2.1,.int .i64 ((l.getD i (Ty.dflt YA)).2.2.2.2.2.2.1.length:Int),.int .i64 a.1],fun a=>[.row false (.int .i64) (lkO (QM_ l) (YD_ l i a.1 (Ty.dflt YA))),.map true (.int .u64) (.int .i64) a.2],fun a=>(l.getD i (Ty.dflt YA)).2.2.2.2.2.2.1.length - a.1,⟨(0,m),⟨Nat.zero_le _,by rw [BE_];exact hm⟩,rfl,(by show _=[Obj.row false (.int .i64) (lkO (QM_ l) (YD_ l i 0 (Ty.dflt YA))),.map true (.int .u64) (.int .i64) m];rw [BE_])⟩,?_⟩;clear h2)
  have hlt:i < l.length:=by omega
  have hFok:=hok _ (zv_ hlt (Ty.dflt YA))
  clear hm h256 hend hsr
  rintro ⟨j,m⟩ ⟨hj,hm⟩
  dsimp only at hj hm
  have h256:=UD_ (ids:=QM_ l) (nn_3 hnn hlt j (Ty.dflt YA))
  have hend:=fun h=>BD_ (l:=l) (i:=i) (j:=j) (d:=(Ty.dflt YA)) hlt h
  have hFn:=hFok.n
  repeat'(intro t ht;first|(cases t<;>first|(cases ht;done)|(try simp only[zh_]at ht;try(exfalso;first|contradiction|omega)))|((first|refine za_ ht ?_|refine ht ?_ ?_|refine ht.1 ?_ ?_|refine ht ?_)<;>clear ht))
  all_goals first
   | exact True.intro
   | omega
   | ((try simp only [zI_,zK_,zn_] at*);omega)
   | (refine ⟨(i+1,m),⟨by dsimp only;omega,?_⟩,by dsimp only;omega,rfl,?_⟩
      ·dsimp only;rw [<- hend (by omega)];exact hm
      ·dsimp only;rw [<- hend (by omega)])
   | (intro r h1 h2;clear h1;refine h2 ⟨[],[2,3,9,25,26,27,32,33,34,39,40,41],Nat × List (Int × Int),(fun a=>a.1<=((l.getD i (Ty.dflt YA)).2.2.2.2.2.2.1.getD j (Ty.dflt (.cons (.int .i64) (.cons (.sl (.int .u64)) (.cons (.sl (.int .u8)) .nil))))).2.1.length/\cntM a.2 (QM_ l++lkO (QM_ l) (YC_ l i j a.1 (Ty.dflt YA) ((l.getD i (Ty.dflt YA)).2.2.2.2.2.2.1.getD j (Ty.dflt (.cons (.int .i64) (.cons (.sl (.int .u64)) (.cons (.sl (.int .u8)) .nil)))))))),fun a=>[.own 0,.mapv 1,.ptr 2 0,.imm YA l,.int .i64 l.length,.int .i64 i,.imm (.cons (.int .i64) (.cons (.sl (.int .u64)) (.cons (.sl (.int .u8)) .nil))) (l.getD i (Ty.dflt YA)).2.2.2.2.2.2.1,.int .i64 ((l.getD i (Ty.dflt YA)).2.2.2.2.2.2.1.length:Int),.int .i64 j,.imm (.int .u64) ((l.getD i (Ty.dflt YA)).2.2.2.2.2.2.1.getD j (Ty.dflt (.cons (.int .i64) (.cons (.sl (.int .u64)) (.cons (.sl (.int .u8)) .nil))))).2.1,.int .i64 (((l.getD i (Ty.dflt YA)).2.2.2.2.2.2.1.getD j (Ty.dflt (.cons (.int .i64) (.cons (.sl (.int .u64)) (.cons (.sl (.int .u8)) .nil))))).2.1.length:Int),.int .i64 a.1],fun a=>[.row false (.int .i64) (lkO (QM_ l) (YC_ l i j a.1 (Ty.dflt YA) ((l.getD i (Ty.dflt YA)).2.2.2.2.2.2.1.getD j (Ty.dflt (.cons (.int .i64) (.cons (.sl (.int .u64)) (.cons (.sl (.int .u8)) .nil))))))),.map true (.int .u64) (.int .i64) a.2,.box [.int .i64 ((l.getD i (Ty.dflt YA)).2.2.2.2.2.2.1.getD j (Ty.dflt (.cons (.int .i64) (.cons (.sl (.int .u64)) (.cons (.sl (.int .u8)) .nil))))).1,.imm (.int .u64) ((l.getD i (Ty.dflt YA)).2.2.2.2.2.2.1.getD j (Ty.dflt (.cons (.int .i64) (.cons (.sl (.int .u64)) (.cons (.sl (.int .u8)) .nil))))).2.1,.imm (.int .u8) ((l.getD i (Ty.dflt YA)).2.2.2.2.2.2.1.getD j (Ty.dflt (.cons (.int .i64) (.cons (.sl (.int .u64)) (.cons (.sl (.int .u8)) .nil))))).2.2.1]],fun a=>((l.getD i (Ty.dflt YA)).2.2.2.2.2.2.1.getD j (Ty.dflt (.cons (.int .i64) (.cons (.sl (.int .u64)) (.cons (.sl (.int .u8)) .nil))))).2.1.length - a.1,⟨(0,m),⟨Nat.zero_le _,by rw [BC_];exact hm⟩,rfl,(by show _=[Obj.row false (.int .i64) (lkO (QM_ l) (YC_ l i j 0 (Ty.dflt YA) ((l.getD i (Ty.dflt YA)).2.2.2.2.2.2.1.getD j (Ty.dflt (.cons (.int .i64) (.cons (.sl (.int .u64)) (.cons (.sl (.int .u8)) .nil))))))),.map true (.int .u64) (.int .i64) m,.box [.int .i64 ((l.getD i (Ty.dflt YA)).2.2.2.2.2.2.1.getD j (Ty.dflt (.cons (.int .i64) (.cons (.sl (.int .u64)) (.cons (.sl (.int .u8)) .nil))))).1,.imm (.int .u64) ((l.getD i (Ty.dflt YA)).2.2.2.2.2.2.1.getD j (Ty.dflt (.cons (.int .i64) (.cons (.sl (.int .u64)) (.cons (.sl (.int .u8)) .nil))))).2.1,.imm (.int .u8) ((l.getD i (Ty.dflt YA)).2.2.2.2.2.2.1.getD j (Ty.dflt (.cons (.int .i64) (.cons (.sl (.int .u64)) (.cons (.sl (.int .u8)) .nil))))).2.2.1]];rw [BC_];rfl)⟩,?_⟩;clear h2)
  have hjt:j < (l.getD i (Ty.dflt YA)).2.2.2.2.2.2.1.length:=by omega
  have hGok:=hFok.a _ (zv_ hjt (Ty.dflt (.cons (.int .i64) (.cons (.sl (.int .u64)) (.cons (.sl (.int .u8)) .nil)))))
  clear hm h256 hend
  rintro ⟨k,m⟩ ⟨hk,hm⟩
  dsimp only at hk hm
  have h256:=UD_ (ids:=QM_ l) (nn_4 hnn hlt (Ty.dflt YA) (Ty.dflt (.cons (.int .i64) (.cons (.sl (.int .u64)) (.cons (.sl (.int .u8)) .nil)))) hjt k)
  have hend:=fun h=>BB_ (l:=l) (i:=i) (j:=j) (k:=k) (d:=(Ty.dflt YA)) (e:=(Ty.dflt (.cons (.int .i64) (.cons (.sl (.int .u64)) (.cons (.sl (.int .u8)) .nil))))) hjt h
  have hsn:=fun h=>bj_ (l:=l) (i:=i) (j:=j) (k:=k) (d:=(Ty.dflt YA)) (g:=((l.getD i (Ty.dflt YA)).2.2.2.2.2.2.1.getD j (Ty.dflt (.cons (.int .i64) (.cons (.sl (.int .u64)) (.cons (.sl (.int .u8)) .nil)))))) h
  have hst:=fun h h1=>zbZ_ (n:=((l.getD i (Ty.dflt YA)).2.2.2.2.2.2.1.getD j (Ty.dflt (.cons (.int .i64) (.cons (.sl (.int .u64)) (.cons (.sl (.int .u8)) .nil))))).2.1.getD k 0) hm h h1
  have hsk:=fun h=>zb0_ (n:=((l.getD i (Ty.dflt YA)).2.2.2.2.2.2.1.getD j (Ty.dflt (.cons (.int .i64) (.cons (.sl (.int .u64)) (.cons (.sl (.int .u8)) .nil))))).2.1.getD k 0) hm h
  have hr:=hm.r (((l.getD i (Ty.dflt YA)).2.2.2.2.2.2.1.getD j (Ty.dflt (.cons (.int .i64) (.cons (.sl (.int .u64)) (.cons (.sl (.int .u8)) .nil))))).2.1.getD k 0)
  have hn0:=fun h:k < ((l.getD i (Ty.dflt YA)).2.2.2.2.2.2.1.getD j (Ty.dflt (.cons (.int .i64) (.cons (.sl (.int .u64)) (.cons (.sl (.int .u8)) .nil))))).2.1.length=>hnn.h _ (zv_ hlt (Ty.dflt YA)) _ (zv_ hjt (Ty.dflt (.cons (.int .i64) (.cons (.sl (.int .u64)) (.cons (.sl (.int .u8)) .nil))))) _ (zv_ h 0)
  have hln:(QM_ l++lkO (QM_ l) (YC_ l i j k (Ty.dflt YA) ((l.getD i (Ty.dflt YA)).2.2.2.2.2.2.1.getD j (Ty.dflt (.cons (.int .i64) (.cons (.sl (.int .u64)) (.cons (.sl (.int .u8)) .nil))))))).length<=100000:=by
   have:(QM_ l).length=l.length:=List.length_map ..
   rw [List.length_append];omega
  repeat'(intro t ht;first|(cases t<;>first|(cases ht;done)|(try simp only[zh_]at ht;try(exfalso;first|contradiction|omega)))|((first|refine za_ ht ?_|refine ht ?_ ?_|refine ht.1 ?_ ?_|refine ht ?_)<;>clear ht))
  all_goals (try generalize (Ty.dflt YA)=od at*)
  all_goals (try generalize (Ty.dflt (.cons (.int .i64) (.cons (.sl (.int .u64)) (.cons (.sl (.int .u8)) .nil))))=oe at*)
  all_goals first
   | exact True.intro
   | omega
   | exact ⟨by dsimp only;omega,by dsimp only;omega⟩
   | ((try dsimp only);simp only [zn_];omega)
   | (dsimp only;simp only [List.length_cons,List.length_nil];constructor<;>omega)
   | (refine ⟨(j+1,m),⟨by dsimp only;omega,?_⟩,by dsimp only;omega,rfl,?_⟩
      ·dsimp only;rw [<- hend (by omega)];exact hm
      ·dsimp only;rw [<- hend (by omega)])
   | exact (show IntKind.i64.min<=(zx_ m (((l.getD i od).2.2.2.2.2.2.1.getD j oe).2.1.getD k 0)).getD 0+1/\(zx_ m (((l.getD i od).2.2.2.2.2.2.1.getD j oe).2.1.getD k 0)).getD 0+1<=IntKind.i64.max from by simp only [zn_];omega)
   | (have hz:=hn0 (by omega)
      exact (show IntKind.i64.min<=(((l.getD i od).2.2.2.2.2.2.1.getD j oe).2.1.getD k 0)/\(((l.getD i od).2.2.2.2.2.2.1.getD j oe).2.1.getD k 0)<=IntKind.i64.max from by simp only [zn_];omega))
   | (have c:szT ((l.getD i od).2.2.2.2.2.2.1.getD j oe).1=1:=by assumption
      have c2:(((l.getD i od).2.2.2.2.2.2.1.getD j oe).2.1.getD k 0) < 256:=by assumption
      have c3:(zx_ m (((l.getD i od).2.2.2.2.2.2.1.getD j oe).2.1.getD k 0)).getD 0=0:=by assumption
      obtain ⟨e1,e2⟩:=hst c3 c2
      have e3:=hsn (by omega)
      rw [if_pos c] at e3
      refine ⟨(k+1,QJ_ m (((l.getD i od).2.2.2.2.2.2.1.getD j oe).2.1.getD k 0) ((zx_ m (((l.getD i od).2.2.2.2.2.2.1.getD j oe).2.1.getD k 0)).getD 0+1)),⟨by dsimp only;omega,?_⟩,by dsimp only;omega,rfl,?_⟩
      ·dsimp only;rw [e3];exact e2
      ·dsimp only;rw [e3,e1];rfl)
   | (have c:¬ szT ((l.getD i od).2.2.2.2.2.2.1.getD j oe).1=1:=by assumption
      have e3:=hsn (by omega)
      rw [if_neg c,List.append_nil] at e3
      refine ⟨(k+1,m),⟨by dsimp only;omega,?_⟩,by dsimp only;omega,rfl,?_⟩
      ·dsimp only;rw [e3];exact hm
      ·dsimp only;rw [e3])
   | (have c:szT ((l.getD i od).2.2.2.2.2.2.1.getD j oe).1=1:=by assumption
      have c2:¬ ((((l.getD i od).2.2.2.2.2.2.1.getD j oe).2.1.getD k 0) < 256/\(zx_ m (((l.getD i od).2.2.2.2.2.2.1.getD j oe).2.1.getD k 0)).getD 0=0):=by
       first
        | (have q:¬ (((l.getD i od).2.2.2.2.2.2.1.getD j oe).2.1.getD k 0) < 256:=by assumption
           exact fun z=>q z.1)
        | (have q:¬ (zx_ m (((l.getD i od).2.2.2.2.2.2.1.getD j oe).2.1.getD k 0)).getD 0=0:=by assumption
           exact fun z=>q z.2)
      have e1:=hsk c2
      have e3:=hsn (by omega)
      rw [if_pos c] at e3
      refine ⟨(k+1,m),⟨by dsimp only;omega,?_⟩,by dsimp only;omega,rfl,?_⟩
      ·dsimp only;rw [e3,e1];exact hm
      ·dsimp only;rw [e3,e1])
 ·cases e
theorem zdx_ {a b:FV} (h1:a.1=b.1) (h2:a.2.1=b.2.1) (h3:a.2.2.1=b.2.2.1):a=b:=by
 obtain ⟨a1,a2,a3,_⟩:=a
 obtain ⟨b1,b2,b3,_⟩:=b
 dsimp only at h1 h2 h3
 rw [h1,h2,h3]
theorem Bf_ {a b:TV} (h1:a.1=b.1) (h2:a.2.1=b.2.1) (h3:a.2.2.1=b.2.2.1) (h4:a.2.2.2.1=b.2.2.2.1) (h5:a.2.2.2.2.1=b.2.2.2.2.1) (h6:a.2.2.2.2.2.1=b.2.2.2.2.2.1) (h7:a.2.2.2.2.2.2.1=b.2.2.2.2.2.2.1):a=b:=by
 obtain ⟨a1,a2,a3,a4,a5,a6,a7,_⟩:=a
 obtain ⟨b1,b2,b3,b4,b5,b6,b7,_⟩:=b
 dsimp only at h1 h2 h3 h4 h5 h6 h7
 rw [h1,h2,h3,h4,h5,h6,h7]
instance decTV (a b:TV):Decidable (a=b):=decidable_of_iff (a.1=b.1/\a.2.1=b.2.1/\a.2.2.1=b.2.2.1/\a.2.2.2.1=b.2.2.2.1/\a.2.2.2.2.1=b.2.2.2.2.1/\a.2.2.2.2.2.1=b.2.2.2.2.2.1/\a.2.2.2.2.2.2.1=b.2.2.2.2.2.2.1) ⟨fun ⟨h1,h2,h3,h4,h5,h6,h7⟩=>Bf_ h1 h2 h3 h4 h5 h6 h7,fun h=>by rw [h];exact ⟨rfl,rfl,rfl,rfl,rfl,rfl,rfl⟩⟩
def Gd_:IR:=
(sq (kr [0,1] [oD 4 (.mov cF)])
(sq (sq (kr [0,1] [oM 6 0,
oE 7 6,
oM 8 1,
oE 9 8,
oB 10 .neq 7 9])
(.cond 10
(sq (.reg [oD 4 (.mov cF)])
.ret)
.skip))
(sq (sq (kr [0,1] [oD 5 (.mov (cI 0))])
(.block 0
(.loop
(sq (sq (kr [0,1,5] [oM 11 5,
oM 12 0,
oE 13 12,
oB 14 .lss 11 13])
(.cond 14
.skip
(.exit 0)))
(sq (.block 1
(sq (kd [0,1,5] [(oM 17 0,[]),
(oM 18 5,[0]),
(oI 19 1 17 18,[]),
(oL 20 19,[]),
(oM 21 1,[0,0,0,0]),
(oM 22 5,[0,0,0,0,0]),
(oI 23 1 21 22,[2,0,0,0]),
(oL 24 23,[3,0,0,0]),
(oB 25 .neq 20 24,[])])
(.cond 25
(sq (kr [] [oD 4 (.mov cF)])
.ret)
.skip)))
(kr [0,1,5] [oM 15 5,
oB 16 .add 15 (cI 1),
oM 5 16]))))))
(sq (kr [] [oD 4 (.mov cT)])
.ret))))
def gC_:List RD:=[.tmp 4 true none]
theorem gO_:zo_ Tryz.prog Tryz.f133 Gd_ gC_=true:=by kernel_rfl
def xU_:List AV->List Obj->Option (Prop × AV)
 | [.imm (.int .u64) a,.imm (.int .u64) b],[]=>some ((True,.bool (decide ((a:List Int)=b))))
 | _,_=>none
theorem u7_:ze_ Tryz.prog 133 (RoF xU_).sum:=by
 refine zz_ Tryz.func133 gO_ (zf_ _) fun args objs p v e=>?_
 unfold xU_ at e
 split at e
 ·rename_i a b
  cases e
  refine ⟨rfl,fun hw ho hp=>?_⟩
  change List Int at a
  change List Int at b
  change List Int at a
  change List Int at b
  have hl:a.length<=maxLen:=(hw (.imm (.int .u64) a) (by simp)).2
  unfold maxLen at hl
  clear hw ho
  repeat'(intro t ht;first|(cases t<;>first|(cases ht;done)|(try simp only[zh_]at ht))|((first|refine za_ ht ?_|refine ht ?_ ?_|refine ht.1 ?_ ?_|refine ht ?_)<;>clear ht))
  all_goals first
   | (have hne:a ≠ b:=fun h=>(by assumption:¬ (a.length:Int)=b.length) (by rw [h])
      refine ⟨?_,rfl⟩;rw [decide_eq_false hne];done)
   | (intro r h1 h2;clear h1;refine h2 ⟨[],[0,1,5],Nat,(fun i=>i<=a.length/\a.take i=b.take i),fun i=>[.imm (.int .u64) a,.imm (.int .u64) b,.int .i64 i],fun _=>[],fun i=>a.length - i,⟨0,⟨Nat.zero_le _,rfl⟩,rfl,rfl⟩,?_⟩;clear h2)
  rintro i ⟨hi,he⟩
  have hl2:a.length=b.length:=by omega
  repeat'(intro t ht;first|(cases t<;>first|(cases ht;done)|(try simp only[zh_]at ht;try(exfalso;first|contradiction|omega)))|((first|refine za_ ht ?_|refine ht ?_ ?_|refine ht.1 ?_ ?_|refine ht ?_)<;>clear ht))
  all_goals first
   | exact True.intro
   | ((try simp only [zI_,zK_,zn_] at*);omega)
   | (have e:=y4_ he (by omega) hl2
      refine ⟨?_,rfl⟩;rw [decide_eq_true e];done)
   | (have hne:a ≠ b:=gj_ (d:=0) (i:=i) (by assumption)
      refine ⟨?_,rfl⟩;rw [decide_eq_false hne];done)
   | exact ⟨i+1,⟨by omega,wN_ he (by omega) hl2 (d:=0) (by assumption)⟩,by (try simp only [zI_,zK_,zn_] at*);omega,rfl,rfl⟩
   | skip
 ·cases e
def UM_:IR:=
(sq (kr [0,1] [oD 4 (.mov cF)])
(sq (sq (kr [0,1] [oM 6 0,
oE 7 6,
oM 8 1,
oE 9 8,
oB 10 .neq 7 9])
(.cond 10
(sq (.reg [oD 4 (.mov cF)])
.ret)
.skip))
(sq (sq (kr [0,1] [oD 5 (.mov (cI 0))])
(.block 0
(.loop
(sq (sq (kr [0,1,5] [oM 11 5,
oM 12 0,
oE 13 12,
oB 14 .lss 11 13])
(.cond 14
.skip
(.exit 0)))
(sq (.block 1
(sq (kd [0,1,5] [(oM 17 0,[]),
(oM 18 5,[0]),
(oI 19 3 17 18,[]),
(oA 20 0 19,[]),
(oL 21 20,[]),
(oM 22 1,[0,0,0,0,0]),
(oM 23 5,[0,0,0,0,0,0]),
(oI 24 3 22 23,[2,0,0,0,0]),
(oA 25 0 24,[3,0,0,0,0]),
(oL 26 25,[4,0,0,0,0]),
(oB 27 .neq 21 26,[]),
(oM 28 27,[]),
(oF 28 29 (.mov 0),[]),
(oF 28 30 (.mov 5),[0]),
(oF 28 31 (.indexSl 3 29 30),[]),
(oF 28 32 (.fieldAddr 1 31),[]),
(oF 28 33 (.load none 32),[]),
(oF 28 34 (.mov 1),[0,0,0,0,0]),
(oF 28 35 (.mov 5),[0,0,0,0,0,0]),
(oF 28 36 (.indexSl 3 34 35),[2,0,0,0,0]),
(oF 28 37 (.fieldAddr 1 36),[3,0,0,0,0]),
(oF 28 38 (.load none 37),[4,0,0,0,0]),
(oF 28 39 (.call false (.f 133) [33,38]),[]),
(oF 28 40 (.un .not 39),[]),
(oP 41 28 cT 40,[]),
(oM 42 41,[]),
(oF 42 43 (.mov 0),[]),
(oF 42 44 (.mov 5),[0]),
(oF 42 45 (.indexSl 3 43 44),[]),
(oF 42 46 (.fieldAddr 2 45),[]),
(oF 42 47 (.load none 46),[]),
(oF 42 48 (.mov 1),[0,0,0,0,0]),
(oF 42 49 (.mov 5),[0,0,0,0,0,0]),
(oF 42 50 (.indexSl 3 48 49),[2,0,0,0,0]),
(oF 42 51 (.fieldAddr 2 50),[3,0,0,0,0]),
(oF 42 52 (.load none 51),[4,0,0,0,0]),
(oF 42 53 (.call false (.f 20) [47,52]),[]),
(oF 42 54 (.un .not 53),[]),
(oP 55 42 cT 54,[])])
(.cond 55
(sq (kr [] [oD 4 (.mov cF)])
.ret)
.skip)))
(kr [0,1,5] [oM 15 5,
oB 16 .add 15 (cI 1),
oM 5 16]))))))
(sq (kr [] [oD 4 (.mov cT)])
.ret))))
def Ui_:List RD:=[.tmp 4 true none]
theorem Uv_:zo_ Tryz.prog Tryz.f77 UM_ Ui_=true:=by kernel_rfl
def WG_:List AV->List Obj->Option (Prop × AV)
 | [.imm (.cons (.int .i64) (.cons (.sl (.int .u64)) (.cons (.sl (.int .u8)) .nil))) a,.imm (.cons (.int .i64) (.cons (.sl (.int .u64)) (.cons (.sl (.int .u8)) .nil))) b],[]=>some ((True,.bool (decide ((a:List FV)=b))))
 | _,_=>none
theorem VL_:ze_ Tryz.prog 77 (RoF WG_).sum:=by
 refine zz_ Tryz.func77 Uv_ (zb_ (s:=RoF xU_) u7_ (zb_ (s:=RoF Kl_) jE_ (zf_ _))) fun args objs p v e=>?_
 unfold WG_ at e
 split at e
 ·rename_i a b
  cases e
  refine ⟨rfl,fun hw ho hp=>?_⟩
  change List FV at a
  change List FV at b
  have hl:a.length<=maxLen:=(hw (.imm (.cons (.int .i64) (.cons (.sl (.int .u64)) (.cons (.sl (.int .u8)) .nil))) a) (by simp)).2
  unfold maxLen at hl
  clear hw ho
  repeat'(intro t ht;first|(cases t<;>first|(cases ht;done)|(try simp only[zh_]at ht))|((first|refine za_ ht ?_|refine ht ?_ ?_|refine ht.1 ?_ ?_|refine ht ?_)<;>clear ht))
  all_goals first
   | (have hne:a ≠ b:=fun h=>(by assumption:¬ (a.length:Int)=b.length) (by rw [h])
      refine ⟨?_,rfl⟩;rw [decide_eq_false hne];done)
   | (intro r h1 h2;clear h1;refine h2 ⟨[],[0,1,5],Nat,(fun i=>i<=a.length/\a.take i=b.take i),fun i=>[.imm (.cons (.int .i64) (.cons (.sl (.int .u64)) (.cons (.sl (.int .u8)) .nil))) a,.imm (.cons (.int .i64) (.cons (.sl (.int .u64)) (.cons (.sl (.int .u8)) .nil))) b,.int .i64 i],fun _=>[],fun i=>a.length - i,⟨0,⟨Nat.zero_le _,rfl⟩,rfl,rfl⟩,?_⟩;clear h2)
  rintro i ⟨hi,he⟩
  have hl2:a.length=b.length:=by omega
  repeat'(intro t ht;first|(cases t<;>first|(cases ht;done)|(try simp only[zh_]at ht;try(exfalso;first|contradiction|omega)))|((first|refine za_ ht ?_|refine ht ?_ ?_|refine ht.1 ?_ ?_|refine ht ?_)<;>clear ht))
  all_goals (try generalize (Ty.dflt (.cons (.int .i64) (.cons (.sl (.int .u64)) (.cons (.sl (.int .u8)) .nil))))=od at*)
  all_goals first
   | exact True.intro
   | omega
   | ((try dsimp only);simp only [zn_];omega)
   | (have e:=y4_ he (by omega) hl2
      refine ⟨?_,rfl⟩;rw [decide_eq_true e];done)
   | (have hne:a ≠ b:=gj_ (d:=od) (i:=i) (fun h=>by rw [h] at ht;revert ht;simp)
      refine ⟨?_,rfl⟩;rw [decide_eq_false hne];done)
   | exact ⟨i+1,⟨by omega,wN_ he (by omega) hl2 (d:=od) (zdx_ (by assumption) (by assumption) (by assumption))⟩,by dsimp only;omega,rfl,rfl⟩
 ·cases e
def Gb_:IR:=
(sq (kr [0,1] [oD 4 (.mov cF)])
(sq (sq (kr [0,1] [oM 8 0,
oE 9 8,
oM 10 1,
oE 11 10,
oB 12 .neq 9 11])
(.cond 12
(sq (.reg [oD 4 (.mov cF)])
.ret)
.skip))
(sq (sq (kr [0,1] [oD 5 (.mov (cI 0))])
(.block 0
(.loop
(sq (sq (kr [0,1,5] [oM 13 5,
oM 14 0,
oE 15 14,
oB 16 .lss 13 15])
(.cond 16
.skip
(.exit 0)))
(sq (.block 1
(sq (kd [0,1,5] [(oM 19 0,[]),
(oM 20 5,[0]),
(oI 21 7 19 20,[]),
(oK 22 7 21,[]),
(oM 23 1,[0,0,0,0]),
(oM 24 5,[0,0,0,0,0]),
(oI 25 7 23 24,[2,0,0,0]),
(oK 26 7 25,[3,0,0,0]),
(oD 6 (.box [.int .u64 0,.str [],.int .u64 0,.int .u64 0,.int .u64 0,.int .u64 0,.imm (.cons (.int .i64) (.cons (.sl (.int .u64)) (.cons (.sl (.int .u8)) .nil))) []]),[0,0,0,0,0,0,0,0]),
(oD 7 (.box [.int .u64 0,.str [],.int .u64 0,.int .u64 0,.int .u64 0,.int .u64 0,.imm (.cons (.int .i64) (.cons (.sl (.int .u64)) (.cons (.sl (.int .u8)) .nil))) []]),[0,0,0,0,0,0,0,0,0]),
(oS 7 6 22,[2,0,0,0]),
(oS 7 7 26,[])])
(sq (kr [0,1,5,6,7] [oA 27 0 6,
oL 28 27,
oA 29 0 7,
oL 30 29,
oB 31 .eql 28 30,
oM 32 31,
oT 32 33 (.fieldAddr 1 6),
oT 32 34 (.load none 33),
oT 32 35 (.fieldAddr 1 7),
oT 32 36 (.load none 35),
oT 32 37 (.bin .eql 34 36),
oP 38 32 37 cF,
oM 39 38,
oT 39 40 (.fieldAddr 2 6),
oT 39 41 (.load none 40),
oT 39 42 (.fieldAddr 2 7),
oT 39 43 (.load none 42),
oT 39 44 (.bin .eql 41 43),
oP 45 39 44 cF,
oM 46 45,
oT 46 47 (.fieldAddr 3 6),
oT 46 48 (.load none 47),
oT 46 49 (.fieldAddr 3 7),
oT 46 50 (.load none 49),
oT 46 51 (.bin .eql 48 50),
oP 52 46 51 cF,
oM 53 52,
oT 53 54 (.fieldAddr 4 6),
oT 53 55 (.load none 54),
oT 53 56 (.fieldAddr 4 7),
oT 53 57 (.load none 56),
oT 53 58 (.bin .eql 55 57),
oP 59 53 58 cF,
oM 60 59,
oT 60 61 (.fieldAddr 5 6),
oT 60 62 (.load none 61),
oT 60 63 (.fieldAddr 5 7),
oT 60 64 (.load none 63),
oT 60 65 (.bin .eql 62 64),
oP 66 60 65 cF,
oM 67 66,
oT 67 68 (.fieldAddr 6 6),
oT 67 69 (.load none 68),
oT 67 70 (.fieldAddr 6 7),
oT 67 71 (.load none 70),
oT 67 72 (.call false (.f 77) [69,71]),
oP 73 67 72 cF,
oD 74 (.un .not 73)])
(.cond 74
(sq (kr [] [oD 4 (.mov cF)])
.ret)
.skip))))
(kr [0,1,5] [oM 17 5,
oB 18 .add 17 (cI 1),
oM 5 18]))))))
(sq (kr [] [oD 4 (.mov cT)])
.ret))))
def gA_:List RD:=[.tmp 4 true none]
theorem gM_:zo_ Tryz.prog Tryz.f33 Gb_ gA_=true:=by kernel_rfl
def xS_:List AV->List Obj->Option (Prop × AV)
 | [.imm ty0 a,.imm ty1 b],[]=>QU_ ty0 YA a fun a=>QU_ ty1 YA b fun b=>some ((True,.bool (decide ((a:List TV)=b))))
 | _,_=>none
theorem u5_:ze_ Tryz.prog 33 (RoF xS_).sum:=by
 refine zz_ Tryz.func33 gM_ (zb_ (s:=RoF WG_) VL_ (zf_ _)) fun args objs p v e=>?_
 unfold xS_ at e
 split at e
 ·rename_i ty0 a ty1 b
  obtain rfl:=ZX_ e
  replace e:=ZY_ e
  obtain rfl:=ZX_ e
  replace e:=ZY_ e
  cases e
  refine ⟨rfl,fun hw ho hp=>?_⟩
  change List TV at a
  change List TV at b
  have hl:a.length<=maxLen:=(hw (.imm YA a) (by simp)).2
  unfold maxLen at hl
  clear hw ho
  repeat'(intro t ht;first|(cases t<;>first|(cases ht;done)|(try simp only[zh_]at ht))|((first|refine za_ ht ?_|refine ht ?_ ?_|refine ht.1 ?_ ?_|refine ht ?_)<;>clear ht))
  all_goals first
   | (have hne:a ≠ b:=fun h=>(by assumption:¬ (a.length:Int)=b.length) (by rw [h])
      refine ⟨?_,rfl⟩;rw [decide_eq_false hne];done)
   | (intro r h1 h2;clear h1;refine h2 ⟨[],[0,1,5],Nat,(fun i=>i<=a.length/\a.take i=b.take i),fun i=>[.imm YA a,.imm YA b,.int .i64 i],fun _=>[],fun i=>a.length - i,⟨0,⟨Nat.zero_le _,rfl⟩,rfl,rfl⟩,?_⟩;clear h2)
  rintro i ⟨hi,he⟩
  have hl2:a.length=b.length:=by omega
  repeat'(intro t ht;first|(cases t<;>first|(cases ht;done)|(try simp only[zh_]at ht;try(exfalso;first|contradiction|omega)))|((first|refine za_ ht ?_|refine ht ?_ ?_|refine ht.1 ?_ ?_|refine ht ?_)<;>clear ht))
  all_goals (try generalize (Ty.dflt YA)=od at*)
  all_goals first
   | exact True.intro
   | omega
   | ((try dsimp only);simp only [zn_];omega)
   | (have e:=y4_ he (by omega) hl2
      refine ⟨?_,rfl⟩;rw [decide_eq_true e];done)
   | (have hne:a ≠ b:=gj_ (d:=od) (i:=i) (fun h=>by rw [h] at ht;revert ht;simp)
      refine ⟨?_,rfl⟩;rw [decide_eq_false hne];done)
   | exact ⟨i+1,⟨by omega,wN_ he (by omega) hl2 (d:=od) (Bf_ (by assumption) (by assumption) (by assumption) (by assumption) (by assumption) (by assumption) (by assumption))⟩,by dsimp only;omega,rfl,rfl⟩
 ·cases e
def S20:List TV:=[(1,[116],0,0,0,0,[(2,[2,3],[],())],())]
def B20:List Int:=[0,72,1,0,0,0,0,0,116,0,0,0,0,0,0,0,0,0,0,0,0,0,0,0,0,0,0,0,0,0,0,0,0,0,0,0,0,0,0,0,0,0,0,0,0,0,0,0,0,0,0,0,0,0,0,0,0,0,0,0,0,0,0,0,0,2,0,6,2,3,0,0]
theorem s20a:tbE S20=0/\tbL S20=B20/\lkF S20=[2,3]/\szT 2=1/\szT 12=4:=by decide+kernel
theorem s20b:fE B20=0/\(fN B20).toNat=72/\B20.length=72/\tlK [0,2,0,6,2,3,0,0]=0/\tT [0,2,0,6,2,3,0,0]=2/\bd [0,2,0,6,2,3,0,0]=[2,3]/\(tlN [0,2,0,6,2,3,0,0]).toNat=8/\fN B20=72:=by decide+kernel
theorem s20n:nuG 2 [2,3]=([2,3],0):=by
 have e1:=gT_ (t:=2) (y:=[2,3]) (by decide) (by decide) (by decide)
 have e2:=gT_ (t:=2) (y:=[3]) (by decide) (by decide) (by decide)
 have e3:=Wf_ (t:=2) (y:=[]) rfl
 rw [e1]
 show (nuV 2 [2,3] :: (nuG 2 [3]).1,(nuG 2 [3]).2)=_
 rw [e2]
 show (nuV 2 [2,3] :: nuV 2 [3] :: (nuG 2 []).1,(nuG 2 []).2)=_
 rw [e3];decide
theorem s20x:ftX [] [0,2,0,6,2,3,0,0]=0/\ftV [] [0,2,0,6,2,3,0,0]=(2,[2,3],[],()):=by
 obtain ⟨_,_,_,_,e5,e6,_⟩:=s20b
 obtain ⟨a,b,c⟩:=bJ_ (D:=false) (t:=2) (x:=[2,3]) (by decide) (by decide) rfl (by decide)
 rw [s20n] at a b
 unfold ftX ftV
 rw [e5,e6]
 have hc:(tyL []).contains (2:Int)=false:=rfl
 rw [hc,a,b,c];exact ⟨rfl,rfl⟩
theorem s20f:fF B20=([(2,[2,3],[],())],0):=by
 obtain ⟨_,e2,_,e4,_,_,e7,_⟩:=s20b
 obtain ⟨x1,x2⟩:=s20x
 unfold fF
 rw [e2]
 show fsG [] 0 [0,2,0,6,2,3,0,0]=_
 rw [uA_ e4,x1,x2,e7]
 show fsG [(2,[2,3],[],())] 0 []=_
 exact xK_ rfl
theorem s20c:fdE B20=0/\fdL B20=S20:=by
 obtain ⟨e1,e2,e3,_⟩:=s20b
 have hX:tbX B20=0:=by rw [zdY_ e1,s20f]
 have hd:=zaJ_ (y:=B20) (by rw [e3];decide) hX
 have hn:fdG (B20.drop (fN B20).toNat)=([],0,0):=hO_ (by rw [e2];rfl)
 rw [hn] at hd
 have hV:tbV B20=(1,[116],0,0,0,0,[(2,[2,3],[],())],()):=by
  have h:u3V (B20.take 64) B20.length=1/\ctB (u6N (B20.take 64) B20.length) 0=[116]/\uS (B20.take 64) B20.length 0=0/\uS (B20.take 64) B20.length 1=0/\uS (B20.take 64) B20.length 2=0/\uS (B20.take 64) B20.length 3=0:=by decide+kernel
  obtain ⟨h1,h2,h3,h4,h5,h6⟩:=h
  unfold tbV
  rw [h1,h2,h3,h4,h5,h6,s20f]
 have hE:fdE B20=0:=by unfold fdE;rw [hd]
 refine ⟨hE,?_⟩
 have hE2:(fdG B20).2.1=0:=hE
 unfold fdL
 rw [if_pos hE2,hd,hV];rfl
theorem s20d:fdE []=0/\fdL []=[]:=by unfold fdE fdL;rw [hO_ rfl];exact ⟨rfl,rfl⟩
theorem s20k:okT S20:=⟨fun x hx=>by
 unfold S20 at hx
 rw [List.mem_singleton] at hx
 subst hx
 exact ⟨fun f hf=>by rw [List.mem_singleton] at hf;subst hf;exact ⟨by simp,by simp⟩,by simp⟩,by unfold S20;simp⟩
def Gc_:IR:=
(sq (kr [0,1] [oD 4 (.mov cF)])
(sq (sq (kr [0,1] [oM 6 0,
oE 7 6,
oM 8 1,
oE 9 8,
oB 10 .neq 7 9])
(.cond 10
(sq (.reg [oD 4 (.mov cF)])
.ret)
.skip))
(sq (sq (kr [0,1] [oD 5 (.mov (cI 0))])
(.block 0
(.loop
(sq (sq (kr [0,1,5] [oM 11 5,
oM 12 0,
oE 13 12,
oB 14 .lss 11 13])
(.cond 14
.skip
(.exit 0)))
(sq (.block 1
(sq (kd [0,1,5] [(oM 17 0,[]),
(oM 18 5,[0]),
(oI 19 1 17 18,[]),
(oL 20 19,[]),
(oM 21 1,[0,0,0,0]),
(oM 22 5,[0,0,0,0,0]),
(oI 23 1 21 22,[2,0,0,0]),
(oL 24 23,[3,0,0,0]),
(oB 25 .neq 20 24,[])])
(.cond 25
(sq (kr [] [oD 4 (.mov cF)])
.ret)
.skip)))
(kr [0,1,5] [oM 15 5,
oB 16 .add 15 (cI 1),
oM 5 16]))))))
(sq (kr [] [oD 4 (.mov cT)])
.ret))))
def gB_:List RD:=[.tmp 4 true none]
theorem gN_:zo_ Tryz.prog Tryz.f72 Gc_ gB_=true:=by kernel_rfl
def xT_:List AV->List Obj->Option (Prop × AV)
 | [.imm (.int .i64) a,.imm (.int .i64) b],[]=>some ((True,.bool (decide ((a:List Int)=b))))
 | _,_=>none
theorem u6_:ze_ Tryz.prog 72 (RoF xT_).sum:=by
 refine zz_ Tryz.func72 gN_ (zf_ _) fun args objs p v e=>?_
 unfold xT_ at e
 split at e
 ·rename_i a b
  cases e
  refine ⟨rfl,fun hw ho hp=>?_⟩
  change List Int at a
  change List Int at b
  change List Int at a
  change List Int at b
  have hl:a.length<=maxLen:=(hw (.imm (.int .i64) a) (by simp)).2
  unfold maxLen at hl
  clear hw ho
  repeat'(intro t ht;first|(cases t<;>first|(cases ht;done)|(try simp only[zh_]at ht))|((first|refine za_ ht ?_|refine ht ?_ ?_|refine ht.1 ?_ ?_|refine ht ?_)<;>clear ht))
  all_goals first
   | (have hne:a ≠ b:=fun h=>(by assumption:¬ (a.length:Int)=b.length) (by rw [h])
      refine ⟨?_,rfl⟩;rw [decide_eq_false hne];done)
   | (intro r h1 h2;clear h1;refine h2 ⟨[],[0,1,5],Nat,(fun i=>i<=a.length/\a.take i=b.take i),fun i=>[.imm (.int .i64) a,.imm (.int .i64) b,.int .i64 i],fun _=>[],fun i=>a.length - i,⟨0,⟨Nat.zero_le _,rfl⟩,rfl,rfl⟩,?_⟩;clear h2)
  rintro i ⟨hi,he⟩
  have hl2:a.length=b.length:=by omega
  repeat'(intro t ht;first|(cases t<;>first|(cases ht;done)|(try simp only[zh_]at ht;try(exfalso;first|contradiction|omega)))|((first|refine za_ ht ?_|refine ht ?_ ?_|refine ht.1 ?_ ?_|refine ht ?_)<;>clear ht))
  all_goals first
   | exact True.intro
   | ((try simp only [zI_,zK_,zn_] at*);omega)
   | (have e:=y4_ he (by omega) hl2
      refine ⟨?_,rfl⟩;rw [decide_eq_true e];done)
   | (have hne:a ≠ b:=gj_ (d:=0) (i:=i) (by assumption)
      refine ⟨?_,rfl⟩;rw [decide_eq_false hne];done)
   | exact ⟨i+1,⟨by omega,wN_ he (by omega) hl2 (d:=0) (by assumption)⟩,by (try simp only [zI_,zK_,zn_] at*);omega,rfl,rfl⟩
   | skip
 ·cases e
def Ge_:IR:=
(sq (kr [] [oD 0 (.mov cF)])
(sq (kr [] [oC 8 32 [(.c (.imm (.int .u8) []))],
oM 7 8,
oX 9 7 0,
oX 10 7 1,
oM 1 9,
oM 2 10])
(sq (kr [1,2] [oD 12 (.sliceAll (.int .u64) 2 [(0,1,(.c (.int .u64 2))),(1,1,(.c (.int .u64 3)))]),
oD 13 (.build [.int .i64 0,.imm (.int .u64) [],.imm (.int .u8) []] [(0,1,(cI 2)),(1,1,12)]),
oD 14 (.sliceAll (.cons (.int .i64) (.cons (.sl (.int .u64)) (.cons (.sl (.int .u8)) .nil))) 1 [(0,3,13)]),
oD 15 (.build [.int .u64 0,.str [],.int .u64 0,.int .u64 0,.int .u64 0,.int .u64 0,.imm (.cons (.int .i64) (.cons (.sl (.int .u64)) (.cons (.sl (.int .u8)) .nil))) []] [(0,1,(.c (.int .u64 1))),(1,1,(.c (.str [116]))),(6,1,14)]),
oD 16 (.sliceAll YA 1 [(0,7,15)]),
oC 17 31 [16],
oM 11 17,
oX 18 11 0,
oX 19 11 1,
oM 3 18,
oM 4 19])
(sq (kr [1,2,3,4] [oM 21 3,
oC 22 32 [21],
oM 20 22,
oX 23 20 0,
oX 24 20 1,
oM 5 23,
oM 6 24])
(sq (kr [1,2,3,4,5,6] [oM 25 2,
oB 26 .eql 25 (cI 0),
oM 27 26,
oT 27 28 (.mov 1),
oT 27 29 (.len 28),
oT 27 30 (.bin .eql 29 (cI 0)),
oP 31 27 30 cF,
oM 32 31,
oT 32 33 (.mov 4),
oT 32 34 (.bin .eql 33 (cI 0)),
oP 35 32 34 cF,
oM 36 35,
oT 36 37 (.mov 3),
oT 36 38 (.len 37),
oT 36 39 (.bin .eql 38 (cI 72)),
oP 40 36 39 cF,
oM 41 40,
oT 41 42 (.mov 3),
oT 41 43 (.slice 1 42 (some (cI 64)) none none),
oT 41 44 (.sliceAll (.int .u8) 8 [(0,1,(.c (.int .u8 0))),(1,1,(.c (.int .u8 2))),(2,1,(.c (.int .u8 0))),(3,1,(.c (.int .u8 6))),(4,1,(.c (.int .u8 2))),(5,1,(.c (.int .u8 3))),(6,1,(.c (.int .u8 0))),(7,1,(.c (.int .u8 0)))]),
oT 41 45 (.call false (.f 20) [43,44]),
oP 46 41 45 cF,
oM 47 46,
oT 47 48 (.mov 6),
oT 47 49 (.bin .eql 48 (cI 0)),
oP 50 47 49 cF,
oM 51 50,
oT 51 52 (.mov 5),
oT 51 53 (.len 52),
oT 51 54 (.bin .eql 53 (cI 1)),
oP 55 51 54 cF,
oM 56 55,
oT 56 57 (.mov 5),
oT 56 58 (.call false (.f 73) [57]),
oT 56 59 (.sliceAll (.int .i64) 2 [(0,1,(cI 2)),(1,1,(cI 3))]),
oT 56 60 (.call false (.f 72) [58,59]),
oP 61 56 60 cF,
oM 62 61,
oT 62 63 (.call false (.f 74) [(cI 2)]),
oT 62 64 (.bin .eql 63 (cI 1)),
oP 65 62 64 cF,
oM 66 65,
oT 66 67 (.call false (.f 74) [(cI 12)]),
oT 66 68 (.bin .eql 67 (cI 4)),
oP 69 66 68 cF,
oM 0 69])
.ret)))))
def gD_:List RD:=[.tmp 0 true none]
theorem gP_:zo_ Tryz.prog Tryz.f30 Ge_ gD_=true:=by kernel_rfl
def xV_:List AV->List Obj->Option (Prop × AV)
 | [],[]=>some ((True,.bool true))
 | _,_=>none
theorem u8_:ze_ Tryz.prog 30 (RoF xV_).sum:=by
 refine zz_ Tryz.func30 gP_ (zb_ (s:=RoF q3_) K4_ (zb_ (s:=RoF qf_) QE_ (zb_ (s:=RoF Kl_) jE_ (zb_ (s:=RoF Kz_) x7_ (zb_ (s:=RoF xT_) u6_ (zb_ (s:=RoF jj_) X9_ (zf_ _))))))) fun args objs p v e=>?_
 unfold xV_ at e
 split at e
 ·cases e
  refine ⟨rfl,fun hw ho hp=>?_⟩
  obtain ⟨e1,e2,e3,e4,e5⟩:=s20a
  obtain ⟨e6,e7⟩:=s20c
  obtain ⟨e8,e9⟩:=s20d
  have hk:=s20k
  have e10:B20.length=72:=rfl
  have e11:B20.drop 64=[0,2,0,6,2,3,0,0]:=rfl
  unfold S20 at e1 e2 e3 e7 hk
  repeat'(intro t ht;first|(cases t<;>first|(cases ht;done)|(try simp only[zh_]at ht))|((first|refine za_ ht ?_|refine ht ?_ ?_|refine ht.1 ?_ ?_|refine ht ?_)<;>clear ht))
  all_goals (try simp only [e1,e2,e3,e4,e5,e6,e7,e8,e9,e10,if_true,reduceCtorEq,not_true_eq_false,List.length_nil,List.length_cons] at*)
  all_goals first
   | exact True.intro
   | exact hk
   | exact ⟨by decide,by decide⟩
   | exact (by decide)
   | exact ⟨rfl,by first | rfl | exact True.intro⟩
   | contradiction
 ·cases e
def hK_ (x:FV):Bool:=decide (x.2.1.length<=100) && decide (x.2.2.1.length<=300)
def v8_ (x:TV):Bool:=x.2.2.2.2.2.2.1.all hK_ && (decide (x.2.2.2.2.2.2.1.length<=20) && decide (x.2.1.length<=100))
def YV_ (l:List TV):Bool:=l.all v8_ && decide (l.length<=12)
theorem zdB_ {l:List TV} (h:YV_ l=true):(okT l/\l.length<=12)/\∀ x ∈ l,x.2.1.length<=100000:=by
 unfold YV_ at h
 rw [Bool.and_eq_true,decide_eq_true_eq] at h
 obtain ⟨h1,h2⟩:=h
 have k:∀ x ∈ l,v8_ x=true:=List.all_eq_true.1 h1
 refine ⟨⟨⟨fun x hx=>?_,by omega⟩,h2⟩,fun x hx=>?_⟩
 ·have:=k x hx
  unfold v8_ at this
  simp only [Bool.and_eq_true,decide_eq_true_eq] at this
  obtain ⟨h3,h4,h5⟩:=this
  refine ⟨fun f hf=>?_,by omega⟩
  have:=List.all_eq_true.1 h3 f hf
  unfold hK_ at this
  simp only [Bool.and_eq_true,decide_eq_true_eq] at this
  omega
 ·have:=k x hx
  unfold v8_ at this
  simp only [Bool.and_eq_true,decide_eq_true_eq] at this
  omega
def hH_:IR:=
(sq (kr [0] [oD 2 (.mov cF)])
(sq (sq (.reg [oD 3 (.mov (cI 0))])
(.block 0
(.loop
(sq (sq (kr [0,3] [oM 5 3,
oM 6 0,
oE 7 6,
oB 8 .lss 5 7])
(.cond 8
.skip
(.exit 0)))
(sq (.block 1
(sq (sq (.reg [oD 4 (.mov (cI 0))])
(.block 2
(.loop
(sq (sq (kr [0,3,4] [oM 11 4,
oM 12 0,
oM 13 3,
oI 14 7 12 13,
oA 15 6 14,
oL 16 15,
oE 17 16,
oB 18 .lss 11 17])
(.cond 18
.skip
(.exit 2)))
(sq (.block 3
(sq (kr [0,3,4] [oM 21 0,
oM 22 3,
oI 23 7 21 22,
oA 24 6 23,
oL 25 24,
oM 26 4,
oI 27 3 25 26,
oA 28 1 27,
oL 29 28,
oE 30 29,
oB 31 .gtr 30 (cI 100),
oM 32 31,
oF 32 33 (.mov 0),
oF 32 34 (.mov 3),
oF 32 35 (.indexSl 7 33 34),
oF 32 36 (.fieldAddr 6 35),
oF 32 37 (.load none 36),
oF 32 38 (.mov 4),
oF 32 39 (.indexSl 3 37 38),
oF 32 40 (.fieldAddr 2 39),
oF 32 41 (.load none 40),
oF 32 42 (.len 41),
oF 32 43 (.bin .gtr 42 (cI 300)),
oP 44 32 cT 43])
(.cond 44
(sq (kr [] [oD 2 (.mov cF)])
.ret)
.skip)))
(kr [0,3,4] [oM 19 4,
oB 20 .add 19 (cI 1),
oM 4 20]))))))
(sq (kr [0,3] [oM 45 0,
oM 46 3,
oI 47 7 45 46,
oA 48 6 47,
oL 49 48,
oE 50 49,
oB 51 .gtr 50 (cI 20),
oM 52 51,
oF 52 53 (.mov 0),
oF 52 54 (.mov 3),
oF 52 55 (.indexSl 7 53 54),
oF 52 56 (.fieldAddr 1 55),
oF 52 57 (.load none 56),
oF 52 58 (.slen 57),
oF 52 59 (.bin .gtr 58 (cI 100)),
oP 60 52 cT 59])
(.cond 60
(sq (kr [] [oD 2 (.mov cF)])
.ret)
.skip))))
(kr [0,3] [oM 9 3,
oB 10 .add 9 (cI 1),
oM 3 10]))))))
(sq (kr [0] [oM 61 0,
oE 62 61,
oB 63 .leq 62 (cI 12),
oM 2 63])
.ret)))
def hb_:List RD:=[.tmp 2 true none]
theorem hk_:zo_ Tryz.prog Tryz.f29 hH_ hb_=true:=by kernel_rfl
def yZ_:List AV->List Obj->Option (Prop × AV)
 | [.imm ty0 l],[]=>QU_ ty0 YA l fun l=>some ((True,.bool (YV_ l)))
 | _,_=>none
theorem gq_:ze_ Tryz.prog 29 (RoF yZ_).sum:=by
 refine zz_ Tryz.func29 hk_ (zf_ _) fun args objs p v e=>?_
 unfold yZ_ at e
 split at e
 ·rename_i ty0 l
  obtain rfl:=ZX_ e
  replace e:=ZY_ e
  cases e
  refine ⟨rfl,fun hw ho hp=>?_⟩
  change List TV at l
  have hl:l.length<=maxLen:=(hw (.imm YA l) (by simp)).2
  have hi2:∀ i,i < l.length->(l.getD i (Ty.dflt YA)).2.2.2.2.2.2.1.length<=maxLen:=fun i h=>by
   obtain ⟨_,_,_,_,_,_,h7,_⟩:=(hw (.imm YA l) (by simp)).1 _ (zv_ h (Ty.dflt YA))
   exact h7.2
  unfold maxLen at hl hi2
  clear hw ho
  repeat'(intro t ht;first|(cases t<;>first|(cases ht;done)|(try simp only[zh_]at ht))|((first|refine za_ ht ?_|refine ht ?_ ?_|refine ht.1 ?_ ?_|refine ht ?_)<;>clear ht))
  all_goals first
   | (intro r h1 h2;clear h1;refine h2 ⟨[],[0,3],Nat,(fun i=>i<=l.length/\(l.take i).all v8_=true),fun i=>[.imm YA l,.int .i64 i],fun _=>[],fun i=>l.length - i,⟨0,⟨Nat.zero_le _,rfl⟩,rfl,rfl⟩,?_⟩;clear h2)
  rintro i ⟨hi,he⟩
  repeat'(intro t ht;first|(cases t<;>first|(cases ht;done)|(try simp only[zh_]at ht;try(exfalso;first|contradiction|omega)))|((first|refine za_ ht ?_|refine ht ?_ ?_|refine ht.1 ?_ ?_|refine ht ?_)<;>clear ht))
  all_goals first
   | exact True.intro
   | ((try simp only [zI_,zK_,zn_] at*);omega)
   | (have h:=HX_ (by omega) he
      refine ⟨?_,rfl⟩;unfold YV_;rw [h,Bool.true_and];congr 1;exact decide_eq_decide.2 (by omega))
   | (intro r h1 h2;clear h1;refine h2 ⟨[],[0,3,4],Nat,(fun k=>k<=(l.getD i (Ty.dflt YA)).2.2.2.2.2.2.1.length/\((l.getD i (Ty.dflt YA)).2.2.2.2.2.2.1.take k).all hK_=true),fun k=>[.imm YA l,.int .i64 i,.int .i64 k],fun _=>[],fun k=>(l.getD i (Ty.dflt YA)).2.2.2.2.2.2.1.length - k,⟨0,⟨Nat.zero_le _,rfl⟩,rfl,rfl⟩,?_⟩;clear h2)
  have hi3:i < l.length:=by omega
  have hi4:=hi2 i hi3
  rintro k ⟨hk,hke⟩
  repeat'(intro t ht;first|(cases t<;>first|(cases ht;done)|(try simp only[zh_]at ht;try(exfalso;first|contradiction|omega)))|((first|refine za_ ht ?_|refine ht ?_ ?_|refine ht.1 ?_ ?_|refine ht ?_)<;>clear ht))
  all_goals (try generalize (Ty.dflt YA)=od at*)
  all_goals (try generalize (Ty.dflt (.cons (.int .i64) (.cons (.sl (.int .u64)) (.cons (.sl (.int .u8)) .nil))))=pd at*)
  all_goals first
   | exact True.intro
   | omega
   | ((try simp only [zI_,zK_,zn_] at*);omega)
   | (have hf:hK_ ((l.getD i od).2.2.2.2.2.2.1.getD k pd)=true:=by unfold hK_;simp only [Bool.and_eq_true,decide_eq_true_eq];omega
      exact ⟨k+1,⟨by omega,GM_ (d:=pd) (by omega) hke hf⟩,by dsimp only;omega,rfl,rfl⟩)
   | (have hf:hK_ ((l.getD i od).2.2.2.2.2.2.1.getD k pd)=false:=by unfold hK_;simp only [Bool.and_eq_false_iff,decide_eq_false_iff_not];omega
      have hg:v8_ (l.getD i od)=false:=by unfold v8_;rw [h4_ (d:=pd) (by omega) hf,Bool.false_and]
      have h:YV_ l=false:=by unfold YV_;rw [h4_ (d:=od) hi3 hg,Bool.false_and]
      refine ⟨?_,rfl⟩;rw [h];done)
   | (have ha:=HX_ (by omega) hke
      have hg:v8_ (l.getD i od)=true:=by unfold v8_;rw [ha,Bool.true_and];simp only [Bool.and_eq_true,decide_eq_true_eq];omega
      exact ⟨i+1,⟨by omega,GM_ (d:=od) hi3 he hg⟩,by dsimp only;omega,rfl,rfl⟩)
   | (have hg:v8_ (l.getD i od)=false:=by unfold v8_;rw [Bool.and_eq_false_iff];right;simp only [Bool.and_eq_false_iff,decide_eq_false_iff_not];omega
      have h:YV_ l=false:=by unfold YV_;rw [h4_ (d:=od) hi3 hg,Bool.false_and]
      refine ⟨?_,rfl⟩;rw [h];done)
 ·cases e
theorem gr_ {α:Type} {l:List α} {i:Nat} {d:α} (h:i < l.length):l.set i (l.getD i d)=l:=by
 rw [List.getD_eq_getElem?_getD,List.getElem?_eq_getElem h]
 exact List.set_getElem_self h
def yI_:IR:=
(sq (kr [0] [oD 2 (.mov (.c (.imm (.int .u8) [])))])
(sq (sq (.reg [oM 3 0,
oD 4 (.isnil false 3)])
(.cond 4
(sq (.reg [oD 2 (.mov (.c (.imm (.int .u8) [])))])
.ret)
.skip))
(sq (.reg [oD 5 (.slice0 (.int .u8)),
oM 6 0,
oD 7 (.append (.int .u8) 1 5 6),
oM 2 7])
.ret)))
def yl_:List RD:=[.tmp 2 true (some (.int .u8))]
theorem yw_:zo_ Tryz.prog Tryz.f68 yI_ yl_=true:=by kernel_rfl
def KB_:List AV->List Obj->Option (Prop × AV)
 | [.jsl 0 (.int .u8) b],[.reg false true]=>some ((b.length<=140737488355328,.imm (.int .u8) b))
 | _,_=>none
theorem x9_:ze_ Tryz.prog 68 (RoF KB_).sum:=by
 refine zz_ Tryz.func68 yw_ (zf_ _) fun args objs p v e=>?_
 unfold KB_ at e
 split at e
 ·rename_i b
  cases e
  refine ⟨rfl,fun hw ho hp=>?_⟩
  change List Int at b
  clear hw ho
  repeat'(intro t ht;first|(cases t<;>first|(cases ht;done)|(try simp only[zh_]at ht))|((first|refine za_ ht ?_|refine ht ?_ ?_|refine ht.1 ?_ ?_|refine ht ?_)<;>clear ht))
  all_goals first
   | exact True.intro
   | (simp only [Qx_,List.length_nil,Nat.zero_add,Nat.mul_one];omega)
   | exact ⟨rfl,rfl⟩
   | (have e:b=[]:=by simp_all
      refine ⟨?_,rfl⟩;rw [e])
 ·cases e
def kv_:IR:=
(sq (kr [0] [oD 2 (.mov (.c (.imm (.int .u64) [])))])
(sq (sq (.reg [oM 3 0,
oD 4 (.isnil false 3)])
(.cond 4
(sq (.reg [oD 2 (.mov (.c (.imm (.int .u64) [])))])
.ret)
.skip))
(sq (.reg [oD 5 (.slice0 (.int .u64)),
oM 6 0,
oD 7 (.append (.int .u64) 8 5 6),
oM 2 7])
.ret)))
def ks_:List RD:=[.tmp 2 true (some (.int .u64))]
theorem kt_:zo_ Tryz.prog Tryz.f80 kv_ ks_=true:=by kernel_rfl
def Zs_:List AV->List Obj->Option (Prop × AV)
 | [.jsl 0 (.int .u64) b],[.reg false true]=>some ((b.length<=1000000,.imm (.int .u64) b))
 | _,_=>none
theorem Q5_:ze_ Tryz.prog 80 (RoF Zs_).sum:=by
 refine zz_ Tryz.func80 kt_ (zf_ _) fun args objs p v e=>?_
 unfold Zs_ at e
 split at e
 ·rename_i b
  cases e
  refine ⟨rfl,fun hw ho hp=>?_⟩
  change List Int at b
  clear hw ho
  repeat'(intro t ht;first|(cases t<;>first|(cases ht;done)|(try simp only[zh_]at ht))|((first|refine za_ ht ?_|refine ht ?_ ?_|refine ht.1 ?_ ?_|refine ht ?_)<;>clear ht))
  all_goals first
   | exact True.intro
   | (simp only [Qx_,List.length_nil,Nat.zero_add];omega)
   | exact ⟨rfl,rfl⟩
   | (have e:b=[]:=by simp_all
      refine ⟨?_,rfl⟩;rw [e])
 ·cases e
def qX_:IR:=
(sq (kr [0] [oD 2 (.nilrow YA)])
(sq (sq (.reg [oM 3 0,
oD 4 (.isnil false 3)])
(.cond 4
(sq (.reg [oD 2 (.nilrow YA)])
.ret)
.skip))
(sq (.reg [oD 5 (.slice0 YA),
oM 6 0,
oD 7 (.appendJ YA 80 5 6),
oM 2 7])
.ret)))
def qU_:List RD:=[.tmp 2 false none]
theorem qV_:zo_ Tryz.prog Tryz.f78 qX_ qU_=true:=by kernel_rfl
def zV_:List AV->List Obj->Option (Prop × AV × List Obj)
 | [.jsl 0 ty0 l],[.reg false true]=>QU_ ty0 YA l fun l=>match l with
   | []=>some (True,.own 1,[.reg false true,.row false YA []])
   | x :: q=>some ((x :: q).length<=1000000,.own 1,[.reg false true,.rowm YA (x :: q) 0 [.jsl 0 YA [],.int .u64 (x).1,.str (x).2.1,.int .u64 (x).2.2.1,.int .u64 (x).2.2.2.1,.int .u64 (x).2.2.2.2.1,.int .u64 (x).2.2.2.2.2.1,.jsl 0 (.cons (.int .i64) (.cons (.sl (.int .u64)) (.cons (.sl (.int .u8)) .nil))) (x).2.2.2.2.2.2.1]])
 | _,_=>none
theorem qG_:ze_ Tryz.prog 78 (RwF zV_).sum:=by
 refine qh_ Tryz.func78 qV_ (zf_ _) fun args objs p v o e=>?_
 unfold zV_ at e
 split at e
 ·rename_i ty0 l
  obtain rfl:=ZX_ e
  replace e:=ZY_ e
  cases l with
  | nil=>
    cases e
    refine ⟨rfl,fun hw ho hp=>?_⟩
    clear hw ho
    repeat'(intro t ht;first|(cases t<;>first|(cases ht;done)|(try simp only[zh_]at ht;try(exfalso;first|contradiction|omega)))|((first|refine za_ ht ?_|refine ht ?_ ?_|refine ht.1 ?_ ?_|refine ht ?_)<;>clear ht))
    all_goals first
     | exact True.intro
     | exact ⟨rfl,rfl⟩
     | exact ⟨rfl,by decide,by decide⟩
  | cons x q=>
    cases e
    refine ⟨rfl,fun hw ho hp=>?_⟩
    clear hw ho
    repeat'(intro t ht;first|(cases t<;>first|(cases ht;done)|(try simp only[zh_]at ht;try(exfalso;first|contradiction|omega)))|((first|refine za_ ht ?_|refine ht ?_ ?_|refine ht.1 ?_ ?_|refine ht ?_)<;>clear ht))
    all_goals first
     | exact True.intro
     | exact ⟨rfl,rfl⟩
     | (refine ⟨rfl,?_,?_⟩<;>first | omega | (simp only [Qx_] at*;omega))
     | (exfalso;have h1:True->x :: q=[]:=by assumption
        cases h1 True.intro;done)
     | (exfalso;simp_all;done)
     | (exfalso;simp at*;done)
 ·cases e
def Qv_:IR:=
(sq (kr [0] [oD 2 (.nilrow (.cons (.int .i64) (.cons (.sl (.int .u64)) (.cons (.sl (.int .u8)) .nil))))])
(sq (sq (.reg [oM 3 0,
oD 4 (.isnil false 3)])
(.cond 4
(sq (.reg [oD 2 (.nilrow (.cons (.int .i64) (.cons (.sl (.int .u64)) (.cons (.sl (.int .u8)) .nil))))])
.ret)
.skip))
(sq (.reg [oD 5 (.slice0 (.cons (.int .i64) (.cons (.sl (.int .u64)) (.cons (.sl (.int .u8)) .nil)))),
oM 6 0,
oD 7 (.appendJ (.cons (.int .i64) (.cons (.sl (.int .u64)) (.cons (.sl (.int .u8)) .nil))) 56 5 6),
oM 2 7])
.ret)))
def Qo_:List RD:=[.tmp 2 false none]
theorem Qs_:zo_ Tryz.prog Tryz.f79 Qv_ Qo_=true:=by kernel_rfl
def z5_:List AV->List Obj->Option (Prop × AV × List Obj)
 | [.jsl 0 ty0 l],[.reg false true]=>QU_ ty0 (.cons (.int .i64) (.cons (.sl (.int .u64)) (.cons (.sl (.int .u8)) .nil))) l fun l=>match l with
   | []=>some (True,.own 1,[.reg false true,.row false (.cons (.int .i64) (.cons (.sl (.int .u64)) (.cons (.sl (.int .u8)) .nil))) []])
   | x :: q=>some ((x :: q).length<=1000000,.own 1,[.reg false true,.rowm (.cons (.int .i64) (.cons (.sl (.int .u64)) (.cons (.sl (.int .u8)) .nil))) (x :: q) 0 [.jsl 0 (.cons (.int .i64) (.cons (.sl (.int .u64)) (.cons (.sl (.int .u8)) .nil))) [],.int .i64 (x).1,.jsl 0 (.int .u64) (x).2.1,.jsl 0 (.int .u8) (x).2.2.1]])
 | _,_=>none
theorem Qa_:ze_ Tryz.prog 79 (RwF z5_).sum:=by
 refine qh_ Tryz.func79 Qs_ (zf_ _) fun args objs p v o e=>?_
 unfold z5_ at e
 split at e
 ·rename_i ty0 l
  obtain rfl:=ZX_ e
  replace e:=ZY_ e
  cases l with
  | nil=>
    cases e
    refine ⟨rfl,fun hw ho hp=>?_⟩
    clear hw ho
    repeat'(intro t ht;first|(cases t<;>first|(cases ht;done)|(try simp only[zh_]at ht;try(exfalso;first|contradiction|omega)))|((first|refine za_ ht ?_|refine ht ?_ ?_|refine ht.1 ?_ ?_|refine ht ?_)<;>clear ht))
    all_goals first
     | exact True.intro
     | exact ⟨rfl,rfl⟩
     | exact ⟨rfl,by decide,by decide⟩
  | cons x q=>
    cases e
    refine ⟨rfl,fun hw ho hp=>?_⟩
    clear hw ho
    repeat'(intro t ht;first|(cases t<;>first|(cases ht;done)|(try simp only[zh_]at ht;try(exfalso;first|contradiction|omega)))|((first|refine za_ ht ?_|refine ht ?_ ?_|refine ht.1 ?_ ?_|refine ht ?_)<;>clear ht))
    all_goals first
     | exact True.intro
     | exact ⟨rfl,rfl⟩
     | (refine ⟨rfl,?_,?_⟩<;>first | omega | (simp only [Qx_] at*;omega))
     | (exfalso;have h1:True->x :: q=[]:=by assumption
        cases h1 True.intro;done)
     | (exfalso;simp_all;done)
     | (exfalso;simp at*;done)
 ·cases e
def XB_:IR:=
(sq (kr [0] [oD 2 (.mov (.c (.imm YA [])))])
(sq (.reg [oM 7 0,
oC 8 78 [7],
oM 3 8])
(sq (sq (.reg [oM 9 3,
oE 10 9,
oD 11 (.mov (cI 0))])
(.block 0
(.loop
(sq (kr [3,10,11] [oB 12 .lss 11 10])
(sq (.cond 12
.skip
(.exit 0))
(sq (.block 1
(sq (.reg [oM 13 11,
oM 4 13])
(sq (kr [3,4,10,11] [oM 14 3,
oM 15 4,
oM 16 3,
oM 17 4,
oI 18 7 16 17,
oA 19 6 18,
oL 20 19,
oC 21 79 [20],
oI 22 7 14 15,
oA 23 6 22,
oS 1 23 21])
(sq (kr [3,4,10,11] [oM 24 3,
oM 25 4,
oI 26 7 24 25,
oA 27 6 26,
oL 28 27,
oE 29 28,
oD 30 (.mov (cI 0))])
(.block 2
(.loop
(sq (kr [3,4,10,11,29,30] [oB 31 .lss 30 29])
(sq (.cond 31
.skip
(.exit 2))
(sq (.block 3
(sq (.reg [oM 32 30,
oM 5 32])
(sq (kr [3,4,5,10,11,29,30] [oM 33 3,
oM 34 4,
oI 35 7 33 34,
oA 36 6 35,
oL 37 36,
oM 38 5,
oI 39 3 37 38,
oM 6 39])
(kd [3,4,6,10,11,29,30] [(oM 40 6,[]),
(oM 41 6,[0]),
(oM 42 6,[0,0]),
(oD 43 (.nilck 42),[1,0]),
(oA 44 1 43,[2,0]),
(oL 45 44,[3,0]),
(oC 46 80 [45],[4,0]),
(oM 47 6,[0,0,0,0,0,0,0]),
(oD 48 (.nilck 47),[1,0,0,0,0,0,0]),
(oA 49 2 48,[2,0,0,0,0,0,0]),
(oL 50 49,[3,0,0,0,0,0,0]),
(oC 51 68 [50],[9,0]),
(oD 52 (.nilck 40),[10]),
(oA 53 1 52,[11]),
(oS 1 53 46,[12]),
(oD 54 (.nilck 41),[]),
(oA 55 2 54,[]),
(oS 1 55 51,[])]))))
(kr [3,4,10,11,29,30] [oB 56 .add 30 (cI 1),
oM 30 56]))))))))))
(kr [3,10,11] [oB 57 .add 11 (cI 1),
oM 11 57])))))))
(sq (kr [3] [oM 58 3,
oM 2 58])
.ret))))
def Xg_:List RD:=[.tmp 2 true (some YA)]
theorem Xo_:zo_ Tryz.prog Tryz.f34 XB_ Xg_=true:=by kernel_rfl
def kO_:List AV->List Obj->Option (Prop × AV)
 | [.jsl 0 ty0 l],[.reg false true]=>QU_ ty0 YA l fun l=>some ((okT l,.imm YA l))
 | _,_=>none
theorem xr_:ze_ Tryz.prog 34 (RoF kO_).sum:=by
 refine zz_ Tryz.func34 Xo_ (zb_ (s:=RwF zV_) qG_ (zb_ (s:=RwF z5_) Qa_ (zb_ (s:=RoF Zs_) Q5_ (zb_ (s:=RoF KB_) x9_ (zf_ _))))) fun args objs p v e=>?_
 unfold kO_ at e
 split at e
 ·rename_i ty0 l
  obtain rfl:=ZX_ e
  replace e:=ZY_ e
  cases e
  refine ⟨rfl,fun hw ho hp=>?_⟩
  change List TV at l
  clear hw ho
  have hn:=hp.n
  have ha:=hp.a
  clear hp
  cases l with
  | nil=>
    clear ha hn
    repeat'(intro t ht;first|(cases t<;>first|(cases ht;done)|(try simp only[zh_]at ht;try(exfalso;first|contradiction|omega)))|((first|refine za_ ht ?_|refine ht ?_ ?_|refine ht.1 ?_ ?_|refine ht ?_)<;>clear ht))
    all_goals first
     | exact True.intro
     | (intro r h1 h2;clear h1;refine h2 ⟨[],[3,10,11],Nat,(fun i=>i=0),fun i=>[.own 1,.int .i64 ([]:List TV).length,.int .i64 0],fun i=>[.reg false true,.row false YA []],fun i=>0,⟨0,rfl,rfl,rfl⟩,?_⟩;clear h2)
    all_goals
     intro i hi
     repeat'(intro t ht;first|(cases t<;>first|(cases ht;done)|(try simp only[zh_]at ht;try(exfalso;first|contradiction|omega)))|((first|refine za_ ht ?_|refine ht ?_ ?_|refine ht.1 ?_ ?_|refine ht ?_)<;>clear ht))
    all_goals first
     | exact True.intro
     | exact ⟨rfl,rfl⟩
  | cons x q=>
    repeat'(intro t ht;first|(cases t<;>first|(cases ht;done)|(try simp only[zh_]at ht;try(exfalso;first|contradiction|omega)))|((first|refine za_ ht ?_|refine ht ?_ ?_|refine ht.1 ?_ ?_|refine ht ?_)<;>clear ht))
    all_goals first
     | exact True.intro
     | exact Nat.le_trans hn (by decide)
     | (intro r h1 h2;clear h1;refine h2 ⟨[1],[3,10,11],Bool × Nat × TV,(fun a=>a.2.1<=(x :: q).length/\(a.1=true ↔ a.2.1 < (x :: q).length)/\(x :: q).getD a.2.1 (Ty.dflt YA)=a.2.2),fun a=>[.own 1,.int .i64 (x :: q).length,.int .i64 a.2.1],fun a=>match a.1 with | true=>[.reg false true,.rowm YA (x :: q) a.2.1 [.jsl 0 YA [],.int .u64 (a.2.2).1,.str (a.2.2).2.1,.int .u64 (a.2.2).2.2.1,.int .u64 (a.2.2).2.2.2.1,.int .u64 (a.2.2).2.2.2.2.1,.int .u64 (a.2.2).2.2.2.2.2.1,.jsl 0 (.cons (.int .i64) (.cons (.sl (.int .u64)) (.cons (.sl (.int .u8)) .nil))) (a.2.2).2.2.2.2.2.2.1]] | false=>[.reg false true,.row false YA (x :: q)],fun a=>(x :: q).length - a.2.1,⟨(true,0,x),⟨Nat.zero_le _,⟨fun _=>Nat.succ_pos _,fun _=>rfl⟩,rfl⟩,rfl,rfl⟩,?_⟩;clear h2)
    all_goals
     rintro ⟨b,i,ta,tn,tb,tc,td,te,fs,⟨⟩⟩ ⟨hi,hb,hx⟩
     replace hi:i<=(x :: q).length:=hi
     replace hx:(x :: q).getD i (Ty.dflt YA)=(ta,tn,tb,tc,td,te,fs,()):=hx
     generalize hll:x :: q=l at*
     cases b
    ·have hlt:¬ i < l.length:=fun h=>by have:=hb.2 h;cases this
     repeat'(intro t ht;first|(cases t<;>first|(cases ht;done)|(try simp only[zh_]at ht;try(exfalso;first|contradiction|omega)))|((first|refine za_ ht ?_|refine ht ?_ ?_|refine ht.1 ?_ ?_|refine ht ?_)<;>clear ht))
     all_goals first
      | exact True.intro
      | exact ⟨rfl,rfl⟩
      | ((try simp only [zI_,zK_,zn_] at*);omega)
    ·have hlt:i < l.length:=hb.1 rfl
     have hs:=gr_ (d:=(Ty.dflt YA)) hlt
     have hm:=ha _ (zv_ hlt (Ty.dflt YA))
     rw [hx] at hs hm
     cases fs with
     | nil=>
       have hlen:List.length (((l.set i ((ta,tn,tb,tc,td,te,[],()):TV)).getD ((i:Int).toNat) (Ty.dflt YA)).2.2.2.2.2.2.1)=0:=by
        rw [hs,Int.toNat_natCast,hx];rfl
       repeat'(intro t ht;first|(cases t<;>first|(cases ht;done)|(try simp only[zh_]at ht;try(exfalso;first|contradiction|omega)))|((first|refine za_ ht ?_|refine ht ?_ ?_|refine ht.1 ?_ ?_|refine ht ?_)<;>clear ht))
       all_goals first
        | exact True.intro
        | (simp only [List.length_set,Int.toNat_natCast];omega)
        | (simp only [Int.toNat_natCast];omega)
        | omega
        | ((try simp only [zI_,zK_,zn_] at*);omega)
        | (intro r h1 h2;refine h1 ⟨1,?_⟩;clear h1 h2)
       all_goals repeat'(intro t ht;first|(cases t<;>first|(cases ht;done)|(try simp only[zh_]at ht;try(exfalso;first|contradiction|omega)))|((first|refine za_ ht ?_|refine ht ?_ ?_|refine ht.1 ?_ ?_|refine ht ?_)<;>clear ht))
       all_goals first
        | exact True.intro
        | ((try simp only [zI_,zK_,zn_] at*);omega)
        | (exfalso;omega)
        | (refine ⟨(true,i+1,l.getD (i+1) (Ty.dflt YA)),⟨by dsimp only;omega,⟨fun _=>by dsimp only;omega,fun _=>rfl⟩,rfl⟩,by dsimp only;omega,rfl,?_⟩
           dsimp only
           rw [hs]
           first | done | rfl)
        | (refine ⟨(false,i+1,l.getD (i+1) (Ty.dflt YA)),⟨by dsimp only;omega,⟨fun h=>(by cases h),fun h=>by exfalso;dsimp only at h;omega⟩,rfl⟩,by dsimp only;omega,rfl,?_⟩
           dsimp only
           rw [hs]
           first | done | rfl)
     | cons f g=>
       repeat'(intro t ht;first|(cases t<;>first|(cases ht;done)|(try simp only[zh_]at ht;try(exfalso;first|contradiction|omega)))|((first|refine za_ ht ?_|refine ht ?_ ?_|refine ht.1 ?_ ?_|refine ht ?_)<;>clear ht))
       all_goals first
        | exact True.intro
        | exact Nat.le_trans hm.n (by decide)
        | (simp only [Int.toNat_natCast];omega)
        | omega
        | ((try simp only [zI_,zK_,zn_] at*);omega)
        | (intro r h1 h2;clear h1;refine h2 ⟨[],[3,4,10,11,29,30],Bool × Nat,(fun a=>a.2<=(f :: g).length/\(a.1=true ↔ a.2 < (f :: g).length)),fun a=>[.own 1,.int .i64 i,.int .i64 l.length,.int .i64 i,.int .i64 (f :: g).length,.int .i64 a.2],fun a=>match a.1 with | true=>[.reg false true,.rowm YA l i [.jsl 0 YA [],.int .u64 ta,.str tn,.int .u64 tb,.int .u64 tc,.int .u64 td,.int .u64 te,(.own 2)],.rowm (.cons (.int .i64) (.cons (.sl (.int .u64)) (.cons (.sl (.int .u8)) .nil))) (f :: g) a.2 [.jsl 0 (.cons (.int .i64) (.cons (.sl (.int .u64)) (.cons (.sl (.int .u8)) .nil))) [],.int .i64 (((f :: g).getD a.2 (Ty.dflt (.cons (.int .i64) (.cons (.sl (.int .u64)) (.cons (.sl (.int .u8)) .nil)))))).1,.jsl 0 (.int .u64) (((f :: g).getD a.2 (Ty.dflt (.cons (.int .i64) (.cons (.sl (.int .u64)) (.cons (.sl (.int .u8)) .nil)))))).2.1,.jsl 0 (.int .u8) (((f :: g).getD a.2 (Ty.dflt (.cons (.int .i64) (.cons (.sl (.int .u64)) (.cons (.sl (.int .u8)) .nil)))))).2.2.1]] | false=>[.reg false true,.rowm YA l i [.jsl 0 YA [],.int .u64 ta,.str tn,.int .u64 tb,.int .u64 tc,.int .u64 td,.int .u64 te,(.own 2)],.row false (.cons (.int .i64) (.cons (.sl (.int .u64)) (.cons (.sl (.int .u8)) .nil))) (f :: g)],fun a=>(f :: g).length - a.2,⟨(true,0),⟨Nat.zero_le _,⟨fun _=>Nat.succ_pos _,fun _=>rfl⟩⟩,rfl,rfl⟩,?_⟩;clear h2)
       all_goals
        rintro ⟨b2,k⟩ ⟨hk,hb2⟩
        replace hk:k<=(f :: g).length:=hk
        have hfa:=hm.a
        have hfn:=hm.n
        dsimp only at hfa hfn hs
        clear hm
        generalize hff:f :: g=fs at*
        cases b2
       ·have hkt:¬ k < fs.length:=fun h=>by have:=hb2.2 h;cases this
        repeat'(intro t ht;first|(cases t<;>first|(cases ht;done)|(try simp only[zh_]at ht;try(exfalso;first|contradiction|omega)))|((first|refine za_ ht ?_|refine ht ?_ ?_|refine ht.1 ?_ ?_|refine ht ?_)<;>clear ht))
        all_goals first
         | exact True.intro
         | ((try simp only [zI_,zK_,zn_] at*);omega)
         | omega
         | (refine ⟨(true,i+1,l.getD (i+1) (Ty.dflt YA)),⟨by dsimp only;omega,⟨fun _=>by dsimp only;omega,fun _=>rfl⟩,rfl⟩,by dsimp only;omega,rfl,?_⟩
            dsimp only
            rw [hs]
            first | done | rfl)
         | (refine ⟨(false,i+1,l.getD (i+1) (Ty.dflt YA)),⟨by dsimp only;omega,⟨fun h=>(by cases h),fun h=>by exfalso;dsimp only at h;omega⟩,rfl⟩,by dsimp only;omega,rfl,?_⟩
            dsimp only
            rw [hs]
            first | done | rfl)
       ·have hkt:k < fs.length:=hb2.1 rfl
        have hs2:=gr_ (d:=(Ty.dflt (.cons (.int .i64) (.cons (.sl (.int .u64)) (.cons (.sl (.int .u8)) .nil))))) hkt
        have hfm:=hfa _ (zv_ hkt (Ty.dflt (.cons (.int .i64) (.cons (.sl (.int .u64)) (.cons (.sl (.int .u8)) .nil)))))
        repeat'(intro t ht;first|(cases t<;>first|(cases ht;done)|(try simp only[zh_]at ht;try(exfalso;first|contradiction|omega)))|((first|refine za_ ht ?_|refine ht ?_ ?_|refine ht.1 ?_ ?_|refine ht ?_)<;>clear ht))
        all_goals (try generalize (Ty.dflt (.cons (.int .i64) (.cons (.sl (.int .u64)) (.cons (.sl (.int .u8)) .nil))))=od at*)
        all_goals first
         | exact True.intro
         | exact Nat.le_trans hfm.1 (by decide)
         | exact Nat.le_trans hfm.2 (by decide)
         | (simp only [Int.toNat_natCast];omega)
         | omega
         | ((try simp only [zI_,zK_,zn_] at*);omega)
         | (refine ⟨(true,k+1),⟨by dsimp only;omega,⟨fun _=>by dsimp only;omega,fun _=>rfl⟩⟩,by dsimp only;omega,rfl,?_⟩
            dsimp only
            rw [show fs.set k ((fs.getD k od).1,(fs.getD k od).2.1,(fs.getD k od).2.2.1,())=fs from hs2]
            first | done | rfl)
         | (refine ⟨(false,k+1),⟨by dsimp only;omega,⟨fun h=>(by cases h),fun h=>by exfalso;dsimp only at h;omega⟩⟩,by dsimp only;omega,rfl,?_⟩
            dsimp only
            rw [show fs.set k ((fs.getD k od).1,(fs.getD k od).2.1,(fs.getD k od).2.2.1,())=fs from hs2]
            first | done | rfl)
 ·cases e
end Go.Eng

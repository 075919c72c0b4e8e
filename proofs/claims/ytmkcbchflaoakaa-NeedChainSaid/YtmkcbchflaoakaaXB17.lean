/- Parts of the proof: G5, G6. No condition. -/
import Derived.Test.YtmkcbchflaoakaaProg
import Derived.Test.YtmkcbchflaoakaaXB10
import Derived.KernelRfl
import Derived.Test.YtmkcbchflaoakaaXB16
namespace Go.Eng
open Go.Proofs
set_option linter.unusedVariables false
set_option linter.unusedSimpArgs false
set_option maxRecDepth 100000
set_option maxHeartbeats 1000000
theorem ckC (pre:List OV) (o:OV) (r:List OV):ckS pre (o :: r)=if pre.any (fun x=>alO x o)=true then (((pre.length:Nat):Int),1035) else if Qy_ pre o.1 o.2.1=true then ckS (pre++[o]) r else (((pre.length:Nat):Int),1034):=rfl
theorem UL_:∀ (r pre:List OV),(ckS pre r).2=0->(ckS pre r).1=0
 | [],_,_=>rfl
 | o :: r,pre,h=>by
   rw [ckC] at h ⊢
   by_cases h1:pre.any (fun x=>alO x o)=true
   ·simp only [if_pos h1] at h;cases h
   ·simp only [if_neg h1] at h ⊢
    by_cases h2:Qy_ pre o.1 o.2.1=true
    ·simp only [if_pos h2] at h ⊢;exact UL_ r _ h
    ·simp only [if_neg h2] at h;cases h
theorem UM_:∀ (r pre:List OV),¬ (ckS pre r).2=0->∃ k,k < r.length/\(ckS pre r).1=((pre.length+k:Nat):Int)/\(ckS pre (r.take k)).2=0/\(ckS pre (r.take (k+1))).2=(ckS pre r).2
 | [],_,h=>absurd rfl h
 | o :: r,pre,h=>by
   rw [ckC] at h ⊢
   by_cases h1:pre.any (fun x=>alO x o)=true
   ·refine ⟨0,by rw [List.length_cons];omega,?_,rfl,?_⟩
    ·simp only [if_pos h1];rfl
    ·rw [List.take_succ_cons,ckC];simp only [if_pos h1]
   ·simp only [if_neg h1] at h ⊢
    by_cases h2:Qy_ pre o.1 o.2.1=true
    ·simp only [if_pos h2] at h ⊢
     obtain ⟨k,k1,k2,k3,k4⟩:=UM_ r _ h
     refine ⟨k+1,by rw [List.length_cons];omega,?_,?_,?_⟩
     ·rw [k2,List.length_append,List.length_singleton];congr 1;omega
     ·rw [List.take_succ_cons,ckC];simp only [if_neg h1,if_pos h2];exact k3
     ·rw [List.take_succ_cons,ckC];simp only [if_neg h1,if_pos h2];exact k4
    ·refine ⟨0,by rw [List.length_cons];omega,?_,rfl,?_⟩
     ·simp only [if_neg h2];rfl
     ·rw [List.take_succ_cons,ckC];simp only [if_neg h1,if_neg h2]
theorem hO_ (d:OV):∀ (r pre:List OV),(ckS pre r).2=0 ↔ ∀ k,k < r.length->((pre++r.take k).any (fun x=>alO x (r.getD k d))=false/\Qy_ (pre++r.take k) (r.getD k d).1 (r.getD k d).2.1=true)
 | [],_=>⟨fun _ k h=>absurd h (Nat.not_lt_zero _),fun _=>rfl⟩
 | o :: r,pre=>by
   rw [ckC]
   by_cases h1:pre.any (fun x=>alO x o)=true
   ·simp only [if_pos h1]
    constructor
    ·intro h;cases h
    ·intro h
     have:=(h 0 (by rw [List.length_cons];omega)).1
     rw [List.take_zero,List.append_nil] at this
     have h3:pre.any (fun x=>alO x o)=false:=this
     rw [h1] at h3;cases h3
   ·simp only [if_neg h1]
    by_cases h2:Qy_ pre o.1 o.2.1=true
    ·simp only [if_pos h2]
     rw [hO_ d r (pre++[o])]
     constructor
     ·intro h k hk
      cases k with
      | zero=>
        rw [List.take_zero,List.append_nil]
        exact ⟨Bool.eq_false_iff.2 h1,h2⟩
      | succ k=>
        have:=h k (by rw [List.length_cons] at hk;omega)
        rw [List.append_assoc] at this
        exact this
     ·intro h k hk
      have:=h (k+1) (by rw [List.length_cons];omega)
      rw [List.append_assoc]
      exact this
    ·simp only [if_neg h2]
     constructor
     ·intro h;cases h
     ·intro h
      have:=(h 0 (by rw [List.length_cons];omega)).2
      rw [List.take_zero,List.append_nil] at this
      exact absurd this h2
def Chk (d:OV) (l:List OV):Prop:=∀ k,k < l.length->((l.take k).any (fun x=>alO x (l.getD k d))=false/\Qy_ (l.take k) (l.getD k d).1 (l.getD k d).2.1=true)
theorem UQ_ (d:OV) (l:List OV):(ckS [] l).2=0 ↔ Chk d l:=by
 have:=hO_ d l []
 simp only [List.nil_append] at this
 exact this
theorem y3_ (x:OV):∀ o:List OV,(ky_ ltO x o).Perm (x :: o)
 | []=>.refl _
 | y :: r=>by
   unfold ky_
   split
   ·exact .refl _
   ·exact ((y3_ x r).cons y).trans (.swap x y r)
theorem wA_:∀ (l o:List OV),(l.foldl (fun o x=>ky_ ltO x o) o).Perm (o++l)
 | [],o=>by rw [List.append_nil];exact .refl _
 | x :: l,o=>by
   refine (wA_ l (ky_ ltO x o)).trans ?_
   refine ((y3_ x o).append_right l).trans ?_
   rw [List.cons_append]
   exact List.perm_middle.symm
theorem Vi_ (l:List OV):(isG ltO l).Perm l:=by have:=wA_ l [];rwa [List.nil_append] at this
theorem Y8_ {l:List OV} {x:OV}:x ∈ isG ltO l ↔ x ∈ l:=(Vi_ l).mem_iff
theorem hl_ (l:List OV):isG ltO (isG ltO l)=isG ltO l:=
 YP_ zj_ _ _ (Xq_ zj_ _) (Xq_ zj_ l) fun c=>bE_ zj_ (isG ltO l) c
theorem Be_ {l:List OV} (h:allLen l):allLen (isG ltO l):=⟨fun o ho=>h.h o (Y8_.1 ho)⟩
theorem bi_ (x o:OV):alO x o=true ↔ x.1=o.1/\x.2.1=o.2.1/\x.2.2.2.1=o.2.2.2.1:=by
 unfold alO
 rw [Bool.and_eq_true,Bool.and_eq_true,decide_eq_true_eq,decide_eq_true_eq,decide_eq_true_eq,and_assoc]
theorem bB_ {n:Int} {v:List Int} {x:OV} (h:mtO n v x=true):x.1=32768/\x.2.1=n:=by
 unfold mtO Y4_ at h
 rw [Bool.and_eq_true,Bool.and_eq_true,decide_eq_true_eq,decide_eq_true_eq] at h
 exact h.1
theorem Bb_:∀ k < 40,zC_ (k:Nat)=(if zz_ (k:Nat) < 0 then [] else zC_ (zz_ (k:Nat))++[zz_ (k:Nat)])/\zz_ (k:Nat) < (k:Nat):=by decide+kernel
theorem v8_ {n:Int} (h:fIs n=true):zC_ n=(if zz_ n < 0 then [] else zC_ (zz_ n)++[zz_ n])/\zz_ n < n:=by
 have h1:=Qj_.1 h
 have:=Bb_ n.toNat (by omega)
 rwa [Int.toNat_of_nonneg h1.1] at this
theorem G9_ {l:List OV} {c f:Int} (h:Qy_ l c f=true) (hc:c=32768) (hf:fIs f=true) (hn:0<=zz_ f):∃ x ∈ l,mtO (zz_ f) (zY_ f) x=true:=by
 unfold Qy_ at h
 have hm:Jv_ c f=false:=by
  unfold Jv_
  rw [hf,decide_eq_false (by omega),decide_eq_false (by omega)];rfl
 rw [if_neg (by rw [hm];decide)] at h
 exact List.any_eq_true.1 h
theorem Bc_ {l:List OV} {c f:Int} (h:c=32768->fIs f=true->0<=zz_ f->∃ x ∈ l,mtO (zz_ f) (zY_ f) x=true):Qy_ l c f=true:=by
 unfold Qy_
 cases hm:Jv_ c f with
 | true=>rw [if_pos rfl]
 | false=>
   rw [if_neg (by decide)]
   unfold Jv_ at hm
   rw [Bool.or_eq_false_iff,Bool.or_eq_false_iff,decide_eq_false_iff_not,decide_eq_false_iff_not,Bool.not_eq_false'] at hm
   exact List.any_eq_true.2 (h (by omega) hm.1.2 (by omega))
theorem uw_ {l:List OV} {x:OV} (d:OV) (h:x ∈ l):∃ k,k < l.length/\l.getD k d=x:=by
 obtain ⟨k,hk,e⟩:=List.mem_iff_getElem.1 h
 exact ⟨k,hk,by rw [List.getD_eq_getElem?_getD,List.getElem?_eq_getElem hk];exact e⟩
theorem ha_ {l:List OV} {x d:OV} {k:Nat} (h:x ∈ l.take k):∃ j,j < k/\j < l.length/\l.getD j d=x:=by
 obtain ⟨j,hj,e⟩:=List.mem_iff_getElem.1 h
 rw [List.length_take] at hj
 refine ⟨j,by omega,by omega,?_⟩
 rw [List.getElem_take] at e
 rw [List.getD_eq_getElem?_getD,List.getElem?_eq_getElem (by omega)];exact e
theorem Ga_ {l:List OV} {d:OV} {j k:Nat} (h:j < k) (hj:j < l.length):l.getD j d ∈ l.take k:=by
 have:(l.take k)[j]?=some (l.getD j d):=by
  rw [List.getElem?_take,if_pos h,List.getD_eq_getElem?_getD,List.getElem?_eq_getElem hj];rfl
 exact List.mem_of_getElem? this
theorem gO_ {d:OV} {l:List OV} (h:Chk d l):l.Pairwise fun x y=>alO x y=false:=by
 rw [List.pairwise_iff_getElem]
 intro i j hi hj hij
 have h1:=(h j hj).1
 have e:∀ k (hk:k < l.length),l.getD k d=l[k]:=fun k hk=>by rw [List.getD_eq_getElem?_getD,List.getElem?_eq_getElem hk];rfl
 rw [List.any_eq_false] at h1
 have:=h1 _ (Ga_ (d:=d) hij hi)
 rw [e i hi,e j hj] at this
 exact Bool.eq_false_iff.2 this
theorem Hb_ {x y:OV} (h:alO x y=false):alO y x=false:=by
 rw [Bool.eq_false_iff,Ne,bi_] at h ⊢
 rintro ⟨a,b,c⟩;exact h ⟨a.symm,b.symm,c.symm⟩
theorem hQ_ {d:OV} {l:List OV} (h:Chk d l):Chk d (isG ltO l):=by
 have hp:=Xq_ zj_ l
 have hap:(isG ltO l).Pairwise fun x y=>alO x y=false:=((Vi_ l).symm.pairwise_iff (fun hxy=>Hb_ hxy)).1 (gO_ h)
 rw [List.pairwise_iff_getElem] at hp hap
 have e:∀ k (hk:k < (isG ltO l).length),(isG ltO l).getD k d=(isG ltO l)[k]:=fun k hk=>by rw [List.getD_eq_getElem?_getD,List.getElem?_eq_getElem hk];rfl
 intro k hk
 refine ⟨?_,Bc_ fun hc hf hn=>?_⟩
 ·rw [List.any_eq_false]
  intro x hx
  obtain ⟨j,j1,j2,rfl⟩:=ha_ (d:=d) hx
  rw [e j j2,e k hk,hap j k j2 hk j1];decide
 ·have ho:(isG ltO l).getD k d ∈ l:=Y8_.1 (ZM_ hk d)
  obtain ⟨q,q1,q2⟩:=uw_ d ho
  have hm:=(h q q1).2
  rw [q2] at hm
  obtain ⟨x,x1,x2⟩:=G9_ hm hc hf hn
  refine ⟨x,?_,x2⟩
  obtain ⟨x3,x4⟩:=bB_ x2
  have hlt:ltO x ((isG ltO l).getD k d)=true:=(xx_ _ _).2 (.inr ⟨by rw [x3,hc],.inl (by rw [x4];exact (v8_ hf).2)⟩)
  obtain ⟨p,p1,p2⟩:=uw_ d (Y8_.2 (List.mem_of_mem_take x1))
  have hpk:p < k:=by
   apply Classical.byContradiction;intro c
   by_cases c2:p=k
   ·rw [<- p2,c2,zj_.irr] at hlt;cases hlt
   ·have:=hp k p hk p1 (by omega)
    rw [<- e k hk,<- e p p1,p2] at this
    rw [this] at hlt;cases hlt
  rw [<- p2];exact Ga_ hpk p1
theorem hx_ {l:List OV} {x:OV} {z:Int} (h:x ∈ l) (h1:x.1=32768) (h2:x.2.1=z):jU_ l z=true:=by
 unfold jU_
 rw [List.any_eq_true]
 exact ⟨x,h,by rw [decide_eq_true h1,decide_eq_true h2];rfl⟩
theorem UR_ {d:OV} {l:List OV} (h:Chk d l):∀ n k,k < n->k < l.length->(l.getD k d).1=32768->∀ z ∈ zC_ (l.getD k d).2.1,jU_ l z=true
 | 0,k,hn,_,_,_,_=>absurd hn (Nat.not_lt_zero _)
 | n+1,k,hn,hk,hc,z,hz=>by
   cases hf:fIs (l.getD k d).2.1 with
   | false=>
     unfold zC_ at hz
     rw [if_neg (Ya_.1 hf)] at hz;cases hz
   | true=>
     have he:=(v8_ hf).1
     by_cases c:zz_ (l.getD k d).2.1 < 0
     ·rw [if_pos c] at he;rw [he] at hz;cases hz
     ·rw [if_neg c] at he
      obtain ⟨x,x1,x2⟩:=G9_ (h k hk).2 hc hf (by omega)
      obtain ⟨x3,x4⟩:=bB_ x2
      obtain ⟨j,j1,j2,j3⟩:=ha_ (d:=d) x1
      rw [he,List.mem_append,List.mem_singleton] at hz
      rcases hz with hz | hz
      ·have ih:=UR_ h n j (by omega) j2 (by rw [j3];exact x3) z
       rw [j3,x4] at ih
       exact ih hz
      ·rw [hz];exact hx_ (List.mem_of_mem_take x1) x3 x4
theorem UP_ {d:OV} {l:List OV} (h:Chk d l):xj_ l=[]:=by
 unfold xj_
 refine List.filter_eq_nil_iff.2 fun z hz=>?_
 obtain ⟨o,ho,hz⟩:=List.mem_flatMap.1 hz
 obtain ⟨k,k1,k2⟩:=uw_ d ho
 unfold nfO at hz
 split at hz
 ·rename_i hc
  rw [<- k2] at hc hz
  rw [UR_ h (k+1) k (by omega) k1 hc z hz];decide
 ·cases hz
theorem US_ {l:List OV} (h:(ckS [] l).2=0):(ckS [] l).1=0/\(ckS [] (isG ltO l)).2=0/\poF (xj_ l)=[]/\poF (xj_ (isG ltO l))=[]:=by
 have h1:=(UQ_ (Ty.dflt Y1) l).1 h
 have h2:=hQ_ h1
 exact ⟨UL_ l [] h,(UQ_ _ _).2 h2,by rw [UP_ h1];rfl,by rw [UP_ h2];rfl⟩
def wC_:IR:=
(sq (kr [0] [oD 2 (.mov cF)])
(sq (sq (.reg [oM 12 0,
oC 13 6 [12],
oD 14 (.un .not 13)])
(.cond 14
(sq (.reg [oC 15 7 [],
oM 2 15])
.ret)
.skip))
(sq (kr [0] [oM 17 0,
oC 18 8 [17],
oM 16 18,
oX 19 16 0,
oX 20 16 1,
oM 3 19,
oM 4 20])
(sq (kr [0,3,4] [oM 21 0,
oC 22 16 [21],
oM 5 22])
(sq (sq (kr [0,3,4,5] [oM 23 5,
oC 24 16 [23],
oM 25 5,
oC 26 15 [24,25],
oD 27 (.un .not 26),
oM 28 27,
oF 28 29 (.mov 5),
oF 28 30 (.len 29),
oF 28 31 (.mov 0),
oF 28 32 (.len 31),
oF 28 33 (.bin .neq 30 32),
oP 34 28 cT 33])
(.cond 34
(sq (kr [] [oD 2 (.mov cF)])
.ret)
.skip))
(sq (sq (kr [0,3,4,5] [oM 35 4,
oB 36 .neq 35 (cI 0)])
(.cond 36
(sq (sq (kr [0,3,4] [oM 37 3,
oB 38 .lss 37 (cI 0),
oM 39 38,
oF 39 40 (.mov 3),
oF 39 41 (.mov 0),
oF 39 42 (.len 41),
oF 39 43 (.bin .geq 40 42),
oP 44 39 cT 43])
(.cond 44
(sq (kr [] [oD 2 (.mov cF)])
.ret)
.skip))
(sq (kr [0,3,4] [oM 46 0,
oM 47 3,
oD 48 (.slice 6 46 none (some 47) none),
oC 49 8 [48],
oM 45 49,
oX 50 45 0,
oX 51 45 1,
oM 6 50,
oM 7 51])
(sq (kr [0,3,4,7] [oM 53 0,
oM 54 3,
oB 55 .add 54 (cI 1),
oD 56 (.slice 6 53 none (some 55) none),
oC 57 8 [56],
oM 52 57,
oX 58 52 0,
oX 59 52 1,
oM 8 58,
oM 9 59])
(sq (kr [4,7,9] [oM 60 7,
oB 61 .eql 60 (cI 0),
oM 62 61,
oT 62 63 (.mov 9),
oT 62 64 (.mov 4),
oT 62 65 (.bin .eql 63 64),
oP 66 62 65 cF,
oM 67 66,
oT 67 68 (.call false (.f 7) []),
oP 69 67 68 cF,
oM 2 69])
.ret))))
.skip))
(sq (kr [0,3,5] [oM 71 5,
oC 72 8 [71],
oM 70 72,
oX 73 70 0,
oX 74 70 1,
oM 10 73,
oM 11 74])
(sq (kr [0,3,5,11] [oM 75 3,
oB 76 .eql 75 (cI 0),
oM 77 76,
oT 77 78 (.mov 11),
oT 77 79 (.bin .eql 78 (cI 0)),
oP 80 77 79 cF,
oM 81 80,
oT 81 82 (.mov 0),
oT 81 83 (.call false (.f 13) [82]),
oT 81 84 (.len 83),
oT 81 85 (.bin .eql 84 (cI 0)),
oP 86 81 85 cF,
oM 87 86,
oT 87 88 (.mov 5),
oT 87 89 (.call false (.f 13) [88]),
oT 87 90 (.len 89),
oT 87 91 (.bin .eql 90 (cI 0)),
oP 92 87 91 cF,
oM 93 92,
oT 93 94 (.call false (.f 7) []),
oP 95 93 94 cF,
oM 2 95])
.ret))))))))
def wi_:List RD:=[.tmp 2 true none]
theorem wo_:zl_ Try.prog Try.f4 wC_ wi_=true:=by kernel_rfl
def QX_:List AV->List Obj->Option (Prop × AV)
 | [.imm (.cons (.int .i64) (.cons (.int .i64) (.cons .bool (.cons (.int .u64) (.cons (.sl (.int .u8)) (.cons (.sl (.int .u8)) .nil)))))) l],[]=>some ((True,.bool true))
 | _,_=>none
theorem JH_:zf_ Try.prog 4 (RoF QX_).sum:=by
 refine zo_ Try.func4 wo_ (zc_ (s:=RoF Jl_) WK_ (zc_ (s:=RoF Kd_) K7_ (zc_ (s:=RoF qf_) q5_ (zc_ (s:=RoF kp_) KA_ (zc_ (s:=RoF Kb_) K5_ (zc_ (s:=RoF ZA_) qb_ (ze_ _))))))) fun args objs p v e=>?_
 unfold QX_ at e
 split at e
 ·rename_i l
  cases e
  refine ⟨rfl,fun hw ho hp=>?_⟩
  change List OV at l
  clear hw ho
  cases hf:VD_ l with
  | false=>
    repeat'(intro t ht;first|(cases t<;>first|(cases ht;done)|(try simp only[zh_]at ht;try(exfalso;first|contradiction|omega)))|((first|refine za_ ht ?_|refine ht ?_ ?_|refine ht.1 ?_ ?_|refine ht ?_)<;>clear ht))
    all_goals first
     | exact True.intro
     | exact ⟨rfl,rfl⟩
     | (exfalso;simp_all;done)
  | true=>
    obtain ⟨ha,hn⟩:=hD_ hf
    have hsl:=wB_ zj_ l
    have hsa:=Be_ ha.1
    have hid:=hl_ l
    by_cases hz:(ckS [] l).2=0
    ·obtain ⟨c1,c2,c3,c4⟩:=US_ hz
     repeat'(intro t ht;first|(cases t<;>first|(cases ht;done)|(try simp only[zh_]at ht;try(exfalso;first|contradiction|omega)))|((first|refine za_ ht ?_|refine ht ?_ ?_|refine ht.1 ?_ ?_|refine ht ?_)<;>clear ht))
     all_goals first
      | exact True.intro
      | exact ⟨rfl,by first | rfl | exact True.intro⟩
      | exact (show l.length<=120/\allLen l from ⟨by omega,ha.1⟩)
      | exact (show (isG ltO l).length<=120/\allLen (isG ltO l) from ⟨by omega,hsa⟩)
      | exact (show l.length<=10000 by omega)
      | exact (show (isG ltO l).length<=10000 by omega)
      | (exfalso;simp_all;done)
    ·obtain ⟨k,k1,k2,k3,k4⟩:=UM_ l [] hz
     rw [List.length_nil,Nat.zero_add] at k2
     have kt:((k:Int)+1).toNat=k+1:=by omega
     repeat'(intro t ht;first|(cases t<;>first|(cases ht;done)|(try simp only[zh_]at ht;try(exfalso;first|contradiction|omega)))|((first|refine za_ ht ?_|refine ht ?_ ?_|refine ht.1 ?_ ?_|refine ht ?_)<;>clear ht))
     all_goals (try simp only [k2,kt,Int.toNat_natCast,k3,k4] at ht ⊢)
     all_goals first
      | exact True.intro
      | exact ⟨rfl,by first | rfl | exact True.intro⟩
      | omega
      | (simp only [zi_];omega)
      | (constructor<;>omega)
      | exact (show l.length<=120/\allLen l from ⟨by omega,ha.1⟩)
      | exact (show (isG ltO l).length<=120/\allLen (isG ltO l) from ⟨by omega,hsa⟩)
      | contradiction
      | (exfalso;simp_all;done)
 ·cases e
def Wk_:IR:=
(sq (kr [0] [oD 2 (.nilrow (.int .i64))])
(sq (sq (.reg [oM 3 0,
oC 4 40 [3],
oD 5 (.un .not 4)])
(.cond 5
(sq (.reg [oD 2 (.nilrow (.int .i64))])
.ret)
.skip))
(sq (sq (kr [0,2] [oM 7 0,
oC 8 44 [7],
oM 6 8,
oX 9 6 0,
oX 10 6 1,
oM 0 9])
(.block 0
(.loop
(sq (sq (kr [0,2] [oM 11 0,
oB 12 .neq 11 (cI (-1))])
(.cond 12
.skip
(.exit 0)))
(sq (.block 1
(kr [0,2] [oM 18 2,
oM 19 0,
oD 20 (.sliceAll (.int .i64) 1 [(0,1,19)]),
oD 21 (.append (.int .i64) 8 18 20),
oM 2 21]))
(kr [0,2] [oM 14 0,
oC 15 44 [14],
oM 13 15,
oX 16 13 0,
oX 17 13 1,
oM 0 16]))))))
(sq (kr [2] [oM 22 2,
oD 23 (.call true (.f 45) [22])])
(sq (.reg [oM 24 2,
oM 2 24])
.ret)))))
def w4_:List RD:=[.tmp 2 false none]
theorem Wb_:zl_ Try.prog Try.f19 Wk_ w4_=true:=by kernel_rfl
def kD_:List AV->List Obj->Option (Prop × AV × List Obj)
 | [.int .i64 n],[]=>some ((True,.own 0,[.row false (.int .i64) (zC_ n)]))
 | _,_=>none
theorem we_:zf_ Try.prog 19 (RwF kD_).sum:=by
 refine kF_ Try.func19 Wb_ (zc_ (s:=RoF Kf_) K8_ (zc_ (s:=RoF Qq_) k5_ (zc_ (s:=RwF z6_) ZZ_ (ze_ _)))) fun args objs p v o e=>?_
 unfold kD_ at e
 split at e
 ·rename_i n
  cases e
  refine ⟨rfl,fun hw ho hp=>?_⟩
  clear hw ho
  repeat'(intro t ht;first|(cases t<;>first|(cases ht;done)|(try simp only[zh_]at ht))|((first|refine za_ ht ?_|refine ht ?_ ?_|refine ht.1 ?_ ?_|refine ht ?_)<;>clear ht))
  all_goals first
   | exact True.intro
   | (intro r h1 h2
      refine h1 ⟨4,?_⟩
      clear h1 h2)
   | (refine ⟨rfl,?_⟩;(try simp only [z0_,z1_,zi_] at*);unfold zC_;rw [if_neg (Ya_.1 (by assumption))])
  repeat'(intro t ht;first|(cases t<;>first|(cases ht;done)|(try simp only[zh_]at ht))|((first|refine za_ ht ?_|refine ht ?_ ?_|refine ht.1 ?_ ?_|refine ht ?_)<;>clear ht))
  all_goals first
   | exact True.intro
   | (simp only [WW_,List.length_append,List.length_cons,List.length_nil];omega)
   | (have hc:0<=n/\n < 40:=Qj_.1 (by assumption)
      refine ⟨rfl,?_⟩
      unfold zC_
      rw [if_pos hc]
      (try simp only [z0_,z1_,zi_] at*)
      simp only [*,if_true,if_false,WW_]
      done)
   | (have hc:0<=n/\n < 40:=Qj_.1 (by assumption)
      refine ⟨rfl,?_⟩
      unfold zC_
      rw [if_pos hc]
      (try simp only [z0_,z1_,zi_] at*)
      simp only [*,if_true,if_false,WW_]
      rfl)
   | (exfalso;(try simp only [z0_,z1_,zi_] at*)
      have hc:0<=n/\n < 40:=Qj_.1 (by assumption)
      have h4:=bA_ n.toNat (by omega)
      rw [Int.toNat_of_nonneg (by omega)] at h4
      omega)
 ·cases e
def z2_ (n:Int):List Int:=zC_ n++[n]
def gn_ (s:Int):List Int:=(List.replicate s.toNat 0).set (s - 1).toNat 1
def chV (q:List Int) (p:Int) (i:Nat):List Int:=if i+1 < q.length then (if 0 < (zY_ (q.getD (i+1) 0)).length then zr_ ((zY_ (q.getD (i+1) 0)).getD (p.tmod ((zY_ (q.getD (i+1) 0)).length:Int)).toNat 0) (ZV_ (q.getD i 0)) else gn_ (ZV_ (q.getD i 0))) else gn_ (ZV_ (q.getD i 0))
def chE (q:List Int) (p:Int) (i:Nat):OV:=(32768,q.getD i 0,false,0,chV q p i,[],())
def chR (q:List Int) (p:Int):Nat->List OV
 | 0=>[]
 | i+1=>chR q p i++[chE q p i]
theorem UT_ (q:List Int) (p:Int):∀ i,(chR q p i).length=i
 | 0=>rfl
 | i+1=>by unfold chR;rw [List.length_append,UT_ q p i];rfl
theorem bM_:∀ k < 40,(zY_ (k:Nat)).length<=2/\1<=ZV_ (k:Nat)/\ZV_ (k:Nat)<=16:=by decide+kernel
theorem u9_ {n:Int} (h:fIs n=true):(zY_ n).length<=2/\1<=ZV_ n/\ZV_ n<=16:=by
 have h1:=Qj_.1 h
 have:=bM_ n.toNat (by omega)
 rwa [Int.toNat_of_nonneg h1.1] at this
theorem bN_ (n:Int):(zY_ n).length<=2:=by
 cases h:fIs n with
 | true=>exact (u9_ h).1
 | false=>unfold zY_;rw [h];exact Nat.zero_le _
theorem BG_ {p:Int} {k:Nat} (h:0<=p) (hk:k<=2):p.tmod (k:Int)=(p % 2).tmod (k:Int)\/k=0:=by
 rw [Int.tmod_eq_emod_of_nonneg h,Int.tmod_eq_emod_of_nonneg (by omega)]
 have:k=0\/k=1\/k=2:=by omega
 rcases this with rfl | rfl | rfl
 ·exact .inr rfl
 ·left;omega
 ·left;omega
theorem BW_ (q:List Int) {p:Int} (h:0<=p) (i:Nat):chV q p i=chV q (p % 2) i:=by
 unfold chV
 by_cases c1:i+1 < q.length
 ·rw [if_pos c1,if_pos c1]
  by_cases c2:0 < (zY_ (q.getD (i+1) 0)).length
  ·rw [if_pos c2,if_pos c2,(BG_ h (bN_ _)).resolve_right (by omega)]
  ·rw [if_neg c2,if_neg c2]
 ·rw [if_neg c1,if_neg c1]
theorem bI_ (q:List Int) {p:Int} (h:0<=p):∀ i,chR q p i=chR q (p % 2) i
 | 0=>rfl
 | i+1=>by unfold chR chE;rw [bI_ q h i,BW_ q h i]
def chB (k:Nat) (p:Int):Bool:=
 decide (ckS [] (chR (z2_ (k:Nat)) p (z2_ (k:Nat)).length)=(0,0)) && (if (z2_ (k:Nat)).length=1 then decide (zz_ (k:Nat) < 0) && decide (ckS [] ((chR (z2_ (k:Nat)) p (z2_ (k:Nat)).length).drop 1)=(0,0)) else decide (0<=zz_ (k:Nat)) && decide (ckS [] ((chR (z2_ (k:Nat)) p (z2_ (k:Nat)).length).drop 1)=(0,1034)))
theorem bc_:∀ k < 40,chB k 0=true/\chB k 1=true:=by decide+kernel
theorem hR_ {n p:Int} (hf:fIs n=true) (hp:0<=p):ckS [] (chR (z2_ n) p (z2_ n).length)=(0,0)/\((z2_ n).length=1/\zz_ n < 0/\ckS [] ((chR (z2_ n) p (z2_ n).length).drop 1)=(0,0)\/1 < (z2_ n).length/\0<=zz_ n/\ckS [] ((chR (z2_ n) p (z2_ n).length).drop 1)=(0,1034)):=by
 have h1:=Qj_.1 hf
 have hb:chB n.toNat (p % 2)=true:=by
  have:=bc_ n.toNat (by omega)
  have hp2:p % 2=0\/p % 2=1:=by omega
  rcases hp2 with h | h
  ·rw [h];exact this.1
  ·rw [h];exact this.2
 unfold chB at hb
 rw [Int.toNat_of_nonneg h1.1,Bool.and_eq_true,decide_eq_true_eq] at hb
 rw [bI_ (z2_ n) hp]
 refine ⟨hb.1,?_⟩
 by_cases c:(z2_ n).length=1
 ·have h2:=hb.2
  rw [if_pos c,Bool.and_eq_true,decide_eq_true_eq,decide_eq_true_eq] at h2
  exact .inl ⟨c,h2.1,h2.2⟩
 ·have h2:=hb.2
  rw [if_neg c,Bool.and_eq_true,decide_eq_true_eq,decide_eq_true_eq] at h2
  refine .inr ⟨?_,h2.1,h2.2⟩
  have:(z2_ n).length=(zC_ n).length+1:=by unfold z2_;rw [List.length_append];rfl
  omega
theorem bg_ {n:Int} (hf:fIs n=true):∀ z ∈ z2_ n,fIs z=true:=fun z hz=>by
 unfold z2_ at hz
 rcases List.mem_append.1 hz with h | h
 ·exact Qj_.2 (yZ_ h)
 ·rw [List.mem_singleton.1 h];exact hf
theorem bb_ {n p:Int} (hf:fIs n=true) (hp:0<=p):poF (xj_ (chR (z2_ n) p (z2_ n).length))=[]:=(US_ (by rw [(hR_ hf hp).1])).2.2.1
def Wj_:IR:=
(sq (kr [0,1] [oD 4 (.mov cF)])
(sq (kr [0,1] [oM 20 0,
oC 21 18 [20],
oM 19 21,
oX 22 19 0,
oX 23 19 1,
oD 5 (.box [.int .i64 0,.int .i64 0,.kb false,.int .i64 0,.imm (.int .u64) []]),
oS 5 5 22,
oM 6 23])
(sq (sq (kr [0,1,5,6] [oM 24 6,
oD 25 (.un .not 24)])
(.cond 25
(sq (.reg [oC 26 7 [],
oM 4 26])
.ret)
.skip))
(sq (kr [0,1,5] [oM 27 0,
oC 28 19 [27],
oM 29 0,
oD 30 (.sliceAll (.int .i64) 1 [(0,1,29)]),
oD 31 (.append (.int .i64) 8 28 30),
oM 7 31])
(sq (.reg [oD 8 (.nilrow Y1)])
(sq (sq (kr [1,5,7,8] [oD 9 (.mov (cI 0))])
(.block 0
(.loop
(sq (sq (kr [1,5,7,8,9] [oM 32 9,
oM 33 7,
oE 34 33,
oB 35 .lss 32 34])
(.cond 35
.skip
(.exit 0)))
(sq (.block 1
(sq (kr [1,5,7,8,9] [oM 39 7,
oM 40 9,
oI 41 1 39 40,
oL 42 41,
oC 43 18 [42],
oM 38 43,
oX 44 38 0,
oX 45 38 1,
oD 10 (.box [.int .i64 0,.int .i64 0,.kb false,.int .i64 0,.imm (.int .u64) []]),
oS 5 10 44,
oM 11 45])
(sq (sq (kr [1,5,7,8,9,10,11] [oM 46 11,
oD 47 (.un .not 46)])
(.cond 47
(sq (.reg [oD 4 (.mov cF)])
.ret)
.skip))
(sq (kd [1,5,7,8,9,10] [(oM 48 7,[]),
(oM 49 9,[0]),
(oI 50 1 48 49,[]),
(oL 51 50,[]),
(oA 52 1 10,[0,0,0,0]),
(oL 53 52,[1,0,0,0]),
(oD 54 (.mkrow (.int .u8) 1 (0:Int) 53 53),[2,0,0,0]),
(oD 55 (.build [.int .i64 0,.int .i64 0,.kb false,.int .u64 0,.imm (.int .u8) [],.imm (.int .u8) []] [(0,1,(cI 32768)),(1,1,51),(4,1,54)]),[]),
(oD 12 (.box [.int .i64 0,.int .i64 0,.kb false,.int .u64 0,.imm (.int .u8) [],.imm (.int .u8) []]),[0,0,0,0,0,0,0,0]),
(oS 6 12 55,[])])
(sq (kr [1,5,7,8,9,10,12] [oA 56 4 12,
oL 57 56,
oA 58 1 10,
oL 59 58,
oB 60 .sub 59 (cI 1),
oI 61 1 57 60,
oN (.store 1 61 (.c (.int .u8 1)))])
(sq (sq (kr [1,5,7,8,9,10,12] [oM 62 9,
oB 63 .add 62 (cI 1),
oM 64 7,
oE 65 64,
oB 66 .lss 63 65])
(.cond 66
(sq (kr [1,5,7,8,9,10,12] [oM 68 7,
oM 69 9,
oB 70 .add 69 (cI 1),
oI 71 1 68 70,
oL 72 71,
oC 73 18 [72],
oM 67 73,
oX 74 67 0,
oX 75 67 1,
oD 13 (.box [.int .i64 0,.int .i64 0,.kb false,.int .i64 0,.imm (.int .u64) []]),
oS 5 13 74,
oM 14 75])
(sq (kr [1,5,7,8,9,10,12,13] [oA 76 4 13,
oL 77 76,
oE 78 77,
oB 79 .gtr 78 (cI 0)])
(.cond 79
(kd [1,5,7,8,9,10,12,13] [(oA 80 4 13,[]),
(oL 81 80,[]),
(oM 82 1,[0,0]),
(oD 83 (.conv .i64 82),[1,0]),
(oA 84 4 13,[0,0,0,0]),
(oL 85 84,[1,0,0,0]),
(oE 86 85,[2,0,0,0]),
(oB 87 .rem 83 86,[5,0]),
(oI 88 1 81 87,[]),
(oL 89 88,[]),
(oA 90 1 10,[0,0,0,0,0,0,0,0,0,0]),
(oL 91 90,[1,0,0,0,0,0,0,0,0,0]),
(oC 92 20 [89,91],[]),
(oA 93 4 12,[]),
(oS 1 93 92,[])])
.skip)))
.skip))
(kr [1,5,7,8,9,12] [oM 94 8,
oK 95 6 12,
oD 96 (.sliceAll Y1 1 [(0,6,95)]),
oD 97 (.append Y1 80 94 96),
oM 8 97])))))))
(kr [1,5,7,8,9] [oM 36 9,
oB 37 .add 36 (cI 1),
oM 9 37]))))))
(sq (kr [5,8] [oM 99 8,
oC 100 8 [99],
oM 98 100,
oX 101 98 0,
oX 102 98 1,
oM 15 101,
oM 16 102])
(sq (kr [5,8,16] [oM 104 8,
oD 105 (.slice 6 104 (some (cI 1)) none none),
oC 106 8 [105],
oM 103 106,
oX 107 103 0,
oX 108 103 1,
oM 17 107,
oM 18 108])
(sq (kr [5,8,16,17,18] [oM 109 16,
oB 110 .eql 109 (cI 0),
oM 111 110,
oT 111 112 (.mov 8),
oT 111 113 (.call false (.f 13) [112]),
oT 111 114 (.len 113),
oT 111 115 (.bin .eql 114 (cI 0)),
oP 116 111 115 cF,
oM 117 116,
oT 117 118 (.mov 8),
oT 117 119 (.len 118),
oT 117 120 (.bin .eql 119 (cI 1)),
oT 117 121 (.fieldAddr 3 5),
oT 117 122 (.load none 121),
oT 117 123 (.bin .lss 122 (cI 0)),
oT 117 124 (.eqb false 120 123),
oP 125 117 124 cF,
oM 126 125,
oT 126 127 (.mov 8),
oT 126 128 (.len 127),
oT 126 129 (.bin .eql 128 (cI 1)),
oT 126 130 (.mov 129),
oT 130 131 (.mov 18),
oT 130 132 (.bin .eql 131 (cI 0)),
oT 126 133 (.pick 130 132 cF),
oT 126 134 (.mov 133),
oF 134 135 (.mov 8),
oF 134 136 (.len 135),
oF 134 137 (.bin .gtr 136 (cI 1)),
oF 134 138 (.mov 137),
oT 138 139 (.mov 18),
oT 138 140 (.bin .eql 139 (cI 1034)),
oF 134 141 (.pick 138 140 cF),
oF 134 142 (.mov 141),
oT 142 143 (.mov 17),
oT 142 144 (.bin .eql 143 (cI 0)),
oF 134 145 (.pick 142 144 cF),
oT 126 146 (.pick 134 cT 145),
oP 147 126 146 cF,
oM 148 147,
oT 148 149 (.call false (.f 7) []),
oP 150 148 149 cF,
oM 4 150])
.ret)))))))))
def w3_:List RD:=[.tmp 4 true none]
theorem Wa_:zl_ Try.prog Try.f5 Wj_ w3_=true:=by kernel_rfl
def kC_:List AV->List Obj->Option (Prop × AV)
 | [.int .i64 n,.int .u8 p],[]=>some ((True,.bool true))
 | _,_=>none
theorem wd_:zf_ Try.prog 5 (RoF kC_).sum:=by
 refine zo_ Try.func5 Wa_ (zc_ (s:=RoF Kg_) K9_ (zc_ (s:=RoF Kd_) K7_ (zc_ (s:=RwF kD_) we_ (zc_ (s:=RwF Jm_) WL_ (zc_ (s:=RoF qf_) q5_ (zc_ (s:=RoF ZA_) qb_ (ze_ _))))))) fun args objs p v e=>?_
 unfold kC_ at e
 split at e
 ·rename_i n p
  cases e
  refine ⟨rfl,fun hw ho hp=>?_⟩
  have hpw:0<=p/\p<=255:=hw (.int .u8 p) (by simp)
  clear hw ho
  cases hf:fIs n with
  | false=>
    repeat'(intro t ht;first|(cases t<;>first|(cases ht;done)|(try simp only[zh_]at ht;try(exfalso;first|contradiction|omega)))|((first|refine za_ ht ?_|refine ht ?_ ?_|refine ht.1 ?_ ?_|refine ht ?_)<;>clear ht))
    all_goals first
     | exact True.intro
     | exact ⟨rfl,by first | rfl | exact True.intro⟩
     | (exfalso;simp_all;done)
  | true=>
    have hn3:=wt_ n
    have hq:z2_ n=zC_ n++[n]:=rfl
    have hql:(z2_ n).length<=4:=by rw [hq,List.length_append,List.length_singleton];omega
    repeat'(intro t ht;first|(cases t<;>first|(cases ht;done)|(try simp only[zh_]at ht;try(exfalso;first|contradiction|omega)))|((first|refine za_ ht ?_|refine ht ?_ ?_|refine ht.1 ?_ ?_|refine ht ?_)<;>clear ht))
    all_goals first
     | exact True.intro
     | omega
     | (simp only [List.length_cons,List.length_nil];constructor<;>omega)
     | (exfalso;simp_all;done)
     | (intro r h1 h2;clear h1;refine h2 ⟨[1,5,7,8,9],Nat,(fun i=>i<=(z2_ n).length),fun i=>[.int .u8 p,.ptr 0 0,.own 1,.own 2,.int .i64 i],fun i=>[.box [.int .i64 (JB_ n),.int .i64 (ZV_ n),.bool (JA_ n),.int .i64 (zz_ n),.imm (.int .u64) (zY_ n)],.row false (.int .i64) (z2_ n),.row false Y1 (chR (z2_ n) p i)],fun i=>(z2_ n).length - i,⟨0,Nat.zero_le _,rfl,rfl⟩,?_⟩;clear h2)
    rintro i hi
    have hrl:=UT_ (z2_ n) p i
    have hall:=bg_ hf
    have hdf:((Ty.int IntKind.i64).dflt:Int)=0:=rfl
    by_cases hlt:i < (z2_ n).length
    ·have hA:=hall _ (ZM_ hlt 0)
     have vA:=u9_ hA
     have ei:((i:Int)+1).toNat=i+1:=by omega
     have hV:chR (z2_ n) p (i+1)=chR (z2_ n) p i++[chE (z2_ n) p i]:=rfl
     have hm:(0:Int)<=0:=Int.le_refl _
     by_cases hnx:i+1 < (z2_ n).length
     ·have hB:=hall _ (ZM_ hnx 0)
      by_cases hvl:0 < (zY_ ((z2_ n).getD (i+1) 0)).length
      ·have hE:chE (z2_ n) p i=(32768,(z2_ n).getD i 0,false,0,zr_ ((zY_ ((z2_ n).getD (i+1) 0)).getD (p.tmod ((zY_ ((z2_ n).getD (i+1) 0)).length:Int)).toNat 0) (ZV_ ((z2_ n).getD i 0)),[],()):=by unfold chE chV;rw [if_pos hnx,if_pos hvl]
       have hm:0<=p.tmod ((zY_ ((z2_ n).getD (i+1) 0)).length:Int)/\p.tmod ((zY_ ((z2_ n).getD (i+1) 0)).length:Int) < ((zY_ ((z2_ n).getD (i+1) 0)).length:Int):=⟨Int.tmod_nonneg _ hpw.1,Int.tmod_lt_of_pos p (by omega)⟩
       repeat'(intro t ht;first|(cases t<;>first|(cases ht;done)|(try simp only[zh_]at ht;try(exfalso;first|contradiction|omega)))|((first|refine za_ ht ?_|refine ht ?_ ?_|refine ht.1 ?_ ?_|refine ht ?_)<;>clear ht))
       all_goals (try simp only [ei,hdf,Int.toNat_natCast] at ht ⊢)
       all_goals first
        | exact True.intro
        | omega
        | ((try dsimp only);simp only [zi_];omega)
        | (refine ⟨by omega,by omega,?_,by omega⟩;omega)
        | exact ⟨by omega,by omega⟩
        | (simp only [List.length_replicate];constructor<;>omega)
        | (simp only [List.length_replicate];omega)
        | (simp only [List.length_cons,List.length_nil,hrl];constructor<;>omega)
        | exact hm
        | exact absurd hA ht
        | (rw [hA] at ht;cases ht;done)
        | (refine ⟨i+1,?_,?_,rfl,?_⟩
           ·(try dsimp only);omega
           ·(try dsimp only);omega
           ·(try dsimp only)
            rw [hV,hE];try rfl)
      ·have hE:chE (z2_ n) p i=(32768,(z2_ n).getD i 0,false,0,gn_ (ZV_ ((z2_ n).getD i 0)),[],()):=by unfold chE chV;rw [if_pos hnx,if_neg hvl]
       unfold gn_ at hE
       repeat'(intro t ht;first|(cases t<;>first|(cases ht;done)|(try simp only[zh_]at ht;try(exfalso;first|contradiction|omega)))|((first|refine za_ ht ?_|refine ht ?_ ?_|refine ht.1 ?_ ?_|refine ht ?_)<;>clear ht))
       all_goals (try simp only [ei,hdf,Int.toNat_natCast] at ht ⊢)
       all_goals first
        | exact True.intro
        | omega
        | ((try dsimp only);simp only [zi_];omega)
        | (refine ⟨by omega,by omega,?_,by omega⟩;omega)
        | exact ⟨by omega,by omega⟩
        | (simp only [List.length_replicate];constructor<;>omega)
        | (simp only [List.length_replicate];omega)
        | (simp only [List.length_cons,List.length_nil,hrl];constructor<;>omega)
        | exact hm
        | exact absurd hA ht
        | (rw [hA] at ht;cases ht;done)
        | (refine ⟨i+1,?_,?_,rfl,?_⟩
           ·(try dsimp only);omega
           ·(try dsimp only);omega
           ·(try dsimp only)
            rw [hV,hE];try rfl)
     ·have hE:chE (z2_ n) p i=(32768,(z2_ n).getD i 0,false,0,gn_ (ZV_ ((z2_ n).getD i 0)),[],()):=by unfold chE chV;rw [if_neg hnx]
      unfold gn_ at hE
      repeat'(intro t ht;first|(cases t<;>first|(cases ht;done)|(try simp only[zh_]at ht;try(exfalso;first|contradiction|omega)))|((first|refine za_ ht ?_|refine ht ?_ ?_|refine ht.1 ?_ ?_|refine ht ?_)<;>clear ht))
      all_goals (try simp only [ei,hdf,Int.toNat_natCast] at ht ⊢)
      all_goals first
       | exact True.intro
       | omega
       | ((try dsimp only);simp only [zi_];omega)
       | (refine ⟨by omega,by omega,?_,by omega⟩;omega)
       | exact ⟨by omega,by omega⟩
       | (simp only [List.length_replicate];constructor<;>omega)
       | (simp only [List.length_replicate];omega)
       | (simp only [List.length_cons,List.length_nil,hrl];constructor<;>omega)
       | exact hm
       | exact absurd hA ht
       | (rw [hA] at ht;cases ht;done)
       | (refine ⟨i+1,?_,?_,rfl,?_⟩
          ·(try dsimp only);omega
          ·(try dsimp only);omega
          ·(try dsimp only)
           rw [hV,hE];try rfl)
    ·have hie:i=(z2_ n).length:=by omega
     obtain ⟨c1,c2⟩:=hR_ hf hpw.1
     have c3:=bb_ hf hpw.1
     rw [<- hie] at c1 c2 c3
     have e2:List.take (((chR (z2_ n) p i).length:Int) - 1).toNat (List.drop (Int.toNat 1) (chR (z2_ n) p i))=(chR (z2_ n) p i).drop 1:=List.take_of_length_le (by show ((chR (z2_ n) p i).drop 1).length<=_;rw [List.length_drop];omega)
     rcases c2 with ⟨d1,d2,d3⟩ | ⟨d1,d2,d3⟩
     all_goals repeat'(intro t ht;first|(cases t<;>first|(cases ht;done)|(try simp only[zh_]at ht;try(exfalso;first|contradiction|omega)))|((first|refine za_ ht ?_|refine ht ?_ ?_|refine ht.1 ?_ ?_|refine ht ?_)<;>clear ht))
     all_goals (try simp only [e2,d3,c1,c3,hrl] at ht ⊢)
     all_goals first
      | exact True.intro
      | omega
      | exact ⟨rfl,by first | rfl | exact True.intro⟩
      | exact ⟨True.intro,True.intro⟩
      | exact (show i<=10000 by omega)
      | (refine ⟨?_,?_,?_⟩<;>omega)
      | (show Int.toNat 1+((i:Int) - 1).toNat<=i;omega)
      | contradiction
      | (exfalso;simp_all;done)
      | (exfalso;simp_all;omega)
 ·cases e
end Go.Eng

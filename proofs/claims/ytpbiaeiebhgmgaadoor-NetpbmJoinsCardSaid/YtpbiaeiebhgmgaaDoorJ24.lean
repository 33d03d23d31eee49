/- Netpbm: pictures one after the other (plain facts); lists of pictures as arguments. Netpbm: the law NetpbmJoins. Netpbm: lists of pictures as arguments: slices of records that hold slices. -/
import Derived.Test.YtpbiaeiebhgmgaaDoorJ21
import Derived.Test.YtpbiaeiebhgmgaaDoorJ23
set_option linter.unusedVariables false
set_option linter.unusedSimpArgs false
set_option linter.unusedSectionVars false
namespace Go.Proofs.YtpbiaeiebhgmgaaDoor
open Go.Abs
set_option linter.unusedSimpArgs false
set_option linter.unusedVariables false
def okP(c:Pic):Prop:=(c.f=1∨c.f=2∨c.f=4∨c.f=5)∧valB c.w c.h c.px.length=true∧¬ badPx c.f c.px∧c.px.length≤2000∧c.p=(if c.f<4 then(outB c.f c.w c.h c.px).length-1 else(outB c.f c.w c.h c.px).length)
def joinF:List Pic→List UInt8
 | []=>[]
 | c::cs=>outB c.f c.w c.h c.px++joinF cs
theorem joinF_app:∀a b:List Pic,joinF (a++b)=joinF a++joinF b
 | [],b=>rfl
 | c::a,b=>by simp only[List.cons_append,joinF,joinF_app a b,List.append_assoc]
theorem joinF_len:∀cs:List Pic,(∀c ∈ cs,okP c)→(joinF cs).length≤12017*cs.length∧3*cs.length≤(joinF cs).length
 | [],_=>by simp[joinF]
 | c::cs,h=>by
  obtain⟨_,h2,_,h4,_⟩:=h c (by simp)
  have h5:=outB_len (f:=c.f) h2 h4
  have h6:=outB_pos (f:=c.f) (w:=c.w) (h:=c.h) (px:=c.px)
  have ih:=joinF_len cs (fun d hd=>h d (by simp[hd]))
  simp only[joinF,List.length_append,List.length_cons]
  omega
theorem joinF_dw:∀cs:List Pic,(joinF cs).dropWhile wsB=joinF cs
 | []=>rfl
 | c::cs=>by
  refine dw_stop fun _=>?_
  simp only[joinF]
  unfold outB headB
  simp
  rfl
theorem out_last{f w h:Nat}{px:List UInt8}(hf:f=1∨f=2)(hv:valB w h px.length=true):(outB f w h px).drop ((outB f w h px).length-1)=[10]:=by
 obtain⟨w1,w2,h1,h2,n1,n2,_,_⟩:=val_nat hv
 have hl:px.length=w*h:=by omega
 obtain⟨y,rfl⟩:∃y,h=y+1:=⟨h-1,by omega⟩
 have hrl:=row_len hl (show y<y+1 by omega)
 have e:outB f w (y+1) px=(headB f w (y+1)++rowsW f w px y++rowB f ((px.drop (y*w)).take w) w)++[10]:=by
  unfold outB
  rw[rowsW,rowW_plain hf (by omega),hrl]
  simp only[List.append_assoc]
 rw[e,List.length_append]
 simp
theorem join_next{c:Pic}(h:okP c)(cs:List Pic):(((outB c.f c.w c.h c.px)++joinF cs).drop c.p).dropWhile wsB=joinF cs:=by
 obtain⟨hf,hv,_,_,hp⟩:=h
 have h6:=outB_pos (f:=c.f) (w:=c.w) (h:=c.h) (px:=c.px)
 rw[hp]
 by_cases h4:c.f<4
 ·rw[if_pos h4,List.drop_append_of_le_length (by omega),out_last (by omega) hv]
  show((10:UInt8)::joinF cs).dropWhile wsB=_
  rw[List.dropWhile_cons_of_pos (by rfl),joinF_dw]
 ·rw[if_neg h4,List.drop_left,joinF_dw]
theorem allA_join:∀(cs:List Pic) (n:Nat) (acc:List Pic),cs≠[]→(∀c ∈ cs,okP c)→cs.length≤n→allA n acc (joinF cs)=.inr (acc++cs)
 | [],_,_,h,_,_=>absurd rfl h
 | c::cs,n,acc,_,hc,hn=>by
  obtain⟨n,rfl⟩:∃m,n=m+1:=⟨n-1,by simp at hn;omega⟩
  have hok:=hc c (by simp)
  obtain⟨hf,hv,hb,_,hp⟩:=id hok
  have hr:readS (joinF (c::cs))=.inr c:=by
   simp only[joinF]
   rw[readS_out hf hv hb,←hp]
  have hn2:((joinF (c::cs)).drop c.p).dropWhile wsB=joinF cs:=join_next hok cs
  by_cases h0:cs=[]
  ·subst h0
   rw[allA_end hr (by rw[hn2];rfl)]
  ·have hne:((joinF (c::cs)).drop c.p).dropWhile wsB≠[]:=by
    rw[hn2]
    have:=(joinF_len cs (fun d hd=>hc d (by simp[hd]))).2
    have h1:0<cs.length:=List.length_pos_iff.2 h0
    intro e;rw[e]at this;simp at this;omega
   rw[allA_go hr hne,hn2,allA_join cs n _ h0 (fun d hd=>hc d (by simp[hd])) (by simp at hn;omega)]
   simp
theorem allS_join{cs:List Pic}(h:cs≠[])(hc:∀c ∈ cs,okP c):allS (joinF cs)=.inr cs:=by
 unfold allS
 rw[allA_join cs _ [] h hc (by have:=(joinF_len cs hc).2;omega)]
 rfl
theorem allS_nil:allS []=.inl 25:=by
 unfold allS
 exact allA_err (by unfold readS;rw[if_pos (.inl (by decide))])
abbrev ImgA:=Int×Int×Value×List UInt8
def recsA:List ImgA→List Value
 | []=>[]
 | r::L=>[.int .i64 r.1,.int .i64 r.2.1,r.2.2.1]++recsA L
theorem recsA_len:∀L:List ImgA,(recsA L).length=3*L.length
 | []=>rfl
 | r::L=>by simp only[recsA,List.length_append,recsA_len L,List.length_cons,List.length_nil];omega
theorem recsA_at:∀(L:List ImgA) (k:Nat) (h:k<L.length),((recsA L).drop (k*3)).take 3=[.int .i64 L[k].1,.int .i64 L[k].2.1,L[k].2.2.1]
 | r::L,0,h=>rfl
 | r::L,k+1,h=>by
  have e:(k+1)*3=3+k*3:=by omega
  rw[e,←List.drop_drop]
  exact recsA_at L k (by simpa using h)
def Imgs(H:Heap)(v:Value)(L:List ImgA):Prop:=(∃a c,v=.slice a L.length c)∧∀k (hk:k<L.length),∃p o X,(∀H',lsem (.iAddr 3) [v,.int .i64 (k:Nat)] H'=some (.pointer (some ⟨p,o,none⟩)))∧H.get p=some X∧o+3≤X.length∧(X.drop o).take 3=[.int .i64 L[k].1,.int .i64 L[k].2.1,L[k].2.2.1]∧SlU H L[k].2.2.1 L[k].2.2.2
theorem wpH_appP2{cp:FuncId→Option CF}{lo:Nat}{z:List Value}{G H:Heap}{v:Value}{b t:Nat}{sp:Option Nat}{m:Nat}{L:List Rec}{r:Rec}{R:Value→Heap→Prop}(ho:Own lo 3 H v b (recs L))(hG:Ext G H)(hb:G.length≤b)(hlo:lo≤G.length)(hL:Pics H (L++[r]))(hbig:L.length≤1000000000)(ht:H.get t=some (recC r))
  (k:∀v' H' b',Own lo 3 H' v' H.length (recs (L++[r]))→Ext G H'→H'.length=H.length+1→Keep b' H H'→(b'=b∨H.length≤b')→R v' H'):wpH cp lo (.app 3 z) [v,.slice (some ⟨t,0,sp⟩) 1 m] H R:=by
 have hGl:=hG.1
 have h1:oneCells (recC r)=true:=by
  obtain⟨a,c,e⟩:=(hL r (by simp)).2.len
  simp[oneCells,recC,e,Value.oneCell']
 have fin:∀{b':Nat},Own lo 3 H v b' (recs L)→(b'=b∨H.length≤b')→G.length≤b'→wpH cp lo (.app 3 z) [v,.slice (some ⟨t,0,sp⟩) 1 m] H R:=by
  intro b' ho hv hb'
  refine wpH_app ho (by omega) (by omega) (by omega) (by rw[recs_len];omega) ht (by simp[recC]) (c:=recC r) (by simp[recC]) h1 ?_
  intro v' H' ho' hk hl'
  refine k v' H' b' ?_ (hk.ext hG hb') hl' hk hv
  rw[recs_app]
  simpa[recs]using ho'
 by_cases hv:v=.slice none 0 0
 ·subst hv
  have hL0:recs L=[]:=by
   obtain⟨_,h|⟨n,_,_,h,_⟩⟩:=ho
   ·exact h.2
   ·cases h
  rw[hL0]at fin
  exact fin (b':=H.length) (Own.nil (by omega)) (.inr (Nat.le_refl _)) hGl
 ·exact fin ho (.inl rfl) hb
theorem own_keep2{lo sz b b':Nat}{H H':Heap}{v:Value}{c:List Value}(h:Own lo sz H v b c)(e:Keep b' H H')(hb:b≠b'∨H.length≤b')(hlo:lo≤H.length):∃b2,Own lo sz H' v b2 c∧(b2=b∧b<H.length∨H'.length<b2):=by
 obtain⟨h1,h|⟨n,h2,h3,h4,h5⟩⟩:=h
 ·exact⟨H'.length+1,⟨by have:=e.len;omega,.inl h⟩,.inr (by omega)⟩
 ·have:=Heap.get_lt h5
  exact⟨b,⟨h1,.inr ⟨n,h2,h3,h4,e.get h5 (by omega)⟩⟩,.inl ⟨rfl,this⟩⟩
end Go.Proofs.YtpbiaeiebhgmgaaDoor
namespace Go.Proofs.YtpbiaeiebhgmgaaDoor
open Go.Abs
set_option linter.unusedSimpArgs false
set_option linter.unusedVariables false
set_option maxRecDepth 20000
section
variable {H:Heap}
theorem lawJO{v kv:Value}{L:List ImgA}{ks:List UInt8}(hg:H.get 0=some powC)(hL:Imgs H v L)(hk:SlU H kv ks):Ev cp H.length 8 [v,kv] H (fun r _=>r=.bool true):=by
 obtain⟨⟨av,cv,rfl⟩,him⟩:=hL
 obtain⟨ak,ck,rfl⟩:=hk.len
 refine st8 ?_;unfold bd8 cf8;simp only[kB,ctlB]
 repeat' ((first|refine xSNb ?_|refine xONb rfl ?_);(try simp only[ctlB]))
 refine xCNb (fun h=>?_) (fun h=>?_)
 ·(try simp only[ctlB])
  refine xHNb ?_
  refine wpH_call0 (exEv (Nat.le_refl _)) ?_
  rintro r H1 ⟨rfl,_⟩
  (try simp only[ctlB])
  repeat' ((first|refine xSNb ?_|refine xONb rfl ?_);(try simp only[ctlB]))
  refine xRNb ?_
  rfl
 have hL5:L.length≤5:=by simp at h;omega
 clear h
 replace him:False∨_:=.inr him
 (try simp only[ctlB])
 repeat' ((first|refine xSNb ?_|refine xONb rfl ?_);(try simp only[ctlB]))
 refine aw_midXB (fun S' H'=>∃(W:List Rec) (i:Nat) (s3 s4:Value) (b3 b4:Nat),W.length≤5∧Ext H H'∧Own H.length 1 H' s3 b3 (uL (joinF (W.map Prod.fst)))∧Own H.length 3 H' s4 b4 (recs W)∧b3≠b4∧Pics H W∧(∀c ∈ W.map Prod.fst,okP c)∧∃(z:Nat→Value),S'=[.slice av L.length cv,.slice ak ks.length ck,z 2,s3,s4,.int .i64 (i:Nat),z 6,z 7,z 8,z 9,z 10,z 11,z 12,z 13,z 14,z 15,z 16,z 17,z 18,z 19,z 20]) ?_ ?_
 ·refine aw_loop' (fun m S H'=>∃(i:Nat) (W:List Rec) (s3 s4:Value) (b3 b4:Nat),m+i=L.length∧W.length≤i∧Ext H H'∧Own H.length 1 H' s3 b3 (uL (joinF (W.map Prod.fst)))∧Own H.length 3 H' s4 b4 (recs W)∧b3≠b4∧Pics H W∧(∀c ∈ W.map Prod.fst,okP c)∧∃(z:Nat→Value),S=[.slice av L.length cv,.slice ak ks.length ck,z 2,s3,s4,.int .i64 (i:Nat),z 6,z 7,z 8,z 9,z 10,z 11,z 12,z 13,z 14,z 15,z 16,z 17,z 18,z 19,z 20]) L.length ⟨0,[],_,_,H.length,H.length+1,by omega,by simp,Ext.refl _,Own.nil (Nat.le_refl _),Own.nil (by omega),by omega,(fun r hr=>by cases hr),(fun c hc=>by cases hc),exZNf rfl⟩ ?_
  rintro m S H' ⟨i,W,s3,s4,b3,b4,hm,hWi,hx,ho3,ho4,hne,hp,hok,z,rfl⟩
  replace hm:m+i≤L.length∧L.length≤m+i:=by omega
  replace hok:False∨_:=.inr hok
  have hlx:=hx.1
  have hjl:=joinF_len (W.map Prod.fst) (hok.resolve_left id)
  rw[List.length_map]at hjl
  (try simp only[ctlB])
  refine xCNb (fun h=>?_) (fun h=>?_)
  ·have hi:i<L.length∧i<ks.length:=by
    rw[Bool.and_eq_true,decide_eq_true_eq,decide_eq_true_eq]at h;omega
   clear h
   obtain⟨p,o,X,i1,g1,n1,t1,hu⟩:=him.resolve_left id i hi.1
   obtain⟨p2,o2,X2,i2,g2,v2⟩:=sl_at (hk.mono hx) hi.2
   generalize L[i].1=w at t1
   generalize L[i].2.1=ht at t1
   generalize L[i].2.2.1=pv at t1 hu
   generalize L[i].2.2.2=l at hu
   generalize ks.getD i 0=k at v2
   have gx:=hx.get g1
   replace g1:False∨_:=.inr g1
   replace i1:False∨_:=.inr i1
   have i1h:=i1.resolve_left id H'
   (try simp only[ctlB])
   refine xHNb ?_
   refine wpH_callC (writP (Nat.le_refl _) (Nat.le_refl _) hg hx hu) ?_
   rintro r H1 ⟨hx1,u1,rfl,hu1⟩
   have hy1:=hx.trans hx1
   have hl1:=hx1.1
   clear g2 i1h i2 v2
   have ho3':=ho3.mono hx1
   have ho4':=ho4.mono hx1
   by_cases hw0:(wrote w ht k l).1=[]
   ·rw[hw0]at hu1
    generalize (wrote w ht k l).2=q
    obtain⟨a1,c1,rfl⟩:=hu1.len
    clear hw0 gx t1
    (try simp only[ctlB])
    repeat' ((first|refine xSNb ?_|refine xONb rfl ?_);(try simp only[ctlB]))
    refine xCNb (fun h=>?_) (fun h=>?_)
    ·exfalso;simp at h
    clear h
    (try simp only[ctlB])
    repeat' ((first|refine xSNb ?_|refine xONb rfl ?_);(try simp only[ctlB]))
    exact⟨m-1,by omega,i+1,W,s3,s4,b3,b4,by omega,by omega,hy1,ho3',ho4',hne,hp,hok.resolve_left id,exZNf (by first|rfl|(simp only[Int.natCast_add,Int.natCast_one];rfl)|simp only[Int.natCast_add,Int.natCast_one])⟩
   obtain⟨Wd,Ht,rfl,rfl,hv,hb,hlen,hw⟩:=wrote_in hw0
   have hfk:=fmtK_in k
   rw[hw]at hu1 ⊢
   clear hw hw0
   generalize fmtK k=f at hu1 hb hfk ⊢
   simp only at hu1
   have hpl:=outB_len (f:=f) hv hlen
   have hpp:=outB_pos (f:=f) (w:=Wd) (h:=Ht) (px:=l)
   have hvn:=val_nat hv
   obtain⟨apv,cpv,rfl⟩:=hu.len
   have hokc:okP ⟨Wd,Ht,l,f,if f<4 then(outB f Wd Ht l).length-1 else(outB f Wd Ht l).length⟩:=⟨hfk,hv,hb,hlen,rfl⟩
   have hjn:joinF ((W++[((⟨Wd,Ht,l,f,if f<4 then(outB f Wd Ht l).length-1 else(outB f Wd Ht l).length⟩,.slice apv l.length cpv):Rec)]).map Prod.fst)=joinF (W.map Prod.fst)++outB f Wd Ht l:=by
    rw[List.map_append,joinF_app]
    simp[joinF]
   replace hjn:False∨_:=.inr hjn
   generalize (if f<4 then(outB f Wd Ht l).length-1 else(outB f Wd Ht l).length)=cn at hokc hjn
   generalize outB f Wd Ht l=pf at hu1 hpl hpp hjn
   obtain⟨a1,c1,rfl⟩:=hu1.len
   have hdp:decide ((pf.length:Int)>0)=true:=decide_eq_true (by omega)
   (try simp only[ctlB])
   repeat' ((first|refine xSNb ?_|refine xONb rfl ?_);(try simp only[ctlB]))
   refine xCNb (fun h=>?_) (fun h=>?_)
   rotate_left
   ·exfalso;simp at h
   clear h
   (try simp only[ctlB])
   refine xHNb ?_
   refine own_appU ho3' (by omega) hu1 (by omega) (by rw[uL_len];omega) ?_
   intro v5 H2 ho5 hk5 hl5
   replace hl5:H1.length+1≤H2.length∧H2.length≤H1.length+1:=by omega
   have hy2:=hk5.ext hy1 ho3'.1
   obtain⟨b4',ho4'',hb4'⟩:=own_keep2 ho4' hk5 (.inl hne.symm) (by omega)
   have gx2:=hy2.get (g1.resolve_left id)
   have i1h:=i1.resolve_left id H2
   clear gx
   (try simp only[ctlB])
   repeat' ((first|refine xSNb ?_|refine xONb rfl ?_);(try simp only[ctlB]))
   have hxB:Ext H2 (H2++[some [Value.int .i64 (Wd:Nat),.int .i64 (Ht:Nat),.slice apv l.length cpv]]):=Ext.app _ _
   have gB:(H2++[some [Value.int .i64 (Wd:Nat),.int .i64 (Ht:Nat),.slice apv l.length cpv]]).get H2.length=some [Value.int .i64 (Wd:Nat),.int .i64 (Ht:Nat),.slice apv l.length cpv]:=get_app0
   have hlB:H2.length+1≤(H2++[some [Value.int .i64 (Wd:Nat),.int .i64 (Ht:Nat),.slice apv l.length cpv]]).length:=by simp
   generalize H2++[some [Value.int .i64 (Wd:Nat),.int .i64 (Ht:Nat),.slice apv l.length cpv]]=H3 at hxB gB hlB
   have hy3:=hy2.trans hxB
   have hpA:Pics H (W++[((⟨Wd,Ht,l,f,cn⟩,.slice apv l.length cpv):Rec)]):=by
    intro r hr
    rcases List.mem_append.1 hr with hr|hr
    ·exact hp r hr
    ·obtain rfl:=List.mem_singleton.1 hr
     exact⟨⟨by simp only;omega,by simp only;omega⟩,hu⟩
   clear gx2 i1h t1
   refine xHNb ?_
   refine wpH_appP2 (L:=W) (r:=(⟨Wd,Ht,l,f,cn⟩,.slice apv l.length cpv)) (ho4''.mono hxB) hy3 ho4''.1 (Nat.le_refl _) (hpA.mono hy3) (by omega) gB ?_
   intro v6 H4 b6 ho6 hx6 hl6 hk6 hb6
   replace hl6:H3.length+1≤H4.length∧H4.length≤H3.length+1:=by omega
   obtain⟨b3',ho7,hb3'⟩:=own_keep2 (ho5.mono hxB) hk6 (by have:=hy1.1;omega) (by have:=hy3.1;omega)
   clear gB
   (try simp only[ctlB])
   repeat' ((first|refine xSNb ?_|refine xONb rfl ?_);(try simp only[ctlB]))
   refine⟨m-1,by omega,i+1,W++[((⟨Wd,Ht,l,f,cn⟩,.slice apv l.length cpv):Rec)],v5,v6,b3',H3.length,by omega,by simp;omega,hx6,?_,ho6,by omega,hpA,?_,exZNf (by first|rfl|(simp only[Int.natCast_add,Int.natCast_one];rfl)|simp only[Int.natCast_add,Int.natCast_one])⟩
   ·rw[hjn.resolve_left id,uL_app];exact ho7
   ·intro c hc
    rw[List.map_append]at hc
    rcases List.mem_append.1 hc with hc|hc
    ·exact hok.resolve_left id c hc
    ·obtain rfl:=List.mem_singleton.1 hc
     exact hokc
  ·clear h
   (try simp only[ctlB])
   exact⟨W,i,s3,s4,b3,b4,by omega,hx,ho3,ho4,hne,hp,hok.resolve_left id,exZNf rfl⟩
 ·rintro S' H' ⟨W,i,s3,s4,b3,b4,hW5,hx,ho3,ho4,hne,hp,hok,z,rfl⟩
  have hjl:=joinF_len (W.map Prod.fst) hok
  rw[List.length_map]at hjl
  obtain⟨as4,rfl⟩:=own_rec ho4
  have hlx:=hx.1
  (try simp only[ctlB])
  refine xHNb ?_
  refine wpH_call0 (allP (Sl.ofOwn ho3) (by omega) (by omega)) ?_
  rintro r H1 ⟨hx1,hr1⟩
  have hy1:=hx.trans hx1
  have hl1:=hy1.1
  have ho4:=ho4.mono hx1
  by_cases hW:W=[]
  ·subst hW
   have hr2:isAll H.length H1 r (.inl 25):=by rw[←allS_nil];exact hr1
   have hr3:r=.tuple #[.slice none 0 0,.int .i64 25]:=hr2
   subst hr3
   clear hr1 hr2
   (try simp only[ctlB])
   repeat' ((first|refine xSNb ?_|refine xONb rfl ?_);(try simp only[ctlB]))
   refine xCNb (fun h=>?_) (fun h=>?_)
   rotate_left
   ·exfalso;simp at h
   clear h
   (try simp only[ctlB])
   refine aw_hv_if (t:=true) (xENb) (by simp(disch:=first|omega|(simp only[lenB];omega))only[evB,xBNb,Nat.reduceAdd,Nat.reduceBEq, *]) (by simp(disch:=first|omega|(simp only[lenB];omega))only[evB,xBNb,Nat.reduceAdd,Nat.reduceBEq, *];try rfl) (fun _=>⟨_,xENb,?_⟩) (fun h=>by cases h)
   refine wpH_call0 (exEv (by omega)) ?_
   rintro r H3 ⟨rfl,_⟩
   (try simp only[ctlB])
   repeat' ((first|refine xSNb ?_|refine xONb rfl ?_);(try simp only[ctlB]))
   refine xRNb ?_
   rfl
  ·have hWl:0<W.length:=List.length_pos_iff.2 hW
   rw[allS_join (by simpa using hW) hok]at hr1
   obtain⟨v1,b1,L1,rfl,ho1,hp1,hc1,hb1⟩:=hr1
   obtain⟨a1,rfl⟩:=own_rec ho1
   have hLl:L1.length=W.length:=by simpa using congrArg List.length hc1
   rw[hLl]
   replace hc1:False∨_:=.inr hc1
   replace hLl:False∨_:=.inr hLl
   rw[hLl.resolve_left id]at ho1
   clear hok hW
   have hd0:decide ((W.length:Int)=0)=false:=decide_eq_false (by omega)
   (try simp only[ctlB])
   repeat' ((first|refine xSNb ?_|refine xONb rfl ?_);(try simp only[ctlB]))
   refine xCNb (fun h=>?_) (fun h=>?_)
   ·exfalso;simp at h
   clear h
   (try simp only[ctlB])
   refine xCNb (fun h=>?_) (fun h=>?_)
   ·exfalso;simp at h
   clear h hd0
   (try simp only[ctlB])
   repeat' ((first|refine xSNb ?_|refine xONb rfl ?_);(try simp only[ctlB]))
   refine aw_loop' (fun m S H'=>∃(k:Nat),m+k=W.length∧Ext H1 H'∧∃(z:Nat→Value),S=[z 0,z 1,z 2,z 3,.slice as4 W.length W.length,z 5,z 6,.slice a1 W.length W.length,z 8,.int .i64 (k:Nat),z 10,z 11,z 12,z 13,z 14,z 15,z 16,z 17,z 18,z 19,z 20]) W.length ⟨0,by omega,Ext.refl _,exZNf rfl⟩ ?_
   rintro m S H' ⟨k,hm,hx2,z,rfl⟩
   replace hm:m+k≤W.length∧W.length≤m+k:=by omega
   have hlx2:=hx2.1
   (try simp only[ctlB])
   by_cases hkl:k<W.length
   ·have hd:decide ((k:Int)<(W.length:Nat))=true:=decide_eq_true (by omega)
    have hkl2:k<L1.length:=by have:=hLl.resolve_left id;omega
    obtain⟨q1,o1,X1,i1,g1,n1,t1,u1⟩:=rec_at (ho1.mono hx2) (hp1.mono hx2) hkl2
    obtain⟨q2,o2,X2,i2,g2,n2,t2,u2⟩:=rec_at (ho4.mono hx2) (hp.mono (hy1.trans hx2)) hkl
    have hpx:L1[k].1=W[k].1:=by
     have h1:(L1.map Prod.fst)[k]?=some L1[k].1:=by simp[hkl2]
     have h2:(W.map Prod.fst)[k]?=some W[k].1:=by simp[hkl]
     rw[hc1.resolve_left id,h2]at h1
     exact(Option.some.inj h1).symm
    have hsz:=hp _ (List.getElem_mem hkl)
    rw[hpx]at t1 u1
    clear hpx
    generalize W[k].1=c1 at t1 u1 t2 u2 hsz
    generalize L1[k].2=w1 at t1 u1
    generalize W[k].2=w2 at t2 u2
    refine xCNb (fun h=>?_) (fun h=>?_)
    ·clear h
     (try simp only[ctlB])
     refine xHNb ?_
     refine wpH_callC (sameV u1 u2 (by omega) (by have:=hsz.1.2;omega)) ?_
     rintro r H3 ⟨hx3,rfl⟩
     have hdd:decide ((c1.w:Int)=(c1.w:Int)∧(c1.h:Int)=(c1.h:Int)∧c1.px=c1.px)=true:=by simp
     rw[hdd]
     (try simp only[ctlB])
     refine xCNb (fun h=>?_) (fun h=>?_)
     ·exfalso;simp at h
     clear h
     (try simp only[ctlB])
     repeat' ((first|refine xSNb ?_|refine xONb rfl ?_);(try simp only[ctlB]))
     simp only[loopQ_n]
     exact⟨m-1,by omega,k+1,by omega,hx2.trans hx3,exZNf (by first|rfl|(simp only[Int.natCast_add,Int.natCast_one];rfl)|simp only[Int.natCast_add,Int.natCast_one])⟩
    ·exfalso;simp at h
   ·have hd:decide ((k:Int)<(W.length:Nat))=false:=decide_eq_false (by omega)
    refine xCNb (fun h=>?_) (fun h=>?_)
    ·exfalso;simp at h
    clear h
    (try simp only[ctlB])
    refine xHNb ?_
    refine wpH_call0 (exEv (by omega)) ?_
    rintro r H3 ⟨rfl,_⟩
    (try simp only[ctlB])
    repeat' ((first|refine xSNb ?_|refine xONb rfl ?_);(try simp only[ctlB]))
    refine xRNb ?_
    rfl
end
end Go.Proofs.YtpbiaeiebhgmgaaDoor
namespace Go.Proofs.YtpbiaeiebhgmgaaDoor
open Go.Abs
theorem all_consW{B:Nat}{H:Heap}{t:Ty}{r:List Ty}{vs:List Value}(h:HasAllW B H (t::r) vs):∃a b,vs=a++b∧HasW B H t a∧HasAllW B H r b:=by simpa only[HasAllW]using h
theorem all_nilW{B:Nat}{H:Heap}{vs:List Value}(h:HasAllW B H [] vs):vs=[]:=by simpa only[HasAllW]using h
theorem has_intW{B:Nat}{H:Heap}{vs:List Value}(h:HasW B H (.int .i64) vs):∃n:Int,vs=[.int .i64 n]:=by
 simp only[HasW]at h
 obtain⟨n,h,_⟩:=h
 exact⟨n,h⟩
theorem slU_oneW{B:Nat}{H:Heap}{vs:List Value}(h:HasW B H (.sl (.int .u8)) vs):∃v l,vs=[v]∧SlU H v l:=by
 rw[HasW]at h
 rcases h with rfl|⟨i,len,cap,c,rfl,h1,h2,h3,h4,h5⟩|⟨i,rfl,h⟩
 ·exact⟨_,[],rfl,.inl ⟨rfl,rfl⟩⟩
 ·have hh:Has B H (.sl (.int .u8)) [.slice (some ⟨i,0,none⟩) len cap]:=by
   rw[Has]
   exact .inr ⟨i,len,cap,c,rfl,h1,h2,h3,h4,HasN.mono (fun vs h=>by simpa only[HasW,Has]using h) cap c h5⟩
  obtain⟨v,l,e,hl,_⟩:=slU_one hh
  exact⟨v,l,e,hl⟩
 ·exact⟨_,[],rfl,.inr ⟨i,0,some 1,0,[],rfl,h,by simp,by simp,.inr rfl,by simp⟩⟩
theorem hasN_imgW{B:Nat}{H:Heap}:∀(n:Nat) (c:List Value),HasN (HasW B H (.rcd [.int .i64,.int .i64,.sl (.int .u8)])) n c→∃L:List ImgA,L.length=n∧c=recsA L∧∀r ∈ L,SlU H r.2.2.1 r.2.2.2
 | 0,c,h=>by simp only[HasN]at h;subst h;exact⟨[],rfl,rfl,by simp⟩
 | n+1,c,h=>by
  simp only[HasN]at h
  obtain⟨a,b,rfl,ha,hb⟩:=h
  obtain⟨L,h1,rfl,h3⟩:=hasN_imgW n b hb
  simp only[HasW]at ha
  obtain⟨_,_,rfl,ha1,ha⟩:=all_consW ha
  obtain⟨_,_,rfl,ha2,ha⟩:=all_consW ha
  obtain⟨_,_,rfl,ha3,ha⟩:=all_consW ha
  rw[all_nilW ha]
  obtain⟨w,rfl⟩:=has_intW ha1
  obtain⟨ht,rfl⟩:=has_intW ha2
  obtain⟨pv,l,rfl,hl⟩:=slU_oneW ha3
  refine⟨(w,ht,pv,l)::L,by simp[h1],by simp[recsA],?_⟩
  intro r hr
  rcases List.mem_cons.1 hr with rfl|hr
  ·exact hl
  ·exact h3 r hr
theorem imgs_ofD{B:Nat}{H:Heap}{v:Value}(h:HasArgD B H (.sl (.rcd [.int .i64,.int .i64,.sl (.int .u8)])) v):∃L:List ImgA,Imgs H v L:=by
 rcases h with ⟨h0,-⟩|⟨-,e,he,h⟩
 ·exact absurd h0 (by decide)
 cases he
 rcases h with h|⟨i,len,cap,c,h1,h2,h3,h5,h6⟩
 ·subst h
  exact⟨[],⟨_,_,rfl⟩,fun k hk=>by simp at hk⟩
 ·subst h1
  obtain⟨L,hL,rfl,hs⟩:=hasN_imgW _ _ h6
  have hlen:(L.take len).length=len:=by simp;omega
  refine⟨L.take len,⟨_,_,by rw[hlen]⟩,fun k hk=>?_⟩
  rw[hlen]at hk
  have hkL:k<L.length:=by omega
  have e:(L.take len)[k]'(by rw[hlen];exact hk)=L[k]:=List.getElem_take
  refine⟨i,0+k*3,recsA L,fun H'=>?_,h5,by rw[recsA_len];omega,?_,?_⟩
  ·rw[ls_iAddr (by omega) (by omega)];simp
  ·rw[Nat.zero_add,recsA_at L k hkL,e]
  ·rw[e];exact hs _ (List.getElem_mem hkL)
end Go.Proofs.YtpbiaeiebhgmgaaDoor

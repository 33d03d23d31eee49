/- Netpbm: plain facts about what Read answers; several pictures. Netpbm: Same; ReadAll of the program and of the reference. Netpbm: the law NetpbmSeveral. -/
import Derived.Test.YtpbiaeiebhgmgaaDoorJ20
set_option linter.unusedVariables false
set_option linter.unusedSimpArgs false
set_option linter.unusedSectionVars false
namespace Go.Proofs.YtpbiaeiebhgmgaaDoor
open Go.Abs
set_option linter.unusedSimpArgs false
set_option linter.unusedVariables false
theorem skip_ge(l:List UInt8)(i:Nat):i≤skipS l i:=by
 rw[skipS]
 split
 ·rename_i h
  have h1:=skip_ge l (if ((l.getD i 0).toNat:Int)=35 then eol l (i+1) else i+1)
  have h2:=eol_ge l (i+1)
  split at h1<;>(rename_i h3;first|rw[if_pos h3]|rw[if_neg h3])<;>omega
 ·exact Nat.le_refl _
termination_by l.length-i
decreasing_by
 rename_i h
 have:=eol_ge l (i+1)
 split<;>omega
theorem numS_ge{l:List UInt8}{i n j:Nat}(hi:i≤l.length)(h:numS l i=.inr (n,j)):i≤j:=by
 unfold numS at h
 split at h
 ·cases h
 split at h
 ·cases h
 split at h
 ·cases h
 split at h
 ·cases h
 have e:=Sum.inr.inj h
 have h1:=skip_ge l i
 have h2:=digS_in l (skipS l i) 0 (by omega) (by omega)
 rw[e]at h2
 have:=h2.2.1
 simp only at this
 omega
theorem hdrS_ge{l:List UInt8}{i n j a c:Nat}(hi:i≤l.length)(h:hdrS l i a c=.inr (n,j)):i≤j:=by
 unfold hdrS at h
 cases hn:numS l i with
 | inl e=>rw[hn]at h;cases h
 | inr p=>
  obtain⟨n',j'⟩:=p
  have:=numS_ge hi hn
  rw[hn]at h
  simp only at h
  split at h
  ·cases h
  split at h
  ·have e:=Sum.inr.inj h
   cases e
   exact this
  ·cases h
theorem headS_ge{l:List UInt8}{f w h m j:Nat}(hl:2≤l.length)(e:headS l f=.inr (w,h,m,j)):2≤j:=by
 unfold headS at e
 cases h1:hdrS l 2 0 65535 with
 | inl e'=>simp only[h1]at e;cases e
 | inr p=>
  obtain⟨w',i⟩:=p
  have hi:=hdrS_ge hl h1
  have hi2:=hdrS_in hl h1
  simp only[h1]at e
  cases h2:hdrS l i 0 65535 with
  | inl e'=>simp only[h2]at e;cases e
  | inr p=>
   obtain⟨h',j'⟩:=p
   have hj:=hdrS_ge (by omega) h2
   have hj2:=hdrS_in (by omega) h2
   simp only[h2]at e
   split at e
   ·cases e
   split at e
   ·cases h3:hdrS l j' 1 255 with
    | inl e'=>simp only[h3]at e;cases e
    | inr p=>
     obtain⟨m',k⟩:=p
     have hk:=hdrS_ge (by omega) h3
     simp only[h3]at e
     cases Sum.inr.inj e
     omega
   ·cases Sum.inr.inj e
    omega
theorem stepB_ge{l:List UInt8}{p:List UInt8}{i:Nat}{x:List UInt8×Nat}(h:stepB l (p,i)=.inr x):i≤x.2:=by
 have h1:=skip_ge l i
 unfold stepB at h
 split at h
 ·cases h
 split at h
 ·cases Sum.inr.inj h;simp only;omega
 split at h
 ·cases Sum.inr.inj h;simp only;omega
 ·cases h
theorem stepV_ge{l:List UInt8}{p:List UInt8}{i m:Nat}{x:List UInt8×Nat}(hi:i≤l.length)(h:stepV l m (p,i)=.inr x):i≤x.2:=by
 unfold stepV at h
 cases h1:numS l i with
 | inl e=>simp only[h1]at h;cases h
 | inr q=>
  obtain⟨n,j⟩:=q
  have:=numS_ge hi h1
  simp only[h1]at h
  split at h
  ·cases Sum.inr.inj h;exact this
  ·cases h
theorem bits_ge{l:List UInt8}{i:Nat}(hi:i≤l.length):∀{k:Nat} {x:List UInt8×Nat},iterS (stepB l) ([],i) k=.inr x→i≤x.2
 | 0,x,h=>by cases Sum.inr.inj h;exact Nat.le_refl _
 | k+1,x,h=>by
  cases hk:iterS (stepB l) ([],i) k with
  | inl e=>rw[iterS,hk]at h;cases h
  | inr y=>
   rw[iter_ok hk]at h
   have h1:=bits_ge hi hk
   have h2:=stepB_ge (p:=y.1) (i:=y.2) h
   omega
theorem vals_ge{l:List UInt8}{i m:Nat}(hi:i≤l.length):∀{k:Nat} {x:List UInt8×Nat},iterS (stepV l m) ([],i) k=.inr x→i≤x.2
 | 0,x,h=>by cases Sum.inr.inj h;exact Nat.le_refl _
 | k+1,x,h=>by
  cases hk:iterS (stepV l m) ([],i) k with
  | inl e=>rw[iterS,hk]at h;cases h
  | inr y=>
   rw[iter_ok hk]at h
   have h1:=vals_ge hi hk
   have h2:=stepV_ge (p:=y.1) (i:=y.2) (vals_in hi hk).2 h
   omega
theorem bodyS_in{l:List UInt8}{f j w h m:Nat}(hj:j<l.length){px:List UInt8}{p:Nat}(e:bodyS l f j w h m=.inr (px,p)):px.length=w*h∧j≤p∧p≤l.length:=by
 unfold bodyS at e
 split at e
 ·have h1:=bits_in (by omega) e
  have h2:=bits_ge (by omega) e
  exact⟨h1.1,h2,h1.2⟩
 split at e
 ·unfold valsS at e
  cases hv:iterS (stepV l m) ([],j) (w*h)with
  | inl e'=>rw[hv]at e;cases e
  | inr y=>
   obtain⟨px',p'⟩:=y
   rw[hv]at e
   simp only at e
   have h1:=vals_in (by omega) hv
   have h2:=vals_ge (by omega) hv
   split at e
   ·cases e
   ·cases Sum.inr.inj e
    exact⟨h1.1,h2,h1.2⟩
 ·unfold rawS at e
  split at e
  ·cases e
  split at e
  ·unfold rawBS at e
   split at e
   ·cases Sum.inr.inj e
    have:(w+7)/8*h≤l.length-(j+1):=by assumption
    refine⟨by rw[rowsQ_len,Nat.mul_comm],by omega,?_⟩
    omega
   ·cases e
  ·unfold rawVS at e
   split at e
   ·have:w*h≤l.length-(j+1):=by assumption
    have h1:=raws_in e
    simp only at h1
    exact⟨h1.1,by omega,by omega⟩
   ·cases e
theorem readS_in{l:List UInt8}{c:Pic}(h:readS l=.inr c):c.px.length=c.w*c.h∧1≤c.w∧c.w≤4096∧1≤c.h∧c.h≤4096∧2≤c.p∧c.p≤l.length:=by
 unfold readS at h
 split at h
 ·cases h
 split at h
 ·cases h
 have hl:2≤l.length:=by rename_i h1 _;omega
 cases hh:headS l ((l.getD 1 0).toNat-48)with
 | inl e=>rw[hh]at h;cases h
 | inr q=>
  obtain⟨w,ht,m,j⟩:=q
  have h1:=headS_in hl hh
  have h2:=headS_ge hl hh
  rw[hh]at h
  simp only at h
  cases hb:bodyS l ((l.getD 1 0).toNat-48) j w ht m with
  | inl e=>rw[hb]at h;cases h
  | inr q=>
   obtain⟨px,p⟩:=q
   have h3:=bodyS_in h1.2.2.2.2.2.2.2 hb
   rw[hb]at h
   cases Sum.inr.inj h
   exact⟨h3.1,h1.1,h1.2.1,h1.2.2.1,h1.2.2.2.1,by have:=h3.2.1;simp only;omega,h3.2.2⟩
theorem readS_pos{l:List UInt8}{c:Pic}(h:readS l=.inr c):0<c.px.length∧c.px.length≤16777216:=by
 have:=readS_in h
 rw[this.1]
 exact⟨Nat.mul_pos this.2.1 this.2.2.2.1,(Nat.mul_le_mul this.2.2.1 this.2.2.2.2.1:c.w*c.h≤4096*4096)⟩
theorem readS_err{l:List UInt8}{e:Int}(h:readS l=.inl e):e≠0:=by
 unfold readS at h
 split at h
 ·cases h;decide
 split at h
 ·cases h;decide
 cases hh:headS l ((l.getD 1 0).toNat-48)with
 | inl e=>rw[hh]at h;cases Sum.inl.inj h;exact headS_err hh
 | inr q=>
  obtain⟨w,ht,m,j⟩:=q
  rw[hh]at h
  simp only at h
  cases hb:bodyS l ((l.getD 1 0).toNat-48) j w ht m with
  | inl e=>rw[hb]at h;cases Sum.inl.inj h;exact bodyS_err hb
  | inr q=>obtain⟨px,p⟩:=q;rw[hb]at h;cases h
def allA:Nat→List Pic→List UInt8→Int ⊕ List Pic
 | 0,_,_=>.inl 0
 | n+1,acc,l=>match readS l with
  | .inl e=>.inl e
  | .inr c=>if (l.drop c.p).dropWhile wsB=[] then .inr (acc++[c]) else allA n (acc++[c]) ((l.drop c.p).dropWhile wsB)
def allS(l:List UInt8):Int ⊕ List Pic:=allA (l.length+1) [] l
abbrev Rec:=Pic×Value
def recC(r:Rec):List Value:=[.int .i64 (r.1.w:Nat),.int .i64 (r.1.h:Nat),r.2]
def recs:List Rec→List Value
 | []=>[]
 | r::L=>recC r++recs L
theorem recs_len:∀L:List Rec,(recs L).length=3*L.length
 | []=>rfl
 | r::L=>by simp only[recs,List.length_append,recs_len L,recC,List.length_cons,List.length_nil];omega
theorem recs_app:∀A B:List Rec,recs (A++B)=recs A++recs B
 | [],B=>rfl
 | r::A,B=>by simp only[List.cons_append,recs,recs_app A B,List.append_assoc]
theorem recs_at:∀(L:List Rec) (k:Nat) (h:k<L.length),((recs L).drop (k*3)).take 3=recC L[k]
 | r::L,0,h=>rfl
 | r::L,k+1,h=>by
  have e:(k+1)*3=3+k*3:=by omega
  rw[e,←List.drop_drop]
  exact recs_at L k (by simpa using h)
theorem recs_mem:∀(L:List Rec) (x:Value),x ∈ recs L→(∃n:Int,x=.int .i64 n)∨∃r ∈ L,x=r.2
 | r::L,x,h=>by
  simp only[recs,recC,List.mem_append,List.mem_cons,List.not_mem_nil,or_false]at h
  rcases h with (rfl|rfl|rfl)|h
  ·exact .inl ⟨_,rfl⟩
  ·exact .inl ⟨_,rfl⟩
  ·exact .inr ⟨r,by simp,rfl⟩
  ·rcases recs_mem L x h with h|⟨q,hq,rfl⟩
   ·exact .inl h
   ·exact .inr ⟨q,List.mem_cons_of_mem _ hq,rfl⟩
 | [],x,h=>by cases h
def Pics(H:Heap)(L:List Rec):Prop:=∀r ∈ L,(0<r.1.px.length∧r.1.px.length≤16777216)∧SlU H r.2 r.1.px
theorem Pics.imp{H H':Heap}{L:List Rec}(h:Pics H L)(e:∀u px,0<px.length→SlU H u px→SlU H' u px):Pics H' L:=fun r hr=>⟨(h r hr).1,e _ _ (h r hr).1.1 (h r hr).2⟩
theorem Pics.mono{H H':Heap}{L:List Rec}(h:Pics H L)(e:Ext H H'):Pics H' L:=fun r hr=>⟨(h r hr).1,(h r hr).2.mono e⟩
theorem slU_keep{H H':Heap}{b:Nat}{u:Value}{px:List UInt8}(h:SlU H u px)(hp:0<px.length)(e:Keep b H H')(hb:H.length≤b∨∃c,H.get b=some c∧∀x ∈ c,∀d,x≠encU d):SlU H' u px:=by
 rcases h with h|⟨b',o,sp,cap,xs,h1,h2,h3,h4,h5⟩
 ·rw[h.2]at hp;cases hp
 ·refine .inr ⟨b',o,sp,cap,xs,h1,e.get h2 ?_,h3,h4,h5⟩
  rintro rfl
  rcases hb with hb|⟨c,hc,hx⟩
  ·have:=Heap.get_lt h2;omega
  ·rw[h2]at hc
   cases hc
   match px,hp with
   | d::px,_=>
    have e0:((xs.drop o).take (d::px).length)[0]?=some (encU d):=by rw[h3];rfl
    have hm:encU d ∈ xs:=by
     have:=List.mem_of_getElem? e0
     exact List.drop_subset _ _ (List.take_subset _ _ this)
    exact hx _ hm d rfl
theorem pics_ne{H:Heap}{L:List Rec}(h:Pics H L):∀x ∈ recs L,∀d,x≠encU d:=by
 intro x hx d e
 rcases recs_mem L x hx with ⟨n,rfl⟩|⟨r,hr,rfl⟩
 ·cases e
 ·obtain⟨a,c,e2⟩:=(h r hr).2.len
  rw[e2]at e;cases e
theorem wpH_appP{cp:FuncId→Option CF}{lo:Nat}{z:List Value}{G H:Heap}{v:Value}{b t:Nat}{sp:Option Nat}{m:Nat}{L:List Rec}{r:Rec}{R:Value→Heap→Prop}(ho:Own lo 3 H v b (recs L))(hG:Ext G H)(hb:G.length≤b)(hlo:lo≤G.length)(hL:Pics H (L++[r]))(hbig:L.length≤1000000000)(ht:H.get t=some (recC r))
  (k:∀v' H',Own lo 3 H' v' H.length (recs (L++[r]))→Ext G H'→H'.length=H.length+1→(∀u px,0<px.length→SlU H u px→SlU H' u px)→R v' H'):wpH cp lo (.app 3 z) [v,.slice (some ⟨t,0,sp⟩) 1 m] H R:=by
 have hGl:=hG.1
 have h1:oneCells (recC r)=true:=by
  obtain⟨a,c,e⟩:=(hL r (by simp)).2.len
  simp[oneCells,recC,e,Value.oneCell']
 have hL1:Pics H L:=fun x hx=>hL x (by simp[hx])
 have fin:∀{b':Nat},Own lo 3 H v b' (recs L)→(v=.slice none 0 0→H.length≤b')→G.length≤b'→wpH cp lo (.app 3 z) [v,.slice (some ⟨t,0,sp⟩) 1 m] H R:=by
  intro b' ho hv hb'
  refine wpH_app ho (by omega) (by omega) (by omega) (by rw[recs_len];omega) ht (by simp[recC]) (c:=recC r) (by simp[recC]) h1 ?_
  intro v' H' ho' hk hl'
  refine k v' H' ?_ (hk.ext hG hb') hl' (fun u px hp hu=>slU_keep hu hp hk ?_)
  rotate_left
  ·obtain⟨_,h|⟨n,_,_,_,hg⟩⟩:=ho
   ·exact .inl (hv h.1)
   ·exact .inr ⟨_,hg,pics_ne hL1⟩
  rw[recs_app]
  simpa[recs]using ho'
 by_cases hv:v=.slice none 0 0
 ·subst hv
  have hL0:recs L=[]:=by
   obtain⟨_,h|⟨n,_,_,h,_⟩⟩:=ho
   ·exact h.2
   ·cases h
  rw[hL0]at fin
  exact fin (b':=H.length) (Own.nil (by omega)) (fun _=>Nat.le_refl _) hGl
 ·exact fin ho (fun h=>absurd h hv) hb
def isAll(lo:Nat)(H':Heap)(r:Value)(s:Int ⊕ List Pic):Prop:=match s with
 | .inl e=>r=.tuple #[.slice none 0 0,.int .i64 e]
 | .inr cs=>∃v b L,r=.tuple #[v,.int .i64 0]∧Own lo 3 H' v b (recs L)∧Pics H' L∧L.map Prod.fst=cs∧L.length≤1000000000
theorem sl_adv{H:Heap}{v:Value}{l:List UInt8}{n:Nat}(h:SlU H v l)(hn:n≤l.length):∃v',lsem (.sl 1 true false false) [v,.int .i64 (n:Nat)] H=some v'∧SlU H v' (l.drop n):=by
 rcases h with ⟨rfl,rfl⟩|⟨b,o,sp,cap,xs,rfl,h2,h3,h4,h5,h6⟩
 ·have:n=0:=by simpa using hn
  subst this
  exact⟨.slice none 0 0,rfl,.inl ⟨rfl,rfl⟩⟩
 ·have hd:(xs.drop (o+n)).take (l.length-n)=(l.drop n).map encU:=by
   rw[List.map_drop,←h3,←List.drop_drop,List.drop_take]
  rcases h5 with rfl|rfl
  ·refine⟨.slice (some ⟨b,if cap=n then o else o+n,none⟩) (l.length-n) (cap-n),?_,.inr ⟨b,_,none,cap-n,xs,by rw[List.length_drop],h2,?_,?_,.inl rfl,by rw[List.length_drop];omega⟩⟩
   ·rw[ls_slx,bd_lo (by omega) (by omega)]
    simp
   ·rw[List.length_drop]
    split
    ·have:l.length-n=0:=by omega
     rw[this]
     have:l.drop n=[]:=List.drop_eq_nil_of_le (by omega)
     rw[this];simp
    ·exact hd
   ·rw[List.length_drop];split<;>omega
  ·refine⟨.slice (some ⟨b,o+n,some 1⟩) (l.length-n) (cap-n),?_,.inr ⟨b,_,some 1,cap-n,xs,by rw[List.length_drop],h2,by rw[List.length_drop];exact hd,by rw[List.length_drop];omega,.inr rfl,by rw[List.length_drop];omega⟩⟩
   rw[ls_sli,bd_lo (by omega) (by omega)]
   simp
theorem sl_at{H:Heap}{v:Value}{l:List UInt8}{k:Nat}(h:SlU H v l)(hk:k<l.length):∃b o xs,lsem (.iAddr 1) [v,.int .i64 (k:Nat)] H=some (.pointer (some ⟨b,o,none⟩))∧H.get b=some xs∧xs[o]?=some (encU (l.getD k 0)):=by
 obtain⟨b,o,sp,cap,xs,rfl,h2,h3,h4⟩:=h.els 0 (by omega)
 refine⟨b,o+k,xs,?_,h2,h3 k hk⟩
 rw[ls_iAddr (by omega) (by omega)];simp
theorem dw_pos{l:List UInt8}(h:0<l.length)(hw:wsB (l.getD 0 0)=true):(l.drop 1).dropWhile wsB=l.dropWhile wsB:=by
 match l,h with
 | a::l,_=>rw[List.dropWhile_cons_of_pos (by simpa using hw)];rfl
theorem dw_stop{l:List UInt8}(hw:0<l.length→wsB (l.getD 0 0)=false):l.dropWhile wsB=l:=by
 match l with
 | []=>rfl
 | a::l=>rw[List.dropWhile_cons_of_neg (by have:=hw (by simp);simpa using this)]
theorem allA_err{n:Nat}{acc:List Pic}{l:List UInt8}{e:Int}(h:readS l=.inl e):allA (n+1) acc l=.inl e:=by rw[allA,h]
theorem allA_end{n:Nat}{acc:List Pic}{l:List UInt8}{c:Pic}(h:readS l=.inr c)(h2:(l.drop c.p).dropWhile wsB=[]):allA (n+1) acc l=.inr (acc++[c]):=by rw[allA,h];simp only[h2,if_true]
theorem allA_go{n:Nat}{acc:List Pic}{l:List UInt8}{c:Pic}(h:readS l=.inr c)(h2:(l.drop c.p).dropWhile wsB≠[]):allA (n+1) acc l=allA n (acc++[c]) ((l.drop c.p).dropWhile wsB):=by rw[allA,h];simp only[h2,if_false]
end Go.Proofs.YtpbiaeiebhgmgaaDoor
namespace Go.Proofs.YtpbiaeiebhgmgaaDoor
open Go.Abs
set_option linter.unusedSimpArgs false
set_option linter.unusedVariables false
set_option maxRecDepth 20000
section
variable {lo:Nat}{H:Heap}
theorem sameV{w h w' h':Int}{u u':Value}{px px':List UInt8}(hl:SlU H u px)(hl':SlU H u' px')(hlo:lo≤H.length)(hpl:px.length≤4294967296):Ev cp lo 15 [.agg #[.int .i64 w,.int .i64 h,u],.agg #[.int .i64 w',.int .i64 h',u']] H (fun r H'=>Ext H H'∧r=.bool (decide (w=w'∧h=h'∧px=px'))):=by
 obtain⟨ad,c,e1⟩:=hl.len
 obtain⟨ad',c',e2⟩:=hl'.len
 by_cases hc:w=w'∧h=h'∧px.length=px'.length
 ·obtain⟨rfl,rfl,hn⟩:=hc
  rw[←hn]at e2
  subst e1 e2
  have hr:(decide (w=w∧h=h∧px=px'))=decide (px=px'):=by simp
  rw[hr]
  clear hr
  replace hn:False∨_:=.inr hn
  refine st15 ?_;unfold bd15 cf15;simp only[kB,ctlB]
  repeat' ((first|refine xSNb ?_|refine xONb rfl ?_);(try simp only[ctlB]))
  have hxb:Ext H (H++[some [Value.int IntKind.i64 w,Value.int IntKind.i64 h,Value.slice ad px.length c],some [Value.int IntKind.i64 w,Value.int IntKind.i64 h,Value.slice ad' px.length c']]):=Ext.app _ _
  have hg1:(H++[some [Value.int IntKind.i64 w,Value.int IntKind.i64 h,Value.slice ad px.length c],some [Value.int IntKind.i64 w,Value.int IntKind.i64 h,Value.slice ad' px.length c']]).get H.length=some [Value.int IntKind.i64 w,Value.int IntKind.i64 h,Value.slice ad px.length c]:=get_app0
  have hg2:(H++[some [Value.int IntKind.i64 w,Value.int IntKind.i64 h,Value.slice ad px.length c],some [Value.int IntKind.i64 w,Value.int IntKind.i64 h,Value.slice ad' px.length c']]).get (H.length+1)=some [Value.int IntKind.i64 w,Value.int IntKind.i64 h,Value.slice ad' px.length c']:=by rw[get_appS];rfl
  generalize H++[some [Value.int IntKind.i64 w,Value.int IntKind.i64 h,Value.slice ad px.length c],some [Value.int IntKind.i64 w,Value.int IntKind.i64 h,Value.slice ad' px.length c']]=HB at hxb hg1 hg2
  have hs1:=hl.mono hxb
  have hs2:=hl'.mono hxb
  refine xCNb (fun h=>?_) (fun h=>?_)
  ·exfalso;simp at h
  clear h
  (try simp only[ctlB])
  repeat' ((first|refine xSNb ?_|refine xONb rfl ?_);(try simp only[ctlB]))
  refine aw_loop' (fun m S H'=>∃(k:Nat),m+k=px.length∧(∀j,j<k→px.getD j 0=px'.getD j 0)∧HB=H'∧S=[Value.agg #[.int .i64 w,.int .i64 h,.slice ad px.length c],Value.agg #[.int .i64 w,.int .i64 h,.slice ad' px.length c'],.pointer (some ⟨H.length,0,none⟩),.pointer (some ⟨H.length+1,0,none⟩),.bool false,.int .i64 (k:Nat)]) px.length ⟨0,by omega,by omega,rfl,rfl⟩ ?_
  rintro m S H' ⟨k,hm,hk,rfl,rfl⟩
  replace hk:False∨_:=.inr hk
  replace hm:m+k≤px.length∧px.length≤m+k:=by omega
  (try simp only[ctlB])
  by_cases hkl:k<px.length
  ·have hd:decide ((k:Int)<(px.length:Nat))=true:=by simpa using hkl
   obtain⟨b1,o1,xs1,i1,g1,v1⟩:=sl_at hs1 hkl
   obtain⟨b2,o2,xs2,i2,g2,v2⟩:=sl_at hs2 (k:=k) (by have:=hn.resolve_left id;omega)
   by_cases he:px.getD k 0=px'.getD k 0
   ·rw[←he]at v2
    replace he:False∨_:=.inr he
    generalize px.getD k 0=d at v1 v2
    refine xCNb (fun h=>?_) (fun h=>?_)
    ·clear h
     (try simp only[ctlB])
     refine xCNb (fun h=>?_) (fun h=>?_)
     ·exfalso;simp at h
     clear h
     (try simp only[ctlB])
     repeat' ((first|refine xSNb ?_|refine xONb rfl ?_);(try simp only[ctlB]))
     simp only[loopQ_n]
     refine⟨m-1,by omega,k+1,by omega,?_,by trivial,(by first|rfl|(simp only[Int.natCast_add,Int.natCast_one];rfl)|simp only[Int.natCast_add,Int.natCast_one])⟩
     intro j hj
     by_cases hjk:j<k
     ·exact hk.resolve_left id j hjk
     ·obtain rfl:j=k:=by omega
      exact he.resolve_left id
    ·exfalso;simp at h
   ·have hne:px≠px':=fun e=>he (by rw[e])
    have hpp:decide (px=px')=false:=by simp[hne]
    have hdd:decide (((px.getD k 0).toNat:Int)≠((px'.getD k 0).toNat:Int))=true:=by
     simp only[decide_eq_true_eq]
     intro e
     exact he (UInt8.toNat_inj.1 (by omega))
    rw[hpp]
    clear hne he hpp
    generalize px.getD k 0=d at v1 hdd
    generalize px'.getD k 0=d' at v2 hdd
    refine xCNb (fun h=>?_) (fun h=>?_)
    ·clear h
     (try simp only[ctlB])
     refine xCNb (fun h=>?_) (fun h=>?_)
     ·clear h
      (try simp only[ctlB])
      repeat' ((first|refine xSNb ?_|refine xONb rfl ?_);(try simp only[ctlB]))
      refine xRNb ?_
      exact⟨hxb,rfl⟩
     ·exfalso;simp at h
    ·exfalso;simp at h
  ·have hd:decide ((k:Int)<(px.length:Nat))=false:=by simpa using hkl
   refine xCNb (fun h=>?_) (fun h=>?_)
   ·exfalso;simp at h
   clear h
   (try simp only[ctlB])
   repeat' ((first|refine xSNb ?_|refine xONb rfl ?_);(try simp only[ctlB]))
   refine xRNb ?_
   refine⟨hxb,?_⟩
   have:px=px':=by
    refine List.ext_getElem (hn.resolve_left id) fun j h1 h2=>?_
    have:=hk.resolve_left id j (by omega)
    simpa[List.getD_eq_getElem?_getD,h1,h2]using this
   rw[decide_eq_true this];rfl
 ·have hr:decide (w=w'∧h=h'∧px=px')=false:=by
   simp only[decide_eq_false_iff_not]
   rintro⟨a,b,rfl⟩
   exact hc ⟨a,b,rfl⟩
  rw[hr]
  subst e1 e2
  clear hr
  refine st15 ?_;unfold bd15 cf15;simp only[kB,ctlB]
  repeat' ((first|refine xSNb ?_|refine xONb rfl ?_);(try simp only[ctlB]))
  refine xCNb (fun h=>?_) (fun h=>?_)
  ·(try simp only[ctlB])
   repeat' ((first|refine xSNb ?_|refine xONb rfl ?_);(try simp only[ctlB]))
   refine xRNb ?_
   exact⟨Ext.app _ _,rfl⟩
  ·exfalso;simp at h;exact hc ⟨h.1.1,h.1.2,by omega⟩
theorem allP{v:Value}{l:List UInt8}(hl:SlU H v l)(hlo:lo≤H.length)(hlen:l.length≤4194304):Ev cp lo 17 [v] H (fun r H'=>Ext H H'∧isAll lo H' r (allS l)):=by
 obtain⟨ad,c,rfl⟩:=hl.len
 refine st17 ?_;unfold bd17 cf17;simp only[kB,ctlB]
 repeat' ((first|refine xSNb ?_|refine xONb rfl ?_);(try simp only[ctlB]))
 refine xCNb (fun h=>?_) (fun h=>?_)
 ·exfalso;simp at h;omega
 clear h
 (try simp only[ctlB])
 repeat' ((first|refine xSNb ?_|refine xONb rfl ?_);(try simp only[ctlB]))
 refine aw_loop' (fun m S H'=>∃(L:List Rec) (rest:List UInt8) (v s:Value) (b:Nat),rest.length<m∧L.length+rest.length≤l.length∧allA m (L.map Prod.fst) rest=allS l∧Ext H H'∧SlU H' v rest∧Own lo 3 H' s b (recs L)∧H.length≤b∧Pics H' L∧∃(z:Nat→Value),S=[v,z 1,z 2,s,z 4,z 5,z 6,z 7,z 8,z 9,z 10,z 11,z 12,z 13,z 14,z 15,z 16]) (l.length+1) ⟨[],l,_,_,H.length,by omega,by simp,rfl,Ext.refl _,hl,Own.nil hlo,Nat.le_refl _,(fun r hr=>by cases hr),exZNf rfl⟩ ?_
 rintro m S H' ⟨L,rest,v,s,b,hm,hL,hall,hx,hv,ho,hb,hp,z,rfl⟩
 obtain⟨n,rfl⟩:∃n,m=n+1:=⟨m-1,by omega⟩
 replace hall:False∨_:=.inr hall
 obtain⟨adv,cv,rfl⟩:=hv.len
 have hlx:=hx.1
 (try simp only[ctlB])
 refine xHNb ?_
 refine wpH_call0 (readP hv (by omega) (by omega)) ?_
 rintro r H1 ⟨hx1,hr⟩
 have hl1:=hx1.1
 cases hS:readS rest with
 | inl e=>
  rw[hS]at hr
  subst hr
  have he:=readS_err hS
  have hR:=(allA_err hS).symm.trans (hall.resolve_left id)
  (try simp only[ctlB])
  repeat' ((first|refine xSNb ?_|refine xONb rfl ?_);(try simp only[ctlB]))
  refine xCNb (fun h=>?_) (fun h=>?_)
  ·(try simp only[ctlB])
   repeat' ((first|refine xSNb ?_|refine xONb rfl ?_);(try simp only[ctlB]))
   refine xRNb ?_
   refine⟨(hx.trans hx1).trans (Ext.app _ _),?_⟩
   rw[←hR]
   exact rfl
  ·exfalso;simp at h;exact he h
 | inr c=>
  rw[hS]at hr
  obtain⟨u,rfl,hu⟩:=hr
  obtain⟨au,cu,rfl⟩:=hu.len
  have hc:=(readS_in hS).2
  have hcp:=readS_pos hS
  replace hS:False∨_:=.inr hS
  (try simp only[ctlB])
  repeat' ((first|refine xSNb ?_|refine xONb rfl ?_);(try simp only[ctlB]))
  refine xCNb (fun h=>?_) (fun h=>?_)
  ·exfalso;simp at h
  clear h
  (try simp only[ctlB])
  repeat' ((first|refine xSNb ?_|refine xONb rfl ?_);(try simp only[ctlB]))
  have hxB:Ext H1 (H1++[some [Value.int .i64 (c.w:Nat),.int .i64 (c.h:Nat),.slice au c.px.length cu],some [Value.int .i64 (c.w:Nat),.int .i64 (c.h:Nat),.slice au c.px.length cu]]):=Ext.app _ _
  have gB:(H1++[some [Value.int .i64 (c.w:Nat),.int .i64 (c.h:Nat),.slice au c.px.length cu],some [Value.int .i64 (c.w:Nat),.int .i64 (c.h:Nat),.slice au c.px.length cu]]).get (H1.length+1)=some [Value.int .i64 (c.w:Nat),.int .i64 (c.h:Nat),.slice au c.px.length cu]:=by rw[get_appS];rfl
  generalize H1++[some [Value.int .i64 (c.w:Nat),.int .i64 (c.h:Nat),.slice au c.px.length cu],some [Value.int .i64 (c.w:Nat),.int .i64 (c.h:Nat),.slice au c.px.length cu]]=HB at hxB gB
  refine xHNb ?_
  refine wpH_appP (L:=L) (r:=(c,.slice au c.px.length cu)) (ho.mono (hx1.trans hxB)) ((hx.trans hx1).trans hxB) hb hlo ?_ (by omega) gB ?_
  ·intro r hr
   rcases List.mem_append.1 hr with hr|hr
   ·exact(hp.mono (hx1.trans hxB)) r hr
   ·obtain rfl:=List.mem_singleton.1 hr
    exact⟨hcp,hu.mono hxB⟩
  intro s' H2 ho2 hx2 hl2 hk2
  have hpA:Pics H2 (L++[(c,.slice au c.px.length cu)]):=by
   intro r hr
   rcases List.mem_append.1 hr with hr|hr
   ·exact((hp.mono (hx1.trans hxB)).imp hk2) r hr
   ·obtain rfl:=List.mem_singleton.1 hr
    exact⟨hcp,hk2 _ _ hcp.1 (hu.mono hxB)⟩
  have hv2:=hk2 _ _ (by omega) (hv.mono (hx1.trans hxB))
  have hbB:H.length≤HB.length:=by have:=hxB.1;omega
  obtain⟨v3,e3,hv3⟩:=sl_adv hv2 hc.2.2.2.2.2
  clear hk2 gB hp hv hv2
  (try simp only[ctlB])
  repeat' ((first|refine xSNb ?_|refine xONb rfl ?_);(try simp only[ctlB]))
  clear e3
  refine aw_loop' (fun m S H'=>∃(r2:List UInt8) (v:Value),r2.length≤m∧r2.length≤rest.length-c.p∧r2.dropWhile wsB=(rest.drop c.p).dropWhile wsB∧SlU H' v r2∧H2=H'∧(∃s,s=s'∧∃(z:Nat→Value),S=[v,z 1,z 2,s,z 4,z 5,z 6,z 7,z 8,z 9,z 10,z 11,z 12,z 13,z 14,z 15,z 16])) rest.length ⟨_,_,by simp,by simp,rfl,hv3,rfl,_,rfl,exZNf rfl⟩ ?_
  rintro m S H' ⟨r2,v,hm2,hr2,hdw,hv,rfl,s,rfl,z,rfl⟩
  obtain⟨a2,c2,rfl⟩:=hv.len
  replace hdw:False∨_:=.inr hdw
  (try simp only[ctlB])
  by_cases h0:0<r2.length
  ·have hd:decide ((r2.length:Int)>0)=true:=decide_eq_true (by omega)
   obtain⟨b4,o4,xs4,i4,g4,x4⟩:=sl_at hv h0
   obtain⟨v5,e5,hv5⟩:=sl_adv (n:=1) hv h0
   have i4:lsem (LOp.iAddr 1) [Value.slice a2 r2.length c2,Value.int .i64 0] H2=_:=i4
   have e5:lsem (LOp.sl 1 true false false) [Value.slice a2 r2.length c2,Value.int .i64 1] H2=_:=e5
   cases hw:wsB (r2.getD 0 0)with
   | true=>
    have hdw1:=dw_pos h0 hw
    generalize r2.getD 0 0=d at x4 hw
    replace hdw1:False∨_:=.inr hdw1
    refine aw_hv_if (t:=true) (xENb) (by simp(disch:=first|omega|(simp only[lenB];omega))only[evB,xBNb,Nat.reduceAdd,Nat.reduceBEq, *]) (by simp(disch:=first|omega|(simp only[lenB];omega))only[evB,xBNb,Nat.reduceAdd,Nat.reduceBEq, *];try rfl) (fun _=>⟨_,xENb,?_⟩) (fun h=>by cases h)
    refine wpH_call0 whiteP ?_
    rintro r H3 ⟨rfl,rfl⟩
    (try simp only[ctlB])
    refine xCNb (fun h=>?_) (fun h=>?_)
    ·clear h
     (try simp only[ctlB])
     repeat' ((first|refine xSNb ?_|refine xONb rfl ?_);(try simp only[ctlB]))
     simp only[loopQ_n]
     refine⟨m-1,by omega,r2.drop 1,v5,by simp;omega,by simp;omega,?_,hv5,by trivial,s,by trivial,exZNf rfl⟩
     exact(hdw1.resolve_left id).trans (hdw.resolve_left id)
    ·exfalso;simp at h
   | false=>
    have hdw1:=dw_stop (l:=r2) (fun _=>hw)
    have hfin:(rest.drop c.p).dropWhile wsB=r2:=(hdw.resolve_left id).symm.trans hdw1
    generalize r2.getD 0 0=d at x4 hw
    clear hdw hdw1
    have hne:(rest.drop c.p).dropWhile wsB≠[]:=by rw[hfin];intro e;rw[e]at h0;cases h0
    have hR:=(allA_go (n:=n) (acc:=L.map Prod.fst) (hS.resolve_left id) hne).symm.trans (hall.resolve_left id)
    rw[hfin]at hR
    clear hfin hne hall hS
    replace hR:False∨_:=.inr hR
    refine aw_hv_if (t:=true) (xENb) (by simp(disch:=first|omega|(simp only[lenB];omega))only[evB,xBNb,Nat.reduceAdd,Nat.reduceBEq, *]) (by simp(disch:=first|omega|(simp only[lenB];omega))only[evB,xBNb,Nat.reduceAdd,Nat.reduceBEq, *];try rfl) (fun _=>⟨_,xENb,?_⟩) (fun h=>by cases h)
    refine wpH_call0 whiteP ?_
    rintro r H3 ⟨rfl,rfl⟩
    (try simp only[ctlB])
    refine xCNb (fun h=>?_) (fun h=>?_)
    ·exfalso;simp at h
    clear h
    have hd0:decide ((r2.length:Int)=0)=false:=decide_eq_false (by omega)
    (try simp only[ctlB])
    refine xCNb (fun h=>?_) (fun h=>?_)
    ·exfalso;simp at h
    clear h
    (try simp only[ctlB])
    simp only[loopQ_n]
    refine⟨n,by omega,L++[(c,.slice au c.px.length cu)],r2,_,_,_,by omega,by simp;omega,?_,hx2,hv,ho2,hbB,hpA,exZNf rfl⟩
    rw[List.map_append];exact hR.resolve_left id
  ·have hd:decide ((r2.length:Int)>0)=false:=decide_eq_false (by omega)
   obtain rfl:r2=[]:=List.length_eq_zero_iff.1 (by omega)
   have hR:=(allA_end (n:=n) (acc:=L.map Prod.fst) (hS.resolve_left id) (hdw.resolve_left id).symm).symm.trans (hall.resolve_left id)
   clear hall hdw hS
   replace hR:False∨_:=.inr hR
   refine aw_hv_if (t:=false) (xENb) (by simp(disch:=first|omega|(simp only[lenB];omega))only[evB,xBNb,Nat.reduceAdd,Nat.reduceBEq, *]) (by simp(disch:=first|omega|(simp only[lenB];omega))only[evB,xBNb,Nat.reduceAdd,Nat.reduceBEq, *];try rfl) (fun h=>by cases h) (fun _=>?_)
   (try simp only[ctlB])
   refine xCNb (fun h=>?_) (fun h=>?_)
   ·exfalso;simp at h
   clear h
   (try simp only[ctlB])
   refine xCNb (fun h=>?_) (fun h=>?_)
   ·clear h
    (try simp only[ctlB])
    repeat' ((first|refine xSNb ?_|refine xONb rfl ?_);(try simp only[ctlB]))
    refine xRNb ?_
    refine⟨hx2,?_⟩
    rw[←hR.resolve_left id]
    exact⟨_,_,_,rfl,ho2,hpA,by simp,by simp;omega⟩
   ·exfalso;simp at h
theorem own_rec{H':Heap}{s:Value}{b:Nat}{L:List Rec}(ho:Own lo 3 H' s b (recs L)):∃a,s=.slice a L.length L.length:=by
 obtain⟨a,n,rfl,h1,h2⟩:=ho.len (by omega)
 rw[recs_len]at h1
 obtain rfl:n=L.length:=by omega
 exact⟨_,rfl⟩
end
end Go.Proofs.YtpbiaeiebhgmgaaDoor
namespace Go.Proofs.YtpbiaeiebhgmgaaDoor
open Go.Abs
set_option linter.unusedSimpArgs false
set_option linter.unusedVariables false
set_option maxRecDepth 20000
section
variable {lo:Nat}{H:Heap}
theorem rec_at{H':Heap}{s:Value}{b k:Nat}{L:List Rec}(ho:Own lo 3 H' s b (recs L))(hp:Pics H' L)(hk:k<L.length):∃p o X,lsem (.iAddr 3) [s,.int .i64 (k:Nat)] H'=some (.pointer (some ⟨p,o,none⟩))∧H'.get p=some X∧o+3≤X.length∧(X.drop o).take 3=[.int .i64 (L[k].1.w:Nat),.int .i64 (L[k].1.h:Nat),L[k].2]∧SlU H' L[k].2 L[k].1.px:=by
 obtain⟨a,rfl⟩:=own_rec ho
 obtain⟨_,⟨h,h2⟩|⟨n,h1,h2,h3,h4⟩⟩:=ho
 ·have:=recs_len L;rw[h2]at this;simp at this;omega
 ·cases h3
  refine⟨b,0+k*3,recs L,?_,h4,?_,?_,(hp _ (List.getElem_mem hk)).2⟩
  ·rw[ls_iAddr (by omega) (by omega)];simp
  ·rw[recs_len];omega
  ·rw[Nat.zero_add,recs_at L k hk];rfl
end
end Go.Proofs.YtpbiaeiebhgmgaaDoor

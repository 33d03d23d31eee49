/- Netpbm: Write. -/
import Derived.Test.YtpbiaeiebhgmgaaDoorJ13
set_option linter.unusedVariables false
set_option linter.unusedSimpArgs false
set_option linter.unusedSectionVars false
namespace Go.Proofs.YtpbiaeiebhgmgaaDoor
open Go.Abs
set_option linter.unusedSimpArgs false
set_option linter.unusedVariables false
set_option maxRecDepth 20000
theorem sl_sub{G:Heap}{v:Value}{l:List UInt8}{a b:Nat}{x y:Int}(h:SlU G v l)(hx:x=a)(hy:y=b)(hab:a≤b)(hb:b≤l.length):∃r,(∀H',lsem (.sl 1 true true false) [v,.int .i64 x,.int .i64 y] H'=some r)∧SlU G r ((l.drop a).take (b-a)):=by
 subst hx hy
 have hlen:((l.drop a).take (b-a)).length=b-a:=by simp;omega
 rcases h with ⟨rfl,rfl⟩|⟨bb,o,sp,cap,xs,rfl,h1,h2,h3,h4,h5⟩
 ·simp only[List.length_nil]at hb
  obtain rfl:b=0:=by omega
  obtain rfl:a=0:=by omega
  exact⟨_,fun H'=>by rw[ls_sln,bd_lohi (by omega) (by omega) (by omega)];rfl,.inl ⟨rfl,rfl⟩⟩
 ·have key:∀o',(o'=o+a∨b-a=0∧o'=o)→∀sp',sp'=sp→SlU G (.slice (some ⟨bb,o',sp'⟩) (b-a) (cap-a)) ((l.drop a).take (b-a)):=by
   intro o' ho' sp' hsp'
   subst hsp'
   refine .inr ⟨bb,o',sp',cap-a,xs,by rw[hlen],h1,?_,by rw[hlen];omega,h4,by rw[hlen];omega⟩
   rw[hlen]
   rcases ho' with rfl|⟨e,rfl⟩
   ·have:=congrArg (fun z=>(z.drop a).take (b-a)) h2
    rw[List.map_take,List.map_drop,←this,List.drop_take,List.drop_drop,List.take_take,Nat.min_eq_left (by omega)]
   ·rw[e];simp
  rcases h4 with rfl|rfl
  ·refine⟨_,fun H'=>by rw[ls_slx,bd_lohi (by omega) (by omega) (by omega)];rfl,?_⟩
   simp only[Int.toNat_natCast]
   refine key _ ?_ _ rfl
   split
   ·exact .inr ⟨by omega,rfl⟩
   ·exact .inl (by omega)
  ·refine⟨_,fun H'=>by rw[ls_sli,bd_lohi (by omega) (by omega) (by omega)];rfl,?_⟩
   simp only[Int.toNat_natCast]
   exact key _ (.inl (by omega)) _ rfl
def rowsW(f w:Nat)(l:List UInt8):Nat→List UInt8
 | 0=>[]
 | y+1=>rowsW f w l y++rowW f ((l.drop (y*w)).take w)
def headB(f w h:Nat):List UInt8:=[80,dig f,10]++decL w++[32]++decL h++[10]++(if f=2∨f=5 then[50,53,53,10] else[])
def outB(f w h:Nat)(l:List UInt8):List UInt8:=headB f w h++rowsW f w l h
def badPx(f:Nat)(l:List UInt8):Prop:=(f=1∨f=4)∧∃i,i<l.length∧l.getD i 0≠0∧l.getD i 0≠255
def errV(n:Int):Value:=.tuple #[.slice none 0 0,.int .i64 n]
section
variable {lo:Nat}{G H:Heap}
theorem wrBad{w ht f:Int}{v:Value}{l:List UInt8}(hl:SlU H v l)(hlo:lo≤H.length)(hb:¬ (f=1∨f=2∨f=4∨f=5)∨valB w ht l.length=false):Ev cp lo 10 [.agg #[.int .i64 w,.int .i64 ht,v],.int .i64 f] H (fun r H'=>Ext H H'∧r=errV 1):=by
 obtain⟨ad,c,rfl⟩:=hl.len
 refine st10 ?_;unfold bd10 cf10;simp only[kB,ctlB]
 repeat' ((first|refine xSNb ?_|refine xONb rfl ?_);(try simp only[ctlB]))
 by_cases hr:f<0∨9<f
 ·have hd:(decide (f<0) || decide (9<f))=true:=by simpa using hr
  refine aw_hv_if (t:=false) (xENb) (by simp(disch:=first|omega|(simp only[lenB];omega))only[evB,xBNb,Nat.reduceAdd,Nat.reduceBEq, *]) (by simp(disch:=first|omega|(simp only[lenB];omega))only[evB,xBNb,Nat.reduceAdd,Nat.reduceBEq, *];try rfl) (fun h=>by cases h) (fun _=>?_)
  (try simp only[ctlB])
  refine xCNb (fun h=>?_) (fun h=>?_)
  ·(try simp only[ctlB])
   repeat' ((first|refine xSNb ?_|refine xONb rfl ?_);(try simp only[ctlB]))
   refine xRNb ?_
   exact⟨Ext.app _ _,rfl⟩
  ·exfalso;simp at h
 ·have hd:(decide (f<0) || decide (9<f))=false:=by simp at hr ⊢;omega
  refine aw_hv_if (t:=true) (xENb) (by simp(disch:=first|omega|(simp only[lenB];omega))only[evB,xBNb,Nat.reduceAdd,Nat.reduceBEq, *]) (by simp(disch:=first|omega|(simp only[lenB];omega))only[evB,xBNb,Nat.reduceAdd,Nat.reduceBEq, *];try rfl) (fun _=>⟨_,xENb,?_⟩) (fun h=>by cases h)
  refine wpH_call0 (ckP (hl.mono (Ext.app _ _))) ?_
  rintro r H1 ⟨hx1,rfl⟩
  have hxx:Ext H H1:=(Ext.app _ _).trans hx1
  cases hv:valB w ht l.length with
  | false=>
   (try simp only[ctlB])
   refine xCNb (fun h=>?_) (fun h=>?_)
   ·(try simp only[ctlB])
    repeat' ((first|refine xSNb ?_|refine xONb rfl ?_);(try simp only[ctlB]))
    refine xRNb ?_
    exact⟨hxx,rfl⟩
   ·exfalso;simp at h
  | true=>
   have hnk:¬ (f=1∨f=2∨f=4∨f=5):=by
    rcases hb with hb|hb
    ·exact hb
    ·rw[hv]at hb;cases hb
   (try simp only[ctlB])
   refine xCNb (fun h=>?_) (fun h=>?_)
   ·exfalso;simp at h
   have hw:IntKind.u8.wrap (48+f)=((dig f.toNat).toNat:Int):=by rw[dig_nat (by omega),wrap_u8 (by omega) (by omega)];omega
   (try simp only[ctlB])
   repeat' ((first|refine xSNb ?_|refine xONb rfl ?_);(try simp only[ctlB]))
   refine xHNb ?_
   refine wpH_call0 (fmtP (c:=dig f.toNat) (by have:=hxx.1;omega)) ?_
   rw[dig_nat (by omega),if_neg (by omega),if_neg (by omega),if_neg (by omega),if_neg (by omega)]
   rintro r H2 ⟨hx2,rfl⟩
   unfold kindV
   have hlo2:lo≤H2.length:=by have:=hxx.1;have:=hx2.1;omega
   (try simp only[ctlB])
   repeat' ((first|refine xSNb ?_|refine xONb rfl ?_);(try simp only[ctlB]))
   refine xCNb (fun h=>?_) (fun h=>?_)
   ·(try simp only[ctlB])
    repeat' ((first|refine xSNb ?_|refine xONb rfl ?_);(try simp only[ctlB]))
    refine xRNb ?_
    exact⟨(hxx.trans hx2).trans (Ext.app _ _),rfl⟩
   ·exfalso;simp at h
theorem fmtOk{f:Nat}(hf:f=1∨f=2∨f=4∨f=5):(if ((dig f).toNat:Int)=49 then kindV 1 false false true else if ((dig f).toNat:Int)=50 then kindV 2 true false true else if ((dig f).toNat:Int)=52 then kindV 4 false true true else if ((dig f).toNat:Int)=53 then kindV 5 true true true else kindV 0 false false false)=.tuple #[kindF f,.bool true]:=by
 rcases hf with rfl|rfl|rfl|rfl<;>rfl
theorem rowW_len(f:Nat)(l:List UInt8):(rowW f l).length≤5*l.length+1:=by
 unfold rowW
 split
 ·exact rowP_len f l l.length
 ·split
  ·omega
  ·rw[pkI_len];omega
theorem rowsW_len{f w:Nat}{l:List UInt8}(hw:w≤4096):∀y,(rowsW f w l y).length≤20481*y
 | 0=>by simp[rowsW]
 | y+1=>by
  have:=rowsW_len (f:=f) (l:=l) hw y
  have h2:=rowW_len f ((l.drop (y*w)).take w)
  have h3:((l.drop (y*w)).take w).length≤w:=by simp;omega
  simp only[rowsW,List.length_append];omega
theorem headB_len{f w h:Nat}(hw:w≤4096)(hh:h≤4096):(headB f w h).length≤17:=by
 have:=decL_4 hw
 have:=decL_4 hh
 unfold headB
 simp only[List.length_append,List.length_cons,List.length_nil]
 split<;>simp<;>omega
theorem val_nat{w h n:Nat}(hv:valB w h n=true):1≤w∧w≤4096∧1≤h∧h≤4096∧n≤w*h∧w*h≤n∧0<n∧n≤4194304:=by
 unfold valB at hv
 simp only[Bool.and_eq_true,decide_eq_true_eq]at hv
 obtain⟨hp,hn⟩:=hv
 obtain⟨h1,h2,h3,h4,h5⟩:=posB_iff.1 hp
 have e:((w*h:Nat):Int)=(w:Int)*(h:Int):=by simp
 have:1≤w*h:=Nat.mul_pos (by omega) (by omega)
 omega
theorem wrOk{w ht f:Nat}{v:Value}{l:List UInt8}(hf:f=1∨f=2∨f=4∨f=5)(hG:G.length≤lo)(hG2:lo≤G.length)(hg:G.get 0=some powC)(hx:Ext G H)(hl:SlU G v l)(hv:valB w ht l.length=true):Ev cp lo 10 [.agg #[.int .i64 w,.int .i64 ht,v],.int .i64 f] H (fun r H'=>Ext H H'∧((badPx f l∧r=errV 3)∨(¬ badPx f l∧∃u b,r=.tuple #[u,.int .i64 0]∧Own lo 1 H' u b (uL (outB f w ht l))))):=by
 have hlo:lo≤H.length:=by have:=hx.1;omega
 obtain⟨hw1,hw2,hh1,hh2,hlw1,hlw2,hpos,hlw⟩:=val_nat hv
 obtain⟨bw,ow,spw,capw,xs,rfl,gw,hat,hxl⟩:=hl.els 0 hpos
 have gwl:=Heap.get_lt gw
 have hd:(decide ((f:Int)<0) || decide (9<(f:Int)))=false:=by simp;omega
 refine st10 ?_;unfold bd10 cf10;simp only[kB,ctlB]
 repeat' ((first|refine xSNb ?_|refine xONb rfl ?_);(try simp only[ctlB]))
 refine aw_hv_if (t:=true) (xENb) (by simp(disch:=first|omega|(simp only[lenB];omega))only[evB,xBNb,Nat.reduceAdd,Nat.reduceBEq, *]) (by simp(disch:=first|omega|(simp only[lenB];omega))only[evB,xBNb,Nat.reduceAdd,Nat.reduceBEq, *];try rfl) (fun _=>⟨_,xENb,?_⟩) (fun h=>by cases h)
 have hxb:Ext H (H++[some [Value.int IntKind.i64 w,Value.int IntKind.i64 ht,Value.slice (some ⟨bw,ow,spw⟩) l.length capw]]):=Ext.app _ _
 have hgb:(H++[some [Value.int IntKind.i64 w,Value.int IntKind.i64 ht,Value.slice (some ⟨bw,ow,spw⟩) l.length capw]]).get H.length=some [Value.int IntKind.i64 w,Value.int IntKind.i64 ht,Value.slice (some ⟨bw,ow,spw⟩) l.length capw]:=get_app0
 generalize H++[some [Value.int IntKind.i64 w,Value.int IntKind.i64 ht,Value.slice (some ⟨bw,ow,spw⟩) l.length capw]]=Hb at hxb hgb
 refine wpH_call0 (ckP (hl.mono (hx.trans hxb))) ?_
 rintro r H1 ⟨hx1,rfl⟩
 replace hgb:=hx1.get hgb
 have hxx:Ext H H1:=hxb.trans hx1
 clear hx1 hxb
 rw[if_pos hv]
 (try simp only[ctlB])
 refine xCNb (fun h=>?_) (fun h=>?_)
 ·exfalso;simp at h
 have hw:IntKind.u8.wrap (48+(f:Int))=((dig f).toNat:Int):=dig_wrap (by omega)
 (try simp only[ctlB])
 repeat' ((first|refine xSNb ?_|refine xONb rfl ?_);(try simp only[ctlB]))
 refine xHNb ?_
 refine wpH_call0 (fmtP (c:=dig f) (by have:=hxx.1;omega)) ?_
 rw[fmtOk hf]
 rintro r H2 ⟨hx2,rfl⟩
 have hlo2:lo≤H2.length:=by have:=hxx.1;have:=hx2.1;omega
 replace hgb:=hx2.get hgb
 replace hxx:=hxx.trans hx2
 clear hx2
 unfold kindF
 (try simp only[ctlB])
 repeat' ((first|refine xSNb ?_|refine xONb rfl ?_);(try simp only[ctlB]))
 refine xCNb (fun h=>?_) (fun h=>?_)
 ·exfalso;simp at h
 (try simp only[ctlB])
 have hxk:Ext H2 (H2++[some [Value.int IntKind.i64 f,.bool (f==2 || f==5),.bool (f==4 || f==5)]]):=Ext.app _ _
 have hgk:(H2++[some [Value.int IntKind.i64 f,.bool (f==2 || f==5),.bool (f==4 || f==5)]]).get H2.length=some [Value.int IntKind.i64 f,.bool (f==2 || f==5),.bool (f==4 || f==5)]:=get_app0
 have hgr:False∨(f==2 || f==5)=decide (f=2∨f=5):=.inr (by rcases hf with rfl|rfl|rfl|rfl<;>rfl)
 generalize hK:H2.length=K at hgk
 generalize H2++[some [Value.int IntKind.i64 f,.bool (f==2 || f==5),.bool (f==4 || f==5)]]=H3 at hxk hgk
 replace hgb:=hxk.get hgb
 have hx3:=hxx.trans hxk
 have gw3:=(hx.trans hx3).get gw
 clear hxx hxk hK
 refine aw_midX (fun S' H'=>H3=H'∧¬ badPx f l∧∃(z:Nat→Value),S'=[z 0,z 1,.pointer (some ⟨H.length,0,none⟩),z 3,z 4,.int .u8 ((dig f).toNat:Nat),.pointer (some ⟨K,0,none⟩),z 7,z 8,z 9,z 10,z 11,z 12,z 13,z 14,z 15,z 16,z 17,z 18,z 19,z 20,z 21,z 22,z 23,z 24,z 25,z 26,z 27,z 28,z 29,z 30,z 31]) ?_ ?_
 ·generalize (f==2 || f==5)=gr at hgr hgk
  cases gr with
  | true=>
   have hng:¬ badPx f l:=by
    rintro⟨h1,_⟩
    have:=of_decide_eq_true (hgr.resolve_left id).symm
    omega
   refine xCNb (fun h=>?_) (fun h=>?_)
   ·exfalso;simp at h
   (try simp only[ctlB])
   exact⟨by trivial,hng,exZNf rfl⟩
  | false=>
   have hf14:f=1∨f=4:=by
    have:=of_decide_eq_false (hgr.resolve_left id).symm
    omega
   refine xCNb (fun h=>?_) (fun h=>?_)
   ·(try simp only[ctlB])
    repeat' ((first|refine xSNb ?_|refine xONb rfl ?_);(try simp only[ctlB]))
    refine aw_for (fun k S H'=>H3=H'∧(∀i,i<k→l.getD i 0=0∨l.getD i 0=255)∧∃(z:Nat→Value),S=[z 0,z 1,.pointer (some ⟨H.length,0,none⟩),z 3,z 4,.int .u8 ((dig f).toNat:Nat),.pointer (some ⟨K,0,none⟩),z 7,z 8,z 9,z 10,z 11,z 12,z 13,z 14,z 15,.slice (some ⟨bw,ow,spw⟩) l.length capw,.int .i64 (l.length:Nat),.int .i64 (k:Nat),z 19,z 20,z 21,z 22,z 23,z 24,z 25,z 26,z 27,z 28,z 29,z 30,z 31]) l.length ?_ ?_ ?_ ?_
    ·exact⟨rfl,fun i h=>by omega,exZNf rfl⟩
    ·rintro k S H' hk ⟨_,_,z,rfl⟩
     exact⟨_,xENb,by simp⟩
    ·rintro k S H' hk ⟨rfl,hall,z,rfl⟩
     have hatk:=hat k hk
     replace hall:False∨_:=.inr hall
     generalize hc:l.getD k 0=c at hatk
     (try simp only[ctlB])
     repeat' ((first|refine xSNb ?_|refine xONb rfl ?_);(try simp only[ctlB]))
     refine xCNb (fun h=>?_) (fun h=>?_)
     ·have hcb:c≠0∧c≠255:=by constructor<;>(rintro rfl;simp at h)
      (try simp only[ctlB])
      repeat' ((first|refine xSNb ?_|refine xONb rfl ?_);(try simp only[ctlB]))
      refine xRNb ?_
      exact⟨hx3,.inl ⟨⟨hf14,k,hk,by rw[hc];exact hcb⟩,rfl⟩⟩
     ·have hcb:c=0∨c=255:=by
       have:c.toNat=0∨c.toNat=255:=by simp at h;omega
       rcases this with e|e
       ·exact .inl (UInt8.toNat_inj.1 (by rw[e];rfl))
       ·exact .inr (UInt8.toNat_inj.1 (by rw[e];rfl))
      clear h
      (try simp only[ctlB])
      repeat' ((first|refine xSNb ?_|refine xONb rfl ?_);(try simp only[ctlB]))
      refine⟨by trivial,fun i hi=>?_,exZNf (by first|rfl|(simp only[Int.natCast_add,Int.natCast_one];rfl)|simp only[Int.natCast_add,Int.natCast_one])⟩
      by_cases e:i=k
      ·rw[e,hc];exact hcb
      ·exact hall.resolve_left id i (by omega)
    ·rintro S H' ⟨rfl,hall,z,rfl⟩
     (try simp only[ctlB])
     refine⟨by trivial,?_,exZNf rfl⟩
     rintro⟨_,i,hi,h1,h2⟩
     rcases hall i hi with e|e
     ·exact h1 e
     ·exact h2 e
   ·exfalso;simp at h
 ·rintro S' H' ⟨rfl,hbad,z,rfl⟩
  have hlo3:lo≤H3.length:=by have:=hx3.1;omega
  (try simp only[ctlB])
  repeat' ((first|refine xSNb ?_|refine xONb rfl ?_);(try simp only[ctlB]))
  have hE4:Ext H3 (H3++[some [Value.int .u8 80,Value.int .u8 ((dig f).toNat:Nat),Value.int .u8 10]]):=Ext.app _ _
  have ho4:OwnL lo (H3++[some [Value.int .u8 80,Value.int .u8 ((dig f).toNat:Nat),Value.int .u8 10]]) (.slice (some ⟨H3.length,0,none⟩) 3 3) H3.length (uL [80,dig f,10]):=.inr ⟨hlo3,rfl,by simp[uL],get_app0⟩
  have hl4:List.length (H3++[some [Value.int .u8 80,Value.int .u8 ((dig f).toNat:Nat),Value.int .u8 10]])=H3.length+1:=by simp
  generalize H3++[some [Value.int .u8 80,Value.int .u8 ((dig f).toNat:Nat),Value.int .u8 10]]=H4 at hE4 ho4 hl4
  have gb4:=hE4.get hgb
  have gk4:=hE4.get hgk
  refine xHNb ?_
  refine wpH_call0 (saiP (k:=w) hw2 ho4 (by omega) (hE4.get (hx3.get (hx.get hg))) (by omega) (by simp[uL])) ?_
  rintro v5 H5 ⟨b5,hb5,hbl5,ho5,hk5⟩
  replace hb5:H3.length≤b5:=by have:=hE4.1;omega
  have hE5:Ext H3 H5:=hk5.ext hE4 (Nat.le_refl _)
  have gb5:=hE5.get hgb
  have gk5:=hE5.get hgk
  have hdw:=decL_4 hw2
  have hdh:=decL_4 hh2
  clear hE4 ho4 hk5
  (try simp only[ctlB])
  repeat' ((first|refine xSNb ?_|refine xONb rfl ?_);(try simp only[ctlB]))
  refine xHNb ?_
  refine wpH_app1 (c:=32) ho5 (by have:=hE5.1;omega) (by simp[uL];omega) ?_
  rintro v6 H6 ho6 hk6 hl6
  have hE6:Ext H3 H6:=hk6.ext hE5 hb5
  have gb6:=hE6.get hgb
  have gk6:=hE6.get hgk
  (try simp only[ctlB])
  repeat' ((first|refine xSNb ?_|refine xONb rfl ?_);(try simp only[ctlB]))
  refine xHNb ?_
  refine wpH_call0 (saiP (k:=ht) hh2 (.inl ho6) (by omega) (hE6.get (hx3.get (hx.get hg))) (by omega) (by simp[uL];omega)) ?_
  rintro v7 H7 ⟨b7,hb7,hbl7,ho7,hk7⟩
  replace hb7:H3.length≤b7:=by have:=hE5.1;omega
  have hE7:Ext H3 H7:=hk7.ext hE6 (by have:=hE5.1;omega)
  have gb7:=hE7.get hgb
  have gk7:=hE7.get hgk
  (try simp only[ctlB])
  repeat' ((first|refine xSNb ?_|refine xONb rfl ?_);(try simp only[ctlB]))
  refine xHNb ?_
  refine wpH_app1 (c:=10) ho7 (by have:=hE7.1;omega) (by simp[uL];omega) ?_
  rintro v8 H8 ho8 hk8 hl8
  have hE8:Ext H3 H8:=hk8.ext hE7 hb7
  have gb8:=hE8.get hgb
  have gk8:=hE8.get hgk
  (try simp only[ctlB])
  repeat' ((first|refine xSNb ?_|refine xONb rfl ?_);(try simp only[ctlB]))
  have hgr2:False∨(f==2 || f==5)=decide (f=2∨f=5):=.inr (by rcases hf with rfl|rfl|rfl|rfl<;>rfl)
  refine aw_midX (fun S' H'=>∃u b,Ext H3 H'∧H3.length≤b∧b<H'.length∧Own lo 1 H' u b (uL (headB f w ht))∧∃(z:Nat→Value),S'=[z 0,z 1,.pointer (some ⟨H.length,0,none⟩),z 3,z 4,z 5,.pointer (some ⟨K,0,none⟩),z 7,z 8,u,z 10,z 11,z 12,z 13,z 14,z 15,z 16,z 17,z 18,z 19,z 20,z 21,z 22,z 23,z 24,z 25,z 26,z 27,z 28,z 29,z 30,z 31]) ?_ ?_
  ·refine xCNb (fun h=>?_) (fun h=>?_)
   ·have hf2:f=2∨f=5:=by rw[hgr2.resolve_left id]at h;exact of_decide_eq_true h
    clear h
    (try simp only[ctlB])
    refine xHNb ?_
    refine wpH_appS (l:=[50,53,53,10]) ho8 (by have:=hE8.1;omega) (by simp) (by simp[uL];omega) ?_
    rintro v9 H9 ho9 hk9 hl9
    (try simp only[ctlB])
    repeat' ((first|refine xSNb ?_|refine xONb rfl ?_);(try simp only[ctlB]))
    refine⟨_,H8.length,hk9.ext hE8 (by have:=hE7.1;omega),hE8.1,by omega,?_,exZNf rfl⟩
    have e:uL (headB f w ht)=uL [80,dig f,10]++uL (decL w)++[encU 32]++uL (decL ht)++[encU 10]++uL [50,53,53,10]:=by
     unfold headB;rw[if_pos hf2];simp[uL]
    rw[e]
    exact ho9
   ·have hf2:¬ (f=2∨f=5):=by rw[hgr2.resolve_left id]at h;exact of_decide_eq_false h
    clear h
    (try simp only[ctlB])
    refine⟨_,H7.length+1,hE8,by have:=hE7.1;omega,by omega,?_,exZNf rfl⟩
    have e:uL (headB f w ht)=uL [80,dig f,10]++uL (decL w)++[encU 32]++uL (decL ht)++[encU 10]:=by
     unfold headB;rw[if_neg hf2];simp[uL]
    rw[e]
    exact ho8
  ·clear gb5 gb6 gb7 gb8 gk5 gk6 gk7 gk8 hE5 hE6 hE7 hE8 ho5 ho6 ho7 ho8
   rintro S' H9 ⟨u,b9,hE9,hb9,hbl9,ho9,z,rfl⟩
   have gb9:=hE9.get hgb
   have hhl:=headB_len (f:=f) hw2 hh2
   (try simp only[ctlB])
   repeat' ((first|refine xSNb ?_|refine xONb rfl ?_);(try simp only[ctlB]))
   refine aw_for (fun y S H'=>∃u b,Ext H3 H'∧H3.length≤b∧b<H'.length∧Own lo 1 H' u b (uL (headB f w ht++rowsW f w l y))∧∃(z:Nat→Value),S=[z 0,z 1,.pointer (some ⟨H.length,0,none⟩),z 3,z 4,z 5,.pointer (some ⟨K,0,none⟩),z 7,z 8,u,z 10,z 11,z 12,z 13,z 14,z 15,z 16,z 17,z 18,z 19,z 20,z 21,z 22,z 23,z 24,z 25,z 26,z 27,z 28,.int .i64 (ht:Nat),.int .i64 (y:Nat),z 31]) ht ?_ ?_ ?_ ?_
   ·exact⟨u,b9,hE9,hb9,hbl9,by rw[rowsW,List.append_nil];exact ho9,exZNf rfl⟩
   ·rintro y S H' hk ⟨u,b,_,_,_,_,z,rfl⟩
    exact⟨_,xENb,by simp⟩
   ·rintro y S H10 hy ⟨u,b10,hE10,hb10,hbl10,ho10,z,rfl⟩
    clear gb9
    have gb10:=hE10.get hgb
    have gk10:=hE10.get hgk
    have hyw:y*w+w≤w*ht:=by
     have:(y+1)*w≤ht*w:=Nat.mul_le_mul_right w hy
     rw[Nat.succ_mul]at this
     rw[Nat.mul_comm w ht];exact this
    have hp1:(y:Int)*(w:Int)=((y*w:Nat):Int):=by simp
    have hp2:((y:Int)+1)*(w:Int)=((y*w+w:Nat):Int):=by rw[Int.add_mul];simp
    obtain⟨r,hr,hrs⟩:=sl_sub (a:=y*w) (b:=y*w+w) hl rfl rfl (by omega) (by omega)
    rw[show y*w+w-y*w=w by omega]at hrs
    have hrl:((l.drop (y*w)).take w).length=w:=by simp;omega
    generalize hrow:(l.drop (y*w)).take w=row at hrs hrl
    replace hrow:False∨_:=.inr hrow
    have hrl1:0<row.length:=by omega
    have hrl2:row.length≤4096:=by omega
    have hsl:=rowsW_len (f:=f) (l:=l) hw2 y
    have hyw2:y*w+w≤4194304:=by omega
    clear hrl
    generalize hN:y*w=N at hp1 hp2 hr hyw hyw2
    clear hN
    (try simp only[ctlB])
    repeat' ((first|refine xSNb ?_|refine xONb rfl ?_);(try simp only[ctlB]))
    refine xHNb ?_
    refine wpH_callC (aprP hf (hx.trans (hx3.trans hE10)) hG hg hrs ho10 (by omega) hbl10 hrl1 hrl2 (by simp[uL];omega)) ?_
    rintro v11 H11 ⟨b11,hb11,hbl11,ho11,hk11⟩
    (try simp only[ctlB])
    repeat' ((first|refine xSNb ?_|refine xONb rfl ?_);(try simp only[ctlB]))
    refine⟨_,b11,hk11.ext hE10 hb10,by have:=hE10.1;omega,hbl11,?_,exZNf (by first|rfl|(simp only[Int.natCast_add,Int.natCast_one];rfl)|simp only[Int.natCast_add,Int.natCast_one])⟩
    rw[rowsW,hrow.resolve_left id,←List.append_assoc,uL_app]
    exact ho11
   ·rintro S H10 ⟨u,b10,hE10,hb10,hbl10,ho10,z,rfl⟩
    (try simp only[ctlB])
    repeat' ((first|refine xSNb ?_|refine xONb rfl ?_);(try simp only[ctlB]))
    refine xRNb ?_
    exact⟨hx3.trans hE10,.inr ⟨hbad,u,b10,rfl,ho10⟩⟩
end
end Go.Proofs.YtpbiaeiebhgmgaaDoor

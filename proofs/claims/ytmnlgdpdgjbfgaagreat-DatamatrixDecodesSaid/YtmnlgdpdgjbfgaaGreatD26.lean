/- Lemmas. -/
import Derived.Test.YtmnlgdpdgjbfgaaGreatD20
import Derived.Test.YtmnlgdpdgjbfgaaGreatD25
set_option linter.all false
namespace Go.Proofs.YtmnlgdpdgjbfgaaGreat
open Go.Abs Go.RS
set_option maxRecDepth 20000
section
variable {f:FD}[OkC f]{lo:Nat}{H:Heap}{g:El f}{d be bl r b bw bE s:Nat}{w:List (El f)}{er:Nat->Bool}{vv vs vl vp:Value}
def Low(m:Nat)(H H':Heap):Prop:=H.length<=H'.length/\∀i,i<m->i<H.length->H'.get i=H.get i
theorem Low.trans{m:Nat}{A B C:Heap}(h:Low m A B)(k:Low m B C):Low m A C:=⟨Nat.le_trans h.1 k.1,fun i hi hl=>(k.2 i hi (bc₀ hl h.1)).trans (h.2 i hi hl)⟩
theorem Low.keep{m b:Nat}{A B:Heap}(h:Keep b A B)(hb:m<=b):Low m A B:=⟨h.len,fun i hi hl=>h.eq i hl byO⟩
theorem Low.ext{m:Nat}{A B:Heap}(h:Ext A B):Low m A B:=⟨h.1,fun i _ hl=>h.2 i hl⟩
theorem Low.toExt{m:Nat}{A B C:Heap}(h:Ext A B)(k:Low m B C)(hm:A.length<=m):Ext A C:=⟨Nat.le_trans h.1 k.1,fun i hi=>(k.2 i byO (bc₀ hi h.1)).trans (h.2 i hi)⟩
theorem so(g:El f)(r b:Nat)(w:List (El f))(er:Nat->Bool):eh w (sel (cK (plc g w.length) er (cV (plc g w.length) er w.length r (syS g r b w))) w.length) (pG (plc g w.length) b r (syS g r b w) (sel (cK (plc g w.length) er (cV (plc g w.length) er w.length r (syS g r b w))) w.length)) (sel (cK (plc g w.length) er (cV (plc g w.length) er w.length r (syS g r b w))) w.length).length=gA g r b w er:=by
 unfold eh gA;refine ah fun i hi=>?_;rw[List.take_length];by_cases h:cK (plc g w.length) er (cV (plc g w.length) er w.length r (syS g r b w)) i=true
 ·rw[if_pos h,if_pos (eK.2 ⟨hi,h⟩)]
 ·rw[if_neg h,if_neg (fun h2=>h (eK.1 h2).2)]
def nl:Value:=.slice none 0 0
def Be(H:Heap)(g:El f)(d be bl r b bw bE:Nat)(w:List (El f))(er:Nat->Bool):Nat->Prop
 | 0=>Dc H g d be bl r b bw bE (sC er w.length) w er nl nl nl nl
 | 1=>sC er w.length<=r/\∃vv,Dc H g d be bl r b bw bE (sC er w.length) w er vv nl nl nl/\SlE H vv (ef g r b w)/\NewV (d+1) vv
 | 2=>sC er w.length<=r/\∃vv vs,Dc H g d be bl r b bw bE (sC er w.length) w er vv vs nl nl/\SlE H vv (ef g r b w)/\NewV (d+1) vv/\SlE H vs (tab (sC er w.length+1) (gam (plc g w.length) er w.length))/\NewV (d+1) vs
 | 3=>sC er w.length<=r/\2*((cV (plc g w.length) er w.length r (syS g r b w)).length-1)+sC er w.length<=r/\∃vv vs vl,Dc H g d be bl r b bw bE (sC er w.length) w er vv vs vl nl/\SlE H vv (ef g r b w)/\NewV (d+1) vv/\SlE H vs (tab (sC er w.length+1) (gam (plc g w.length) er w.length))/\NewV (d+1) vs/\SlE H vl (cV (plc g w.length) er w.length r (syS g r b w))/\NewV (d+1) vl
 | 4=>sC er w.length<=r/\2*((cV (plc g w.length) er w.length r (syS g r b w)).length-1)+sC er w.length<=r/\(sel (isR (plc g w.length) er (cV (plc g w.length) er w.length r (syS g r b w))) w.length).length=(cV (plc g w.length) er w.length r (syS g r b w)).length-1/\∃vv vs vl vp,Dc H g d be bl r b bw bE (sC er w.length) w er vv vs vl vp/\SlE H vv (ef g r b w)/\NewV (d+1) vv/\SlE H vs (tab (sC er w.length+1) (gam (plc g w.length) er w.length))/\NewV (d+1) vs/\SlE H vl (cV (plc g w.length) er w.length r (syS g r b w))/\NewV (d+1) vl/\Sl qG H vp (sel (cK (plc g w.length) er (cV (plc g w.length) er w.length r (syS g r b w))) w.length)/\NewV (d+1) vp
 | 5=>sC er w.length<=r/\2*((cV (plc g w.length) er w.length r (syS g r b w)).length-1)+sC er w.length<=r/\(sel (isR (plc g w.length) er (cV (plc g w.length) er w.length r (syS g r b w))) w.length).length=(cV (plc g w.length) er w.length r (syS g r b w)).length-1/\∃vv vs vl vp,Dc H g d be bl r b bw bE (sC er w.length) (gA g r b w er) er vv vs vl vp
 | _=>DecOK g r b w er/\∃vv vs vl vp,Dc H g d be bl r b bw bE (sC er w.length) (gA g r b w er) er vv vs vl vp
theorem uD(X:Nat->El f)(er:Nat->Bool)(n r:Nat)(S:Ser (El f)):1<=(cV X er n r S).length:=by
 have hone:=uC X er n r S;apply Decidable.byContradiction;intro hc;rw[kW byO]at hone;exact ig hone.symm
def JZ(k:Nat):FuncId:=match k with|0=>116|1=>117|2=>118|3=>119|4=>120|_=>121
theorem Pb(hlo:lo<=bw)(hg:Gn (OkC.ok (f:=f)) g)(hwl:w.length<=f.q-1)(hr:r<=10000000)(hb:b<=10000000){k:Nat}(hk:k<6)(h:Be H g d be bl r b bw bE w er k) :
  Ev cp lo (JZ k) [.pointer (some ⟨d,0,none⟩)] H (fun v H'=>∃t,v=.bool t/\(∀i,i<H.length->i≠d->i≠bw->H'.get i=H.get i)/\H.length<=H'.length/\(t=true->Be H' g d be bl r b bw bE w er (k+1))/\(t=false->¬ DecOK g r b w er)):=by
 have hq:=qle (f:=f);have hsw:=ft er w.length;have hX:=gC (kN hg) (dv hg) hwl
 match k,hk with
 | 0,_=>
  have hd:Dc H g d be bl r b bw bE (sC er w.length) w er nl nl nl nl:=h;have hl:=Heap.get_lt hd.box;have h1:=hd.h3;have h2:=hd.h4;refine(Db byO hg hd byO byO byO).mono ?_;rintro v H' ⟨rfl,hk,vv',hd',hs,hn⟩;refine⟨_,rfl,fun i hi hne _=>hk.eq i hi hne,hk.len,fun ht=>⟨by simpa using ht,vv',hd',hs,hn.mono byO⟩,fun ht hok=>?_⟩;have:=hok.few;simp at ht;omega
 | 1,_=>
  obtain⟨c1,vv,hd,hs,hn⟩:=h;have hl:=Heap.get_lt hd.box;have h1:=hd.h3;have h2:=hd.h4;refine(K9 byO hg hd byO).mono ?_;rintro v H' ⟨rfl,hk,vs',hd',hs2,hn2⟩;exact⟨_,rfl,fun i hi hne _=>hk.eq i hi hne,hk.len,fun _=>⟨c1,vv,vs',hd',eE hs hn hk byO,hn,hs2,hn2.mono byO⟩,fun ht=>by cases ht⟩
 | 2,_=>
  obtain⟨c1,vv,vs,hd,hs,hn,hs2,hn2⟩:=h;have hl:=Heap.get_lt hd.box;have h1:=hd.h3;have h2:=hd.h4;refine(GF byO hg hd byO byO c1 hs hs2).mono ?_;rintro v H' ⟨rfl,hk,vl',hd',hs3,hn3⟩;refine⟨_,rfl,fun i hi hne _=>hk.eq i hi hne,hk.len,fun ht=>⟨c1,by simpa using ht,vv,vs,vl',hd',eE hs hn hk byO,hn,eE hs2 hn2 hk byO,hn2,hs3,hn3.mono byO⟩,fun ht hok=>?_⟩;have:=hok.cap;simp at ht;omega
 | 3,_=>
  obtain⟨c1,c2,vv,vs,vl,hd,hs,hn,hs2,hn2,hs3,hn3⟩:=h;have hl:=Heap.get_lt hd.box;have h1:=hd.h3;have h2:=hd.h4;have hlp:=uD (plc g w.length) er w.length r (syS g r b w);refine(HP byO hg hd hwl hs3 hn3 byO hlp).mono ?_;rintro v H' ⟨rfl,hk,vp',bp,hd',hbp,hown⟩;refine⟨_,rfl,fun i hi hne _=>hk.eq i hi hne,hk.len,fun ht=>⟨c1,c2,by simpa using ht,vv,vs,vl,vp',hd',eE hs hn hk byO,hn,eE hs2 hn2 hk byO,hn2,eE hs3 hn3 hk byO,hn3,Sl.ofOwn hown,NewV.own hown byO⟩,fun ht hok=>?_⟩;have:=hok.num;simp at ht;omega
 | 4,_=>
  obtain⟨c1,c2,c3,vv,vs,vl,vp,hd,hs,hn,hs2,hn2,hs3,hn3,hs4,hn4⟩:=h;have hl:=Heap.get_lt hd.box;have h1:=hd.h3;have h2:=hd.h4;have hlp:=uD (plc g w.length) er w.length r (syS g r b w);have hbl:=Bx (X:=plc g w.length) (n:=w.length) (er:=er) (lam:=cV (plc g w.length) er w.length r (syS g r b w));refine(CW (S:=syS g r b w) (Γ:=gam (plc g w.length) er w.length) hlo hg hd hwl byO byO (by unfold ef at hs;unfold syS;rw[show tab r (co (tab r fun i=>c9 w (pw g (b+i))))=tab r (fun i=>c9 w (pw g (b+i))) from ah fun i hi=>by rw[dL,if_pos hi]];exact hs) hs2 byO (pN _ _ _) hs3 hlp byO hs4 hn4 (j9 _ _) (fun i hi=>(eK.1 hi).1) (AV hX c3) (by rw[hbl,c3];rfl)).mono ?_;rintro v H' ⟨rfl,hk,hd'⟩;rw[so]at hd';exact⟨_,rfl,fun i hi _ hne=>hk.eq i hi hne,hk.len,fun _=>⟨c1,c2,c3,_,_,_,_,hd'⟩,fun ht=>by cases ht⟩
 | 5,_=>
  obtain⟨c1,c2,c3,vv,vs,vl,vp,hd⟩:=h;have hl:=Heap.get_lt hd.box;have h1:=hd.h3;have h2:=hd.h4;refine(KY byO hg hd (by rw[j0];omega) byO byO).mono ?_;rintro v H' ⟨hx,t,rfl,ht⟩;refine⟨_,rfl,fun i hi _ _=>hx.2 i hi,hx.1,fun h=>⟨⟨c1,c2,c3,ht.1 h⟩,vv,vs,vl,vp,hd.mono hx⟩,fun h hok=>?_⟩;have:=ht.2 hok.cw;rw[h]at this;cases this
open XSa
set_option maxHeartbeats 4000000 in
theorem MO(hlo:lo<=bw)(hg:Gn (OkC.ok (f:=f)) g)(hwl:w.length<=f.q-1)(hr:r<=10000000)(hb:b<=10000000)(hd:Dc H g d be bl r b bw bE (sC er w.length) w er nl nl nl nl) :
  Ev cp lo 72 [.pointer (some ⟨d,0,none⟩)] H (fun v H'=>∃t,v=.bool t/\Low bw H H'/\(t=true↔DecOK g r b w er)/\(t=true->∃vv vs vl vp,Dc H' g d be bl r b bw bE (sC er w.length) (gA g r b w er) er vv vs vl vp)):=by
 have hl:=Heap.get_lt hd.box;have h3:=hd.h3;have h4:=hd.h4;refine stG rfl rfl ?_;unfold NT;simp only[kB,aB];refine aC ?_;generalize hFL:[Value.func (Fn.func 116) #[Value.pointer (some ⟨d,0,none⟩)] #[],Value.func (Fn.func 117) #[Value.pointer (some ⟨d,0,none⟩)] #[],Value.func (Fn.func 118) #[Value.pointer (some ⟨d,0,none⟩)] #[],Value.func (Fn.func 119) #[Value.pointer (some ⟨d,0,none⟩)] #[],Value.func (Fn.func 120) #[Value.pointer (some ⟨d,0,none⟩)] #[],Value.func (Fn.func 121) #[Value.pointer (some ⟨d,0,none⟩)] #[]]=FL;have hFL6:FL.length=6:=by rw[<-hFL];rfl
 have hFL7:FL.length<=6/\6<=FL.length:=byO;have hF:∀k,k<6->FL[k]?=some (.func (.func (JZ k)) #[.pointer (some ⟨d,0,none⟩)] #[]):=by
  intro k hk;rw[<-hFL]
  match k,hk with
  | 0,_=>rfl
  | 1,_=>rfl
  | 2,_=>rfl
  | 3,_=>rfl
  | 4,_=>rfl
  | 5,_=>rfl
 clear hFL hFL6;generalize hG:H++_=G at *;have g0:Heap.get G H.length=some FL:=by rw[<-hG];exact aK
 have hxG:Ext H G:=by rw[<-hG];exact Ext.app _ _
 clear hG;refine aa (fun k S H'=>Low bw H H'/\Heap.get H' H.length=some FL/\Be H' g d be bl r b bw bE w er k/\∃(z:Nat->Value),S=[.pointer (some ⟨d,0,none⟩),.bool false,z 2,z 3,z 4,.slice (some ⟨H.length,0,none⟩) 6 6,.int .i64 6,.int .i64 (k:Nat),z 8]) 6 ?_ ?_ ?_ ?_
 ·exact⟨Low.ext hxG,g0,hd.mono hxG,aR rfl⟩
 ·rintro k S H' hk ⟨hx,f0,hst,z,rfl⟩
  exact⟨_,aW,by simp;omega⟩
 ·clear g0 hxG
  rintro k S H1 hk ⟨hx,f0,hst,z,rfl⟩;have hFk:=hF k hk;clear hF;refine aC ?_;refine aQ ?_;refine aA (Pb hlo hg hwl hr hb hk hst) ?_;rintro v H2 ⟨t,rfl,h1,h2,h3',h4'⟩;have hx2:Low bw H H2:=hx.trans ⟨h2,fun i hi hl=>h1 i hl byO byO⟩;have f0:=(h1 H.length (Heap.get_lt f0) byO byO).trans f0;cases t with
  | false=>
   have hno:=h4' rfl;(try simp only[aB]);refine aS ?_ ?_<;>intro h
   case refine_2=>cases h
   clear h;refine aC ?_;refine aT ?_;exact⟨false,rfl,hx2,by simp[hno],fun h=>by cases h⟩
  | true=>
   have hst2:=h3' rfl;(try simp only[aB]);refine aS ?_ ?_<;>intro h
   ·cases h
   clear h;refine aC ?_;exact⟨hx2,f0,hst2,aR ncM⟩
 ·rintro S H1 ⟨hx,f0,hst,z,rfl⟩
  obtain⟨hok,hdd⟩:=hst;refine aC ?_;refine aT ?_;exact⟨true,rfl,hx,by simp[hok],fun _=>hdd⟩
end
def nr(k:Int):Value:=.tuple #[.agg #[.slice none 0 0,.slice none 0 0],.int .i64 k]
section
variable {lo:Nat}{H:Heap}{ch sz po r b:Int}{v ve:Value}{l e:List Int}
open XSa
end
open XSa
def erI(e:List Int)(i:Nat):Bool:=decide ((i:Int) ∈ e)
def inR(n:Nat)(e:List Int):Prop:=∀x ∈ e,0<=x/\x<n
theorem ym{n k:Nat}(er:Nat->Bool)(hk:k<n):(erL n er).set k (.bool true)=erL n (fun j=>er j || decide (j=k)):=by
 apply List.ext_getElem (by simp[erL]);intro i h1 h2;rw[List.getElem_set];have hi:i<n:=by simpa[erL]using h2
 simp only[erL,List.getElem_map,List.getElem_range];by_cases e:k=i
 ·rw[if_pos e,decide_eq_true e.symm,Bool.or_true]
 ·rw[if_neg e,decide_eq_false (Ne.symm e),Bool.or_false]
theorem yn{er:Nat->Bool}{k:Nat}(h:er k=true):(fun j=>er j || decide (j=k))=er:=by
 funext j;by_cases e:j=k
 ·rw[e,h];rfl
 ·rw[decide_eq_false e,Bool.or_false]
theorem EW{er:Nat->Bool}{k:Nat}(h:er k=false):∀n,k<n->sC (fun j=>er j || decide (j=k)) n=sC er n+1:=by
 have low:∀n,n<=k->sC (fun j=>er j || decide (j=k)) n=sC er n:=by
  intro n
  induction n with
  | zero=>intro _;rfl
  | succ n ih=>intro hn;rw[jJ,jJ,ih byO,decide_eq_false byO,Bool.or_false]
 intro n
 induction n with
 | zero=>intro hn;omega
 | succ n ih=>
  intro hn;rw[jJ,jJ];by_cases e:n=k
  ·rw[e,low k (Nat.le_refl _),h];simp
  ·rw[ih byO,decide_eq_false e,Bool.or_false];omega
theorem vW{e:List Int}{i k:Nat}(hi:i<e.length)(hk:e.getD i 0=(k:Int)):erI (e.take (i+1))=fun j=>erI (e.take i) j || decide (j=k):=by
 have hts:e.take (i+1)=e.take i++[(k:Int)]:=by rw[List.take_add_one,<-hk,bb₀ hi,au₀,bb₀ hi];rfl
 funext j;unfold erI;rw[hts,Bool.eq_iff_iff];have e2:((j:Int)=(k:Int))↔j=k:=byO;simp only[List.mem_append,List.mem_singleton,af₀,ar₀,e2]
theorem yM(e:List Int):∀n,sC (erI (e.take 0)) n=0
 | 0=>rfl
 | n+1=>by rw[jJ,yM e n];simp[erI]
section
variable {f:FD}[OkC f]
set_option maxHeartbeats 4000000 in
theorem Cb{lo:Nat}{H:Heap}{g:El f}{v ve:Value}{w:List (El f)}{e:List Int}{r b:Nat}(hlo:lo<=H.length)(hg:Gn (OkC.ok (f:=f)) g)(hc:CdOK f r b)(hw:SlE H v w)(hwl:w.length<=10000000)(he:SlI H ve e)(hel:e.length<=10000000) :
  Ev cp lo 36 [cdV f r b,v,ve] H (fun v H'=>Ext H H'/\(¬ inR w.length e->v=nr 1)/\(inR w.length e->¬ (r<w.length/\w.length<f.q)->v=nr 7)/\(inR w.length e->r<w.length->w.length<f.q->¬ DecOK g r b w (erI e)->v=nr 17)
   /\ (inR w.length e->r<w.length->w.length<f.q->DecOK g r b w (erI e)->∃vw vc,v=.tuple #[.agg #[vw,vc],.int .i64 0]/\SlE H' vw (gA g r b w (erI e))/\Sl qG H' vc (sel (fun i=>decide (co (gA g r b w (erI e)) i≠co w i)) w.length)/\NewV H.length vw/\NewV H.length vc)):=by
 have h2:=qle (f:=f);have hw0:=hw;have he0:=he;have hok:=zX hc;obtain⟨c1,c2,c3⟩:=hc;obtain⟨aw,cw,rfl⟩:=hw.len;obtain⟨ae,ce,rfl⟩:=he.len;unfold cdV;refine stG rfl rfl ?_;unfold Mz;simp only[kB,aB];refine aC ?_;refine aQ ?_;refine aA (HL (ch:=FD.ch f) (sz:=f.q) (po:=f.poly) (r:=r) (b:=b) (pS (OkC.ok (f:=f))) (zt (hw0.mono (Ext.app _ _))) (by rw[wh];omega)) ?_;rintro v H1 ⟨hx1,t,rfl,ht⟩;have g0:H1.get H.length=some _:=hx1.get aW;have g1:H1.get (H.length+1)=some _:=hx1.get aW;have hx1:=hx1.of_app;have htt:t=true:=ht.2 ⟨hok,vr w⟩;subst htt;have hl1:=Heap.get_lt g1;(try simp only[aB]);refine aS ?_ ?_<;>intro h
 ·cases h
 clear h ht;refine aC ?_;refine eo (fun S H'=>H1=H'/\inR w.length e/\∃i z0 z5 z6 z7 z8 z9 z10 z11 z15 z16 z17 z18 z19 z20 z21 z22 z23 z24 z25 z26 z27 z28 z29 z30 z31,S=[z0,.slice aw w.length cw,.slice ae e.length ce,.pointer (some ⟨H.length,0,none⟩),.pointer (some ⟨H.length+1,0,none⟩),z5,z6,z7,z8,z9,z10,z11,.slice ae e.length ce,.int .i64 (e.length:Nat),.int .i64 (i:Nat),z15,z16,z17,z18,z19,z20,z21,z22,z23,z24,z25,z26,z27,z28,z29,z30,z31]) ?_ ?_
 ·refine aa (fun i S H'=>H1=H'/\inR w.length (e.take i)/\∃z0 z5 z6 z7 z8 z9 z10 z11 z15 z16 z17 z18 z19 z20 z21 z22 z23 z24 z25 z26 z27 z28 z29 z30 z31,S=[z0,.slice aw w.length cw,.slice ae e.length ce,.pointer (some ⟨H.length,0,none⟩),.pointer (some ⟨H.length+1,0,none⟩),z5,z6,z7,z8,z9,z10,z11,.slice ae e.length ce,.int .i64 (e.length:Nat),.int .i64 (i:Nat),z15,z16,z17,z18,z19,z20,z21,z22,z23,z24,z25,z26,z27,z28,z29,z30,z31]) e.length ?_ ?_ ?_ ?_
  ·exact⟨rfl,by simp[inR],_,_,_,_,_,_,_,_,_,_,_,_,_,_,_,_,_,_,_,_,_,_,_,_,_,rfl⟩
  ·rintro i S H' hi ⟨rfl,-,z0,z5,z6,z7,z8,z9,z10,z11,z15,z16,z17,z18,z19,z20,z21,z22,z23,z24,z25,z26,z27,z28,z29,z30,z31,rfl⟩
   exact⟨_,aW,by simp⟩
  ·rintro i S H' hi ⟨rfl,hin,z0,z5,z6,z7,z8,z9,z10,z11,z15,z16,z17,z18,z19,z20,z21,z22,z23,z24,z25,z26,z27,z28,z29,z30,z31,rfl⟩
   obtain⟨xb,xo,xsp,xc,xs,ee,gx,hat,hxl⟩:=(he0.mono hx1).els 0 byO;cases ee;have hati:=hat i hi;have hm:e.getD i 0 ∈ e:=by rw[au₀,bb₀ hi];exact List.getElem_mem hi
   have hts:e.take (i+1)=e.take i++[e.getD i 0]:=by rw[List.take_add_one,bb₀ hi,au₀,bb₀ hi];rfl
   clear hat;generalize e.getD i 0=x at *;refine aC ?_;refine aS ?_ ?_<;>intro h
   ·have hno:¬ inR w.length e:=fun h3=>by have:=h3 _ hm;simp at h;omega
    clear h;refine aC ?_;refine aT ?_;exact⟨hx1.set byO,fun _=>rfl,fun h=>absurd h hno,fun h=>absurd h hno,fun h=>absurd h hno⟩
   ·have hx:0<=x/\x<w.length:=by simp at h;omega
    clear h;refine aC ?_;refine⟨by trivial,?_,_,_,_,_,_,_,_,_,_,_,_,_,_,_,_,_,_,_,_,_,_,_,_,_,_,ncM⟩;intro y hy;rw[hts]at hy;rcases List.mem_append.1 hy with h|h
    ·exact hin y h
    ·rw[List.mem_singleton.1 h];exact hx
  ·rintro S H' ⟨rfl,hin,z0,z5,z6,z7,z8,z9,z10,z11,z15,z16,z17,z18,z19,z20,z21,z22,z23,z24,z25,z26,z27,z28,z29,z30,z31,rfl⟩
   rw[List.take_length]at hin;exact⟨rfl,hin,e.length,_,_,_,_,_,_,_,_,_,_,_,_,_,_,_,_,_,_,_,_,_,_,_,_,_,rfl⟩
 rintro S H' ⟨rfl,hin,i0,z0,z5,z6,z7,z8,z9,z10,z11,z15,z16,z17,z18,z19,z20,z21,z22,z23,z24,z25,z26,z27,z28,z29,z30,z31,rfl⟩;refine aC ?_;refine aQ ?_;refine aA (Qy (ch:=FD.ch f) (sz:=f.q) (po:=f.poly) (r:=r) (b:=b) (n:=w.length)) ?_;rintro v H2 ⟨hx2,rfl⟩;have g0:=(hx2).get g0;have g1:=(hx2).get g1;have hx2:=hx1.trans hx2;have hl2:=hx2.1;(try simp only[aB]);refine aS ?_ ?_<;>intro h
 ·have hno:¬ (r<w.length/\w.length<f.q):=by
   intro hh;simp at h;omega
  clear h;have hl3:=Heap.get_lt g1;refine aC ?_;refine aT ?_;exact⟨hx2.set byO,fun h=>absurd hin h,fun _ _=>rfl,fun _ h1 h2=>absurd ⟨h1,h2⟩ hno,fun _ h1 h2=>absurd ⟨h1,h2⟩ hno⟩
 have hlong:r<w.length/\w.length<f.q:=by simp at h;omega
 clear h;(try simp only[aB]);refine aQ ?_;refine aN (Az byO hg) ?_;rintro v H3 ⟨hx3,be,bl,hbe,hbl,rfl,ha⟩;have g0:=(hx3).get g0;have g1:=(hx3).get g1;have hl3:=hx3.1;have hx3:=hx2.trans hx3;have hw3:=hw0.mono hx3;have g0h:=g0;have g1h:=g1;rcases hw3 with ⟨-,rfl⟩|⟨xb,xo,xsp,xc,xs,ee,gx,hd1,hd2,hd3,hd4⟩
 ·simp at hlong
 cases ee;unfold arV;(try simp only[aB]);refine aQ ?_;refine dG (c:=elL w) (Own.nil (b:=H3.length) byO) byO byO byO (by simp;omega) gx byO (by rw[Nat.mul_one];exact hd1) (td w) ?_;rintro v4 H4 hown4 hk4 hl4;have hx4:Ext H3 H4:=hk4.ext (Ext.refl _) (Nat.le_refl _);rw[List.nil_append]at hown4;obtain⟨-,⟨-,h⟩|⟨m,hm,hml,rfl,gw⟩⟩:=hown4
 ·have:w.length=0:=by rw[<-bq w,h];rfl
  omega
 have hmw:m=w.length:=by rw[bq]at hml;omega
 subst hmw;have g0:=(hx4).get g0;have g1:=(hx4).get g1;clear hml;refine aC ?_;refine y5 aW aW (.inl rfl) ?_;have hbl:iR (List.replicate w.length false)=erL w.length (erI (e.take 0)):=by
  simp[iR,erL,erI,List.map_const']
 rw[hbl];generalize hG:H4++_=G at *;have hx5:Ext H4 G:=by rw[<-hG];exact Ext.app _ _
 have ge:G.get (H3.length+1)=some (erL w.length (erI (e.take 0))):=by rw[<-hG,<-hl4];exact aK
 have gd:G.get (H3.length+1+1)=some (dcC f be bl r b w.length H3.length (H3.length+1) (sC (erI (e.take 0)) w.length) nl nl nl nl):=by
  rw[<-hG,yM,show H3.length+1+1=H4.length+1 by omega,bI];rfl
 clear hG hbl;have hxG:=(hx3.trans hx4).trans hx5;have ha5:=(ha.mono hx4).mono hx5;have gw5:=hx5.get gw;have g0:=(hx5).get g0;have g1:=(hx5).get g1;have hal:=ha.lt;have he5:=he0.mono hxG;have hlG:=hx5.1;refine aC ?_;refine eo (fun S H'=>Low (H3.length+1) G H'/\Heap.get H' (H3.length+1)=some (erL w.length (erI e))/\Heap.get H' (H3.length+1+1)=some (dcC f be bl r b w.length H3.length (H3.length+1) (sC (erI e) w.length) nl nl nl nl)/\∃i z0 z2 z5 z6 z8 z9 z10 z11 z12 z13 z14 z15 z16 z17 z18 z19 z20 z21 z22 z26 z27 z28 z29 z30 z31,S=[z0,.slice (some ⟨xb,xo,xsp⟩) w.length cw,z2,.pointer (some ⟨H.length,0,none⟩),.pointer (some ⟨H.length+1,0,none⟩),z5,z6,.pointer (some ⟨H3.length+1+1,0,none⟩),z8,z9,z10,z11,z12,z13,z14,z15,z16,z17,z18,z19,z20,z21,z22,.slice ae e.length ce,.int .i64 (e.length:Nat),.int .i64 (i:Nat),z26,z27,z28,z29,z30,z31]) ?_ ?_
 ·refine aa (fun i S H'=>Low (H3.length+1) G H'/\Heap.get H' (H3.length+1)=some (erL w.length (erI (e.take i)))/\Heap.get H' (H3.length+1+1)=some (dcC f be bl r b w.length H3.length (H3.length+1) (sC (erI (e.take i)) w.length) nl nl nl nl)/\∃z0 z2 z5 z6 z8 z9 z10 z11 z12 z13 z14 z15 z16 z17 z18 z19 z20 z21 z22 z26 z27 z28 z29 z30 z31,S=[z0,.slice (some ⟨xb,xo,xsp⟩) w.length cw,z2,.pointer (some ⟨H.length,0,none⟩),.pointer (some ⟨H.length+1,0,none⟩),z5,z6,.pointer (some ⟨H3.length+1+1,0,none⟩),z8,z9,z10,z11,z12,z13,z14,z15,z16,z17,z18,z19,z20,z21,z22,.slice ae e.length ce,.int .i64 (e.length:Nat),.int .i64 (i:Nat),z26,z27,z28,z29,z30,z31]) e.length ?_ ?_ ?_ ?_
  ·exact⟨Low.ext (Ext.refl _),ge,gd,_,_,_,_,_,_,_,_,_,_,_,_,_,_,_,_,_,_,_,_,_,_,_,_,_,rfl⟩
  ·rintro i S H' hi ⟨-,-,-,z0,z2,z5,z6,z8,z9,z10,z11,z12,z13,z14,z15,z16,z17,z18,z19,z20,z21,z22,z26,z27,z28,z29,z30,z31,rfl⟩
   exact⟨_,aW,by simp⟩
  ·clear gd ge
   rintro i S H6 hi ⟨k1,k2,k3,z0,z2,z5,z6,z8,z9,z10,z11,z12,z13,z14,z15,z16,z17,z18,z19,z20,z21,z22,z26,z27,z28,z29,z30,z31,rfl⟩;have hx6:Ext H H6:=Low.toExt hxG k1 byO;obtain⟨yb,yo,ysp,yc,ys,ee,gy,hat,hyl⟩:=(he0.mono hx6).els 0 byO;cases ee;have hati:=hat i hi;have hm:e.getD i 0 ∈ e:=by rw[au₀,bb₀ hi];exact List.getElem_mem hi
   have hxr:=hin _ hm;obtain⟨k,hk⟩:∃k:Nat,e.getD i 0=(k:Int):=⟨(e.getD i 0).toNat,byO⟩;have hsu:=vW hi hk;have hkl:k<w.length:=byO;rw[hk]at hati;clear hat hk hxr hm;have hsl:=ft (erI (e.take i)) w.length;have hl6:=Heap.get_lt k3;refine aC ?_;cases hek:erI (e.take i) k with
   | true=>
    rw[yn hek]at hsu;rw[hsu];clear hsu;refine aS ?_ ?_<;>intro h
    ·cases h
    clear h hek;refine aC ?_;exact⟨k1,k2,k3,_,_,_,_,_,_,_,_,_,_,_,_,_,_,_,_,_,_,_,_,_,_,_,_,_,ncM⟩
   | false=>
    have hca:=EW hek w.length hkl;have hse:=ym (erI (e.take i)) hkl;rw[<-hsu]at hca hse;clear hsu;refine aS ?_ ?_<;>intro h
    case refine_2=>cases h
    clear h hek;generalize hq1:sC (erI (e.take (i+1))) w.length=q1 at *;subst hca;generalize sC (erI (e.take i)) w.length=q0 at *;refine aC ?_;refine⟨k1.trans (Low.trans (Low.keep (dD (Ext.refl _) _ _) (Nat.le_refl _)) (Low.keep (dD (Ext.refl _) _ _) byO)),?_,?_,_,_,_,_,_,_,_,_,_,_,_,_,_,_,_,_,_,_,_,_,_,_,_,_,_,ncM⟩
    ·rw[aH byO,aF byO]
    ·rw[aF (by simp;omega)];rfl
  ·rintro S H' ⟨k1,k2,k3,z0,z2,z5,z6,z8,z9,z10,z11,z12,z13,z14,z15,z16,z17,z18,z19,z20,z21,z22,z26,z27,z28,z29,z30,z31,rfl⟩
   rw[List.take_length]at k2 k3;exact⟨k1,k2,k3,e.length,_,_,_,_,_,_,_,_,_,_,_,_,_,_,_,_,_,_,_,_,_,_,_,_,_,rfl⟩
 clear gd ge;rintro S H6 ⟨k1,k2,k3,i6,z0,z2,z5,z6,z8,z9,z10,z11,z12,z13,z14,z15,z16,z17,z18,z19,z20,z21,z22,z26,z27,z28,z29,z30,z31,rfl⟩;have hx36:Ext H3 H6:=Low.toExt (hx4.trans hx5) k1 byO;have hd6:Dc H6 g (H3.length+1+1) be bl r b H3.length (H3.length+1) (sC (erI e) w.length) w (erI e) nl nl nl nl:=⟨k3,ha.mono hx36,(k1.2 _ byO byO).trans gw5,k2,hal.1,hal.2,byO,byO⟩;have hx6:Ext H H6:=Low.toExt hxG k1 byO;refine aC ?_;refine aQ ?_;refine aA (MO byO hg byO byO byO hd6) ?_;rintro v H7 ⟨t,rfl,hlow,ht,htd⟩;have hx7:Ext H H7:=Low.toExt hx6 hlow byO;have hx37:Ext H3 H7:=Low.toExt hx36 hlow byO;have g1x:=g1h;have g1:=hx37.get g1h;have hl7:=hx37.1;clear g0h g1h g0 k2 k3 gw gw5 gx hd1;cases t with
 | false=>
  (try simp only[aB]);refine aS ?_ ?_<;>intro h
  case refine_2=>cases h
  clear h;have hl8:=Heap.get_lt g1;refine aC ?_;refine aT ?_;exact⟨hx7.set byO,fun h=>absurd hin h,fun _ h=>absurd hlong h,fun _ _ _ _=>rfl,fun _ _ _ h=>absurd (ht.2 h) (by simp)⟩
 | true=>
  obtain⟨vv,vs,vl,vp,hd7⟩:=htd rfl;have hok7:=ht.1 rfl;have gd:=hd7.box;have gw:=hd7.word;have hfl:=j0 g r b w (erI e);have hfl':(gA g r b w (erI e)).length<=w.length/\w.length<=(gA g r b w (erI e)).length:=byO;rw[hfl]at gd;clear hfl;generalize gA g r b w (erI e)=W at *;(try simp only[aB]);refine aS ?_ ?_<;>intro h
  ·cases h
  clear h;refine aC ?_;refine aa (fun i S H'=>Ext H7 H'/\∃vc bc,H7.length<=bc/\Own lo 1 H' vc bc (jA (sel (fun i=>decide (co W i≠co w i)) i))/\∃(z:Nat->Value),S=[z 0,.slice (some ⟨xb,xo,xsp⟩) w.length cw,z 2,z 3,.pointer (some ⟨H.length+1,0,none⟩),z 5,z 6,.pointer (some ⟨H3.length+1+1,0,none⟩),z 8,vc,z 10,z 11,z 12,z 13,z 14,z 15,z 16,z 17,z 18,z 19,z 20,z 21,z 22,z 23,z 24,z 25,z 26,.int .i64 (w.length:Nat),.int .i64 (i:Nat),z 29,z 30,z 31]) w.length ?_ ?_ ?_ ?_
  ·exact⟨Ext.refl _,_,H7.length,Nat.le_refl _,Own.nil byO,aR rfl⟩
  ·rintro i S H' hi ⟨hx,vc,bc,hbc,hown,z,rfl⟩
   exact⟨_,aW,by simp⟩
  ·rintro i S H8 hi ⟨hx8,vc,bc,hbc,hown,z,rfl⟩
   obtain⟨yb,yo,ysp,yc,ys,ee,gy,hat,hyl⟩:=dV (hw0.mono (hx7.trans hx8)) byO;cases ee;have hati:=hat i hi;have gd:=(hx8).get gd;have gw:=(hx8).get gw;have g1:=(hx8).get g1;have hs2:=ba (fun i=>decide (co W i≠co w i)) i;have hs4:(sel (fun i=>decide (co W i≠co w i)) i).length<=i:=ft _ i;have hl8:=hx8.1;have hcW:W.getD i 0=co W i:=rfl;clear hat;refine aC ?_;by_cases hz:co W i=co w i
   ·rw[if_neg (by simp[hz]),List.append_nil]at hs2
    rw[hs2];clear hs2;have hzv:(co W i).val=(co w i).val:=by rw[hz]
    clear hz;refine aS ?_ ?_<;>intro h
    ·simp at h
    clear h hzv hati;refine aC ?_;exact⟨hx8,vc,bc,hbc,hown,aR ncM⟩
   ·rw[if_pos (by simp[hz])]at hs2
    have hsl:jA (sel (fun i=>decide (co W i≠co w i)) (i+1))=jA (sel (fun i=>decide (co W i≠co w i)) i)++[.int .i64 (i:Nat)]:=by rw[hs2];simp[jA]
    clear hs2;have hzv:(co W i).val≠(co w i).val:=fun h=>hz (El.ext h);clear hz;refine aS ?_ ?_<;>intro h
    case refine_2=>simp at h;omega
    clear h hzv hati;refine aC ?_;refine aQ ?_;refine dG (c:=[.int .i64 (i:Nat)]) (hown.mono (Ext.app _ _)) (by simp;omega) byO byO (by rw[j4];omega) aK (by simp) rfl rfl ?_;rintro v' H9 hown9 hk9 hl9;have hE:=Ext.app H8 [some [Value.int .i64 (i:Nat)]];simp only[as₀,ak₀,an₀]at hown9;refine aC ?_;refine⟨hk9.ext (hx8.trans hE) byO,v',H8.length+(0+1),byO,?_,aR ncM⟩;rw[hsl];exact hown9
  ·rintro S H8 ⟨hx8,vc,bc,hbc,hown,z,rfl⟩
   have gd:=(hx8).get gd;have gw:=(hx8).get gw;have g1:=(hx8).get g1;have hl8:=Heap.get_lt g1;have hsl:=Sl.ofOwn (enc:=qG) hown;have hnw:=NewV.own hown hbc;have hl7':=hx37.1;have hl7:=Heap.get_lt (hx37.get g1x);have hl3x:=Heap.get_lt g1x;obtain⟨ac,nc,rfl⟩:=hsl.len;refine aC ?_;refine aT ?_;refine⟨(hx7.trans hx8).set byO,fun h=>absurd hin h,fun _ h=>absurd hlong h,fun _ _ _ h=>absurd hok7 h,fun _ _ _ _=>⟨_,_,rfl,?_,?_,NewV.mk byO,NewV.mono hnw byO⟩⟩
   ·exact bK (by rw[aH byO];exact gw) byO
   ·exact eE hsl hnw (dD (Ext.refl _) _ _) hl7
end
end Go.Proofs.YtmnlgdpdgjbfgaaGreat
namespace Go.Proofs.YtmnlgdpdgjbfgaaGreat
open Go.Abs Go.RS
variable{H:Heap}{lo:Nat}{i:Nat}
namespace XUa
def xtr:=zzi @Int.cast_ofNat_Int (zzi @fv.eq_1 (zzi @fvf.eq_1 (zzi @ite_self.{1} (zzi @ic (zzi @iZ (zzi @iY (zzi @cdC.eq_1 (zzi @arC.eq_1 (zzi @iU (zzi @bq (zzi @eQ (zzi @fj (zzi @xU @te)))))))))))))
end XUa
open XUa
theorem LZ{ve:Value}{e:List Int}{n:Nat}(hlo:lo<=H.length)(hn:n<=100000000)(he:SlI H ve e)(hel:e.length<=100000000)(hin:inR n e) :
  Ev cp lo 73 [.int .i64 (n:Nat),ve] H (fun v H'=>Ext H H'/\∃b,H.length<=b/\v=.tuple #[.slice (some ⟨b,0,none⟩) n n,.int .i64 (sC (erI e) n:Nat)]/\H'.get b=some (erL n (erI e))):=by
 have he0:=he;obtain⟨ae,ce,rfl⟩:=he.len;refine stG rfl rfl ?_;unfold NU;simp only[kB,aB];refine aC ?_;have hbl:iR (List.replicate n false)=erL n (erI (e.take 0)):=by
  simp[iR,erL,erI,List.map_const']
 rw[hbl];generalize hG:H++_=G at *;obtain⟨ge,hxG⟩:=bV hG;clear hG hbl;have hlb:=Heap.get_lt ge;refine aa (fun i S H'=>Keep H.length G H'/\Heap.get H' H.length=some (erL n (erI (e.take i)))/\∃(z:Nat->Value),S=[z 0,.slice ae e.length ce,z 2,z 3,.slice (some ⟨H.length,0,none⟩) n n,.int .i64 (sC (erI (e.take i)) n:Nat),.int .i64 (i:Nat),z 7]) e.length ?_ ?_ ?_ ?_
 ·exact⟨dQ (Ext.refl _),ge,aR (by rw[yM];rfl)⟩
 ·rintro i S H' hi ⟨-,-,z,rfl⟩
  exact⟨_,aW,by simp⟩
 ·clear ge
  rintro i S H6 hi ⟨k1,k2,z,rfl⟩;have hx6:Ext H H6:=k1.ext hxG (Nat.le_refl _);obtain⟨yb,yo,ysp,yc,ys,ee,gy,hat,hyl⟩:=(he0.mono hx6).els 0 byO;cases ee;have hati:=hat i hi;have hm:e.getD i 0 ∈ e:=by rw[au₀,bb₀ hi];exact List.getElem_mem hi
  have hxr:=hin _ hm;obtain⟨k,hk⟩:∃k:Nat,e.getD i 0=(k:Int):=⟨(e.getD i 0).toNat,byO⟩;have hsu:=vW hi hk;have hkl:k<n:=byO;rw[hk]at hati;clear hat hk hxr hm;have hsl:=ft (erI (e.take i)) n;have hl6:=Heap.get_lt k2;have hse:=ym (erI (e.take i)) hkl;rw[<-hsu]at hse;refine aC ?_;cases hek:erI (e.take i) k with
  | true=>
   rw[yn hek]at hsu;rw[hsu]at hse ⊢;clear hsu;refine aS ?_ ?_<;>intro h
   ·cases h
   clear h hek;refine aC ?_;exact⟨k1,k2,aR ncM⟩
  | false=>
   have hca:=EW hek n hkl;rw[<-hsu]at hca;clear hsu;refine aS ?_ ?_<;>intro h
   case refine_2=>cases h
   clear h hek;generalize hq1:sC (erI (e.take (i+1))) n=q1 at *;subst hca;generalize sC (erI (e.take i)) n=q0 at *;refine aC ?_;refine⟨iN k1 _,?_,aR ncM⟩;rw[aF byO]
 ·rintro S H6 ⟨k1,k2,z,rfl⟩
  rw[List.take_length]at k2 ⊢;have hx6:Ext H H6:=k1.ext hxG (Nat.le_refl _);refine aC ?_;refine aT ?_;exact⟨hx6,_,Nat.le_refl _,rfl,k2⟩
section
variable {f:FD}[OkC f]
theorem Gr{g:El f}{n:Nat}(hlo:lo<=H.length)(hg:Gn (OkC.ok (f:=f)) g)(hn:n<=100000000) :
  Ev cp lo 123 [fvf f,.int .i64 (n:Nat)] H (fun v H'=>Ext H H'/\∃b,H.length<=b/\v=.slice (some ⟨b,0,none⟩) n n/\H'.get b=some (elL (tab n (plc g n)))):=by
 unfold fvf fv;refine stG rfl rfl ?_;unfold IE;simp only[kB,aB];refine aC ?_;refine aQ ?_;refine aA (rF (f:=f) hg) ?_;rintro v H1 ⟨hx1,rfl⟩;have g0:H1.get H.length=some _:=hx1.get aW;have hx1:=hx1.of_app;have hl1:=Heap.get_lt g0;refine aC ?_;have hz:elL (List.replicate n (0:El f))=elL (tab n (fun i=>if n-0<=i then plc g n i else 0)):=by
  rw[fA];refine congrArg elL (ah fun i hi=>?_);rw[if_neg byO]
 rw[hz];generalize hG:H1++_=G at *;obtain⟨gb,hxG⟩:=bV hG;clear hG hz;have g0:=(hxG).get g0;have hx2:=hx1.trans hxG;have hlb:=Heap.get_lt gb;have hl2:=hxG.1;refine aa (fun k S H'=>Keep H1.length G H'/\Heap.get H' H1.length=some (elL (tab n (fun i=>if n-k<=i then plc g n i else 0)))/\∃(z:Nat->Value),S=[z 0,z 1,.pointer (some ⟨H.length,0,none⟩),z 3,.int .i64 (g.val:Nat),.slice (some ⟨H1.length,0,none⟩) n n,.int .i64 ((pw g k).val:Nat),.int .i64 ((n:Int)-1-((k:Nat):Int)),z 8,z 9,z 10]) n ?_ ?_ ?_ ?_
 ·exact⟨dQ (Ext.refl _),gb,aR (by rw[fF,Eo,show((n:Int)-1-((0:Nat):Int))=(n:Int)-1 by omega];rfl)⟩
 ·rintro k S H' hi ⟨-,-,z,rfl⟩
  exact⟨_,aW,by simp;omega⟩
 ·clear gb
  rintro k S H2 hk ⟨k1,k2,z,rfl⟩;have g0:=k1.get g0 byO;have hl3:=Heap.get_lt k2;have hj:(n:Int)-1-(k:Int)=((n-1-k:Nat):Int):=byO;have hj2:(n:Int)-1-((k+1:Nat):Int)=((n-1-k:Nat):Int)-1:=byO;rw[hj,hj2];clear hj hj2;have hset:(tab n (fun i=>if n-k<=i then plc g n i else 0)).set (n-1-k) (pw g k)=tab n (fun i=>if n-(k+1)<=i then plc g n i else 0):=by
   rw[kF];refine ah fun i hi=>?_;by_cases h1:i=n-1-k
   ·rw[if_pos h1,if_pos byO]
    unfold plc;rw[h1,show n-1-(n-1-k)=k by omega]
   ·rw[if_neg h1]
    by_cases h2:n-k<=i
    ·rw[if_pos h2,if_pos byO]
    ·rw[if_neg h2,if_neg byO]
  have htl:=aG n (fun i=>if n-k<=i then plc g n i else 0);generalize tab n (fun i=>if n-(k+1)<=i then plc g n i else 0)=T2 at *;generalize tab n (fun i=>if n-k<=i then plc g n i else 0)=T1 at *;refine aC ?_;generalize hG3:H2.set H1.length _=G3 at *;have k3:Keep H1.length G G3:=by rw[<-hG3];exact iN k1 _
  have gb3:Heap.get G3 H1.length=some (elL T2):=by rw[<-hG3,aF byO]
  have g0:=(show Heap.get G3 H.length=Heap.get H2 H.length by rw[<-hG3,aH byO]).trans g0;clear hG3 hset;refine aQ ?_;refine aA (fh (f:=f) (pw g k) g) ?_;rintro v H4 ⟨hx4,rfl⟩;rw[<-eD];refine aC ?_;exact⟨dB k3 (dQ hx4),hx4.get gb3,aR ncM⟩
 ·rintro S H2 ⟨k1,k2,z,rfl⟩
  have hfin:tab n (fun i=>if n-n<=i then plc g n i else 0)=tab n (plc g n):=ah fun i hi=>by rw[if_pos byO]
  rw[hfin]at k2;refine aC ?_;refine aT ?_;exact⟨k1.ext hx2 byO,_,byO,rfl,k2⟩
end
open Go.Abs Go.RS
section
variable {f:FD}[OkC f]
theorem xD{P:List Nat}{X:Nat->El f}(hi:i<P.length):co (P.map X) i=X (P.getD i 0):=by
 unfold co;rw[au₀,az₀,au₀,bb₀ hi];rfl
theorem vf{P:List Nat}(hi:i<P.length):P.getD i 0 ∈ P:=by
 rw[au₀,bb₀ hi];exact List.getElem_mem hi
theorem getD_inj{P:List Nat}(hP:P.Nodup){i j:Nat}(hi:i<P.length)(hj:j<P.length)(h:P.getD i 0=P.getD j 0):i=j:=by
 rw[au₀,bb₀ hi,au₀,bb₀ hj]at h;have hw:=List.pairwise_iff_getElem.1 hP;rcases Nat.lt_trichotomy i j with h1|h1|h1
 ·exact absurd h (hw i j hi hj h1)
 ·exact h1
 ·exact absurd h.symm (hw j i hj hi h1)
theorem sY(P:List Nat)(X:Nat->El f)(hi:i<=P.length):co (tab (i+1) (aX ((P.take i).map X)))=aX ((P.take i).map X):=by
 have:=DW ((P.take i).map X);rw[ay₀,List.length_take,Nat.min_eq_left hi]at this;exact this
set_option maxHeartbeats 4000000 in
theorem Mc{X:Nat->El f}{n b:Nat}{P:List Nat}{s:List (El f)}{vs vx:Value}(hlo:lo<=H.length)(hs:SlE H vs s)(hsl:s.length<=10000000)(hX:Places X n)(hP:P.Nodup)(hb:∀i ∈ P,i<n)(hx:SlE H vx (P.map X))(hpl:P.length<=10000000)(hbb:b<=10000000) :
  Ev cp lo 127 [fvf f,vs,vx,.int .i64 (b:Nat)] H (fun v H'=>Ext H H'/\SlE H' v (P.map (pG X b s.length (co s) P))/\NewV H.length v):=by
 have hs0:=hs;have hx0:=hx;have hml:(P.map X).length=P.length:=ay₀ _;obtain⟨sa,cs,rfl⟩:=hs.len;obtain⟨ax,cx,rfl⟩:=hx.len;rw[hml]at hx0 ⊢;unfold fvf fv;refine stG rfl rfl ?_;unfold II;simp only[kB,aB];refine aC ?_;generalize hG:H++_=G at *;obtain⟨g0,hxG⟩:=bV hG;have g1:G.get (H.length+1)=some (elL (tab (0+1) (aX ((P.take 0).map X)))):=by rw[<-hG,bI];rfl
 clear hG;have hl0:=hxG.1;have hs1:=hs0.mono hxG;have hx1:=hx0.mono hxG;refine aa (fun i S H'=>Ext G H'/\∃bb,H'.get bb=some (elL (tab (i+1) (aX ((P.take i).map X))))/\∃(z:Nat->Value),S=[z 0,.slice sa s.length cs,.slice ax P.length cx,.int .i64 (b:Nat),.pointer (some ⟨H.length,0,none⟩),z 5,.slice (some ⟨bb,0,none⟩) (i+1) (i+1),.int .i64 (i:Nat),z 8,z 9,z 10,z 11,z 12,z 13,z 14,z 15,z 16,z 17,z 18,z 19,z 20,z 21,z 22,z 23,z 24,z 25,z 26,z 27,z 28,z 29,z 30,z 31,z 32,z 33,z 34,z 35,z 36,z 37,z 38]) P.length ?_ ?_ ?_ ?_
 ·exact⟨Ext.refl _,H.length+1,g1,aR rfl⟩
 ·rintro i S H' hi ⟨hx,bb,fb,z,rfl⟩
  exact⟨_,aW,by simp⟩
 ·clear g1
  rintro i S H2 hi ⟨hx2,bb,fb,z,rfl⟩;have hl2:=hx2.1;obtain⟨b',o,sp,cap,xs,e,gx,hat,hxl⟩:=dV (hx1.mono hx2) (by rw[hml];omega);rw[hml]at hat hxl e;cases e;have f0:=hx2.get g0;have hati:=hat i hi;rw[xD hi]at hati;have hi1:(((i+1:Nat):Int)+1)=((i+2:Nat):Int):=byO;have htk:(P.take (i+1)).map X=(P.take i).map X++[X (P.getD i 0)]:=by rw[lG hi,List.map_append];rfl
  have hnx:cv (co (tab (i+1) (aX ((P.take i).map X)))) (co [1,-X (P.getD i 0)])=aX ((P.take (i+1)).map X):=by rw[sY P X byO,CL,An,htk]
  have htl:=aG (i+1) (aX ((P.take i).map X));clear hat htk;generalize tab (i+1) (aX ((P.take i).map X))=A at *;generalize aX ((P.take (i+1)).map X)=L2 at *;generalize X (P.getD i 0)=x at *;refine aC ?_;refine aQ ?_;refine aN (rD (0:El f) x) ?_;rintro v H3 ⟨hx3,rfl⟩;rw[na];have fb:=hx3.get fb;have hx3:=hx2.trans hx3;have hl3:=hx3.1;refine aC ?_;refine aQ ?_;have hs1:=bK (sp:=none) fb htl;have hs2:SlE (H3++[some [Value.int .i64 1,Value.int .i64 ((-x).val:Nat)]]) (.slice (some ⟨H3.length,0,none⟩) 2 2) [(1:El f),-x]:=bK (l:=[(1:El f),-x]) aK rfl;refine aA (nT (by simp;omega) (hs1.mono (Ext.app _ _)) hs2 (by rw[htl];omega) (by simp) (i+2) byO) ?_;rintro v H4 ⟨hx4,b4,hb4,rfl,f4⟩;have hmin:min (i+2) (A.length+[(1:El f),-x].length-1)=i+2:=by rw[htl];simp
  rw[hmin]at f4 ⊢;rw[hnx]at f4;have hx4:=hx3.trans hx4.of_app;clear hi1;refine aC ?_;exact⟨hx4,b4,f4,aR ncM⟩
 ·rintro S H2 ⟨hx2,bb,fb,z,rfl⟩
  rw[List.take_length]at fb;have g0:=hx2.get g0;have hx1:=hx1.mono hx2;have hs1:=hs1.mono hx2;have hx2:=hxG.trans hx2;have hl2:=hx2.1;have htl:=aG (P.length+1) (aX (P.map X));have hal:=bK (sp:=none) fb htl;have hct:=sY P X (Nat.le_refl _);rw[List.take_length]at hct;(try simp only[aB]);refine aQ ?_;refine aA (nT (f:=f) (by exact Nat.le_trans hlo hl2) hs1 hal byO (by rw[htl];omega) s.length byO) ?_;rintro v H3 ⟨hx3,b3,hb3,rfl,f3⟩;rw[hct]at f3;have hmin:min s.length (s.length+(tab (P.length+1) (aX (P.map X))).length-1)=s.length:=by rw[htl];omega
  rw[hmin]at f3 ⊢;have g0:=hx3.get g0;have hx1:=hx1.mono hx3;have hx3:=hx2.trans hx3;have hl3:=hx3.1;clear hct hmin hal htl fb hs1 hx2;have hom:=bK (sp:=none) f3 (aG _ _);refine aC ?_;generalize hE:pG X b s.length (co s) P=E at *;have hEp:∀p,p ∈ P->hor (tab s.length (cv (co s) (aX (P.map X)))) (inv (X p))*inv (pw (X p) b*dnm X P p (inv (X p)) P.length)=E p:=fun p hp=>by rw[<-hE,Cs hP hp]
  clear hE;have hol:=aG s.length (cv (co s) (aX (P.map X)));generalize tab s.length (cv (co s) (aX (P.map X)))=om at *;refine aa (fun i S H'=>Ext H3 H'/\∃vo bo,H3.length<=bo/\Own lo 1 H' vo bo (elL ((P.take i).map E))/\∃(z:Nat->Value),S=[z 0,z 1,.slice ax P.length cx,.int .i64 (b:Nat),.pointer (some ⟨H.length,0,none⟩),z 5,z 6,z 7,.slice (some ⟨b3,0,none⟩) s.length s.length,vo,.int .i64 (i:Nat),z 11,z 12,z 13,z 14,z 15,z 16,z 17,z 18,z 19,z 20,z 21,z 22,z 23,z 24,z 25,z 26,z 27,z 28,z 29,z 30,z 31,z 32,z 33,z 34,z 35,z 36,z 37,z 38]) P.length ?_ ?_ ?_ ?_
  ·exact⟨Ext.refl _,_,H3.length,Nat.le_refl _,Own.nil byO,aR rfl⟩
  ·rintro i S H' hi ⟨hx,vo,bo,hbo,hown,z,rfl⟩
   exact⟨_,aW,by simp⟩
  ·rintro i S H4 hi ⟨hx4,vo,bo,hbo,hown,z,rfl⟩
   have hp:=vf hi;have hinj:∀j,j<P.length->(P.getD j 0=P.getD i 0↔j=i):=fun j hj=>⟨fun h=>getD_inj hP hj hi h,fun h=>by rw[h]⟩;have hx4':=hx1.mono hx4;obtain⟨yb,yo,ysp,yc,ys,ee,gy,hat,hyl⟩:=dV hx4' (by rw[hml];omega);rw[hml]at ee hat hyl;cases ee;have hatj:False\/∀j,j<P.length->ys[yo+j]?=some (.int .i64 ((X (P.getD j 0)).val:Nat)):=.inr fun j hj=>by rw[hat j hj,xD hj]
   have hati:=hatj.resolve_left id i hi;clear hat;have hlt:(P.take (i+1)).map E=(P.take i).map E++[E (P.getD i 0)]:=by rw[lG hi,List.map_append];rfl
   have hll:((P.take i).map E).length<=i:=by rw[ay₀,List.length_take];omega
   generalize P.getD i 0=p at *;have hne:=hX.ne p (hb p hp);have hnz:=K7 (b:=b) hX hP hb hp;have hEp:=hEp p hp;have g0:=hx4.get g0;have hom:=hom.mono hx4;have hl4:=hx4.1;refine aC ?_;refine aQ ?_;refine aA (kx (f:=f) (X p) hne) ?_;rintro v H5 ⟨hx5,rfl⟩;have g0:=(hx5).get g0;have gy:=(hx5).get gy;have hom:=hom.mono hx5;have hown:=hown.mono hx5;have hx5:=hx4.trans hx5;refine aC ?_;refine aQ ?_;refine aA (yL (f:=f) (X p) b byO) ?_;rintro v H6 ⟨hx6,rfl⟩;have g0:=(hx6).get g0;have gy:=(hx6).get gy;have hom:=hom.mono hx6;have hown:=hown.mono hx6;have hx6:=hx5.trans hx6;clear hx5 hl4 hati;generalize inv (X p)=y at *;have hd0:pw (X p) b=pw (X p) b*dnm X P p y 0:=by rw[Cl,mul_one]
   rw[hd0];generalize pw (X p) b=pb at *;clear hd0;refine aC ?_;refine aa (fun j S H'=>Ext H6 H'/\∃(z:Nat->Value),S=[z 0,z 1,.slice (some ⟨yb,yo,ysp⟩) P.length cx,.int .i64 (b:Nat),.pointer (some ⟨H.length,0,none⟩),z 5,z 6,z 7,.slice (some ⟨b3,0,none⟩) s.length s.length,vo,.int .i64 (i:Nat),.int .i64 (y.val:Nat),.int .i64 ((pb*dnm X P p y j).val:Nat),.int .i64 (j:Nat),z 14,z 15,z 16,z 17,z 18,z 19,z 20,z 21,z 22,z 23,z 24,z 25,z 26,z 27,z 28,z 29,z 30,z 31,z 32,z 33,z 34,z 35,z 36,z 37,z 38]) P.length ?_ ?_ ?_ ?_
   ·exact⟨Ext.refl _,aR rfl⟩
   ·rintro j S H' hj ⟨hx,z,rfl⟩
    exact⟨_,aW,by simp⟩
   ·rintro j S H7 hj ⟨hx7,z,rfl⟩
    have hatk:=hatj.resolve_left id j hj;have g0:=(hx7).get g0;have gy:=(hx7).get gy;have hl7:=hx7.1;by_cases hji:j=i
    ·have hst:=Cj (X:=X) (y:=y) hj ((hinj j hj).2 hji)
     rw[hst];clear hst hinj;subst hji;refine aC ?_;refine aS ?_ ?_<;>intro h
     ·simp at h
     clear h;refine aC ?_;exact⟨hx7,aR ncM⟩
    ·have hst:=Ck (X:=X) (y:=y) hj (fun h=>hji ((hinj j hj).1 h))
     have hst2:pb*dnm X P p y (j+1)=pb*dnm X P p y j*(1-X (P.getD j 0)*y):=by rw[hst,mul_assoc]
     rw[hst2];clear hst hst2 hinj;generalize X (P.getD j 0)=x at *;generalize pb*dnm X P p y j=D at *;refine aC ?_;refine aS ?_ ?_<;>intro h
     case refine_2=>exfalso;simp at h;omega
     clear h;(try simp only[aB]);refine aQ ?_;refine aN (fh (f:=f) x y) ?_;rintro v H8 ⟨hx8,rfl⟩;have hx8:=hx7.trans hx8;clear hatk;(try simp only[aB]);refine aQ ?_;refine aN (rD (f:=f) 1 (x*y)) ?_;rintro v H9 ⟨hx9,rfl⟩;have hx9:=hx8.trans hx9;(try simp only[aB]);refine aQ ?_;refine aA (fh (f:=f) D (1-x*y)) ?_;rintro v H10 ⟨hx10,rfl⟩;have hx10:=hx9.trans hx10;refine aC ?_;exact⟨hx10,aR ncM⟩
   ·rintro S H7 ⟨hx7,z,rfl⟩
    clear hatj hinj;generalize pb*dnm X P p y P.length=D at *;have g0:=hx7.get g0;have hom:=hom.mono hx7;have hown:=hown.mono hx7;have hx7:=hx6.trans hx7;have hl7:=hx7.1;refine aC ?_;refine aQ ?_;refine aN (EE (f:=f) (Nat.le_refl _) hom byO y) ?_;rintro v H8 ⟨hx8,rfl⟩;have hown:=hown.mono hx8;have hx8:=hx7.trans hx8;(try simp only[aB]);refine aQ ?_;refine aN (kx (f:=f) D hnz) ?_;rintro v H9 ⟨hx9,rfl⟩;have hown:=hown.mono hx9;have hx9:=hx8.trans hx9;(try simp only[aB]);refine aQ ?_;refine aA (fh (f:=f) (hor om y) (inv D)) ?_;rintro v H10 ⟨hx10,rfl⟩;rw[hEp];have hown:=hown.mono hx10;have hx10:=hx9.trans hx10;have hl10:=hx10.1;clear g0 gy hEp;refine aC ?_;refine aQ ?_;refine dG (c:=[.int .i64 ((E p).val:Nat)]) (hown.mono (Ext.app _ _)) (by simp;omega) byO byO (by rw[bq];omega) aK (by simp) rfl rfl ?_;rintro v' H11 hown9 hk9 hl9;have hEx:=Ext.app H10 [some [Value.int .i64 ((E p).val:Nat)]];simp only[as₀,ak₀,an₀]at hown9;refine aC ?_;refine⟨hk9.ext (hx10.trans hEx) hbo,v',H10.length+(0+1),byO,?_,aR ncM⟩;rw[hlt,kf];exact hown9
  ·rintro S H4 ⟨hx4,vo,bo,hbo,hown,z,rfl⟩
   rw[List.take_length]at hown;refine aC ?_;refine aT ?_;exact⟨hx3.trans hx4,Sl.ofOwn hown,NewV.own hown (Nat.le_trans hl3 hbo)⟩
end
structure Keep2 (b c:Nat)(H H':Heap):Prop where
 len:H.length<=H'.length
 eq:∀i,i<H.length->i≠b->i≠c->H'.get i=H.get i
theorem Keep2.refl(b c:Nat)(H:Heap):Keep2 b c H H:=⟨Nat.le_refl _,fun _ _ _ _=>rfl⟩
theorem Keep2.get{b c:Nat}{H H':Heap}(h:Keep2 b c H H'){i:Nat}{x:List Value}(hx:H.get i=some x)(h1:i≠b)(h2:i≠c):H'.get i=some x:=(h.eq i (Heap.get_lt hx) h1 h2).trans hx
theorem Keep2.ext{b c:Nat}{H A B:Heap}(h:Keep2 b c H A)(e:Ext A B):Keep2 b c H B:=⟨Nat.le_trans h.len e.1,fun i hi h1 h2=>(e.2 i (bc₀ hi h.len)).trans (h.eq i hi h1 h2)⟩
theorem Keep2.set1{b c:Nat}{H A:Heap}(h:Keep2 b c H A)(x:Option (List Value)):Keep2 b c H (A.set b x):=⟨by simpa using h.len,fun i hi h1 h2=>by rw[aH (Ne.symm h1)];exact h.eq i hi h1 h2⟩
theorem Keep2.set2{b c:Nat}{H A:Heap}(h:Keep2 b c H A)(x:Option (List Value)):Keep2 b c H (A.set c x):=⟨by simpa using h.len,fun i hi h1 h2=>by rw[aH (Ne.symm h2)];exact h.eq i hi h1 h2⟩
theorem Keep2.own{b c d:Nat}{H A B:Heap}(h:Keep2 b c H A)(k:Keep d A B)(hd:H.length<=d):Keep2 b c H B:=⟨Nat.le_trans h.len k.len,fun i hi h1 h2=>(k.eq i (bc₀ hi h.len) byO).trans (h.eq i hi h1 h2)⟩
theorem Keep2.toExt{b c:Nat}{A H H':Heap}(h:Keep2 b c H H')(e:Ext A H)(hb:A.length<=b)(hc:A.length<=c):Ext A H':=⟨Nat.le_trans e.1 h.len,fun i hi=>(h.eq i (bc₀ hi e.1) byO byO).trans (e.2 i hi)⟩
def tl:Nat->Stm->Stm
 | 0,s=>s
 | k+1,.seq _ b=>tl k b
 | _+1,s=>s
section
variable {f:FD}[OkC f]
theorem zA(X:Nat->El f)(er:Nat->Bool)(i:Nat):co (tab (sC er i+1) (gam X er i))=gam X er i:=iK fun j hj=>pN X er i j hj
theorem yN(φ ψ:Nat->Bool)(n:Nat):(sel φ n).filter ψ=sel (fun i=>φ i&&ψ i) n:=by
 unfold sel;rw[List.filter_filter];refine List.filter_congr fun i _=>Bool.and_comm _ _
theorem v5(g:El f)(r b:Nat)(w:List (El f))(er:Nat->Bool):(sel (cK (plc g w.length) er (cV (plc g w.length) er w.length r (syS g r b w))) w.length).filter (fun i=>decide (pG (plc g w.length) b r (syS g r b w) (sel (cK (plc g w.length) er (cV (plc g w.length) er w.length r (syS g r b w))) w.length) i≠0))=sel (fun i=>decide (co (gA g r b w er) i≠co w i)) w.length:=by
 rw[yN];refine oO fun i hi=>?_;unfold gA;rw[dL,if_pos hi];generalize pG (plc g w.length) b r (syS g r b w) (sel (cK (plc g w.length) er (cV (plc g w.length) er w.length r (syS g r b w))) w.length) i=E;cases hb:cK (plc g w.length) er (cV (plc g w.length) er w.length r (syS g r b w)) i with
 | false=>simp
 | true=>
  rw[if_pos rfl,Bool.true_and];refine decide_eq_decide.2 ⟨fun h e=>h ?_,fun h e=>h ?_⟩
  ·have h1:co w i-(co w i-E)=co w i-co w i:=by rw[e]
   have h2:co w i-(co w i-E)=E:=(show((co w i)-((co w i)-(E)))=(E) from bu [(co w i),(E)] (.add (.v 0) (.neg (.add (.v 0) (.neg (.v 1))))) (.v 1) rfl);rw[h2,sub_self]at h1;exact h1
  ·rw[e]
   exact(show((co w i)-0)=(co w i) from bu [(co w i)] (.add (.v 0) (.neg .zero)) (.v 0) rfl)
theorem yB{w:List (El f)}{P:List Nat}{E:Nat->El f}{j:Nat}(hj:j<P.length)(h:E (P.getD j 0)=0):eh w P E (j+1)=eh w P E j:=by
 unfold eh;refine ah fun i _=>?_;by_cases e:i=P.getD j 0
 ·rw[if_pos ((eG hj i).2 (.inr e)),e,h]
  have:co w (P.getD j 0)-0=co w (P.getD j 0):=(show((co w (P.getD j 0))-0)=(co w (P.getD j 0)) from bu [(co w (P.getD j 0))] (.add (.v 0) (.neg .zero)) (.v 0) rfl);rw[this];split<;>rfl
 ·by_cases h:i ∈ P.take j
  ·rw[if_pos h,if_pos ((eG hj i).2 (.inl h))]
  ·rw[if_neg h,if_neg (fun h2=>((eG hj i).1 h2).elim h e)]
theorem v3{P:List Nat}{ψ:Nat->Bool}{j:Nat}(hj:j<P.length):(P.take (j+1)).filter ψ=(P.take j).filter ψ++(if ψ (P.getD j 0)=true then[P.getD j 0] else[]):=by
 rw[lG hj,List.filter_append];congr 1;by_cases h:ψ (P.getD j 0)=true
 ·rw[if_pos h,List.filter_cons_of_pos h,List.filter_nil]
 ·rw[if_neg h,List.filter_cons_of_neg h,List.filter_nil]
set_option maxHeartbeats 8000000 in
theorem HG{g:El f}{W:List (El f)}{r b d4 d5 d19 bw n:Nat}{vc:Value}{R:Value->Heap->Prop}{S:List Value}(hS:∃(z:Nat->Value),S=[z 0,z 1,z 2,z 3,.pointer (some ⟨d4,0,none⟩),.pointer (some ⟨d5,0,none⟩),z 6,z 7,z 8,z 9,z 10,z 11,z 12,z 13,z 14,z 15,z 16,z 17,z 18,.pointer (some ⟨d19,0,none⟩),z 20,z 21,z 22,z 23,z 24,z 25,z 26,z 27,z 28,z 29,z 30,z 31,z 32,z 33,z 34,z 35,z 36,z 37,z 38,z 39,z 40,z 41,z 42,z 43,z 44,z 45,z 46,z 47,z 48,z 49,z 50,z 51,z 52,z 53,z 54,z 55,z 56,z 57,z 58])(hlo:lo<=d5)(hg:Gn (OkC.ok (f:=f)) g)(hr:r<=10000000)(hb:b<=10000000)(hn:n<=10000000)(hW:W.length=n)(gw:H.get bw=some (elL W))(g4:H.get d4=some (cdC f r b))(g5:H.get d5=some [.slice none 0 0,.slice none 0 0])(g19:H.get d19=some [.slice (some ⟨bw,0,some 1⟩) n n,vc])(h19:d19≠d5)(hvc:∃a k c,vc=.slice a k c)
  (hR:∀v H',Keep d5 H H'->(rY g r b W->v=.tuple #[.agg #[.slice (some ⟨bw,0,some 1⟩) n n,vc],.int .i64 0])->(¬ rY g r b W->v=nr 17)->R v H') :
  wpS cp lo (tl 15 uz) (eP ⟨0,0,[.node (.ld 2 true) (.cons (.var 5) .nil),.var 6],.skip,.plain⟩ R) S H:=by
 obtain⟨z,rfl⟩:=hS;unfold uz;simp only[tl,kB,aB];obtain⟨ac,kc,cc,rfl⟩:=hvc;have hl5:=Heap.get_lt g5;have hw:=bK (sp:=some 1) gw hW;refine aQ ?_;refine aA (rS (f:=f) byO hg hw byO r b byO byO) ?_;rintro v22 H1 ⟨hx1,hv⟩;have hsl:(ef g r b W).length=r:=aG _ _;have hv0:=hv;obtain⟨a2,c2,rfl⟩:=hv.len;rw[hsl]at hv0 ⊢;have g5:=(hx1).get g5;have g19:=(hx1).get g19;have hl1:=hx1.1;clear hv;refine aC ?_;refine aa (fun i S H'=>H1=H'/\(∀j,j<i->co (ef g r b W) j=0)/\∃(z:Nat->Value),S=[z 0,z 1,z 2,z 3,z 4,.pointer (some ⟨d5,0,none⟩),z 6,z 7,z 8,z 9,z 10,z 11,z 12,z 13,z 14,z 15,z 16,z 17,z 18,.pointer (some ⟨d19,0,none⟩),z 20,z 21,.slice a2 r c2,.int .i64 (i:Nat),z 24,z 25,z 26,z 27,z 28,z 29,z 30,z 31,z 32,z 33,z 34,z 35,z 36,z 37,z 38,z 39,z 40,z 41,z 42,z 43,z 44,z 45,z 46,z 47,z 48,z 49,z 50,z 51,z 52,z 53,z 54,z 55,z 56,z 57,z 58]) r ?_ ?_ ?_ ?_
 ·exact⟨rfl,fun j hj=>byO,aR rfl⟩
 ·rintro i S H' hi ⟨rfl,-,z,rfl⟩
  exact⟨_,aW,by simp⟩
 ·rintro i S H' hi ⟨rfl,hz,z,rfl⟩
  obtain⟨xb,xo,xsp,xc,xs,ee,gx,hat,hxl⟩:=dV hv0 (by rw[hsl];omega);rw[hsl]at ee hat hxl;cases ee;have hati:=hat i hi;clear hat;by_cases h0:co (ef g r b W) i=0
  ·have hz':∀j,j<i+1->co (ef g r b W) j=0:=fun j hj=>by
    by_cases e:j=i
    ·rw[e];exact h0
    ·exact hz j byO
   rw[h0,lJ]at hati;clear h0 hz;refine aC ?_;refine aS ?_ ?_<;>intro h
   ·cases h
   clear h hati;refine aC ?_;exact⟨by trivial,hz',aR ncM⟩
  ·have hno:¬ rY g r b W:=fun h=>h0 (rQ.2 h i hi)
   have hne:=fT h0;clear hz h0;generalize (co (ef g r b W) i).val=q at *;refine aC ?_;refine aS ?_ ?_<;>intro h
   case refine_2=>exfalso;simp at h;omega
   clear h hati;refine aC ?_;refine aT ?_;exact hR _ _ (dD hx1 _ _) (fun h=>absurd h hno) (fun _=>rfl)
 ·rintro S H' ⟨rfl,hz,z,rfl⟩
  have hyes:rY g r b W:=rQ.1 hz;clear hz;refine aC ?_;refine aT ?_;exact hR _ _ (dD hx1 _ _) (fun _=>rfl) (fun h=>absurd hyes h)
end
end Go.Proofs.YtmnlgdpdgjbfgaaGreat

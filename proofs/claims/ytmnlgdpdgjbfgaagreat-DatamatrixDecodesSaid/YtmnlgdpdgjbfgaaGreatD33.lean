/- Lemmas. -/
import Derived.Test.YtmnlgdpdgjbfgaaGreatD27
import Derived.Test.YtmnlgdpdgjbfgaaGreatD29
set_option linter.all false
namespace Go.Proofs.YtmnlgdpdgjbfgaaGreat
open Go.Abs Go.RS
variable{H:Heap}
set_option maxRecDepth 20000
section
variable {ch sz po r b:Int}{v:Value}{l:List Int}{lo:Nat}{H:Heap}
open XRb
end
section
variable {lo:Nat}{H0:Heap}{ch sz po r b:Int}{v:Value}{l:List Int}
end
theorem QW(a b c d e:Int):aj [1,1,1,1,1] [.int .i64 a,.int .i64 b,.int .i64 c,.int .i64 d,.int .i64 e] [.int .i64 a,.int .i64 b,.int .i64 c,.int .i64 d,.int .i64 e]=some true:=by simp[aj,jN]
def Mh(ch sz po r b:Int)(v:Value):Prop:=((¬ ∃f,OkF ch sz po f)->v=.tuple #[cdI 0 0 0 0 0,.int .i64 1])/\((∃f,OkF ch sz po f)->¬ mq ch sz po r b->v=.tuple #[cdI 0 0 0 0 0,.int .i64 3])/\(mq ch sz po r b->v=.tuple #[cdI ch sz po r b,.int .i64 0])
section
variable {lo:Nat}{H:Heap}{ch sz po r b:Int}
namespace XTd
def xtr:=zzi @Int.cast_ofNat_Int (zzi @fv.eq_1 (zzi @fvf.eq_1 (zzi @ite_self.{1} (zzi @ic (zzi @iZ (zzi @iY (zzi @cdC.eq_1 (zzi @arC.eq_1 (zzi @iU (zzi @bq (zzi @eQ (zzi @fj @QW))))))))))))
end XTd
open XTd
theorem RU(hlo:lo<=H.length)(hs2:sz<=9223372036854775807):Ev cp lo 70 [fv ch sz po,.int .i64 r,.int .i64 b] H (fun v H'=>Ext H H'/\Mh ch sz po r b v):=by
 unfold fv;refine stG rfl rfl ?_;unfold NR;simp only[kB,aB];refine aC ?_;refine aQ ?_;refine aA (EU (ch:=ch) (sz:=sz) (po:=po) hs2) ?_;rintro v H1 ⟨hx1,t1,rfl,ht1⟩;have g0:H1.get H.length=some _:=hx1.get aW;have g1:H1.get (H.length+1)=some _:=hx1.get aW;have hx1:=hx1.of_app;have hl1:=Heap.get_lt g1;cases t1 with
 | false=>
  have hno:¬ ∃f,OkF ch sz po f:=fun h=>by have:=ht1.2 h;cases this
  (try simp only[aB]);refine aS ?_ ?_<;>intro h
  case refine_2=>cases h
  clear h;refine aC ?_;refine aT ?_;exact⟨hx1.set byO,fun _=>rfl,fun h=>absurd h hno,fun h=>absurd h.1 hno⟩
 | true=>
  have hf:=ht1.1 rfl;have hsz:=uQ hf;(try simp only[aB]);refine aS ?_ ?_<;>intro h
  ·cases h
  clear h;refine aC ?_;generalize hG:H1++_=G at *;obtain⟨g2,hxG⟩:=bV hG;clear hG;have g0:=(hxG).get g0;have g1:=(hxG).get g1;have hxG:=hx1.trans hxG;have hlG:=Heap.get_lt g2;refine aQ ?_;refine aA (EG (ch:=ch) (sz:=sz) (po:=po) (r:=r) (b:=b) hs2) ?_;rintro v H2 ⟨hx2,t2,rfl,ht2⟩;have g0:=(hx2).get g0;have g1:=(hx2).get g1;have g2:=(hx2).get g2;have hx2:=hxG.trans hx2;have hl2:=Heap.get_lt g1;cases t2 with
  | false=>
   have hno:¬ mq ch sz po r b:=fun h=>by have:=ht2.2 h;cases this
   (try simp only[aB]);refine aS ?_ ?_<;>intro h
   case refine_2=>cases h
   clear h;refine aC ?_;refine aT ?_;exact⟨hx2.set byO,fun h=>absurd hf h,fun _ _=>rfl,fun h=>absurd h hno⟩
  | true=>
   have hok:mq ch sz po r b:=ht2.1 rfl;(try simp only[aB]);refine aS ?_ ?_<;>intro h
   ·cases h
   clear h;refine aC ?_;refine aT ?_;exact⟨hx2.set byO,fun h=>absurd hf h,fun _ h=>absurd hok h,fun _=>rfl⟩
end
open Go.Abs Go.RS
section
variable {f:FD}[OkC f]
open XUa
set_option maxHeartbeats 8000000 in
theorem HH{lo:Nat}{g:El f}{v:Value}{w:List (El f)}{r b bl:Nat}{er:Nat->Bool}(hlo:lo<=H.length)(hg:Gn (OkC.ok (f:=f)) g)(hc:CdOK f r b)(hw:SlE H v w)(hr1:r<w.length)(hr2:w.length<f.q)(hl:H.get bl=some (erL w.length er))(hk:sC er w.length<=r) :
  Ev cp lo 74 [cdV f r b,v,.slice (some ⟨bl,0,none⟩) w.length w.length,.int .i64 (sC er w.length:Nat)] H (fun v H'=>Ext H H'/\(¬ DecOK g r b w er->v=nr 17)/\(DecOK g r b w er->RepOK g r b w er H.length v H')):=by
 have h2:=qle (f:=f);have hc0:=hc;obtain⟨c1,c2,c3⟩:=hc;have hpl:=gC (kN hg) (dv hg) (n:=w.length) byO;have hw0:=hw;obtain⟨aw,cw,rfl⟩:=hw.len;have hbl:=Heap.get_lt hl;unfold cdV;refine stG rfl rfl ?_;unfold uz;simp only[kB,aB];refine aC ?_;generalize hG:H++_=G at *;obtain⟨g0,hxG⟩:=bV hG;have g1:G.get (H.length+1)=some [Value.slice none 0 0,Value.slice none 0 0]:=by rw[<-hG,bI];rfl
 have g2:G.get (H.length+1+1)=some [Value.int .i64 (FD.ch f:Nat),Value.int .i64 (f.q:Nat),Value.int .i64 (f.poly:Nat)]:=by rw[<-hG,show H.length+1+1=H.length+2 by rfl,bI];rfl
 clear hG;have hlG:=Heap.get_lt g2;refine aQ ?_;refine aA (rS (f:=f) byO hg (hw0.mono hxG) byO r b byO byO) ?_;rintro v8 H1 ⟨hx1,hv8⟩;have g0:=(hx1).get g0;have g1:=(hx1).get g1;have g2:=(hx1).get g2;have hx1:=hxG.trans hx1;have hl1:=hx1.1;have hsl:(ef g r b w).length=r:=aG _ _;have hcs:co (ef g r b w)=syS g r b w:=rfl;refine aC ?_;refine aQ ?_;refine aA (Gr (f:=f) (g:=g) (n:=w.length) byO hg byO) ?_;rintro v H2 ⟨hx2,b9,hb9,rfl,f9⟩;have g0:=(hx2).get g0;have g1:=(hx2).get g1;have g2:=(hx2).get g2;have hv8:=hv8.mono hx2;have hx2:=hx1.trans hx2;have hl2:=hx2.1;clear hx1 hl1;have hl9:=Heap.get_lt f9;have hv80:=hv8;obtain⟨a8,c8,rfl⟩:=hv8.len;rw[hsl]at hv80 ⊢;generalize hX:plc g w.length=X at *;have hXl:=aG w.length X;refine aC ?_;have hz:[Value.int .i64 1]=elL (tab (sC er 0+1) (gam X er 0)):=rfl;rw[hz];generalize hG:H2++_=G3 at *;obtain⟨g10,hx3⟩:=bV hG;clear hG hz;have g0:=(hx3).get g0;have g1:=(hx3).get g1;have g2:=(hx3).get g2;have f9:=(hx3).get f9;have hv80:=hv80.mono hx3;have hx3:=hx2.trans hx3;have hl3:=hx3.1;clear hx2;refine aC ?_;refine aa (fun i S H'=>Ext G3 H'/\∃bb,H'.get bb=some (elL (tab (sC er i+1) (gam X er i)))/\∃(z:Nat->Value),S=[z 0,.slice aw w.length cw,.slice (some ⟨bl,0,none⟩) w.length w.length,.int .i64 (sC er w.length:Nat),.pointer (some ⟨H.length,0,none⟩),.pointer (some ⟨H.length+1,0,none⟩),.int .i64 0,.pointer (some ⟨H.length+1+1,0,none⟩),.slice a8 r c8,.slice (some ⟨b9,0,none⟩) w.length w.length,.slice (some ⟨bb,0,none⟩) (sC er i+1) (sC er i+1),.int .i64 (i:Nat),z 12,z 13,z 14,z 15,z 16,z 17,z 18,z 19,z 20,z 21,z 22,z 23,z 24,z 25,z 26,z 27,z 28,z 29,z 30,z 31,z 32,z 33,z 34,z 35,z 36,z 37,z 38,z 39,z 40,z 41,z 42,z 43,z 44,z 45,z 46,z 47,z 48,z 49,z 50,z 51,z 52,z 53,z 54,z 55,z 56,z 57,z 58]) w.length ?_ ?_ ?_ ?_
 ·exact⟨Ext.refl _,_,g10,aR rfl⟩
 ·rintro i S H' hi ⟨hx,bb,fb,z,rfl⟩
  exact⟨_,aW,by simp⟩
 ·clear g10
  rintro i S H4 hi ⟨hx4,bb,fb,z,rfl⟩;have hl4:=hx4.1;have g0:=(hx4).get g0;have g1:=(hx4).get g1;have g2:=(hx4).get g2;have f9:=(hx4).get f9;have hlt:=(hx3.trans hx4).get hl;have hsu:=jJ er i;have hgs:gam X er (i+1)=if er i=true then cv (lin (X i)) (gam X er i) else gam X er i:=rfl
  have hsle:=ft er i;refine aC ?_;cases hek:er i with
  | false=>
   rw[hek,if_neg (by simp)]at hsu hgs;rw[hsu,hgs,Nat.add_zero];clear hsu hgs;refine aS ?_ ?_<;>intro h
   ·cases h
   clear h hek;refine aC ?_;exact⟨hx4,bb,fb,aR ncM⟩
  | true=>
   rw[hek,if_pos rfl]at hsu hgs;rw[hsu];have hXi:(tab w.length X).getD i 0=X i:=eW hi;have hnx:cv (co (tab (sC er i+1) (gam X er i))) (co [1,-X i])=gam X er (i+1):=by rw[zA,CL,hgs,dS]
   have htl:=aG (sC er i+1) (gam X er i);generalize sC er i=q at *;have hi1:(((q+1:Nat):Int)+1)=((q+2:Nat):Int):=byO;generalize tab (q+1) (gam X er i)=A at *;clear hsu hgs;generalize gam X er (i+1)=L2 at *;refine aS ?_ ?_<;>intro h
   case refine_2=>cases h
   clear h hek;(try simp only[aB]);refine aQ ?_;refine aN (rD (0:El f) (X i)) ?_;rintro v H5 ⟨hx5,rfl⟩;rw[na];have fb:=hx5.get fb;have hx5:=hx4.trans hx5;have hl5:=hx5.1;generalize X i=x at *;clear g0 g1 g2;refine aC ?_;refine aQ ?_;have hs1:=bK (sp:=none) fb htl;have hs2:SlE (H5++[some [Value.int .i64 1,Value.int .i64 ((-x).val:Nat)]]) (.slice (some ⟨H5.length,0,none⟩) 2 2) [(1:El f),-x]:=bK (l:=[(1:El f),-x]) aK rfl;refine aA (nT (by simp;omega) (hs1.mono (Ext.app _ _)) hs2 (by rw[htl];omega) (by simp) (q+2) byO) ?_;rintro v H6 ⟨hx6,b4,hb4,rfl,f4⟩;have hmin:min (q+2) (A.length+[(1:El f),-x].length-1)=q+2:=by rw[htl];simp
   rw[hmin]at f4 ⊢;rw[hnx]at f4;have hx6:=hx5.trans hx6.of_app;clear hi1;refine aC ?_;exact⟨hx6,b4,f4,aR ncM⟩
 ·rintro S H4 ⟨hx4,bb,fb,z,rfl⟩
  have hx34:=hx3.trans hx4;subst hX;refine HD (f:=f) (g:=g) (aR rfl) byO hg hc0 hr1 hr2 hk (hw0.mono hx34) (hx4.get g0) (hx4.get g1) (hx4.get g2) (hv80.mono hx4) (hx4.get f9) fb (hx34.get hl) ?_;intro v H' k h1 h3;exact⟨(Keep.ext k hx34 byO),h1,fun h=>(h3 h).le byO⟩
end
section
variable {ch sz po r b:Int}{v ve:Value}{l:List Int}{lo:Nat}{H:Heap}
open XUa
end
open XUa
theorem w5{α:Type}{enc:α->Value}(henc:∀x,enc x≠.slice none 0 0){v:Value}{l:List α}{d:Nat}{x y:Value}(h:Sl enc H v l)(hd:H.get d=some [.slice none 0 0,.slice none 0 0]):Sl enc (H.set d (some [x,y])) v l:=by
 rcases h with h|⟨b,o,sp,cap,xs,h1,h2,h3,h4,h5⟩
 ·exact .inl h
 ·by_cases e:b=d
  ·subst e
   have:xs=[.slice none 0 0,.slice none 0 0]:=by rw[h2]at hd;exact Option.some.inj hd
   subst this;cases l with
   | nil=>exact .inr ⟨b,o,sp,cap,_,h1,aF (Heap.get_lt h2),by simp,by simpa using h4,h5⟩
   | cons a l=>
    exfalso;have h6:(([.slice none 0 0,.slice none 0 0]:List Value).drop o)[0]?=some (enc a):=by
     have:=congrArg (·[0]?) h3;simpa[List.getElem?_take]using this
    rw[List.getElem?_drop]at h6
    match o,h6 with
    | 0,h6=>simp at h6;exact henc a h6.symm
    | 1,h6=>simp at h6;exact henc a h6.symm
    | o+2,h6=>simp at h6
  ·exact .inr ⟨b,o,sp,cap,xs,h1,by rw[aH (fun h=>e h.symm)];exact h2,h3,h4,h5⟩
section
variable {f:FD}[OkC f]
set_option maxHeartbeats 4000000 in
theorem F0{lo:Nat}{g:El f}{v ve:Value}{w:List (El f)}{e:List Int}{r b:Nat}(hlo:lo<=H.length)(hg:Gn (OkC.ok (f:=f)) g)(hc:CdOK f r b)(hw:SlE H v w)(hwl:w.length<=10000000)(he:SlI H ve e)(hel:e.length<=10000000) :
  Ev cp lo 37 [cdV f r b,v,ve] H (fun v H'=>Ext H H'/\(¬ inR w.length e->v=nr 1)/\(inR w.length e->¬ (r<w.length/\w.length<f.q)->v=nr 7)/\(inR w.length e->r<w.length->w.length<f.q->¬ DecOK g r b w (erI e)->v=nr 17)
   /\ (inR w.length e->r<w.length->w.length<f.q->DecOK g r b w (erI e)->RepOK g r b w (erI e) H.length v H')):=by
 have h2:=qle (f:=f);have hw0:=hw;have he0:=he;have hok:=zX hc;have hc0:=hc;obtain⟨c1,c2,c3⟩:=hc;obtain⟨aw,cw,rfl⟩:=hw.len;obtain⟨ae,ce,rfl⟩:=he.len;unfold cdV;refine stG rfl rfl ?_;unfold NA;simp only[kB,aB];refine aC ?_;refine aQ ?_;refine aA (EG (ch:=FD.ch f) (sz:=f.q) (po:=f.poly) (r:=r) (b:=b) byO) ?_;rintro v H1 ⟨hx1,t,rfl,ht⟩;have g0:H1.get H.length=some _:=hx1.get aW;have g1:H1.get (H.length+1)=some _:=hx1.get aW;have hx1:=hx1.of_app;have htt:t=true:=ht.2 hok;subst htt;clear ht;have hin:=vr w;(try simp only[aB]);refine bP (t:=true) aW gZ nh (fun _=>⟨_,aW,?_⟩) (fun h=>by cases h);refine aA (BO (ch:=FD.ch f) (sz:=f.q) (po:=f.poly) (zt (hw0.mono hx1)) (by rw[wh];omega)) ?_;rintro v H2 ⟨hx2,rfl⟩;rw[hin];clear hin;have g0:=(hx2).get g0;have g1:=(hx2).get g1;have hx2:=hx1.trans hx2;have hl2:=Heap.get_lt g1;clear hx1;(try simp only[aB]);refine aS ?_ ?_<;>intro h
 ·cases h
 clear h;refine aC ?_;refine aa (fun i S H'=>H2=H'/\inR w.length (e.take i)/\∃(z:Nat->Value),S=[z 0,.slice aw w.length cw,.slice ae e.length ce,.pointer (some ⟨H.length,0,none⟩),.pointer (some ⟨H.length+1,0,none⟩),z 5,.int .i64 (i:Nat),z 7,z 8,z 9,z 10,z 11,z 12,z 13,z 14]) e.length ?_ ?_ ?_ ?_
 ·exact⟨rfl,by simp[inR],aR rfl⟩
 ·rintro i S H' hi ⟨rfl,-,z,rfl⟩
  exact⟨_,aW,by simp⟩
 ·rintro i S H' hi ⟨rfl,hin,z,rfl⟩
  obtain⟨xb,xo,xsp,xc,xs,ee,gx,hat,hxl⟩:=(he0.mono hx2).els 0 byO;cases ee;have hati:=hat i hi;have hm:e.getD i 0 ∈ e:=by rw[au₀,bb₀ hi];exact List.getElem_mem hi
  have hts:e.take (i+1)=e.take i++[e.getD i 0]:=by rw[List.take_add_one,bb₀ hi,au₀,bb₀ hi];rfl
  clear hat;generalize e.getD i 0=x at *;refine aC ?_;refine aS ?_ ?_<;>intro h
  ·have hno:¬ inR w.length e:=fun h3=>by have:=h3 _ hm;simp at h;omega
   clear h;refine aC ?_;refine aT ?_;exact⟨hx2.set byO,fun _=>rfl,fun h=>absurd h hno,fun h=>absurd h hno,fun h=>absurd h hno⟩
  ·have hx:0<=x/\x<w.length:=by simp at h;omega
   clear h;refine aC ?_;refine⟨by trivial,?_,aR ncM⟩;intro y hy;rw[hts]at hy;rcases List.mem_append.1 hy with h|h
   ·exact hin y h
   ·rw[List.mem_singleton.1 h];exact hx
 ·rintro S H' ⟨rfl,hin,z,rfl⟩
  rw[List.take_length]at hin;by_cases hlong:r<w.length/\w.length<f.q
  case neg=>
   (try simp only[aB]);refine aS ?_ ?_<;>intro h
   case refine_2=>exfalso;simp at h;omega
   clear h;refine aC ?_;refine aT ?_;exact⟨hx2.set byO,fun h=>absurd hin h,fun _ _=>rfl,fun _ h1 h2=>absurd ⟨h1,h2⟩ hlong,fun _ h1 h2=>absurd ⟨h1,h2⟩ hlong⟩
  case pos=>
   (try simp only[aB]);refine aS ?_ ?_<;>intro h
   ·exfalso;simp at h;omega
   clear h;(try simp only[aB]);refine aQ ?_;refine aA (LZ byO byO (he0.mono hx2) byO hin) ?_;rintro v H3 ⟨hx3,bm,hbm,rfl,gm⟩;have g0:=(hx3).get g0;have g1:=(hx3).get g1;have hx3:=hx2.trans hx3;have hl3:=Heap.get_lt g1;have hsk:=ft (erI e) w.length;by_cases hcap:sC (erI e) w.length<=r
   case neg=>
    have hno:¬ DecOK g r b w (erI e):=fun h=>hcap h.few;generalize sC (erI e) w.length=k at *;refine aC ?_;refine aS ?_ ?_<;>intro h
    case refine_2=>exfalso;simp at h;omega
    clear h;refine aC ?_;refine aT ?_;exact⟨hx3.set byO,fun h=>absurd hin h,fun _ h=>absurd hlong h,fun _ _ _ _=>rfl,fun _ _ _ h=>absurd h hno⟩
   case pos=>
    refine aC ?_;refine aS ?_ ?_<;>intro h
    ·exfalso;simp at h;omega
    clear h;(try simp only[aB]);refine aQ ?_;refine aA (HH (f:=f) byO hg hc0 (hw0.mono hx3) hlong.1 hlong.2 gm hcap) ?_;rintro v H4 ⟨hx4,hn4,hy4⟩;have g1:=hx4.get g1;have hx4:=hx3.trans hx4;have hl4:=Heap.get_lt g1;by_cases hd:DecOK g r b w (erI e)
    ·obtain⟨vw,vc,rfl,hvw,hvc,hnw⟩:=hy4 hd
     have hvw0:=hvw;have hvc0:=hvc;obtain⟨a1,k1,rfl⟩:=hvw.len;obtain⟨a2,k2,rfl⟩:=hvc.len;have hfl:=j0 g r b w (erI e);clear hn4 hy4 gm g0;refine aC ?_;refine aT ?_;refine⟨hx4.set byO,fun h=>absurd hin h,fun _ h=>absurd hlong h,fun _ _ _ h=>absurd hd h,fun _ _ _ _=>⟨_,_,rfl,?_,?_,?_⟩⟩
     ·have:=w5 (x:=.slice a1 (gA g r b w (erI e)).length k1) (y:=.slice a2 (sel (fun i=>decide (co (gA g r b w (erI e)) i≠co w i)) w.length).length k2) (fun x=>by unfold pF;simp) hvw0 g1
      rw[hfl]at this;exact this
     ·have:=w5 (x:=.slice a1 (gA g r b w (erI e)).length k1) (y:=.slice a2 (sel (fun i=>decide (co (gA g r b w (erI e)) i≠co w i)) w.length).length k2) (fun x=>by unfold qG;simp) hvc0 g1
      rw[hfl]at this;exact this
     ·rw[hfl]at hnw
      exact fun b o sp k c e=>Nat.le_trans hx3.1 (hnw b o sp k c e)
    ·rw[hn4 hd]
     clear hn4 hy4 gm g0;unfold nr;refine aC ?_;refine aT ?_;exact⟨hx4.set byO,fun h=>absurd hin h,fun _ h=>absurd hlong h,fun _ _ _ _=>rfl,fun _ _ _ h=>absurd h hd⟩
end
end Go.Proofs.YtmnlgdpdgjbfgaaGreat

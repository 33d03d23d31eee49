/- Lemmas. -/
import Derived.Test.YtgiojnobcjnibaaGreatDoorH18
set_option linter.all false
theorem Ws{P:Prop}(h:P:=by simp at h;omega):P:=h
def Wz{P:Prop}(h:P:=by first|rfl|(subst_vars;rfl)|(have d:=e.1;subst d;rfl)):P:=h
def Xa{P:Prop}(h:P:=by simp only[ai₀,Bool.and_eq_false_iff]at h;omega):P:=h
def Xe{P:Prop}(h:P:=by simp only[af₀,ac₀]at h;omega):P:=h
def Xp{P:Prop}(h:P:=by simp only[Bool.and_eq_false_iff,ai₀]at h;omega):P:=h
def XB{P:Prop}(h:P:=by simp only[ac₀,af₀]at h;omega):P:=h
def XT{P:Prop}(h:P:=by simp[aR]):P:=h
def X7{P:Prop}(h:P:=by unfold chS;split<;>simp):P:=h
def Xt{P:Prop}(h:P:=by rw[au₀,bc₀ hi];exact List.getElem_mem hi):P:=h
namespace Go.Proofs.YtgiojnobcjnibaaGreatDoor
open Go.Abs
variable{H:Heap}{lo:Nat}{S:XV}{n:Nat}
set_option maxRecDepth 20000
def og{lo n:Nat}{vs:XV}{f:FuncId}{a b:Array Value}{args:XV}{R:Wq}(e:vs.drop n=.func (.func f) a b::args)(h:Ev cp lo f (a.toList++args++b.toList) H λv H'=>(vs.take n).all (iI H H')=true/\R v H'):wpH cp lo (.callK n) vs H R:=by grind[wpH]
def tu{H H':Heap}{b o:Nat}{sp:Option Nat}{c r:XV}(a:H.get b=some c)(d:H'.get b=some c):((Value.pointer (some ⟨b,o,sp⟩)::r).take 1).all (iI H H')=true:=by simp[List.all_nil];exact oi.2 ⟨c,a,d⟩
open XCSg
def Gk{sub a v:Nat}(b:lo<=H.length)(c:sub<4)(d:a<3)(f:v<30) :
  Ev cp lo 206 [stV sub a,.int .i64 v] H λr H'=>Ext H H'/\r=stV (Gu sub a v).1 (Gu sub a v).2:=by
 unfold Gu stV;apply stG rfl rfl;unfold Nc;simp only[kB,aC];refine aA ?_;refine aA ?_;refine aK ?_ ?_<;>intro h
 .have e:sub=0:=Wt
  clear h;rw[if_pos e];refine aA ?_;refine aK ?_ ?_<;>intro h
  .have e:v=27:=Wt
   clear h;rw[if_pos e];refine aA ?_;refine aL ?_
   first|exact⟨Ext.app _ _,Wv⟩|exact⟨(Ext.app _ _).set byO,Wv⟩
  .have e:¬ (v=27):=Wu
   clear h;rw[if_neg e];refine aA ?_;refine aK ?_ ?_<;>intro h
   .have e:v=28:=Wt
    clear h;rw[if_pos e];refine aA ?_;refine aL ?_
    first|exact⟨Ext.app _ _,Wv⟩|exact⟨(Ext.app _ _).set byO,Wv⟩
   .have e:¬ (v=28):=Wu
    clear h;rw[if_neg e];refine aA ?_;refine aL ?_
    first|exact⟨Ext.app _ _,Wv⟩|exact⟨(Ext.app _ _).set byO,Wv⟩
 .have e:¬ (sub=0):=Wu
  clear h;rw[if_neg e];refine aA ?_;refine aK ?_ ?_<;>intro h
  .have e:sub=1:=Wt
   clear h;rw[if_pos e];refine aA ?_;refine aK ?_ ?_<;>intro h
   .have e:v=27:=Wt
    clear h;rw[if_pos e];refine aA ?_;refine aL ?_
    first|exact⟨Ext.app _ _,Wv⟩|exact⟨(Ext.app _ _).set byO,Wv⟩
   .have e:¬ (v=27):=Wu
    clear h;rw[if_neg e];refine aA ?_;refine aK ?_ ?_<;>intro h
    .have e:v=28:=Wt
     clear h;rw[if_pos e];refine aA ?_;refine aL ?_
     first|exact⟨Ext.app _ _,Wv⟩|exact⟨(Ext.app _ _).set byO,Wv⟩
    .have e:¬ (v=28):=Wu
     clear h;rw[if_neg e];refine aA ?_;refine aL ?_
     first|exact⟨Ext.app _ _,Wv⟩|exact⟨(Ext.app _ _).set byO,Wv⟩
  .have e:¬ (sub=1):=Wu
   clear h;rw[if_neg e];refine aA ?_;refine aK ?_ ?_<;>intro h
   .have e:sub=2:=Wt
    clear h;rw[if_pos e];refine aA ?_;refine aK ?_ ?_<;>intro h
    .have e:v=25:=Wt
     clear h;rw[if_pos e];refine aA ?_;refine aL ?_
     first|exact⟨Ext.app _ _,Wv⟩|exact⟨(Ext.app _ _).set byO,Wv⟩
    .have e:¬ (v=25):=Wu
     clear h;rw[if_neg e];refine aA ?_;refine aK ?_ ?_<;>intro h
     .have e:v=27:=Wt
      clear h;rw[if_pos e];refine aA ?_;refine aL ?_
      first|exact⟨Ext.app _ _,Wv⟩|exact⟨(Ext.app _ _).set byO,Wv⟩
     .have e:¬ (v=27):=Wu
      clear h;rw[if_neg e];refine aA ?_;refine aK ?_ ?_<;>intro h
      .have e:v=28:=Wt
       clear h;rw[if_pos e];refine aA ?_;refine aL ?_
       first|exact⟨Ext.app _ _,Wv⟩|exact⟨(Ext.app _ _).set byO,Wv⟩
      .have e:¬ (v=28):=Wu
       clear h;rw[if_neg e];refine aA ?_;refine aL ?_
       first|exact⟨Ext.app _ _,Wv⟩|exact⟨(Ext.app _ _).set byO,Wv⟩
   .have e:¬ (sub=2):=Wu
    clear h;rw[if_neg e];refine aA ?_;refine aL ?_
    first|exact⟨Ext.app _ _,Wv⟩|exact⟨(Ext.app _ _).set byO,Wv⟩
def xk{b v:Nat}(c:b<=255)(a:v<30) :
  Ev cp lo 205 [.int .i64 b,.int .i64 v] H λr H'=>H'=H/\r=.int .i64 (IP b v):=by
 unfold IP;apply stG rfl rfl;unfold Nb;simp[kB,aC];refine aA ?_;refine aK ?_ ?_<;>intro h
 .have e:v=26:=Xx
  rw[if_pos e];refine aA ?_;refine aL ?_;exact⟨rfl,rfl⟩
 .have e:¬ v=26:=Xy
  rw[if_neg e];refine aA ?_;refine aL ?_;exact⟨rfl,XT⟩
def Lu:((List.range 4).all λa=>(List.range 3).all λb=>(List.range 30).all λv=>decide<|rdS a b v=stp a b v)=true:=Wf
def Qf{sub a v:Nat}(b:sub<4)(c:a<3)(d:v<30):rdS sub a v=stp sub a v:=by
 have:=List.all_eq_true.1 Lu sub<|List.mem_range.2 b
 simp_all
def TA{sub a v:Nat}(u:lo<=H.length)(p:sub<4)(q:a<3)(s:v<30) :
  Ev cp lo 187 [stV sub a,.int .i64 v] H λr H'=>Ext H H'/\r=Iz sub a v:=by
 have w:∀b:UInt8,IntKind.i64.wrap (b.toNat:Int)=(b.toNat:Int):=λb=>wrap_i64 byO (by have:=b.toNat_lt;omega);unfold Iz rdS;have m:stV sub a=.agg #[.int .i64 sub,.int .i64 a]:=rfl;rw[m];clear m;refine stG rfl rfl ?_;unfold NW;simp only[kB,aC];refine aA ?_;refine aK ?_ ?_<;>intro h
 .have e:a=1:=Xe
  clear h;rw[if_pos e];refine aA ?_;refine aK ?_ ?_<;>intro h
  .have e:29<=v:=Xe
   clear h;rw[if_pos e];refine aA ?_;refine aL ?_;exact⟨Ext.app _ _,Wz⟩
  .have e:¬ (29<=v):=Xa
   clear h;rw[if_neg e];have k:∀G,aG .idxS [.string ⟨#[59,60,62,64,91,92,93,95,96,126,33,13,9,44,58,10,45,46,36,47,34,124,42,40,41,63,123,125,39]⟩,.int .i64 v] G=some (.int .u8 ((punT.getD v 0).toNat:Nat)):=λG=>fV (l:=punT) X4;refine aA ?_;refine aL ?_;exact⟨Ext.app _ _,Wz⟩
 .have e:¬ (a=1):=Xa
  clear h;rw[if_neg e];refine aA ?_;refine aK ?_ ?_<;>intro h
  .have e:a=2:=Xe
   clear h;rw[if_pos e];refine aA ?_;refine aK ?_ ?_<;>intro h
   .have e:26<v:=Xe
    clear h;rw[if_pos e];refine aA ?_;refine aL ?_;exact⟨Ext.app _ _,Wz⟩
   .have e:¬ (26<v):=Xa
    clear h;rw[if_neg e];refine aA ?_;refine ay ?_;refine og rfl<|(xk (b:=65) byO byO).mono ?_;rintro r i ⟨rfl,rfl⟩;refine⟨tu (c:=[.int .i64 _,.int .i64 _]) eU eU,?_⟩;refine aA ?_;refine aL ?_;exact⟨Ext.app _ _,Wz⟩
  .have e:¬ (a=2):=Xa
   clear h;rw[if_neg e];refine aA ?_;refine aK ?_ ?_<;>intro h
   .have e:sub=0/\v<=26:=Xe
    clear h;rw[if_pos e];refine aA ?_;refine ay ?_;refine og rfl<|(xk (b:=65) byO byO).mono ?_;rintro r i ⟨rfl,rfl⟩;refine⟨tu (c:=[.int .i64 _,.int .i64 _]) eU eU,?_⟩;refine aA ?_;refine aL ?_;exact⟨Ext.app _ _,Wz⟩
   .have e:¬ (sub=0/\v<=26):=Xa
    clear h;rw[if_neg e];refine aA ?_;refine aK ?_ ?_<;>intro h
    .have e:sub=1/\v<=26:=Xe
     clear h;rw[if_pos e];refine aA ?_;refine ay ?_;refine og rfl<|(xk (b:=97) byO byO).mono ?_;rintro r i ⟨rfl,rfl⟩;refine⟨tu (c:=[.int .i64 _,.int .i64 _]) eU eU,?_⟩;refine aA ?_;refine aL ?_;exact⟨Ext.app _ _,Wz⟩
    .have e:¬ (sub=1/\v<=26):=Xa
     clear h;rw[if_neg e];refine aA ?_;refine aK ?_ ?_<;>intro h
     .have e:sub=2/\v<25:=Xe
      clear h;rw[if_pos e];have k:∀G,aG .idxS [.string ⟨#[48,49,50,51,52,53,54,55,56,57,38,13,9,44,58,35,45,46,36,47,43,37,42,61,94]⟩,.int .i64 v] G=some (.int .u8 ((mixT.getD v 0).toNat:Nat)):=λG=>fV (l:=mixT) (by simp[mixT];omega);refine aA ?_;refine aL ?_;exact⟨Ext.app _ _,Wz⟩
     .have e:¬ (sub=2/\v<25):=Xa
      clear h;rw[if_neg e];refine aA ?_;refine aK ?_ ?_<;>intro h
      .have e:sub=2/\v=26:=Xe
       clear h;rw[if_pos e];refine aA ?_;refine aL ?_;exact⟨Ext.app _ _,Wz⟩
      .have e:¬ (sub=2/\v=26):=Xa
       clear h;rw[if_neg e];refine aA ?_;refine aK ?_ ?_<;>intro h
       .have e:sub=3/\v<29:=Xe
        clear h;rw[if_pos e];have k:∀G,aG .idxS [.string ⟨#[59,60,62,64,91,92,93,95,96,126,33,13,9,44,58,10,45,46,36,47,34,124,42,40,41,63,123,125,39]⟩,.int .i64 v] G=some (.int .u8 ((punT.getD v 0).toNat:Nat)):=λG=>fV (l:=punT) X4;refine aA ?_;refine aL ?_;exact⟨Ext.app _ _,Wz⟩
       .have e:¬ (sub=3/\v<29):=Xa
        clear h;rw[if_neg e];refine aA ?_;refine ay ?_;refine aB (Gk Wr p q s) ?_;rintro r i ⟨f,rfl⟩;have o:i.get (H.length+1)=some [.int .i64 0,.int .i64 0]:=f.get (by rw[dv];simp);have g:Ext H<|H++[some [.int .i64 sub,.int .i64 a],some [.int .i64 0,.int .i64 0],some [.int .i64 sub,.int .i64 0]]:=Ext.app _ _;have j:=g.trans f;have t:=Heap.get_lt o;clear g f;unfold stV;refine aA ?_;refine aL ?_;exact⟨j.set byO,rfl⟩
def EvE(cp:Wl)(lo:Nat)(f:FuncId)(args:XV)(H:Heap)(R K:Wq):Prop:=Ev cp lo f args H R\/EvP cp lo f args H K
def ql(cf:CF)(R K:Wq):cF:=λex S H=>match ex with
 | .exit j=>j=bN/\match S with
  | p::_=>K p H
  | []=>False
 | ex=>gB cf R ex S H
section
variable {cp:Wl}{lo:Nat}
def kg{f:FuncId}{cf:CF}{args:XV}{R K:Wq}(l:cp f=some cf)(t:cf.kind=.plain)(o:args.length=cf.np)
  (h:wpS cp lo cf.body (ql cf R K) (args++List.replicate (cf.ns-cf.np) undef) H):EvE cp lo f args H R K:=by
 have⟨N,b,e,H',g,a⟩:=fg _ _ _ _ h;have c:∀(b:Ex),(b=.normal\/b=.ret)->(∀n,N<=n->exec (run cp n) lo n cf.body (args++List.replicate (cf.ns-cf.np) undef) H=some (b,e,H'))->gB cf R b e H'->Ev cp lo f args H R:=by
  intro b i g a;have k:match evList e H' cf.res with|some vs=>R (aR vs) H'|none=>False:=by
   rcases i with rfl|rfl<;>exact a
  split at k
  next vs q=>
   refine⟨N+1,aR vs,H',λn m=>?_,k⟩;obtain⟨d,rfl⟩:∃d,n=d+1:=⟨n-1,byO⟩
   grind[run]
  simp_all
 cases b with
 | normal=>exact .inl<|c .normal (.inl rfl) g a
 | ret=>exact .inl<|c .ret (.inr rfl) g a
 | exit j=>
  have⟨s,a⟩:=a;cases e with
  | nil=>exact a.elim
  | cons p r=>
   refine .inr ⟨N+1,p,H',λn m=>?_,a⟩;obtain⟨d,rfl⟩:∃d,n=d+1:=⟨n-1,byO⟩
   grind[run]
def jf{l:List<|Nat×E}{d:List E}{dst:Option Nat}{a:E}{Q:cF}{vs:List<|Nat×Value}{f:FuncId}{b c:Array Value}{args:XV}{R K:Wq}
  (h:evSets S H l=some vs) (i:evChk S H d=true) (g:ev S H a=some (.func (.func f) b c::args))
  (e:EvE cp lo f (b.toList++args++c.toList) H R K) (k:∀v H',R v H'->Q .normal (setD (setAll S vs) dst v) H') (j:∀v H',K v H'->Q (.exit bN) (v::setAll S vs) H'):wpS cp lo (.hv l d [] dst (.call false) a) Q S H:=by
 rcases e with e|e
 all_goals grind[yk,aB,kO,Jk]
theorem dE{i:Nat}{Q:cF}(h:i<999999):kP i Q (.exit bN) S H=Q (.exit bN) S H:=by grind[bN,ot]
def eL{cf:CF}{R K:Wq}{p:Value}(h:K p H):ql cf R K (.exit bN) (p::S) H:=⟨rfl,h⟩
def gn{cf:CF}{R K:Wq}(h:gB cf R .normal S H):ql cf R K .normal S H:=h
end
def W0{R K:Wq}{a:Value}(h:wpS cpx lo Oc (ql Ap R K) [a,undef] H):EvE cpx lo 96 [a] H R K:=kg (cf:=Ap) rfl rfl rfl h
def Ud{R K:Wq}{a b:Value}(h:wpS cpx lo Fw (ql yq R K) [a,b,undef,undef,undef,undef,undef,undef,undef,undef,undef,undef,undef] H):EvE cpx lo 139 [a,b] H R K:=kg (cf:=yq) rfl rfl rfl h
def Ue{R K:Wq}{a:Value}(h:wpS cpx lo Fx (ql CO R K) [a,undef,undef,undef,undef,undef] H):EvE cpx lo 140 [a] H R K:=kg (cf:=CO) rfl rfl rfl h
def Uf{R K:Wq}{a b:Value}(h:wpS cpx lo Fy (ql vV R K) [a,b,undef,undef,undef,undef,undef,undef,undef,undef] H):EvE cpx lo 141 [a,b] H R K:=kg (cf:=vV) rfl rfl rfl h
def Ug{R K:Wq}{a b c:Value}(h:wpS cpx lo GB (ql CP R K) [a,b,c,undef,undef,undef,undef,undef,undef,undef,undef,undef,undef,undef,undef,undef,undef,undef,undef,undef,undef] H):EvE cpx lo 188 [a,b,c] H R K:=kg (cf:=CP) rfl rfl rfl h
def MK:((List.range 4).all λa=>(List.range 3).all λb=>(List.range 30).all λv=>match stp a b v with
  | some (c,x,y)=>decide (-1<=c)&&(decide (c<=255)&&(decide (x<4)&&decide (y<3)))
  | none=>true)=true:=Wf
def qf{sub a v:Nat}(b:sub<4)(d:a<3)(e:v<30){c:Int}{x y:Nat}(h:stp sub a v=some (c,x,y)):-1<=c/\c<=255/\x<4/\y<3:=by
 have:=List.all_eq_true.1 MK sub<|List.mem_range.2 b;have:=List.all_eq_true.1 this a<|List.mem_range.2 d
 grind
def chS(c:Int):XU:=if 0<=c then[UInt8.ofNat c.toNat] else[]
def DecSt(H0:Heap)(lo:Nat)(H:Heap)(b:Nat)(wv:Value)(pos sub shift:Nat)(out:XU):Prop:=
 Ext H0 H/\H0.length<=b/\lo<=b/\∃ov bo,H0.length<=bo/\bo≠b/\H.get b=some [wv,.int .i64 pos,.int .i64 sub,.int .i64 shift,ov]/\Own lo 1 H ov bo (out.map bT)
def Aj(n:Int):Value:=.iface 169<|.agg #[.int .i64 n]
def gK{d:Value}{q b:Nat}{c:XV}{v:Option XV}(h:Own lo 1 H d q c)(f:q≠b):Own lo 1 (H.set b v) d q c:=by
 obtain⟨e,a|⟨m,a,g,i,j⟩⟩:=h
 .exact⟨e,.inl a⟩
 .exact⟨e,.inr ⟨m,a,g,i,by grind[aQ]⟩⟩
def Jc{L:Heap}{b:Nat}{wv:Value}{pos sub a v:Nat}{j:XU}(q0:lo<=H.length)(Y:DecSt L lo H b wv pos sub a j)(hw:wv.oneCell'=true)(O:sub<4)(P:a<3)(Q:v<30)(h0:j.length<=1000000) :
  EvE cpx lo 139 [.pointer<|some ⟨b,0,none⟩,.int .i64 v] H (λr H'=>∃c x y,stp sub a v=some (c,x,y)/\DecSt L lo H' b wv pos x y (j++chS c)) λp H'=>stp sub a v=none/\p=Aj 22/\Ext L H':=by
 obtain⟨Z,hb,I,ov,k,l,g,M,N⟩:=Y;have X:=Qf O P Q;have j0:=Heap.get_lt M;apply Ud;unfold Fw;simp only[kB,aC];refine aA ?_;refine ay ?_;apply aB ((TA byO O P Q).sub D4);unfold Iz;rw[X];rintro r e ⟨d,rfl⟩;cases hs:stp sub a v with
 | none=>
  have i:=Z.trans d;have u:=d.get M;have A:=d.1;refine aA ?_;refine aK ?_ ?_<;>intro h
  .clear h
   apply kO aM dY aM;apply jS
   (repeat (first|rw[dE Wd]|simp only[fH,dt,fX]));apply eL
   exact⟨We,rfl,i.trans<|Ext.app _ _⟩
  .simp at h
 | some q=>
 obtain⟨c,x,y⟩:=q;have s0:=qf O P Q hs;have u:=d.get M;have A:=d.1;unfold stV;refine aA ?_;refine aK ?_ ?_<;>intro h
 .simp at h
 clear h;(try simp only[aC]);have C:=Ext.app e [some [Value.int .i64 x,Value.int .i64 y]];have G:Heap.get (e++[some [Value.int .i64 x,Value.int .i64 y]]) e.length=some [.int .i64 x,.int .i64 y]:=aX e _;have w:=C.get u;have W:(e++[some [Value.int .i64 x,Value.int .i64 y]]).length=e.length+1:=Wc
 generalize e++[some [Value.int .i64 x,Value.int .i64 y]]=s at *;have i:=(Z.trans d).trans C;obtain⟨k,l,g,N,r0⟩:∃k,L.length<=k/\k≠b/\Own lo 1 H ov k (j.map bT)/\(k<H.length\/e.length+3<=k):=by
  obtain⟨q1,⟨q2,q3⟩|⟨m,q2,q3,q4,q5⟩⟩:=N
  .have:=Z.1
   exact⟨e.length+3,byO,byO,⟨byO,.inl ⟨q2,q3⟩⟩,.inr<|Nat.le_refl _⟩
  .exact⟨k,l,g,⟨q1,.inr ⟨m,q2,q3,q4,q5⟩⟩,.inl<|Heap.get_lt q5⟩
 have B:=(N.mono d).mono C;have c0:=i.1;by_cases hc:0<=c
 .obtain⟨n,rfl⟩:∃n:Nat,c=n:=⟨c.toNat,byO⟩
  have hn:n<=255:=byO;have t:chS (n:Int)=[UInt8.ofNat n]:=by simp[chS]
  refine aK ?_ ?_<;>intro h
  .clear h
   refine aA ?_;have f:Value.int .u8 (n:Nat)=bT (UInt8.ofNat n):=by
    grind[bT,UInt8.toNat_ofNat']
   rw[f];have o:=Ext.app s [some [bT<|UInt8.ofNat n]];have o0:(s++[some [bT<|UInt8.ofNat n]]).length=s.length+1:=Wc
   have F:Heap.get (s++[some [bT<|UInt8.ofNat n]]) (e.length+1)=some [bT<|UInt8.ofNat n]:=by
    grind[aX]
   refine ay ?_;apply dD (c:=[bT<|UInt8.ofNat n]) (c':=[bT<|UInt8.ofNat n]) (B.mono o) byO Wd Wd Wr F Wc rfl rfl;intro b0 H4 J z l0;have a0:=z.ext (i.trans o) l;have D:=z.get (o.get w) g.symm;have e0:H4.get e.length=some [.int .i64 x,.int .i64 y]:=z.get (o.get G) byO;have U:=Heap.get_lt D;have g0:e.length≠b:=byO;have K:Own lo 1 H4 b0 (s++[some [bT<|UInt8.ofNat n]]).length<|(j++[UInt8.ofNat n]).map bT:=by simpa using J
   clear J N B w G u M f F;obtain⟨a4,m4,rfl,_⟩:=K.len byO;refine aA ?_;apply gn;unfold yq;apply bQ rfl;rw[List.set_set];refine⟨_,x,y,rfl,?_⟩;rw[t];exact⟨a0.set byO,hb,I,_,(s++[some [bT<|UInt8.ofNat n]]).length,byO,byO,by rw[aE U],gK K byO⟩
  simp_all
 .have t:chS c=[]:=by grind[chS]
  refine aK ?_ ?_<;>intro h
  .simp_all
  have V:=Heap.get_lt w;refine aA ?_;refine⟨_,x,y,rfl,?_⟩;rw[t,List.append_nil];exact⟨i.set byO,hb,I,ov,k,l,g,by rw[aE V],gK B g⟩
theorem DecSt.far{e:Heap}{lo:Nat}{H:Heap}{b:Nat}{q:Value}{pos sub a:Nat}{d:XU}(h:DecSt e lo H b q pos sub a d)(n:Nat) :
  Ext e H/\e.length<=b/\lo<=b/\∃f c,e.length<=c/\c≠b/\H.get b=some [q,.int .i64 pos,.int .i64 sub,.int .i64 a,f]/\Own lo 1 H f c (d.map bT)/\(c<H.length\/H.length+n<=c):=by
 have⟨u,r,j,f,c,g,k,i,t⟩:=h;have s:=Heap.get_lt i;refine⟨u,r,j,f,?_⟩;obtain⟨w,⟨l,o⟩|⟨m,l,o,x,p⟩⟩:=t
 .exact⟨H.length+n,byO,byO,i,⟨byO,.inl ⟨l,o⟩⟩,.inr<|Nat.le_refl _⟩
 .exact⟨c,g,k,i,⟨w,.inr ⟨m,l,o,x,p⟩⟩,.inl<|Heap.get_lt p⟩
def MJ{o:Heap}{b:Nat}{V:Value}{ws:XN}{pos sub a:Nat}{i:XU}(q0:lo<=H.length)(N:DecSt o lo H b V pos sub a i)(B:SlN o V ws)(h0:pos<=ws.length)(s0:ws.length<=8192)(hw:∀w ∈ ws,w<=928)(g0:i.length<=1000000) :
  EvE cpx lo 140 [.pointer<|some ⟨b,0,none⟩] H (λr H'=>pos<ws.length/\ws.getD pos 0<=255/\DecSt o lo H' b V (pos+1) sub 0 (i++[UInt8.ofNat<|ws.getD pos 0]))
   (λp H'=>Ext o H'/\(pos=ws.length/\p=Aj 10\/pos<ws.length/\255<ws.getD pos 0/\p=Aj 22)):=by
 obtain⟨D,hb,L,Q,bo,K,y,Z,ho,r0⟩:=N.far 5;have J:=Heap.get_lt Z;have C:=B.mono D;obtain⟨ad,X,rfl⟩:=B.len;have x0:=D.1;apply Ue;unfold Fx;simp only[kB,aC];refine aK ?_ ?_<;>intro h
 .have e:pos=ws.length:=Xx
  clear h;apply kO aM dY aM;apply jS
  (repeat (first|rw[dE Wd]|simp[fH,dt,fX]));apply eL
  exact⟨D,.inl ⟨e,rfl⟩⟩
 have g:pos<ws.length:=Xy
 clear h;obtain⟨W,o0,G,Y,z0,e0,j0,F,a0⟩:=C.els 0 byO;cases e0;have y0:=F pos g;have w0:ws.getD pos 0<=928:=by
  rw[au₀,bc₀ g];exact hw _<|List.getElem_mem g
 clear F;generalize ws.getD pos 0=n at *;refine aA ?_;refine aK ?_ ?_<;>intro h
 .have e:255<n:=Xx
  clear h;apply kO aM dY aM;apply jS
  (repeat (first|rw[dE Wd]|simp[fH,dt,fX]));apply eL
  exact⟨D,.inr ⟨g,e,rfl⟩⟩
 have hn:n<=255:=Xy
 clear h;refine aA ?_;have f:Value.int .u8 (n:Nat)=bT (UInt8.ofNat n):=by
  simp only[bT,UInt8.toNat_ofNat'];rw[Nat.mod_eq_of_lt byO]
 have k:(pos:Int)+1=((pos+1:Nat):Int):=byO;rw[f,k];generalize d:List.set H b (some [Value.slice (some ⟨W,o0,G⟩) ws.length X,.int .i64 ((pos+1:Nat):Int),.int .i64 sub,.int .i64 a,Q])=j at *;have x:j.length=H.length:=by rw[<-d];simp
 have t:Heap.get j b=some [Value.slice (some ⟨W,o0,G⟩) ws.length X,.int .i64 ((pos+1:Nat):Int),.int .i64 sub,.int .i64 a,Q]:=by rw[<-d];exact aE J
 have P:Ext o j:=by rw[<-d];exact D.set byO
 have A:Own lo 1 j Q bo<|i.map bT:=by rw[<-d];exact gK ho y
 have m:=Ext.app j [some [bT<|UInt8.ofNat n]];have s:Heap.get (j++[some [bT<|UInt8.ofNat n]]) H.length=some [bT<|UInt8.ofNat n]:=by
  have:=aX j [bT<|UInt8.ofNat n];rwa [x]at this
 have M:(j++[some [bT<|UInt8.ofNat n]]).length=H.length+1:=by simp[x]
 clear d;refine ay ?_;apply dD (c:=[bT<|UInt8.ofNat n]) (c':=[bT<|UInt8.ofNat n]) (A.mono m) byO Wd Wd Wr s Wc rfl rfl;intro U H4 l u l0;have O:=u.ext (P.trans m) K;have q:=u.get (m.get t) y.symm;have I:=Heap.get_lt q;have z:Own lo 1 H4 U (H.length+1)<|(i++[UInt8.ofNat n]).map bT:=by rw[M]at l;simpa using l
 clear l ho A t Z f s k;obtain⟨a4,m4,rfl,_⟩:=z.len byO;refine aA ?_;apply gn;unfold CO;apply bQ rfl;rw[List.set_set];exact⟨g,hn,O.set byO,hb,L,_,H.length+1,byO,byO,by rw[aE I];rfl,gK z byO⟩
def sN{e:Type}{enc:e->Value}{v:Value}{l:List e}(h:Sl enc H v l)(m:n<=l.length):∃d,(∀G,aG (.sl 1 true false false) [v,.int .i64 n] G=some d)/\Sl enc H d (l.drop n):=by
 rcases h with ⟨rfl,rfl⟩|⟨b,o,sp,a,xs,rfl,c,g,i,f,j⟩
 .have:n=0:=Wx
  subst this;exact⟨.slice none 0 0,λG=>rfl,.inl ⟨rfl,rfl⟩⟩
 .have k:(xs.drop<|o+n).take (l.length-n)=(l.drop n).map enc:=by
   grind[List.map_drop,List.drop_drop,List.drop_take]
  rcases f with rfl|rfl
  .refine⟨.slice (some ⟨b,if a=n then o else o+n,none⟩) (l.length-n)<|a-n,?_,.inr ⟨b,_,none,a-n,xs,by rw[List.length_drop],c,?_,?_,.inl rfl,Xu⟩⟩
   all_goals grind[xp,CL]
  .refine⟨.slice (some ⟨b,o+n,some 1⟩) (l.length-n)<|a-n,?_,.inr ⟨b,_,some 1,a-n,xs,by rw[List.length_drop],c,Wx,Xu,.inr rfl,Xu⟩⟩
   grind[xn,CL]
def yZ{f:Type}{enc:f->Value}{v:Value}{l:List f}(h:Sl enc H v l)(p:n<=l.length):∃e,(∀G,aG (.sl 1 false true false) [v,.int .i64 n] G=some e)/\Sl enc H e (l.take n):=by
 have c:(l.take n).length=n:=Wr
 rcases h with ⟨rfl,rfl⟩|⟨b,o,sp,a,xs,rfl,d,i,j,g,k⟩
 .have:n=0:=Wx
  subst this;exact⟨.slice none 0 0,λG=>rfl,.inl ⟨rfl,rfl⟩⟩
 .have m:(xs.drop o).take n=(l.take n).map enc:=by
   grind[List.map_take]
  rcases g with rfl|rfl
  .refine⟨.slice (some ⟨b,o,none⟩) n a,?_,.inr ⟨b,_,none,a,xs,by rw[c],d,Wx,byO,.inl rfl,byO⟩⟩
   grind[xp,CJ]
  .refine⟨.slice (some ⟨b,o,some 1⟩) n a,?_,.inr ⟨b,_,some 1,a,xs,by rw[c],d,Wx,byO,.inr rfl,byO⟩⟩
   grind[xn,CJ]
def by6(N:Nat):XU:=[5,4,3,2,1,0].map λj=>UInt8.ofNat<|N/256^j
def gD:Nat->XN->Option XU
 | 0,l=>if l.all (λw=>decide<|w<=255) then some (l.map UInt8.ofNat) else none
 | k+1,l=>if 281474976710656<=aa 900 (l.take 5) then none else(gD k<|l.drop 5).map (by6 (aa 900<|l.take 5)++·)
def iD(mode:Nat)(l:XN):XU×Nat:=
 if mode=902 then match fS l with
  | some t=>(t,0)
  | none=>([],22)
 else if mode=924/\l.length%5≠0 then([],10)
 else match gD (if mode=901 then(l.length-1)/5 else l.length/5) l with
  | some t=>(t,0)
  | none=>([],22)
def bS(l:XN):XN:=l.takeWhile λw=>decide<|w<900
def ea:Nat->XN->Nat->Nat->XU->XU×Nat
 | 0,_,_,_,out=>(out,0)
 | _+1,[],_,_,out=>(out,0)
 | n+1,w::r,sub,shift,out=>
  if w<900 then match stp sub shift (w/30)with
   | none=>([],22)
   | some (c,x,y)=>match stp x y (w%30)with
    | none=>([],22)
    | some (c2,x2,y2)=>ea n r x2 y2 (out++chS c++chS c2)
  else if w=900 then ea n r 0 0 out
  else if w=913 then match r with
   | []=>([],10)
   | z::r2=>if 255<z then([],22) else ea n r2 sub 0 (out++[UInt8.ofNat z])
  else if w=901\/w=902\/w=924 then
   match iD w (bS r)with
   | (t,0)=>if (r.drop (bS r).length).head?=some 913 then([],22) else ea n (r.drop (bS r).length) 0 0 (out++t)
   | (_,e)=>([],e)
  else([],22)
def yw(l:XI):XU×Nat:=
 if 8192<l.length then([],4) else if l.all (λw=>decide (0<=w)&&decide (w<=928)) then ea (l.length+1) (l.map Int.toNat) 0 0 [] else([],3)
def k0{cp:Wl}{e:Heap}{f:Nat}{j:Value}{b:XU}{x:UInt8}{z:XV}{R:Wq}(p:lo<=H.length)(s:Ext e H)(l:e.length<=f)(r:Own lo 1 H j f<|b.map bT)(i:b.length<=1000000)
  (k:∀a m d,Ext e d->H.length+2<=d.length->(∀q c,H.get q=some c->q≠f->d.get q=some c)->Own lo 1 d (.slice a m m) (H.length+1) ((b++[x]).map bT)->R (.slice a m m) d) :
  wpH cp lo (.app 1 z) [j,.slice (some ⟨H.length,0,none⟩) 1 1] (H++[some [bT x]]) R:=by
 have h:=Ext.app H [some [bT x]];have g:=aX H [bT x];have o:(H++[some [bT x]]).length=H.length+1:=Wc
 apply dD (c:=[bT x]) (c':=[bT x]) (r.mono h) byO Wd Wd Wr g Wc rfl rfl
 grind[Own.len,Keep.ext,Ext.trans,Keep.get,Ext.get]
theorem De(x:Nat):IntKind.u8.wrap (x:Int)=((UInt8.ofNat x).toNat:Int):=by rfl
def Qz{N j:Nat}(a:j<6):aG (.bin .shr) [.int .i64 N,.int .i64<|40-8*(j:Int)] H=some (.int .i64 ((N/256^(5-j):Nat):Int)):=by rcases(show j=0\/j=1\/j=2\/j=3\/j=4\/j=5 by omega)with rfl|rfl|rfl|rfl|rfl|rfl<;>simp[aG,aZ,iE,IntKind.bits,Int.fdiv_eq_ediv]
def GP{B:Heap}{b:Nat}{wv sv:Value}{l:XN}{n pos sub a:Nat}{f:XU}(u1:lo<=H.length)(g1:DecSt B lo H b wv pos sub a f)(hs:SlN B sv l)(hn:5*n<=l.length)(hl:l.length<=8192)(hw:∀w ∈ l,w<900)(r1:f.length<=500000) :
  EvE cpx lo 188 [.pointer<|some ⟨b,0,none⟩,sv,.int .i64 n] H (λr H'=>∃t,gD n l=some t/\DecSt B lo H' b wv pos sub a (f++t)) λp H'=>gD n l=none/\p=Aj 22/\Ext B H':=by
 apply Ug;unfold GB;simp only[kB,aC];apply ij (λS H'=>∃(l':XN) (t:XU) (s:Value),(gD n l=(gD 0 l').map (t++·)\/False)/\l'.length<=8192/\(∀w ∈ l',w<900)/\SlN B s l'/\DecSt B lo H' b wv pos sub a (f++t)/\t.length<=20000/\∃k,∃(z:Nat->Value),S=[.pointer<|some ⟨b,0,none⟩,s,.int .i64 k,z 3,z 4,z 5,z 6,z 7,z 8,z 9,z 10,z 11,z 12,z 13,z 14,z 15,z 16,z 17,z 18,z 19,z 20])
 .apply aj (λm S H'=>∃(k:Nat) (l':XN) (t:XU) (s:Value),m=k/\(gD n l=(gD k l').map (t++·)\/False)/\5*k<=l'.length/\l'.length<=8192/\(∀w ∈ l',w<900)/\SlN B s l'/\DecSt B lo H' b wv pos sub a (f++t)/\t.length+6*k<=20000/\∃(z:Nat->Value),S=[.pointer<|some ⟨b,0,none⟩,s,.int .i64 k,z 3,z 4,z 5,z 6,z 7,z 8,z 9,z 10,z 11,z 12,z 13,z 14,z 15,z 16,z 17,z 18,z 19,z 20]) n
  .exact⟨n,l,[],sv,rfl,.inl Wc,hn,hl,hw,hs,by simpa using g1,Wr,aH rfl⟩
  rintro m S H' ⟨_,l',t,s,rfl,hb,w1,s0,I,q,c,h1,z,rfl⟩;obtain⟨ad,c0,rfl⟩:=q.len;by_cases hk:m=0
  .subst hk
   (try simp only[aC]);refine aK ?_ ?_<;>intro h
   .simp at h
   clear h;(try simp only[aC]);exact⟨l',t,_,hb,s0,I,q,c,byO,0,aH rfl⟩
  .obtain⟨k,rfl⟩:∃k,m=k+1:=⟨m-1,byO⟩
   (try simp only[aC]);refine aK ?_ ?_<;>intro h
   .clear h
    obtain⟨s5,U,F⟩:=yZ q (n:=5) byO;replace U:∀G,aG (.sl 1 false true false) [.slice ad l'.length c0,.int .i64 5] G=some s5:=λG=>U G;obtain⟨sd,r0,b1⟩:=sN q (n:=5) byO;replace r0:∀G,aG (.sl 1 true false false) [.slice ad l'.length c0,.int .i64 5] G=some sd:=λG=>r0 G;have h5:(l'.take 5).length=5:=Wr
    obtain⟨a5,c5,rfl⟩:=F.len;rw[h5]at U F;have C:∀w ∈ l'.take 5,w<900:=λw hm=>I w<|List.mem_of_mem_take hm;obtain⟨P,hP⟩:∃P,l'.take 5=P:=⟨_,rfl⟩;rw[hP]at h5 F C;refine aA ?_;apply aP (λj S g=>H'=g/\∃(z:Nat->Value),S=[.pointer<|some ⟨b,0,none⟩,.slice ad l'.length c0,.int .i64 ((k+1:Nat):Int),.int .i64 (aa 900 (P.take j)),z 4,z 5,z 6,.slice a5 5 c5,.int .i64 ((5:Nat):Int),.int .i64 j,z 10,z 11,z 12,z 13,z 14,z 15,z 16,z 17,z 18,z 19,z 20]) 5
    .exact⟨rfl,aH rfl⟩
    .rintro j S g D ⟨rfl,z,rfl⟩
     exact⟨_,aM,by simp;try omega⟩
    .rintro j S g D ⟨rfl,z,rfl⟩
     obtain⟨m1,_⟩:=c;obtain⟨b0,o0,o1,l0,p1,e0,T0,A,w0⟩:=(F.mono m1).els 0 byO;rw[h5]at e0;cases e0;have k1:=A j byO;have Z0:=iZ C j byO;have q0:(900:Nat)^j<=900^4:=Nat.pow_le_pow_right Wd byO;have x1:P.getD j 0<900:=by
      rw[au₀,bc₀ byO];exact C _<|List.getElem_mem _
     rw[jb byO];have h4:aa 900 (P.take j)<=656100000000:=byO;clear A Z0 q0;generalize aa 900 (P.take j)=X at *;generalize P.getD j 0=y at *;refine aA ?_;exact⟨We,aH ncM⟩
    .rintro S g ⟨rfl,z,rfl⟩
     have z0:=iZ C 5 byO;have Q:gD (k+1) l'=if 281474976710656<=aa 900 P then none else(gD k<|l'.drop 5).map (by6 (aa 900 P)++·):=by rw[gD,hP]
     have e5:P.take 5=P:=List.take_of_length_le byO;rw[e5]at z0 ⊢;generalize aa 900 P=N at *;(try simp only[aC]);refine aK ?_ ?_<;>intro h
     .have J:281474976710656<=N:=Wt
      clear h;have g0:gD n l=none:=by rw[hb.resolve_right id,Q,if_pos J];rfl
      apply kO aM dY aM;refine jS ?_
      (repeat (first|rw[dE Wd]|simp only[fH,dt,fX]));refine eL ?_
      exact⟨g0,rfl,c.1⟩
     have x0:N<281474976710656:=Wu
     clear h;rw[if_neg byO]at Q;have q1:lo<=H'.length:=by have:=c.2.2.1;obtain⟨_,_,_,_,_,_,_,X0,_⟩:=c;have:=Heap.get_lt X0;omega
     refine aA ?_;refine aP (λj S g=>DecSt B lo g b wv pos sub a (f++t++(by6 N).take j)/\∃(z:Nat->Value),S=[.pointer<|some ⟨b,0,none⟩,.slice ad l'.length c0,.int .i64 ((k+1:Nat):Int),.int .i64 N,z 4,.int .i64<|40-8*(j:Int),z 6,z 7,z 8,z 9,z 10,z 11,z 12,z 13,z 14,z 15,z 16,z 17,z 18,z 19,z 20]) 6 ?_ ?_ ?_ ?_
     .exact⟨XK,aH rfl⟩
     .rintro j S g D ⟨-,z,rfl⟩
      exact⟨_,aM,Wr⟩
     .rintro j S g D ⟨d,z,rfl⟩
      obtain⟨u,L,Z,ov,bo,O,a0,V,ho,a1⟩:=d.far 5;have S0:=Heap.get_lt V;have A:=u.1;have e1:=Qz (N:=N) D (H:=g);generalize hX:N/256^(5-j)=X at *;refine aA ?_;rw[De,show Value.int .u8 ((UInt8.ofNat X).toNat:Int)=bT (UInt8.ofNat X) from rfl];have o:(f++t++(by6 N).take j).length<=1000000:=by simp[by6];omega
      refine ay ?_;apply k0 byO u O ho o;intro a4 m4 H4 j0 Y0 Y h0;have W:=Y b _ V a0.symm;have M:=Heap.get_lt W;clear ho V o e1;refine aA ?_;refine⟨⟨j0.set byO,L,Z,_,g.length+1,byO,byO,by rw[aE M],?_⟩,aH Wr⟩;have e6:(by6 N).take (j+1)=(by6 N).take j++[UInt8.ofNat X]:=by
       rw[<-hX];rcases(show j=0\/j=1\/j=2\/j=3\/j=4\/j=5 by omega)with rfl|rfl|rfl|rfl|rfl|rfl<;>rfl
      rw[e6,<-ba₀];exact gK h0 byO
     .rintro S g ⟨d,z,rfl⟩
      refine aA ?_;simp only[bJ];refine⟨k,byO,k,l'.drop 5,t++by6 N,sd,rfl,.inl ?_,Wr,Wr,λw hm=>I w<|List.mem_of_mem_drop hm,b1,by simpa[by6]using d,by simp[by6];omega,?_⟩
      .rw[hb.resolve_right id,Q]
       cases gD k<|l'.drop 5<;>simp
      .exact aH (by rw[show((k+1:Nat):Int)-1=(k:Nat) by omega];rfl)
   .simp only[ai₀]at h;omega
 .rintro S H' ⟨l',t,s,hb,s0,I,q,c,h1,k,z,rfl⟩
  obtain⟨ad,c0,rfl⟩:=q.len;refine aA ?_;refine aP (λi S g=>DecSt B lo g b wv pos sub a (f++t++(l'.take i).map UInt8.ofNat)/\(∀j,j<i->l'.getD j 0<=255)/\∃(z:Nat->Value),S=[.pointer<|some ⟨b,0,none⟩,z 1,z 2,z 3,z 4,z 5,z 6,z 7,z 8,z 9,z 10,z 11,z 12,z 13,.slice ad l'.length c0,.int .i64 l'.length,.int .i64 i,z 17,z 18,z 19,z 20]) l'.length ?_ ?_ ?_ ?_
  .exact⟨XK,λj D=>byO,aH rfl⟩
  .rintro i S g hi ⟨-,-,z,rfl⟩
   exact⟨_,aM,Wc⟩
  .rintro i S g hi ⟨d,x,z,rfl⟩
   obtain⟨u,L,Z,ov,bo,O,a0,V,ho,a1⟩:=d.far 5;have S0:=Heap.get_lt V;obtain⟨b0,o0,o1,l0,p1,e0,T0,A,w0⟩:=(q.mono u).els 0 byO;cases e0;have k1:=A i hi;have y1:=u.1;clear A;refine aA ?_;refine aK ?_ ?_<;>intro h
   .have J:255<l'.getD i 0:=Wt
    clear h;have g0:gD n l=none:=by
     rw[hb.resolve_right id,gD,if_neg]
     .rfl
     .rw[List.all_eq_true]
      intro hc;have:=of_decide_eq_true<|hc (l'.getD i 0) Xt;omega
    refine kO aM dY aM ?_;refine jS ?_
    (repeat (first|rw[dE Wd]|simp only[fH,dt,fX]));refine eL ?_
    exact⟨g0,rfl,u⟩
   have x0:l'.getD i 0<=255:=Wu
   clear h;have y0:(l'.take<|i+1).map UInt8.ofNat=(l'.take i).map UInt8.ofNat++[UInt8.ofNat<|l'.getD i 0]:=by
    rw[List.take_add_one,bc₀ hi,au₀,bc₀ hi];simp only[List.map_append,Option.toList_some,ag₀,al₀,aq₀]
   have K:∀j,j<i+1->l'.getD j 0<=255:=λj D=>by
    by_cases e:j=i
    .subst e;exact x0
    .exact x j byO
   have o:(f++t++(l'.take i).map UInt8.ofNat).length<=1000000:=Wr
   rw[y0];clear x y0;generalize l'.getD i 0=X at *;refine aA ?_;rw[show Value.int .u8 (X:Nat)=bT (UInt8.ofNat X) by
    simp only[bT,UInt8.toNat_ofNat'];rw[Nat.mod_eq_of_lt byO]]
   refine ay ?_;refine k0 byO u O ho o ?_;intro a4 m4 H4 j0 Y0 Y h0;have W:=Y b _ V a0.symm;have M:=Heap.get_lt W;clear ho V o;refine aA ?_;refine⟨⟨j0.set byO,L,Z,_,g.length+1,byO,byO,by rw[aE M],?_⟩,K,aH ncM⟩;rw[<-ba₀];exact gK h0 byO
  .rintro S g ⟨d,x,z,rfl⟩
   rw[List.take_length]at d;(try simp only[aC]);refine gn ?_;unfold CP;refine bQ rfl ?_;refine⟨t++l'.map UInt8.ofNat,?_,by rw[<-ba₀];exact d⟩;rw[hb.resolve_right id,gD,if_pos]
   .rfl
   .rw[List.all_eq_true]
    intro w j1;obtain⟨j,D,rfl⟩:=List.getElem_of_mem j1;have:=x j D;rw[au₀,bc₀ D]at this;exact decide_eq_true this
def v7(l:XN):(bS l).length<=l.length:=(List.takeWhile_sublist _).length_le
def tH:∀{l:XN},∀w ∈ bS l,w<900
 | [],w,a=>by simp_all[bS]
 | x::l,w,a=>by
  unfold bS at a;rw[List.takeWhile_cons]at a;split at a
  .rcases List.mem_cons.1 a with rfl|a
   .simp_all
   .exact tH w a
  .grind
def oU:∀(l:XN),bS l=l.take (bS l).length
 | []=>rfl
 | x::l=>by
  unfold bS;by_cases h:x<900
  .have a:=oU l
   grind[bS,List.takeWhile_cons]
  simp_all
def nO{l:XN}(h:∀j,j<n->l.getD j 0<900)(a:n<=l.length)(d:n=l.length\/900<=l.getD n 0):(bS l).length=n:=by
 induction l generalizing n with
 | nil=>simp at a;subst a;rfl
 | cons x l b=>
  unfold bS;cases n with
  | zero=>
   simp_all
  | succ n=>
   have c:=h 0 byO;rw[List.takeWhile_cons,if_pos Wx,List.length_cons];congr 1;exact b (λj e=>by grind) Wx Wx
def rnS(mode:Nat)(r:XN):XU×Nat:=
 if (iD mode<|bS r).2=0 then(if (r.drop (bS r).length).head?=some 913 then([],22) else((iD mode<|bS r).1,0)) else([],(iD mode<|bS r).2)
def Qk{mode:Nat}{r:XN}(a:mode=924)(b:(bS r).length%5≠0):rnS mode r=([],10):=by grind[iD,rnS]
def Qi{mode:Nat}{r:XN}(a:¬ (mode=924/\(bS r).length%5≠0))(b:(r.drop (bS r).length).head?=some 913):rnS mode r=([],22):=by grind[iD,rnS]
def TC{mode:Nat}{r:XN}{t:XU}(a:iD mode (bS r)=(t,0))(b:(r.drop (bS r).length).head?≠some 913):rnS mode r=(t,0):=by grind[rnS]
def Qj{mode e:Nat}{r:XN}{t:XU}(a:iD mode (bS r)=(t,e))(b:e≠0):rnS mode r=([],e):=by grind[rnS]
def nS:∀(n:Nat) {d:XN} {t:XU},d.length<=n->fS d=some t->t.length<=44*d.length
 | 0,d,t,e,h=>by
  grind[qK]
 | n+1,d,t,e,h=>by
  by_cases b:d=[]
  .exact nS n Wx h
  rw[qL b]at h;split at h
  next a=>
   have a:=lZ.1 a;cases c:fS (d.drop 15)with
   | none=>simp_all
   | some f=>
    simp at h;have:=nS n Wr c
    grind[uR,eH]
  .cases h
def yn:∀(g:Nat) {l:XN} {t:XU},gD g l=some t->t.length<=6*g+l.length
 | 0,l,t,h=>by
  grind[gD]
 | g+1,l,t,h=>by
  rw[gD]at h;split at h
  .cases h
  .cases a:gD g (l.drop 5)with
   | none=>simp_all
   | some b=>
    simp at h;have:=yn g a
    grind[by6,List.length_nil]
def AN{mode:Nat}{d:XN}{t:XU}(h:iD mode d=(t,0)):t.length<=44*d.length:=by
 unfold iD at h;split at h
 .split at h
  next a=>
   injection h with h;subst h;exact nS d.length (Nat.le_refl _) a
  .grind
 .split at h
  .grind
  .split at h
   next a=>
    have:=yn _ a
    grind
   .grind
theorem DecSt.ext{e:Heap}{lo:Nat}{H f:Heap}{b:Nat}{g:Value}{pos sub a:Nat}{c:XU}(h:DecSt e lo H b g pos sub a c)(d:Ext H f):DecSt e lo f b g pos sub a c:=by have⟨j,k,l,r,i,m,o,p,q⟩:=h;exact⟨j.trans d,k,l,r,i,m,o,d.get p,q.mono d⟩
theorem Own.away{lo A:Nat}{H:Heap}{v:Value}{b q:Nat}{l:XU}{g:Option Addr}{n c:Nat}{i:XV}(h:Own lo 1 H v q<|l.map bT)(j:A<=q)(k:H.get b=some (.slice g n c::i)):∃a,A<=a/\a≠b/\Own lo 1 H v a (l.map bT):=by
 obtain⟨o,d|⟨m,d,p,r,f⟩⟩:=h
 .exact⟨lo+A+b+1,byO,byO,byO,.inl d⟩
 .refine⟨q,j,λe=>?_,o,.inr ⟨m,d,p,r,f⟩⟩
  subst e;rw[k]at f;cases l with
  | nil=>simp at f
  | cons x l=>grind[bT]
def Ve{L:Heap}{b:Nat}{wv:Value}{ws:XN}{mode pos sub c:Nat}{G:XU}(Y1:lo<=H.length)(X0:DecSt L lo H b wv pos sub c G)(K:SlN L wv ws)(G1:pos<=ws.length)(e2:ws.length<=8192)(hw:∀w ∈ ws,w<=928)(F1:G.length<=400000)(hm:mode=901\/mode=902\/mode=924)(l:L.get 0=some jG) :
  EvE cpx lo 141 [.pointer<|some ⟨b,0,none⟩,.int .i64 mode] H
   (λr H'=>∃t,rnS mode (ws.drop pos)=(t,0)/\DecSt L lo H' b wv (pos+(bS<|ws.drop pos).length) sub c (G++t))
   (λp H'=>Ext L H'/\∃e:Nat,p=Aj e/\e≠0/\rnS mode (ws.drop pos)=([],e)):=by
 obtain⟨hx,hb,r0,ov,bo,e1,w0,hg,ho,m1⟩:=X0.far 5;have b1:=Heap.get_lt hg;obtain⟨ad,c0,rfl⟩:=K.len;apply Uf;unfold Fy;simp only[kB,aC];refine aA ?_;apply ij (λS H'=>H=H'/\∃q,pos<=q/\(q<=pos+(bS<|ws.drop pos).length/\pos+(bS<|ws.drop pos).length<=q)/\q<=ws.length/\∃(z:Nat->Value),S=[.pointer<|some ⟨b,0,none⟩,.int .i64 mode,.int .i64 q,z 3,z 4,z 5,z 6,z 7,z 8,z 9])
 .apply aj (λm S H'=>H=H'/\∃q,(m+q<=ws.length/\ws.length<=m+q)/\pos<=q/\q<=ws.length/\(∀j,j<q-pos->(ws.drop pos).getD j 0<900)/\∃(z:Nat->Value),S=[.pointer<|some ⟨b,0,none⟩,.int .i64 mode,.int .i64 q,z 3,z 4,z 5,z 6,z 7,z 8,z 9]) (ws.length-pos)
  .exact⟨rfl,pos,byO,byO,byO,λj hj=>byO,aH rfl⟩
  rintro m S H' ⟨rfl,q,hq,a2,Y,u,z,rfl⟩;have g1:(ws.drop pos).length=ws.length-pos:=Wc
  by_cases k1:q<ws.length
  .obtain⟨b0,o0,y1,a0,z1,e0,h1,F,s0⟩:=(K.mono hx).els 0 byO
   cases e0;have x1:=F q k1;have g0:(ws.drop pos).getD (q-pos) 0=ws.getD q 0:=by
    rw[au₀,au₀,List.getElem?_drop,show pos+(q-pos)=q by omega]
   clear F;(try simp only[aC]);refine aK ?_ ?_<;>intro h
   .have h9:ws.getD q 0<900:=by
     simp only[ac₀,af₀]at h;omega
    clear h;refine aA ?_;simp only[bJ];refine⟨m-1,byO,We,q+1,byO,byO,byO,λj hj=>?_,aH ncM⟩;by_cases e:j=q-pos
    .subst e;rw[g0];exact h9
    .exact u j byO
   .have h9:900<=ws.getD q 0:=by
     simp only[Bool.and_eq_false_iff,ai₀]at h;omega
    clear h;have he:=nO (n:=q-pos) u byO<|.inr (by rw[g0];exact h9);(try simp only[aC]);exact⟨We,q,byO,byO,byO,aH rfl⟩
  .have he:=nO (n:=q-pos) u byO<|.inl byO
   obtain rfl:q=ws.length:=byO;have q0:decide (((ws.length:Nat):Int)<((ws.length:Nat):Int))=false:=Wc
   (try simp only[aC]);refine bu (t:=false) eU (λh=>by cases h) λh=>?_;clear h;(try simp only[aC]);exact⟨We,_,byO,byO,byO,aH rfl⟩
 .rintro S H' ⟨rfl,q,hq,q1,r1,z,rfl⟩
  have P:=oU<|ws.drop pos;have i:=@tH<|ws.drop pos;obtain⟨d,I⟩:∃d,bS (ws.drop pos)=d:=⟨_,rfl⟩;rw[I]at q1 P i;obtain⟨sd,u1,C⟩:=eO (a:=pos) (b:=q) (x:=(pos:Int)) (y:=(q:Int)) K rfl rfl byO r1;rw[show q-pos=d.length by omega,<-P]at C;obtain⟨a3,c3,rfl⟩:=C.len;clear P;refine aA ?_;generalize s:List.set H b (some [Value.slice ad ws.length c0,.int .i64 ((q:Nat):Int),.int .i64 sub,.int .i64 c,ov])=Hs at *;have o:Ext L Hs:=by rw[<-s];exact hx.set byO
  have l0:Heap.get Hs b=some [Value.slice ad ws.length c0,.int .i64 ((q:Nat):Int),.int .i64 sub,.int .i64 c,ov]:=by rw[<-s];exact aE b1
  have k:DecSt L lo Hs b (.slice ad ws.length c0) q sub c G:=⟨o,hb,r0,ov,bo,e1,w0,l0,by rw[<-s];exact gK ho w0⟩;have Z1:Hs.length=H.length:=by rw[<-s];simp
  have eq:q=pos+d.length:=byO;have J:(ws.drop pos).drop d.length=ws.drop q:=by rw[List.drop_drop,eq]
  clear s ho hg X0 m1;have T1:((d.length:Nat):Int).tmod 5=((d.length%5:Nat):Int):=rfl;have L1:((d.length:Nat):Int).tdiv 5=((d.length/5:Nat):Int):=rfl;have S1:(((d.length:Nat):Int)-1).tdiv 5=(((d.length-1)/5:Nat):Int):=by
   cases g1:d.length with
   | zero=>rfl
   | succ n=>rw[show((n+1:Nat):Int)-1=(n:Nat) by omega];rfl
  refine aK ?_ ?_<;>intro h
  .have e:mode=924/\d.length%5≠0:=XB
   clear h eq J;refine kO aM dY aM ?_;refine jS ?_
   (repeat (first|rw[dE Wd]|simp only[fH,dt,fX]));refine eL ?_
   exact⟨o,10,rfl,byO,Qk e.1 (by rw[I];exact e.2)⟩
  have f:¬ (mode=924/\d.length%5≠0):=Xp
  clear h eq;(try simp only[aC]);refine kA (λS H'=>Hs=H'/\((ws.drop q).head?≠some 913)/\∃(z:Nat->Value),S=[.pointer<|some ⟨b,0,none⟩,.int .i64 mode,z 2,.slice a3 d.length c3,z 4,z 5,z 6,z 7,z 8,z 9]) ?_ ?_
  .by_cases Y:q<ws.length
   .obtain⟨b0,o0,y1,a0,z1,e0,h1,F,s0⟩:=(K.mono o).els 0 byO
    cases e0;have x1:=F q Y;have hh:(ws.drop q).head?=some (ws.getD q 0):=by rw[List.head?_drop,au₀,bc₀ Y];rfl
    rw[hh];clear F;generalize ws.getD q 0=y at *;refine aK ?_ ?_<;>intro h
    .have e:y=913:=Ws
     clear h;subst e;refine kO aM dY aM ?_;refine jS ?_
     (repeat (first|rw[dE Wd]|simp only[fH,dt,fX]));refine eL ?_
     exact⟨o,22,rfl,byO,Qi (by rw[I];exact f) (by rw[I,J,hh])⟩
    .have e:y≠913:=Ws
     clear h;(try simp only[aC]);exact⟨We,Yc,aH rfl⟩
   .have q0:decide (((q:Nat):Int)<((ws.length:Nat):Int))=false:=Wr
    refine bu (t:=false) eU (λh=>by cases h) λh=>?_;clear h;(try simp only[aC]);refine⟨We,?_,aH rfl⟩;rw[List.drop_eq_nil_of_le byO];simp
  .rintro S H' ⟨rfl,M,z,rfl⟩
   refine aA ?_;have Q:d.length<=8192:=byO;have h0:(ws.drop pos).drop (bS<|ws.drop pos).length=ws.drop q:=by rw[I,J]
   have T0:pos+(bS<|ws.drop pos).length=q:=by rw[I];omega
   have W:∀t,iD mode d=(t,0)->rnS mode (ws.drop pos)=(t,0):=λt l=>TC (by rw[I];exact l) (by rw[h0];exact M);have B:∀t,iD mode d=(t,22)->rnS mode (ws.drop pos)=([],22):=λt l=>Qj (by rw[I];exact l) byO;rw[T0];clear h0 T0 J I M l0;rcases hm with rfl|rfl|rfl
   .refine bu (t:=false) eU (λh=>by cases h) λh=>?_
    clear h;refine bu (t:=true) eU (λh=>?_) (λh=>by cases h);clear h;refine jf aM dY aM (GP (n:=(d.length-1)/5) byO k C byO Q i byO) ?_ ?_
    .rintro r H2 ⟨t,l,D⟩
     (try simp only[aC]);apply gn;unfold vV;exact bQ rfl<|⟨t,W t (by rw[iD,if_neg Wd,if_neg f,if_pos rfl,l]),D⟩
    .rintro p H2 ⟨l,rfl,g⟩
     (repeat (first|rw[dE Wd]|simp only[fH,dt,fX]));refine eL ?_
     exact⟨g,22,rfl,byO,B [] (by rw[iD,if_neg Wd,if_neg f,if_pos rfl,l])⟩
   .refine bu (t:=false) eU (λh=>by cases h) λh=>?_
    clear h;refine bu (t:=false) eU (λh=>by cases h) λh=>?_;clear h;refine bV ?_;refine aB (Sz byO (C.mono o) Q i<|o.get l) ?_;rintro r H2 ⟨g,rfl⟩;obtain⟨Z,X1,A1,g2,Y0,N,x0,U,y0,B1⟩:=(k.ext g).far 5;have W1:=Heap.get_lt U;have j1:=g.1;have K1:=Z.1;clear k g u1;cases hf:fS d with
    | none=>
     refine aA ?_;refine aK ?_ ?_<;>intro h
     .clear h
      refine kO aM dY aM ?_;refine jS ?_
      (repeat (first|rw[dE Wd]|simp only[fH,dt,fX]));refine eL ?_
      exact⟨Z,22,rfl,byO,B [] (by rw[iD,if_pos rfl,hf])⟩
     .simp at h
    | some t=>
     have b2:=nS d.length (Nat.le_refl _) hf;have X:G.length+t.length<=4294967296:=byO;refine aA ?_;refine aK ?_ ?_<;>intro h
     .simp at h
     clear h;refine bV ?_;refine uz (A:=L.length) (b:=Y0) byO N byO y0 X ?_;intro h2 H4 b4 Z0 z0 V;have w1:=V.ext Z N;have j0:=V.get U x0.symm;have a1:=Heap.get_lt j0;obtain⟨q4,p1,O,S0⟩:=Own.away z0 Z0 j0;obtain⟨a4,m4,o1,_⟩:=S0.len byO;subst o1;clear z0 V y0 U;refine aA ?_;refine gn ?_;unfold vV;refine bQ rfl ?_;refine⟨t,W t (by rw[iD,if_pos rfl,hf]),w1.set byO,hb,r0,_,q4,p1,O,by rw[aE a1],gK S0 O⟩
   .refine bu (t:=true) eU (λh=>?_) (λh=>by cases h)
    clear h;refine jf aM dY aM (GP (n:=d.length/5) byO k C byO Q i byO) ?_ ?_
    .rintro r H2 ⟨t,l,D⟩
     (try simp only[aC]);refine gn ?_;unfold vV;exact bQ rfl<|⟨t,W t (by rw[iD,if_neg Wd,if_neg f,if_neg Wd,l]),D⟩
    .rintro p H2 ⟨l,rfl,g⟩
     (repeat (first|rw[dE Wd]|simp only[fH,dt,fX]));refine eL ?_
     exact⟨g,22,rfl,byO,B [] (by rw[iD,if_neg Wd,if_neg f,if_neg Wd,l])⟩
theorem dR(n w:Nat)(r:XN)(sub b:Nat)(a:XU):ea (n+1) (w::r) sub b a=(if w<900 then match stp sub b (w/30)with
   | none=>([],22)
   | some (c,x,y)=>match stp x y (w%30)with
    | none=>([],22)
    | some (d,g,h)=>ea n r g h (a++chS c++chS d)
  else if w=900 then ea n r 0 0 a
  else if w=913 then match r with
   | []=>([],10)
   | z::f=>if 255<z then([],22) else ea n f sub 0 (a++[UInt8.ofNat z])
  else if w=901\/w=902\/w=924 then
   match iD w (bS r)with
   | (t,0)=>if (r.drop (bS r).length).head?=some 913 then([],22) else ea n (r.drop (bS r).length) 0 0 (a++t)
   | (_,e)=>([],e)
  else([],22)):=rfl
theorem xM{n w:Nat}{r:XN}{sub a:Nat}{b:XU}(c:w=901\/w=902\/w=924):ea (n+1) (w::r) sub a b=if (rnS w r).2=0 then ea n (r.drop (bS r).length) 0 0 (b++(rnS w r).1) else([],(rnS w r).2):=by grind[dR,rnS]
def HC{w:XN}{s h c b:Nat}{a:XU}(d:∀x,w.head?=some x->900<=x/\x≠913):ea n w s h a=ea n w c b a:=by
 cases n with
 | zero=>rfl
 | succ n=>
  cases w with
  | nil=>rfl
  | cons x w=>
   grind[dR]
def JH{mode:Nat}{r:XN}{t:XU}{s h e b:Nat}{a:XU}(c:rnS mode r=(t,0)):ea n (r.drop (bS r).length) s h a=ea n (r.drop (bS r).length) e b a:=by
 refine HC λx d=>?_;constructor
 .clear c
  induction r with
  | nil=>simp at d
  | cons y r f=>
   grind[bS,List.takeWhile_cons]
 grind[rnS]
def JJ{mode:Nat}{r:XN}{t:XU}(h:rnS mode r=(t,0)):t.length<=44*(bS r).length:=by
 unfold rnS at h;rcases a:iD mode (bS r)with ⟨u,e⟩;rw[a]at h;split at h
 next b=>
  split at h
  .grind
  .injection h with c d
   subst c b;exact AN a
 simp_all
def TN{J:Heap}{b:Nat}{wv:Value}{ws:XN}{pos sub a:Nat}{m:XU}(m1:lo<=H.length)(a0:DecSt J lo H b wv pos sub a m)(C:SlN J wv ws)(i:pos<ws.length)(h0:ws.length<=8192)(hw:∀w ∈ ws,w<=928)(A:sub<4)(K:a<3)(a1:m.length<=44*pos)(ht:J.get 0=some jG) :
  EvE cpx lo 96 [.pointer<|some ⟨b,0,none⟩] H
   (fun r H'=>∃j u g s,DecSt J lo H' b wv j u g s/\pos<j/\j<=ws.length/\u<4/\g<3/\s.length<=44*j/\∀n,ea (n+1) (ws.drop pos) sub a m=ea n (ws.drop j) u g s)
   (fun p H'=>Ext J H'/\∃e:Nat,p=Aj e/\e≠0/\∀n,ea (n+1) (ws.drop pos) sub a m=([],e)):=by
 obtain⟨hx,hb,X,ov,bo,s0,Y,hg,ho,S0⟩:=a0.far 5;have r0:=Heap.get_lt hg;have j0:=C.mono hx;obtain⟨ad,c0,rfl⟩:=C.len;obtain⟨b0,o0,N,X0,x1,e0,j1,l0,Z0⟩:=j0.els 0 byO;cases e0;have u1:=l0 pos i;clear l0;have l:ws.drop pos=ws.getD pos 0::ws.drop (pos+1):=by
  rw[List.drop_eq_getElem_cons i,au₀,bc₀ i];rfl
 have q1:ws.getD pos 0<=928:=by
  rw[au₀,bc₀ i];exact hw _<|List.getElem_mem i
 rw[l];clear l;generalize ws.getD pos 0=w at *;apply W0;unfold Oc;simp only[kB,aC];refine aA ?_;have F:(pos:Int)+1=((pos+1:Nat):Int):=byO;rw[F];generalize o:List.set H b (some [Value.slice (some ⟨b0,o0,N⟩) ws.length c0,.int .i64 ((pos+1:Nat):Int),.int .i64 sub,.int .i64 a,ov])=Hs at *;have M:Ext J Hs:=by rw[<-o];exact hx.set byO
 have z:Heap.get Hs b=some [Value.slice (some ⟨b0,o0,N⟩) ws.length c0,.int .i64 ((pos+1:Nat):Int),.int .i64 sub,.int .i64 a,ov]:=by rw[<-o];exact aE r0
 have k:DecSt J lo Hs b (.slice (some ⟨b0,o0,N⟩) ws.length c0) (pos+1) sub a m:=⟨M,hb,X,ov,bo,s0,Y,z,by rw[<-o];exact gK ho Y⟩;have o1:Hs.length=H.length:=by rw[<-o];simp
 clear o ho hg a0 S0 F;refine aK ?_ ?_<;>intro h
 ·have e:w<900:=Wt
  clear h;have e1:(w:Int).tdiv 30=((w/30:Nat):Int):=rfl;have e2:(w:Int).tmod 30=((w%30:Nat):Int):=rfl;(try simp only[aC]);apply jf aM dY aM (Jc (v:=w/30) byO k rfl A K byO byO)
  ·rintro r O ⟨c,x,y,hs,f⟩
   have k1:=qf A K (show w/30<30 by omega) hs;have y0:=f.far 5;obtain⟨L,_,_,_,_,_,_,W,_,_⟩:=y0;have b1:=L.1;have g1:=Heap.get_lt W;have h1:(chS c).length<=1:=X7
   clear z W;(try simp only[aC]);apply jf aM dY aM (Jc (v:=w%30) byO f rfl k1.2.2.1 k1.2.2.2 byO Wr)
   ·rintro r H4 ⟨c2,x2,y2,B,g0⟩
    have k2:=qf k1.2.2.1 k1.2.2.2 (Nat.mod_lt w Wd) B;have Y0:(chS c2).length<=1:=X7
    (try simp only[aC]);apply gn;unfold Ap;apply bQ rfl;refine⟨pos+1,x2,y2,_,g0,byO,byO,k2.2.2.1,k2.2.2.2,Wr,fun n=>?_⟩;rw[dR,if_pos e,hs];simp only;rw[B]
   ·rintro p H4 ⟨B,rfl,T0⟩
    (repeat (first|rw[dE Wd]|simp only[fH,dt,fX]));apply eL
    refine⟨T0,22,rfl,byO,fun n=>?_⟩;rw[dR,if_pos e,hs];simp only;rw[B]
  ·rintro p O ⟨hs,rfl,L⟩
   (repeat (first|rw[dE Wd]|simp only[fH,dt,fX]));refine eL ?_
   refine⟨L,22,rfl,byO,fun n=>?_⟩;rw[dR,if_pos e,hs]
 have h9:¬ (w<900):=Wu
 clear h;(try simp only[aC]);refine aK ?_ ?_<;>intro h
 ·have e:w=900:=Wt
  clear h;subst e;(try simp only[aC]);have w0:=Heap.get_lt z;refine aA ?_;refine gn ?_;unfold Ap;refine bQ rfl ?_;refine⟨pos+1,0,0,m,?_,byO,byO,byO,byO,byO,fun n=>?_⟩
  ·obtain⟨r1,_,_,w1,q0,U,I,d,z0⟩:=k
   rw[z]at d;injection d with d;injection d with _ d;injection d with _ d;injection d with _ d;injection d with _ d;injection d with d _;subst d;exact⟨M.set byO,hb,X,ov,q0,U,I,by rw[aE w0];rfl,gK z0 I⟩
  ·rw[dR,if_neg byO,if_pos rfl]
 have P:¬ (w=900):=Wu
 clear h;(try simp only[aC]);refine aK ?_ ?_<;>intro h
 ·have e:w=913:=Wt
  clear h;subst e;(try simp only[aC]);refine jf aM dY aM (MJ byO k C byO h0 hw byO) ?_ ?_
  ·rintro r O ⟨q,G,f⟩
   (try simp only[aC]);refine gn ?_;unfold Ap;apply bQ rfl;refine⟨pos+1+1,sub,0,_,f,byO,byO,A,byO,Wr,fun n=>?_⟩;have l:ws.drop (pos+1)=ws.getD (pos+1) 0::ws.drop (pos+1+1):=by
    rw[List.drop_eq_getElem_cons q,au₀,bc₀ q];rfl
   rw[dR,if_neg byO,if_neg byO,if_pos rfl,l];simp only;rw[if_neg byO]
  ·rintro p O ⟨D,⟨he,rfl⟩|⟨q,G,rfl⟩⟩
   ·(repeat (first|rw[dE Wd]|simp only[fH,dt,fX]));refine eL ?_
    refine⟨D,10,rfl,byO,fun n=>?_⟩;rw[dR,if_neg byO,if_neg byO,if_pos rfl,List.drop_eq_nil_of_le byO]
   ·(repeat (first|rw[dE Wd]|simp only[fH,dt,fX]));refine eL ?_
    refine⟨D,22,rfl,byO,fun n=>?_⟩;have l:ws.drop (pos+1)=ws.getD (pos+1) 0::ws.drop (pos+1+1):=by
     rw[List.drop_eq_getElem_cons q,au₀,bc₀ q];rfl
    rw[dR,if_neg byO,if_neg byO,if_pos rfl,l];simp only;rw[if_pos G]
 have Q:¬ (w=913):=Wu
 clear h;(try simp only[aC]);refine aK ?_ ?_<;>intro h
 ·have e:w=901\/w=902\/w=924:=by simp only[ar₀,af₀]at h;omega
  clear h;(try simp only[aC]);refine jf aM dY aM (Ve (mode:=w) byO k C byO h0 hw byO e ht) ?_ ?_
  ·rintro r O ⟨t,Z,f⟩
   have p1:=JJ Z;have x0:=v7<|ws.drop<|pos+1;simp only[List.length_drop]at x0;(try simp only[aC]);refine gn ?_;unfold Ap;refine bQ rfl ?_;refine⟨_,sub,a,_,f,byO,byO,A,K,Wr,fun n=>?_⟩;rw[xM e,Z,if_pos rfl,show ws.drop (pos+1+(bS<|ws.drop<|pos+1).length)=(ws.drop<|pos+1).drop (bS<|ws.drop<|pos+1).length by rw[List.drop_drop]];exact JH Z
  ·rintro p O ⟨D,e2,rfl,V,Z⟩
   (repeat (first|rw[dE Wd]|simp only[fH,dt,fX]));refine eL ?_
   refine⟨D,e2,rfl,V,fun n=>?_⟩;rw[xM e,Z,if_neg V]
 ·have e:¬ (w=901\/w=902\/w=924):=by simp only[Bool.or_eq_false_iff,ai₀]at h;omega
  clear h;(try simp only[aC]);refine kO aM dY aM ?_;refine jS ?_
  (repeat (first|rw[dE Wd]|simp only[fH,dt,fX]));refine eL ?_
  refine⟨M,22,rfl,byO,fun n=>?_⟩;rw[dR,if_neg h9,if_neg P,if_neg Q,if_neg e]
end Go.Proofs.YtgiojnobcjnibaaGreatDoor

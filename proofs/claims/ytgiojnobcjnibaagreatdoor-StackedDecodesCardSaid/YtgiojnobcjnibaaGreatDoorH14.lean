/- Lemmas. -/
import Derived.Test.YtgiojnobcjnibaaGreatDoorH9
set_option linter.all false
def Xk{P:Prop}(h:P:=by simp[mG]):P:=h
namespace Go.Abs
noncomputable section
inductive T (α:Type) where
 | e
 | nd (a:α) (l r:T α)
def oB{α:Type}(o:Option α)(k:α->Bool):Bool:=Option.rec false k o
def bB(b x y:Bool):Bool:=Bool.rec y x b
def T.get{α:Type}(t:T α):Nat->Option α:=
 T.rec (motive:=fun _=>Nat->Option α) (fun _=>none) (fun a _ _ gl gr i=>Nat.rec (some a) (fun j _=>bB' (gl (Nat.div j 2)) (gr (Nat.div j 2)) (Nat.beq (Nat.mod j 2) 0)) i) t
where bB' (x y:Option α) (b:Bool):Option α:=Bool.rec y x b
def T.set{α:Type}(t:T α):Nat->α->(T α->Bool)->Bool:=
 T.rec (motive:=λ_=>Nat->α->(T α->Bool)->Bool) (λ_ _ _=>false)
  (λa l r il ir i v k=>Nat.rec (k<|.nd v l r) (λj _=>Bool.rec (ir (Nat.div j 2) v λr'=>k<|.nd a l r') (il (Nat.div j 2) v λl'=>k<|.nd a l' r)<|Nat.beq (Nat.mod j 2) 0) i) t
def T.ins{α:Type}(t:T α):Nat->α->(T α->Bool)->Bool:=
 T.rec (motive:=λ_=>Nat->α->(T α->Bool)->Bool) (λi v k=>Nat.rec (k<|.nd v .e .e) (λ_ _=>false) i)
  (λa l r il ir i v k=>Nat.rec (k<|.nd v l r) (λj _=>Bool.rec (ir (Nat.div j 2) v λr'=>k<|.nd a l r') (il (Nat.div j 2) v λl'=>k<|.nd a l' r)<|Nat.beq (Nat.mod j 2) 0) i) t
def T.path{α:Type}(d v:α)(f:Nat):Nat->(T α->Bool)->Bool:=
 Nat.rec (motive:=λ_=>Nat->(T α->Bool)->Bool) (λ_ _=>false)
  (λ_ ih i k=>Nat.rec (k<|.nd v .e .e) (λj _=>ih (Nat.div j 2) λt=>Bool.rec (k<|.nd d .e t) (k<|.nd d t .e)<|Nat.beq (Nat.mod j 2) 0) i) f
def T.insD{α:Type}(d:α)(t:T α):Nat->α->(T α->Bool)->Bool:=
 T.rec (motive:=λ_=>Nat->α->(T α->Bool)->Bool) (λi v k=>T.path d v 40 i k)
  (λa l r il ir i v k=>Nat.rec (k<|.nd v l r) (λj _=>Bool.rec (ir (Nat.div j 2) v λr'=>k<|.nd a l r') (il (Nat.div j 2) v λl'=>k<|.nd a l' r)<|Nat.beq (Nat.mod j 2) 0) i) t
def T.setL{α:Type}(l:List α):Nat->T α->(T α->Bool)->Bool:=
 List.rec (motive:=λ_=>Nat->T α->(T α->Bool)->Bool) (λ_ t k=>k t) (λv _ ih i t k=>t.set i v λt'=>ih (Nat.succ i) t' k) l
def T.insL{α:Type}(l:List α):Nat->T α->(T α->Bool)->Bool:=
 List.rec (motive:=λ_=>Nat->T α->(T α->Bool)->Bool) (λ_ t k=>k t) (λv _ ih i t k=>t.ins i v λt'=>ih (Nat.succ i) t' k) l
def T.rep{α:Type}(v:α)(f:Nat):Nat->(T α->Bool)->Bool:=
 Nat.rec (motive:=λ_=>Nat->(T α->Bool)->Bool) (λ_ _=>false)
  (λ_ ih n k=>Nat.rec (k .e) (λm _=>ih (Nat.div m 2) λr=>Bool.rec (r.ins (Nat.div m 2) v λl=>k<|.nd v l r) (k<|.nd v r r)<|Nat.beq (Nat.mod m 2) 0) n) f
def T.rd{α:Type}(t:T α)(o n:Nat):List α->(List α->Bool)->Bool:=
 Nat.rec (motive:=λ_=>List α->(List α->Bool)->Bool) (λl k=>k l) (λm ih l k=>oB (t.get<|Nat.add o m) λv=>ih (v::l) k) n
inductive FV where
 | i (k:IntKind) (n:Nat)
 | b (t:Bool)
 | p (b o:Nat)
 | s (b o l c:Nat) (sp:Option Nat)
 | o (v:Value)
def toV(x:FV):Value:=FV.casesOn x (λk n=>.int k<|.ofNat n) (λt=>.bool t) (λb o=>.pointer<|some ⟨b,o,none⟩) (λb o l c sp=>.slice (some ⟨b,o,sp⟩) l c) λv=>v
def fN(n:Nat)(k:Nat->Bool):Bool:=Nat.rec (k 0) (λm _=>k<|Nat.succ m) n
def M3(b:Bool)(k:FV->Bool):Bool:=Bool.rec (k<|.b false) (k<|.b true) b
def R3(kd:IntKind)(z:Int)(k:FV->Bool):Bool:=Int.rec (λn=>fN n λn=>k<|.i kd n) (λn=>fN n λn=>k<|.o<|.int kd<|.negSucc n) z
def R4(a:Option Addr)(k:FV->Bool):Bool:=Option.rec (k<|.o<|.pointer none) (λa=>Addr.rec (λb o sp=>Option.rec (fN b λb=>fN o λo=>k<|.p b o) (λ_=>k<|.o<|.pointer<|some a) sp) a) a
def OX(a:Option Addr)(l c:Nat)(k:FV->Bool):Bool:=fN l λl=>fN c λc=>Option.rec (k<|.o<|.slice none l c) (λa=>Addr.rec (λb o sp=>fN b λb=>fN o λo=>Option.rec (k<|.s b o l c none) (λz=>fN z λz=>k<|.s b o l c<|some z) sp) a) a
abbrev VF:=(FV->Bool)->Bool
def aO(v:Value):VF:=λk=>k<|.o v
def ofV(v:Value):VF:=Value.casesOn (motive_1:=λ_=>VF) v M3 R3 (λk b=>aO<|.float k b) (λk b c=>aO<|.complex k b c) (λs=>aO<|.string s) R4 OX (λr=>aO<|.map r) (λr=>aO<|.chan r) (λf a b=>aO<|.func f a b) (aO .nilFunc) (λt v=>aO<|.iface t v) (aO .nilIface) (λc=>aO<|.agg c) λc=>aO<|.tuple c
def ofL(l:XV):(List FV->Bool)->Bool:=List.rec (motive:=λ_=>(List FV->Bool)->Bool) (λk=>k []) (λv _ ih k=>ofV v λv=>ih λl=>k (v::l)) l
def toL(l:List FV):XV:=List.rec [] (λv _ ih=>toV v::ih) l
def Fm(p:FV->Bool)(l:List FV)(k:Bool):Bool:=List.rec k (λv _ ih=>bB (p v) ih false) l
def Eu(x:FV):Bool:=FV.casesOn x (λ_ _=>true) (λ_=>true) (λ_ _=>true) (λ_ _ _ _ _=>true) λv=>v.oneCell'
def nI:FV:=.o undef
inductive Blk where
 | mk (n:Nat) (t:T FV)
 | no
 | un
inductive FH where
 | mk (n:Nat) (t:T Blk)
abbrev FS:=T FV
def FH.size(H:FH):Nat:=FH.rec (λn _=>n) H
def FH.blk(H:FH)(b:Nat)(k:Nat->T FV->Bool):Bool:=FH.rec (λ_ t=>oB (t.get b) λx=>Blk.rec k false false x) H
def FH.setB(H:FH)(b:Nat)(x:Blk)(k:FH->Bool):Bool:=FH.rec (λn t=>t.set b x λt'=>k<|.mk n t') H
def FH.push(H:FH)(x:Blk)(k:Nat->FH->Bool):Bool:=FH.rec (λn t=>t.insD .un n x λt'=>k n<|.mk (Nat.succ n) t') H
def FH.rd(H:FH)(b o n:Nat)(k:List FV->Bool):Bool:=H.blk b λm t=>bB (Nat.ble (Nat.add o n) m) (t.rd o n [] k) false
def FH.wr(H:FH)(lo b o:Nat)(vs:List FV)(k:FH->Bool):Bool:=
 bB (Nat.ble lo b) (H.blk b λm t=>bB (Nat.ble (Nat.add o vs.length) m) (T.setL vs o t λt'=>H.setB b (.mk m t') k) false) false
def FH.pushL(H:FH)(vs:List FV)(k:Nat->FH->Bool):Bool:=T.insL vs 0 .e λt=>fN vs.length λn=>H.push (.mk n t) k
abbrev LF:=List FV->FH->(FV->Bool)->Bool
def gV(o:LOp):LF:=λvs _ k=>oB (aG o (toL vs) []) λv=>ofV v k
def uC(k:IntKind):Nat:=IntKind.casesOn k 127 32767 2147483647 9223372036854775807 255 65535 4294967295 18446744073709551615
def Of(k:IntKind):Nat:=IntKind.casesOn k 8 16 32 64 8 16 32 64
def idI(k:IntKind):Nat:=IntKind.casesOn k 0 1 2 3 4 5 6 7
def okN(kd:IntKind)(n:Nat)(k:FV->Bool)(d:Bool):Bool:=bB (Nat.ble n<|uC kd) (fN n λn=>k<|.i kd n) d
def tf(b:Bool)(k:FV->Bool):Bool:=bB b (k<|.b true)<|k<|.b false
def tn(b:Bool)(k:FV->Bool):Bool:=bB b (k<|.b false)<|k<|.b true
abbrev NF:=IntKind->Nat->Nat->(FV->Bool)->Bool->Bool
def VK:NF:=λkd a b k d=>okN kd (Nat.add a b) k d
def VX:NF:=λkd a b k d=>bB (Nat.ble b a) (okN kd (Nat.sub a b) k d) d
def VT:NF:=λkd a b k d=>okN kd (Nat.mul a b) k d
def VM:NF:=λkd a b k d=>bB (Nat.beq b 0) d<|okN kd (Nat.div a b) k d
def VS:NF:=λkd a b k d=>bB (Nat.beq b 0) d<|okN kd (Nat.mod a b) k d
def VL:NF:=λkd a b k d=>bB (Nat.ble a<|uC kd) (bB (Nat.ble b<|uC kd) (okN kd (Nat.land a b) k d) d) d
def nOr:NF:=λkd a b k d=>bB (Nat.ble a<|uC kd) (bB (Nat.ble b<|uC kd) (okN kd (Nat.lor a b) k d) d) d
def VY:NF:=λkd a b k d=>bB (Nat.ble a<|uC kd) (bB (Nat.ble b<|uC kd) (okN kd (Nat.xor a b) k d) d) d
def Sp:NF:=λ_ _ _ _ d=>d
def VN:NF:=λ_ a b k _=>tf (Nat.beq a b) k
def VU:NF:=λ_ a b k _=>tn (Nat.beq a b) k
def VR:NF:=λ_ a b k _=>tn (Nat.ble b a) k
def VQ:NF:=λ_ a b k _=>tf (Nat.ble a b) k
def VP:NF:=λ_ a b k _=>tn (Nat.ble a b) k
def VO:NF:=λ_ a b k _=>tf (Nat.ble b a) k
def VV:NF:=λkd a b k d=>bB (Nat.ble b<|Of kd) (okN kd (Nat.mul a<|Nat.pow 2 b) k d) d
def VW:NF:=λkd a b k d=>bB (Nat.ble b<|Of kd) (fN (Nat.div a<|Nat.pow 2 b) λn=>k<|.i kd n) d
def SD(op:BinOp):NF:=BinOp.casesOn (motive:=λ_=>NF) op VK VX VT VM VS VL nOr VY VV VW Sp VN VU VR VQ VP VO
def mG(op:BinOp):Bool:=BinOp.casesOn (motive:=λ_=>Bool) op false false false false false false false false true true false false false false false false false
def cI{α:Type}(x:FV)(f:IntKind->Nat->α)(d:α):α:=FV.casesOn x f (λ_=>d) (λ_ _=>d) (λ_ _ _ _ _=>d) λ_=>d
def cB{α:Type}(x:FV)(f:Bool->α)(d:α):α:=FV.casesOn x (λ_ _=>d) f (λ_ _=>d) (λ_ _ _ _ _=>d) λ_=>d
def cP{α:Type}(x:FV)(f:Nat->Nat->α)(d:α):α:=FV.casesOn x (λ_ _=>d) (λ_=>d) f (λ_ _ _ _ _=>d) λ_=>d
def cS{α:Type}(x:FV)(f:Nat->Nat->Nat->Nat->Option Nat->α)(d:α):α:=FV.casesOn x (λ_ _=>d) (λ_=>d) (λ_ _=>d) f λ_=>d
def cO{α:Type}(x:FV)(f:Value->α)(d:α):α:=FV.casesOn x (λ_ _=>d) (λ_=>d) (λ_ _=>d) (λ_ _ _ _ _=>d) f
def l1{α β:Type}(l:List β)(f:β->α)(d:α):α:=List.casesOn l d λx r=>List.casesOn r (f x) λ_ _=>d
def l2{α β:Type}(l:List β)(f:β->β->α)(d:α):α:=List.casesOn l d λx r=>List.casesOn r d λy r=>List.casesOn r (f x y) λ_ _=>d
def Ux(op:BinOp):LF:=λvs H k=>
 (λ(d:Bool)=>l2 vs (λx y=>cI x (λkd a=>cI y (λkd' b=>bB (bB (mG op) true<|Nat.beq (idI kd)<|idI kd') (SD op kd a b k d) d) d) d) d)<|gV (.bin op) vs H k
def fLd(n:Nat)(agg:Bool):LF:=Bool.casesOn (motive:=λ_=>LF) agg
 (λvs H k=>l1 vs (λx=>cP x (λb o=>H.blk b λ_ t=>oB (t.get o) k) false) false)
 (λvs H k=>l1 vs (λx=>cP x (λb o=>H.rd b o n λl=>k<|.o<|.agg ⟨toL l⟩) false) false)
def PQ(off:Nat):LF:=λvs _ k=>l1 vs (λx=>cP x (λb o=>fN (Nat.add o off) λo=>k<|.p b o) false) false
def PR(sz:Nat):LF:=λvs _ k=>l2 vs (λx y=>cS x (λb o l _ _=>cI y (λ_ i=>bB (Nat.ble (Nat.succ i) l) (fN (Nat.add o<|Nat.mul i sz) λo=>k<|.p b o) false) false) false) false
def KU(len sz:Nat):LF:=λvs _ k=>l2 vs (λx y=>cP x (λb o=>cI y (λ_ i=>bB (Nat.ble (Nat.succ i) len) (fN (Nat.add o<|Nat.mul i sz) λo=>k<|.p b o) false) false) false) false
def VD:LF:=λvs H k=>l1 vs (λx=>cS x (λ_ _ l _ _=>k<|.i .i64 l)<|gV .len vs H k) false
def fMv:LF:=λvs _ k=>l1 vs k false
def VB(i:Nat):LF:=λvs H k=>gV (.ext i) vs H k
def Uv:LF:=λvs H k=>l1 vs (λx=>cS x (λb o l _ _=>H.rd b o l λc=>oB (bytesOf<|toL c) λc=>k<|.o<|.string ⟨c.toArray⟩)<|gV .b2s vs H k) false
def VE:LF:=λvs H k=>l1 vs (λx=>cP x (λb o=>k<|.p b o)<|gV .nilChk vs H k) false
def fUn(u:UnOp):LF:=λvs H k=>l1 vs (λx=>cB x (λb=>UnOp.casesOn (motive:=λ_=>Bool) u (gV (.un u) vs H k) (gV (.un u) vs H k) (tn b k)<|gV (.un u) vs H k)<|gV (.un u) vs H k) false
def VA(kd:IntKind):LF:=λvs H k=>l1 vs (λx=>cI x (λ_ n=>okN kd n k<|gV (.cvt kd) vs H k)<|gV (.cvt kd) vs H k) false
def SY(ks:XN)(agg:Bool)(z:Value)(ok:Bool):LF:=λvs H k=>l2 vs (λm y=>cO m (λv=>match v with
 | .map (some i)=>H.blk i λn t=>t.rd 0 n [] λl=>oB ((iJ ks agg (toV y)<|toV y).bind λ_=>(eJ ks agg (toV y) (toL l) 0).map<|getM z ok) λv=>ofV v k
 | _=>false) false) false
def Nw(o:LOp):LF:=LOp.casesOn (motive:=λ_=>LF) o fMv Ux (λn=>gV<|.eqB n) (λn k=>gV<|.eqA n k) (λn=>gV<|.eqN n) (λn=>gV<|.eqP n) fUn VA Uv
 (gV .cvtS) VE PQ (λa b c=>gV<|.fld a b c) PR KU (λa b c=>gV<|.idx a b c) (gV .idxS) fLd VD (gV .lenS) (λn=>gV<|.lenC n)
 (λa b c d=>gV<|.sl a b c d) (λa b c d e=>gV<|.slA a b c d e) (λa b=>gV<|.slS a b) VB (λa b=>gV<|.build a b) (λa b=>gV<|.mkF a b) (λa=>gV<|.mkI a) (λa=>gV<|.minmax a) (gV .pk) (λa b=>gV<|.tas a b) SY
abbrev EV:=FS->FH->List FV->(List FV->Bool)->Bool
def Uu(j:Nat):EV:=λS _ acc k=>oB (S.get j) λv=>k (v::acc)
def Us(v:Value):EV:=λ_ _ acc k=>ofV v λv=>k (v::acc)
def Ut:EV:=λ_ _ acc k=>k acc
def SO(_a _b:E)(fa fb:EV):EV:=λS H acc k=>fb S H acc λacc=>fa S H acc k
def SP(o:LOp)(_a:E)(fa:EV):EV:=λS H acc k=>fa S H [] λvs=>Nw o vs H λv=>k (v::acc)
def isB(l:List FV)(a b:Bool):Bool:=l1 l (λx=>cB x (λc=>bB c a b) false) false
def SQ(_c _a _b:E)(fc fa fb:EV):EV:=λS H acc k=>fc S H [] λl=>isB l (fa S H acc k)<|fb S H acc k
def fev(e:E):EV:=E.rec (motive:=λ_=>EV) Uu Us Ut SO SP SQ e
def one(l:List FV)(k:FV->Bool):Bool:=l1 l k false
def BC(e:E)(S:FS)(H:FH)(k:FV->Bool):Bool:=fev e S H [] λl=>one l k
def Cd(l:List<|Nat×E):FS->FH->FS->(FS->Bool)->Bool:=
 List.rec (motive:=λ_=>FS->FH->FS->(FS->Bool)->Bool) (λ_ _ A k=>k A) (λp _ ih S H A k=>BC p.2 S H λv=>A.set p.1 v λA'=>ih S H A' k) l
def KV(l:List E):FS->FH->Bool->Bool:=
 List.rec (motive:=λ_=>FS->FH->Bool->Bool) (λ_ _ k=>k) (λe _ ih S H k=>fev e S H [] λ_=>ih S H k) l
def fpc(l:PC):FS->FH->Bool->Bool->Bool:=
 List.rec (motive:=λ_=>FS->FH->Bool->Bool->Bool) (λ_ _ y _=>y) (λp _ ih S H y n=>fev p.1 S H [] λl=>isB l (bB p.2 (ih S H y n) n)<|bB p.2 n<|ih S H y n) l
abbrev kZ:=Nat->FuncId->List FV->FH->(FV->FH->Bool)->Bool
abbrev HF:=kZ->Nat->List FV->FH->(FV->FH->Bool)->Bool
def noH:HF:=λ_ _ _ _ _=>false
def SS(lo sz:Nat)(b o len cap:Nat)(sp:Option Nat)(new:List FV)(n:Nat)(H:FH)(k:FV->FH->Bool):Bool:=
 bB (Nat.ble (Nat.add len n) cap)
  (bB (Option.rec true (λz=>Nat.beq z sz) sp) (H.wr lo b (Nat.add o<|Nat.mul len sz) new λH=>fN (Nat.add len n) λl=>k (.s b o l cap sp) H) false)
  (bB (Nat.ble (Nat.add len n) 4294967296)
   (H.blk b λm t=>
    (λ(go:FH->Bool)=>Option.rec (go H) (λz=>bB (Nat.beq z sz) (bB (Nat.ble lo b) (H.setB b .no go) false) false) sp) λH=>
    fN (Nat.mul len sz) λln=>
    (λ(go:T FV->Bool)=>bB (Nat.beq o 0) (bB (Nat.beq ln m) (go t)<|bB (Nat.ble ln m) (t.rd o ln [] λl=>T.insL l 0 .e go) false)<|bB (Nat.ble (Nat.add o ln) m) (t.rd o ln [] λl=>T.insL l 0 .e go) false) λt=>
    T.insL new ln t λt=>fN (Nat.add ln new.length) λm=>H.push (.mk m t) λc H=>fN (Nat.add len n) λl=>k (.s c 0 l l<|some sz) H)
   false)
def Nt(sz:Nat)(len cap:Nat)(new:List FV)(n:Nat)(H:FH)(k:FV->FH->Bool):Bool:=
 bB (Nat.ble (Nat.add len n) cap) (fN (Nat.add len n) λl=>k (.o<|.slice none l cap) H)
  (bB (Nat.ble (Nat.add len n) 4294967296) (bB (Nat.beq len 0) (H.pushL new λb H=>k (.s b 0 n n<|some sz) H) false) false)
def vu(lo sz:Nat)(s:FV)(new:List FV)(n:Nat)(H:FH)(k:FV->FH->Bool):Bool:=
 FV.casesOn s (λ_ _=>false) (λ_=>false) (λ_ _=>false) (λb o l c sp=>SS lo sz b o l c sp new n H k)
  (λv=>match v with
   | .slice none l c=>Nt sz l c new n H k
   | _=>false)
def fCall(raise:Bool):HF:=fun cf lo vs H k=>List.casesOn vs false fun x r=>cO x (fun v=>match v with
 | .func (.func f) first cap=>ofL first.toList fun a=>ofL cap.toList fun c=>cf (bB' raise H.size lo) f (a++r++c) H k
 | _=>false) false
where bB' (b:Bool) (x y:Nat):Nat:=Bool.rec y x b
def PN(zero:XV):HF:=λ_ _ vs H k=>List.casesOn vs (ofL zero λl=>H.pushL l λb H=>k (.p b 0) H) λ_ _=>false
def Ao(x:FV)(k:List FV->Bool):Bool:=cO x (λv=>ofL v.cells.toList k)<|k [x]
def Uy:HF:=λ_ _ vs H k=>l1 vs (λx=>Ao x λl=>H.pushL l λb H=>k (.p b 0) H) false
def fMk(zero:XV):HF:=λ_ _ vs H k=>l2 vs (λx y=>cI x (λ_ l=>cI y (λ_ c=>bB (Nat.ble l c) (bB (Nat.ble c 4294967296)
 (l1 zero (λz=>ofV z λz=>T.rep z 40 c λt=>H.push (.mk c t) λb H=>k (.s b 0 l c none) H)<|ofL (bK zero c) λz=>H.pushL z λb H=>k (.s b 0 l c none) H) false) false) false) false) false
def Uw(zero:XV)(len:Nat)(idx:XN):HF:=λ_ _ vs H k=>oB (buildL (bK zero len) (idx.map λi=>(i*zero.length,zero.length))<|toL vs) λl=>ofL l λl=>H.pushL l λb H=>k (.s b 0 len len none) H
def fSt(n:Nat):HF:=λ_ lo vs H k=>l2 vs (λx y=>cP x (λb o=>Ao y λl=>bB (Nat.beq l.length n) (Fm Eu l<|H.wr lo b o l λH=>k nI H) false) false) false
def SU(sz:Nat):HF:=λ_ lo vs H k=>l2 vs (λs x=>FV.casesOn x (λ_ _=>false) (λ_=>false) (λ_ _=>false)
 (λb o n _ _=>H.rd b o (Nat.mul n sz) λnew=>Fm Eu new<|vu lo sz s new n H k)
 (λv=>match v with
  | .slice none n _=>bB (Nat.beq n 0) (vu lo sz s [] 0 H k) false
  | _=>false)) false
def SV:HF:=λ_ lo vs H k=>l2 vs (λs x=>cO x (λv=>match v with
  | .string x=>ofL (x.data.toList.map λb=>.int .u8 b.toNat) λl=>fN x.size λn=>vu lo 1 s l n H k
  | _=>false) false) false
def Uz(sz:Nat):HF:=fun _ lo vs H k=>l2 vs (fun d a=>cS d (fun b o n _ _=>cS a (fun b' o' m _ _=>fN (min m n) fun l=>H.rd b' o' (Nat.mul l sz) fun new=>Fm Eu new (H.wr lo b o new fun H=>k (.i .i64 l) H))
  (cO a (fun v=>match v with
   | .slice none m _=>bB (Nat.beq m 0) (k (.i .i64 0) H) false
   | _=>false) false))
 (cO d (fun v=>match v with
  | .slice none n _=>bB (Nat.beq n 0) (bB (isS a) (k (.i .i64 0) H) false) false
  | _=>false) false)) false
where isS (a:FV):Bool:=FV.casesOn a (fun _ _=>false) (fun _=>false) (fun _ _=>false) (fun _ _ _ _ _=>true) (fun v=>match v with
 | .slice none _ _=>true
 | _=>false)
def VG:HF:=λ_ _ vs H k=>l1 vs (λx=>cO x (λv=>match v with
  | .string x=>ofL (x.data.toList.map λb=>.int .u8 b.toNat) λl=>fN x.size λn=>H.pushL l λb H=>k (.s b 0 n n<|some 1) H
  | _=>false) false) false
def VC:HF:=λ_ lo vs H k=>l1 vs (λx=>cS x (λb o n c sp=>Option.rec (H.blk b λ_ _=>bB (Nat.ble lo b) (k (.s b o n c none) H) false) (λ_=>false) sp) false) false
def GG(x:FV):Option Nat:=FV.casesOn x (λ_ _=>none) (λ_=>none) (λb _=>some b) (λb _ _ _ _=>some b) λv=>aT v
def JN:Value->Value->Bool
 | .int k a,.int k' b=>decide (k=k')&&decide (a=b)
 | .bool a,.bool b=>a==b
 | .slice a l c,.slice a' l' c'=>decide (a=a')&&(l==l'&&c==c')
 | .pointer a,.pointer a'=>decide<|a=a'
 | .map a,.map a'=>decide<|a=a'
 | .string a,.string a'=>decide<|a=a'
 | .nilFunc,.nilFunc=>true
 | .nilIface,.nilIface=>true
 | _,_=>false
def ue:XV->XV->Bool
 | [],[]=>true
 | a::x,b::y=>JN a b&&ue x y
 | _,_=>false
def C7(A B:FH)(v:FV):Bool->Bool:=λk=>Option.rec k (λi=>A.blk i λm t=>B.blk i λm' t'=>t.rd 0 m [] λl=>t'.rd 0 m' [] λl'=>bB (ue (toL l)<|toL l') k false)<|GG v
def xS(A B:FH)(l:List FV):Bool->Bool:=List.rec (λk=>k) (λv _ ih k=>C7 A B v<|ih k) l
def PO(n:Nat):HF:=λcf lo vs H k=>fCall false cf lo (vs.drop n) H λv H'=>xS H H' (vs.take n)<|k v H'
def PS:HF:=λ_ _ vs H k=>bB (Nat.ble vs.length 1) (H.pushL [] λb H=>k (.o<|.map<|some b) H) false
def l3{α β:Type}(l:List β)(f:β->β->β->α)(d:α):α:=List.casesOn l d λx r=>List.casesOn r d λy r=>List.casesOn r d λz r=>List.casesOn r (f x y z) λ_ _=>d
def SZ(ks:XN)(agg:Bool):HF:=λ_ lo vs H k=>l3 vs (λm y z=>cO m (λv=>match v with
 | .map (some i)=>bB (Nat.ble lo i) (H.blk i λn t=>t.rd 0 n [] λl=>oB (iJ ks agg (toV y)<|toV y) λ_=>oB (eJ ks agg (toV y) (toL l) 0) λr=>ofL (Iu (toL l) (toV y) (toV z) r) λl'=>T.insL l' 0 .e λt'=>fN l'.length λm=>H.setB i (.mk m t') λH=>k nI H) false
 | _=>false) false) false
def SX:HF:=λ_ lo vs H k=>l1 vs (λm=>cO m (λv=>match v with
 | .map none=>k nI H
 | .map (some i)=>bB (Nat.ble lo i) (H.blk i λ_ _=>H.setB i (.mk 0 .e) λH=>k nI H) false
 | _=>false) false) false
def SW(sz:Nat)(zero:XV):HF:=λ_ lo vs H k=>l2 vs (λs x=>cI x (λ_ n=>bB (Nat.ble n 1048576) (ofL (bK zero n) λnew=>vu lo sz s new n H k) false) false) false
def Nv(o:HOp):HF:=HOp.casesOn (motive:=λ_=>HF) o fCall PO PN Uy fMk Uw fSt (λsz _=>SU sz) (λ_=>SV) Uz VG noH (fCall false) noH VC PS SZ SX noH noH SW
abbrev FX:=Nat->FS->FH->(Ex->FS->FH->Bool)->Bool
abbrev FP:=FX×(Nat->FX)
def noX:FX:=λ_ _ _ _=>false
def noL:Nat->FX:=λ_=>noX
def Uc:FP:=(λ_ S H k=>k .normal S H,noL)
def Ub(l:List<|Nat×E)(chk:List E):FP:=(λ_ S H k=>Cd l S H S λA=>KV chk S H<|k .normal A H,noL)
def SN(d:Option Nat)(v:FV)(A:FS)(k:FS->Bool):Bool:=Option.rec (k A) (λd=>A.set d v k) d
def xHv(callF:kZ)(l:List<|Nat×E)(chk:List E)(pc:PC)(dst:Option Nat)(o:HOp)(a:E):FP:=(λlo S H k=>
 Cd l S H S λA=>KV chk S H<|fpc pc S H (fev a S H [] λxs=>Nv o callF lo xs H λv H'=>SN dst v A λA=>k .normal A H')<|SN dst nI A λA=>k .normal A H,noL)
def U7(a b:E):FP:=(λ_ S H k=>BC a S H λx=>BC b S H λy=>
 Option.rec (k .normal S H) (λi=>Option.rec (k .normal S H) (λj=>bB (Nat.beq i j) false<|k .normal S H)<|GG y)<|GG x,noL)
def cEx{α:Type}(x:Ex)(n:α)(e:Nat->α)(r:α):α:=Ex.rec n e r x
def WV(_ _:Stm)(fa fb:FP):FP:=(λlo S H k=>fa.1 lo S H λx S H=>cEx x (fb.1 lo S H k) (λi=>k (.exit i) S H)<|k .ret S H,noL)
def U6(c:E)(_ _:Stm)(fa fb:FP):FP:=(λlo S H k=>fev c S H [] λl=>isB l (fa.1 lo S H k)<|fb.1 lo S H k,noL)
def RY(i:Nat)(_:Stm)(fb:FP):FP:=(λlo S H k=>fb.1 lo S H λx S H=>cEx x (k .normal S H) (λj=>bB (Nat.beq j i) (k .normal S H)<|k (.exit j) S H)<|k .ret S H,noL)
def itF(f:FX)(n:Nat):FX:=Nat.rec (motive:=λ_=>FX) noX (λ_ ih lo S H k=>f lo S H λx S H=>cEx x (ih lo S H k) (λi=>k (.exit i) S H)<|k .ret S H) n
def Ua(n:Nat)(_:Stm)(fb:FP):FP:=(itF fb.1 n,noL)
def U8(i:Nat):FP:=(λ_ S H k=>k (.exit i) S H,noL)
def WU:FP:=(λ_ S H k=>k .ret S H,noL)
abbrev HX:=Ex->FS->FH->(Ex->FS->FH->Bool)->Bool
def KZ(f:Nat->FX)(lo n:Nat):HX:=
 Nat.rec (motive:=λ_=>HX) (λ_ _ _ _=>false)
  (λ_ ih x S H k=>cEx x (k .normal S H) (λj=>bB (Nat.ble 1000000 j) (f (Nat.sub j 1000000) lo S H λx S H=>ih x S H k)<|k (.exit j) S H)<|k .ret S H) n
def R0(n:Nat)(_ _:Stm)(fb fa:FP):FP:=(λlo S H k=>fb.1 lo S H λx S H=>KZ fa.2 lo n x S H k,noL)
def xAlt(l:Nat)(_ _:Stm)(fs fr:FP):FP:=(noX,fun t=>bX (fs.1) (fr.2 t) (Nat.beq t l))
where bX (x y:FX) (b:Bool):FX:=Bool.rec y x b
def iH(callF:kZ)(n:Nat)(s:Stm):FP:=
 Stm.rec (motive:=λ_=>FP) Uc Ub (xHv callF) U7 WV U6 RY (Ua n) U8 WU (R0 n) xAlt s
def EL(l:List E):FS->FH->(List FV->Bool)->Bool:=
 List.rec (motive:=λ_=>FS->FH->(List FV->Bool)->Bool) (λ_ _ k=>k []) (λe _ ih S H k=>BC e S H λv=>ih S H λl=>k (v::l)) l
def JG(l:List FV)(k:FV->Bool):Bool:=List.casesOn l (k<|.o<|.tuple #[]) λx r=>List.casesOn r (k x) λ_ _=>k<|.o<|.tuple ⟨toL l⟩
def Hk(cp:Wl)(n:Nat)(ih:kZ)(lo g:Nat)(args:List FV)(H:FH)(k:FH->Bool):Bool:=
 oB (cp g) λcg=>CK.casesOn cg.kind false (λ_ _ _=>false) (λj=>bB (Nat.beq args.length cg.np)
  (T.rep nI 12 cg.ns λS=>T.setL args 0 S λS=>S.set j (.o .nilIface) λS=>(iH ih n cg.body).1 lo S H λx _ H=>cEx x (k H) (λ_=>false)<|k H) false) λ_=>false
def wB(res:List E)(S:FS)(H:FH)(k:FV->FH->Bool):Bool:=EL res S H λl=>JG l λv=>k v H
def S9(cp:Wl)(n:Nat)(ih:kZ)(lo:Nat)(res:List E)(body mid:Stm)(j:Nat)(rest:Stm)(S:FS)(H:FH)(k:FV->FH->Bool):Bool:=
 (iH ih n body).1 lo S H λx S H=>cEx x ((iH ih n mid).1 lo S H λx S H=>cEx x
  (oB (S.get j) λv=>cO v (λv=>match v with
   | .func (.func g) first cap=>(iH ih n rest).1 lo S H λx S2 H2=>
    (λ(go:Bool)=>cEx x go (λ_=>false) go)<|ofL (first.toList++cap.toList) λa=>Hk cp n ih lo g a H2 λH3=>wB res S2 H3 k
   | _=>false) false) (λ_=>false) false) (λ_=>false)<|wB res S H k
abbrev SC:=FuncId->List FV->(FV->Nat->Bool)->Bool->Bool
def FH.skip(H:FH)(lo g:Nat)(k:FH->Bool):Bool:=FH.rec (λn t=>bB (Nat.ble lo n) (fN (Nat.add n g) λm=>k<|.mk m t) false) H
def Sa(cp:Wl)(sc:SC)(n:Nat)(ih:kZ):kZ:=λlo f args H k=>
 sc f args (λv g=>H.skip lo g λH=>k v H)
 (oB (cp f) λcf=>bB (Nat.beq args.length cf.np)
  (T.rep nI 12 cf.ns λS=>T.setL args 0 S λS=>CK.casesOn cf.kind
   ((iH ih n cf.body).1 lo S H λx S H=>cEx x (EL cf.res S H λl=>JG l λv=>k v H) (λ_=>false)<|EL cf.res S H λl=>JG l λv=>k v H)
   (λmid j rest=>S9 cp n ih lo cf.res cf.body mid j rest S H k) (λ_=>false) λ_=>false) false)
def nz(cp:Wl)(sc:SC)(N n:Nat):kZ:=Nat.rec (motive:=λ_=>kZ) (λ_ _ _ _ _=>false) (λm ih=>Sa cp sc (Nat.add m N) ih) n
end
theorem gf(n:Nat)(k:Nat->Bool):fN n k=k n:=by cases n<;>rfl
def ku{a:Type}{o:Option a}{k:a->Bool}(h:oB o k=true):∃v,o=some v/\k v=true:=by
 cases o with
 | none=>grind[oB]
 | some v=>exact⟨v,rfl,h⟩
theorem dh{b x:Bool}(h:bB b x false=true):b=true/\x=true:=by cases b<;>simp_all [bB]
def eV{a:Prop}{b x y:Bool}(h:bB b x y=true)(c:b=true->x=true->a)(d:b=false->y=true->a):a:=by
 cases b
 .exact d rfl h
 .exact c rfl h
theorem T.get_z{b:Type}(a:b)(l r:T b):(T.nd a l r).get 0=some a:=rfl
theorem T.get_s{b:Type}(a:b)(l r:T b)(j:Nat):(T.nd a l r).get (j+1)=if j%2=0 then l.get (j/2) else r.get (j/2):=by show T.get.bB' (l.get<|j/2) (r.get<|j/2) (Nat.beq (j%2) 0)=_;rcases Nat.mod_two_eq_zero_or_one j with h|h<;>rw[h]<;>rfl
theorem T.get_e{a:Type}(j:Nat):(T.e:T a).get j=none:=rfl
theorem T.get_n{c:Type}{a b:c}{l r l' r':T c}{i:Nat}{v:c}(d:i=0->b=v/\l'=l/\r'=r)(f:∀j,i=j+1->b=a/\(if j%2=0 then(∀m,l'.get m=if m=j/2 then some v else l.get m)/\r'=r else l'=l/\∀m,r'.get m=if m=j/2 then some v else r.get m)) :
  ∀m,(T.nd b l' r').get m=if m=i then some v else(T.nd a l r).get m:=by
 intro m;cases i with
 | zero=>
  obtain⟨rfl,rfl,rfl⟩:=d rfl;cases m with
  | zero=>rfl
  | succ m=>rfl
 | succ j=>
  obtain⟨rfl,h⟩:=f j rfl;cases m with
  | zero=>rfl
  | succ m=>
   grind[get_s]
theorem T.ins_ok{d:Type}:∀(t:T d) (i:Nat) (v:d) (k:T d->Bool),t.ins i v k=true->∃b,k b=true/\∀m,b.get m=if m=i then some v else t.get m
 | .e,0,v,k,h=>⟨_,h,λm=>by
   cases m with
   | zero=>rfl
   | succ m=>grind[get_s,get_e]⟩
 | .e,i+1,v,k,h=>by cases h
 | .nd a l r,0,v,k,h=>⟨_,h,T.get_n (λ_=>⟨rfl,rfl,rfl⟩) λj n=>by cases n⟩
 | .nd a l r,j+1,v,k,h=>by
  have h:bB (Nat.beq (j%2) 0) (l.ins (j/2) v λl'=>k<|.nd a l' r) (r.ins (j/2) v λr'=>k<|.nd a l r')=true:=h;refine eV h (λg h=>?_) λg h=>?_
  .have⟨b,c,f⟩:=T.ins_ok l _ _ _ h
   refine⟨_,c,T.get_n (λh=>by cases h) λm o=>?_⟩
   simp_all
  .have⟨b,c,f⟩:=T.ins_ok r _ _ _ h
   refine⟨_,c,T.get_n (λh=>by cases h) λm o=>?_⟩
   grind[Nat.ne_of_beq_eq_false]
theorem T.path_ok{g:Type}{d v:g}:∀(f i:Nat) (k:T g->Bool),T.path d v f i k=true->∃b,k b=true/\b.get i=some v/\∀m,m≠i->b.get m=none\/m<i/\b.get m=some d
 | 0,i,k,h=>by cases h
 | f+1,0,k,h=>⟨_,h,rfl,λm c=>by
   obtain⟨m,rfl⟩:∃q,m=q+1:=⟨m-1,byO⟩
   grind[get_s,get_e]⟩
 | f+1,j+1,k,h=>by
  have⟨t,l,n,o⟩:=T.path_ok f (j/2) _ (show T.path d v f (j/2) (λt=>bB (Nat.beq (j%2) 0) (k<|.nd d t .e)<|k<|.nd d .e t)=true from h);refine eV l (λa h=>?_) λa h=>?_
  .have a:=Nat.eq_of_beq_eq_true a
   refine⟨_,h,by grind[get_s],λm c=>?_⟩;cases m with
   | zero=>exact .inr ⟨byO,rfl⟩
   | succ m=>
    grind[get_s,get_e]
  .have a:=Nat.ne_of_beq_eq_false a
   refine⟨_,h,by grind[get_s],λm c=>?_⟩;cases m with
   | zero=>exact .inr ⟨byO,rfl⟩
   | succ m=>
    grind[get_s,get_e]
theorem T.insD_ok{g:Type}{d:g}:∀(t:T g) (i:Nat) (v:g) (k:T g->Bool),t.insD d i v k=true->∃b,k b=true/\b.get i=some v/\∀m,m≠i->b.get m=t.get m\/m<i/\b.get m=some d
 | .e,i,v,k,h=>by
  have⟨t,f,n,o⟩:=T.path_ok 40 i k h
  grind[get_e]
 | .nd a l r,0,v,k,h=>⟨_,h,rfl,λm p=>by
   obtain⟨m,rfl⟩:∃q,m=q+1:=⟨m-1,byO⟩
   grind[get_s]⟩
 | .nd a l r,j+1,v,k,h=>by
  have h:bB (Nat.beq (j%2) 0) (l.insD d (j/2) v λl'=>k<|.nd a l' r) (r.insD d (j/2) v λr'=>k<|.nd a l r')=true:=h;refine eV h (λc h=>?_) λc h=>?_
  .have c:=Nat.eq_of_beq_eq_true c
   have⟨b,f,n,o⟩:=T.insD_ok l _ _ _ h;refine⟨_,f,by grind[get_s],λm p=>?_⟩;cases m with
   | zero=>exact .inl rfl
   | succ m=>
    grind[get_s]
  .have c:=Nat.ne_of_beq_eq_false c
   have⟨b,f,n,o⟩:=T.insD_ok r _ _ _ h;refine⟨_,f,by grind[get_s],λm p=>?_⟩;cases m with
   | zero=>exact .inl rfl
   | succ m=>
    grind[get_s]
theorem T.set_ok{d:Type}:∀(t:T d) (i:Nat) (v:d) (k:T d->Bool),t.set i v k=true->∃b,k b=true/\t.get i≠none/\∀m,b.get m=if m=i then some v else t.get m
 | .e,i,v,k,h=>by cases h
 | .nd a l r,0,v,k,h=>⟨_,h,by grind[get_z],T.get_n (λ_=>⟨rfl,rfl,rfl⟩) λj o=>by cases o⟩
 | .nd a l r,j+1,v,k,h=>by
  have h:bB (Nat.beq (j%2) 0) (l.set (j/2) v λl'=>k<|.nd a l' r) (r.set (j/2) v λr'=>k<|.nd a l r')=true:=h;refine eV h (λn h=>?_) λn h=>?_
  .have⟨b,c,f,g⟩:=T.set_ok l _ _ _ h
   refine⟨_,c,by grind[get_s,Nat.eq_of_beq_eq_true],T.get_n (λh=>by cases h) λm p=>?_⟩
   simp_all
  .have⟨b,c,f,g⟩:=T.set_ok r _ _ _ h
   refine⟨_,c,by grind[get_s,Nat.ne_of_beq_eq_false],T.get_n (λh=>by cases h) λm p=>?_⟩
   grind[Nat.ne_of_beq_eq_false]
def Rep{α:Type}(t:T α)(l:List α):Prop:=∀i,t.get i=l[i]?
def AH{a:Type}:Rep (T.e:T a) []:=λi=>by rfl
theorem T.set_rep{b:Type}{t:T b}{l:List b}(r:Rep t l){i:Nat}{v:b}{k:T b->Bool}(h:t.set i v k=true):∃a,k a=true/\i<l.length/\Rep a (l.set i v):=by
 have⟨a,d,c,f⟩:=T.set_ok _ _ _ _ h;rw[r i]at c;have g:i<l.length:=by
  simp_all
 refine⟨a,d,g,λm=>?_⟩;rw[f m,r m,List.getElem?_set]
 grind
theorem T.ins_rep{b:Type}{t:T b}{l:List b}(r:Rep t l){v:b}{k:T b->Bool}(h:t.ins l.length v k=true):∃a,k a=true/\Rep a (l++[v]):=by
 have⟨a,c,d⟩:=T.ins_ok _ _ _ _ h;refine⟨a,c,λm=>?_⟩;rw[d m,r m]
 grind
theorem T.insL_rep{a:Type}:∀(vs:List a) {t:T a} {l:List a} (_:Rep t l) {n:Nat} (_:n=l.length) {k:T a->Bool} (_:T.insL vs n t k=true),∃b,k b=true/\Rep b (l++vs)
 | [],t,l,r,n,c,k,h=>⟨t,h,by simpa using r⟩
 | v::vs,t,l,r,n,c,k,h=>by
  subst c;have⟨b,d,f⟩:=T.ins_rep r h;have⟨j,g,i⟩:=T.insL_rep vs f Wc d
  grind
def vL{α:Type}(c:List α)(o:Nat)(vs:List α):List α:=c.take o++(vs++c.drop (o+vs.length))
theorem FE{a:Type}(v:a)(vs:List a)(c:List a)(o:Nat)(h:o<c.length):vL (c.set o v) (o+1) vs=vL c o (v::vs):=by grind[vL,List.take_succ_eq_append_getElem,List.take_set_of_le,List.drop_set_of_lt]
theorem T.setL_rep{a:Type}:∀(vs:List a) {t:T a} {l:List a} (_:Rep t l) {o:Nat} {k:T a->Bool} (_:T.setL vs o t k=true),∃b,k b=true/\Rep b (vL l o vs)
 | [],t,l,r,o,k,h=>⟨t,h,by simp_all[vL]⟩
 | v::vs,t,l,r,o,k,h=>by
  have⟨b,c,g,d⟩:=T.set_rep r h;have⟨j,f,i⟩:=T.setL_rep vs d c
  grind[FE]
theorem T.rd_rep{b:Type}{t:T b}{l:List b}(r:Rep t l)(o:Nat):∀(n:Nat) (a:List b) {k:List b->Bool},t.rd o n a k=true->∃c,c.length=n/\k (c++a)=true/\(n=0\/o+n<=l.length)/\c=(l.drop o).take n
 | 0,a,k,h=>⟨[],rfl,h,.inl rfl,Wc⟩
 | n+1,a,k,h=>by
  have h:oB (t.get<|o+n) (λv=>t.rd o n (v::a) k)=true:=h;have⟨v,d,h⟩:=ku h;have⟨c,f,g,i,j⟩:=T.rd_rep r o n _ h;rw[r]at d;have⟨m,d⟩:=List.getElem?_eq_some_iff.1 d;refine⟨c++[v],by simp[f],Wx,.inr byO,?_⟩
  grind[List.take_succ_eq_append_getElem]
theorem OG{a:Type}{v:a}{l r:T a}{m:Nat}(b:Rep l<|List.replicate ((m+1)/2) v)(c:Rep r<|List.replicate (m/2) v):Rep (T.nd v l r)<|List.replicate (m+1) v:=by
 intro i;cases i with
 | zero=>rfl
 | succ j=>
  rw[T.get_s,b,c]
  grind
theorem T.rep_rep{c:Type}(v:c):∀(f n:Nat) {k:T c->Bool},T.rep v f n k=true->∃t,k t=true/\Rep t (List.replicate n v)
 | 0,n,k,h=>by cases h
 | f+1,0,k,h=>⟨.e,h,AH⟩
 | f+1,m+1,k,h=>by
  have h:T.rep v f (m/2) (λr=>bB (Nat.beq (m%2) 0) (k<|.nd v r r)<|r.ins (m/2) v λl=>k<|.nd v l r)=true:=h;have⟨r,h,b⟩:=T.rep_rep v f _ h;refine eV h (λa h=>?_) λa h=>?_
  .grind[Nat.eq_of_beq_eq_true,OG]
  .have a:=Nat.ne_of_beq_eq_false a
   have g:r.ins (List.replicate (m/2) v).length v (λl=>k<|.nd v l r)=true:=Wy
   have⟨l,d,i⟩:=T.ins_rep b g;exact⟨_,d,OG (by rw[show(m+1)/2=m/2+1 by omega,List.replicate_succ'];exact i) b⟩
theorem eP(l:List FV):toL l=l.map toV:=by
 induction l with
 | nil=>rfl
 | cons v l a=>grind[toL]
def Fk{b:Bool}{k:FV->Bool}(h:M3 b k=true):∃x,toV x=.bool b/\k x=true:=by cases b<;>exact⟨_,rfl,h⟩
def Jt{kd:IntKind}{z:Int}{k:FV->Bool}(h:R3 kd z k=true):∃x,toV x=.int kd z/\k x=true:=by
 cases z with
 | ofNat n=>exact⟨.i kd n,rfl,by have h:fN n (λn=>k<|.i kd n)=true:=h;grind[gf]⟩
 | negSucc n=>exact⟨.o<|.int kd<|.negSucc n,rfl,by have h:fN n (λn=>k<|.o<|.int kd<|.negSucc n)=true:=h;grind[gf]⟩
def Ju{a:Option Addr}{k:FV->Bool}(h:R4 a k=true):∃x,toV x=.pointer a/\k x=true:=by
 rcases a with _|⟨b,o,_|z⟩
 .exact⟨_,rfl,h⟩
 .have h:fN b (λb=>fN o λo=>k<|.p b o)=true:=h
  simp[gf]at h;exact⟨_,rfl,h⟩
 .exact⟨_,rfl,h⟩
def Jv{a:Option Addr}{l c:Nat}{k:FV->Bool}(h:OX a l c k=true):∃x,toV x=.slice a l c/\k x=true:=by
 unfold OX at h;simp[gf]at h;rcases a with _|⟨b,o,_|z⟩
 all_goals exact⟨_,rfl,h⟩
theorem uG{v:Value}{k:FV->Bool}(h:ofV v k=true):∃x,toV x=v/\k x=true:=by
 cases v
 case bool b=>exact Fk h
 case int kd z=>exact Jt h
 case pointer a=>exact Ju h
 case slice a l c=>exact Jv h
 all_goals exact⟨_,rfl,h⟩
theorem jE:∀{l:XV} {k:List FV->Bool},ofL l k=true->∃x,toL x=l/\k x=true
 | [],k,h=>⟨[],rfl,h⟩
 | v::l,k,h=>by
  have⟨x,d,b⟩:=uG h;have⟨xs,a,c⟩:=jE b;exact⟨x::xs,by rw[<-d,<-a];rfl,c⟩
theorem iG(l:List FV):(toL l).length=l.length:=by simp[eP]
theorem y9(l m:List FV):toL (l++m)=toL l++toL m:=by simp[eP]
theorem rl{p:FV->Bool}:∀{l:List FV} {k:Bool},Fm p l k=true->(l.all p=true)/\k=true
 | [],k,h=>⟨rfl,h⟩
 | v::l,k,h=>by
  have⟨b,a⟩:=dh h;have⟨c,d⟩:=rl a
  simp_all
theorem Lc{x:FV}(h:Eu x=true):(toV x).oneCell'=true:=by cases x<;>first|rfl|exact h
theorem yE{l:List FV}(h:l.all Eu=true):oneCells (toL l)=true:=by grind[eP,oneCells,Lc]
def RO:Option Blk->Option (Option XV)->Prop
 | some<|.mk m u,some (some c)=>∃l,Rep u l/\l.length=m/\c=toL l
 | some .no,some none=>True
 | some .un,some _=>True
 | none,_=>True
 | _,_=>False
def RH(F:FH)(H:Heap):Prop:=∃t,F=.mk H.length t/\∀b,RO (t.get b) H[b]?
theorem RH.size{F:FH}{H:Heap}(r:RH F H):F.size=H.length:=by obtain⟨t,rfl,_⟩:=r;rfl
def jg{F:FH}{H:Heap}(r:RH F H){b:Nat}{k:Nat->T FV->Bool}(h:F.blk b k=true):∃u l,k l.length u=true/\Rep u l/\H.get b=some (toL l)/\b<H.length:=by
 obtain⟨t,rfl,d⟩:=r;have⟨x,e,h⟩:=ku h;have:=d b;rw[e]at this;rcases x with ⟨m,u⟩|_|_
 .rcases a:H[b]? with _|_|c
  .rw[a]at this;exact this.elim
  .rw[a]at this;exact this.elim
  .rw[a]at this
   obtain⟨l,f,rfl,rfl⟩:=this
   grind[Heap.get]
 all_goals simp_all
def sM{F:FH}{H:Heap}(r:RH F H){b:Nat}{x:Blk}{y:Option XV}(n:RO (some x)<|some y){k:FH->Bool}(h:F.setB b x k=true):∃c,k c=true/\RH c (H.set b y):=by
 obtain⟨t,rfl,f⟩:=r;have⟨g,e,d,j⟩:=T.set_ok _ _ _ _ h;refine⟨_,e,g,Wc,λi=>?_⟩;have l:b<H.length:=by
  apply Decidable.byContradiction;intro m;have:=f b;rw[av₀ byO]at this;rcases a:t.get b with _|_|_|_
  .exact d a
  .rw[a]at this;exact this
  .rw[a]at this;exact this
  .rw[a]at this;exact this
 grind
def yJ{F:FH}{H:Heap}(r:RH F H){x:Blk}{y:Option XV}(l:RO (some x)<|some y){k:Nat->FH->Bool}(h:F.push x k=true):∃a,k H.length a=true/\RH a (H++[y]):=by
 obtain⟨t,rfl,j⟩:=r;have⟨f,c,g,d⟩:=T.insD_ok _ _ _ _ h;refine⟨_,c,f,Wc,λi=>?_⟩;by_cases e:i=H.length
 .simp_all
 .by_cases b:i<H.length
  .rw[ax₀ b]
   rcases d i e with h|⟨-,h⟩
   .grind
   .rw[h,bc₀ b];exact trivial
  grind
theorem DS{F:FH}{H:Heap}(r:RH F H){b o n:Nat}{k:List FV->Bool}(h:F.rd b o n k=true):∃l,k l=true/\l.length=n/\H.cells b o n=some (toL l):=by
 have⟨u,l,h,e,g,_⟩:=jg r h;have⟨i,h⟩:=dh h;have⟨c,d,a,_,f⟩:=T.rd_rep e o n [] h;rw[List.append_nil]at a;refine⟨c,a,d,?_⟩
 simp_all[Heap.cells,eP]
def Jm{F:FH}{H:Heap}(r:RH F H){lo b o:Nat}{vs:List FV}{k:FH->Bool}(h:F.wr lo b o vs k=true):∃a H',k a=true/\H.put lo b o (toL vs)=some H'/\RH a H':=by
 have⟨f,h⟩:=dh h;have⟨u,l,h,g,p,n⟩:=jg r h;have⟨c,h⟩:=dh h;have c:o+vs.length<=l.length:=Nat.le_of_ble_eq_true c;have⟨j,d,i⟩:=T.setL_rep vs g h;have e:(vL l o vs).length=l.length:=by grind[vL]
 have⟨a,m,q⟩:=sM r (x:=.mk l.length j) (y:=some<|putCells (toL l) o<|toL vs) ⟨_,i,e,by simp[putCells,vL,eP]⟩ d
 grind[Heap.put,iG,Nat.le_of_ble_eq_true]
theorem jt{F:FH}{H:Heap}(r:RH F H){vs:List FV}{k:Nat->FH->Bool}(h:F.pushL vs k=true):∃a,k H.length a=true/\RH a (H++[some<|toL vs]):=by have⟨t,h,b⟩:=T.insL_rep vs AH rfl h;rw[gf]at h;exact yJ r (x:=.mk vs.length t) (y:=some<|toL vs) ⟨vs,Wx,rfl,rfl⟩ h
def jm{β:Type}{l:List β}{f:β->Bool}(h:l1 l f false=true):∃x,l=[x]/\f x=true:=by
 rcases l with _|⟨x,_|⟨y,r⟩⟩
 .cases h
 .exact⟨x,rfl,h⟩
 .cases h
def oL{β:Type}{l:List β}{f:β->β->Bool}{d:Bool}(h:l2 l f d=true):(∃x y,l=[x,y]/\f x y=true)\/d=true:=by
 rcases l with _|⟨x,_|⟨y,_|⟨z,r⟩⟩⟩
 .exact .inr h
 .exact .inr h
 .exact .inl ⟨x,y,rfl,h⟩
 .exact .inr h
def qm{x:FV}{f:IntKind->Nat->Bool}{d:Bool}(h:cI x f d=true):(∃k n,x=.i k n/\f k n=true)\/d=true:=by cases x<;>first|exact .inl ⟨_,_,rfl,h⟩|exact .inr h
def Nm{x:FV}{f:Bool->Bool}{d:Bool}(h:cB x f d=true):(∃b,x=.b b/\f b=true)\/d=true:=by cases x<;>first|exact .inl ⟨_,rfl,h⟩|exact .inr h
def vQ{x:FV}{f:Nat->Nat->Bool}{d:Bool}(h:cP x f d=true):(∃b o,x=.p b o/\f b o=true)\/d=true:=by cases x<;>first|exact .inl ⟨_,_,rfl,h⟩|exact .inr h
def vR{x:FV}{f:Nat->Nat->Nat->Nat->Option Nat->Bool}{d:Bool}(h:cS x f d=true):(∃b o l c s,x=.s b o l c s/\f b o l c s=true)\/d=true:=by cases x<;>first|exact .inl ⟨_,_,_,_,_,rfl,h⟩|exact .inr h
def ow{x:FV}{f:Value->Bool}{d:Bool}(h:cO x f d=true):(∃v,x=.o v/\f v=true)\/d=true:=by cases x<;>first|exact .inl ⟨_,rfl,h⟩|exact .inr h
theorem sf(b o n:Nat):Heap.cells [] b o n=none:=by simp[Heap.cells,Heap.get]
theorem I2{o:LOp}{vs:XV}{H:Heap}{v:Value}(h:aG o vs []=some v):aG o vs H=some v:=by
 cases b:gG o
 .grind[rL]
 .all_goals
   simp[aG]at h ⊢;grind[sf,Heap.get]
def fq{o:LOp}{vs:List FV}{F:FH}{H:Heap}{k:FV->Bool}(h:gV o vs F k=true):∃x,aG o (toL vs) H=some (toV x)/\k x=true:=by have⟨v,b,h⟩:=ku h;grind[uG,I2]
theorem RV{kd:IntKind}{n:Nat}(h:n<=uC kd):kd.wrap (n:Int)=n:=by cases kd<;>simp[uC]at h<;>simp[IntKind.wrap,IntKind.bits,IntKind.signed]<;>omega
def kV{kd:IntKind}{n:Nat}{k:FV->Bool}{d:Bool}(h:okN kd n k d=true):(kd.wrap (n:Int)=n/\k (.i kd n)=true)\/d=true:=by refine eV h (λa h=>.inl ?_) λ_ h=>.inr h;grind[gf,RV,Nat.le_of_ble_eq_true]
theorem nM{kd:IntKind}{n:Nat}(h:n<=uC kd):n<2^kd.bits:=by cases kd<;>simp[uC]at h<;>simp[IntKind.bits]<;>omega
theorem GD(kd:IntKind):Of kd=kd.bits:=by cases kd<;>rfl
theorem id_eq{k a:IntKind}(h:Nat.beq (idI k) (idI a)=true):k=a:=by cases k<;>cases a<;>first|rfl|cases h
def J5{b:Bool}{k:FV->Bool}(h:tf b k=true):k (.b b)=true:=by cases b<;>exact h
def Dd{b:Bool}{k:FV->Bool}(h:tn b k=true):k (.b !b)=true:=by cases b<;>exact h
theorem DA(a b:Nat):Nat.beq a b=decide (a=b):=by
 by_cases h:a=b
 .subst h;simp
 grind[Nat.eq_of_beq_eq_true]
theorem jO(a b:Nat):Nat.ble a b=decide (a<=b):=by
 grind[Nat.ble_eq_true_of_le,Nat.le_of_ble_eq_true]
theorem bvn{n w:Nat}(h:n<2^w):(BitVec.ofInt w (n:Int)).toNat=n:=by
 grind
def Jy{m:BinOp}{kd l:IntKind}{a b:Nat}{k:FV->Bool}{d:Bool}(i:mG m=true\/kd=l)(h:SD m kd a b k d=true):(∃x,aZ m (.int kd a) (.int l b)=some (toV x)/\k x=true)\/d=true:=by
 cases m
 case add=>
  obtain rfl:=i.resolve_left Xk;rcases kV h with ⟨f,g⟩|h
  all_goals grind[aZ,az,toV]
 case sub=>
  obtain rfl:=i.resolve_left Xk;refine eV h (λc h=>?_) λ_ h=>.inr h;rcases kV h with ⟨f,g⟩|h
  .have c:b<=a:=Nat.le_of_ble_eq_true c
   have e:((Nat.sub a b:Nat):Int)=(a:Int)-b:=Int.ofNat_sub c;grind[aZ,az,toV]
  .exact .inr h
 case mul=>
  obtain rfl:=i.resolve_left Xk;rcases kV h with ⟨f,g⟩|h
  all_goals grind[aZ,az,toV]
 case quo=>
  obtain rfl:=i.resolve_left Xk;refine eV h (λ_ h=>.inr h) λc h=>?_;rcases kV h with ⟨f,g⟩|h
  .have c:b≠0:=Nat.ne_of_beq_eq_false c
   have e:(a:Int).tdiv b=((Nat.div a b:Nat):Int):=rfl;grind[aZ,az,toV]
  .exact .inr h
 case rem=>
  obtain rfl:=i.resolve_left Xk;refine eV h (λ_ h=>.inr h) λc h=>?_;rcases kV h with ⟨f,g⟩|h
  .have c:b≠0:=Nat.ne_of_beq_eq_false c
   exact .inl ⟨_,by simp[aZ,az,toV,c];rfl,g⟩
  .exact .inr h
 case and=>
  obtain rfl:=i.resolve_left Xk;refine eV h (λj h=>?_) λ_ h=>.inr h;refine eV h (λc h=>?_) λ_ h=>.inr h;rcases kV h with ⟨f,g⟩|h
  .refine .inl ⟨_,?_,g⟩
   have f:kd.wrap ((a &&& b:Nat):Int)=((a &&& b:Nat):Int):=f;simp only[aZ,az,if_true,toV,BitVec.toNat_and,bvn<|nM<|Nat.le_of_ble_eq_true j,bvn<|nM<|Nat.le_of_ble_eq_true c,f];rfl
  .exact .inr h
 case or=>
  obtain rfl:=i.resolve_left Xk;refine eV h (λj h=>?_) λ_ h=>.inr h;refine eV h (λc h=>?_) λ_ h=>.inr h;rcases kV h with ⟨f,g⟩|h
  .refine .inl ⟨_,?_,g⟩
   have f:kd.wrap ((a ||| b:Nat):Int)=((a ||| b:Nat):Int):=f;simp only[aZ,az,if_true,toV,BitVec.toNat_or,bvn<|nM<|Nat.le_of_ble_eq_true j,bvn<|nM<|Nat.le_of_ble_eq_true c,f];rfl
  .exact .inr h
 case xor=>
  obtain rfl:=i.resolve_left Xk;refine eV h (λj h=>?_) λ_ h=>.inr h;refine eV h (λc h=>?_) λ_ h=>.inr h;rcases kV h with ⟨f,g⟩|h
  .refine .inl ⟨_,?_,g⟩
   have f:kd.wrap ((a ^^^ b:Nat):Int)=((a ^^^ b:Nat):Int):=f;simp only[aZ,az,if_true,toV,BitVec.toNat_xor,bvn<|nM<|Nat.le_of_ble_eq_true j,bvn<|nM<|Nat.le_of_ble_eq_true c,f];rfl
  .exact .inr h
 case andNot=>exact .inr h
 case shl=>
  refine eV h (λc h=>?_) λ_ h=>.inr h;have c:=Nat.le_of_ble_eq_true c;rw[GD]at c;rcases kV h with ⟨f,g⟩|h
  .refine .inl ⟨_,?_,g⟩
   simp_all[aZ,iE,toV]
  .exact .inr h
 case shr=>
  refine eV h (λc h=>?_) λ_ h=>.inr h;have c:=Nat.le_of_ble_eq_true c;rw[GD]at c;rw[gf]at h;refine .inl ⟨_,?_,h⟩;have e:(a:Int).fdiv (2^b)=((a/2^b:Nat):Int):=by
   grind
  simp only[aZ,iE,toV,Int.toNat_natCast,Nat.min_eq_left c,e];rfl
 case eql=>
  obtain rfl:=i.resolve_left Xk;refine .inl ⟨_,?_,J5 h⟩;grind[aZ,az,toV,DA,Value.bool.injEq]
 case neq=>
  obtain rfl:=i.resolve_left Xk;refine .inl ⟨_,?_,Dd h⟩;grind[aZ,az,toV,DA,Value.bool.injEq]
 case lss=>
  obtain rfl:=i.resolve_left Xk;refine .inl ⟨_,?_,Dd h⟩;grind[aZ,az,toV,jO]
 case leq=>
  obtain rfl:=i.resolve_left Xk;refine .inl ⟨_,?_,J5 h⟩;grind[aZ,az,toV,jO]
 case gtr=>
  obtain rfl:=i.resolve_left Xk;refine .inl ⟨_,?_,Dd h⟩;grind[aZ,az,toV,jO]
 case geq=>
  obtain rfl:=i.resolve_left Xk;refine .inl ⟨_,?_,J5 h⟩;grind[aZ,az,toV,jO]
theorem lu(x:FV):toL [x]=[toV x]:=rfl
theorem uv(x y:FV):toL [x,y]=[toV x,toV y]:=rfl
def Hh{o:LOp}{vs:List FV}{F:FH}{H:Heap}(r:RH F H){k:FV->Bool}(h:Nw o vs F k=true):∃x,aG o (toL vs) H=some (toV x)/\k x=true:=by
 cases o
 case mv=>obtain⟨x,rfl,e⟩:=jm h;exact⟨x,rfl,e⟩
 case bin J=>
  rcases oL h with ⟨x,y,rfl,e⟩|h
  .rcases qm e with ⟨kd,a,rfl,d⟩|h
   .rcases qm d with ⟨q,b,rfl,f⟩|h
    .refine eV f (λj h=>?_) λ_ h=>fq h
     have N:mG J=true\/kd=q:=by
      cases P:mG J
      .rw[P]at j;exact .inr<|id_eq j
      simp_all
     rcases Jy N h with ⟨x,e,d⟩|h
     .exact⟨x,e,d⟩
     .exact fq h
    .exact fq h
   .exact fq h
  .exact fq h
 case ld n agg=>
  cases agg
  .obtain⟨x,rfl,e⟩:=jm h
   obtain⟨b,o,rfl,d⟩:=(vQ e).resolve_right Wc;have⟨u,l,f,G,B,_⟩:=jg r d;have⟨x,D,g⟩:=ku f;rw[G]at D;have⟨O,S⟩:=List.getElem?_eq_some_iff.1 D;refine⟨x,?_,g⟩;simp[lu,toV,aG,Heap.cells,B,eP,show o+1<=l.length from O,List.head?_take,D]
  .obtain⟨x,rfl,e⟩:=jm h
   obtain⟨b,o,rfl,d⟩:=(vQ e).resolve_right Wc;grind[DS,lu,toV,aG]
 case fAddr Q=>
  obtain⟨x,rfl,e⟩:=jm h;obtain⟨b,o,rfl,d⟩:=(vQ e).resolve_right Wc;rw[gf]at d;exact⟨_,rfl,d⟩
 case iAddr sz=>
  obtain⟨x,y,rfl,e⟩:=(oL h).resolve_right Wc;obtain⟨b,o,l,c,s,rfl,d⟩:=(vR e).resolve_right Wc;obtain⟨kd,i,rfl,f⟩:=(qm d).resolve_right Wc;have⟨j,g⟩:=dh f;rw[gf]at g;have j:i<l:=Nat.le_of_ble_eq_true j;grind[uv,toV,aG]
 case iAddrA len sz=>
  obtain⟨x,y,rfl,e⟩:=(oL h).resolve_right Wc;obtain⟨b,o,rfl,d⟩:=(vQ e).resolve_right Wc;obtain⟨kd,i,rfl,f⟩:=(qm d).resolve_right Wc;have⟨j,g⟩:=dh f;rw[gf]at g;have j:i<len:=Nat.le_of_ble_eq_true j;grind[uv,toV,aG]
 case len=>
  obtain⟨x,rfl,e⟩:=jm h;rcases vR e with ⟨b,o,l,c,s,rfl,d⟩|d
  .exact⟨_,rfl,d⟩
  .exact fq d
 case b2s=>
  obtain⟨x,rfl,e⟩:=jm h;rcases vR e with ⟨b,o,l,c,s,rfl,d⟩|d
  .have⟨m,f,_,p⟩:=DS r d
   have⟨w,C,g⟩:=ku f;grind[lu,toV,aG]
  .exact fq d
 case nilChk=>
  obtain⟨x,rfl,e⟩:=jm h;rcases vQ e with ⟨b,o,rfl,d⟩|d
  .exact⟨_,rfl,d⟩
  .exact fq d
 case un u=>
  obtain⟨x,rfl,e⟩:=jm h;rcases Nm e with ⟨b,rfl,d⟩|d
  .cases u
   case not=>exact⟨_,rfl,Dd d⟩
   all_goals exact fq d
  .exact fq d
 case cvt kd=>
  obtain⟨x,rfl,e⟩:=jm h;rcases qm e with ⟨q,n,rfl,d⟩|d
  .rcases kV d with ⟨f,g⟩|g
   .grind[lu,toV,aG]
   .exact fq g
  .exact fq d
 case mget I agg z R=>
  obtain⟨m,y,rfl,e⟩:=(oL h).resolve_right Wc;obtain⟨v,rfl,d⟩:=(ow e).resolve_right Wc;cases v<;>try cases d
  case map a=>
   cases a
   .cases d
   next i=>
    have⟨u,l,f,G,B,_⟩:=jg r (show F.blk i (λn t=>t.rd 0 n [] λl=>oB ((iJ I agg (toV y)<|toV y).bind λ_=>(eJ I agg (toV y) (toL l) 0).map<|getM z R) λv=>ofV v k)=true from d);have⟨c,g,A,_,K⟩:=T.rd_rep G 0 _ [] f;rw[List.append_nil]at A;have p:c=l:=Wx
    rw[p]at A;have⟨w,C,L⟩:=ku A;grind[uG,uv,toV,aG]
 all_goals exact fq (F:=F) h
def RS(F:FS)(S:XV):Prop:=∃l,Rep F l/\S=toL l
theorem RS.get{F:FS}{S:XV}(r:RS F S){j:Nat}{x:FV}(h:F.get j=some x):S[j]?=some (toV x):=by obtain⟨l,r,rfl⟩:=r;rw[r]at h;simp[eP,h]
theorem RS.set{F:FS}{S:XV}(r:RS F S){j:Nat}{x:FV}{k:FS->Bool}(h:F.set j x k=true):∃a,k a=true/\RS a (S.set j<|toV x):=by obtain⟨l,r,rfl⟩:=r;have⟨a,b,_,c⟩:=T.set_rep r h;exact⟨a,b,_,c,by simp[eP]⟩
def Uh(e:E):Prop:=∀{F:FS} {S:XV} {A:FH} {H:Heap} {acc:List FV} {k:List FV->Bool},RS F S->RH A H->fev e F A acc k=true->∃xs,ev S H e=some (toL xs)/\k (xs++acc)=true
def BN{l:List FV}{a b:Bool}(h:isB l a b=true):(l=[.b true]/\a=true)\/(l=[.b false]/\b=true):=by
 obtain⟨x,rfl,e⟩:=jm h;obtain⟨c,rfl,f⟩:=(Nm e).resolve_right Wc;refine eV f (λd h=>.inl ?_) λd h=>.inr ?_
 all_goals simp_all
def tY(e:E):Uh e:=by
 induction e with
 | var j=>
  intro F S A H g k f d h;have⟨x,s,i⟩:=ku h;exact⟨[x],by simp[ev,f.get s,lu],i⟩
 | cst v=>
  intro F S A H g k f d h;have⟨x,s,i⟩:=uG h;exact⟨[x],by simp[ev,lu,s],i⟩
 | nil=>intro F S A H g k f d h;exact⟨[],rfl,h⟩
 | cons a b p q=>
  intro F S A H g k f d h;have⟨ys,i,l⟩:=q f d h;have⟨xs,m,n⟩:=p f d l;grind[ev,y9]
 | node o a u=>
  intro F S A H g k f d h;have⟨xs,i,l⟩:=u f d h;have⟨x,m,n⟩:=Hh d l;exact⟨[x],by grind[ev,lu],n⟩
 | pick c a b t p q=>
  intro F S A H g k f d h;have⟨xs,i,l⟩:=t f d h;rw[List.append_nil]at l;rcases BN l with ⟨rfl,m⟩|⟨rfl,m⟩
  .have⟨ys,n,r⟩:=p f d m
   grind[ev,lu,toV]
  .have⟨ys,n,r⟩:=q f d m
   grind[ev,lu,toV]
def sE{e:E}{F:FS}{S:XV}{A:FH}{H:Heap}(f:RS F S)(d:RH A H){k:FV->Bool}(h:BC e F A k=true):∃x,ev1 S H e=some (toV x)/\k x=true:=by have⟨xs,b,a⟩:=tY e f d h;rw[List.append_nil]at a;obtain⟨x,rfl,c⟩:=jm a;grind[ev1,lu]
def tg{F:FS}{S:XV}{A:FH}{H:Heap}(d:RS F S)(c:RH A H):∀(l:List<|Nat×E) {G:FS} {B:XV} {k:FS->Bool},RS G B->Cd l F A G k=true->∃vs b,evSets S H l=some vs/\RS b (setAll B vs)/\k b=true
 | [],G,B,k,a,h=>⟨[],G,rfl,a,h⟩
 | (j,e)::l,G,B,k,a,h=>by
  have⟨x,i,m⟩:=sE d c (show BC e F A (λv=>G.set j v λf=>Cd l F A f k)=true from h);have⟨s,n,q⟩:=a.set m;have⟨vs,g,o,r,p⟩:=tg d c l q n;exact⟨(j,toV x)::vs,g,by grind[evSets],r,p⟩
theorem xU{F:FS}{S:XV}{A:FH}{H:Heap}(b:RS F S)(a:RH A H):∀(l:List E) {k:Bool},KV l F A k=true->evChk S H l=true/\k=true
 | [],k,h=>⟨rfl,h⟩
 | e::l,k,h=>by
  have⟨xs,c,d⟩:=tY e b a (show fev e F A [] (λ_=>KV l F A k)=true from h);have⟨f,g⟩:=xU b a l d;grind[evChk]
def BI{F:FS}{S:XV}{A:FH}{H:Heap}(g:RS F S)(f:RH A H):∀(l:PC) {y n:Bool},fpc l F A y n=true->(holds S H l=some true/\y=true)\/(holds S H l=some false/\n=true)
 | [],y,n,h=>.inl ⟨rfl,h⟩
 | (c,w)::l,y,n,h=>by
  have⟨xs,d,i⟩:=tY c g f (show fev c F A [] (λt=>isB t (bB w (fpc l F A y n) n)<|bB w n<|fpc l F A y n)=true from h);rw[List.append_nil]at i;rcases BN i with ⟨rfl,e⟩|⟨rfl,e⟩
  .cases w
   .exact .inr ⟨by simp[holds,ev1,d,lu,toV],e⟩
   .rcases BI g f l e with ⟨a,b⟩|⟨a,b⟩
    all_goals grind[holds,ev1,lu,toV]
  .cases w
   .rcases BI g f l e with ⟨a,b⟩|⟨a,b⟩
    all_goals grind[holds,ev1,lu,toV]
   .exact .inr ⟨by simp[holds,ev1,d,lu,toV],e⟩
def Ag(sem:Option<|Value×Heap)(k:FV->FH->Bool):Prop:=∃x A' H',sem=some (toV x,H')/\RH A' H'/\k x A'=true
def vU{x:FV}{k:List FV->Bool}(h:Ao x k=true):∃l,toL l=(toV x).cells.toList/\k l=true:=by
 rcases x with _|_|_|_|v
 .exact⟨_,rfl,h⟩
 .exact⟨_,rfl,h⟩
 .exact⟨_,rfl,h⟩
 .exact⟨_,rfl,h⟩
 .exact jE h
def Fp{lo sz l c n:Nat}{new:List FV}{A:FH}{H:Heap}(e:RH A H){k:FV->FH->Bool}(h:Nt sz l c new n A k=true):Ag (aV lo sz (.slice none l c) (toL new) n H) k:=by
 refine eV h (λa h=>?_) λa h=>?_
 .rw[gf]at h
  exact⟨_,A,H,by simp[aV,if_pos (show l+n<=c from Nat.le_of_ble_eq_true a)];rfl,e,h⟩
 .have⟨b,g⟩:=dh h
  have⟨d,i⟩:=dh g;have d:=Nat.eq_of_beq_eq_true d;have⟨f,j,r⟩:=jt e i;rw[jO]at a b;simp only[ai₀]at a b;have m:¬ cT<l+n:=by grind[cT]
  exact⟨_,f,_,by simp[aV,if_neg (show ¬ l+n<=c from a),if_neg m,if_pos d];rfl,r,j⟩
def Fq{lo sz b o l c n:Nat}{sp:Option Nat}{new:List FV}{A:FH}{H:Heap}(K:RH A H){k:FV->FH->Bool}(h:SS lo sz b o l c sp new n A k=true):Ag (aV lo sz (.slice (some ⟨b,o,sp⟩) l c) (toL new) n H) k:=by
 refine eV h (λp h=>?_) λp h=>?_
 .rw[jO]at p
  simp[af₀]at p;have⟨G,L⟩:=dh h;have hs:sp=none\/sp=some sz:=by
   cases sp with
   | none=>simp_all
   | some z=>simp_all
  have⟨d,H',I,w,r⟩:=Jm K L;rw[gf]at I;have w:H.put lo b (o+l*sz) (toL new)=some H':=w;exact⟨_,d,H',by simp[aV,if_pos (show l+n<=c from p),if_pos hs,w];rfl,r,I⟩
 .rw[jO]at p
  simp only[ai₀]at p;have⟨G,L⟩:=dh h;rw[jO]at G;simp[af₀]at G;have⟨u,j,I,r1,Z,a0⟩:=jg K L;have q:∀{D:FH} {F:Heap},RH D F->F.length=H.length ->
    (fN (Nat.mul l sz) λB=>(λ(go:T FV->Bool)=>bB (Nat.beq o 0) (bB (Nat.beq B j.length) (go u)<|bB (Nat.ble B j.length) (u.rd o B [] λl=>T.insL l 0 .e go) false)<|bB (Nat.ble (Nat.add o B) j.length) (u.rd o B [] λl=>T.insL l 0 .e go) false) λt=>
     T.insL new B t λt=>fN (Nat.add B new.length) λm=>D.push (.mk m t) λc H=>fN (Nat.add l n) λl=>k (.s c 0 l l<|some sz) H)=true ->
    ∃a,H.cells b o (l*sz)=some a/\∃d,k (.s H.length 0 (l+n) (l+n)<|some sz) d=true/\RH d (F++[some<|a++toL new]):=by
   intro D F r2 hl h;rw[gf]at h;have v:∀{t:T FV} {c:List FV},Rep t c->c.length=l*sz->H.cells b o (l*sz)=some (toL c) ->
     (T.insL new (Nat.mul l sz) t λt=>fN (Nat.add (Nat.mul l sz) new.length) λm=>D.push (.mk m t) λc H=>fN (Nat.add l n) λl=>k (.s c 0 l l<|some sz) H)=true ->
     ∃a,H.cells b o (l*sz)=some a/\∃d,k (.s H.length 0 (l+n) (l+n)<|some sz) d=true/\RH d (F++[some<|a++toL new]):=by
    intro t c hr Y hh h;have⟨t2,f,V⟩:=T.insL_rep new hr (show Nat.mul l sz=c.length from Y.symm) h;simp[gf]at f;have⟨d,i,W⟩:=yJ r2 (x:=.mk (Nat.add (Nat.mul l sz) new.length) t2) (y:=some<|toL c++toL new) ⟨c++new,V,Wx,(y9 _ _).symm⟩ f;grind
   have rd:∀{g:T FV->Bool},o+l*sz<=j.length->(u.rd o (Nat.mul l sz) [] λl=>T.insL l 0 .e g)=true->∃t c,Rep t c/\c.length=l*sz/\H.cells b o (l*sz)=some (toL c)/\g t=true:=by
    intro g O h;have⟨c,f,i,_,M⟩:=T.rd_rep r1 o _ [] h;rw[List.append_nil]at i;have⟨t,N,X⟩:=T.insL_rep c AH rfl i;exact⟨t,c,by simpa using X,f,by simp_all[Heap.cells,eP],N⟩
   refine eV h (λC h=>?_) λC h=>?_
   .have C:o=0:=Nat.eq_of_beq_eq_true C
    subst C;refine eV h (λJ h=>?_) λJ h=>?_
    .grind[Nat.eq_of_beq_eq_true,Heap.cells,iG]
    .have⟨f,i⟩:=dh h
     have⟨t,c,Q,R,S,U⟩:=rd Wx i;grind
   .have⟨f,i⟩:=dh h
    have⟨t,c,Q,R,S,U⟩:=rd (Nat.le_of_ble_eq_true f) i;grind
  have hn:¬ cT<l+n:=by grind[cT]
  cases sp with
  | none=>
   have⟨a,w,d,f,V⟩:=q K rfl I;exact⟨_,d,_,by simp[aV,if_neg (show ¬ l+n<=c from p),if_neg hn,w];rfl,V,f⟩
  | some z=>
   have⟨C,w⟩:=dh I;have⟨P,f⟩:=dh w;have⟨D,i,W⟩:=sM K (x:=.no) (y:=none) trivial f;have⟨a,M,d,N,X⟩:=q W Wc i;exact⟨_,d,_,by simp[aV,if_neg (show ¬ l+n<=c from p),if_neg hn,if_pos<|zzi (Nat.eq_of_beq_eq_true C)<|Nat.le_of_ble_eq_true P,M];rfl,X,N⟩
theorem rn{lo sz n:Nat}{s:FV}{new:List FV}{A:FH}{H:Heap}(d:RH A H){k:FV->FH->Bool}(h:vu lo sz s new n A k=true):Ag (aV lo sz (toV s) (toL new) n H) k:=by
 rcases s with _|_|_|⟨b,o,l,c,sp⟩|v
 .cases h
 .cases h
 .cases h
 .exact Fq d h
 .cases v<;>try cases h
  case slice a l c=>
   cases a
   .exact Fp d h
   .cases h
end Go.Abs

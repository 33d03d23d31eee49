/- Lemmas. -/
import Derived.Test.YtmnlgdpdgjbfgaaGreatD9
set_option linter.all false
namespace Go.Abs
noncomputable section
inductive T (α:Type) where
 | e
 | nd (a:α) (l r:T α)
def oB{α:Type}(o:Option α)(k:α->Bool):Bool:=Option.rec false k o
def bB(b x y:Bool):Bool:=Bool.rec y x b
def T.get{α:Type}(t:T α):Nat->Option α:=
 T.rec (motive:=fun _=>Nat->Option α) (fun _=>none) (fun a _ _ gl gr i=>Nat.rec (some a) (fun j _=>bB' (gl (Nat.div j 2)) (gr (Nat.div j 2)) (Nat.beq (Nat.mod j 2) 0)) i) t
where bB' (x y:Option α) (b:Bool):Option α:=Bool.rec y x b
def T.set{α:Type}(t:T α):Nat->α->(T α->Bool)->Bool:=
 T.rec (motive:=fun _=>Nat->α->(T α->Bool)->Bool) (fun _ _ _=>false)
  (fun a l r il ir i v k=>Nat.rec (k (.nd v l r)) (fun j _=>Bool.rec (ir (Nat.div j 2) v (fun r'=>k (.nd a l r'))) (il (Nat.div j 2) v (fun l'=>k (.nd a l' r))) (Nat.beq (Nat.mod j 2) 0)) i) t
def T.ins{α:Type}(t:T α):Nat->α->(T α->Bool)->Bool:=
 T.rec (motive:=fun _=>Nat->α->(T α->Bool)->Bool) (fun i v k=>Nat.rec (k (.nd v .e .e)) (fun _ _=>false) i)
  (fun a l r il ir i v k=>Nat.rec (k (.nd v l r)) (fun j _=>Bool.rec (ir (Nat.div j 2) v (fun r'=>k (.nd a l r'))) (il (Nat.div j 2) v (fun l'=>k (.nd a l' r))) (Nat.beq (Nat.mod j 2) 0)) i) t
def T.path{α:Type}(d v:α)(f:Nat):Nat->(T α->Bool)->Bool:=
 Nat.rec (motive:=fun _=>Nat->(T α->Bool)->Bool) (fun _ _=>false)
  (fun _ ih i k=>Nat.rec (k (.nd v .e .e)) (fun j _=>ih (Nat.div j 2) (fun t=>Bool.rec (k (.nd d .e t)) (k (.nd d t .e)) (Nat.beq (Nat.mod j 2) 0))) i) f
def T.insD{α:Type}(d:α)(t:T α):Nat->α->(T α->Bool)->Bool:=
 T.rec (motive:=fun _=>Nat->α->(T α->Bool)->Bool) (fun i v k=>T.path d v 40 i k)
  (fun a l r il ir i v k=>Nat.rec (k (.nd v l r)) (fun j _=>Bool.rec (ir (Nat.div j 2) v (fun r'=>k (.nd a l r'))) (il (Nat.div j 2) v (fun l'=>k (.nd a l' r))) (Nat.beq (Nat.mod j 2) 0)) i) t
def T.setL{α:Type}(l:List α):Nat->T α->(T α->Bool)->Bool:=
 List.rec (motive:=fun _=>Nat->T α->(T α->Bool)->Bool) (fun _ t k=>k t) (fun v _ ih i t k=>t.set i v (fun t'=>ih (Nat.succ i) t' k)) l
def T.insL{α:Type}(l:List α):Nat->T α->(T α->Bool)->Bool:=
 List.rec (motive:=fun _=>Nat->T α->(T α->Bool)->Bool) (fun _ t k=>k t) (fun v _ ih i t k=>t.ins i v (fun t'=>ih (Nat.succ i) t' k)) l
def T.rep{α:Type}(v:α)(f:Nat):Nat->(T α->Bool)->Bool:=
 Nat.rec (motive:=fun _=>Nat->(T α->Bool)->Bool) (fun _ _=>false)
  (fun _ ih n k=>Nat.rec (k .e) (fun m _=>ih (Nat.div m 2) (fun r=>Bool.rec (r.ins (Nat.div m 2) v (fun l=>k (.nd v l r))) (k (.nd v r r)) (Nat.beq (Nat.mod m 2) 0))) n) f
def T.rd{α:Type}(t:T α)(o n:Nat):List α->(List α->Bool)->Bool:=
 Nat.rec (motive:=fun _=>List α->(List α->Bool)->Bool) (fun l k=>k l) (fun m ih l k=>oB (t.get (Nat.add o m)) (fun v=>ih (v::l) k)) n
inductive FV where
 | i (k:IntKind) (n:Nat)
 | b (t:Bool)
 | p (b o:Nat)
 | s (b o l c:Nat) (sp:Option Nat)
 | o (v:Value)
def toV(x:FV):Value:=FV.casesOn x (fun k n=>.int k (.ofNat n)) (fun t=>.bool t) (fun b o=>.pointer (some ⟨b,o,none⟩)) (fun b o l c sp=>.slice (some ⟨b,o,sp⟩) l c) (fun v=>v)
def fN(n:Nat)(k:Nat->Bool):Bool:=Nat.rec (k 0) (fun m _=>k (Nat.succ m)) n
def Hh(b:Bool)(k:FV->Bool):Bool:=Bool.rec (k (.b false)) (k (.b true)) b
def Mi(kd:IntKind)(z:Int)(k:FV->Bool):Bool:=Int.rec (fun n=>fN n fun n=>k (.i kd n)) (fun n=>fN n fun n=>k (.o (.int kd (.negSucc n)))) z
def Mj(a:Option Addr)(k:FV->Bool):Bool:=Option.rec (k (.o (.pointer none))) (fun a=>Addr.rec (fun b o sp=>Option.rec (fN b fun b=>fN o fun o=>k (.p b o)) (fun _=>k (.o (.pointer (some a)))) sp) a) a
def KE(a:Option Addr)(l c:Nat)(k:FV->Bool):Bool:=fN l fun l=>fN c fun c=>Option.rec (k (.o (.slice none l c))) (fun a=>Addr.rec (fun b o sp=>fN b fun b=>fN o fun o=>Option.rec (k (.s b o l c none)) (fun z=>fN z fun z=>k (.s b o l c (some z))) sp) a) a
abbrev VF:=(FV->Bool)->Bool
def aO(v:Value):VF:=fun k=>k (.o v)
def ofV(v:Value):VF:=Value.casesOn (motive_1:=fun _=>VF) v Hh Mi (fun k b=>aO (.float k b)) (fun k b c=>aO (.complex k b c)) (fun s=>aO (.string s)) Mj KE (fun r=>aO (.map r)) (fun r=>aO (.chan r)) (fun f a b=>aO (.func f a b)) (aO .nilFunc) (fun t v=>aO (.iface t v)) (aO .nilIface) (fun c=>aO (.agg c)) (fun c=>aO (.tuple c))
def ofL(l:List Value):(List FV->Bool)->Bool:=List.rec (motive:=fun _=>(List FV->Bool)->Bool) (fun k=>k []) (fun v _ ih k=>ofV v fun v=>ih fun l=>k (v::l)) l
def toL(l:List FV):List Value:=List.rec [] (fun v _ ih=>toV v::ih) l
def AN(p:FV->Bool)(l:List FV)(k:Bool):Bool:=List.rec k (fun v _ ih=>bB (p v) ih false) l
def BC(x:FV):Bool:=FV.casesOn x (fun _ _=>true) (fun _=>true) (fun _ _=>true) (fun _ _ _ _ _=>true) (fun v=>v.oneCell')
def B3:FV:=.o undef
inductive Blk where
 | mk (n:Nat) (t:T FV)
 | no
 | un
inductive FH where
 | mk (n:Nat) (t:T Blk)
abbrev FS:=T FV
def FH.size(H:FH):Nat:=FH.rec (fun n _=>n) H
def FH.blk(H:FH)(b:Nat)(k:Nat->T FV->Bool):Bool:=FH.rec (fun _ t=>oB (t.get b) fun x=>Blk.rec k false false x) H
def FH.setB(H:FH)(b:Nat)(x:Blk)(k:FH->Bool):Bool:=FH.rec (fun n t=>t.set b x fun t'=>k (.mk n t')) H
def FH.push(H:FH)(x:Blk)(k:Nat->FH->Bool):Bool:=FH.rec (fun n t=>t.insD .un n x fun t'=>k n (.mk (Nat.succ n) t')) H
def FH.rd(H:FH)(b o n:Nat)(k:List FV->Bool):Bool:=H.blk b fun m t=>bB (Nat.ble (Nat.add o n) m) (t.rd o n [] k) false
def FH.wr(H:FH)(lo b o:Nat)(vs:List FV)(k:FH->Bool):Bool:=
 bB (Nat.ble lo b) (H.blk b fun m t=>bB (Nat.ble (Nat.add o vs.length) m) (T.setL vs o t fun t'=>H.setB b (.mk m t') k) false) false
def FH.pushL(H:FH)(vs:List FV)(k:Nat->FH->Bool):Bool:=T.insL vs 0 .e fun t=>fN vs.length fun n=>H.push (.mk n t) k
abbrev LF:=List FV->FH->(FV->Bool)->Bool
def fC(o:LOp):LF:=fun vs _ k=>oB (aJ o (toL vs) []) fun v=>ofV v k
def qh(k:IntKind):Nat:=IntKind.casesOn k 127 32767 2147483647 9223372036854775807 255 65535 4294967295 18446744073709551615
def KO(k:IntKind):Nat:=IntKind.casesOn k 8 16 32 64 8 16 32 64
def idI(k:IntKind):Nat:=IntKind.casesOn k 0 1 2 3 4 5 6 7
def okN(kd:IntKind)(n:Nat)(k:FV->Bool)(d:Bool):Bool:=bB (Nat.ble n (qh kd)) (fN n fun n=>k (.i kd n)) d
def tf(b:Bool)(k:FV->Bool):Bool:=bB b (k (.b true)) (k (.b false))
def tn(b:Bool)(k:FV->Bool):Bool:=bB b (k (.b false)) (k (.b true))
abbrev NF:=IntKind->Nat->Nat->(FV->Bool)->Bool->Bool
def Qz:NF:=fun kd a b k d=>okN kd (Nat.add a b) k d
def RQ:NF:=fun kd a b k d=>bB (Nat.ble b a) (okN kd (Nat.sub a b) k d) d
def RK:NF:=fun kd a b k d=>okN kd (Nat.mul a b) k d
def RB:NF:=fun kd a b k d=>bB (Nat.beq b 0) d (okN kd (Nat.div a b) k d)
def RJ:NF:=fun kd a b k d=>bB (Nat.beq b 0) d (okN kd (Nat.mod a b) k d)
def RA:NF:=fun kd a b k d=>bB (Nat.ble a (qh kd)) (bB (Nat.ble b (qh kd)) (okN kd (Nat.land a b) k d) d) d
def nOr:NF:=fun kd a b k d=>bB (Nat.ble a (qh kd)) (bB (Nat.ble b (qh kd)) (okN kd (Nat.lor a b) k d) d) d
def RR:NF:=fun kd a b k d=>bB (Nat.ble a (qh kd)) (bB (Nat.ble b (qh kd)) (okN kd (Nat.xor a b) k d) d) d
def OY:NF:=fun _ _ _ _ d=>d
def RC:NF:=fun _ a b k _=>tf (Nat.beq a b) k
def RL:NF:=fun _ a b k _=>tn (Nat.beq a b) k
def RI:NF:=fun _ a b k _=>tn (Nat.ble b a) k
def RG:NF:=fun _ a b k _=>tf (Nat.ble a b) k
def RF:NF:=fun _ a b k _=>tn (Nat.ble a b) k
def RD:NF:=fun _ a b k _=>tf (Nat.ble b a) k
def RM:NF:=fun kd a b k d=>bB (Nat.ble b (KO kd)) (okN kd (Nat.mul a (Nat.pow 2 b)) k d) d
def RP:NF:=fun kd a b k d=>bB (Nat.ble b (KO kd)) (fN (Nat.div a (Nat.pow 2 b)) fun n=>k (.i kd n)) d
def Nh(op:BinOp):NF:=BinOp.casesOn (motive:=fun _=>NF) op Qz RQ RK RB RJ RA nOr RR RM RP OY RC RL RI RG RF RD
def kP(op:BinOp):Bool:=BinOp.casesOn (motive:=fun _=>Bool) op false false false false false false false false true true false false false false false false false
def cI{α:Type}(x:FV)(f:IntKind->Nat->α)(d:α):α:=FV.casesOn x f (fun _=>d) (fun _ _=>d) (fun _ _ _ _ _=>d) (fun _=>d)
def cB{α:Type}(x:FV)(f:Bool->α)(d:α):α:=FV.casesOn x (fun _ _=>d) f (fun _ _=>d) (fun _ _ _ _ _=>d) (fun _=>d)
def cP{α:Type}(x:FV)(f:Nat->Nat->α)(d:α):α:=FV.casesOn x (fun _ _=>d) (fun _=>d) f (fun _ _ _ _ _=>d) (fun _=>d)
def cS{α:Type}(x:FV)(f:Nat->Nat->Nat->Nat->Option Nat->α)(d:α):α:=FV.casesOn x (fun _ _=>d) (fun _=>d) (fun _ _=>d) f (fun _=>d)
def cO{α:Type}(x:FV)(f:Value->α)(d:α):α:=FV.casesOn x (fun _ _=>d) (fun _=>d) (fun _ _=>d) (fun _ _ _ _ _=>d) f
def l1{α β:Type}(l:List β)(f:β->α)(d:α):α:=List.casesOn l d fun x r=>List.casesOn r (f x) fun _ _=>d
def l2{α β:Type}(l:List β)(f:β->β->α)(d:α):α:=List.casesOn l d fun x r=>List.casesOn r d fun y r=>List.casesOn r (f x y) fun _ _=>d
def Qh(op:BinOp):LF:=fun vs H k=>
 (fun(d:Bool)=>l2 vs (fun x y=>cI x (fun kd a=>cI y (fun kd' b=>bB (bB (kP op) true (Nat.beq (idI kd) (idI kd'))) (Nh op kd a b k d) d) d) d) d) (fC (.bin op) vs H k)
def fLd(n:Nat)(agg:Bool):LF:=Bool.casesOn (motive:=fun _=>LF) agg
 (fun vs H k=>l1 vs (fun x=>cP x (fun b o=>H.blk b fun _ t=>oB (t.get o) k) false) false)
 (fun vs H k=>l1 vs (fun x=>cP x (fun b o=>H.rd b o n fun l=>k (.o (.agg ⟨toL l⟩))) false) false)
def Kb(off:Nat):LF:=fun vs _ k=>l1 vs (fun x=>cP x (fun b o=>fN (Nat.add o off) fun o=>k (.p b o)) false) false
def Kc(sz:Nat):LF:=fun vs _ k=>l2 vs (fun x y=>cS x (fun b o l _ _=>cI y (fun _ i=>bB (Nat.ble (Nat.succ i) l) (fN (Nat.add o (Nat.mul i sz)) fun o=>k (.p b o)) false) false) false) false
def Qn:LF:=fun vs H k=>l1 vs (fun x=>cS x (fun _ _ l _ _=>k (.i .i64 l)) (fC .len vs H k)) false
def fMv:LF:=fun vs _ k=>l1 vs k false
def Ql(i:Nat):LF:=fun vs H k=>fC (.ext i) vs H k
def Qf:LF:=fun vs H k=>l1 vs (fun x=>cS x (fun b o l _ _=>H.rd b o l fun c=>oB (bytesOf (toL c)) fun c=>k (.o (.string ⟨c.toArray⟩))) (fC .b2s vs H k)) false
def Qo:LF:=fun vs H k=>l1 vs (fun x=>cP x (fun b o=>k (.p b o)) (fC .nilChk vs H k)) false
def fUn(u:UnOp):LF:=fun vs H k=>l1 vs (fun x=>cB x (fun b=>UnOp.casesOn (motive:=fun _=>Bool) u (fC (.un u) vs H k) (fC (.un u) vs H k) (tn b k) (fC (.un u) vs H k)) (fC (.un u) vs H k)) false
def Qk(kd:IntKind):LF:=fun vs H k=>l1 vs (fun x=>cI x (fun _ n=>okN kd n k (fC (.cvt kd) vs H k)) (fC (.cvt kd) vs H k)) false
def JP(o:LOp):LF:=LOp.casesOn (motive:=fun _=>LF) o fMv Qh (fun n=>fC (.eqB n)) (fun n k=>fC (.eqA n k)) (fun n=>fC (.eqN n)) (fun n=>fC (.eqP n)) fUn Qk Qf
 (fC .cvtS) Qo Kb (fun a b c=>fC (.fld a b c)) Kc (fun a b=>fC (.iAddrA a b)) (fun a b c=>fC (.idx a b c)) (fC .idxS) fLd Qn (fC .lenS) (fun n=>fC (.lenC n))
 (fun a b c d=>fC (.sl a b c d)) (fun a b c d e=>fC (.slA a b c d e)) (fun a b=>fC (.slS a b)) Ql (fun a b=>fC (.build a b)) (fun a b=>fC (.mkF a b)) (fun a=>fC (.mkI a)) (fun a=>fC (.minmax a)) (fC .pk) (fun a b=>fC (.tas a b))
abbrev EV:=FS->FH->List FV->(List FV->Bool)->Bool
def Qb(j:Nat):EV:=fun S _ acc k=>oB (S.get j) fun v=>k (v::acc)
def Q9(v:Value):EV:=fun _ _ acc k=>ofV v fun v=>k (v::acc)
def Qa:EV:=fun _ _ acc k=>k acc
def Nv(_a _b:E)(fa fb:EV):EV:=fun S H acc k=>fb S H acc fun acc=>fa S H acc k
def Nw(o:LOp)(_a:E)(fa:EV):EV:=fun S H acc k=>fa S H [] fun vs=>JP o vs H fun v=>k (v::acc)
def isB(l:List FV)(a b:Bool):Bool:=l1 l (fun x=>cB x (fun c=>bB c a b) false) false
def Nx(_c _a _b:E)(fc fa fb:EV):EV:=fun S H acc k=>fc S H [] fun l=>isB l (fa S H acc k) (fb S H acc k)
def fev(e:E):EV:=E.rec (motive:=fun _=>EV) Qb Q9 Qa Nv Nw Nx e
def one(l:List FV)(k:FV->Bool):Bool:=l1 l k false
def xY(e:E)(S:FS)(H:FH)(k:FV->Bool):Bool:=fev e S H [] fun l=>one l k
def yx(l:List (Nat×E)):FS->FH->FS->(FS->Bool)->Bool:=
 List.rec (motive:=fun _=>FS->FH->FS->(FS->Bool)->Bool) (fun _ _ A k=>k A) (fun p _ ih S H A k=>xY p.2 S H fun v=>A.set p.1 v fun A'=>ih S H A' k) l
def Fa(l:List E):FS->FH->Bool->Bool:=
 List.rec (motive:=fun _=>FS->FH->Bool->Bool) (fun _ _ k=>k) (fun e _ ih S H k=>fev e S H [] fun _=>ih S H k) l
def fpc(l:PC):FS->FH->Bool->Bool->Bool:=
 List.rec (motive:=fun _=>FS->FH->Bool->Bool->Bool) (fun _ _ y _=>y) (fun p _ ih S H y n=>fev p.1 S H [] fun l=>isB l (bB p.2 (ih S H y n) n) (bB p.2 n (ih S H y n))) l
abbrev kQ:=Nat->FuncId->List FV->FH->(FV->FH->Bool)->Bool
abbrev HF:=kQ->Nat->List FV->FH->(FV->FH->Bool)->Bool
def noH:HF:=fun _ _ _ _ _=>false
def OC(lo sz:Nat)(b o len cap:Nat)(sp:Option Nat)(new:List FV)(n:Nat)(H:FH)(k:FV->FH->Bool):Bool:=
 bB (Nat.ble (Nat.add len n) cap)
  (bB (Option.rec true (fun z=>Nat.beq z sz) sp) (H.wr lo b (Nat.add o (Nat.mul len sz)) new fun H=>fN (Nat.add len n) fun l=>k (.s b o l cap sp) H) false)
  (bB (Nat.ble (Nat.add len n) 4294967296)
   (H.blk b fun m t=>
    (fun(go:FH->Bool)=>Option.rec (go H) (fun z=>bB (Nat.beq z sz) (bB (Nat.ble lo b) (H.setB b .no go) false) false) sp) fun H=>
    fN (Nat.mul len sz) fun ln=>
    (fun(go:T FV->Bool)=>bB (Nat.beq o 0) (bB (Nat.beq ln m) (go t) (bB (Nat.ble ln m) (t.rd o ln [] fun l=>T.insL l 0 .e go) false)) (bB (Nat.ble (Nat.add o ln) m) (t.rd o ln [] fun l=>T.insL l 0 .e go) false)) fun t=>
    T.insL new ln t fun t=>fN (Nat.add ln new.length) fun m=>H.push (.mk m t) fun c H=>fN (Nat.add len n) fun l=>k (.s c 0 l l (some sz)) H)
   false)
def JL(sz:Nat)(len cap:Nat)(new:List FV)(n:Nat)(H:FH)(k:FV->FH->Bool):Bool:=
 bB (Nat.ble (Nat.add len n) cap) (fN (Nat.add len n) fun l=>k (.o (.slice none l cap)) H)
  (bB (Nat.ble (Nat.add len n) 4294967296) (bB (Nat.beq len 0) (H.pushL new fun b H=>k (.s b 0 n n (some sz)) H) false) false)
def vX(lo sz:Nat)(s:FV)(new:List FV)(n:Nat)(H:FH)(k:FV->FH->Bool):Bool:=
 FV.casesOn s (fun _ _=>false) (fun _=>false) (fun _ _=>false) (fun b o l c sp=>OC lo sz b o l c sp new n H k)
  (fun v=>match v with
   | .slice none l c=>JL sz l c new n H k
   | _=>false)
def fCall(raise:Bool):HF:=fun cf lo vs H k=>List.casesOn vs false fun x r=>cO x (fun v=>match v with
 | .func (.func f) first cap=>ofL first.toList fun a=>ofL cap.toList fun c=>cf (bB' raise H.size lo) f (a++r++c) H k
 | _=>false) false
where bB' (b:Bool) (x y:Nat):Nat:=Bool.rec y x b
def Ka(zero:List Value):HF:=fun _ _ vs H k=>List.casesOn vs (ofL zero fun l=>H.pushL l fun b H=>k (.p b 0) H) fun _ _=>false
def xA(x:FV)(k:List FV->Bool):Bool:=cO x (fun v=>ofL v.cells.toList k) (k [x])
def Qi:HF:=fun _ _ vs H k=>l1 vs (fun x=>xA x fun l=>H.pushL l fun b H=>k (.p b 0) H) false
def fMk(zero:List Value):HF:=fun _ _ vs H k=>l2 vs (fun x y=>cI x (fun _ l=>cI y (fun _ c=>bB (Nat.ble l c) (bB (Nat.ble c 4294967296)
 (l1 zero (fun z=>ofV z fun z=>T.rep z 40 c fun t=>H.push (.mk c t) fun b H=>k (.s b 0 l c none) H) (ofL (bU zero c) fun z=>H.pushL z fun b H=>k (.s b 0 l c none) H)) false) false) false) false) false
def Qg(zero:List Value)(len:Nat)(idx:List Nat):HF:=fun _ _ vs H k=>oB (buildL (bU zero len) (idx.map fun i=>(i*zero.length,zero.length)) (toL vs)) fun l=>ofL l fun l=>H.pushL l fun b H=>k (.s b 0 len len none) H
def fSt(n:Nat):HF:=fun _ lo vs H k=>l2 vs (fun x y=>cP x (fun b o=>xA y fun l=>bB (Nat.beq l.length n) (AN BC l (H.wr lo b o l fun H=>k B3 H)) false) false) false
def OD(sz:Nat):HF:=fun _ lo vs H k=>l2 vs (fun s x=>FV.casesOn x (fun _ _=>false) (fun _=>false) (fun _ _=>false)
 (fun b o n _ _=>H.rd b o (Nat.mul n sz) fun new=>AN BC new (vX lo sz s new n H k))
 (fun v=>match v with
  | .slice none n _=>bB (Nat.beq n 0) (vX lo sz s [] 0 H k) false
  | _=>false)) false
def OE:HF:=fun _ lo vs H k=>l2 vs (fun s x=>cO x (fun v=>match v with
  | .string x=>ofL (x.data.toList.map fun b=>.int .u8 b.toNat) fun l=>fN x.size fun n=>vX lo 1 s l n H k
  | _=>false) false) false
def Qj(sz:Nat):HF:=fun _ lo vs H k=>l2 vs (fun d a=>cS d (fun b o n _ _=>cS a (fun b' o' m _ _=>fN (min m n) fun l=>H.rd b' o' (Nat.mul l sz) fun new=>AN BC new (H.wr lo b o new fun H=>k (.i .i64 l) H))
  (cO a (fun v=>match v with
   | .slice none m _=>bB (Nat.beq m 0) (k (.i .i64 0) H) false
   | _=>false) false))
 (cO d (fun v=>match v with
  | .slice none n _=>bB (Nat.beq n 0) (bB (isS a) (k (.i .i64 0) H) false) false
  | _=>false) false)) false
where isS (a:FV):Bool:=FV.casesOn a (fun _ _=>false) (fun _=>false) (fun _ _=>false) (fun _ _ _ _ _=>true) (fun v=>match v with
 | .slice none _ _=>true
 | _=>false)
def Qp:HF:=fun _ _ vs H k=>l1 vs (fun x=>cO x (fun v=>match v with
  | .string x=>ofL (x.data.toList.map fun b=>.int .u8 b.toNat) fun l=>fN x.size fun n=>H.pushL l fun b H=>k (.s b 0 n n (some 1)) H
  | _=>false) false) false
def Qm:HF:=fun _ lo vs H k=>l1 vs (fun x=>cS x (fun b o n c sp=>Option.rec (H.blk b fun _ _=>bB (Nat.ble lo b) (k (.s b o n c none) H) false) (fun _=>false) sp) false) false
def JO(o:HOp):HF:=HOp.casesOn (motive:=fun _=>HF) o fCall Ka Qi fMk Qg fSt (fun sz _=>OD sz) (fun _=>OE) Qj Qp noH (fCall false) noH Qm
abbrev FX:=Nat->FS->FH->(Ex->FS->FH->Bool)->Bool
abbrev FP:=FX×(Nat->FX)
def noX:FX:=fun _ _ _ _=>false
def noL:Nat->FX:=fun _=>noX
def QL:FP:=(fun _ S H k=>k .normal S H,noL)
def QK(l:List (Nat×E))(chk:List E):FP:=(fun _ S H k=>yx l S H S fun A=>Fa chk S H (k .normal A H),noL)
def Nu(d:Option Nat)(v:FV)(A:FS)(k:FS->Bool):Bool:=Option.rec (k A) (fun d=>A.set d v k) d
def xHv(callF:kQ)(l:List (Nat×E))(chk:List E)(pc:PC)(dst:Option Nat)(o:HOp)(a:E):FP:=(fun lo S H k=>
 yx l S H S fun A=>Fa chk S H (fpc pc S H (fev a S H [] fun xs=>JO o callF lo xs H fun v H'=>Nu dst v A fun A=>k .normal A H') (Nu dst B3 A fun A=>k .normal A H)),noL)
def KQ(x:FV):Option Nat:=FV.casesOn x (fun _ _=>none) (fun _=>none) (fun b _=>some b) (fun b _ _ _ _=>some b) (fun v=>ag v)
def QE(a b:E):FP:=(fun _ S H k=>xY a S H fun x=>xY b S H fun y=>
 Option.rec (k .normal S H) (fun i=>Option.rec (k .normal S H) (fun j=>bB (Nat.beq i j) false (k .normal S H)) (KQ y)) (KQ x),noL)
def cEx{α:Type}(x:Ex)(n:α)(e:Nat->α)(r:α):α:=Ex.rec n e r x
def SM(_ _:Stm)(fa fb:FP):FP:=(fun lo S H k=>fa.1 lo S H fun x S H=>cEx x (fb.1 lo S H k) (fun i=>k (.exit i) S H) (k .ret S H),noL)
def QD(c:E)(_ _:Stm)(fa fb:FP):FP:=(fun lo S H k=>fev c S H [] fun l=>isB l (fa.1 lo S H k) (fb.1 lo S H k),noL)
def Md(i:Nat)(_:Stm)(fb:FP):FP:=(fun lo S H k=>fb.1 lo S H fun x S H=>cEx x (k .normal S H) (fun j=>bB (Nat.beq j i) (k .normal S H) (k (.exit j) S H)) (k .ret S H),noL)
def itF(f:FX)(n:Nat):FX:=Nat.rec (motive:=fun _=>FX) noX (fun _ ih lo S H k=>f lo S H fun x S H=>cEx x (ih lo S H k) (fun i=>k (.exit i) S H) (k .ret S H)) n
def QI(n:Nat)(_:Stm)(fb:FP):FP:=(itF fb.1 n,noL)
def QF(i:Nat):FP:=(fun _ S H k=>k (.exit i) S H,noL)
def SL:FP:=(fun _ S H k=>k .ret S H,noL)
abbrev HX:=Ex->FS->FH->(Ex->FS->FH->Bool)->Bool
def Fe(f:Nat->FX)(lo n:Nat):HX:=
 Nat.rec (motive:=fun _=>HX) (fun _ _ _ _=>false)
  (fun _ ih x S H k=>cEx x (k .normal S H) (fun j=>bB (Nat.ble 1000000 j) (f (Nat.sub j 1000000) lo S H fun x S H=>ih x S H k) (k (.exit j) S H)) (k .ret S H)) n
def Mf(n:Nat)(_ _:Stm)(fb fa:FP):FP:=(fun lo S H k=>fb.1 lo S H fun x S H=>Fe fa.2 lo n x S H k,noL)
def xAlt(l:Nat)(_ _:Stm)(fs fr:FP):FP:=(noX,fun t=>bX (fs.1) (fr.2 t) (Nat.beq t l))
where bX (x y:FX) (b:Bool):FX:=Bool.rec y x b
def jZ(callF:kQ)(n:Nat)(s:Stm):FP:=
 Stm.rec (motive:=fun _=>FP) QL QK (xHv callF) QE SM QD Md (QI n) QF SL (Mf n) xAlt s
def DA(l:List E):FS->FH->(List FV->Bool)->Bool:=
 List.rec (motive:=fun _=>FS->FH->(List FV->Bool)->Bool) (fun _ _ k=>k []) (fun e _ ih S H k=>xY e S H fun v=>ih S H fun l=>k (v::l)) l
def HI(l:List FV)(k:FV->Bool):Bool:=List.casesOn l (k (.o (.tuple #[]))) fun x r=>List.casesOn r (k x) fun _ _=>k (.o (.tuple ⟨toL l⟩))
abbrev SC:=FuncId->List FV->(FV->Nat->Bool)->Bool->Bool
def L9:SC:=fun _ _ _ d=>d
def FH.skip(H:FH)(lo g:Nat)(k:FH->Bool):Bool:=FH.rec (fun n t=>bB (Nat.ble lo n) (fN (Nat.add n g) fun m=>k (.mk m t)) false) H
def OF(cp:FuncId->Option CF)(sc:SC)(n:Nat)(ih:kQ):kQ:=fun lo f args H k=>
 sc f args (fun v g=>H.skip lo g fun H=>k v H)
 (oB (cp f) fun cf=>bB (Nat.beq args.length cf.np)
  (T.rep B3 12 cf.ns fun S=>T.setL args 0 S fun S=>CK.casesOn cf.kind
   ((jZ ih n cf.body).1 lo S H fun x S H=>cEx x (DA cf.res S H fun l=>HI l fun v=>k v H) (fun _=>false) (DA cf.res S H fun l=>HI l fun v=>k v H))
   (fun _ _ _=>false) (fun _=>false)) false)
def xf(cp:FuncId->Option CF)(sc:SC)(N n:Nat):kQ:=Nat.rec (motive:=fun _=>kQ) (fun _ _ _ _ _=>false) (fun m ih=>OF cp sc (Nat.add N m) ih) n
end
theorem et(n:Nat)(k:Nat->Bool):fN n k=k n:=by cases n<;>rfl
theorem ox{α:Type}{o:Option α}{k:α->Bool}(h:oB o k=true):∃v,o=some v/\k v=true:=by
 cases o with
 | none=>simp[oB]at h
 | some v=>exact⟨v,rfl,h⟩
theorem eJ{b x:Bool}(h:bB b x false=true):b=true/\x=true:=by cases b<;>simp_all [bB]
theorem dq{α:Prop}{b x y:Bool}(h:bB b x y=true)(h1:b=true->x=true->α)(h2:b=false->y=true->α):α:=by
 cases b
 ·exact h2 rfl h
 ·exact h1 rfl h
theorem T.get_z{α:Type}(a:α)(l r:T α):(T.nd a l r).get 0=some a:=rfl
theorem T.get_s{α:Type}(a:α)(l r:T α)(j:Nat):(T.nd a l r).get (j+1)=if j%2=0 then l.get (j/2) else r.get (j/2):=by
 show T.get.bB' (l.get (j/2)) (r.get (j/2)) (Nat.beq (j%2) 0)=_;rcases Nat.mod_two_eq_zero_or_one j with h|h<;>rw[h]<;>rfl
theorem T.get_e{α:Type}(j:Nat):(T.e:T α).get j=none:=rfl
theorem T.get_n{α:Type}{a b:α}{l r l' r':T α}{i:Nat}{v:α}(h0:i=0->b=v/\l'=l/\r'=r)(h1:∀j,i=j+1->b=a/\(if j%2=0 then(∀m,l'.get m=if m=j/2 then some v else l.get m)/\r'=r else l'=l/\∀m,r'.get m=if m=j/2 then some v else r.get m)) :
  ∀m,(T.nd b l' r').get m=if m=i then some v else(T.nd a l r).get m:=by
 intro m;cases i with
 | zero=>
  obtain⟨rfl,rfl,rfl⟩:=h0 rfl;cases m with
  | zero=>simp[T.get_z]
  | succ m=>simp[T.get_s]
 | succ j=>
  obtain⟨rfl,h⟩:=h1 j rfl;cases m with
  | zero=>simp[T.get_z]
  | succ m=>
   simp only[T.get_s,Nat.add_right_cancel_iff];by_cases hj:j%2=0
   ·rw[if_pos hj]at h
    obtain⟨g,rfl⟩:=h;by_cases hm:m%2=0
    ·rw[if_pos hm,if_pos hm,g]
     by_cases he:m=j
     ·subst he;simp
     ·rw[if_neg he,if_neg byO]
    ·rw[if_neg hm,if_neg hm,if_neg byO]
   ·rw[if_neg hj]at h
    obtain⟨rfl,g⟩:=h;by_cases hm:m%2=0
    ·rw[if_pos hm,if_pos hm,if_neg byO]
    ·rw[if_neg hm,if_neg hm,g]
     by_cases he:m=j
     ·subst he;simp
     ·rw[if_neg he,if_neg byO]
theorem T.ins_ok{α:Type}:∀(t:T α) (i:Nat) (v:α) (k:T α->Bool),t.ins i v k=true->∃t',k t'=true/\∀m,t'.get m=if m=i then some v else t.get m
 | .e,0,v,k,h=>⟨_,h,fun m=>by
   cases m with
   | zero=>rfl
   | succ m=>simp[T.get_s,T.get_e]⟩
 | .e,i+1,v,k,h=>by cases h
 | .nd a l r,0,v,k,h=>⟨_,h,T.get_n (fun _=>⟨rfl,rfl,rfl⟩) (fun j hj=>by cases hj)⟩
 | .nd a l r,j+1,v,k,h=>by
  have h:bB (Nat.beq (j%2) 0) (l.ins (j/2) v (fun l'=>k (.nd a l' r))) (r.ins (j/2) v (fun r'=>k (.nd a l r')))=true:=h;refine dq h (fun hb h=>?_) (fun hb h=>?_)
  ·obtain⟨t',h1,h2⟩:=T.ins_ok l _ _ _ h
   refine⟨_,h1,T.get_n (fun h=>by cases h) fun m hm=>?_⟩;cases hm;exact⟨rfl,by rw[if_pos (Nat.eq_of_beq_eq_true hb)];exact⟨h2,rfl⟩⟩
  ·obtain⟨t',h1,h2⟩:=T.ins_ok r _ _ _ h
   refine⟨_,h1,T.get_n (fun h=>by cases h) fun m hm=>?_⟩;cases hm;exact⟨rfl,by rw[if_neg (Nat.ne_of_beq_eq_false hb)];exact⟨rfl,h2⟩⟩
theorem T.path_ok{α:Type}{d v:α}:∀(f i:Nat) (k:T α->Bool),T.path d v f i k=true->∃t',k t'=true/\t'.get i=some v/\∀m,m≠i->t'.get m=none\/m<i/\t'.get m=some d
 | 0,i,k,h=>by cases h
 | f+1,0,k,h=>⟨_,h,rfl,fun m hm=>by
   obtain⟨m,rfl⟩:∃q,m=q+1:=⟨m-1,byO⟩;exact .inl (by simp[T.get_s,T.get_e])⟩
 | f+1,j+1,k,h=>by
  obtain⟨t,h1,h2,h3⟩:=T.path_ok f (j/2) _ (show T.path d v f (j/2) (fun t=>bB (Nat.beq (j%2) 0) (k (.nd d t .e)) (k (.nd d .e t)))=true from h);refine dq h1 (fun hb h=>?_) (fun hb h=>?_)
  ·have hb:=Nat.eq_of_beq_eq_true hb
   refine⟨_,h,by rw[T.get_s,if_pos hb];exact h2,fun m hm=>?_⟩;cases m with
   | zero=>exact .inr ⟨byO,rfl⟩
   | succ m=>
    rw[T.get_s];by_cases hm2:m%2=0
    ·rw[if_pos hm2]
     rcases h3 (m/2) byO with h|⟨h,h4⟩
     ·exact .inl h
     ·exact .inr ⟨byO,h4⟩
    ·rw[if_neg hm2];exact .inl (T.get_e _)
  ·have hb:=Nat.ne_of_beq_eq_false hb
   refine⟨_,h,by rw[T.get_s,if_neg hb];exact h2,fun m hm=>?_⟩;cases m with
   | zero=>exact .inr ⟨byO,rfl⟩
   | succ m=>
    rw[T.get_s];by_cases hm2:m%2=0
    ·rw[if_pos hm2];exact .inl (T.get_e _)
    ·rw[if_neg hm2]
     rcases h3 (m/2) byO with h|⟨h,h4⟩
     ·exact .inl h
     ·exact .inr ⟨byO,h4⟩
theorem T.insD_ok{α:Type}{d:α}:∀(t:T α) (i:Nat) (v:α) (k:T α->Bool),t.insD d i v k=true->∃t',k t'=true/\t'.get i=some v/\∀m,m≠i->t'.get m=t.get m\/m<i/\t'.get m=some d
 | .e,i,v,k,h=>by
  obtain⟨t,h1,h2,h3⟩:=T.path_ok 40 i k h;exact⟨t,h1,h2,fun m hm=>by rw[T.get_e];exact h3 m hm⟩
 | .nd a l r,0,v,k,h=>⟨_,h,rfl,fun m hm=>by
   obtain⟨m,rfl⟩:∃q,m=q+1:=⟨m-1,byO⟩;exact .inl (by rw[T.get_s,T.get_s])⟩
 | .nd a l r,j+1,v,k,h=>by
  have h:bB (Nat.beq (j%2) 0) (l.insD d (j/2) v (fun l'=>k (.nd a l' r))) (r.insD d (j/2) v (fun r'=>k (.nd a l r')))=true:=h;refine dq h (fun hb h=>?_) (fun hb h=>?_)
  ·have hb:=Nat.eq_of_beq_eq_true hb
   obtain⟨t',h1,h2,h3⟩:=T.insD_ok l _ _ _ h;refine⟨_,h1,by rw[T.get_s,if_pos hb];exact h2,fun m hm=>?_⟩;cases m with
   | zero=>exact .inl rfl
   | succ m=>
    rw[T.get_s,T.get_s];by_cases hm2:m%2=0
    ·rw[if_pos hm2,if_pos hm2]
     rcases h3 (m/2) byO with h|⟨h,h4⟩
     ·exact .inl h
     ·exact .inr ⟨byO,h4⟩
    ·rw[if_neg hm2,if_neg hm2];exact .inl rfl
  ·have hb:=Nat.ne_of_beq_eq_false hb
   obtain⟨t',h1,h2,h3⟩:=T.insD_ok r _ _ _ h;refine⟨_,h1,by rw[T.get_s,if_neg hb];exact h2,fun m hm=>?_⟩;cases m with
   | zero=>exact .inl rfl
   | succ m=>
    rw[T.get_s,T.get_s];by_cases hm2:m%2=0
    ·rw[if_pos hm2,if_pos hm2];exact .inl rfl
    ·rw[if_neg hm2,if_neg hm2]
     rcases h3 (m/2) byO with h|⟨h,h4⟩
     ·exact .inl h
     ·exact .inr ⟨byO,h4⟩
theorem T.set_ok{α:Type}:∀(t:T α) (i:Nat) (v:α) (k:T α->Bool),t.set i v k=true->∃t',k t'=true/\t.get i≠none/\∀m,t'.get m=if m=i then some v else t.get m
 | .e,i,v,k,h=>by cases h
 | .nd a l r,0,v,k,h=>⟨_,h,by simp[T.get_z],T.get_n (fun _=>⟨rfl,rfl,rfl⟩) (fun j hj=>by cases hj)⟩
 | .nd a l r,j+1,v,k,h=>by
  have h:bB (Nat.beq (j%2) 0) (l.set (j/2) v (fun l'=>k (.nd a l' r))) (r.set (j/2) v (fun r'=>k (.nd a l r')))=true:=h;refine dq h (fun hb h=>?_) (fun hb h=>?_)
  ·obtain⟨t',h1,h0,h2⟩:=T.set_ok l _ _ _ h
   refine⟨_,h1,by rw[T.get_s,if_pos (Nat.eq_of_beq_eq_true hb)];exact h0,T.get_n (fun h=>by cases h) fun m hm=>?_⟩;cases hm;exact⟨rfl,by rw[if_pos (Nat.eq_of_beq_eq_true hb)];exact⟨h2,rfl⟩⟩
  ·obtain⟨t',h1,h0,h2⟩:=T.set_ok r _ _ _ h
   refine⟨_,h1,by rw[T.get_s,if_neg (Nat.ne_of_beq_eq_false hb)];exact h0,T.get_n (fun h=>by cases h) fun m hm=>?_⟩;cases hm;exact⟨rfl,by rw[if_neg (Nat.ne_of_beq_eq_false hb)];exact⟨rfl,h2⟩⟩
def Rep{α:Type}(t:T α)(l:List α):Prop:=∀i,t.get i=l[i]?
theorem EL{α:Type}:Rep (T.e:T α) []:=fun i=>by simp[T.get_e]
theorem T.set_rep{α:Type}{t:T α}{l:List α}(r:Rep t l){i:Nat}{v:α}{k:T α->Bool}(h:t.set i v k=true):∃t',k t'=true/\i<l.length/\Rep t' (l.set i v):=by
 obtain⟨t',h1,h0,h2⟩:=T.set_ok _ _ _ _ h;rw[r i]at h0;have hi:i<l.length:=by
  apply Decidable.byContradiction;intro hc;exact h0 (av₀ byO)
 refine⟨t',h1,hi,fun m=>?_⟩;rw[h2 m,r m,List.getElem?_set];by_cases hm:m=i
 ·subst hm;simp[hi]
 ·rw[if_neg hm,if_neg (fun h=>hm h.symm)]
theorem T.ins_rep{α:Type}{t:T α}{l:List α}(r:Rep t l){v:α}{k:T α->Bool}(h:t.ins l.length v k=true):∃t',k t'=true/\Rep t' (l++[v]):=by
 obtain⟨t',h1,h2⟩:=T.ins_ok _ _ _ _ h;refine⟨t',h1,fun m=>?_⟩;rw[h2 m,r m];by_cases hm:m=l.length
 ·subst hm;simp
 ·rw[if_neg hm]
  by_cases hl:m<l.length
  ·rw[ax₀ hl]
  ·rw[av₀ byO,av₀ (by simp;omega)]
theorem T.insL_rep{α:Type}:∀(vs:List α) {t:T α} {l:List α} (_:Rep t l) {n:Nat} (_:n=l.length) {k:T α->Bool} (_:T.insL vs n t k=true),∃t',k t'=true/\Rep t' (l++vs)
 | [],t,l,r,n,hn,k,h=>⟨t,h,by simpa using r⟩
 | v::vs,t,l,r,n,hn,k,h=>by
  have h:t.ins n v (fun t'=>T.insL vs (n+1) t' k)=true:=h;subst hn;obtain⟨t',h1,r1⟩:=T.ins_rep r h;obtain⟨t2,h2,r2⟩:=T.insL_rep vs r1 (by simp) h1;exact⟨t2,h2,by simpa using r2⟩
def u5{α:Type}(c:List α)(o:Nat)(vs:List α):List α:=c.take o++(vs++c.drop (o+vs.length))
theorem BN{α:Type}(v:α)(vs:List α)(c:List α)(o:Nat)(h:o<c.length):u5 (c.set o v) (o+1) vs=u5 c o (v::vs):=by
 simp only[u5,ak₀,am₀];rw[List.take_succ_eq_append_getElem (by simpa using h),List.getElem_set_self,List.take_set_of_le byO,List.drop_set_of_lt byO];simp[Nat.add_assoc,Nat.add_comm 1]
theorem T.setL_rep{α:Type}:∀(vs:List α) {t:T α} {l:List α} (_:Rep t l) {o:Nat} {k:T α->Bool} (_:T.setL vs o t k=true),∃t',k t'=true/\Rep t' (u5 l o vs)
 | [],t,l,r,o,k,h=>⟨t,h,by simpa[u5]using r⟩
 | v::vs,t,l,r,o,k,h=>by
  have h:t.set o v (fun t'=>T.setL vs (o+1) t' k)=true:=h;obtain⟨t',h1,ho,r1⟩:=T.set_rep r h;obtain⟨t2,h2,r2⟩:=T.setL_rep vs r1 h1;exact⟨t2,h2,by rw[<-BN v vs l o ho];exact r2⟩
theorem T.rd_rep{α:Type}{t:T α}{l:List α}(r:Rep t l)(o:Nat):∀(n:Nat) (acc:List α) {k:List α->Bool},t.rd o n acc k=true->∃c,c.length=n/\k (c++acc)=true/\(n=0\/o+n<=l.length)/\c=(l.drop o).take n
 | 0,acc,k,h=>⟨[],rfl,h,.inl rfl,by simp⟩
 | n+1,acc,k,h=>by
  have h:oB (t.get (o+n)) (fun v=>t.rd o n (v::acc) k)=true:=h;obtain⟨v,hv,h⟩:=ox h;obtain⟨c,h1,h2,h3,h4⟩:=T.rd_rep r o n _ h;rw[r]at hv;obtain⟨hl,hv⟩:=List.getElem?_eq_some_iff.1 hv;refine⟨c++[v],by simp[h1],by simpa using h2,.inr byO,?_⟩;rw[h4,List.take_succ_eq_append_getElem (by simp;omega)];simp[hv]
theorem JX{α:Type}{v:α}{l r:T α}{m:Nat}(hl:Rep l (List.replicate ((m+1)/2) v))(hr:Rep r (List.replicate (m/2) v)):Rep (T.nd v l r) (List.replicate (m+1) v):=by
 intro i;cases i with
 | zero=>simp[T.get_z]
 | succ j=>
  rw[T.get_s,hl,hr];simp only[List.getElem?_replicate];split<;>(repeat' split)<;>first|rfl|(exfalso;omega)
theorem T.rep_rep{α:Type}(v:α):∀(f n:Nat) {k:T α->Bool},T.rep v f n k=true->∃t,k t=true/\Rep t (List.replicate n v)
 | 0,n,k,h=>by cases h
 | f+1,0,k,h=>⟨.e,h,EL⟩
 | f+1,m+1,k,h=>by
  have h:T.rep v f (m/2) (fun r=>bB (Nat.beq (m%2) 0) (k (.nd v r r)) (r.ins (m/2) v (fun l=>k (.nd v l r))))=true:=h;obtain⟨r,h,hr⟩:=T.rep_rep v f _ h;refine dq h (fun hb h=>?_) (fun hb h=>?_)
  ·have hb:=Nat.eq_of_beq_eq_true hb
   exact⟨_,h,JX (by rw[show(m+1)/2=m/2 by omega];exact hr) hr⟩
  ·have hb:=Nat.ne_of_beq_eq_false hb
   have h2:r.ins (List.replicate (m/2) v).length v (fun l=>k (.nd v l r))=true:=by simpa using h
   obtain⟨l,h1,hl⟩:=T.ins_rep hr h2;exact⟨_,h1,JX (by rw[show(m+1)/2=m/2+1 by omega,List.replicate_succ'];exact hl) hr⟩
theorem fi(l:List FV):toL l=l.map toV:=by
 induction l with
 | nil=>rfl
 | cons v l ih=>show toV v::toL l=_;rw[ih];rfl
theorem Bf{b:Bool}{k:FV->Bool}(h:Hh b k=true):∃x,toV x=.bool b/\k x=true:=by cases b<;>exact⟨_,rfl,h⟩
theorem FE{kd:IntKind}{z:Int}{k:FV->Bool}(h:Mi kd z k=true):∃x,toV x=.int kd z/\k x=true:=by
 cases z with
 | ofNat n=>exact⟨.i kd n,rfl,by have h:fN n (fun n=>k (.i kd n))=true:=h;rwa [et]at h⟩
 | negSucc n=>exact⟨.o (.int kd (.negSucc n)),rfl,by have h:fN n (fun n=>k (.o (.int kd (.negSucc n))))=true:=h;rwa [et]at h⟩
theorem FF{a:Option Addr}{k:FV->Bool}(h:Mj a k=true):∃x,toV x=.pointer a/\k x=true:=by
 rcases a with _|⟨b,o,_|z⟩
 ·exact⟨_,rfl,h⟩
 ·have h:fN b (fun b=>fN o fun o=>k (.p b o))=true:=h
  simp only[et]at h;exact⟨_,rfl,h⟩
 ·exact⟨_,rfl,h⟩
theorem FG{a:Option Addr}{l c:Nat}{k:FV->Bool}(h:KE a l c k=true):∃x,toV x=.slice a l c/\k x=true:=by
 unfold KE at h;simp only[et]at h;rcases a with _|⟨b,o,_|z⟩
 ·exact⟨_,rfl,h⟩
 ·exact⟨_,rfl,h⟩
 ·exact⟨_,rfl,h⟩
theorem uP{v:Value}{k:FV->Bool}(h:ofV v k=true):∃x,toV x=v/\k x=true:=by
 cases v
 case bool b=>exact Bf h
 case int kd z=>exact FE h
 case pointer a=>exact FF h
 case slice a l c=>exact FG h
 all_goals exact⟨_,rfl,h⟩
theorem ju:∀{l:List Value} {k:List FV->Bool},ofL l k=true->∃x,toL x=l/\k x=true
 | [],k,h=>⟨[],rfl,h⟩
 | v::l,k,h=>by
  have h:ofV v (fun v=>ofL l fun l=>k (v::l))=true:=h;obtain⟨x,hx,h1⟩:=uP h;obtain⟨xs,hxs,h2⟩:=ju h1;exact⟨x::xs,by rw[<-hx,<-hxs];rfl,h2⟩
theorem kI(l:List FV):(toL l).length=l.length:=by simp[fi]
theorem uo(l m:List FV):toL (l++m)=toL l++toL m:=by simp[fi]
theorem pI{p:FV->Bool}:∀{l:List FV} {k:Bool},AN p l k=true->(l.all p=true)/\k=true
 | [],k,h=>⟨rfl,h⟩
 | v::l,k,h=>by
  have h:bB (p v) (AN p l k) false=true:=h;obtain⟨h1,h2⟩:=eJ h;obtain⟨h3,h4⟩:=pI h2;exact⟨by simp[h1,h3],h4⟩
theorem Ge{x:FV}(h:BC x=true):(toV x).oneCell'=true:=by cases x<;>first|rfl|exact h
theorem uT{l:List FV}(h:l.all BC=true):oneCells (toL l)=true:=by
 rw[fi];simp only[oneCells,List.all_map,List.all_eq_true]at h ⊢;exact fun x hx=>Ge (h x hx)
def RO:Option Blk->Option (Option (List Value))->Prop
 | some (.mk m u),some (some c)=>∃l,Rep u l/\l.length=m/\c=toL l
 | some .no,some none=>True
 | some .un,some _=>True
 | none,_=>True
 | _,_=>False
def RH(F:FH)(H:Heap):Prop:=∃t,F=.mk H.length t/\∀b,RO (t.get b) H[b]?
theorem RH.size{F:FH}{H:Heap}(r:RH F H):F.size=H.length:=by obtain⟨t,rfl,_⟩:=r;rfl
theorem p6{F:FH}{H:Heap}(r:RH F H){b:Nat}{k:Nat->T FV->Bool}(h:F.blk b k=true):∃u l,k l.length u=true/\Rep u l/\H.get b=some (toL l)/\b<H.length:=by
 obtain⟨t,rfl,hr⟩:=r;have h:oB (t.get b) (fun x=>Blk.rec k false false x)=true:=h;obtain⟨x,hx,h⟩:=ox h;have:=hr b;rw[hx]at this;rcases x with ⟨m,u⟩|_|_
 ·rcases hb:H[b]? with _|_|c
  ·rw[hb]at this;exact this.elim
  ·rw[hb]at this;exact this.elim
  ·rw[hb]at this
   obtain⟨l,r1,rfl,rfl⟩:=this;exact⟨u,l,h,r1,by simp[Heap.get,hb],(List.getElem?_eq_some_iff.1 hb).1⟩
 ·cases h
 ·cases h
theorem zp{F:FH}{H:Heap}(r:RH F H){b:Nat}{x:Blk}{y:Option (List Value)}(hx:RO (some x) (some y)){k:FH->Bool}(h:F.setB b x k=true):∃F',k F'=true/\RH F' (H.set b y):=by
 obtain⟨t,rfl,hr⟩:=r;have h:t.set b x (fun t'=>k (.mk H.length t'))=true:=h;obtain⟨t',h1,h0,h2⟩:=T.set_ok _ _ _ _ h;refine⟨_,h1,t',by simp,fun i=>?_⟩;rw[h2 i,List.getElem?_set];have hb:b<H.length:=by
  apply Decidable.byContradiction;intro hc;have:=hr b;rw[av₀ byO]at this;rcases hg:t.get b with _|_|_|_
  ·exact h0 hg
  ·rw[hg]at this;exact this
  ·rw[hg]at this;exact this
  ·rw[hg]at this;exact this
 by_cases hi:i=b
 ·subst hi;simp only[if_true,if_pos hb];exact hx
 ·rw[if_neg hi,if_neg (fun h=>hi h.symm)];exact hr i
theorem uZ{F:FH}{H:Heap}(r:RH F H){x:Blk}{y:Option (List Value)}(hx:RO (some x) (some y)){k:Nat->FH->Bool}(h:F.push x k=true):∃F',k H.length F'=true/\RH F' (H++[y]):=by
 obtain⟨t,rfl,hr⟩:=r;have h:t.insD .un H.length x (fun t'=>k H.length (.mk (H.length+1) t'))=true:=h;obtain⟨t',h1,h2,h3⟩:=T.insD_ok _ _ _ _ h;refine⟨_,h1,t',by simp,fun i=>?_⟩;by_cases hi:i=H.length
 ·subst hi;rw[h2];simp only[aw₀ (Nat.le_refl _),Nat.sub_self,List.getElem?_cons_zero];exact hx
 ·by_cases hl:i<H.length
  ·rw[ax₀ hl]
   rcases h3 i hi with h|⟨-,h⟩
   ·rw[h];exact hr i
   ·rw[h,bb₀ hl];exact trivial
  ·have:=hr i
   rw[av₀ byO]at this;rw[av₀ (by simp;omega)];rcases h3 i hi with h|⟨h,-⟩
   ·rw[h];exact this
   ·omega
theorem zf{F:FH}{H:Heap}(r:RH F H){b o n:Nat}{k:List FV->Bool}(h:F.rd b o n k=true):∃l,k l=true/\l.length=n/\H.cells b o n=some (toL l):=by
 obtain⟨u,l,h,r1,hg,_⟩:=p6 r h;obtain⟨hn,h⟩:=eJ h;have hn:o+n<=l.length:=Nat.le_of_ble_eq_true hn;obtain⟨c,h1,h2,_,h4⟩:=T.rd_rep r1 o n [] h;rw[List.append_nil]at h2;refine⟨c,h2,h1,?_⟩;simp[Heap.cells,hg,fi,hn,h4]
theorem Ez{F:FH}{H:Heap}(r:RH F H){lo b o:Nat}{vs:List FV}{k:FH->Bool}(h:F.wr lo b o vs k=true):∃F' H',k F'=true/\H.put lo b o (toL vs)=some H'/\RH F' H':=by
 obtain⟨hlo,h⟩:=eJ h;obtain⟨u,l,h,r1,hg,hb⟩:=p6 r h;obtain⟨hn,h⟩:=eJ h;have hn:o+vs.length<=l.length:=Nat.le_of_ble_eq_true hn;obtain⟨t',h1,r2⟩:=T.setL_rep vs r1 h;have hl:(u5 l o vs).length=l.length:=by simp[u5];omega
 obtain⟨F',h2,r3⟩:=zp r (x:=.mk l.length t') (y:=some (putCells (toL l) o (toL vs))) ⟨_,r2,hl,by simp[putCells,u5,fi]⟩ h1;exact⟨F',_,h2,by simp[Heap.put,hg,kI,Nat.le_of_ble_eq_true hlo,hn],r3⟩
theorem j7{F:FH}{H:Heap}(r:RH F H){vs:List FV}{k:Nat->FH->Bool}(h:F.pushL vs k=true):∃F',k H.length F'=true/\RH F' (H++[some (toL vs)]):=by
 have h:T.insL vs 0 .e (fun t=>fN vs.length fun n=>F.push (.mk n t) k)=true:=h;obtain⟨t,h,r1⟩:=T.insL_rep vs EL rfl h;rw[et]at h;exact uZ r (x:=.mk vs.length t) (y:=some (toL vs)) ⟨vs,by simpa using r1,rfl,rfl⟩ h
theorem jG{β:Type}{l:List β}{f:β->Bool}(h:l1 l f false=true):∃x,l=[x]/\f x=true:=by
 rcases l with _|⟨x,_|⟨y,r⟩⟩
 ·cases h
 ·exact⟨x,rfl,h⟩
 ·cases h
theorem qc{β:Type}{l:List β}{f:β->β->Bool}{d:Bool}(h:l2 l f d=true):(∃x y,l=[x,y]/\f x y=true)\/d=true:=by
 rcases l with _|⟨x,_|⟨y,_|⟨z,r⟩⟩⟩
 ·exact .inr h
 ·exact .inr h
 ·exact .inl ⟨x,y,rfl,h⟩
 ·exact .inr h
theorem sA{x:FV}{f:IntKind->Nat->Bool}{d:Bool}(h:cI x f d=true):(∃k n,x=.i k n/\f k n=true)\/d=true:=by
 cases x<;>first|exact .inl ⟨_,_,rfl,h⟩|exact .inr h
theorem JF{x:FV}{f:Bool->Bool}{d:Bool}(h:cB x f d=true):(∃b,x=.b b/\f b=true)\/d=true:=by
 cases x<;>first|exact .inl ⟨_,rfl,h⟩|exact .inr h
theorem vC{x:FV}{f:Nat->Nat->Bool}{d:Bool}(h:cP x f d=true):(∃b o,x=.p b o/\f b o=true)\/d=true:=by
 cases x<;>first|exact .inl ⟨_,_,rfl,h⟩|exact .inr h
theorem sB{x:FV}{f:Nat->Nat->Nat->Nat->Option Nat->Bool}{d:Bool}(h:cS x f d=true):(∃b o l c s,x=.s b o l c s/\f b o l c s=true)\/d=true:=by
 cases x<;>first|exact .inl ⟨_,_,_,_,_,rfl,h⟩|exact .inr h
theorem vB{x:FV}{f:Value->Bool}{d:Bool}(h:cO x f d=true):(∃v,x=.o v/\f v=true)\/d=true:=by
 cases x<;>first|exact .inl ⟨_,rfl,h⟩|exact .inr h
theorem sE(b o n:Nat):Heap.cells [] b o n=none:=by simp[Heap.cells,Heap.get]
theorem D6{o:LOp}{vs:List Value}{H:Heap}{v:Value}(h:aJ o vs []=some v):aJ o vs H=some v:=by
 cases hr:eu o
 ·rw[<-ot hr vs [] H];exact h
 ·cases o<;>simp only[eu]at hr<;>try cases hr
  all_goals
   simp only[aJ]at h ⊢;split at h
   all_goals (try rename_i heq)
   all_goals first
    | (cases heq;done)
    | (simp only[sE]at h;simp at h;done)
    | (split at h<;>simp only[sE]at h<;>simp at h;done)
    | exact h
    | (simp at h;done)
    | (simp only[reduceCtorEq]at h)
theorem e9{o:LOp}{vs:List FV}{F:FH}{H:Heap}{k:FV->Bool}(h:fC o vs F k=true):∃x,aJ o (toL vs) H=some (toV x)/\k x=true:=by
 obtain⟨v,hv,h⟩:=ox h;obtain⟨x,hx,h2⟩:=uP h;subst hx;exact⟨x,D6 hv,h2⟩
theorem Ma{kd:IntKind}{n:Nat}(h:n<=qh kd):kd.wrap (n:Int)=n:=by
 cases kd<;>simp only[qh]at h<;>simp[IntKind.wrap,IntKind.bits,IntKind.signed]<;>omega
theorem jP{kd:IntKind}{n:Nat}{k:FV->Bool}{d:Bool}(h:okN kd n k d=true):(kd.wrap (n:Int)=n/\k (.i kd n)=true)\/d=true:=by
 refine dq h (fun hb h=>.inl ?_) (fun _ h=>.inr h);rw[et]at h;exact⟨Ma (Nat.le_of_ble_eq_true hb),h⟩
theorem lN{kd:IntKind}{n:Nat}(h:n<=qh kd):n<2^kd.bits:=by
 cases kd<;>simp only[qh]at h<;>simp[IntKind.bits]<;>omega
theorem Br(kd:IntKind):KO kd=kd.bits:=by cases kd<;>rfl
theorem id_eq{k k':IntKind}(h:Nat.beq (idI k) (idI k')=true):k=k':=by cases k<;>cases k'<;>first|rfl|cases h
theorem Ej{b:Bool}{k:FV->Bool}(h:tf b k=true):k (.b b)=true:=by cases b<;>exact h
theorem AD{b:Bool}{k:FV->Bool}(h:tn b k=true):k (.b !b)=true:=by cases b<;>exact h
theorem zR(a b:Nat):Nat.beq a b=decide (a=b):=by
 by_cases h:a=b
 ·subst h;simp
 ·simp only[h,decide_false];cases hb:Nat.beq a b
  ·rfl
  ·exact absurd (Nat.eq_of_beq_eq_true hb) h
theorem iD(a b:Nat):Nat.ble a b=decide (a<=b):=by
 by_cases h:a<=b
 ·simp only[h,decide_true];exact Nat.ble_eq_true_of_le h
 ·simp only[h,decide_false];cases hb:Nat.ble a b
  ·rfl
  ·exact absurd (Nat.le_of_ble_eq_true hb) h
theorem bvn{n w:Nat}(h:n<2^w):(BitVec.ofInt w (n:Int)).toNat=n:=by
 simp only[BitVec.toNat_ofInt];have:((n:Int)%((2^w:Nat):Int)).toNat=n:=by
  rw[<-Int.natCast_emod,Nat.mod_eq_of_lt h];rfl
 simpa using this
theorem FN{op:BinOp}{kd kd':IntKind}{a b:Nat}{k:FV->Bool}{d:Bool}(hk:kP op=true\/kd=kd')(h:Nh op kd a b k d=true):(∃x,bF op (.int kd a) (.int kd' b)=some (toV x)/\k x=true)\/d=true:=by
 cases op
 case add=>
  obtain rfl:=hk.resolve_left (by simp[kP]);rcases jP h with ⟨h1,h2⟩|h
  ·exact .inl ⟨_,by simpa[bF,bQ,toV]using h1,h2⟩
  ·exact .inr h
 case sub=>
  obtain rfl:=hk.resolve_left (by simp[kP]);refine dq h (fun hb h=>?_) (fun _ h=>.inr h);rcases jP h with ⟨h1,h2⟩|h
  ·have hb:b<=a:=Nat.le_of_ble_eq_true hb
   have e:((Nat.sub a b:Nat):Int)=(a:Int)-b:=Int.ofNat_sub hb;rw[e]at h1;exact .inl ⟨_,by simp only[bF,bQ,toV,if_true,h1];rw[<-e];rfl,h2⟩
  ·exact .inr h
 case mul=>
  obtain rfl:=hk.resolve_left (by simp[kP]);rcases jP h with ⟨h1,h2⟩|h
  ·exact .inl ⟨_,by simpa[bF,bQ,toV]using h1,h2⟩
  ·exact .inr h
 case quo=>
  obtain rfl:=hk.resolve_left (by simp[kP]);refine dq h (fun _ h=>.inr h) (fun hb h=>?_);rcases jP h with ⟨h1,h2⟩|h
  ·have hb:b≠0:=Nat.ne_of_beq_eq_false hb
   have e:(a:Int).tdiv b=((Nat.div a b:Nat):Int):=rfl;exact .inl ⟨_,by simp only[bF,bQ,toV,if_true,e,h1];simp[hb],h2⟩
  ·exact .inr h
 case rem=>
  obtain rfl:=hk.resolve_left (by simp[kP]);refine dq h (fun _ h=>.inr h) (fun hb h=>?_);rcases jP h with ⟨h1,h2⟩|h
  ·have hb:b≠0:=Nat.ne_of_beq_eq_false hb
   exact .inl ⟨_,by simp[bF,bQ,toV,hb];rfl,h2⟩
  ·exact .inr h
 case and=>
  obtain rfl:=hk.resolve_left (by simp[kP]);refine dq h (fun ha h=>?_) (fun _ h=>.inr h);refine dq h (fun hb h=>?_) (fun _ h=>.inr h);rcases jP h with ⟨h1,h2⟩|h
  ·refine .inl ⟨_,?_,h2⟩
   have h1:kd.wrap ((a &&& b:Nat):Int)=((a &&& b:Nat):Int):=h1;simp only[bF,bQ,if_true,toV,BitVec.toNat_and,bvn (lN (Nat.le_of_ble_eq_true ha)),bvn (lN (Nat.le_of_ble_eq_true hb)),h1];rfl
  ·exact .inr h
 case or=>
  obtain rfl:=hk.resolve_left (by simp[kP]);refine dq h (fun ha h=>?_) (fun _ h=>.inr h);refine dq h (fun hb h=>?_) (fun _ h=>.inr h);rcases jP h with ⟨h1,h2⟩|h
  ·refine .inl ⟨_,?_,h2⟩
   have h1:kd.wrap ((a ||| b:Nat):Int)=((a ||| b:Nat):Int):=h1;simp only[bF,bQ,if_true,toV,BitVec.toNat_or,bvn (lN (Nat.le_of_ble_eq_true ha)),bvn (lN (Nat.le_of_ble_eq_true hb)),h1];rfl
  ·exact .inr h
 case xor=>
  obtain rfl:=hk.resolve_left (by simp[kP]);refine dq h (fun ha h=>?_) (fun _ h=>.inr h);refine dq h (fun hb h=>?_) (fun _ h=>.inr h);rcases jP h with ⟨h1,h2⟩|h
  ·refine .inl ⟨_,?_,h2⟩
   have h1:kd.wrap ((a ^^^ b:Nat):Int)=((a ^^^ b:Nat):Int):=h1;simp only[bF,bQ,if_true,toV,BitVec.toNat_xor,bvn (lN (Nat.le_of_ble_eq_true ha)),bvn (lN (Nat.le_of_ble_eq_true hb)),h1];rfl
  ·exact .inr h
 case andNot=>exact .inr h
 case shl=>
  refine dq h (fun hb h=>?_) (fun _ h=>.inr h);have hb:=Nat.le_of_ble_eq_true hb;rw[Br]at hb;rcases jP h with ⟨h1,h2⟩|h
  ·refine .inl ⟨_,?_,h2⟩
   have h1:kd.wrap ((a*2^b:Nat):Int)=((a*2^b:Nat):Int):=h1;have e:(a:Int)*2^b=((a*2^b:Nat):Int):=by simp
   simp only[bF,gX,toV,Int.toNat_natCast,Nat.min_eq_left hb,e,h1];rw[if_neg byO];rfl
  ·exact .inr h
 case shr=>
  refine dq h (fun hb h=>?_) (fun _ h=>.inr h);have hb:=Nat.le_of_ble_eq_true hb;rw[Br]at hb;rw[et]at h;refine .inl ⟨_,?_,h⟩;have e:(a:Int).fdiv (2^b)=((a/2^b:Nat):Int):=by
   rw[Int.fdiv_eq_ediv_of_nonneg _ (by exact_mod_cast Nat.zero_le _)];simp
  simp only[bF,gX,toV,Int.toNat_natCast,Nat.min_eq_left hb,e];rw[if_neg byO];rfl
 case eql=>
  obtain rfl:=hk.resolve_left (by simp[kP]);refine .inl ⟨_,?_,Ej h⟩;simp only[bF,bQ,if_true,toV,zR,ab₀,Value.bool.injEq];by_cases e:a=b
  ·simp[e]
  ·simp[e];omega
 case neq=>
  obtain rfl:=hk.resolve_left (by simp[kP]);refine .inl ⟨_,?_,AD h⟩;simp only[bF,bQ,if_true,toV,zR,ab₀,Value.bool.injEq];by_cases e:a=b
  ·simp[e,bne]
  ·simp[e,bne];omega
 case lss=>
  obtain rfl:=hk.resolve_left (by simp[kP]);refine .inl ⟨_,?_,AD h⟩;simp only[bF,bQ,if_true,toV,iD,ab₀,Value.bool.injEq];by_cases e:a<b<;>simp[e]<;>omega
 case leq=>
  obtain rfl:=hk.resolve_left (by simp[kP]);refine .inl ⟨_,?_,Ej h⟩;simp only[bF,bQ,if_true,toV,iD,ab₀,Value.bool.injEq];by_cases e:a<=b<;>simp[e]
 case gtr=>
  obtain rfl:=hk.resolve_left (by simp[kP]);refine .inl ⟨_,?_,AD h⟩;simp only[bF,bQ,if_true,toV,iD,ab₀,Value.bool.injEq];by_cases e:a<=b<;>simp[e]<;>omega
 case geq=>
  obtain rfl:=hk.resolve_left (by simp[kP]);refine .inl ⟨_,?_,Ej h⟩;simp only[bF,bQ,if_true,toV,iD,ab₀,Value.bool.injEq];by_cases e:b<=a<;>simp[e]
theorem kH(x:FV):toL [x]=[toV x]:=rfl
theorem we(x y:FV):toL [x,y]=[toV x,toV y]:=rfl
theorem Cx{o:LOp}{vs:List FV}{F:FH}{H:Heap}(r:RH F H){k:FV->Bool}(h:JP o vs F k=true):∃x,aJ o (toL vs) H=some (toV x)/\k x=true:=by
 cases o
 case mv=>obtain⟨x,rfl,h1⟩:=jG h;exact⟨x,rfl,h1⟩
 case bin op=>
  rcases qc h with ⟨x,y,rfl,h1⟩|h
  ·rcases sA h1 with ⟨kd,a,rfl,h2⟩|h
   ·rcases sA h2 with ⟨kd',b,rfl,h3⟩|h
    ·refine dq h3 (fun hb h=>?_) (fun _ h=>e9 h)
     have hk:kP op=true\/kd=kd':=by
      cases hs:kP op
      ·rw[hs]at hb;exact .inr (id_eq hb)
      ·exact .inl rfl
     rcases FN hk h with ⟨x,h1,h2⟩|h
     ·exact⟨x,h1,h2⟩
     ·exact e9 h
    ·exact e9 h
   ·exact e9 h
  ·exact e9 h
 case ld n agg=>
  cases agg
  ·obtain⟨x,rfl,h1⟩:=jG h
   obtain⟨b,o,rfl,h2⟩:=(vC h1).resolve_right (by simp);obtain⟨u,l,h3,r1,hg,_⟩:=p6 r h2;obtain⟨x,hx,h4⟩:=ox h3;rw[r1]at hx;obtain⟨ho,he⟩:=List.getElem?_eq_some_iff.1 hx;refine⟨x,?_,h4⟩;simp[kH,toV,aJ,Heap.cells,hg,fi,show o+1<=l.length from ho,List.head?_take,hx]
  ·obtain⟨x,rfl,h1⟩:=jG h
   obtain⟨b,o,rfl,h2⟩:=(vC h1).resolve_right (by simp);obtain⟨l,h3,_,hc⟩:=zf r h2;exact⟨_,by simp[kH,toV,aJ,hc],h3⟩
 case fAddr off=>
  obtain⟨x,rfl,h1⟩:=jG h;obtain⟨b,o,rfl,h2⟩:=(vC h1).resolve_right (by simp);rw[et]at h2;exact⟨_,rfl,h2⟩
 case iAddr sz=>
  obtain⟨x,y,rfl,h1⟩:=(qc h).resolve_right (by simp);obtain⟨b,o,l,c,s,rfl,h2⟩:=(sB h1).resolve_right (by simp);obtain⟨kd,i,rfl,h3⟩:=(sA h2).resolve_right (by simp);obtain⟨hb,h4⟩:=eJ h3;rw[et]at h4;have hb:i<l:=Nat.le_of_ble_eq_true hb;refine⟨_,?_,h4⟩;simp[we,toV,aJ,hb]
 case len=>
  obtain⟨x,rfl,h1⟩:=jG h;rcases sB h1 with ⟨b,o,l,c,s,rfl,h2⟩|h2
  ·exact⟨_,rfl,h2⟩
  ·exact e9 h2
 case b2s=>
  obtain⟨x,rfl,h1⟩:=jG h;rcases sB h1 with ⟨b,o,l,c,s,rfl,h2⟩|h2
  ·obtain⟨m,h3,_,hc⟩:=zf r h2
   obtain⟨w,hw,h4⟩:=ox h3;exact⟨_,by simp[kH,toV,aJ,hc,hw],h4⟩
  ·exact e9 h2
 case nilChk=>
  obtain⟨x,rfl,h1⟩:=jG h;rcases vC h1 with ⟨b,o,rfl,h2⟩|h2
  ·exact⟨_,rfl,h2⟩
  ·exact e9 h2
 case un u=>
  obtain⟨x,rfl,h1⟩:=jG h;rcases JF h1 with ⟨b,rfl,h2⟩|h2
  ·cases u
   case not=>exact⟨_,rfl,AD h2⟩
   all_goals exact e9 h2
  ·exact e9 h2
 case cvt kd=>
  obtain⟨x,rfl,h1⟩:=jG h;rcases sA h1 with ⟨kd',n,rfl,h2⟩|h2
  ·rcases jP h2 with ⟨h3,h4⟩|h4
   ·exact⟨_,by simp only[kH,toV,aJ];rw[show Int.ofNat n=(n:Int) from rfl,h3],h4⟩
   ·exact e9 h4
  ·exact e9 h2
 all_goals exact e9 (F:=F) h
end Go.Abs

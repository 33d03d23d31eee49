/- Lemmas. -/
import Derived.Test.YtgpolmomghejoaaDoorE15
set_option linter.unusedVariables false
set_option linter.unusedSimpArgs false
set_option linter.unusedSectionVars false
namespace Go.Proofs.YtgpolmomghejoaaDoor
open Go.Abs
set_option maxRecDepth 20000
def punT:List UInt8:=[59,60,62,64,91,92,93,95,96,126,33,13,9,44,58,10,45,46,36,47,34,124,42,40,41,63,123,125,39]
def mixT:List UInt8:=[48,49,50,51,52,53,54,55,56,57,38,13,9,44,58,35,45,46,36,47,43,37,42,61,94]
def uppT:List UInt8:=[65,66,67,68,69,70,71,72,73,74,75,76,77,78,79,80,81,82,83,84,85,86,87,88,89,90,32]
def lowT:List UInt8:=[97,98,99,100,101,102,103,104,105,106,107,108,109,110,111,112,113,114,115,116,117,118,119,120,121,122,32]
def stp(sub shift v:Nat):Option (Int×Nat×Nat):=
 if shift=1 then(if v=29 then none else some (((punT.getD v 0).toNat:Int),sub,0))
 else if shift=2 then(if 26<v then none else some (((uppT.getD v 0).toNat:Int),sub,0))
 else if sub=3 then(if v=29 then some (-1,0,0) else some (((punT.getD v 0).toNat:Int),sub,0))
 else if v=29 then some (-1,sub,1)
 else if sub=2 then(if v=25 then some (-1,3,0) else if v=26 then some (32,sub,0) else if v=27 then some (-1,1,0) else if v=28 then some (-1,0,0) else some (((mixT.getD v 0).toNat:Int),sub,0))
 else if v=28 then some (-1,2,0)
 else if sub=0 then(if v=27 then some (-1,1,0) else some (((uppT.getD v 0).toNat:Int),sub,0))
 else if v=27 then some (-1,sub,2) else some (((lowT.getD v 0).toNat:Int),sub,0)
def wq(sub shift v:Nat):Value:=match stp sub shift v with
 | some (c,a,b)=>.tuple #[.int .i64 c,.int .i64 (a:Nat),.int .i64 (b:Nat),.bool true]
 | none=>.tuple #[.int .i64 0,.int .i64 0,.int .i64 0,.bool false]
theorem EO{lo:Nat}{H:Heap}{sub shift v:Nat}(h1:sub<4)(h2:shift<3)(h3:v<30) :
  Ev cp lo 49 [.int .i64 (sub:Nat),.int .i64 (shift:Nat),.int .i64 (v:Nat)] H (fun r H'=>H'=H∧r=wq sub shift v):=by
 have ew:∀b:UInt8,IntKind.i64.wrap (b.toNat:Int)=(b.toNat:Int):=fun b=>wrap_i64 (by omega) (by have:=b.toNat_lt;omega);unfold wq stp;refine JP ?_;unfold C7 x6;simp only[kB,aA];repeat' ((first|refine aJ ?_|refine aK rfl ?_);(try simp only[aA]))
 refine bJ (fun h=>?_) (fun h=>?_)
 ·have e:shift=1:=by simp only[decide_eq_true_eq]at h;omega
  clear h;rw[if_pos e];(try simp only[aA]);refine bJ (fun h=>?_) (fun h=>?_)
  ·have e:v=29:=by simp only[decide_eq_true_eq]at h;omega
   clear h;rw[if_pos e];(try simp only[aA]);(repeat' ((first|refine aJ ?_|refine aK rfl ?_);(try simp only[aA])));refine bu ?_;exact⟨rfl,by first|rfl|(subst_vars;rfl)⟩
  ·have e:¬ (v=29):=by simp only[decide_eq_false_iff_not]at h;omega
   clear h;rw[if_neg e];have ei:aG .idxS [.string ⟨#[59,60,62,64,91,92,93,95,96,126,33,13,9,44,58,10,45,46,36,47,34,124,42,40,41,63,123,125,39]⟩,.int .i64 (v:Nat)] H=some (.int .u8 ((punT.getD v 0).toNat:Nat)):=dK (l:=punT) (by simp[punT];omega);(try simp only[aA]);(repeat' ((first|refine aJ ?_|refine aK rfl ?_);(try simp only[aA])));refine bu ?_;exact⟨rfl,by first|rfl|(subst_vars;rfl)⟩
 ·have e:¬ (shift=1):=by simp only[decide_eq_false_iff_not]at h;omega
  clear h;rw[if_neg e];(try simp only[aA]);refine bJ (fun h=>?_) (fun h=>?_)
  ·have e:shift=2:=by simp only[decide_eq_true_eq]at h;omega
   clear h;rw[if_pos e];(try simp only[aA]);refine bJ (fun h=>?_) (fun h=>?_)
   ·have e:26<v:=by simp only[decide_eq_true_eq]at h;omega
    clear h;rw[if_pos e];(try simp only[aA]);(repeat' ((first|refine aJ ?_|refine aK rfl ?_);(try simp only[aA])));refine bu ?_;exact⟨rfl,by first|rfl|(subst_vars;rfl)⟩
   ·have e:¬ (26<v):=by simp only[decide_eq_false_iff_not]at h;omega
    clear h;rw[if_neg e];have ei:aG .idxS [.string ⟨#[65,66,67,68,69,70,71,72,73,74,75,76,77,78,79,80,81,82,83,84,85,86,87,88,89,90,32]⟩,.int .i64 (v:Nat)] H=some (.int .u8 ((uppT.getD v 0).toNat:Nat)):=dK (l:=uppT) (by simp[uppT];omega);(try simp only[aA]);(repeat' ((first|refine aJ ?_|refine aK rfl ?_);(try simp only[aA])));refine bu ?_;exact⟨rfl,by first|rfl|(subst_vars;rfl)⟩
  ·have e:¬ (shift=2):=by simp only[decide_eq_false_iff_not]at h;omega
   clear h;rw[if_neg e];(try simp only[aA]);refine bJ (fun h=>?_) (fun h=>?_)
   ·have e:sub=3:=by simp only[decide_eq_true_eq]at h;omega
    clear h;rw[if_pos e];(try simp only[aA]);refine bJ (fun h=>?_) (fun h=>?_)
    ·have e:v=29:=by simp only[decide_eq_true_eq]at h;omega
     clear h;rw[if_pos e];(try simp only[aA]);(repeat' ((first|refine aJ ?_|refine aK rfl ?_);(try simp only[aA])));refine bu ?_;exact⟨rfl,by first|rfl|(subst_vars;rfl)⟩
    ·have e:¬ (v=29):=by simp only[decide_eq_false_iff_not]at h;omega
     clear h;rw[if_neg e];have ei:aG .idxS [.string ⟨#[59,60,62,64,91,92,93,95,96,126,33,13,9,44,58,10,45,46,36,47,34,124,42,40,41,63,123,125,39]⟩,.int .i64 (v:Nat)] H=some (.int .u8 ((punT.getD v 0).toNat:Nat)):=dK (l:=punT) (by simp[punT];omega);(try simp only[aA]);(repeat' ((first|refine aJ ?_|refine aK rfl ?_);(try simp only[aA])));refine bu ?_;exact⟨rfl,by first|rfl|(subst_vars;rfl)⟩
   ·have e:¬ (sub=3):=by simp only[decide_eq_false_iff_not]at h;omega
    clear h;rw[if_neg e];(try simp only[aA]);refine bJ (fun h=>?_) (fun h=>?_)
    ·have e:v=29:=by simp only[decide_eq_true_eq]at h;omega
     clear h;rw[if_pos e];(try simp only[aA]);(repeat' ((first|refine aJ ?_|refine aK rfl ?_);(try simp only[aA])));refine bu ?_;exact⟨rfl,by first|rfl|(subst_vars;rfl)⟩
    ·have e:¬ (v=29):=by simp only[decide_eq_false_iff_not]at h;omega
     clear h;rw[if_neg e];(try simp only[aA]);refine bJ (fun h=>?_) (fun h=>?_)
     ·have e:sub=2:=by simp only[decide_eq_true_eq]at h;omega
      clear h;rw[if_pos e];(try simp only[aA]);refine bJ (fun h=>?_) (fun h=>?_)
      ·have e:v=25:=by simp only[decide_eq_true_eq]at h;omega
       clear h;rw[if_pos e];(try simp only[aA]);(repeat' ((first|refine aJ ?_|refine aK rfl ?_);(try simp only[aA])));refine bu ?_;exact⟨rfl,by first|rfl|(subst_vars;rfl)⟩
      ·have e:¬ (v=25):=by simp only[decide_eq_false_iff_not]at h;omega
       clear h;rw[if_neg e];(try simp only[aA]);refine bJ (fun h=>?_) (fun h=>?_)
       ·have e:v=26:=by simp only[decide_eq_true_eq]at h;omega
        clear h;rw[if_pos e];(try simp only[aA]);(repeat' ((first|refine aJ ?_|refine aK rfl ?_);(try simp only[aA])));refine bu ?_;exact⟨rfl,by first|rfl|(subst_vars;rfl)⟩
       ·have e:¬ (v=26):=by simp only[decide_eq_false_iff_not]at h;omega
        clear h;rw[if_neg e];(try simp only[aA]);refine bJ (fun h=>?_) (fun h=>?_)
        ·have e:v=27:=by simp only[decide_eq_true_eq]at h;omega
         clear h;rw[if_pos e];(try simp only[aA]);(repeat' ((first|refine aJ ?_|refine aK rfl ?_);(try simp only[aA])));refine bu ?_;exact⟨rfl,by first|rfl|(subst_vars;rfl)⟩
        ·have e:¬ (v=27):=by simp only[decide_eq_false_iff_not]at h;omega
         clear h;rw[if_neg e];(try simp only[aA]);refine bJ (fun h=>?_) (fun h=>?_)
         ·have e:v=28:=by simp only[decide_eq_true_eq]at h;omega
          clear h;rw[if_pos e];(try simp only[aA]);(repeat' ((first|refine aJ ?_|refine aK rfl ?_);(try simp only[aA])));refine bu ?_;exact⟨rfl,by first|rfl|(subst_vars;rfl)⟩
         ·have e:¬ (v=28):=by simp only[decide_eq_false_iff_not]at h;omega
          clear h;rw[if_neg e];have ei:aG .idxS [.string ⟨#[48,49,50,51,52,53,54,55,56,57,38,13,9,44,58,35,45,46,36,47,43,37,42,61,94]⟩,.int .i64 (v:Nat)] H=some (.int .u8 ((mixT.getD v 0).toNat:Nat)):=dK (l:=mixT) (by simp[mixT];omega);(try simp only[aA]);(repeat' ((first|refine aJ ?_|refine aK rfl ?_);(try simp only[aA])));refine bu ?_;exact⟨rfl,by first|rfl|(subst_vars;rfl)⟩
     ·have e:¬ (sub=2):=by simp only[decide_eq_false_iff_not]at h;omega
      clear h;rw[if_neg e];(try simp only[aA]);refine bJ (fun h=>?_) (fun h=>?_)
      ·have e:v=28:=by simp only[decide_eq_true_eq]at h;omega
       clear h;rw[if_pos e];(try simp only[aA]);(repeat' ((first|refine aJ ?_|refine aK rfl ?_);(try simp only[aA])));refine bu ?_;exact⟨rfl,by first|rfl|(subst_vars;rfl)⟩
      ·have e:¬ (v=28):=by simp only[decide_eq_false_iff_not]at h;omega
       clear h;rw[if_neg e];(try simp only[aA]);refine bJ (fun h=>?_) (fun h=>?_)
       ·have e:sub=0:=by simp only[decide_eq_true_eq]at h;omega
        clear h;rw[if_pos e];(try simp only[aA]);refine bJ (fun h=>?_) (fun h=>?_)
        ·have e:v=27:=by simp only[decide_eq_true_eq]at h;omega
         clear h;rw[if_pos e];(try simp only[aA]);(repeat' ((first|refine aJ ?_|refine aK rfl ?_);(try simp only[aA])));refine bu ?_;exact⟨rfl,by first|rfl|(subst_vars;rfl)⟩
        ·have e:¬ (v=27):=by simp only[decide_eq_false_iff_not]at h;omega
         clear h;rw[if_neg e];have ei:aG .idxS [.string ⟨#[65,66,67,68,69,70,71,72,73,74,75,76,77,78,79,80,81,82,83,84,85,86,87,88,89,90,32]⟩,.int .i64 (v:Nat)] H=some (.int .u8 ((uppT.getD v 0).toNat:Nat)):=dK (l:=uppT) (by simp[uppT];omega);(try simp only[aA]);(repeat' ((first|refine aJ ?_|refine aK rfl ?_);(try simp only[aA])));refine bu ?_;exact⟨rfl,by first|rfl|(subst_vars;rfl)⟩
       ·have e:¬ (sub=0):=by simp only[decide_eq_false_iff_not]at h;omega
        clear h;rw[if_neg e];(try simp only[aA]);refine bJ (fun h=>?_) (fun h=>?_)
        ·have e:v=27:=by simp only[decide_eq_true_eq]at h;omega
         clear h;rw[if_pos e];(try simp only[aA]);(repeat' ((first|refine aJ ?_|refine aK rfl ?_);(try simp only[aA])));refine bu ?_;exact⟨rfl,by first|rfl|(subst_vars;rfl)⟩
        ·have e:¬ (v=27):=by simp only[decide_eq_false_iff_not]at h;omega
         clear h;rw[if_neg e];have ei:aG .idxS [.string ⟨#[97,98,99,100,101,102,103,104,105,106,107,108,109,110,111,112,113,114,115,116,117,118,119,120,121,122,32]⟩,.int .i64 (v:Nat)] H=some (.int .u8 ((lowT.getD v 0).toNat:Nat)):=dK (l:=lowT) (by simp[lowT];omega);(try simp only[aA]);(repeat' ((first|refine aJ ?_|refine aK rfl ?_);(try simp only[aA])));refine bu ?_;exact⟨rfl,by first|rfl|(subst_vars;rfl)⟩
theorem dr{lo n:Nat}{vs:List Value}{f:FuncId}{first cap:Array Value}{args:List Value}{H:Heap}{R:Value→Heap→Prop}(e:vs.drop n=.func (.func f) first cap::args)(h:Ev cp lo f (first.toList++args++cap.toList) H fun v H'=>(vs.take n).all (nG H H')=true∧R v H'):wpH cp lo (.callK n) vs H R:=by
 simp only[wpH,e];exact h
theorem eu{H H':Heap}{v:Value}{b:Nat}{c:List Value}(hb:bE v=some b)(h1:H.get b=some c)(h2:H'.get b=some c)(hs:eK c c=true):nG H H' v=true:=by
 unfold nG;rw[hb];simp only[h1,h2,ue];exact hs
theorem lz{H H':Heap}{b o:Nat}{sp:Option Nat}{c r:List Value}(h1:H.get b=some c)(h2:H'.get b=some c)(hs:eK c c=true):((Value.pointer (some ⟨b,o,sp⟩)::r).take 1).all (nG H H')=true:=by
 simp only[List.take_succ_cons,List.take_zero,List.all_cons,List.all_nil,Bool.and_true];exact eu rfl h1 h2 hs
def stV(sub shift:Nat):Value:=.agg #[.int .i64 (sub:Nat),.int .i64 (shift:Nat)]
def xn(sub shift v:Nat):Nat×Nat:=
 if sub=0 then(if v=27 then(1,0) else if v=28 then(2,0) else(sub,1))
 else if sub=1 then(if v=27 then(1,2) else if v=28 then(2,0) else(sub,1))
 else if sub=2 then(if v=25 then(3,0) else if v=27 then(1,0) else if v=28 then(0,0) else(sub,1))
 else(0,0)
theorem z6{lo:Nat}{H:Heap}{sub shift v:Nat}(hlo:lo≤H.length)(h1:sub<4)(h2:shift<3)(h3:v<30) :
  Ev cp lo 87 [stV sub shift,.int .i64 (v:Nat)] H (fun r H'=>Ext H H'∧r=stV (xn sub shift v).1 (xn sub shift v).2):=by
 unfold xn stV;refine IC ?_;unfold CZ xk;simp only[kB,aA];repeat' ((first|refine aJ ?_|refine aK rfl ?_);(try simp only[aA]))
 (try simp only[aA]);repeat' ((first|refine aJ ?_|refine aK rfl ?_);(try simp only[aA]))
 refine bJ (fun h=>?_) (fun h=>?_)
 ·have e:sub=0:=by simp only[decide_eq_true_eq]at h;omega
  clear h;rw[if_pos e];(try simp only[aA]);repeat' ((first|refine aJ ?_|refine aK rfl ?_);(try simp only[aA]))
  refine bJ (fun h=>?_) (fun h=>?_)
  ·have e:v=27:=by simp only[decide_eq_true_eq]at h;omega
   clear h;rw[if_pos e];(try simp only[aA]);(repeat' ((first|refine aJ ?_|refine aK rfl ?_);(try simp only[aA])));refine bu ?_
   first|exact⟨Ext.app _ _,by first|rfl|(subst_vars;rfl)⟩|exact⟨(Ext.app _ _).set (by omega),by first|rfl|(subst_vars;rfl)⟩
  ·have e:¬ (v=27):=by simp only[decide_eq_false_iff_not]at h;omega
   clear h;rw[if_neg e];(try simp only[aA]);(repeat' ((first|refine aJ ?_|refine aK rfl ?_);(try simp only[aA])));refine bJ (fun h=>?_) (fun h=>?_)
   ·have e:v=28:=by simp only[decide_eq_true_eq]at h;omega
    clear h;rw[if_pos e];(try simp only[aA]);(repeat' ((first|refine aJ ?_|refine aK rfl ?_);(try simp only[aA])));refine bu ?_
    first|exact⟨Ext.app _ _,by first|rfl|(subst_vars;rfl)⟩|exact⟨(Ext.app _ _).set (by omega),by first|rfl|(subst_vars;rfl)⟩
   ·have e:¬ (v=28):=by simp only[decide_eq_false_iff_not]at h;omega
    clear h;rw[if_neg e];(try simp only[aA]);(repeat' ((first|refine aJ ?_|refine aK rfl ?_);(try simp only[aA])));refine bu ?_
    first|exact⟨Ext.app _ _,by first|rfl|(subst_vars;rfl)⟩|exact⟨(Ext.app _ _).set (by omega),by first|rfl|(subst_vars;rfl)⟩
 ·have e:¬ (sub=0):=by simp only[decide_eq_false_iff_not]at h;omega
  clear h;rw[if_neg e];(try simp only[aA]);repeat' ((first|refine aJ ?_|refine aK rfl ?_);(try simp only[aA]))
  refine bJ (fun h=>?_) (fun h=>?_)
  ·have e:sub=1:=by simp only[decide_eq_true_eq]at h;omega
   clear h;rw[if_pos e];(try simp only[aA]);(repeat' ((first|refine aJ ?_|refine aK rfl ?_);(try simp only[aA])));refine bJ (fun h=>?_) (fun h=>?_)
   ·have e:v=27:=by simp only[decide_eq_true_eq]at h;omega
    clear h;rw[if_pos e];(try simp only[aA]);(repeat' ((first|refine aJ ?_|refine aK rfl ?_);(try simp only[aA])));refine bu ?_
    first|exact⟨Ext.app _ _,by first|rfl|(subst_vars;rfl)⟩|exact⟨(Ext.app _ _).set (by omega),by first|rfl|(subst_vars;rfl)⟩
   ·have e:¬ (v=27):=by simp only[decide_eq_false_iff_not]at h;omega
    clear h;rw[if_neg e];(try simp only[aA]);(repeat' ((first|refine aJ ?_|refine aK rfl ?_);(try simp only[aA])));refine bJ (fun h=>?_) (fun h=>?_)
    ·have e:v=28:=by simp only[decide_eq_true_eq]at h;omega
     clear h;rw[if_pos e];(try simp only[aA]);(repeat' ((first|refine aJ ?_|refine aK rfl ?_);(try simp only[aA])));refine bu ?_
     first|exact⟨Ext.app _ _,by first|rfl|(subst_vars;rfl)⟩|exact⟨(Ext.app _ _).set (by omega),by first|rfl|(subst_vars;rfl)⟩
    ·have e:¬ (v=28):=by simp only[decide_eq_false_iff_not]at h;omega
     clear h;rw[if_neg e];(try simp only[aA]);(repeat' ((first|refine aJ ?_|refine aK rfl ?_);(try simp only[aA])));refine bu ?_
     first|exact⟨Ext.app _ _,by first|rfl|(subst_vars;rfl)⟩|exact⟨(Ext.app _ _).set (by omega),by first|rfl|(subst_vars;rfl)⟩
  ·have e:¬ (sub=1):=by simp only[decide_eq_false_iff_not]at h;omega
   clear h;rw[if_neg e];(try simp only[aA]);(repeat' ((first|refine aJ ?_|refine aK rfl ?_);(try simp only[aA])));refine bJ (fun h=>?_) (fun h=>?_)
   ·have e:sub=2:=by simp only[decide_eq_true_eq]at h;omega
    clear h;rw[if_pos e];(try simp only[aA]);(repeat' ((first|refine aJ ?_|refine aK rfl ?_);(try simp only[aA])));refine bJ (fun h=>?_) (fun h=>?_)
    ·have e:v=25:=by simp only[decide_eq_true_eq]at h;omega
     clear h;rw[if_pos e];(try simp only[aA]);(repeat' ((first|refine aJ ?_|refine aK rfl ?_);(try simp only[aA])));refine bu ?_
     first|exact⟨Ext.app _ _,by first|rfl|(subst_vars;rfl)⟩|exact⟨(Ext.app _ _).set (by omega),by first|rfl|(subst_vars;rfl)⟩
    ·have e:¬ (v=25):=by simp only[decide_eq_false_iff_not]at h;omega
     clear h;rw[if_neg e];(try simp only[aA]);(repeat' ((first|refine aJ ?_|refine aK rfl ?_);(try simp only[aA])));refine bJ (fun h=>?_) (fun h=>?_)
     ·have e:v=27:=by simp only[decide_eq_true_eq]at h;omega
      clear h;rw[if_pos e];(try simp only[aA]);(repeat' ((first|refine aJ ?_|refine aK rfl ?_);(try simp only[aA])));refine bu ?_
      first|exact⟨Ext.app _ _,by first|rfl|(subst_vars;rfl)⟩|exact⟨(Ext.app _ _).set (by omega),by first|rfl|(subst_vars;rfl)⟩
     ·have e:¬ (v=27):=by simp only[decide_eq_false_iff_not]at h;omega
      clear h;rw[if_neg e];(try simp only[aA]);(repeat' ((first|refine aJ ?_|refine aK rfl ?_);(try simp only[aA])));refine bJ (fun h=>?_) (fun h=>?_)
      ·have e:v=28:=by simp only[decide_eq_true_eq]at h;omega
       clear h;rw[if_pos e];(try simp only[aA]);(repeat' ((first|refine aJ ?_|refine aK rfl ?_);(try simp only[aA])));refine bu ?_
       first|exact⟨Ext.app _ _,by first|rfl|(subst_vars;rfl)⟩|exact⟨(Ext.app _ _).set (by omega),by first|rfl|(subst_vars;rfl)⟩
      ·have e:¬ (v=28):=by simp only[decide_eq_false_iff_not]at h;omega
       clear h;rw[if_neg e];(try simp only[aA]);(repeat' ((first|refine aJ ?_|refine aK rfl ?_);(try simp only[aA])));refine bu ?_
       first|exact⟨Ext.app _ _,by first|rfl|(subst_vars;rfl)⟩|exact⟨(Ext.app _ _).set (by omega),by first|rfl|(subst_vars;rfl)⟩
   ·have e:¬ (sub=2):=by simp only[decide_eq_false_iff_not]at h;omega
    clear h;rw[if_neg e];(try simp only[aA]);(repeat' ((first|refine aJ ?_|refine aK rfl ?_);(try simp only[aA])));refine bu ?_
    first|exact⟨Ext.app _ _,by first|rfl|(subst_vars;rfl)⟩|exact⟨(Ext.app _ _).set (by omega),by first|rfl|(subst_vars;rfl)⟩
def yc(b v:Nat):Nat:=if v=26 then 32 else b+v
theorem qd{lo:Nat}{H:Heap}{b v:Nat}(hb:b≤255)(h3:v<30) :
  Ev cp lo 86 [.int .i64 (b:Nat),.int .i64 (v:Nat)] H (fun r H'=>H'=H∧r=.int .i64 (yc b v:Nat)):=by
 unfold yc;refine Kg ?_;unfold Cn zS;simp only[kB,aA];repeat' ((first|refine aJ ?_|refine aK rfl ?_);(try simp only[aA]))
 refine bJ (fun h=>?_) (fun h=>?_)
 ·have e:v=26:=by simp only[decide_eq_true_eq]at h;omega
  clear h;rw[if_pos e];(try simp only[aA]);repeat' ((first|refine aJ ?_|refine aK rfl ?_);(try simp only[aA]))
  refine bu ?_;exact⟨rfl,rfl⟩
 ·have e:¬ v=26:=by simp only[decide_eq_false_iff_not]at h;omega
  clear h;rw[if_neg e];(try simp only[aA]);repeat' ((first|refine aJ ?_|refine aK rfl ?_);(try simp only[aA]))
  refine bu ?_;exact⟨rfl,by simp[aP]⟩
def rdS(sub shift v:Nat):Option (Int×Nat×Nat):=
 if shift=1 then(if 29≤v then none else some (((punT.getD v 0).toNat:Int),sub,0))
 else if shift=2 then(if 26<v then none else some ((yc 65 v:Int),sub,0))
 else if sub=0∧v≤26 then some ((yc 65 v:Int),sub,0)
 else if sub=1∧v≤26 then some ((yc 97 v:Int),sub,0)
 else if sub=2∧v<25 then some (((mixT.getD v 0).toNat:Int),sub,0)
 else if sub=2∧v=26 then some (32,sub,0)
 else if sub=3∧v<29 then some (((punT.getD v 0).toNat:Int),sub,0)
 else some (-1,(xn sub shift v).1,(xn sub shift v).2)
theorem Ay:((List.range 4).all fun a=>(List.range 3).all fun b=>(List.range 30).all fun v=>decide (rdS a b v=stp a b v))=true:=by kernel_rfl
theorem tG{sub shift v:Nat}(h1:sub<4)(h2:shift<3)(h3:v<30):rdS sub shift v=stp sub shift v:=by
 have:=List.all_eq_true.1 Ay sub (List.mem_range.2 h1);have:=List.all_eq_true.1 this shift (List.mem_range.2 h2);have:=List.all_eq_true.1 this v (List.mem_range.2 h3);exact of_decide_eq_true this
def uT(sub shift v:Nat):Value:=match rdS sub shift v with
 | some (c,a,b)=>.tuple #[stV a b,.int .i64 c,.bool true]
 | none=>.tuple #[stV sub shift,.int .i64 (-1),.bool false]
theorem Bz{lo:Nat}{H:Heap}{sub shift v:Nat}(hlo:lo≤H.length)(h1:sub<4)(h2:shift<3)(h3:v<30) :
  Ev cp lo 68 [stV sub shift,.int .i64 (v:Nat)] H (fun r H'=>Ext H H'∧r=uT sub shift v):=by
 have ew:∀b:UInt8,IntKind.i64.wrap (b.toNat:Int)=(b.toNat:Int):=fun b=>wrap_i64 (by omega) (by have:=b.toNat_lt;omega);unfold uT rdS;have es:stV sub shift=.agg #[.int .i64 (sub:Nat),.int .i64 (shift:Nat)]:=rfl;rw[es];clear es;refine KQ ?_;unfold Ey yV;simp only[kB,aA];(try simp only[aA]);repeat' ((first|refine aJ ?_|refine aK rfl ?_);(try simp only[aA]))
 refine bJ (fun h=>?_) (fun h=>?_)
 ·have e:shift=1:=by simp only[decide_eq_true_eq,Bool.and_eq_true]at h;omega
  clear h;rw[if_pos e];(try simp only[aA]);repeat' ((first|refine aJ ?_|refine aK rfl ?_);(try simp only[aA]))
  refine bJ (fun h=>?_) (fun h=>?_)
  ·have e:29≤v:=by simp only[decide_eq_true_eq,Bool.and_eq_true]at h;omega
   clear h;rw[if_pos e];(try simp only[aA]);(repeat' ((first|refine aJ ?_|refine aK rfl ?_);(try simp only[aA])));refine bu ?_;exact⟨Ext.app _ _,by first|rfl|(subst_vars;rfl)|(have e0:=e.1;subst e0;rfl)⟩
  ·have e:¬ (29≤v):=by simp only[decide_eq_false_iff_not,Bool.and_eq_false_iff]at h;omega
   clear h;rw[if_neg e];have ei:∀G,aG .idxS [.string ⟨#[59,60,62,64,91,92,93,95,96,126,33,13,9,44,58,10,45,46,36,47,34,124,42,40,41,63,123,125,39]⟩,.int .i64 (v:Nat)] G=some (.int .u8 ((punT.getD v 0).toNat:Nat)):=fun G=>dK (l:=punT) (by simp[punT];omega);(try simp only[aA]);(repeat' ((first|refine aJ ?_|refine aK rfl ?_);(try simp only[aA])));refine bu ?_;exact⟨Ext.app _ _,by first|rfl|(subst_vars;rfl)|(have e0:=e.1;subst e0;rfl)⟩
 ·have e:¬ (shift=1):=by simp only[decide_eq_false_iff_not,Bool.and_eq_false_iff]at h;omega
  clear h;rw[if_neg e];(try simp only[aA]);repeat' ((first|refine aJ ?_|refine aK rfl ?_);(try simp only[aA]))
  refine bJ (fun h=>?_) (fun h=>?_)
  ·have e:shift=2:=by simp only[decide_eq_true_eq,Bool.and_eq_true]at h;omega
   clear h;rw[if_pos e];(try simp only[aA]);(repeat' ((first|refine aJ ?_|refine aK rfl ?_);(try simp only[aA])));refine bJ (fun h=>?_) (fun h=>?_)
   ·have e:26<v:=by simp only[decide_eq_true_eq,Bool.and_eq_true]at h;omega
    clear h;rw[if_pos e];(try simp only[aA]);(repeat' ((first|refine aJ ?_|refine aK rfl ?_);(try simp only[aA])));refine bu ?_;exact⟨Ext.app _ _,by first|rfl|(subst_vars;rfl)|(have e0:=e.1;subst e0;rfl)⟩
   ·have e:¬ (26<v):=by simp only[decide_eq_false_iff_not,Bool.and_eq_false_iff]at h;omega
    clear h;rw[if_neg e];(try simp only[aA]);(repeat' ((first|refine aJ ?_|refine aK rfl ?_);(try simp only[aA])));refine gV ?_;refine dr rfl ((qd (b:=65) (by omega) (by omega)).mono ?_);rintro r H2 ⟨rfl,rfl⟩;refine⟨lz (c:=[.int .i64 _,.int .i64 _]) (by simp(disch:=first|omega|(simp only[aD];omega))only[evB,di,Nat.reduceAdd,Nat.reduceBEq,Int.reduceToNat, *];try rfl) (by simp(disch:=first|omega|(simp only[aD];omega))only[evB,di,Nat.reduceAdd,Nat.reduceBEq,Int.reduceToNat, *];try rfl) (by simp[eK,iG]),?_⟩;(try simp only[aA]);(repeat' ((first|refine aJ ?_|refine aK rfl ?_);(try simp only[aA])));refine bu ?_;exact⟨Ext.app _ _,by first|rfl|(subst_vars;rfl)|(have e0:=e.1;subst e0;rfl)⟩
  ·have e:¬ (shift=2):=by simp only[decide_eq_false_iff_not,Bool.and_eq_false_iff]at h;omega
   clear h;rw[if_neg e];(try simp only[aA]);(repeat' ((first|refine aJ ?_|refine aK rfl ?_);(try simp only[aA])));refine bJ (fun h=>?_) (fun h=>?_)
   ·have e:sub=0∧v≤26:=by simp only[decide_eq_true_eq,Bool.and_eq_true]at h;omega
    clear h;rw[if_pos e];(try simp only[aA]);(repeat' ((first|refine aJ ?_|refine aK rfl ?_);(try simp only[aA])));refine gV ?_;refine dr rfl ((qd (b:=65) (by omega) (by omega)).mono ?_);rintro r H2 ⟨rfl,rfl⟩;refine⟨lz (c:=[.int .i64 _,.int .i64 _]) (by simp(disch:=first|omega|(simp only[aD];omega))only[evB,di,Nat.reduceAdd,Nat.reduceBEq,Int.reduceToNat, *];try rfl) (by simp(disch:=first|omega|(simp only[aD];omega))only[evB,di,Nat.reduceAdd,Nat.reduceBEq,Int.reduceToNat, *];try rfl) (by simp[eK,iG]),?_⟩;(try simp only[aA]);(repeat' ((first|refine aJ ?_|refine aK rfl ?_);(try simp only[aA])));refine bu ?_;exact⟨Ext.app _ _,by first|rfl|(subst_vars;rfl)|(have e0:=e.1;subst e0;rfl)⟩
   ·have e:¬ (sub=0∧v≤26):=by simp only[decide_eq_false_iff_not,Bool.and_eq_false_iff]at h;omega
    clear h;rw[if_neg e];(try simp only[aA]);(repeat' ((first|refine aJ ?_|refine aK rfl ?_);(try simp only[aA])));refine bJ (fun h=>?_) (fun h=>?_)
    ·have e:sub=1∧v≤26:=by simp only[decide_eq_true_eq,Bool.and_eq_true]at h;omega
     clear h;rw[if_pos e];(try simp only[aA]);(repeat' ((first|refine aJ ?_|refine aK rfl ?_);(try simp only[aA])));refine gV ?_;refine dr rfl ((qd (b:=97) (by omega) (by omega)).mono ?_);rintro r H2 ⟨rfl,rfl⟩;refine⟨lz (c:=[.int .i64 _,.int .i64 _]) (by simp(disch:=first|omega|(simp only[aD];omega))only[evB,di,Nat.reduceAdd,Nat.reduceBEq,Int.reduceToNat, *];try rfl) (by simp(disch:=first|omega|(simp only[aD];omega))only[evB,di,Nat.reduceAdd,Nat.reduceBEq,Int.reduceToNat, *];try rfl) (by simp[eK,iG]),?_⟩;(try simp only[aA]);(repeat' ((first|refine aJ ?_|refine aK rfl ?_);(try simp only[aA])));refine bu ?_;exact⟨Ext.app _ _,by first|rfl|(subst_vars;rfl)|(have e0:=e.1;subst e0;rfl)⟩
    ·have e:¬ (sub=1∧v≤26):=by simp only[decide_eq_false_iff_not,Bool.and_eq_false_iff]at h;omega
     clear h;rw[if_neg e];(try simp only[aA]);(repeat' ((first|refine aJ ?_|refine aK rfl ?_);(try simp only[aA])));refine bJ (fun h=>?_) (fun h=>?_)
     ·have e:sub=2∧v<25:=by simp only[decide_eq_true_eq,Bool.and_eq_true]at h;omega
      clear h;rw[if_pos e];have ei:∀G,aG .idxS [.string ⟨#[48,49,50,51,52,53,54,55,56,57,38,13,9,44,58,35,45,46,36,47,43,37,42,61,94]⟩,.int .i64 (v:Nat)] G=some (.int .u8 ((mixT.getD v 0).toNat:Nat)):=fun G=>dK (l:=mixT) (by simp[mixT];omega);(try simp only[aA]);(repeat' ((first|refine aJ ?_|refine aK rfl ?_);(try simp only[aA])));refine bu ?_;exact⟨Ext.app _ _,by first|rfl|(subst_vars;rfl)|(have e0:=e.1;subst e0;rfl)⟩
     ·have e:¬ (sub=2∧v<25):=by simp only[decide_eq_false_iff_not,Bool.and_eq_false_iff]at h;omega
      clear h;rw[if_neg e];(try simp only[aA]);(repeat' ((first|refine aJ ?_|refine aK rfl ?_);(try simp only[aA])));refine bJ (fun h=>?_) (fun h=>?_)
      ·have e:sub=2∧v=26:=by simp only[decide_eq_true_eq,Bool.and_eq_true]at h;omega
       clear h;rw[if_pos e];(try simp only[aA]);(repeat' ((first|refine aJ ?_|refine aK rfl ?_);(try simp only[aA])));refine bu ?_;exact⟨Ext.app _ _,by first|rfl|(subst_vars;rfl)|(have e0:=e.1;subst e0;rfl)⟩
      ·have e:¬ (sub=2∧v=26):=by simp only[decide_eq_false_iff_not,Bool.and_eq_false_iff]at h;omega
       clear h;rw[if_neg e];(try simp only[aA]);(repeat' ((first|refine aJ ?_|refine aK rfl ?_);(try simp only[aA])));refine bJ (fun h=>?_) (fun h=>?_)
       ·have e:sub=3∧v<29:=by simp only[decide_eq_true_eq,Bool.and_eq_true]at h;omega
        clear h;rw[if_pos e];have ei:∀G,aG .idxS [.string ⟨#[59,60,62,64,91,92,93,95,96,126,33,13,9,44,58,10,45,46,36,47,34,124,42,40,41,63,123,125,39]⟩,.int .i64 (v:Nat)] G=some (.int .u8 ((punT.getD v 0).toNat:Nat)):=fun G=>dK (l:=punT) (by simp[punT];omega);(try simp only[aA]);(repeat' ((first|refine aJ ?_|refine aK rfl ?_);(try simp only[aA])));refine bu ?_;exact⟨Ext.app _ _,by first|rfl|(subst_vars;rfl)|(have e0:=e.1;subst e0;rfl)⟩
       ·have e:¬ (sub=3∧v<29):=by simp only[decide_eq_false_iff_not,Bool.and_eq_false_iff]at h;omega
        clear h;rw[if_neg e];(try simp only[aA]);(repeat' ((first|refine aJ ?_|refine aK rfl ?_);(try simp only[aA])));refine gV ?_;refine aC (z6 (by simp;omega) h1 h2 h3) ?_;rintro r H2 ⟨hx2,rfl⟩;have g1:H2.get (H.length+1)=some [.int .i64 0,.int .i64 0]:=hx2.get (by rw[eC];simp);have hx0:Ext H (H++[some [.int .i64 (sub:Nat),.int .i64 (shift:Nat)],some [.int .i64 0,.int .i64 0],some [.int .i64 (sub:Nat),.int .i64 0]]):=Ext.app _ _;have hx3:=hx0.trans hx2;have hl2:=Heap.get_lt g1;clear hx0 hx2;unfold stV;(try simp only[aA]);(repeat' ((first|refine aJ ?_|refine aK rfl ?_);(try simp only[aA])));refine bu ?_;exact⟨hx3.set (by omega),rfl⟩
def EvE(cp:FuncId→Option CF)(lo:Nat)(f:FuncId)(args:List Value)(H:Heap)(R K:Value→Heap→Prop):Prop:=Ev cp lo f args H R∨EvP cp lo f args H K
def nL(cf:CF)(R K:Value→Heap→Prop):aX:=fun ex S H=>match ex with
 | .exit j=>j=bF∧match S with
  | p::_=>K p H
  | []=>False
 | ex=>aS cf R ex S H
section
variable {cp:FuncId→Option CF}{lo:Nat}
theorem jC{f:FuncId}{cf:CF}{args:List Value}{H:Heap}{R K:Value→Heap→Prop}(hcf:cp f=some cf)(hk:cf.kind=.plain)(hnp:args.length=cf.np)
  (h:wpS cp lo cf.body (nL cf R K) (args++List.replicate (cf.ns-cf.np) undef) H):EvE cp lo f args H R K:=by
 obtain⟨N,ex,S',H',h1,h2⟩:=eI _ _ _ _ h;have fin:∀(ex:Ex),(ex=.normal∨ex=.ret)→(∀n,N≤n→exec (run cp n) lo n cf.body (args++List.replicate (cf.ns-cf.np) undef) H=some (ex,S',H'))→aS cf R ex S' H'→Ev cp lo f args H R:=by
  intro ex hex h1 h2;have h3:match evList S' H' cf.res with|some vs=>R (aP vs) H'|none=>False:=by
   rcases hex with rfl|rfl<;>exact h2
  split at h3
  ·rename_i vs hvs
   refine⟨N+1,aP vs,H',fun n hn=>?_,h3⟩;obtain⟨n',rfl⟩:∃n',n=n'+1:=⟨n-1,by omega⟩;simp only[run,hcf,hnp,if_true,hk];rw[h1 n' (by omega)];rcases hex with rfl|rfl<;>simp only[hvs]
  ·exact h3.elim
 cases ex with
 | normal=>exact .inl (fin .normal (.inl rfl) h1 h2)
 | ret=>exact .inl (fin .ret (.inr rfl) h1 h2)
 | exit j=>
  obtain⟨hj,h2⟩:=h2;cases S' with
  | nil=>exact h2.elim
  | cons p S1=>
   refine .inr ⟨N+1,p,H',fun n hn=>?_,h2⟩;obtain⟨n',rfl⟩:∃n',n=n'+1:=⟨n-1,by omega⟩;simp only[run,hcf,hnp,if_true,hk];rw[h1 n' (by omega)];simp only[hj,if_true]
theorem iA{l:List (Nat×E)}{chk:List E}{dst:Option Nat}{a:E}{Q:aX}{S:List Value}{H:Heap}{vs:List (Nat×Value)}{f:FuncId}{first cap:Array Value}{args:List Value}{R K:Value→Heap→Prop}
  (h:evSets S H l=some vs) (hc:evChk S H chk=true) (ha:ev S H a=some (.func (.func f) first cap::args))
  (hE:EvE cp lo f (first.toList++args++cap.toList) H R K) (k:∀v H',R v H'→Q .normal (setD (setAll S vs) dst v) H') (kp:∀v H',K v H'→Q (.exit bF) (v::setAll S vs) H'):wpS cp lo (.hv l chk [] dst (.call false) a) Q S H:=by
 rcases hE with hE|hE
 ·exact gG h hc ha (aC hE k)
 ·exact ij h hc ha (yE hE kp)
theorem cD{i:Nat}{Q:aX}{S:List Value}{H:Heap}(h:i<999999):ir i Q (.exit bF) S H=Q (.exit bF) S H:=by
 have:bF≠i:=by unfold bF;omega
 rw[mD,if_neg this]
theorem dS{cf:CF}{R K:Value→Heap→Prop}{p:Value}{S:List Value}{H:Heap}(h:K p H):nL cf R K (.exit bF) (p::S) H:=⟨rfl,h⟩
theorem fP{cf:CF}{R K:Value→Heap→Prop}{S:List Value}{H:Heap}(h:aS cf R .normal S H):nL cf R K .normal S H:=h
end
theorem HP{lo:Nat}{H:Heap}{R K:Value→Heap→Prop}{a0:Value}(h:wpS cpx lo Ce (nL rQ R K) [a0,undef] H):EvE cpx lo 30 [a0] H R K:=jC (cf:=rQ) rfl rfl rfl h
theorem Hp{lo:Nat}{H:Heap}{R K:Value→Heap→Prop}{a0 a1:Value}(h:wpS cpx lo DA (nL wQ R K) [a0,a1,undef,undef,undef,undef,undef,undef,undef,undef,undef,undef,undef] H):EvE cpx lo 46 [a0,a1] H R K:=jC (cf:=wQ) rfl rfl rfl h
theorem Kw{lo:Nat}{H:Heap}{R K:Value→Heap→Prop}{a0:Value}(h:wpS cpx lo EN (nL zu R K) [a0,undef,undef,undef,undef,undef] H):EvE cpx lo 47 [a0] H R K:=jC (cf:=zu) rfl rfl rfl h
theorem JO{lo:Nat}{H:Heap}{R K:Value→Heap→Prop}{a0 a1:Value}(h:wpS cpx lo ET (nL tD R K) [a0,a1,undef,undef,undef,undef,undef,undef,undef,undef] H):EvE cpx lo 48 [a0,a1] H R K:=jC (cf:=tD) rfl rfl rfl h
theorem IU{lo:Nat}{H:Heap}{R K:Value→Heap→Prop}{a0 a1 a2:Value}(h:wpS cpx lo D2 (nL yH R K) [a0,a1,a2,undef,undef,undef,undef,undef,undef,undef,undef,undef,undef,undef,undef,undef,undef,undef,undef,undef,undef] H):EvE cpx lo 69 [a0,a1,a2] H R K:=jC (cf:=yH) rfl rfl rfl h
theorem A0:((List.range 4).all fun a=>(List.range 3).all fun b=>(List.range 30).all fun v=>match stp a b v with
  | some (c,x,y)=>decide (-1≤c)&&(decide (c≤255)&&(decide (x<4)&&decide (y<3)))
  | none=>true)=true:=by kernel_rfl
theorem nz{sub shift v:Nat}(h1:sub<4)(h2:shift<3)(h3:v<30){c:Int}{x y:Nat}(h:stp sub shift v=some (c,x,y)):-1≤c∧c≤255∧x<4∧y<3:=by
 have:=List.all_eq_true.1 A0 sub (List.mem_range.2 h1);have:=List.all_eq_true.1 this shift (List.mem_range.2 h2);have:=List.all_eq_true.1 this v (List.mem_range.2 h3);rw[h]at this;simpa only[Bool.and_eq_true,decide_eq_true_eq]using this
def chS(c:Int):List UInt8:=if 0≤c then[UInt8.ofNat c.toNat] else[]
def DecSt(H0:Heap)(lo:Nat)(H:Heap)(b:Nat)(wv:Value)(pos sub shift:Nat)(out:List UInt8):Prop:=
 Ext H0 H∧H0.length≤b∧lo≤b∧∃ov bo,H0.length≤bo∧bo≠b∧H.get b=some [wv,.int .i64 (pos:Nat),.int .i64 (sub:Nat),.int .i64 (shift:Nat),ov]∧Own lo 1 H ov bo (out.map bZ)
def tZ(n:Int):Value:=.iface 47 (.agg #[.int .i64 n])
theorem fA{lo:Nat}{H:Heap}{ov:Value}{q b:Nat}{c:List Value}{v:Option (List Value)}(h:Own lo 1 H ov q c)(hne:q≠b):Own lo 1 (H.set b v) ov q c:=by
 obtain⟨q1,q2|⟨m,q2,q3,q4,q5⟩⟩:=h
 ·exact⟨q1,.inl q2⟩
 ·exact⟨q1,.inr ⟨m,q2,q3,q4,by rw[aM (fun e=>hne e.symm)];exact q5⟩⟩
theorem xC{H0:Heap}{lo:Nat}{H:Heap}{b:Nat}{wv:Value}{pos sub shift v:Nat}{out:List UInt8}(hlo:lo≤H.length)(hst:DecSt H0 lo H b wv pos sub shift out)(hw:wv.oneCell'=true)(h1:sub<4)(h2:shift<3)(h3:v<30)(hout:out.length≤1000000) :
  EvE cpx lo 46 [.pointer (some ⟨b,0,none⟩),.int .i64 (v:Nat)] H (fun r H'=>∃c x y,stp sub shift v=some (c,x,y)∧DecSt H0 lo H' b wv pos x y (out++chS c)) (fun p H'=>stp sub shift v=none∧p=tZ 22∧Ext H0 H'):=by
 obtain⟨hx,hb,hlb,ov,bo,hbo,hne,hg,ho⟩:=hst;have hrd:=tG h1 h2 h3;have hbl:=Heap.get_lt hg;refine Hp ?_;unfold DA;simp only[kB,aA];repeat' ((first|refine aJ ?_|refine aK rfl ?_);(try simp only[aA]))
 refine gV ?_;refine aC ((Bz (by omega) h1 h2 h3).sub fN) ?_;unfold uT;rw[hrd];rintro r H2 ⟨hx2,rfl⟩;cases hs:stp sub shift v with
 | none=>
  have hx0:=hx.trans hx2;have hg2:=hx2.get hg;have hlen2:=hx2.1;(try simp only[aA]);repeat' ((first|refine aJ ?_|refine aK rfl ?_);(try simp only[aA]))
  refine bJ (fun h=>?_) (fun h=>?_)
  ·clear h
   refine ij (bp) (by simp(disch:=first|omega|(simp only[aD];omega))only[evB,di,Nat.reduceAdd,Nat.reduceBEq,Int.reduceToNat, *]) (bp) ?_;refine gf ?_
   (repeat (first|rw[cD (by decide)]|simp only[dW,dC,dm]));refine dS ?_
   exact⟨by trivial,rfl,hx0.trans (Ext.app _ _)⟩
  ·simp at h
 | some q=>
 obtain⟨c,x,y⟩:=q;have hok:=nz h1 h2 h3 hs;have hg2:=hx2.get hg;have hlen2:=hx2.1;unfold stV;(try simp only[aA]);repeat' ((first|refine aJ ?_|refine aK rfl ?_);(try simp only[aA]))
 refine bJ (fun h=>?_) (fun h=>?_)
 ·simp at h
 clear h;(try simp only[aA]);have hxn:=Ext.app H2 [some [Value.int .i64 (x:Nat),Value.int .i64 (y:Nat)]];have hgx:Heap.get (H2++[some [Value.int .i64 (x:Nat),Value.int .i64 (y:Nat)]]) H2.length=some [.int .i64 (x:Nat),.int .i64 (y:Nat)]:=aQ H2 _;have hgb:=hxn.get hg2;have hln:(H2++[some [Value.int .i64 (x:Nat),Value.int .i64 (y:Nat)]]).length=H2.length+1:=by simp
 generalize H2++[some [Value.int .i64 (x:Nat),Value.int .i64 (y:Nat)]]=Hn at *;have hx0:=(hx.trans hx2).trans hxn;obtain⟨bo,hbo,hne,ho,hob⟩:∃bo,H0.length≤bo∧bo≠b∧Own lo 1 H ov bo (out.map bZ)∧(bo<H.length∨H2.length+3≤bo):=by
  obtain⟨q1,⟨q2,q3⟩|⟨m,q2,q3,q4,q5⟩⟩:=ho
  ·have:=hx.1
   exact⟨H2.length+3,by omega,by omega,⟨by omega,.inl ⟨q2,q3⟩⟩,.inr (Nat.le_refl _)⟩
  ·exact⟨bo,hbo,hne,⟨q1,.inr ⟨m,q2,q3,q4,q5⟩⟩,.inl (Heap.get_lt q5)⟩
 have ho2:=(ho.mono hx2).mono hxn;have hbon:=hx0.1;by_cases hc:0≤c
 ·obtain⟨n,rfl⟩:∃n:Nat,c=n:=⟨c.toNat,by omega⟩
  have hn:n≤255:=by omega
  have hch:chS (n:Int)=[UInt8.ofNat n]:=by simp[chS]
  refine bJ (fun h=>?_) (fun h=>?_)
  ·clear h
   (try simp only[aA]);(repeat' ((first|refine aJ ?_|refine aK rfl ?_);(try simp only[aA])));have hcell:Value.int .u8 (n:Nat)=bZ (UInt8.ofNat n):=by
    simp only[bZ,UInt8.toNat_ofNat'];rw[Nat.mod_eq_of_lt (by omega)]
   rw[hcell];have hxm:=Ext.app Hn [some [bZ (UInt8.ofNat n)]];have hlm:(Hn++[some [bZ (UInt8.ofNat n)]]).length=Hn.length+1:=by simp
   have hgm:Heap.get (Hn++[some [bZ (UInt8.ofNat n)]]) (H2.length+1)=some [bZ (UInt8.ofNat n)]:=by
    have:=aQ Hn [bZ (UInt8.ofNat n)];rwa [hln]at this
   refine gV ?_;refine eG (c:=[bZ (UInt8.ofNat n)]) (c':=[bZ (UInt8.ofNat n)]) (ho2.mono hxm) (by omega) (by decide) (by decide) (by simp;omega) hgm (by simp) rfl rfl ?_;intro ov' H4 ho4 hk4 hl4;have hx4:=hk4.ext (hx0.trans hxm) hbo;have hgb4:=hk4.get (hxm.get hgb) hne.symm;have hgx4:H4.get H2.length=some [.int .i64 (x:Nat),.int .i64 (y:Nat)]:=hk4.get (hxm.get hgx) (by omega);have hb4:=Heap.get_lt hgb4;have hne2:H2.length≠b:=by omega
   have ho5:Own lo 1 H4 ov' (Hn++[some [bZ (UInt8.ofNat n)]]).length ((out++[UInt8.ofNat n]).map bZ):=by simpa using ho4
   clear ho4 ho ho2 hgb hgx hg2 hg hcell hgm;obtain⟨a4,m4,rfl,_⟩:=ho5.len (by omega);(try simp only[aA]);(repeat' ((first|refine aJ ?_|refine aK rfl ?_);(try simp only[aA])));refine fP ?_;unfold wQ;refine bN rfl ?_;rw[List.set_set];refine⟨_,x,y,rfl,?_⟩;rw[hch];exact⟨hx4.set (by omega),hb,hlb,_,(Hn++[some [bZ (UInt8.ofNat n)]]).length,by omega,by omega,by rw[aN hb4],fA ho5 (by omega)⟩
  ·first|cases h|(simp only[decide_eq_false_iff_not]at h;omega)
 ·have hch:chS c=[]:=by rw[chS,if_neg hc]
  refine bJ (fun h=>?_) (fun h=>?_)
  ·first|cases h|(simp only[decide_eq_true_eq]at h;omega)
  clear h;have hbn:=Heap.get_lt hgb;(try simp only[aA]);repeat' ((first|refine aJ ?_|refine aK rfl ?_);(try simp only[aA]))
  refine fP ?_;unfold wQ;refine bN rfl ?_;refine⟨_,x,y,rfl,?_⟩;rw[hch,List.append_nil];exact⟨hx0.set (by omega),hb,hlb,ov,bo,hbo,hne,by rw[aN hbn],fA ho2 hne⟩
end Go.Proofs.YtgpolmomghejoaaDoor

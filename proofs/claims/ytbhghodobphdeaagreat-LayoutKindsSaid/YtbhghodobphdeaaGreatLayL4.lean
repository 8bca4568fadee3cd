/-
  Slots of fields, in plain lists: Z5f slot stands once, where it is found, and which classes have it. No condition.
-/
import Derived.Test.YtbhghodobphdeaaGreatLayK
set_option linter.unusedVariables false
namespace Go.Proofs
open Go.Den Go.Tot
def isSt (f:Z1d):Bool:=(Z2k .i64 f.Z0q 8)!=0
theorem Zrq (c:Int) (st:Bool) (x:FS):∀ (l:List Z1d) (k:Int),x∈Z3s c st k l↔x.Z0w=c∧∃ j:Nat,x.Z1h=k+j∧∃ f,l[j]?=some f∧(isSt f==st)=true
 | [],k=>by simp [Z3s]
 | f :: l,k=>by
  have h:=Zrq c st x l (k+1)
  have key:(∃ j:Nat,x.Z1h=k+j∧∃ g,(f::l)[j]?=some g∧(isSt g==st)=true)↔(x.Z1h=k∧(isSt f==st)=true)∨(∃ j:Nat,x.Z1h=k+1+j∧∃ g,l[j]?=some g∧(isSt g==st)=true):=by
   constructor
   ·rintro ⟨j,h1,g,h2,h3⟩
    cases j with
    | zero=>simp at h2; subst h2; exact .inl ⟨by simpa using h1,h3⟩
    | succ j=>exact .inr ⟨j,by omega,g,by simpa using h2,h3⟩
   ·rintro (⟨h1,h2⟩|⟨j,h1,g,h2,h3⟩)
    ·exact ⟨0,by simpa using h1,f,rfl,h2⟩
    ·exact ⟨j+1,by omega,g,by simpa using h2,h3⟩
  rw [key]
  unfold Z3s
  split
  ·rename_i hs
   rw [List.mem_cons,h]
   constructor
   ·rintro (rfl|⟨h1,h2⟩)
    ·exact ⟨rfl,.inl ⟨rfl,hs⟩⟩
    ·exact ⟨h1,.inr h2⟩
   ·rintro ⟨h1,⟨h2,_⟩|h2⟩
    ·left; cases x; simp_all
    ·exact .inr ⟨h1,h2⟩
  ·rename_i hs
   rw [h]
   constructor
   ·rintro ⟨h1,h2⟩; exact ⟨h1,.inr h2⟩
   ·rintro ⟨h1,⟨_,h2⟩|h2⟩
    ·exact absurd h2 hs
    ·exact ⟨h1,h2⟩
theorem Zy6 {w:Z0c} {c:Int} {st:Bool} {x:FS}:x∈Z3j w c st↔x.Z0w=c∧∃ v f,Z05 w.Z0o c=some v∧Z05 v.Z11.Z0g x.Z1h=some f∧(isSt f==st)=true:=by
 unfold Z3j
 cases e:Z05 w.Z0o c with
 | none=>simp
 | some v=>
  dsimp only
  rw [Zrq]
  refine and_congr_right fun _=>?_
  constructor
  ·rintro ⟨j,h1,f,h2,h3⟩
   refine ⟨v,f,rfl,?_,h3⟩
   unfold Z05
   rw [if_pos (by omega),show x.Z1h.toNat=j by omega]
   exact h2
  ·rintro ⟨v',f,hv,h2,h3⟩
   cases hv
   unfold Z05 at h2
   split at h2
   ·exact ⟨x.Z1h.toNat,by omega,f,h2,h3⟩
   ·cases h2
theorem Zt0 {w:Z0c} (hv:Z3x w):∀ (n:Nat) (c k:Int),k∈Z44 w n c→k≤c∧0≤k∧k<w.Z0o.length
 | 0,c,k,h=>by simp [Z44] at h
 | n + 1,c,k,h=>by
  unfold Z44 at h
  cases e:Z05 w.Z0o c with
  | none=>rw [e] at h; simp at h
  | some v=>
   rw [e] at h
   obtain ⟨h0,h1,hs⟩:=Zc3 hv e
   rcases List.mem_cons.1 h with rfl|h
   ·exact ⟨by omega,h0,h1⟩
   ·have:=Zt0 hv n v.Z1c k h
    omega
theorem Y3n {w:Z0c} {n:Nat} {c:Int} {x:FS}:x∈Z55 w n c↔x.Z0w∈Z44 w n c∧x∈Z3j w x.Z0w false:=by
 unfold Z55
 rw [List.mem_flatten]
 constructor
 ·rintro ⟨l,hl,hx⟩
  obtain ⟨k,hk,rfl⟩:=List.mem_map.1 hl
  have:=(Zy6.1 hx).1
  subst this
  exact ⟨List.mem_reverse.1 hk,hx⟩
 ·rintro ⟨h1,h2⟩
  exact ⟨_,List.mem_map.2 ⟨_,List.mem_reverse.2 h1,rfl⟩,h2⟩
end Go.Proofs
namespace Go.Proofs
open Go.Den Go.Tot
end Go.Proofs
namespace Go.Proofs
open Go.Den
theorem Zkw (n:Int):IntKind.wrap .i64 n=(n+9223372036854775808) % 18446744073709551616 - 9223372036854775808:=by
 show (if (true&&decide (n % 18446744073709551616≥9223372036854775808))=true then n % 18446744073709551616 - 18446744073709551616 else n % 18446744073709551616)=_
 rw [Bool.true_and]
 by_cases h:n % 18446744073709551616≥9223372036854775808
 ·rw [if_pos (decide_eq_true h)]; omega
 ·rw [if_neg (by simpa using h)]; omega
theorem Y3i {α:Type} (l:List α) (n:Nat) (h:n≤l.length):sub l 0 (n:Int)=some (l.take n):=by
 unfold sub
 rw [if_pos ⟨by omega,by omega,by omega⟩]; simp
theorem Znj {s:List UInt8} {i:Int} (h0:0≤i) (h1:i<s.length):∃ c:UInt8,s[i.toNat]?=some c∧Z2g s i=some (c.toNat:Int):=by
 have hlt:i.toNat<s.length:=by omega
 refine ⟨s[i.toNat],List.getElem?_eq_getElem hlt,?_⟩
 unfold Z2g; rw [if_pos h0,List.getElem?_eq_getElem hlt]; rfl
def Zqc (n:Nat):Bool:=(decide (97≤n)&&decide (n≤122))||(decide (65≤n)&&decide (n≤90))||n==95||n==36
def Ziu (n:Nat):Bool:=decide (48≤n)&&decide (n≤57)
def Z96 (c:UInt8):Bool:=Zqc c.toNat
def Z7j (c:UInt8):Bool:=Ziu c.toNat
theorem Zvx:∀ n:Fin 256,Zdg ((n.val:Nat):Int)=some (if Zqc n.val then 1 else if Ziu n.val then 2 else 0):=by decide+kernel
theorem Y5b:∀ n:Fin 256,Zch ((n.val:Nat):Int)=some (Zqc n.val):=by decide+kernel
theorem Zgv (c:UInt8):Zdg (c.toNat:Int)=some (if Z96 c then 1 else if Z7j c then 2 else 0):=Zvx ⟨c.toNat,c.toNat_lt⟩
theorem Zfp (c:UInt8):Zch (c.toNat:Int)=some (Z96 c):=Y5b ⟨c.toNat,c.toNat_lt⟩
theorem Zt8:Zdg 47=some 0:=Zvx 47
def okP:Bool→List UInt8→Bool
 | b,[] =>!b
 | b,c::l=>if Z96 c then okP false l else if Z7j c then !b&&okP false l else false
def okC:Bool→List UInt8→Bool
 | b,[] =>!b
 | b,c::l=>if c=47 then !b&&okC true l else if Z96 c then okC false l else if Z7j c then !b&&okC false l else false
theorem Zwc:∀ (p r:List UInt8) (b:Bool),(47:UInt8) ∉ p→okC b (p++47::r)=(okP b p&&okC true r)
 | [],r,b,_=>by simp [okC,okP]
 | c::p,r,b,h=>by
  have hc:c≠47:=fun e=>h (by simp [e])
  have hp:(47:UInt8) ∉ p:=fun e=>h (by simp [e])
  simp only [List.cons_append,okC,okP,if_neg hc,Zwc p r _ hp]
  by_cases h1:Z96 c=true
  ·simp [h1]
  ·by_cases h2:Z7j c=true <;> simp [h1,h2,Bool.and_assoc]
theorem Zx1:∀ (p:List UInt8) (b:Bool),(47:UInt8) ∉ p→okC b p=okP b p
 | [],b,_=>rfl
 | c::p,b,h=>by
  have hc:c≠47:=fun e=>h (by simp [e])
  have hp:(47:UInt8) ∉ p:=fun e=>h (by simp [e])
  simp only [okC,okP,if_neg hc,Zx1 p _ hp]
theorem Zox {α:Type} {s:List α} {i:Nat} {c:α} (h:s[i]?=some c):s.drop i=c::s.drop (i+1):=by
 have hlt:=(List.getElem?_eq_some_iff.1 h).1
 rw [List.drop_eq_getElem_cons hlt]
 congr 1
 exact (List.getElem?_eq_some_iff.1 h).2
theorem Znh (s:List UInt8) (hl:(s.length:Int)≤140737488355328):Z9c s=some (okP true s):=by
 obtain ⟨q,hq,hp⟩:=Z8k (f:=Zbl s) (fun t:Int=>0≤t∧t≤s.length∧okP true s=okP (t==0) (s.drop t.toNat)) (fun t=>((s.length:Int) - t).toNat)
  (fun q=>match q with
   | .inl _=>okP true s=decide (s.length>0)
   | .inr r=>okP true s=r)
  (fun t ht =>by
   obtain ⟨h0,h1,h2⟩:=ht
   unfold Zbl
   by_cases h:t<s.length
   ·obtain ⟨c,hc,hg⟩:=Znj h0 h
    have e1:IntKind.wrap .i64 (t+1)=t+1:=by rw [Zkw]; omega
    have hd:s.drop t.toNat=c::s.drop (t+1).toNat:=by rw [Zox hc]; congr 2; omega
    rw [hd] at h2
    have hz:(t+1==0)=false:=by simp; omega
    by_cases hL:Z96 c=true
    ·refine ⟨.next (t+1),by simp [h,hg,Zfp,hL,e1],⟨by omega,by omega,?_⟩,by omega⟩
     rw [h2,hz]; simp [okP,hL]
    ·by_cases ht0:t=0
     ·subst ht0
      refine ⟨.done (.inr false),by simp only [h,hg,Zfp,hL,decide_true,if_true,Option.bind_some,Bool.not_false,beq_self_eq_true,Bool.false_eq_true,if_false],?_⟩
      show okP true s=false
      rw [h2]; simp [okP,hL]
     ·by_cases hD:Z7j c=true
      ·have hD':48≤c.toNat∧c.toNat≤57:=by simpa [Z7j,Ziu] using hD
       have a1: ¬ ((c.toNat:Int)<48):=by omega
       have a2: ¬ ((c.toNat:Int)>57):=by omega
       refine ⟨.next (t+1),?_,⟨by omega,by omega,?_⟩,by omega⟩
       ·simp only [h,hg,Zfp,hL,e1,ht0,a1,a2,decide_true,decide_false,if_true,Option.bind_some,Bool.not_false,beq_iff_eq,Bool.false_eq_true,if_false]
       ·rw [h2,hz]; simp [okP,hL,hD,ht0]
      ·refine ⟨.done (.inr false),?_,?_⟩
       ·have hD': ¬ (48≤c.toNat∧c.toNat≤57):=by simpa [Z7j,Ziu] using hD
        by_cases a1:(c.toNat:Int)<48
        ·simp only [h,hg,Zfp,hL,ht0,a1,decide_true,if_true,Option.bind_some,Bool.not_false,beq_iff_eq,Bool.false_eq_true,if_false]
        ·have a2:(c.toNat:Int)>57:=by omega
         simp only [h,hg,Zfp,hL,ht0,a1,a2,decide_true,decide_false,if_true,Option.bind_some,Bool.not_false,beq_iff_eq,Bool.false_eq_true,if_false]
       ·show okP true s=false
        rw [h2]; simp [okP,hL,hD]
   ·refine ⟨.done (.inl ()),by simp [h],?_⟩
    show okP true s=decide (s.length>0)
    rw [h2,List.drop_eq_nil_of_le (by omega)]
    by_cases hs:s.length>0
    ·simp [okP,hs,show ¬ t=0 by omega]
    ·have:t=0:=by omega
     simp [okP,hs,this])
  Z08 0 ⟨by omega,by omega,by simp⟩ (by unfold Z08; omega)
 unfold Z9c
 cases q with
 | inl u=>simp only [hq,Option.bind_some,hp]; congr 1; simp
 | inr r=>simp only [hq,Option.bind_some,hp]
theorem Y1x (s:List UInt8) (hl:(s.length:Int)≤140737488355328):Zhg s=some (okC true s):=by
 obtain ⟨q,hq,hp⟩:=Z8k (f:=Zi1 s) (fun t:Bool×Int=>0≤t.2∧t.2≤s.length∧okC true s=okC t.1 (s.drop t.2.toNat)) (fun t=>((s.length:Int) - t.2).toNat)
  (fun q=>match q with
   | .inl b=>okC true s= !b
   | .inr r=>okC true s=r)
  (fun t ht =>by
   obtain ⟨b,t⟩:=t
   obtain ⟨h0,h1,h2⟩:=ht
   dsimp only at h0 h1 h2
   unfold Zi1
   by_cases h:t<s.length
   ·obtain ⟨c,hc,hg⟩:=Znj h0 h
    have e1:IntKind.wrap .i64 (t+1)=t+1:=by rw [Zkw]; omega
    have hd:s.drop t.toNat=c::s.drop (t+1).toNat:=by rw [Zox hc]; congr 2; omega
    rw [hd] at h2
    have h47:((c.toNat:Int)=47)↔c=47:=⟨fun e=>UInt8.toNat_inj.1 (by show c.toNat=47; omega),fun e=>by subst e; rfl⟩
    by_cases hs:c=47
    ·subst hs
     have hcl:Z96 47=false∧Z7j 47=false:=by decide
     cases b with
     | false=>
      refine ⟨.next (true,t+1),by simp [h,hg,Zt8,j66x5,e1],⟨by dsimp only; omega,by dsimp only; omega,?_⟩,by dsimp only; omega⟩
      rw [h2]; simp [okC]
     | true=>
      refine ⟨.done (.inr false),by simp [h,hg,Zt8,Z91],?_⟩
      show okC true s=false
      rw [h2]; simp [okC]
    ·have hn: ¬ ((c.toNat:Int)=47):=fun e=>hs (h47.1 e)
     by_cases hL:Z96 c=true
     ·refine ⟨.next (false,t+1),by simp [h,hg,Zgv,hn,Z91,Zfr,hL,e1],⟨by dsimp only; omega,by dsimp only; omega,?_⟩,by dsimp only; omega⟩
      rw [h2]; simp [okC,hs,hL]
     ·by_cases hD:Z7j c=true
      ·cases b with
       | false=>
        refine ⟨.next (false,t+1),by simp [h,hg,Zgv,hn,Z91,Zkm,Zfr,hL,hD,e1],⟨by dsimp only; omega,by dsimp only; omega,?_⟩,by dsimp only; omega⟩
        rw [h2]; simp [okC,hs,hL,hD]
       | true=>
        refine ⟨.done (.inr false),by simp [h,hg,Zgv,hn,Z91,Zkm,hL,hD],?_⟩
        show okC true s=false
        rw [h2]; simp [okC,hs,hL,hD]
      ·refine ⟨.done (.inr false),by simp [h,hg,Zgv,hn,Z91,hL,hD],?_⟩
       show okC true s=false
       rw [h2]; simp [okC,hs,hL,hD]
   ·refine ⟨.done (.inl b),by simp [h],?_⟩
    show okC true s= !b
    rw [h2,List.drop_eq_nil_of_le (by omega)]; rfl)
  Z08 (true,0) ⟨by dsimp only; omega,by dsimp only; omega,by simp⟩ (by unfold Z08; dsimp only; omega)
 unfold Zhg
 cases q with
 | inl u=>simp only [hq,Option.bind_some]; exact congrArg some hp.symm
 | inr r=>simp only [hq,Option.bind_some]; exact congrArg some hp.symm
theorem isClass (s:List UInt8) (hl:(s.length:Int)≤140737488355328):Zha s=some (decide (s.length≤64)&&okC true s):=by
 unfold Zha
 by_cases h:s=[]
 ·subst h; rfl
 ·rw [if_neg (by simpa using h)]
  by_cases h64:(s.length:Int)>64
  ·rw [if_pos (decide_eq_true h64)]
   have:decide (s.length≤64)=false:=decide_eq_false (by omega)
   rw [this]; rfl
  ·rw [if_neg (by simpa using h64),Y1x s hl]
   have:decide (s.length≤64)=true:=decide_eq_true (by omega)
   rw [this]; rfl
theorem Y5d (s:List UInt8) (hl:(s.length:Int)≤140737488355328):Z7l s=some (decide (s.length≤64)&&okC true s):=by
 unfold Z7l
 by_cases h64:(s.length:Int)>64
 ·rw [if_pos (decide_eq_true h64)]
  have:decide (s.length≤64)=false:=decide_eq_false (by omega)
  rw [this]; rfl
 rw [if_neg (by simpa using h64)]
 have h64':decide (s.length≤64)=true:=decide_eq_true (by omega)
 rw [h64',Bool.true_and]
 obtain ⟨q,hq,hp⟩:=Z8k (f:=Zc9 s) (fun t:Int×Int=>0≤t.1∧t.1≤t.2∧t.2≤s.length∧(∀ j:Nat,t.1≤j→(j:Int)<t.2→s[j]?≠some 47)∧okC true s=okC true (s.drop t.1.toNat)) (fun t=>((s.length:Int) - t.2).toNat)
  (fun q=>match q with
   | .inl a=>0≤a∧a≤(s.length:Int)∧(∀ j:Nat,a≤j→s[j]?≠some 47)∧okC true s=okC true (s.drop a.toNat)
   | .inr r=>okC true s=r)
  (fun t ht =>by
   obtain ⟨a,i⟩:=t
   obtain ⟨h0,h1,h2,h3,h4⟩:=ht
   dsimp only at h0 h1 h2 h3 h4
   unfold Zc9
   by_cases h:i<s.length
   ·obtain ⟨c,hc,hg⟩:=Znj (by omega) h
    have e1:IntKind.wrap .i64 (i+1)=i+1:=by rw [Zkw]; omega
    by_cases hs:c=47
    ·subst hs
     have hsub:sub s a i=some ((s.drop a.toNat).take (i.toNat - a.toNat)):=by
      unfold sub; rw [if_pos (by omega)]
     obtain ⟨p,hpd⟩:∃ p,p=(s.drop a.toNat).take (i.toNat - a.toNat):=⟨_,rfl⟩
     have hpl:(p.length:Int)≤140737488355328:=by rw [hpd]; simp; omega
     have hsplit:s.drop a.toNat=p++47::s.drop (i+1).toNat:=by
      have e2:(s.drop a.toNat).drop (i.toNat - a.toNat)=47::s.drop (i+1).toNat:=by
       rw [List.drop_drop,show a.toNat+(i.toNat - a.toNat)=i.toNat by omega,Zox hc]
       congr 2; omega
      rw [← e2,hpd,List.take_append_drop]
     have hno:(47:UInt8) ∉ p:=fun hm=>by
      obtain ⟨k,hk⟩:=List.getElem?_of_mem hm
      rw [hpd,List.getElem?_take] at hk
      split at hk
      ·rw [List.getElem?_drop] at hk
       exact h3 (a.toNat+k) (by omega) (by omega) hk
      ·cases hk
     have hpart:=Zwc p (s.drop (i+1).toNat) true hno
     rw [hsplit,hpart] at h4
     cases hok:okP true p with
     | false=>
      refine ⟨.done (.inr false),?_,?_⟩
      ·simp [h,hg,hsub,← hpd,Znh p hpl,hok]
      ·show okC true s=false
       rw [h4,hok]; rfl
     | true=>
      refine ⟨.next (i+1,i+1),?_,⟨by dsimp only; omega,by dsimp only; omega,by dsimp only; omega,fun j hj hj2=>?_,?_⟩,by dsimp only; omega⟩
      ·simp [h,hg,hsub,← hpd,Znh p hpl,hok,e1]
      ·dsimp only at hj hj2; omega
      ·dsimp only; rw [h4,hok,Bool.true_and]
    ·have hn: ¬ ((c.toNat:Int)=47):=fun e=>hs (UInt8.toNat_inj.1 (by show c.toNat=47; omega))
     refine ⟨.next (a,i+1),by simp [h,hg,hn,e1],⟨by dsimp only; omega,by dsimp only; omega,by dsimp only; omega,fun j hj hj2=>?_,h4⟩,by dsimp only; omega⟩
     dsimp only at hj hj2
     by_cases hji:(j:Int)=i
     ·rw [show j=i.toNat by omega,hc]; simpa using hs
     ·exact h3 j hj (by omega)
   ·refine ⟨.done (.inl a),by simp [h],h0,by omega,fun j hj=>?_,h4⟩
    by_cases hji:(j:Int)<i
    ·exact h3 j hj hji
    ·rw [List.getElem?_eq_none (by omega)]; simp)
  Z08 (0,0) ⟨by dsimp only; omega,by dsimp only; omega,by dsimp only; omega,fun j hj hj2=>by dsimp only at hj hj2; omega,by simp⟩ (by unfold Z08; dsimp only; omega)
 cases q with
 | inl a=>
  obtain ⟨k0,k1,k2,k3⟩:=hp
  have hsub:sub s a (s.length:Int)=some (s.drop a.toNat):=by
   unfold sub; rw [if_pos (by omega)]
   congr 1
   rw [List.take_of_length_le (by simp)]
  have hno:(47:UInt8) ∉ s.drop a.toNat:=fun hm=>by
   obtain ⟨k,hk⟩:=List.getElem?_of_mem hm
   rw [List.getElem?_drop] at hk
   exact k2 (a.toNat+k) (by omega) hk
  have hpl:((s.drop a.toNat).length:Int)≤140737488355328:=by simp; omega
  simp only [hq,Option.bind_some,hsub,Znh _ hpl]
  rw [k3,Zx1 _ true hno]
 | inr r=>simp only [hq,Option.bind_some]; exact congrArg some hp.symm
theorem Zv3:∀ (l:List UInt8) (c:UInt8),(Lib.indexByte l c<0)↔c ∉ l
 | [],c=>by simp [Lib.indexByte]
 | b :: l,c=>by
  have ih:=Zv3 l c
  have hge:=Lib.indexByte_ge l c
  unfold Lib.indexByte
  by_cases hb:b=c
  ·subst hb; simp
  ·have hb':(b==c)=false:=by simpa using hb
   have hne: ¬ c=b:=fun e=>hb e.symm
   rw [hb']
   simp only [Bool.false_eq_true,if_false,List.mem_cons,hne,false_or]
   rw [← ih]
   by_cases h1:Lib.indexByte l c= -1
   ·rw [h1]; simp
   ·rw [if_neg (by simpa using h1)]; omega
end Go.Proofs
namespace Go.Proofs
open Go.Den
def clsB (s:List UInt8):Bool:=decide (s.length≤64)&&okC true s
def Z51 (t:Z0h):Bool:=
 decide (0≤t.Z0y)&&decide (t.Z0y≤8)&&
 ((t.Z1b==73||t.Z1b==74)&&(t.Z0d==[])||t.Z1b==86&&(t.Z0d==[])&&t.Z0y==0||t.Z1b==76&&clsB t.Z0d)
theorem Ztn (t:Z0h) (hl:(t.Z0d.length:Int)≤140737488355328):Zcw t=some (Z51 t):=by
 unfold Zcw j59x1 j59x2 j59x3 Z51 clsB
 rw [isClass _ hl]
 by_cases h1:t.Z0y<0
 ·simp [h1,show ¬ 0≤t.Z0y by omega]
 ·by_cases h2:t.Z0y>8
  ·simp [h1,h2,show ¬ t.Z0y≤8 by omega]
  ·by_cases b1:t.Z1b=73
   ·simp [h1,b1,show ¬ 8<t.Z0y by omega,show 0≤t.Z0y by omega,show t.Z0y≤8 by omega]
   ·by_cases b2:t.Z1b=74
    ·simp [h1,b2,show ¬ 8<t.Z0y by omega,show 0≤t.Z0y by omega,show t.Z0y≤8 by omega]
    ·by_cases b3:t.Z1b=86
     ·by_cases b4:t.Z0y=0
      ·simp [b3,b4]
      ·simp [h1,b3,b4,show ¬ 8<t.Z0y by omega,show 0≤t.Z0y by omega,show t.Z0y≤8 by omega]
     ·by_cases b5:t.Z1b=76
      ·simp [h1,b5,show ¬ 8<t.Z0y by omega,show 0≤t.Z0y by omega,show t.Z0y≤8 by omega]
      ·simp [h1,b1,b2,b3,b5,show ¬ 8<t.Z0y by omega]
theorem Zr4 (t:Z0h) (hl:(t.Z0d.length:Int)≤140737488355328):Z7y t=some (Z51 t):=by
 unfold Z7y Zk9 Zgw Zjb Z51 clsB
 rw [Y5d _ hl]
 by_cases h1:t.Z0y<0
 ·simp [h1,show ¬ 0≤t.Z0y by omega]
 ·by_cases h2:t.Z0y>8
  ·simp [h1,h2,show ¬ t.Z0y≤8 by omega]
  ·by_cases b1:t.Z1b=73
   ·simp [h1,b1,show ¬ 8<t.Z0y by omega,show 0≤t.Z0y by omega,show t.Z0y≤8 by omega]
   ·by_cases b2:t.Z1b=74
    ·simp [h1,b2,show ¬ 8<t.Z0y by omega,show 0≤t.Z0y by omega,show t.Z0y≤8 by omega]
    ·by_cases b3:t.Z1b=86
     ·by_cases b4:t.Z0y=0
      ·by_cases b6:t.Z0d=[] <;> simp [b3,b4,b6]
      ·by_cases b6:t.Z0d=[] <;> simp [h1,b3,b4,b6,show ¬ 8<t.Z0y by omega,show 0≤t.Z0y by omega,show t.Z0y≤8 by omega]
     ·by_cases b5:t.Z1b=76
      ·simp [h1,b5,show ¬ 8<t.Z0y by omega,show 0≤t.Z0y by omega,show t.Z0y≤8 by omega]
      ·simp [h1,b1,b2,b3,b5,show ¬ 8<t.Z0y by omega]
theorem Zf1 {t:Z0h} (h:Z51 t=true):0≤t.Z0y∧t.Z0y≤8∧((t.Z1b=73∧t.Z0d=[])∨(t.Z1b=74∧t.Z0d=[])∨(t.Z1b=86∧t.Z0d=[]∧t.Z0y=0)∨(t.Z1b=76∧clsB t.Z0d=true))∧t.Z0d.length≤64:=by
 simp only [Z51,Bool.and_eq_true,Bool.or_eq_true,decide_eq_true_eq,beq_iff_eq] at h
 obtain ⟨⟨h1,h2⟩,h3⟩:=h
 refine ⟨h1,h2,?_,?_⟩
 ·rcases h3 with (⟨h3|h3,h4⟩|⟨⟨h3,h4⟩,h5⟩)|⟨h3,h4⟩
  ·exact .inl ⟨h3,h4⟩
  ·exact .inr (.inl ⟨h3,h4⟩)
  ·exact .inr (.inr (.inl ⟨h3,h4,h5⟩))
  ·exact .inr (.inr (.inr ⟨h3,h4⟩))
 ·rcases h3 with (⟨_,h4⟩|⟨⟨_,h4⟩,_⟩)|⟨_,h4⟩
  ·rw [h4]; simp
  ·rw [h4]; simp
  ·simp only [clsB,Bool.and_eq_true,decide_eq_true_eq] at h4; exact h4.1
def fmt (t:Z0h):List UInt8:=List.replicate t.Z0y.toNat 91++UInt8.ofNat t.Z1b.toNat::(if t.Z1b=76 then t.Z0d++[59] else [])
theorem Zp0 {t:Z0h} (h:Z51 t=true):(fmt t).length≤74∧1≤(fmt t).length:=by
 obtain ⟨h1,h2,-,h4⟩:=Zf1 h
 unfold fmt
 split <;> simp <;> omega
theorem Za1 {n:Int} (h0: -9223372036854775808≤n) (h1:n<9223372036854775808):IntKind.wrap .i64 n=n:=by
 rw [Zkw]; omega
def cut:List UInt8→Option (List UInt8×List UInt8)
 | [] =>none
 | c::r=>if c=59 then some ([],r) else (cut r).map fun x=>(c::x.1,x.2)
def Z1x:List UInt8→Nat
 | [] =>0
 | c::r=>if c=91 then Z1x r+1 else 0
def mkT (d:Nat) (b:Int) (n:List UInt8):Z0h:={ Z0y:=d,Z1b:=b,Z0d:=n }
def chk (t:Z0h) (r:List UInt8):Option (Z0h×List UInt8):=if Z51 t=true then some (t,r) else none
def rd (s:List UInt8):Option (Z0h×List UInt8):=
 match s.drop (Z1x s) with
 | [] =>none
 | c :: r=>
  if c=76 then
   match cut r with
   | none=>none
   | some (nm,r')=>chk (mkT (Z1x s) 76 nm) r'
  else chk (mkT (Z1x s) (c.toNat:Int) []) r
theorem Zdp:∀ l,match cut l with
  | none=>Lib.indexByte l 59<0∧(59:UInt8) ∉ l
  | some (a,b)=>Lib.indexByte l 59=a.length∧l=a++59::b∧(59:UInt8) ∉ a
 | [] =>by simp [cut,Lib.indexByte]
 | c :: r=>by
  have ih:=Zdp r
  unfold cut
  by_cases hc:c=59
  ·rw [if_pos hc]; subst hc; simp [Lib.indexByte]
  ·rw [if_neg hc]
   cases h:cut r with
   | none=>
    rw [h] at ih
    have h1:=(Zv3 (c::r) 59).2 (by simp only [List.mem_cons,not_or]; exact ⟨fun e=>hc e.symm,ih.2⟩)
    exact ⟨h1,by simp only [List.mem_cons,not_or]; exact ⟨fun e=>hc e.symm,ih.2⟩⟩
   | some x=>
    obtain ⟨a,b⟩:=x
    rw [h] at ih
    obtain ⟨i1,i2,i3⟩:=ih
    refine ⟨?_,by show c::r=c::a++59::b; rw [i2]; rfl,by simp only [List.mem_cons,not_or]; exact ⟨fun e=>hc e.symm,i3⟩⟩
    have: ¬ Lib.indexByte r 59<0:=by omega
    simp [Lib.indexByte,hc,i1]
theorem Zen:∀ s,Z1x s≤s.length
 | [] =>by simp [Z1x]
 | c::r=>by
  have:=Zen r
  unfold Z1x; split <;> simp; omega
theorem Zmm:∀ (s:List UInt8) (i:Nat),i<Z1x s→s[i]?=some 91
 | [],i,h=>by simp [Z1x] at h
 | c :: r,i,h=>by
  unfold Z1x at h
  split at h
  ·rename_i hc
   cases i with
   | zero=>simp [hc]
   | succ i=>simpa using Zmm r i (by omega)
  ·omega
theorem Znf:∀ (s:List UInt8),s[Z1x s]?≠some 91
 | [] =>by simp
 | c::r=>by
  unfold Z1x
  split
  ·simpa using Znf r
  ·rename_i hc; simpa using hc
theorem Zye:∀ s:List UInt8,s=List.replicate (Z1x s) 91++s.drop (Z1x s)
 | [] =>rfl
 | c :: r=>by
  have ih:=Zye r
  unfold Z1x
  split
  ·rename_i hc
   subst hc
   rw [List.replicate_succ,List.drop_succ_cons,List.cons_append,← ih]
  ·simp
theorem i8_eq (c d:UInt8):((c.toNat:Int)=(d.toNat:Int))↔c=d:=by
 constructor
 ·intro h; exact UInt8.toNat_inj.1 (by omega)
 ·intro h; rw [h]
theorem Zcn (c d:UInt8):((c.toNat:Int)==(d.toNat:Int))=(c==d):=by
 rw [Bool.eq_iff_iff]; simp only [beq_iff_eq]; exact i8_eq c d
theorem Zpa {α:Type} (l:List α) (n:Nat) (h:n≤l.length):sub l (n:Int) (l.length:Int)=some (l.drop n):=by
 unfold sub
 rw [if_pos (by omega)]
 simp [List.take_of_length_le]
theorem Zyw {α:Type} (l:List α) (n m:Nat) (h:n≤m) (hm:m≤l.length):sub l (n:Int) (m:Int)=some ((l.drop n).take (m - n)):=by
 unfold sub
 rw [if_pos (by omega)]
 simp
theorem Zxg {s r:List UInt8} {t:Z0h} (h:rd s=some (t,r)):Z51 t=true∧s=fmt t++r∧r.length<s.length∧t.Z0d.length≤64:=by
 have hs:=Zye s
 unfold rd at h
 cases hd:s.drop (Z1x s) with
 | nil=>rw [hd] at h; cases h
 | cons c q=>
  rw [hd] at h hs
  dsimp only at h
  have key:∀ (nm r':List UInt8) (b:Int),chk (mkT (Z1x s) b nm) r'=some (t,r)→Z51 t=true∧t=mkT (Z1x s) b nm∧r'=r:=fun nm r' b hc=>by
   unfold chk at hc
   split at hc
   ·rename_i hv; cases hc; exact ⟨hv,rfl,rfl⟩
   ·cases hc
  split at h
  ·rename_i hc
   subst hc
   have hcut:=Zdp q
   cases hq:cut q with
   | none=>rw [hq] at h; cases h
   | some x=>
    obtain ⟨nm,r'⟩:=x
    rw [hq] at h hcut
    obtain ⟨k1,k2,k3⟩:=key _ _ _ h
    subst k3
    have hf:s=fmt t++r':=by
     rw [k2]
     unfold fmt mkT
     dsimp only
     rw [if_pos rfl,show ((Z1x s:Nat):Int).toNat=Z1x s from rfl]
     have hq2:q=nm++59::r':=hcut.2.1
     conv=>lhs; rw [hs,hq2]
     simp
    refine ⟨k1,hf,?_,(Zf1 k1).2.2.2⟩
    have:=(Zp0 k1).2
    have hl:=congrArg List.length hf
    rw [List.length_append] at hl; omega
  ·rename_i hc
   obtain ⟨k1,k2,k3⟩:=key _ _ _ h
   subst k3
   have hf:s=fmt t++q:=by
    rw [k2]
    unfold fmt mkT
    dsimp only
    rw [if_neg (fun e:(c.toNat:Int)=76=>hc ((i8_eq c 76).1 e))]
    rw [show ((Z1x s:Nat):Int).toNat=Z1x s from rfl,show ((c.toNat:Nat):Int).toNat=c.toNat from rfl]
    conv=>lhs; rw [hs]
    simp
   refine ⟨k1,hf,?_,(Zf1 k1).2.2.2⟩
   have:=(Zp0 k1).2
   have hl:=congrArg List.length hf
   rw [List.length_append] at hl; omega
theorem Zet {s:List UInt8} {i:Nat} {c:UInt8} (h:s[i]?=some c):Z2g s (i:Int)=some (c.toNat:Int):=by
 unfold Z2g
 rw [if_pos (by omega),Int.toNat_natCast,h]; rfl
theorem getS0 {c:UInt8} {r:List UInt8}:Z2g (c::r) 0=some (c.toNat:Int):=rfl
theorem Y57 (s:List UInt8) (hl:(s.length:Int)≤140737488355328):Z06 (Zf5 s) Z08 0=some (Z1x s:Int):=by
 have hle:=Zen s
 have:∃ r,Z06 (Zf5 s) Z08 0=some r∧r=(Z1x s:Int):=by
  refine Z8k (fun i:Int=>0≤i∧i≤Z1x s) (fun i:Int=>((s.length:Int) - i).toNat) (fun r=>r=(Z1x s:Int)) ?_ Z08 0 ⟨by omega,by omega⟩ ?_
  ·intro i ⟨i0,i1⟩
   obtain ⟨n,rfl⟩:=Int.eq_ofNat_of_zero_le i0
   unfold Zf5
   by_cases hlt:n<s.length
   ·have hc:s[n]?=some s[n] :=List.getElem?_eq_getElem hlt
    rw [if_pos (by simpa using hlt),Zet hc]
    try simp only [Option.bind_some]
    rw [show (91:Int)=((91:UInt8).toNat:Int) from rfl,Zcn]
    by_cases h91:s[n]=91
    ·rw [if_pos (by simpa using h91),Za1 (by omega) (by omega)]
     have hn:n≠Z1x s:=by
      intro e
      apply Znf s
      rw [← e,hc,h91]
     exact ⟨_,rfl,⟨by omega,by omega⟩,by omega⟩
    ·rw [if_neg (by simpa using h91)]
     refine ⟨_,rfl,?_⟩
     show (n:Int)=Z1x s
     rcases Nat.lt_or_ge n (Z1x s) with h'|h'
     ·have:=Zmm s n h'
      rw [hc] at this
      exact absurd (by simpa using this) h91
     ·omega
   ·rw [if_neg (by simpa using hlt)]
    exact ⟨_,rfl,by show (n:Int)=Z1x s; omega⟩
  ·show ((s.length:Int) - 0).toNat<18446744073709551616
   omega
 obtain ⟨r,h1,h2⟩:=this
 rw [h1,h2]
theorem index59 (s:List UInt8):Zp9 s 59=some (Lib.indexByte s 59):=rfl
theorem Zj3 (t:Z0h) (r:List UInt8) (hl:(t.Z0d.length:Int)≤140737488355328):∃ b,Zcw t=some b∧Z7y t=some b∧chk t r=if b=true then some (t,r) else none:=
 ⟨Z51 t,Ztn t hl,Zr4 t hl,rfl⟩
theorem Y3f (s:List UInt8) (hl:(s.length:Int)≤140737488355328):∃ v,Zhk s=some v∧match rd s with
  | some (t,r)=>v=(t,r,true)
  | none=>v.2.2=false:=by
 have hle:=Zen s
 unfold Zhk rd
 rw [Y57 s hl]
 try simp only [Option.bind_some]
 rw [Zpa s _ hle]
 try simp only [Option.bind_some]
 have hlen:(s.drop (Z1x s)).length≤s.length:=by rw [List.length_drop]; omega
 cases hd:s.drop (Z1x s) with
 | nil=>exact ⟨_,rfl,rfl⟩
 | cons c q=>
  rw [hd] at hlen
  simp only [List.length_cons] at hlen
  rw [if_neg (by simp),getS0]
  try simp only [Option.bind_some]
  rw [show (1:Int)=((1:Nat):Int) from rfl,Zpa (c::q) 1 (by simp)]
  simp only [Option.bind_some,List.drop_succ_cons,List.drop_zero]
  rw [show (76:Int)=((76:UInt8).toNat:Int) from rfl,Zcn]
  by_cases hc:c=76
  ·rw [if_pos (by simpa using hc),if_pos hc,index59]
   try simp only [Option.bind_some]
   have hcut:=Zdp q
   cases hq:cut q with
   | none=>
    rw [hq] at hcut
    rw [if_pos (decide_eq_true hcut.1)]
    exact ⟨_,rfl,rfl⟩
   | some x=>
    obtain ⟨nm,r'⟩:=x
    rw [hq] at hcut
    obtain ⟨h1,h2,h3⟩:=hcut
    have hql:q.length=nm.length+1+r'.length:=by rw [h2]; simp; omega
    rw [h1,if_neg (by simp)]
    rw [show (0:Int)=((0:Nat):Int) from rfl,Zyw q 0 nm.length (by omega) (by omega)]
    try simp only [Option.bind_some]
    rw [Za1 (by omega) (by omega)]
    try simp only [Option.bind_some]
    rw [show (nm.length:Int)+((1:Nat):Int)=((nm.length+1:Nat):Int) by omega,Zpa q _ (by omega)]
    try simp only [Option.bind_some]
    have e1:(q.drop 0).take (nm.length - 0)=nm:=by rw [h2]; simp
    have e2:q.drop (nm.length+1)=r':=by rw [h2,List.drop_append]; simp
    rw [e1,e2,hc]
    unfold Zdc
    obtain ⟨b,k1,-,k3⟩:=Zj3 (mkT (Z1x s) 76 nm) r' (by show (nm.length:Int)≤_; omega)
    unfold mkT at k1
    rw [show (((76:UInt8).toNat:Nat):Int)=76 from rfl,k1]
    rw [k3]
    cases b with
    | true=>exact ⟨_,rfl,rfl⟩
    | false=>exact ⟨_,rfl,rfl⟩
  ·rw [if_neg (by simpa using hc),if_neg hc]
   unfold Zdc
   obtain ⟨b,k1,-,k3⟩:=Zj3 (mkT (Z1x s) (c.toNat:Int) []) q (by show (([]:List UInt8).length:Int)≤_; simp)
   unfold mkT at k1
   rw [k1]
   rw [k3]
   cases b with
   | true=>exact ⟨_,rfl,rfl⟩
   | false=>exact ⟨_,rfl,rfl⟩
def zeroT:Z0h:={ Z0y:=0,Z1b:=0,Z0d:=[] }
def Z70 (s:List UInt8):Z0h×Int:=match rd s with
 | some (t,[])=>(t,0)
 | _=>(zeroT,13)
theorem Y17 (s:List UInt8) (hl:(s.length:Int)≤140737488355328):Zh3 s=some (Z70 s):=by
 obtain ⟨v,h1,h2⟩:=Y3f s hl
 unfold Zh3 Z70
 rw [h1]
 try simp only [Option.bind_some]
 cases hr:rd s with
 | none=>rw [hr] at h2; dsimp only at h2; rw [h2]; rfl
 | some x=>
  obtain ⟨t,r⟩:=x
  rw [hr] at h2
  dsimp only at h2
  subst h2
  cases r with
  | nil=>rfl
  | cons c r=>rfl
theorem Y4u (s:List UInt8) (hl:(s.length:Int)≤140737488355328) (at_:Nat) (h:at_≤s.length):Z06 (Zcb s) Z08 ((at_:Int),0)=some ((Z1x (s.drop at_):Int),((at_+Z1x (s.drop at_):Nat):Int)):=by
 have hle:=Zen (s.drop at_)
 rw [List.length_drop] at hle
 have hget:∀ k,(s.drop at_)[k]?=s[at_+k]? :=fun k=>by rw [List.getElem?_drop]
 have : ∃ r, Z06 (Zcb s) Z08 ((at_:Int),0)=some r∧r=((Z1x (s.drop at_):Int),((at_+Z1x (s.drop at_):Nat):Int)):=by
  refine Z8k (fun p=>∃ k:Nat,k≤Z1x (s.drop at_)∧p=(((at_+k:Nat):Int),(k:Int))) (fun p=>((s.length:Int) - p.1).toNat) (fun r=>r=((Z1x (s.drop at_):Int),((at_+Z1x (s.drop at_):Nat):Int))) ?_ Z08 _ ⟨0,by omega,by simp⟩ ?_
  ·rintro p ⟨k,hk,rfl⟩
   unfold Zcb
   dsimp only
   by_cases hlt:at_+k<s.length
   ·have hc:s[at_+k]?=some s[at_+k] :=List.getElem?_eq_getElem hlt
    rw [if_pos (decide_eq_true (by omega)),Zet hc]
    try simp only [Option.bind_some]
    rw [show (91:Int)=((91:UInt8).toNat:Int) from rfl,Zcn]
    by_cases h91:s[at_+k]=91
    ·rw [if_pos (by simpa using h91)]
     unfold Zkf
     dsimp only
     rw [Za1 (by omega) (by omega)]
     try simp only [Option.bind_some]
     rw [Za1 (by omega) (by omega)]
     try simp only [Option.bind_some]
     have hn:k≠Z1x (s.drop at_):=by
      intro e
      apply Znf (s.drop at_)
      rw [← e,hget,hc,h91]
     exact ⟨_,rfl,⟨k+1,by omega,by simp; omega⟩,by dsimp only; omega⟩
    ·rw [if_neg (by simpa using h91)]
     refine ⟨_,rfl,?_⟩
     have hn:k=Z1x (s.drop at_):=by
      rcases Nat.lt_or_ge k (Z1x (s.drop at_)) with h'|h'
      ·have:=Zmm _ k h'
       rw [hget,hc] at this
       exact absurd (by simpa using this) h91
      ·omega
     show ((k:Int),((at_+k:Nat):Int))=_
     rw [← hn]
   ·rw [if_neg (by simp; omega)]
    refine ⟨_,rfl,?_⟩
    show ((k:Int),((at_+k:Nat):Int))=_
    rw [show k=Z1x (s.drop at_) by omega]
  ·show ((s.length:Int) - (at_:Int)).toNat<18446744073709551616
   omega
 obtain ⟨r,h1,h2⟩:=this
 rw [h1,h2]
theorem Y0s (s:List UInt8) (hl:(s.length:Int)≤140737488355328) (at_:Nat) (h:at_≤s.length):Z06 (Zc0 s) Z08 (at_:Int)=some (match cut (s.drop at_) with
  | some (a,_)=>((at_+a.length:Nat):Int)
  | none=>(s.length:Int)):=by
 have hcut:=Zdp (s.drop at_)
 have hlen:(s.drop at_).length=s.length - at_:=List.length_drop
 have hget:∀ k,(s.drop at_)[k]?=s[at_+k]? :=fun k=>by rw [List.getElem?_drop]
 -- how far it goes
 obtain ⟨m,hm,hno,hend⟩:∃ m:Nat,(match cut (s.drop at_) with
   | some (a,_)=>((at_+a.length:Nat):Int)
   | none=>(s.length:Int))=((at_+m:Nat):Int)∧(∀ k,k<m→∃ c,s[at_+k]?=some c∧c≠59)∧(at_+m=s.length∨s[at_+m]?=some 59):=by
  cases hq:cut (s.drop at_) with
  | none=>
   rw [hq] at hcut
   refine ⟨s.length - at_,by dsimp only; omega,fun k hk=>?_,.inl (by omega)⟩
   have hlt:at_+k<s.length:=by omega
   refine ⟨s[at_+k],List.getElem?_eq_getElem hlt,fun e=>hcut.2 ?_⟩
   have:(s.drop at_)[k]?=some 59:=by rw [hget,List.getElem?_eq_getElem hlt,e]
   exact List.mem_of_getElem? this
  | some x=>
   obtain ⟨a,b⟩:=x
   rw [hq] at hcut
   obtain ⟨-,h2,h3⟩:=hcut
   refine ⟨a.length,rfl,fun k hk=>?_,.inr ?_⟩
   ·have:(s.drop at_)[k]?=some a[k] :=by rw [h2,List.getElem?_append_left hk,List.getElem?_eq_getElem hk]
    rw [hget] at this
    exact ⟨_,this,fun e=>h3 (e ▸ List.getElem_mem hk)⟩
   ·rw [← hget,h2,List.getElem?_append_right (Nat.le_refl _)]; simp
 rw [hm]
 have hms:at_+m≤s.length:=by
  rcases hend with h'|h'
  ·omega
  ·rcases Nat.lt_or_ge (at_+m) s.length with h2|h2
   ·omega
   ·rw [List.getElem?_eq_none h2] at h'; cases h'
 have:∃ r,Z06 (Zc0 s) Z08 (at_:Int)=some r∧r=((at_+m:Nat):Int):=by
  refine Z8k (fun p=>∃ k:Nat,k≤m∧p=((at_+k:Nat):Int)) (fun p=>((s.length:Int) - p).toNat) (fun r=>r=((at_+m:Nat):Int)) ?_ Z08 _ ⟨0,by omega,by simp⟩ ?_
  ·rintro p ⟨k,hk,rfl⟩
   unfold Zc0
   by_cases hkm:k<m
   ·obtain ⟨c,hc,hne⟩:=hno k hkm
    rw [if_pos (decide_eq_true (by omega)),Zet hc]
    try simp only [Option.bind_some]
    rw [show (59:Int)=((59:UInt8).toNat:Int) from rfl,bne,Zcn]
    rw [if_pos (by simpa using hne),Za1 (by omega) (by omega)]
    exact ⟨_,rfl,⟨k+1,by omega,by simp; omega⟩,by omega⟩
   ·obtain rfl:k=m:=by omega
    rcases hend with h'|h'
    ·rw [if_neg (by simp; omega)]
     exact ⟨_,rfl,rfl⟩
    ·have hlt:at_+k<s.length:=by
      rcases Nat.lt_or_ge (at_+k) s.length with h2|h2
      ·exact h2
      ·rw [List.getElem?_eq_none h2] at h'; cases h'
     rw [if_pos (decide_eq_true (by omega)),Zet h']
     try simp only [Option.bind_some]
     rw [show (59:Int)=((59:UInt8).toNat:Int) from rfl,bne,Zcn]
     exact ⟨_,rfl,rfl⟩
  ·show ((s.length:Int) - (at_:Int)).toNat<18446744073709551616
   omega
 obtain ⟨r,h1,h2⟩:=this
 rw [h1,h2]
theorem Y5k (s:List UInt8) (hl:(s.length:Int)≤140737488355328) (at_:Nat) (h:at_≤s.length):Z8v s (at_:Int)=some (match rd (s.drop at_) with
  | some (t,r)=>(t,((s.length - r.length:Nat):Int))
  | none=>(zeroT,-1)):=by
 have hle:=Zen (s.drop at_)
 rw [List.length_drop] at hle
 unfold Z8v rd
 rw [Y4u s hl at_ h]
 try simp only [Option.bind_some]
 have hdd:(s.drop at_).drop (Z1x (s.drop at_))=s.drop (at_+Z1x (s.drop at_)):=by rw [List.drop_drop]
 rw [hdd]
 generalize hk:at_+Z1x (s.drop at_)=k
 have hks:k≤s.length:=by omega
 cases hd:s.drop k with
 | nil=>
  have:s.length≤k:=by simpa using hd
  rw [if_pos (decide_eq_true (by omega))]; rfl
 | cons c q=>
  have hlt:k<s.length:=by
   rcases Nat.lt_or_ge k s.length with h'|h'
   ·exact h'
   ·rw [List.drop_eq_nil_of_le h'] at hd; cases hd
  have hc:s[k]?=some c:=by
   have:=congrArg (fun l=>l[0]?) hd
   simpa using this
  have hq:s.drop (k+1)=q:=by
   have:=congrArg List.tail hd
   simpa [List.tail_drop] using this
  have hql:q.length=s.length - (k+1):=by rw [← hq,List.length_drop]
  rw [if_neg (by simp; omega),Zet hc]
  try simp only [Option.bind_some]
  rw [Za1 (by omega) (by omega)]
  try simp only [Option.bind_some]
  rw [show (76:Int)=((76:UInt8).toNat:Int) from rfl,Zcn,show (k:Int)+1=((k+1:Nat):Int) by omega]
  by_cases h76:c=76
  ·rw [if_pos (by simpa using h76),if_pos h76,Y0s s hl (k+1) (by omega),hq]
   try simp only [Option.bind_some]
   have hcut:=Zdp q
   cases hcq:cut q with
   | none=>rw [if_pos (decide_eq_true (by simp))]; rfl
   | some x=>
    obtain ⟨nm,r'⟩:=x
    rw [hcq] at hcut
    obtain ⟨-,e2,e3⟩:=hcut
    have hl2:q.length=nm.length+1+r'.length:=by rw [e2]; simp; omega
    rw [if_neg (by simp; omega),Zyw s (k+1) (k+1+nm.length) (by omega) (by omega)]
    try simp only [Option.bind_some]
    rw [Za1 (by omega) (by omega)]
    try simp only [Option.bind_some]
    have e4:(s.drop (k+1)).take (k+1+nm.length - (k+1))=nm:=by
     rw [hq,show k+1+nm.length - (k+1)=nm.length by omega,e2]; simp
    rw [e4,h76]
    unfold Zav
    obtain ⟨b,-,k2,k3⟩:=Zj3 (mkT (Z1x (s.drop at_)) 76 nm) r' (by show (nm.length:Int)≤_; omega)
    unfold mkT at k2
    dsimp only
    rw [show (((76:UInt8).toNat:Nat):Int)=76 from rfl,k2,k3]
    cases b with
    | false=>rfl
    | true=>
     simp only [Option.bind_some,Bool.not_true,Bool.false_eq_true,if_false,if_true,Option.some.injEq,Prod.mk.injEq]
     exact ⟨rfl,by omega⟩
  ·rw [if_neg (by simpa using h76),if_neg h76]
   unfold Zav
   obtain ⟨b,-,k2,k3⟩:=Zj3 (mkT (Z1x (s.drop at_)) (c.toNat:Int) []) q (by show (([]:List UInt8).length:Int)≤_; simp)
   unfold mkT at k2
   dsimp only
   rw [k2,k3]
   cases b with
   | false=>rfl
   | true=>
    simp only [Option.bind_some,Bool.not_true,Bool.false_eq_true,if_false,if_true,Option.some.injEq,Prod.mk.injEq]
    exact ⟨rfl,by omega⟩
theorem Zyf (s:List UInt8) (hl:(s.length:Int)≤140737488355328):Z5r s=some (Z70 s):=by
 unfold Z5r Z70
 rw [show (0:Int)=((0:Nat):Int) from rfl,Y5k s hl 0 (Nat.zero_le _),List.drop_zero]
 try simp only [Option.bind_some]
 cases hr:rd s with
 | none=>rw [if_pos (by simp <;> omega)]; rfl
 | some x=>
  obtain ⟨t,r⟩:=x
  have:=(Zxg hr).2.2.1
  cases r with
  | nil=>
   dsimp only
   rw [if_neg (by simp)]
  | cons c r=>
   have hne:((s.length - (c::r).length:Nat):Int)≠(s.length:Int):=by simp only [List.length_cons] at this ⊢; omega
   dsimp only
   rw [if_pos (bne_iff_ne.2 hne)]; rfl
end Go.Proofs
namespace Go.Proofs
open Go.Den Go.Tot
theorem rfL {α:Type} (l:List α) {R:Type} {f:Int→Option (Ctl Int (Unit⊕R))} (hm:l.length≤4503599627370496) (h:∀ (t:Int) v,0≤t→t<l.length→Z05 l t=some v→IntKind.wrap .i64 (t+1)=t+1→f t=some (.next (t+1))) (he:∀ t:Int,¬t<l.length→f t=some (.done (.inl ()))):
  Z06 f Z08 0=some (.inl ()):=by
 have:Ok (Z06 f Z08 0) (fun q=>q=.inl ()):=by
  refine lp (fun t=>t) l.length (fun _=>True) (fun t _ h0 h1=>?_) (by omega) trivial (by omega) (by omega)
  rcases Int.lt_or_le t l.length with hlt|hge
  ·obtain ⟨v,e,_⟩:=gr (l:=l) h0 hlt
   rw [h t v h0 hlt e (Z5c (by omega) (by omega))]
   exact nx trivial (by omega) (by omega)
  ·rw [he t (by omega)]; exact dn rfl
 obtain ⟨q,e,rfl⟩:=this
 exact e
theorem Y0d (w:Z0c) (c:Int):Zoj w c=some (decide (0≤c∧c<w.Z0o.length)):=Zp6 w c
theorem Zvu {w:Z0c} (hv:Z3x w):∀ (n:Nat) (c:Int),c+2≤n→1≤n→(0≤c→((Z44 w n c).length:Int)≤c+1)∧(c<0→Z44 w n c=[])
 | n + 1,c,h,_=>by
  unfold Z44
  cases e:Z05 w.Z0o c with
  | none=>exact ⟨fun _=>by simp; omega,fun _=>rfl⟩
  | some k=>
   obtain ⟨h0,_,hs⟩:=Zc3 hv e
   obtain ⟨a,b⟩:=Zvu hv n k.Z1c (by omega) (by omega)
   refine ⟨fun _=>?_,fun _=>by omega⟩
   simp only [List.length_cons]
   by_cases hk:0≤k.Z1c
   ·have:=a hk; omega
   ·rw [b (by omega)]; simp; omega
def Z6q (w:Z0c) (c:Int):List Int:=Z44 w 300 c
theorem Y63 {w:Z0c} (hv:Z3x w) (c:Int):(Z6q w c).length≤200:=by
 have hf:=hv.few
 unfold Z6q
 by_cases h:0≤c∧c<w.Z0o.length
 ·have:=(Zvu hv 300 c (by omega) (by omega)).1 h.1; omega
 ·unfold Z44; rw [Z7f h]; simp
theorem Y31 {w:Z0c} {c:Int} (h: ¬(0≤c∧c<w.Z0o.length)):Z6q w c=[] :=by
 unfold Z6q Z44; rw [Z7f h]
theorem Y1k {w:Z0c} (hv:Z3x w) {c:Int} {k:Z1v} (e:Z05 w.Z0o c=some k):Z6q w c=c::Z6q w k.Z1c:=by
 have hf:=hv.few
 have:=Zc3 hv e
 unfold Z6q
 rw [show (300:Nat)=299+1 from rfl,Z44,e]
 dsimp only
 rw [Ztv hv 299 (299+1) k.Z1c (by omega) (by omega) (by omega) (by omega)]
theorem Y2j {w:Z0c} (hv:Z3x w) {f:Int×List Int→Option (Ctl (Int×List Int) (List Int))} (h1:∀ (c:Int) l k,Z1q 8 (l++[c]).length=some ()→0≤c→c<w.Z0o.length→Z05 w.Z0o c=some k→f (c,l)=some (.next (k.Z1c,l++[c])))
  (h2:∀ (c:Int) l,¬(0≤c∧c<w.Z0o.length)→c<w.Z0o.length∨l=[]→f (c,l)=some (.done l)) (c:Int):Z06 f Z08 (c,[])=some (Z6q w c):=by
 have hf:=hv.few
 have:∀ (n m:Nat) (c:Int) (l:List Int),(0≤c→c<m∨l=[])→m<n→(l.length:Int)+m≤400→(c<w.Z0o.length∨l=[])→(l=[]→m=201)→Z06 f n (c,l)=some (l++Z6q w c):=by
  intro n
  induction n with
  | zero=>intro m c l _ h; omega
  | succ n ih=>
   intro m c l h h' hl hl2 hm
   rw [Z06]
   by_cases ht:0≤c∧c<w.Z0o.length
   ·obtain ⟨k,e,_⟩:=gr (l:=w.Z0o) ht.1 ht.2
    have hs:=(Zc3 hv e).2.2
    have hcm:c<m:=by
     rcases h ht.1 with h|h
     ·exact h
     ·have:=hm h; omega
    rw [h1 c l k (Zig (by simp only [List.length_append,List.length_cons,List.length_nil]; omega) (by simp only [List.length_append,List.length_cons,List.length_nil]; omega)) ht.1 ht.2 e]
    dsimp only
    rw [ih (m - 1) k.Z1c (l++[c]) (fun _=> .inl (by omega)) (by omega) (by simp only [List.length_append,List.length_cons,List.length_nil]; omega) (.inl (by omega)) (fun h=>by simp at h),Y1k hv e]
    simp
   ·rw [h2 c l ht hl2,Y31 ht]
    simp
 exact this Z08 201 c [] (fun _=> .inr rfl) (by unfold Z08; omega) (by simp) (.inr rfl) fun _=>rfl
theorem Y61 {w:Z0c} (hv:Z3x w) (c:Int):Zhp w c=some (Z6q w c):=by
 unfold Zhp
 rw [Y2j hv (fun c l k hg h0 h1 e=>?_) (fun c l h _=>?_)]
 ·rfl
 ·unfold Zhj
  dsimp only
  rw [Y0d,decide_eq_true ⟨h0,h1⟩]
  simp only [Option.bind_some,if_true]
  rw [hg,e]
  rfl
 ·unfold Zhj
  dsimp only
  rw [Y0d,decide_eq_false h]
  rfl
end Go.Proofs
namespace Go.Proofs
open Go.Den Go.Tot
def Im {α:Type} (o:Option α) (P:α→Prop):Prop:=∀ r,o=some r→P r
namespace I
variable {α β:Type} {P:α→Prop} {Q:β→Prop}
theorem ok {x:α} (h:P x):Im (some x) P:=fun r e=>by cases e; exact h
theorem bd {o:Option α} {f:α→Option β} (h:Im o P) (k:∀ x,P x→Im (f x) Q):Im (o.bind f) Q:=fun r e=>by
 obtain ⟨x,e1,e2⟩:=Option.bind_eq_some_iff.1 e
 exact k x (h x e1) r e2
theorem sk {o:Option α} {f:α→Option β} (k:∀ x,o=some x→Im (f x) Q):Im (o.bind f) Q:=fun r e=>by
 obtain ⟨x,e1,e2⟩:=Option.bind_eq_some_iff.1 e
 exact k x e1 r e2
theorem br {b:Bool} {x y:Option α} (T:b=true→Im x P) (F:b=false→Im y P):Im (if b=true then x else y) P:=by
 cases b with
 | true=>exact T rfl
 | false=>exact F rfl
theorem mono {P':α→Prop} {o:Option α} (h:Im o P) (k:∀ x,P x→P' x):Im o P':=fun r e=>k r (h r e)
def Ct {T R:Type} (I:T→Prop) (Q:R→Prop):Ctl T R→Prop
 | .next t=>I t
 | .done r=>Q r
theorem nx {T R:Type} {I:T→Prop} {Q:R→Prop} {t:T} (h:I t):Im (some (Ctl.next t:Ctl T R)) (Ct I Q):=ok h
theorem dn {T R:Type} {I:T→Prop} {Q:R→Prop} {r:R} (h:Q r):Im (some (Ctl.done r:Ctl T R)) (Ct I Q):=ok h
theorem lp {T R:Type} {f:T→Option (Ctl T R)} (I:T→Prop) {Q:R→Prop} (h:∀ t,I t→Im (f t) (Ct I Q)):∀ {n:Nat} {t:T},I t→Im (Z06 f n t) Q
 | 0,t,_,r,e=>by cases e
 | n + 1,t,ht,r,e=>by
  unfold Z06 at e
  have:=h t ht
  split at e
  ·rename_i s' hs
   exact lp I h (this _ hs) r e
  ·rename_i r' hs
   cases e
   exact this _ hs
  ·cases e
end I
theorem Zb4 {α:Type} {l:List α} {i:Int} {v:α} (h:Z05 l i=some v):v∈l∧0≤i∧l[i.toNat]?=some v:=by
 unfold Z05 at h
 split at h
 ·exact ⟨List.mem_of_getElem? h,by assumption,h⟩
 ·cases h
def Sb (P Q:List Z00):Prop:=P <+: Q
theorem Sb.refl (P:List Z00):Sb P P:=List.prefix_refl P
theorem Sb.trans {P Q R:List Z00} (h:Sb P Q) (k:Sb Q R):Sb P R:=List.IsPrefix.trans h k
def At1 (s:List UInt8) (P:List Z00) (i:Int):Prop:=P.length≤1000→∃ c,1≤i∧P[i.toNat - 1]?=some c∧c.Z1s=1∧c.f_S=s
theorem At1.mono {s:List UInt8} {P Q:List Z00} {i:Int} (h:At1 s P i) (k:Sb P Q):At1 s Q i:=fun hq=>by
 obtain ⟨r,rfl⟩:=k
 obtain ⟨c,h1,h2,h3⟩:=h (by rw [List.length_append] at hq; omega)
 exact ⟨c,h1,by rw [List.getElem?_append_left (List.getElem?_eq_some_iff.1 h2).1]; exact h2,h3⟩
theorem Zb0 (P:List Z00) (c:Z00):Im (Z62 P c) (fun r=>Sb P r.1∧(r.2.2=0→r.1.length≤1000→1≤r.2.1∧r.1[r.2.1.toNat - 1]?=some c)):=by
 unfold Z62
 refine I.bd (I.lp (fun _=>True) (Q:=fun q=>match q with|.inl _=>True|.inr r=>Sb P r.1∧(r.1.length≤1000→1≤r.2.1∧r.1[r.2.1.toNat - 1]?=some c)) (fun t _=>?_) trivial) fun q hq=>?_
 ·unfold Zgb
  refine I.br (fun _=>I.sk fun v e=>I.br (fun h=>I.sk fun k hk=>I.dn ⟨Sb.refl _,fun hl=>?_⟩) fun _=>I.sk fun _ _=>I.nx trivial) fun _=>I.dn trivial
  have:v=c:=by
   unfold Zn5 at h
   simp only [Bool.and_eq_true,beq_iff_eq,and_true] at h
   obtain ⟨a1,a2,a3,a4,a5⟩:=h
   cases v; cases c; simp_all
  subst this
  obtain ⟨_,h0,hx⟩:=Zb4 e
  have hlt:=(List.getElem?_eq_some_iff.1 hx).1
  dsimp only at hl
  rw [Z5c (n:=t+1) (by omega) (by omega)] at hk
  cases hk
  exact ⟨by dsimp only; omega,by dsimp only; rw [show (t+1).toNat - 1=t.toNat by omega]; exact hx⟩
 ·cases q with
  | inr r=>exact I.ok ⟨hq.1,fun _=>hq.2⟩
  | inl _=>
   refine I.br (fun _=>I.ok ⟨Sb.refl _,fun h=>by cases h⟩) fun hlt=>I.sk fun k hk=>I.sk fun _ _=>I.sk fun _ _=>I.ok ⟨⟨[c],by simp⟩,fun _ hl=>?_⟩
   have:=of_decide_eq_false hlt
   rw [Z5c (n:=(P.length:Int)+1) (by omega) (by omega)] at hk
   cases hk
   exact ⟨by dsimp only; omega,by dsimp only; rw [show ((P.length:Int)+1).toNat - 1=P.length by omega]; simp⟩
theorem Zdl (P:List Z00) (s:List UInt8):Im (Z6f P s) (fun r=>Sb P r.1∧(r.2.2=0→At1 s r.1 r.2.1)):=by
 unfold Z6f
 exact I.bd (Zb0 _ _) fun v h=>I.ok ⟨h.1,fun e hl=>⟨_,(h.2 e hl).1,(h.2 e hl).2,rfl,rfl⟩⟩
theorem i_Add' (P:List Z00) (c:Z00):Im (Z62 P c) (fun r=>Sb P r.1):=I.mono (Zb0 P c) fun _ h=>h.1
theorem i_UTF8' (P:List Z00) (s:List UInt8):Im (Z6f P s) (fun r=>Sb P r.1):=I.mono (Zdl P s) fun _ h=>h.1
theorem Zxm (P:List Z00) (t:Int) (s:List UInt8):Im (Z9w P t s) (fun r=>Sb P r.1):=by
 unfold Z9w
 exact I.bd (Zdl _ _) fun v h=>I.br (fun _=>I.ok (Sb.refl _)) fun _=>I.bd (Zb0 _ _) fun v' h'=>I.br (fun _=>I.ok (Sb.refl _)) fun _=>I.ok (h.1.trans h'.1)
theorem Zra (P:List Z00) (s:List UInt8):Im (Z9b P s) (fun r=>Sb P r.1):=by
 unfold Z9b
 exact I.bd (Zxm _ _ _) fun v h=>I.ok h
theorem Zxr (P:List Z00) (s:List UInt8):Im (Zaa P s) (fun r=>Sb P r.1):=by
 unfold Zaa
 exact I.bd (Zxm _ _ _) fun v h=>I.ok h
theorem Y0z (P:List Z00) (t:Int) (x:Z26):Im (Z8y P t x) (fun r=>Sb P r.1):=by
 unfold Z8y
 exact I.bd (Zra _ _) fun v h=>I.br (fun _=>I.ok (Sb.refl _)) fun _=>I.bd (Zdl _ _) fun v1 h1=>I.br (fun _=>I.ok (Sb.refl _)) fun _=>I.bd (Zdl _ _) fun v2 h2=>I.br (fun _=>I.ok (Sb.refl _)) fun _=>
  I.bd (Zb0 _ _) fun v3 h3=>I.br (fun _=>I.ok (Sb.refl _)) fun _=>I.bd (Zb0 _ _) fun v4 h4=>I.br (fun _=>I.ok (Sb.refl _)) fun _=>I.ok ((((h.trans h1.1).trans h2.1).trans h3.1).trans h4.1)
theorem i_place (P:List Z00) (x:Z01):Im (Zce P x) (fun r=>Sb P r.1):=by
 unfold Zce Zek Zlc Zda Zk0
 repeat' first
  | refine I.br (fun _=>?_) fun _=>?_
  | refine I.bd (Y0z _ _ _) fun _ _=>?_
  | refine I.bd (Zxr _ _) fun _ _=>?_
  | refine I.bd (Zra _ _) fun _ _=>?_
  | refine I.bd (i_UTF8' _ _) fun _ _=>?_
  | refine I.bd (i_Add' _ _) fun _ _=>?_
  | refine I.sk fun _ _=>?_
  | refine I.ok ?_
  | assumption
  | exact Sb.refl _
theorem i_raw (P:List Z00) (x:Z01):Im (Zbe P x) (fun r=>Sb P r.1):=by
 unfold Zbe Zdu Zc1
 repeat' first
  | refine I.br (fun _=>?_) fun _=>?_
  | refine I.bd (i_place _ _) fun _ _=>?_
  | refine I.sk fun _ _=>?_
  | refine I.ok ?_
  | assumption
  | exact Sb.refl _
def Gr (p:Z0j) (P:List Z00) (E:Int):Prop:=(E=0→p.f_E=0)∧Sb p.f_P P
theorem Gr.refl (p:Z0j):Gr p p.f_P p.f_E:=⟨fun h=>h,Sb.refl _⟩
theorem Gr.trans {p:Z0j} {P Q:List Z00} {E F:Int} (h:Gr p P E) (k:Gr { f_P:=P,f_E:=E } Q F):Gr p Q F:=⟨fun e=>h.1 (k.1 e),h.2.trans k.2⟩
theorem Z76 (p:Z0j) (s:List UInt8):Im (Z4u p s) (fun r=>Gr p r.1.f_P r.1.f_E∧(r.1.f_E=0→At1 s r.1.f_P r.2)):=by
 unfold Z4u
 exact I.br (fun h=>I.ok ⟨Gr.refl p,fun e=>absurd e (by simpa using h)⟩) fun h=>I.bd (Zdl _ _) fun v hv=>I.ok ⟨⟨fun _=>by simpa using h,hv.1⟩,hv.2⟩
theorem Zte (p:Z0j) (s:List UInt8):Im (Z75 p s) (fun r=>Gr p r.1.f_P r.1.f_E):=by
 unfold Z75
 exact I.br (fun h=>I.ok (Gr.refl p)) fun h=>I.bd (Zra _ _) fun v hv=>I.ok ⟨fun _=>by simpa using h,hv⟩
theorem i_insn (p:Z0j) (x:Z01):Im (Zck p x) (fun r=>Gr p r.1.f_P r.1.f_E):=by
 unfold Zck
 exact I.br (fun h=>I.ok (Gr.refl p)) fun h=>I.bd (i_raw _ _) fun v hv=>I.ok ⟨fun _=>by simpa using h,hv⟩
theorem i_vts (p:Z0j) (l:List Z0i):Im (Zaf p l) (fun r=>Gr p r.1.f_P r.1.f_E):=by
 unfold Zaf
 refine I.bd (I.lp (fun t=>Gr p t.2.1 t.2.2.1) (Q:=fun q=>Gr p q.1 q.2.1) (fun t ht=>?_) (Gr.refl p)) fun q hq=>I.ok hq
 have h1:t.2.2.1=0→∀ v,Im (Zag t v) (I.Ct (fun t=>Gr p t.2.1 t.2.2.1) fun q=>Gr p q.1 q.2.1):=fun h0 v=>by
  unfold Zag Z6w
  exact I.sk fun _ _=>I.bd (Z76 _ _) fun w hw=>I.sk fun _ _=>I.sk fun _ _=>I.nx ⟨fun _=>ht.1 h0,ht.2.trans hw.1.2⟩
 have h2:∀ v a b c d,Im (Z6w t v t.2.1 t.2.2.1 a b c d) (I.Ct (fun t=>Gr p t.2.1 t.2.2.1) fun q=>Gr p q.1 q.2.1):=fun v a b c d=>by
  unfold Z6w
  exact I.sk fun _ _=>I.sk fun _ _=>I.nx ht
 unfold Ze0
 repeat' first
  | refine I.br (fun _=>?_) fun _=>?_
  | exact h2 _ _ _ _ _
  | exact h1 (by simpa using ‹(t.2.2.1==0)=true›) _
  | exact I.dn ht
  | refine I.sk fun _ _=>?_
theorem i_code (p:Z0j) (c:Z0a) (hc:c.Z0k.length≤140737488355328):Im (Zbm p c) (fun r=>Gr p r.1.f_P r.1.f_E∧r.2.Z0t=c.Z0t∧r.2.Z0k.length=c.Z0k.length∧r.2.Z0x=c.Z0x):=by
 unfold Zbm
 refine I.bd (I.lp (fun t:Int×(List Z00)×Int×(List Z01)=>Gr p t.2.1 t.2.2.1∧0≤t.1∧t.1≤(c.Z0k.length:Int)∧(t.2.2.2.length:Int)=t.1) (Q:=fun q=>Gr p q.1 q.2.1∧q.2.2.length=c.Z0k.length) (fun t ht=>?_) ⟨Gr.refl p,by dsimp only; omega,by dsimp only; omega,rfl⟩) fun q0 h0=>I.bd (I.lp (fun t=>Gr p t.2.1 t.2.2.1) (Q:=fun q=>Gr p q.1 q.2.1) (fun t ht=>?_) h0.1) fun q2 h2=>
  I.bd (I.lp (fun t=>Gr p t.2.1 t.2.2.1) (Q:=fun q=>Gr p q.1 q.2.1) (fun t ht=>?_) h2) fun q4 h4=>I.ok ⟨h4,rfl,h0.2,rfl⟩
 ·unfold Zf2
  refine I.br (fun hlt=>I.sk fun _ _=>I.bd (i_insn _ _) fun v hv=>I.sk fun _ _=>I.sk fun k hk=>?_) fun hge=>I.dn ⟨ht.1,by have:=of_decide_eq_false hge; have:=ht.2; dsimp only; omega⟩
  have:=of_decide_eq_true hlt
  rw [Z5c (n:=t.1+1) (by omega) (by omega)] at hk
  cases hk
  exact I.nx ⟨ht.1.trans hv,by dsimp only; omega,by dsimp only; omega,by have:=ht.2.2.2; simp only [List.length_append,List.length_cons,List.length_nil]; omega⟩
 ·unfold Zg8 Zdi
  exact I.br (fun _=>I.sk fun _ _=>I.br (fun _=>I.bd (Zte _ _) fun v hv=>I.sk fun _ _=>I.sk fun _ _=>I.nx (ht.trans hv)) fun _=>I.sk fun _ _=>I.sk fun _ _=>I.nx ht) fun _=>I.dn ht
 ·unfold Zgd
  exact I.br (fun _=>I.sk fun _ _=>I.sk fun _ _=>I.bd (i_vts _ _) fun v hv=>I.bd (i_vts _ _) fun w hw=>I.sk fun _ _=>I.sk fun _ _=>I.nx ((ht.trans hv).trans hw)) fun _=>I.dn ht
structure MM (m:Z2r) (P:List Z00) (f:Z0f) (c:Z0a) (a:Z1t):Prop where
 fl:f.Z0q=m.Z0q
 ds:At1 m.Z16 P f.Z16
 cd:m.Z9g=true→At1 [67,111,100,101] P a.a0∧c.Z0t=m.Z2b.Z0t∧c.Z0k.length=m.Z2b.Z0k.length∧c.Z0x=m.Z2b.Z0x
theorem MM.mono {m:Z2r} {P Q:List Z00} {f:Z0f} {c:Z0a} {a:Z1t} (h:MM m P f c a) (k:Sb P Q):MM m Q f c a:=⟨h.fl,h.ds.mono k,fun hc=>⟨(h.cd hc).1.mono k,(h.cd hc).2⟩⟩
structure Ms (u:Z0m) (n:Int) (P:List Z00) (E:Int) (fm:List Z0f) (cs:List Z0a) (ns:List Z1t):Prop where
 lenF:(fm.length:Int)=n
 len:(cs.length:Int)=n
 lenN:(ns.length:Int)=n
 ok:E=0→∀ (j:Nat) m,(j:Int)<n→u.Z10[j]?=some m→∃ f c a,fm[j]?=some f∧cs[j]?=some c∧ns[j]?=some a∧MM m P f c a
theorem Ms.grow {u:Z0m} {n:Int} {P Q:List Z00} {E F:Int} {fm cs ns} (h:Ms u n P E fm cs ns) (k:Gr { f_P:=P,f_E:=E } Q F):Ms u n Q F fm cs ns:=
 ⟨h.lenF,h.len,h.lenN,fun e j m hj hm=>by
  obtain ⟨f,c,a,h1,h2,h3,h4⟩:=h.ok (k.1 e) j m hj hm
  exact ⟨f,c,a,h1,h2,h3,h4.mono k.2⟩⟩
abbrev MT:=Int×(List Z00)×Int×(List Z0f)×(List Z0a)×(List (List Int))×(List Z1t)
abbrev MR:=(List Z00)×Int×(List Z0f)×(List Z0a)×(List (List Int))×(List Z1t)
structure MI (p:Z0j) (u:Z0m) (t:MT):Prop where
 g:Gr p t.2.1 t.2.2.1
 m:Ms u t.1 t.2.1 t.2.2.1 t.2.2.2.1 t.2.2.2.2.1 t.2.2.2.2.2.2
 n:t.1≤u.Z10.length
structure MQ (p:Z0j) (u:Z0m) (q:MR):Prop where
 g:Gr p q.1 q.2.1
 m:Ms u u.Z10.length q.1 q.2.1 q.2.2.1 q.2.2.2.1 q.2.2.2.2.2
theorem Ms.nil (u:Z0m) (P:List Z00) (E:Int):Ms u 0 P E [] [] [] :=⟨rfl,rfl,rfl,fun _ j m hj=>by omega⟩
theorem Ms.snoc {u:Z0m} {n:Int} {P:List Z00} {E:Int} {fm cs ns} (h:Ms u n P E fm cs ns) {m:Z2r} {f:Z0f} {c:Z0a} {a:Z1t} (hm:u.Z10[n.toNat]?=some m) (hd:E=0→MM m P f c a):Ms u (n+1) P E (fm++[f]) (cs++[c]) (ns++[a]):=by
 have h1:=h.lenF
 have h2:=h.len
 have h3:=h.lenN
 refine ⟨by simp only [List.length_append,List.length_cons,List.length_nil]; omega,by simp only [List.length_append,List.length_cons,List.length_nil]; omega,by simp only [List.length_append,List.length_cons,List.length_nil]; omega,fun e j m' hj hm'=>?_⟩
 rcases Int.lt_or_le (j:Int) n with h'|h'
 ·obtain ⟨f',c',a',e1,e2,e3,e4⟩:=h.ok e j m' h' hm'
  exact ⟨f',c',a',by rw [List.getElem?_append_left (by omega)]; exact e1,by rw [List.getElem?_append_left (by omega)]; exact e2,by rw [List.getElem?_append_left (by omega)]; exact e3,e4⟩
 ·have:j=n.toNat:=by omega
  subst this
  rw [hm] at hm'; cases hm'
  exact ⟨f,c,a,by rw [List.getElem?_append_right (by omega),show n.toNat - fm.length=0 by omega]; rfl,by rw [List.getElem?_append_right (by omega),show n.toNat - cs.length=0 by omega]; rfl,by rw [List.getElem?_append_right (by omega),show n.toNat - ns.length=0 by omega]; rfl,hd e⟩
def MB (u:Z0m):Prop:=u.Z10.length≤140737488355328∧∀ m∈u.Z10,m.Z2b.Z0k.length≤140737488355328
theorem Zx3 {p:Z0j} {u:Z0m} {t:MT} (hu:u.Z10.length≤140737488355328) (hI:MI p u t) {m:Z2r} (hlt:t.1<u.Z10.length) (hm:u.Z10[t.1.toNat]?=some m) {v35 v36:Z0j×Int}
  (g:Gr { f_P:=t.2.1,f_E:=t.2.2.1 } v36.1.f_P v36.1.f_E) {P:List Z00} {E y:Int} (hg:Gr v36.1 P E) {a b c:Int} {i h s l} (hc:E=0→∀ y,MM m P { Z0q:=m.Z0q,Z0d:=v35.2,Z16:=v36.2,Z1j:=[] } { Z0x:=b,Z0t:=c,Z0k:=i,Z1z:=h,Z1k:=s,Z1u:=l } { a0:=a,a1:=y }):
  Im (Zas a b c i h s l t m v35 v36 P E y) (I.Ct (MI p u) (MQ p u)):=by
 unfold Zas
 refine I.bd (I.lp (fun t=>Gr { f_P:=P,f_E:=E } t.2.1 t.2.2.1) (Q:=fun q=>Gr { f_P:=P,f_E:=E } q.1 q.2.1) (fun t ht=>?_) (Gr.refl _)) fun q hq=>I.sk fun _ _=>I.sk fun _ _=>I.sk fun _ _=>I.sk fun _ _=>?_
 ·unfold Zez
  exact I.br (fun _=>I.sk fun _ _=>I.bd (Zte _ _) fun v hv=>I.sk fun _ _=>I.sk fun _ _=>I.nx (ht.trans hv)) fun _=>I.dn ht
 ·have hl:=hI.m.lenF
  rw [Z5c (n:=t.1+1) (by omega) (by omega)]
  refine I.sk fun k hk=>?_
  cases hk
  have g2:=(g.trans hg).trans hq
  refine I.nx ⟨hI.g.trans g2,(hI.m.grow g2).snoc hm (fun e=>(hc (hq.1 e) y).mono hq.2),by dsimp only; omega⟩
theorem Zvj {p:Z0j} {u:Z0m} {t:MT} (hu:u.Z10.length≤140737488355328) (hI:MI p u t) {m:Z2r} (hlt:t.1<u.Z10.length) (hm:u.Z10[t.1.toNat]?=some m) {v35 v36:Z0j×Int}
  (g:Gr { f_P:=t.2.1,f_E:=t.2.2.1 } v36.1.f_P v36.1.f_E) {P:List Z00} {E:Int} (hg:Gr v36.1 P E) {a b c:Int} {i h s l} (hc:E=0→∀ y,MM m P { Z0q:=m.Z0q,Z0d:=v35.2,Z16:=v36.2,Z1j:=[] } { Z0x:=b,Z0t:=c,Z0k:=i,Z1z:=h,Z1k:=s,Z1u:=l } { a0:=a,a1:=y }):
  Im (Za8 t m v35 v36 P E a b c i h s l) (I.Ct (MI p u) (MQ p u)):=by
 unfold Za8
 exact I.br (fun _=>I.bd (Z76 _ _) fun v hv=>Zx3 hu hI hlt hm g (hg.trans hv.1) fun e y=>(hc (hv.1.1 e) y).mono hv.1.2) fun _=>Zx3 hu hI hlt hm g hg hc
theorem Y1h (p:Z0j) (u:Z0m) (hu:MB u) (x:Z2a):Im (Z8u p u x) (fun r=>Gr p r.1.f_P r.1.f_E∧Ms u u.Z10.length r.1.f_P r.1.f_E r.2.f_F.Z10 r.2.Zan r.2.Z7k):=by
 unfold Z8u
 have h0:MI p u (0,p.f_P,p.f_E,[],[],[],[]):=⟨Gr.refl p,Ms.nil u _ _,by dsimp only; omega⟩
 refine I.bd (I.lp (MI p u) (Q:=MQ p u) (fun t ht=>?_) h0) fun q hq=>I.ok ⟨hq.g,hq.m⟩
 have hn:=ht.n
 have hl:=ht.m.lenF
 unfold Zel
 refine I.br (fun hlt=>I.sk fun m e=>I.bd (Z76 _ _) fun v35 h35=>I.bd (Z76 _ _) fun v36 h36=>?_) fun hge=>I.dn ?_
 ·have hlt':=of_decide_eq_true hlt
  obtain ⟨hin,_,hm⟩:=Zb4 e
  have g2:=h35.1.trans h36.1
  refine I.br (fun hh=>I.bd (Z76 _ _) fun v37 h37=>I.bd (i_code _ _ (hu.2 m hin)) fun v38 h38=>Zvj hu.1 ht hlt' hm g2 (h37.1.trans h38.1) fun E0 y=>⟨rfl,?_,fun _=>⟨?_,h38.2⟩⟩) fun hh=>Zvj hu.1 ht hlt' hm g2 (Gr.refl _) fun E0 y=>⟨rfl,h36.2 E0,fun h=>by rw [hh] at h; cases h⟩
  ·exact (h36.2 ((h37.1.trans h38.1).1 E0)).mono (h37.1.trans h38.1).2
  ·exact (h37.2 (h38.1.1 E0)).mono h38.1.2
 ·have:t.1=u.Z10.length:=by have:=of_decide_eq_false hge; omega
  exact ⟨ht.g,this ▸ ht.m⟩
end Go.Proofs
namespace Go.Proofs
open Go.Den Go.Tot
theorem ne0 {n:Int} (h:(n !=0)=true):n≠0:=by simpa using h
theorem eq0 {n:Int} (h:(n !=0)=false):n=0:=by simpa using h
end Go.Proofs
namespace Go.Proofs
open Go.Den Go.Tot
def Short (P:List Z00):Prop:=∀ c∈P,c.Z1s=1→c.f_S.length≤1024
theorem Y29 (P:List Z00) (c:Z00):Im (Zcd P c) (fun e=>e=0→c.Z1s=1→c.f_S.length≤1024):=by
 unfold Zcd
 refine I.sk fun _ _=>I.br (fun _=>I.ok fun h=>by cases h) fun _=>I.sk fun _ _=>I.br (fun _=>I.ok fun h=>by cases h) fun _=>I.br (fun _=>I.br (fun _=>I.ok fun h=>by cases h) fun h=>fun r _ _ _=>by have:=of_decide_eq_false h; omega) fun h r _ _ h'=>by simp [h'] at h
theorem Y1o (P:List Z00):Im (Z9y P) (fun r=>r.2=0→P.length≤1000∧Short P):=by
 unfold Z9y
 refine I.br (fun _=>I.ok fun h=>by cases h) fun hl=>I.bd (I.lp (fun t=>0≤t∧∀ (j:Nat) c,(j:Int)<t→P[j]?=some c→c.Z1s=1→c.f_S.length≤1024) (Q:=fun q=>match q with|.inl _=>Short P|.inr r=>r.2≠0) (fun t ht=>?_) ⟨by omega,fun j c hj=>by omega⟩) fun q hq=>?_
 ·have hl':=of_decide_eq_false hl
  unfold Zlr
  refine I.br (fun hlt=>I.sk fun c e=>I.bd (Y29 P c) fun v hv=>I.br (fun h=>I.sk fun _ _=>I.dn (ne0 h)) fun h=>?_) fun hge=>I.dn ?_
  ·have hlt':=of_decide_eq_true hlt
   obtain ⟨_,h0,hc⟩:=Zb4 e
   rw [Z5c (n:=t+1) (by omega) (by omega)]
   refine I.sk fun k hk=>?_
   cases hk
   refine I.nx ⟨by omega,fun j c' hj hc'=>?_⟩
   rcases Int.lt_or_le (j:Int) t with h'|h'
   ·exact ht.2 j c' h' hc'
   ·have:j=t.toNat:=by omega
    subst this
    rw [hc] at hc'; cases hc'
    exact hv (eq0 h)
  ·have:=of_decide_eq_false hge
   intro c hc
   obtain ⟨j,hj⟩:=List.getElem?_of_mem hc
   have:j<P.length:=(List.getElem?_eq_some_iff.1 hj).1
   exact ht.2 j c (by omega) hj
 ·cases q with
  | inl _=>exact I.ok fun _=>⟨by have:=of_decide_eq_false hl; omega,hq⟩
  | inr r=>exact I.ok fun h=>absurd h hq
theorem utf_at {P:List Z00} (hP:P.length≤1000) {s:List UInt8} {i:Int} (h:At1 s P i):Z38 P i=some (s,0):=by
 obtain ⟨c,h1,h2,h3,h4⟩:=h hP
 have hlt:=(List.getElem?_eq_some_iff.1 h2).1
 unfold Z38 Z99 Z74
 rw [if_neg (by simp; omega),if_neg (by simp; omega),Z5c (by omega) (by omega)]
 have:Z05 P (i - 1)=some c:=by unfold Z05; rw [if_pos (by omega),show (i - 1).toNat=i.toNat - 1 by omega]; exact h2
 simp only [Option.bind_some,this]
 simp [h3,h4]
end Go.Proofs
namespace Go.Proofs
open Go.Den Go.Tot
theorem i_cls (w:Z0c) (i:Int) {Q:Z0m→Prop} (hw:∀ c∈w.Z0o,Im (Zau c.Z11) fun e=>e=0→Q c.Z11):Im (Zby w i) (fun b=>b=true→∀ c,Z05 w.Z0o i=some c→Q c.Z11):=by
 unfold Zby
 have hf:∀ Q:Prop,Im (some false) (fun b=>b=true→Q):=fun Q=>I.ok fun h=>by cases h
 exact I.sk fun c e=>I.br (fun _=>hf _) fun _=>I.br (fun _=>hf _) fun _=>I.bd (hw c (Zb4 e).1) fun v hv=>I.br (fun _=>hf _) fun h=>fun r _ _ c' hc'=>by
  rw [e] at hc'; cases hc'
  exact hv (eq0 h)
theorem Y0r (w:Z0c) (hl:w.Z0o.length≤140737488355328) {Q:Z0m→Prop} (hw:∀ c∈w.Z0o,Im (Zau c.Z11) fun e=>e=0→Q c.Z11):Im (Z8o w) (fun b=>b=true→∀ c∈w.Z0o,Q c.Z11):=by
 have hf:Im (some false) (fun b=>b=true→∀ c∈w.Z0o,Q c.Z11):=I.ok fun h=>by cases h
 have hj : Im (j9x1 w) (fun b=>b=true→∀ c∈w.Z0o,Q c.Z11):=by
  unfold j9x1
  refine I.bd (I.lp (fun _=>True) (Q:=fun q=>match q with|.inl _=>True|.inr y=>y=false) (fun t _=>?_) trivial) fun q1 h1=>?_
  ·unfold l9x1
   exact I.br (fun _=>I.sk fun _ _=>I.br (fun _=>I.dn rfl) fun _=>I.br (fun _=>I.dn rfl) fun _=>I.br (fun _=>I.dn rfl) fun _=>I.br (fun _=>I.dn rfl) fun _=>I.sk fun _ _=>I.br (fun _=>I.dn rfl) fun _=>I.sk fun _ _=>I.nx trivial) fun _=>I.dn trivial
  cases q1 with
  | inr y=>exact I.ok fun h=>by cases h1.symm.trans h
  | inl _=>
  refine I.bd (I.lp (fun _=>True) (Q:=fun q=>match q with|.inl _=>True|.inr y=>y=false) (fun t _=>?_) trivial) fun q2 h2=>?_
  ·unfold l9x2
   exact I.br (fun _=>I.sk fun _ _=>I.br (fun _=>I.dn rfl) fun _=>I.sk fun _ _=>I.br (fun _=>I.dn rfl) fun _=>I.sk fun _ _=>I.nx trivial) fun _=>I.dn trivial
  cases q2 with
  | inr y=>exact I.ok fun h=>by cases h2.symm.trans h
  | inl _=>
  refine I.bd (I.lp (fun t=>0≤t∧∀ (j:Nat) c,(j:Int)<t→w.Z0o[j]?=some c→Q c.Z11) (Q:=fun q=>match q with|.inl _=>∀ c∈w.Z0o,Q c.Z11|.inr y=>y=false) (fun t ht=>?_) ⟨by omega,fun j c hj=>by omega⟩) fun q3 h3=>?_
  ·unfold l9x3
   refine I.br (fun hlt=>I.bd (i_cls w t hw) fun v hv=>I.br (fun _=>I.dn rfl) fun h=>?_) fun hge=>I.dn ?_
   ·have hlt':=of_decide_eq_true hlt
    rw [Z5c (n:=t+1) (by omega) (by omega)]
    refine I.sk fun k hk=>?_
    cases hk
    refine I.nx ⟨by omega,fun j c hj hc=>?_⟩
    rcases Int.lt_or_le (j:Int) t with h'|h'
    ·exact ht.2 j c h' hc
    ·have:j=t.toNat:=by omega
     subst this
     exact hv (by simpa using h) c (by unfold Z05; rw [if_pos ht.1]; exact hc)
   ·have:=of_decide_eq_false hge
    intro c hc
    obtain ⟨j,hj⟩:=List.getElem?_of_mem hc
    have:j<w.Z0o.length:=(List.getElem?_eq_some_iff.1 hj).1
    exact ht.2 j c (by omega) hj
  cases q3 with
  | inr y=>exact I.ok fun h=>by cases h3.symm.trans h
  | inl _=>exact I.ok fun _=>h3
 unfold Z8o
 exact I.sk fun _ _=>I.br (fun _=>hf) fun _=>I.br (fun _=>hf) fun _=>I.br (fun _=>hf) fun _=>hj
end Go.Proofs
namespace Go.Proofs
open Go.Den Go.Tot
theorem Y12 {n:Int} (h0:0≤n) (h1:n≤1000) {b:List UInt8} (h:Z93 n=some b):Z6y b 0 2=some (n,0):=by
 have key:((List.range 1001).all fun k=>((Z93 (k:Int)).bind fun b=>Z6y b 0 2)==some ((k:Int),0))=true:=by kernel_rfl
 have:=List.all_eq_true.1 key n.toNat (by rw [List.mem_range]; omega)
 rw [Int.toNat_of_nonneg h0,h] at this
 simpa using this
def AtC (f:Z1d) (P:List Z00) (i:Int):Prop:=P.length≤1000→1≤i∧i≤1000∧∃ c,P[i.toNat - 1]?=some c∧c.Z1s=f.Z2e
theorem AtC.mono {f:Z1d} {P Q:List Z00} {i:Int} (h:AtC f P i) (k:Sb P Q):AtC f Q i:=fun hq=>by
 obtain ⟨r,rfl⟩:=k
 obtain ⟨h1,h2,c,h3,h4⟩:=h (by rw [List.length_append] at hq; omega)
 exact ⟨h1,h2,c,by rw [List.getElem?_append_left (List.getElem?_eq_some_iff.1 h3).1]; exact h3,h4⟩
theorem Y20 (p:Z0j) (f:Z1d):Im (Zcf p f) (fun r=>Gr p r.1.f_P r.1.f_E∧(r.1.f_E=0→f.Z2e≠8→AtC f r.1.f_P r.2)):=by
 unfold Zcf Zfn
 refine I.br (fun h=>I.ok ⟨Gr.refl p,fun e=>absurd e (by simpa using h)⟩) fun h=>I.br (fun h8=>I.bd (Zxr _ _) fun v hv=>I.ok ⟨⟨fun _=>by simpa using h,hv⟩,fun _ hne=>absurd (by simpa using h8) hne⟩) fun _=>I.bd (Zb0 _ _) fun v hv=>I.ok ⟨⟨fun _=>by simpa using h,hv.1⟩,fun e _ hl=>?_⟩
 obtain ⟨h1,h2⟩:=hv.2 e hl
 have hlt:=(List.getElem?_eq_some_iff.1 h2).1
 dsimp only at hl ⊢
 exact ⟨h1,by omega,_,h2,rfl⟩
structure FM (f:Z1d) (P:List Z00) (g:Z0f):Prop where
 ds:At1 f.Z16 P g.Z16
 ct:f.Z2e≠0→f.Z2e≠8→∃ x i,g.Z1j=[x]∧Z93 i=some x.Z2h∧AtC f P i
theorem FM.mono {f:Z1d} {P Q:List Z00} {g:Z0f} (h:FM f P g) (k:Sb P Q):FM f Q g:=⟨h.ds.mono k,fun a b=>by
 obtain ⟨x,i,h1,h2,h3⟩:=h.ct a b
 exact ⟨x,i,h1,h2,h3.mono k⟩⟩
structure Fs (u:Z0m) (n:Int) (P:List Z00) (E:Int) (fm:List Z0f):Prop where
 len:(fm.length:Int)=n
 ok:E=0→∀ (j:Nat) f,(j:Int)<n→u.Z0g[j]?=some f→∃ g,fm[j]?=some g∧FM f P g
theorem Fs.grow {u:Z0m} {n:Int} {P Q:List Z00} {E F:Int} {fm} (h:Fs u n P E fm) (k:Gr { f_P:=P,f_E:=E } Q F):Fs u n Q F fm:=
 ⟨h.len,fun e j f hj hf=>by
  obtain ⟨g,h1,h2⟩:=h.ok (k.1 e) j f hj hf
  exact ⟨g,h1,h2.mono k.2⟩⟩
theorem Fs.snoc {u:Z0m} {n:Int} {P:List Z00} {E:Int} {fm} (h:Fs u n P E fm) (h0:0≤n) {f:Z1d} {g:Z0f} (hf:u.Z0g[n.toNat]?=some f) (hd:E=0→FM f P g):Fs u (n+1) P E (fm++[g]):=by
 have h1:=h.len
 refine ⟨by simp only [List.length_append,List.length_cons,List.length_nil]; omega,fun e j f' hj hf'=>?_⟩
 rcases Int.lt_or_le (j:Int) n with h'|h'
 ·obtain ⟨g',e1,e2⟩:=h.ok e j f' h' hf'
  exact ⟨g',by rw [List.getElem?_append_left (by omega)]; exact e1,e2⟩
 ·have:j=n.toNat:=by omega
  subst this
  rw [hf] at hf'; cases hf'
  exact ⟨g,by rw [List.getElem?_append_right (by omega),show n.toNat - fm.length=0 by omega]; rfl,hd e⟩
theorem i_halfF (p:Z0j) (u:Z0m) (hu:MB u) (hF:u.Z0g.length≤140737488355328):Im (Zc2 p u) (fun r=>Fs u u.Z0g.length r.1.f_P r.1.f_E r.2.f_F.Z0g∧r.2.f_F.Z20=r.1.f_P):=by
 have hmf:∀ p x,Im (Z8u p u x) (fun r=>Gr p r.1.f_P r.1.f_E∧r.2.f_F.Z0g=x.f_F.Z0g):=fun p x=>by
  have:=Y1h p u hu x
  intro r hr
  refine ⟨(this r hr).1,?_⟩
  unfold Z8u at hr
  obtain ⟨q,_,e⟩:=Option.bind_eq_some_iff.1 hr
  cases e
  rfl
 have hj : ∀ v a b c,Im (Za7 v u a b c) (fun r=>Fs u u.Z0g.length r.1.f_P r.1.f_E r.2.f_F.Z0g∧r.2.f_F.Z20=r.1.f_P):=fun v a b c=>by
  unfold Za7 Zb5
  refine I.sk fun q0 _=>I.bd (I.lp (fun t:Int×(List Z00)×Int×(List Z0f)=>0≤t.1∧t.1≤(u.Z0g.length:Int)∧Fs u t.1 t.2.1 t.2.2.1 t.2.2.2) (Q:=fun q=>Fs u u.Z0g.length q.1 q.2.1 q.2.2) (fun t ht=>?_) ⟨by dsimp only; omega,by dsimp only; omega,rfl,fun _ j f hj=>by dsimp only at hj; omega⟩) fun q2 h2=>I.bd (hmf _ _) fun w hw=>?_
  ·obtain ⟨t0,t1,tf⟩:=ht
   unfold Zdz
   refine I.br (fun hlt=>I.sk fun f e=>I.bd (Z76 _ _) fun v27 h27=>I.bd (Z76 _ _) fun v28 h28=>?_) fun hge=>I.dn ?_
   ·have hlt':=of_decide_eq_true hlt
    obtain ⟨_,_,hf⟩:=Zb4 e
    have g2:=h27.1.trans h28.1
    have nxt:∀ P E (l:List Z19),Gr v28.1 P E→(E=0→FM f P { Z0q:=f.Z0q,Z0d:=v27.2,Z16:=v28.2,Z1j:=l })→Im (Z9m t f v27 v28 P E l) (I.Ct (fun t:Int×(List Z00)×Int×(List Z0f)=>0≤t.1∧t.1≤(u.Z0g.length:Int)∧Fs u t.1 t.2.1 t.2.2.1 t.2.2.2) fun q=>Fs u u.Z0g.length q.1 q.2.1 q.2.2):=fun P E l hg hd=>by
     unfold Z9m
     refine I.sk fun _ _=>I.sk fun k hk=>?_
     rw [Z5c (n:=t.1+1) (by omega) (by omega)] at hk
     cases hk
     exact I.nx ⟨by dsimp only; omega,by dsimp only; omega,(tf.grow (g2.trans hg)).snoc t0 hf hd⟩
    refine I.br (fun _=>I.bd (Z76 _ _) fun v29 h29=>I.bd (Y20 _ _) fun v30 h30=>I.sk fun v31 e31=>nxt _ _ _ (h29.1.trans h30.1) fun E0=>⟨(h28.2 ((h29.1.trans h30.1).1 E0)).mono (h29.1.trans h30.1).2,fun _ h8=>⟨_,v30.2,rfl,e31,h30.2 E0 h8⟩⟩) fun hc=>nxt _ _ [] (Gr.refl _) fun E0=>⟨h28.2 E0,fun h=>absurd (by simpa using hc) h⟩
   ·have:t.1=u.Z0g.length:=by have:=of_decide_eq_false hge; omega
    exact this ▸ tf
  ·have hw2:Fs u u.Z0g.length w.1.f_P w.1.f_E w.2.f_F.Z0g:=by
    rw [hw.2]
    exact h2.grow hw.1
   exact I.br (fun _=>I.bd (Z76 _ _) fun x hx=>I.bd (Z76 _ _) fun y hy=>I.sk fun _ _=>I.ok ⟨(hw2.grow hx.1).grow hy.1,rfl⟩) fun _=>I.ok ⟨hw2,rfl⟩
 unfold Zc2
 exact I.sk fun _ _=>I.br (fun _=>I.sk fun _ _=>hj _ _ _ _) fun _=>hj _ _ _ _
theorem i_suits (P:List Z00) (i:Int) (d:List UInt8):Im (Zd0 P i d) (fun b=>b=true→∀ c,1≤i→i≤1000→P[i.toNat - 1]?=some c→(c.Z1s=3→d=[73])∧(c.Z1s=5→d=[74])):=by
 unfold Zd0
 refine I.sk fun v0 e0=>I.br (fun _=>I.ok fun h=>by cases h) fun hz=>?_
 have hat:∀ c,1≤i→i≤1000→P[i.toNat - 1]?=some c→v0.1=c:=fun c h1 h2 hc=>by
  have hlt:=(List.getElem?_eq_some_iff.1 hc).1
  unfold Z74 at e0
  rw [if_neg (by simp; omega),if_neg (by simp; omega),Z5c (by omega) (by omega)] at e0
  have:Z05 P (i - 1)=some c:=by unfold Z05; rw [if_pos (by omega),show (i - 1).toNat=i.toNat - 1 by omega]; exact hc
  simp only [Option.bind_some,this] at e0
  cases e0
  rfl
 intro r hr hrt c h1 h2 hc
 have hv:=hat c h1 h2 hc
 subst hrt
 rw [hv] at hr
 refine ⟨fun h3=>?_,fun h5=>?_⟩
 ·rw [h3] at hr
  by_cases hd:d=[73]
  ·exact hd
  ·exfalso
   have:(d==([73]:List UInt8))=false:=by simpa using hd
   simp [this] at hr
 ·rw [h5] at hr
  by_cases hd:d=[74]
  ·exact hd
  ·exfalso
   have:(d==([74]:List UInt8))=false:=by simpa using hd
   simp [this] at hr
theorem Y32 {P:List Z00} {g:Z0f} {d:List UInt8} {x:Z19} {i:Int} (hg:g.Z1j=[x]) (hi:Z93 i=some x.Z2h) (h1:1≤i) (h2:i≤1000) {c:Z00} (hc:P[i.toNat - 1]?=some c):Im (Z87 P g d) (fun b=>b=true→(c.Z1s=3→d=[73])∧(c.Z1s=5→d=[74])):=by
 unfold Z87 Zir
 rw [hg]
 refine I.br (fun h=>by cases h) fun _=>I.sk fun v0 e0=>I.br (fun _=>I.ok fun h=>by cases h) fun _=>I.sk fun _ _=>I.br (fun _=>I.ok fun h=>by cases h) fun _=>I.sk fun _ _=>I.br (fun _=>I.ok fun h=>by cases h) fun _=>I.br (fun _=>I.ok fun h=>by cases h) fun _=>I.sk fun v3 e3=>I.bd (i_suits _ _ _) fun b hb=>I.ok fun hbt=>?_
 have:v0=x:=by
  have:=(Zb4 e0).2.2
  simpa using this.symm
 subst this
 rw [Y12 (by omega) h2 hi] at e3
 cases e3
 exact hb hbt c h1 h2 hc
theorem i_field (f:Z13) (j:Int):Im (Z82 f j) (fun e=>e=0→∀ g,Z05 f.Z0g j=some g→∃ s k t,Z38 f.Z20 g.Z16=some (s,k)∧Z5r s=some (t,0)∧t.Z1b≠86∧Z87 f.Z20 g s=some true):=by
 unfold Z82
 refine I.sk fun v0 e0=>I.sk fun _ _=>I.br (fun _=>I.ok fun h=>by cases h) fun _=>I.sk fun _ _=>I.br (fun _=>I.ok fun h=>by cases h) fun _=>I.sk fun _ _=>I.br (fun _=>I.ok fun h=>by cases h) fun _=>?_
 unfold Zic
 refine I.sk fun v4 e4=>I.br (fun _=>I.ok fun h=>by cases h) fun _=>I.sk fun v5 e5=>I.br (fun _=>I.ok fun h=>by cases h) fun hz=>I.br (fun _=>I.ok fun h=>by cases h) fun hb=>?_
 have j3:∀ p,Im (Zah v0 v4 f j p) (fun e=>e=0→Z87 f.Z20 v0 v4.1=some true):=fun p=>by
  unfold Zah
  refine I.sk fun _ _=>I.br (fun _=>I.ok fun h=>by cases h) fun _=>I.sk fun _ _=>I.br (fun _=>I.ok fun h=>by cases h) fun _=>I.sk fun v9 e9=>I.br (fun _=>I.ok fun h=>by cases h) fun h9=>I.ok fun _=>?_
  rw [e9]
  simpa using h9
 have j2:Im (Ze3 v0 v4 f j) (fun e=>e=0→Z87 f.Z20 v0 v4.1=some true):=by
  unfold Ze3
  exact I.sk fun _ _=>I.br (fun _=>j3 _) fun _=>j3 _
 refine I.mono j2 fun e he h0 g hg=>?_
 rw [e0] at hg
 cases hg
 exact ⟨v4.1,v4.2,v5.1,e4,by rw [e5]; obtain ⟨a,b⟩:=v5; have:b=0:=eq0 hz; subst this; rfl,by simpa using hb,he h0⟩
theorem Y1n (f:Z13) (hf:f.Z0g.length≤140737488355328):Im (Zbt f) (fun r=>r.2=0→f.Z20.length≤1000∧Short f.Z20∧∀ j:Int,0≤j→j<f.Z0g.length→Z82 f j=some 0):=by
 unfold Zbt
 refine I.bd (Y1o _) fun v hv=>I.br (fun h=>I.ok fun e=>absurd e (ne0 h)) fun h=>I.sk fun _ _=>I.br (fun h=>I.ok fun e=>absurd e (ne0 h)) fun _=>I.bd (I.lp (fun _=>True) (Q:=fun q=>match q with|.inl _=>True|.inr y=>y.2≠0) (fun t _=>?_) trivial) fun q1 h1=>?_
 ·unfold Zlm
  exact I.br (fun _=>I.sk fun _ _=>I.br (fun h=>I.sk fun _ _=>I.dn (ne0 h)) fun _=>I.sk fun _ _=>I.nx trivial) fun _=>I.dn trivial
 cases q1 with
 | inr y=>exact I.ok fun e=>absurd e h1
 | inl _=>
 refine I.bd (I.lp (fun t:Int=>0≤t∧∀ j:Int,0≤j→j<t→Z82 f j=some 0) (Q:=fun q=>match q with|.inl _=>∀ j:Int,0≤j→j<f.Z0g.length→Z82 f j=some 0|.inr y=>y.2≠0) (fun t ht=>?_) ⟨by omega,fun j h h'=>by omega⟩) fun q3 h3=>?_
 ·unfold Zlb
  refine I.br (fun hlt=>I.sk fun v14 e14=>I.br (fun h=>I.sk fun _ _=>I.dn (ne0 h)) fun hz=>I.sk fun k hk=>?_) fun hge=>I.dn fun j h h'=>ht.2 j h (by have:=of_decide_eq_false hge; omega)
  have:=of_decide_eq_true hlt
  rw [Z5c (by omega) (by omega)] at hk
  cases hk
  refine I.nx ⟨by omega,fun j h h'=>?_⟩
  rcases Int.lt_or_le j t with h2|h2
  ·exact ht.2 j h h2
  ·rw [show j=t by omega,e14,eq0 hz]
 cases q3 with
 | inr y=>exact I.ok fun e=>absurd e h3
 | inl _=>
 refine I.bd (I.lp (fun _=>True) (Q:=fun q=>match q with|.inl _=>True|.inr y=>y.2≠0) (fun t _=>?_) trivial) fun q5 h5=>?_
 ·unfold Zi3
  exact I.br (fun _=>I.sk fun _ _=>I.br (fun h=>I.sk fun _ _=>I.dn (ne0 h)) fun _=>I.sk fun _ _=>I.nx trivial) fun _=>I.dn trivial
 cases q5 with
 | inr y=>exact I.ok fun e=>absurd e h5
 | inl _=>exact I.sk fun _ _=>I.br (fun _=>I.ok fun h=>by cases h) fun _=>I.ok fun _=>⟨(hv (eq0 h)).1,(hv (eq0 h)).2,h3⟩
def FOk (u:Z0m):Prop:=∀ f∈u.Z0g,f.Z16.length≤1024∧∃ t,Z5r f.Z16=some (t,0)∧t.Z1b≠86∧(f.Z2e=3→f.Z16=[73])∧(f.Z2e=5→f.Z16=[74])
theorem Y2d (u:Z0m) (hu:MB u) (hF:u.Z0g.length≤140737488355328):Im (Zcg u) (fun r=>r.2=0→FOk u):=by
 unfold Zcg
 refine I.sk fun _ _=>I.br (fun _=>I.ok fun h=>by cases h) fun _=>I.bd (i_halfF _ u hu hF) fun v hv=>I.br (fun h=>I.ok fun e=>absurd e (ne0 h)) fun hE=>?_
 have hE':=eq0 hE
 obtain ⟨hM,hP⟩:=hv
 have hL:(v.2.f_F.Z0g.length:Int)=u.Z0g.length:=hM.len
 refine I.bd (I.lp (fun _=>True) (Q:=fun q=>match q with|.inl _=>True|.inr y=>y.2≠0) (fun t _=>?_) trivial) fun q1 h1=>?_
 ·have j1:∀ s x,Im (Zaq t s x) (I.Ct (fun _=>True) fun q=>match q with|.inl _=>True|.inr y=>y.2≠0):=fun s x=>by
   unfold Zaq
   exact I.br (fun h=>I.dn (ne0 h)) fun _=>I.sk fun _ _=>I.sk fun _ _=>I.nx trivial
  unfold Zlf
  exact I.br (fun _=>I.sk fun _ _=>I.br (fun _=>I.sk fun _ _=>I.sk fun _ _=>j1 _ _) fun _=>j1 _ _) fun _=>I.dn trivial
 cases q1 with
 | inr y=>exact I.ok fun e=>absurd e h1
 | inl q0=>
 refine I.bd (I.lp (fun _=>True) (Q:=fun q=>match q with|.inl _=>True|.inr y=>y.2≠0) (fun t _=>?_) trivial) fun q3 h3=>?_
 ·have j3:∀ p,Im (Zar t v p) (I.Ct (fun _=>True) fun q=>match q with|.inl _=>True|.inr y=>y.2≠0):=fun p=>by
   unfold Zar
   exact I.sk fun _ _=>I.sk fun _ _=>I.sk fun _ _=>I.nx trivial
  have j2:∀ p,Im (Zap t v p) (I.Ct (fun _=>True) fun q=>match q with|.inl _=>True|.inr y=>y.2≠0):=fun p=>by
   unfold Zap
   exact I.sk fun _ _=>I.br (fun _=>I.sk fun _ _=>I.sk fun _ _=>I.br (fun h=>I.dn (ne0 h)) fun _=>I.sk fun _ _=>I.sk fun _ _=>j3 _) fun _=>j3 _
  unfold Zif
  exact I.br (fun _=>I.sk fun _ _=>I.br (fun _=>I.sk fun _ _=>I.sk fun _ _=>I.sk fun _ _=>I.sk fun _ _=>j2 _) fun _=>j2 _) fun _=>I.dn trivial
 cases q3 with
 | inr y=>exact I.ok fun e=>absurd e h3
 | inl q2=>
 refine I.bd (Y1n _ (by dsimp only; omega)) fun w hw=>I.br (fun h=>I.ok fun e=>absurd e (ne0 h)) fun h=>I.ok fun _ f hf=>?_
 obtain ⟨p1,p2,p3⟩:=hw (eq0 h)
 dsimp only at p1 p2 p3
 rw [hP] at p1 p2
 obtain ⟨j,hj⟩:=List.getElem?_of_mem hf
 have hlt:j<u.Z0g.length:=(List.getElem?_eq_some_iff.1 hj).1
 obtain ⟨g,g1,g2⟩:=hM.ok hE' j f (by omega) hj
 have hg:Z05 v.2.f_F.Z0g (j:Int)=some g:=by unfold Z05; rw [if_pos (by omega),Int.toNat_natCast]; exact g1
 obtain ⟨s,k,t,s1,s2,s3,s4⟩:=i_field _ (j:Int) 0 (p3 (j:Int) (by omega) (by omega)) rfl g hg
 dsimp only at s1 s4
 rw [hP] at s1 s4
 rw [utf_at p1 g2.ds] at s1
 cases s1
 have hcc:∀ n:Int,n≠0→n≠8→f.Z2e=n→(n=3→f.Z16=[73])∧(n=5→f.Z16=[74]):=fun n n0 n8 hn=>by
  obtain ⟨x,i,x1,x2,x3⟩:=g2.ct (by omega) (by omega)
  obtain ⟨i1,i2,c,i3,i4⟩:=x3 p1
  have:=Y32 x1 x2 i1 i2 i3 true s4 rfl
  rw [i4,hn] at this
  exact this
 obtain ⟨k',k1',k2',k3',k4'⟩:=g2.ds p1
 exact ⟨by rw [← k4']; exact p2 k' (List.mem_of_getElem? k2') k3',t,s2,s3,fun h3=>(hcc 3 (by decide) (by decide) h3).1 rfl,fun h5=>(hcc 5 (by decide) (by decide) h5).2 rfl⟩
theorem Y28 (u:Z0m) (hu:MB u) (hF:u.Z0g.length≤140737488355328):Im (Zau u) (fun e=>e=0→FOk u):=by
 unfold Zau
 exact I.bd (Y2d u hu hF) fun v hv=>I.ok hv
theorem Y3u {w:Z0c} (h:Z57 w) (v:Z8o w=some true):∀ c∈w.Z0o,FOk c.Z11:=
 Y0r (Q:=FOk) _ h.clsL (fun c hc=>Y28 _ ⟨by have:=(h.cls c hc).1.metL; omega,fun x hx=>by have:=(((h.cls c hc).1.met x hx).code.insL); omega⟩ (by have:=(h.cls c hc).1.fldL; omega)) true v rfl
end Go.Proofs
namespace Go.Proofs
open Go.Den Go.Tot
def Z5t (w:Z0c) (c:Int):List FS:=Z55 w 300 c
theorem Y0p {w:Z0c} {c:Int} (h: ¬(0≤c∧c<w.Z0o.length)):Z5t w c=[] :=Zr9 (Z7f h)
theorem Zsj {w:Z0c} (hv:Z3x w) (c:Int):(Z5t w c).length≤12800:=by
 have hf:=hv.few
 by_cases h:0≤c∧c<w.Z0o.length
 ·have:=(Zv2 w hv 300 c (by omega) (by omega) (by omega)).2 h.1
  unfold Z5t; omega
 ·rw [Y0p h]; simp
theorem Zm9 {w:Z0c} (hv:Z3x w) (c:Int) (s:Bool):(Z3j w c s).length≤64:=by
 by_cases h:0≤c∧c<w.Z0o.length
 ·exact (Zok w hv c s h.1 h.2).2
 ·unfold Z3j; rw [Z7f h]; simp
theorem Zu0 {w:Z0c} (hv:Z3x w) (c:Int) (s:Bool) (h:0≤c∧c<w.Z0o.length):Zgf w c s=some (Z3j w c s):=(show Zgf w c s=Zj1 w c s from rfl).trans (Zok w hv c s h.1 h.2).1
theorem Zy1 {w:Z0c} (hv:Z3x w) (c:Int):Z9q w c=some (Z3j w c true):=by
 unfold Z9q j14x1
 by_cases h:0≤c∧c<w.Z0o.length
 ·rw [if_neg (by simpa using h.1),if_neg (by simpa using h.2),Zu0 hv c true h]; rfl
 ·unfold Z3j; rw [Z7f h]
  by_cases h1:c<0
  ·rw [if_pos (decide_eq_true h1)]
  ·rw [if_neg (by simpa using h1),if_pos (decide_eq_true (by omega))]
theorem Zs3 {w:Z0c} (hv:Z3x w):∀ l:List Int,(∀ c∈l,0≤c∧c<w.Z0o.length)→ovs w l=some ((l.map fun c=>Z3j w c false).flatten)
 | [],_=>rfl
 | c::l,h=>by
  unfold ovs ov
  have hl:=Zm9 hv c false
  rw [Zu0 hv c false (h c (by simp)),Zs3 hv l fun x hx=>h x (by simp [hx])]
  simp only [Option.bind_some]
  rw [if_pos (by omega)]
  rfl
theorem Zwo {w:Z0c} (hv:Z3x w) (c:Int):Z95 w c=some (Z5t w c):=by
 unfold Z95
 have hl:=Y63 hv c
 rw [Y61 hv]
 simp only [Option.bind_some]
 rw [if_pos (by omega),Zs3 hv (Z6q w c).reverse fun x hx=>(Zt0 hv 300 c x (List.mem_reverse.1 hx)).2]
 rfl
theorem Y5p {t:Z0h} (hv:Z51 t=true):Zix t=Z9r t∧∃ k,Z9r t=some k:=by
 obtain ⟨_,_,hc,hl⟩:=Zf1 hv
 unfold Zix Z9r
 rw [Ztn t (by omega),Zr4 t (by omega),hv]
 simp only [Option.bind_some,Bool.not_true,Bool.false_eq_true,if_false]
 unfold j41x1 Zlg j41x2 j43x2
 rcases hc with ⟨h1,_⟩|⟨h1,_⟩|⟨h1,_⟩|⟨h1,_⟩
 ·rw [h1]; constructor
  ·repeat' (first|rfl|split)
  ·repeat' (first|exact ⟨_,rfl⟩|split)
 ·rw [h1]; constructor
  ·repeat' (first|rfl|split)
  ·repeat' (first|exact ⟨_,rfl⟩|split)
 ·rw [h1]; constructor
  ·repeat' (first|rfl|split)
  ·repeat' (first|exact ⟨_,rfl⟩|split)
 ·rw [h1]; constructor
  ·repeat' (first|rfl|split)
  ·repeat' (first|exact ⟨_,rfl⟩|split)
theorem Zzu {s:List UInt8} (h:(Z70 s).2=0):Z51 (Z70 s).1=true∧s=fmt (Z70 s).1:=by
 unfold Z70 at h ⊢
 split
 ·rename_i t e
  obtain ⟨h1,h2,_⟩:=Zxg e
  exact ⟨h1,by simpa using h2⟩
 ·rename_i hn
  split at h
  ·rename_i t e; exact absurd e (hn t)
  ·cases h
def Z64 (s:List UInt8):Z1i:=(Zcc s).getD { Z22:=0,f_N:=0 }
theorem Ztr (s:List UInt8) (hl:(s.length:Int)≤140737488355328):Zcc s=some (Z64 s)∧Zad s=some (Z64 s):=by
 have h:Zad s=Zcc s∧∃ v,Zcc s=some v:=by
  unfold Zad Zcc
  rw [Y17 s hl,Zyf s hl]
  simp only [Option.bind_some]
  by_cases h:(Z70 s).2=0
  ·rw [if_neg (by simpa using h),if_neg (by simpa using h)]
   obtain ⟨e,k,hk⟩:=Y5p (Zzu h).1
   rw [e,hk]
   exact ⟨rfl,_,rfl⟩
  ·rw [if_pos (by simpa using h),if_pos (by simpa using h)]
   exact ⟨rfl,_,rfl⟩
 obtain ⟨e,v,hv⟩:=h
 have hz:Z64 s=v:=by unfold Z64; rw [hv]; rfl
 exact ⟨by rw [hz,hv],by rw [e,hz,hv]⟩
def fieldAt (w:Z0c) (c i:Int):Option Z1d:=(Z05 w.Z0o c).bind fun v=>Z05 v.Z11.Z0g i
def Z9e (w:Z0c) (x:FS):Z1i:=match fieldAt w x.Z0w x.Z1h with
 | some f=>Z64 f.Z16
 | none=>{ Z22:=0,f_N:=0 }
def Z8c (w:Z0c) (x:FS):Z1i:=match fieldAt w x.Z0w x.Z1h with
 | some f=>if f.Z2e=3 then { Z22:=1,f_N:=f.f_N } else if f.Z2e=5 then { Z22:=2,f_N:=f.f_N } else Z64 f.Z16
 | none=>{ Z22:=0,f_N:=0 }
theorem Zvs {l:List FS} (hl:l.length≤100000) (g:FS→Z1i) {f:Int×List Z1i→Option (Ctl (Int×List Z1i) (List Z1i))}
  (h1:∀ (t:Int) acc x,0≤t→t<l.length→x∈l→Z05 l t=some x→Z1q 16 (acc++[g x]).length=some ()→IntKind.wrap .i64 (t+1)=t+1→f (t,acc)=some (.next (t+1,acc++[g x]))) (h2:∀ (t:Int) acc,¬t<l.length→f (t,acc)=some (.done acc)):
  Z06 f Z08 (0,[])=some (l.map g):=by
 have:Ok (Z06 f Z08 (0,[])) (fun r=>r=l.map g):=by
  refine lp (fun t=>t.1) l.length (fun t=>t.2=(l.take t.1.toNat).map g) (fun t hI g0 g1=>?_) (by omega) (by simp) (by omega) (by dsimp only; omega)
  obtain ⟨i,acc⟩:=t
  dsimp only at hI g0 g1
  have hlen:acc.length=i.toNat:=by rw [hI,List.length_map,List.length_take]; omega
  rcases Int.lt_or_le i l.length with hlt|hge
  ·obtain ⟨x,e,hm,hx⟩:=gri (l:=l) g0 hlt
   rw [h1 i acc x g0 hlt hm e (Zig (by simp only [List.length_append,List.length_cons,List.length_nil]; omega) (by simp only [List.length_append,List.length_cons,List.length_nil]; omega)) (Z5c (by omega) (by omega))]
   refine nx ?_
   dsimp only
   rw [hI,show (i+1).toNat=i.toNat+1 by omega,List.take_add_one,hx]
   simp
  ·rw [h2 i acc (by omega)]
   refine dn ?_
   rw [hI,List.take_of_length_le (by omega)]
 obtain ⟨r,e,rfl⟩:=this
 exact e
theorem Zne {w:Z0c} {c:Int} {st:Bool} {x:FS} (h:x∈Z3j w c st):∃ v f,Z05 w.Z0o x.Z0w=some v∧Z05 v.Z11.Z0g x.Z1h=some f∧x.Z0w=c∧(isSt f==st)=true:=by
 obtain ⟨h1,v,f,e1,e2,e3⟩:=Zy6.1 h
 exact ⟨v,f,by rw [h1]; exact e1,e2,h1,e3⟩
theorem Ztt {w:Z0c} {c:Int} {x:FS} (h:x∈Z5t w c):∃ v f,Z05 w.Z0o x.Z0w=some v∧Z05 v.Z11.Z0g x.Z1h=some f∧isSt f=false:=by
 obtain ⟨v,f,e1,e2,_,e3⟩:=Zne (Y3n.1 h).2
 exact ⟨v,f,e1,e2,by simpa using e3⟩
theorem Zh7 {α:Type} {l:List α} {i:Int} {x:α} (h:Z05 l i=some x):x∈l:=by
 unfold Z05 at h
 split at h
 ·exact List.mem_of_getElem? h
 ·cases h
structure Good (w:Z0c):Prop where
 v:Z3x w
 f:∀ c∈w.Z0o,FOk c.Z11
theorem Y00 {w:Z0c} (hw:Good w) {c i:Int} {v:Z1v} {f:Z1d} (e1:Z05 w.Z0o c=some v) (e2:Z05 v.Z11.Z0g i=some f):(f.Z16.length:Int)≤140737488355328:=by
 have:=(hw.f v (Zh7 e1) f (Zh7 e2)).1
 omega
theorem Y1z {w:Z0c} (hw:Good w) (c:Int):Zei w c=some ((Z5t w c).map (Z9e w)):=by
 unfold Zei
 rw [Zwo hw.v]
 simp only [Option.bind_some]
 rw [Zvs (l:=Z5t w c) (by have:=Zsj hw.v c; omega) (Z9e w) (fun t acc x _ h1 hx e hg hk=>?_) (fun t acc h=>?_)]
 ·rfl
 ·obtain ⟨v,f,e1,e2,_⟩:=Ztt hx
  have hz:Z9e w x=Z64 f.Z16:=by unfold Z9e fieldAt; rw [e1]; simp only [Option.bind_some]; rw [e2]
  rw [hz] at hg ⊢
  unfold Zkb Zfu
  dsimp only
  rw [if_pos (decide_eq_true h1),e]
  simp only [Option.bind_some,e1,e2,(Ztr _ (Y00 hw e1 e2)).2,hg,hk]
 ·unfold Zkb
  rw [if_neg (by simpa using h)]
theorem Y3h {w:Z0c} (hw:Good w) (c:Int):Zey w c=some ((Z3j w c true).map (Z8c w)):=by
 unfold Zey
 rw [Zy1 hw.v]
 simp only [Option.bind_some]
 rw [Zvs (l:=Z3j w c true) (by have:=Zm9 hw.v c true; omega) (Z8c w) (fun t acc x _ h1 hx e hg hk=>?_) (fun t acc h=>?_)]
 ·rfl
 ·obtain ⟨v,f,e1,e2,_⟩:=Zne hx
  have hz:Z8c w x=if f.Z2e=3 then { Z22:=1,f_N:=f.f_N } else if f.Z2e=5 then { Z22:=2,f_N:=f.f_N } else Z64 f.Z16:=by unfold Z8c fieldAt; rw [e1]; simp only [Option.bind_some]; rw [e2]
  rw [hz] at hg ⊢
  unfold Zl0 Zfu Zgg
  dsimp only
  rw [if_pos (decide_eq_true h1),e]
  simp only [Option.bind_some,e1,e2,(Ztr _ (Y00 hw e1 e2)).2]
  by_cases c3:f.Z2e=3
  ·rw [if_pos c3] at hg ⊢
   rw [if_pos (by simpa using c3)]
   simp only [hg,hk,Option.bind_some]
  ·rw [if_neg c3] at hg ⊢
   rw [if_neg (by simpa using c3)]
   by_cases c5:f.Z2e=5
   ·rw [if_pos c5] at hg ⊢
    rw [if_pos (by simpa using c5)]
    simp only [hg,hk,Option.bind_some]
   ·rw [if_neg c5] at hg ⊢
    rw [if_neg (by simpa using c5)]
    simp only [hg,hk,Option.bind_some]
 ·unfold Zl0
  rw [if_neg (by simpa using h)]
end Go.Proofs
namespace Go.Proofs
open Go.Den Go.Tot
def noField:Z1d:={ Z0q:=0,Z0d:=[],Z16:=[],Z2e:=0,f_N:=0,f_S:=[] }
theorem Zrx (w:Z0c) (f:Z6r):Zev w f=some (match fieldAt w f.Z0w f.Z1h with
  | some x=>(x,true)
  | none=>(noField,false)):=by
 unfold Zev
 rw [show Zm2 w f.Z0w=Zkl w f.Z0w from rfl,Zp6]
 unfold fieldAt
 by_cases h:0≤f.Z0w∧f.Z0w<w.Z0o.length
 ·obtain ⟨k,e,_⟩:=gr (l:=w.Z0o) h.1 h.2
  rw [decide_eq_true h,e]
  simp only [Option.bind_some,Bool.not_true,Bool.false_eq_true,if_false]
  by_cases h1:f.Z1h<0
  ·rw [if_pos (decide_eq_true h1),Z7f (by omega)]
   rfl
  ·rw [if_neg (by simpa using h1)]
   by_cases h2:f.Z1h≥(k.Z11.Z0g.length:Int)
   ·rw [if_pos (decide_eq_true h2),Z7f (by omega)]
    rfl
   ·rw [if_neg (by simpa using h2)]
    obtain ⟨x,e2,_⟩:=gr (l:=k.Z11.Z0g) (i:=f.Z1h) (by omega) (by omega)
    rw [e2]
    rfl
 ·rw [decide_eq_false h,Z7f h]
  rfl
theorem Zu3:Zlk=some true:=by kernel_rfl
theorem good_of {w:Z0c} (hw:Z57 w):Ok (Z8o w) (fun b=>b=true→Good w):=by
 obtain ⟨b,e,hb⟩:=Y0i w hw
 refine ⟨b,e,fun h=>?_⟩
 subst h
 exact ⟨hb rfl,Y3u hw e⟩
end Go.Proofs
namespace Go.Proofs
open Go.Den Go.Tot
theorem Zgz {α:Type} {l:List α} {t:Int} {x:α} (h0:0≤t) (h:Z05 l t=some x):l[t.toNat]?=some x:=by
 unfold Z05 at h
 rw [if_pos h0] at h
 exact h
theorem Y3j {t:Z0h} (hv:Z51 t=true) (hb:t.Z1b≠86):∃ k,Z9o (fmt t)=some k∧Z9r t=some k:=by
 obtain ⟨h0,_,hc,hl⟩:=Zf1 hv
 have hk:Z9r t=Zlg t:=by
  unfold Z9r
  rw [Zr4 t (by omega),hv]
  simp only [Option.bind_some,Bool.not_true,Bool.false_eq_true,if_false]
  rw [if_neg (by simpa using hb)]
 rw [hk]
 have h1:∀ (x:UInt8) (r:List UInt8),Z9o (x::r)=some (if x=73 then 1 else if x=74 then 2 else 3):=fun x r=>by
  unfold Z9o
  rw [show sub (x::r) 0 1=some [x] from Y3i (x::r) 1 (by simp)]
  simp only [Option.bind_some]
  by_cases a:x=73
  ·subst a; rfl
  ·rw [if_neg (by simpa using a),if_neg a]
   by_cases b:x=74
   ·subst b; rfl
   ·rw [if_neg (by simpa using b),if_neg b]
 unfold fmt Zlg
 by_cases hd:t.Z0y>0
 ·rw [if_pos (decide_eq_true hd)]
  obtain ⟨n,hn⟩:∃ n,t.Z0y.toNat=n+1:=⟨t.Z0y.toNat - 1,by omega⟩
  rw [hn,List.replicate_succ,List.cons_append,h1]
  exact ⟨_,rfl,rfl⟩
 ·rw [if_neg (c:=decide (t.Z0y>0)=true) (by simpa using hd),show t.Z0y.toNat=0 by omega,List.replicate_zero,List.nil_append,h1]
  unfold j43x2
  rcases hc with ⟨h,_⟩|⟨h,_⟩|⟨h,_⟩|⟨h,_⟩
  ·rw [h]; exact ⟨_,rfl,rfl⟩
  ·rw [h]; exact ⟨_,rfl,rfl⟩
  ·exact absurd h hb
  ·rw [h]; exact ⟨_,rfl,rfl⟩
theorem Zvz {w:Z0c} (g:Good w) {c i:Int} {v:Z1v} {f:Z1d} (e1:Z05 w.Z0o c=some v) (e2:Z05 v.Z11.Z0g i=some f):
  f.Z16≠[]∧(∃ k,Z9o f.Z16=some k∧Z64 f.Z16={ Z22:=k,f_N:=0 })∧(f.Z2e=3→f.Z16=[73])∧(f.Z2e=5→f.Z16=[74]):=by
 obtain ⟨hl,t,h1,h2,h3,h5⟩:=g.f v (Zh7 e1) f (Zh7 e2)
 have hp:Z70 f.Z16=(t,0):=by
  have:=Zyf f.Z16 (by omega)
  rw [h1] at this
  exact (Option.some.inj this).symm
 obtain ⟨p1,p2⟩:=Zzu (s:=f.Z16) (by rw [hp])
 rw [hp] at p1 p2
 dsimp only at p1 p2
 obtain ⟨k,k1,k2⟩:=Y3j p1 h2
 refine ⟨fun h=>?_,⟨k,by rw [p2]; exact k1,?_⟩,h3,h5⟩
 ·have:=(Zp0 p1).2
  rw [← p2,h] at this
  simp at this
 ·unfold Z64 Zcc
  rw [h1]
  simp only [Option.bind_some]
  rw [if_neg (by decide),k2]
  rfl
theorem Y35 (w:Z0c) (c:Int) (hw:Z57 w):Zq3 w c=some true:=by
 have hq:j6x3=some true:=by unfold j6x3; rw [Zu3]; rfl
 unfold Zq3 Zpu
 simp only [Option.bind_some]
 split
 ·exact hq
 obtain ⟨b,e,hb⟩:=good_of hw
 rw [e]
 cases b with
 | false=>exact hq
 | true=>
  have g:=hb rfl
  simp only [Option.bind_some,Bool.not_true,Bool.false_eq_true,if_false]
  split
  ·exact hq
  split
  ·exact hq
  have l1:=Zsj g.v c
  have l2:=Zm9 g.v c true
  unfold j6x1
  rw [Zwo g.v,Zy1 g.v,Y1z g,Y3h g]
  simp only [Option.bind_some,List.length_map]
  rw [if_neg (by simp),if_neg (by simp)]
  unfold j6x2
  rw [rfL (Z5t w c) (by omega) (fun t x ht h1 e hk=>?_) (fun t h=>by unfold l6x1; rw [if_neg (by simpa using h)])]
  ·simp only [Option.bind_some]
   rw [rfL (Z3j w c true) (by omega) (fun t x ht h1 e hk=>?_) (fun t h=>by unfold l6x2; rw [if_neg (by simpa using h)])]
   ·simp only [Option.bind_some]
    rw [Zu3]
    rfl
   ·obtain ⟨v,f,e1,e2,_⟩:=Zne (List.mem_of_getElem? (Zgz ht e))
    obtain ⟨d1,⟨k,d2,d3⟩,d4,d5⟩:=Zvz g e1 e2
    have hf:fieldAt w x.Z0w x.Z1h=some f:=by unfold fieldAt; rw [e1]; exact e2
    have hm:Z05 ((Z3j w c true).map (Z8c w)) t=some (Z8c w x):=by
     unfold Z05; rw [if_pos ht,List.getElem?_map,Zgz ht e]; rfl
    have hvS:Z8c w x=if f.Z2e=3 then { Z22:=1,f_N:=f.f_N } else if f.Z2e=5 then { Z22:=2,f_N:=f.f_N } else Z64 f.Z16:=by unfold Z8c; rw [hf]
    unfold l6x2
    rw [if_pos (decide_eq_true h1),e]
    simp only [Option.bind_some]
    rw [Zrx]
    simp only [hf,Option.bind_some,Bool.not_true,Bool.false_eq_true,if_false]
    rw [if_neg (by simpa using d1),hm]
    simp only [Option.bind_some]
    rw [d2]
    simp only [Option.bind_some,hm,hk]
    by_cases c3:f.Z2e=3
    ·rw [hvS,if_pos c3]
     have:k=1:=by
      rw [d4 c3] at d2
      cases d2
      rfl
     subst this
     simp [c3]
    ·by_cases c5:f.Z2e=5
     ·rw [hvS,if_neg c3,if_pos c5]
      have:k=2:=by
       rw [d5 c5] at d2
       cases d2
       rfl
      subst this
      simp [c5]
     ·rw [hvS,if_neg c3,if_neg c5,d3]
      simp
  ·obtain ⟨v,f,e1,e2,_⟩:=Ztt (List.mem_of_getElem? (Zgz ht e))
   obtain ⟨d1,⟨k,d2,d3⟩,_⟩:=Zvz g e1 e2
   have hf:fieldAt w x.Z0w x.Z1h=some f:=by unfold fieldAt; rw [e1]; exact e2
   have hm:Z05 ((Z5t w c).map (Z9e w)) t=some (Z9e w x):=by
    unfold Z05; rw [if_pos ht,List.getElem?_map,Zgz ht e]; rfl
   have hvI:Z9e w x=Z64 f.Z16:=by unfold Z9e; rw [hf]
   unfold l6x1
   rw [if_pos (decide_eq_true h1),e]
   simp only [Option.bind_some]
   rw [Zrx]
   simp only [hf,Option.bind_some,Bool.not_true,Bool.false_eq_true,if_false]
   rw [if_neg (by simpa using d1),hm]
   simp only [Option.bind_some]
   rw [d2,hvI,d3]
   simp [Z9n,hk]
end Go.Proofs

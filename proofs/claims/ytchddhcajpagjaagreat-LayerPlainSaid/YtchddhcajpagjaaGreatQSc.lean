import Derived.Test.YtchddhcajpagjaaGreatQSb
set_option linter.all false
set_option maxRecDepth 100000
namespace Go.PW
def Zyj(c:Zt):Bool:=decide (0<=c.Generic/\c.Generic<=99/\0<=c.X/\c.X<=2/\∀ n,n∈A5.list c.Color->0<=n/\n<=9)
def bt(n:Int)(k:Nat):Int:=if n > 0 then (2:Int) ^ k else 0
def coP(x:A5 Int)(v:Int):Int:=(if 0 < v then bt x.a0 0 else 0)+((if 1 < v then bt x.a1 1 else 0)+((if 2 < v then bt x.a2 2 else 0)+((if 3 < v then bt x.a3 3 else 0)+(if 4 < v then bt x.a4 4 else 0))))
def coV(c:Zt):Int:=if Zyj c then coP c.Color 5 else 0
theorem Zbc1(x:A5 Int):0=coP x 0:=by simp [coP]
theorem Zaje{x:A5 Int}{v w n:Int}(hx:(A5.list x)[v.toNat]?=some n)(h0:0<=v)(h5:v < 5)(hw:w=v+1):coP x w=coP x v+bt n v.toNat/\0<=coP x v/\coP x v < 2 ^ v.toNat:=by
 subst hw
 have b:∀ n k,0<=bt n k/\bt n k<=(2:Int) ^ k:=fun n k=>by unfold bt;split<;>constructor<;>first | exact Int.le_refl _ | exact Int.le_of_lt (Int.pow_pos (by decide)) | exact Int.le_of_lt (Int.pow_pos (by decide)) | omega
 have b0:=b x.a0 0;have b1:=b x.a1 1;have b2:=b x.a2 2;have b3:=b x.a3 3
 have hv:v=0\/v=1\/v=2\/v=3\/v=4:=by omega
 rcases hv with rfl | rfl | rfl | rfl | rfl<;>(simp [A5.list] at hx;subst hx;simp [coP] at *;try omega)
theorem Zbk6:∀ i:Fin 5,∀ v:Fin 16,v.val < 2 ^ i.val->Zau .or .i64 (v.val:Int) (Z0h .i64 1 (i.val:Int))=((v.val+2 ^ i.val:Nat):Int):=by decide +kernel
theorem pw_b{v:Int}(h5:v<=5):(2:Int) ^ v.toNat<=32/\1<=(2:Int) ^ v.toNat:=by
 have:v.toNat=0\/v.toNat=1\/v.toNat=2\/v.toNat=3\/v.toNat=4\/v.toNat=5:=by omega
 rcases this with h | h | h | h | h | h<;>rw [h]<;>decide
theorem Zbk7{x:A5 Int}{v w n a:Int}(hx:(A5.list x)[v.toNat]?=some n)(h:a=coP x v)(h0:0<=v)(h5:v < 5)(hp:n > 0)(hw:w=v+1):Zau .or .i64 a (Z0h .i64 1 v)=coP x w:=by
 obtain⟨h1,h2,h3⟩:=Zaje hx h0 h5 hw
 rw [h1,<- h]
 rw [<- h] at h2 h3
 have hv:v.toNat<=4:=by omega
 have hb:(2:Int) ^ v.toNat<=16:=by
  have:v.toNat=0\/v.toNat=1\/v.toNat=2\/v.toNat=3\/v.toNat=4:=by omega
  rcases this with h | h | h | h | h<;>rw [h]<;>decide
 have:=Zbk6 ⟨v.toNat,by omega⟩ ⟨a.toNat,by omega⟩ (by
  have:(a.toNat:Int) < ((2 ^ v.toNat:Nat):Int):=by rw [Int.natCast_pow];show (a.toNat:Int) < (2:Int) ^ v.toNat;omega
  exact_mod_cast this)
 simp only at this
 rw [show ((a.toNat:Nat):Int)=a by omega,show ((v.toNat:Nat):Int)=v by omega] at this
 rw [this]
 unfold bt
 rw [if_pos hp]
 push_cast
 omega
theorem Zbc2{x:A5 Int}{v w n a:Int}(hx:(A5.list x)[v.toNat]?=some n)(h:a=coP x v)(h0:0<=v)(h5:v < 5)(hp:¬ n > 0)(hw:w=v+1):a=coP x w:=by
 rw [(Zaje hx h0 h5 hw).1,<- h];unfold bt;rw [if_neg hp];omega
theorem Zbg8{x:A5 Int}{v w n a b c:Int}(hx:(A5.list x)[v.toNat]?=some n)(h:a=coP x v)(h0:0<=v)(h5:v < 5)(hp:n > 0)(hb:b=2 ^ v.toNat)(hw:w=v+1)(hc:c=a+b):c=coP x w:=by
 rw [(Zaje hx h0 h5 hw).1,<- h];unfold bt;rw [if_pos hp,hc,hb]
theorem Zbfi{v w b c:Int}(h0:0<=v)(hb:b=2 ^ v.toNat)(hw:w=v+1)(hc:c=2*b):c=2 ^ w.toNat:=by
 have:w.toNat=v.toNat+1:=by omega
 rw [this,Int.pow_succ,hc,hb];omega
theorem co_b{x:A5 Int}{v:Int}:0<=coP x v/\coP x v<=31:=by
 have b:∀ n k,0<=bt n k/\bt n k<=(2:Int) ^ k:=fun n k=>by unfold bt;split<;>constructor<;>first | exact Int.le_refl _ | exact Int.le_of_lt (Int.pow_pos (by decide)) | exact Int.le_of_lt (Int.pow_pos (by decide)) | omega
 have b0:=b x.a0 0;have b1:=b x.a1 1;have b2:=b x.a2 2;have b3:=b x.a3 3;have b4:=b x.a4 4
 unfold coP
 constructor<;>(repeat' split)<;>simp at * <;> omega
theorem Zbfj{x:A5 Int}(h:x=⟨0,0,0,0,0⟩)(v:Int):0=coP x v:=by subst h;unfold coP bt;simp
theorem a5eq{x y:A5 Int}:Z1 (cA5 (cI .i64) x) (cA5 (cI .i64) y)=decide (x=y):=Zabp (Zbe1 (Zabo .i64)) x y
theorem Zbg9{c:Zt}{n v:Int}(hx:(A5.list c.Color)[v.toNat]?=some n)(h:n < 0\/n > 9):false=Zyj c:=by
 symm;unfold Zyj
 exact decide_eq_false fun hc=>by have:=hc.2.2.2.2 n (List.mem_of_getElem? hx);omega
theorem Zbfk{c:Zt}{v:Int}(h:∀ (k:Nat) x,(k:Int) < v->(A5.list c.Color)[k]?=some x->0<=x/\x<=9)(hv:5<=v):Zyj c=decide (0<=c.Generic/\c.Generic<=99/\0<=c.X/\c.X<=2):=by
 have hall:∀ n,n∈A5.list c.Color->0<=n/\n<=9:=fun n hn=>by
  obtain⟨k,hk⟩:=List.mem_iff_getElem?.1 hn
  have:k < 5:=(List.getElem?_eq_some_iff.1 hk).1
  exact h k n (by omega) hk
 unfold Zyj
 rw [decide_eq_decide]
 exact⟨fun h=>⟨h.1,h.2.1,h.2.2.1,h.2.2.2.1⟩,fun h=>⟨h.1,h.2.1,h.2.2.1,h.2.2.2,hall⟩⟩
theorem Za8r{c:Zt}(h:Zyj c=false):0=coV c:=by unfold coV;rw [h];rfl
theorem Zbk8{c:Zt}(h:Z1 (cA5 (cI .i64) c.Color) (cA5 (cI .i64) ⟨0,0,0,0,0⟩)=true):0=coV c:=by
 rw [a5eq] at h
 unfold coV
 split
 .exact Zbfj (of_decide_eq_true h) 5
 .rfl
theorem Zbc3{c:Zt}{x:A5 Int}{a v:Int}(h:Zyj c=true)(e:x=c.Color)(hx:a=coP x v)(h1:5<=v)(h2:v<=5):a=coV c:=by
 obtain rfl:v=5:=by omega
 subst e
 unfold coV;rw [hx,h];rfl
def prV(c:Zl):Za:=⟨c.Name,c.Cost,Zau .or .i64 (coV c.Cost) c.Color,c.Line,c.Power,c.Tough,c.Keys,c.Abilities,0⟩
def Zqm(cards:List Zl)(i:Int):Za:=match (if i < 0 then none else cards[i.toNat]?) with | some c=>prV c | none=>Zadr
theorem Zapq{cards:List Zl}{i:Int}{c:Zl}(hx:cards[i.toNat]?=some c)(h:0<=i):Zqm cards i=prV c:=by unfold Zqm;rw [if_neg (by omega),hx]
theorem Z7c{cards:List Zl}{i:Int}(h:i < 0\/i>=(cards.length:Int)):Zqm cards i=Zadr:=by
 unfold Zqm
 by_cases h0:i < 0
 .rw [if_pos h0]
 .rw [if_neg h0,List.getElem?_eq_none (by omega)]
def baV(cards:List Zl)(o:Zf):Za:=
 { Zqm cards (if o.Copy < 0 then o.Card else o.Copy) with Control:=if o.Zone=0\/o.Zone=5 then o.Control else o.Owner }
theorem Za2f{cards:List Zl}(h:∀ c,c∈cards->c.Abilities.length<=8)(o:Zf):(baV cards o).Abilities.length<=8:=by
 show (Zqm cards _).Abilities.length<=8
 generalize (if o.Copy < 0 then o.Card else o.Copy)=i
 by_cases h0:i < 0
 .rw [Z7c (.inl h0)];exact Nat.zero_le _
 .cases hx:cards[i.toNat]? with
  | none=>rw [Z7c (.inr (by have:=List.getElem?_eq_none_iff.1 hx;omega))];exact Nat.zero_le _
  | some c=>rw [Zapq hx (by omega)];exact h c (List.mem_of_getElem? hx)
theorem Zanh{α:Type}{l:List α}{i:Nat}{x:α}(h:l[i]?=some x):l.set i x=l:=by
 obtain⟨hi,he⟩:=List.getElem?_eq_some_iff.1 h
 refine List.ext_getElem? fun j=>?_
 rw [List.getElem?_set]
 split
 .rename_i e;subst e;exact h.symm
 .rfl
theorem Zbbi{a b:Zd}{v:Int}{x:Zs}{m:List Zc}{z:List Zs}(e:b=a)(hx:b.Effects[v.toNat]?=some x)(hm:m=x.Mods)(hz:z=b.Effects.set v.toNat ⟨x.Op,x.Ref,x.Amount,x.Counter,x.Zone,x.Card,x.Filter,x.Pool,m⟩):(⟨b.Kind,b.Filter,b.Mods,b.Price,b.Slow,b.Trigger,b.May,b.Specs,z,b.Replace⟩:Zd)=a:=by
 subst hm
 have:z=b.Effects:=hz.trans (Zanh hx)
 rw [this];exact e
theorem pr_0{c:Zl}{m:Int}{s:List (List UInt8)}(hm:m=coV c.Cost)(hs:s=c.Line.Subs):(⟨c.Name,c.Cost,Zau .or .i64 m c.Color,⟨c.Line.Super,c.Line.Types,s⟩,c.Power,c.Tough,c.Keys,[],0⟩:Za)={ prV c with Abilities:=c.Abilities.take (0:Int).toNat }:=by subst hm;subst hs;rfl
theorem pr_0'{c:Zl}{m:Int}{s:List (List UInt8)}(hm:m=coV c.Cost)(hs:s=[]++c.Line.Subs):(⟨c.Name,c.Cost,Zau .or .i64 m c.Color,⟨c.Line.Super,c.Line.Types,s⟩,c.Power,c.Tough,c.Keys,[],0⟩:Za)={ prV c with Abilities:=c.Abilities.take (0:Int).toNat }:=by subst hm;subst hs;rfl
theorem Za2g{c:Zl}{t:Za}{v w:Int}{x y:Zd}{z:List Zd}(h:t={ prV c with Abilities:=c.Abilities.take v.toNat })(hx:c.Abilities[v.toNat]?=some x)(h0:0<=v)(hw:w=v+1)(hy:y=x)(hz:z=t.Abilities++[y]) :
 (⟨t.Name,t.Cost,t.Colors,t.Line,t.Power,t.Tough,t.Keys,z,t.Control⟩:Za)={ prV c with Abilities:=c.Abilities.take w.toNat }:=by
 subst hy;subst hz;subst h
 rw [Zde hx h0 hw]
theorem Zbhb{c:Zl}{t:Za}{v:Int}(h:t={ prV c with Abilities:=c.Abilities.take v.toNat })(hv:(c.Abilities.length:Int)<=v):t=prV c:=by
 rw [h,List.take_of_length_le (by omega)];rfl
theorem ba_c{cards:List Zl}{o:Zf}{t:Za}{i:Int}(h:t=Zqm cards i)(hi:i=if o.Copy < 0 then o.Card else o.Copy)(hz:o.Zone=0\/o.Zone=5):(⟨t.Name,t.Cost,t.Colors,t.Line,t.Power,t.Tough,t.Keys,t.Abilities,o.Control⟩:Za)=baV cards o:=by
 unfold baV;rw [if_pos hz,<- hi,<- h]
theorem ba_o{cards:List Zl}{o:Zf}{t:Za}{i:Int}(h:t=Zqm cards i)(hi:i=if o.Copy < 0 then o.Card else o.Copy)(hz:¬ (o.Zone=0\/o.Zone=5)):(⟨t.Name,t.Cost,t.Colors,t.Line,t.Power,t.Tough,t.Keys,t.Abilities,o.Owner⟩:Za)=baV cards o:=by
 unfold baV;rw [if_neg hz,<- hi,<- h]
theorem Zbk9{a:Zd}{m:List Zc}{s:List Zaz}(hm:m=[]++a.Mods)(hs:s=[]++a.Specs):(⟨a.Kind,a.Filter,m,a.Price,a.Slow,a.Trigger,a.May,s,[],a.Replace⟩:Zd)={ a with Effects:=a.Effects.take (0:Int).toNat }:=by subst hm;subst hs;rfl
theorem Zbbj{a b:Zd}{v w:Int}{x:Zs}{m:List Zc}{z:List Zs}(h:b={ a with Effects:=a.Effects.take v.toNat })(hx:a.Effects[v.toNat]?=some x)(h0:0<=v)(hw:w=v+1)(hm:m=[]++x.Mods)(hz:z=b.Effects++[⟨x.Op,x.Ref,x.Amount,x.Counter,x.Zone,x.Card,x.Filter,x.Pool,m⟩]) :
 (⟨b.Kind,b.Filter,b.Mods,b.Price,b.Slow,b.Trigger,b.May,b.Specs,z,b.Replace⟩:Zd)={ a with Effects:=a.Effects.take w.toNat }:=by
 subst hm;subst hz;subst h
 rw [Zde hx h0 hw];rfl
theorem Zbfl{a b:Zd}{v:Int}(h:b={ a with Effects:=a.Effects.take v.toNat })(hv:(a.Effects.length:Int)<=v):b=a:=by rw [h,List.take_of_length_le (by omega)]
theorem Zbfm{α:Type}{P:α->Prop}{l:List α}{v:Int}(h:∀ (k:Nat) x,(k:Int) < v->l[k]?=some x->P x)(hv:(l.length:Int)<=v):∀ x,x∈l->P x:=fun x hx=>by
 obtain⟨k,hk⟩:=List.mem_iff_getElem?.1 hx
 have:=(List.getElem?_eq_some_iff.1 hk).1
 exact h k x (by omega) hk
end Go.PW

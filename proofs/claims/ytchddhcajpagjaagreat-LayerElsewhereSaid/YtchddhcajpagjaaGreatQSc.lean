import Derived.Test.YtchddhcajpagjaaGreatQSb
set_option linter.all false
set_option maxRecDepth 100000
namespace Go.PW
def Zyi(c:Zs):Bool:=decide (0<=c.Generic/\c.Generic<=99/\0<=c.X/\c.X<=2/\∀ n,n∈A5.list c.Color->0<=n/\n<=9)
def bt(n:Int)(k:Nat):Int:=if n > 0 then (2:Int) ^ k else 0
def coP(x:A5 Int)(v:Int):Int:=(if 0 < v then bt x.a0 0 else 0)+((if 1 < v then bt x.a1 1 else 0)+((if 2 < v then bt x.a2 2 else 0)+((if 3 < v then bt x.a3 3 else 0)+(if 4 < v then bt x.a4 4 else 0))))
def coV(c:Zs):Int:=if Zyi c then coP c.Color 5 else 0
theorem Za98(x:A5 Int):0=coP x 0:=by simp [coP]
theorem Zaiz{x:A5 Int}{v w n:Int}(hx:(A5.list x)[v.toNat]?=some n)(h0:0<=v)(h5:v < 5)(hw:w=v+1):coP x w=coP x v+bt n v.toNat/\0<=coP x v/\coP x v < 2 ^ v.toNat:=by
 subst hw
 have b:∀ n k,0<=bt n k/\bt n k<=(2:Int) ^ k:=fun n k=>by unfold bt;split<;>constructor<;>first | exact Int.le_refl _ | exact Int.le_of_lt (Int.pow_pos (by decide)) | exact Int.le_of_lt (Int.pow_pos (by decide)) | omega
 have b0:=b x.a0 0;have b1:=b x.a1 1;have b2:=b x.a2 2;have b3:=b x.a3 3
 have hv:v=0\/v=1\/v=2\/v=3\/v=4:=by omega
 rcases hv with rfl | rfl | rfl | rfl | rfl<;>(simp [A5.list] at hx;subst hx;simp [coP] at *;try omega)
theorem Zbgt:∀ i:Fin 5,∀ v:Fin 16,v.val < 2 ^ i.val->Za6 .or .i64 (v.val:Int) (Z0j .i64 1 (i.val:Int))=((v.val+2 ^ i.val:Nat):Int):=by decide +kernel
theorem pw_b{v:Int}(h5:v<=5):(2:Int) ^ v.toNat<=32/\1<=(2:Int) ^ v.toNat:=by
 have:v.toNat=0\/v.toNat=1\/v.toNat=2\/v.toNat=3\/v.toNat=4\/v.toNat=5:=by omega
 rcases this with h | h | h | h | h | h<;>rw [h]<;>decide
theorem Zbgu{x:A5 Int}{v w n a:Int}(hx:(A5.list x)[v.toNat]?=some n)(h:a=coP x v)(h0:0<=v)(h5:v < 5)(hp:n > 0)(hw:w=v+1):Za6 .or .i64 a (Z0j .i64 1 v)=coP x w:=by
 obtain⟨h1,h2,h3⟩:=Zaiz hx h0 h5 hw
 rw [h1,<- h]
 rw [<- h] at h2 h3
 have hv:v.toNat<=4:=by omega
 have hb:(2:Int) ^ v.toNat<=16:=by
  have:v.toNat=0\/v.toNat=1\/v.toNat=2\/v.toNat=3\/v.toNat=4:=by omega
  rcases this with h | h | h | h | h<;>rw [h]<;>decide
 have:=Zbgt ⟨v.toNat,by omega⟩ ⟨a.toNat,by omega⟩ (by
  have:(a.toNat:Int) < ((2 ^ v.toNat:Nat):Int):=by rw [Int.natCast_pow];show (a.toNat:Int) < (2:Int) ^ v.toNat;omega
  exact_mod_cast this)
 simp only at this
 rw [show ((a.toNat:Nat):Int)=a by omega,show ((v.toNat:Nat):Int)=v by omega] at this
 rw [this]
 unfold bt
 rw [if_pos hp]
 push_cast
 omega
theorem Za99{x:A5 Int}{v w n a:Int}(hx:(A5.list x)[v.toNat]?=some n)(h:a=coP x v)(h0:0<=v)(h5:v < 5)(hp:¬ n > 0)(hw:w=v+1):a=coP x w:=by
 rw [(Zaiz hx h0 h5 hw).1,<- h];unfold bt;rw [if_neg hp];omega
theorem Zbdn{x:A5 Int}{v w n a b c:Int}(hx:(A5.list x)[v.toNat]?=some n)(h:a=coP x v)(h0:0<=v)(h5:v < 5)(hp:n > 0)(hb:b=2 ^ v.toNat)(hw:w=v+1)(hc:c=a+b):c=coP x w:=by
 rw [(Zaiz hx h0 h5 hw).1,<- h];unfold bt;rw [if_pos hp,hc,hb]
theorem Zbb2{v w b c:Int}(h0:0<=v)(hb:b=2 ^ v.toNat)(hw:w=v+1)(hc:c=2*b):c=2 ^ w.toNat:=by
 have:w.toNat=v.toNat+1:=by omega
 rw [this,Int.pow_succ,hc,hb];omega
theorem co_b{x:A5 Int}{v:Int}:0<=coP x v/\coP x v<=31:=by
 have b:∀ n k,0<=bt n k/\bt n k<=(2:Int) ^ k:=fun n k=>by unfold bt;split<;>constructor<;>first | exact Int.le_refl _ | exact Int.le_of_lt (Int.pow_pos (by decide)) | exact Int.le_of_lt (Int.pow_pos (by decide)) | omega
 have b0:=b x.a0 0;have b1:=b x.a1 1;have b2:=b x.a2 2;have b3:=b x.a3 3;have b4:=b x.a4 4
 unfold coP
 constructor<;>(repeat' split)<;>simp at * <;> omega
theorem Zbb3{x:A5 Int}(h:x=⟨0,0,0,0,0⟩)(v:Int):0=coP x v:=by subst h;unfold coP bt;simp
theorem a5eq{x y:A5 Int}:Z5 (cA5 (cI .i64) x) (cA5 (cI .i64) y)=decide (x=y):=Zaqm (Zbbn (Zakj .i64)) x y
theorem Zbdo{c:Zs}{n v:Int}(hx:(A5.list c.Color)[v.toNat]?=some n)(h:n < 0\/n > 9):false=Zyi c:=by
 symm;unfold Zyi
 exact decide_eq_false fun hc=>by have:=hc.2.2.2.2 n (List.mem_of_getElem? hx);omega
theorem Zbb4{c:Zs}{v:Int}(h:∀ (k:Nat) x,(k:Int) < v->(A5.list c.Color)[k]?=some x->0<=x/\x<=9)(hv:5<=v):Zyi c=decide (0<=c.Generic/\c.Generic<=99/\0<=c.X/\c.X<=2):=by
 have hall:∀ n,n∈A5.list c.Color->0<=n/\n<=9:=fun n hn=>by
  obtain⟨k,hk⟩:=List.mem_iff_getElem?.1 hn
  have:k < 5:=(List.getElem?_eq_some_iff.1 hk).1
  exact h k n (by omega) hk
 unfold Zyi
 rw [decide_eq_decide]
 exact⟨fun h=>⟨h.1,h.2.1,h.2.2.1,h.2.2.2.1⟩,fun h=>⟨h.1,h.2.1,h.2.2.1,h.2.2.2,hall⟩⟩
theorem Za6b{c:Zs}(h:Zyi c=false):0=coV c:=by unfold coV;rw [h];rfl
theorem Zbgv{c:Zs}(h:Z5 (cA5 (cI .i64) c.Color) (cA5 (cI .i64) ⟨0,0,0,0,0⟩)=true):0=coV c:=by
 rw [a5eq] at h
 unfold coV
 split
 .exact Zbb3 (of_decide_eq_true h) 5
 .rfl
theorem Zbaa{c:Zs}{x:A5 Int}{a v:Int}(h:Zyi c=true)(e:x=c.Color)(hx:a=coP x v)(h1:5<=v)(h2:v<=5):a=coV c:=by
 obtain rfl:v=5:=by omega
 subst e
 unfold coV;rw [hx,h];rfl
def prV(c:Zk):Za:=⟨c.Name,c.Cost,Za6 .or .i64 (coV c.Cost) c.Color,c.Line,c.Power,c.Tough,c.Keys,c.Abilities,0⟩
def Z5l(cards:List Zk)(i:Int):Za:=match (if i < 0 then none else cards[i.toNat]?) with | some c=>prV c | none=>Zamz
theorem Za02{cards:List Zk}{i:Int}{c:Zk}(hx:cards[i.toNat]?=some c)(h:0<=i):Z5l cards i=prV c:=by unfold Z5l;rw [if_neg (by omega),hx]
theorem Zao1{cards:List Zk}{i:Int}(h:i < 0\/i>=(cards.length:Int)):Z5l cards i=Zamz:=by
 unfold Z5l
 by_cases h0:i < 0
 .rw [if_pos h0]
 .rw [if_neg h0,List.getElem?_eq_none (by omega)]
def baV(cards:List Zk)(o:Zc):Za:=
 { Z5l cards (if o.Copy < 0 then o.Card else o.Copy) with Control:=if o.Zone=0\/o.Zone=5 then o.Control else o.Owner }
theorem Za03{cards:List Zk}(h:∀ c,c∈cards->c.Abilities.length<=8)(o:Zc):(baV cards o).Abilities.length<=8:=by
 show (Z5l cards _).Abilities.length<=8
 generalize (if o.Copy < 0 then o.Card else o.Copy)=i
 by_cases h0:i < 0
 .rw [Zao1 (.inl h0)];exact Nat.zero_le _
 .cases hx:cards[i.toNat]? with
  | none=>rw [Zao1 (.inr (by have:=List.getElem?_eq_none_iff.1 hx;omega))];exact Nat.zero_le _
  | some c=>rw [Za02 hx (by omega)];exact h c (List.mem_of_getElem? hx)
theorem Zbdp{α:Type}{l:List α}{i:Nat}{x:α}(h:l[i]?=some x):l.set i x=l:=by
 obtain⟨hi,he⟩:=List.getElem?_eq_some_iff.1 h
 refine List.ext_getElem? fun j=>?_
 rw [List.getElem?_set]
 split
 .rename_i e;subst e;exact h.symm
 .rfl
theorem Za8s{a b:Ze}{v:Int}{x:Zt}{m:List Zi}{z:List Zt}(e:b=a)(hx:b.Effects[v.toNat]?=some x)(hm:m=x.Mods)(hz:z=b.Effects.set v.toNat ⟨x.Op,x.Ref,x.Amount,x.Counter,x.Zone,x.Card,x.Filter,x.Pool,m⟩):(⟨b.Kind,b.Filter,b.Mods,b.Price,b.Slow,b.Trigger,b.May,b.Specs,z,b.Replace⟩:Ze)=a:=by
 subst hm
 have:z=b.Effects:=hz.trans (Zbdp hx)
 rw [this];exact e
theorem pr_0{c:Zk}{m:Int}{s:List (List UInt8)}(hm:m=coV c.Cost)(hs:s=c.Line.Subs):(⟨c.Name,c.Cost,Za6 .or .i64 m c.Color,⟨c.Line.Super,c.Line.Types,s⟩,c.Power,c.Tough,c.Keys,[],0⟩:Za)={ prV c with Abilities:=c.Abilities.take (0:Int).toNat }:=by subst hm;subst hs;rfl
theorem pr_0'{c:Zk}{m:Int}{s:List (List UInt8)}(hm:m=coV c.Cost)(hs:s=[]++c.Line.Subs):(⟨c.Name,c.Cost,Za6 .or .i64 m c.Color,⟨c.Line.Super,c.Line.Types,s⟩,c.Power,c.Tough,c.Keys,[],0⟩:Za)={ prV c with Abilities:=c.Abilities.take (0:Int).toNat }:=by subst hm;subst hs;rfl
theorem Za04{c:Zk}{t:Za}{v w:Int}{x y:Ze}{z:List Ze}(h:t={ prV c with Abilities:=c.Abilities.take v.toNat })(hx:c.Abilities[v.toNat]?=some x)(h0:0<=v)(hw:w=v+1)(hy:y=x)(hz:z=t.Abilities++[y]) :
 (⟨t.Name,t.Cost,t.Colors,t.Line,t.Power,t.Tough,t.Keys,z,t.Control⟩:Za)={ prV c with Abilities:=c.Abilities.take w.toNat }:=by
 subst hy;subst hz;subst h
 rw [Zwl hx h0 hw]
theorem Zbdr{c:Zk}{t:Za}{v:Int}(h:t={ prV c with Abilities:=c.Abilities.take v.toNat })(hv:(c.Abilities.length:Int)<=v):t=prV c:=by
 rw [h,List.take_of_length_le (by omega)];rfl
theorem ba_c{cards:List Zk}{o:Zc}{t:Za}{i:Int}(h:t=Z5l cards i)(hi:i=if o.Copy < 0 then o.Card else o.Copy)(hz:o.Zone=0\/o.Zone=5):(⟨t.Name,t.Cost,t.Colors,t.Line,t.Power,t.Tough,t.Keys,t.Abilities,o.Control⟩:Za)=baV cards o:=by
 unfold baV;rw [if_pos hz,<- hi,<- h]
theorem ba_o{cards:List Zk}{o:Zc}{t:Za}{i:Int}(h:t=Z5l cards i)(hi:i=if o.Copy < 0 then o.Card else o.Copy)(hz:¬ (o.Zone=0\/o.Zone=5)):(⟨t.Name,t.Cost,t.Colors,t.Line,t.Power,t.Tough,t.Keys,t.Abilities,o.Owner⟩:Za)=baV cards o:=by
 unfold baV;rw [if_neg hz,<- hi,<- h]
theorem Zbgw{a:Ze}{m:List Zi}{s:List Zaw}(hm:m=[]++a.Mods)(hs:s=[]++a.Specs):(⟨a.Kind,a.Filter,m,a.Price,a.Slow,a.Trigger,a.May,s,[],a.Replace⟩:Ze)={ a with Effects:=a.Effects.take (0:Int).toNat }:=by subst hm;subst hs;rfl
theorem Za8t{a b:Ze}{v w:Int}{x:Zt}{m:List Zi}{z:List Zt}(h:b={ a with Effects:=a.Effects.take v.toNat })(hx:a.Effects[v.toNat]?=some x)(h0:0<=v)(hw:w=v+1)(hm:m=[]++x.Mods)(hz:z=b.Effects++[⟨x.Op,x.Ref,x.Amount,x.Counter,x.Zone,x.Card,x.Filter,x.Pool,m⟩]) :
 (⟨b.Kind,b.Filter,b.Mods,b.Price,b.Slow,b.Trigger,b.May,b.Specs,z,b.Replace⟩:Ze)={ a with Effects:=a.Effects.take w.toNat }:=by
 subst hm;subst hz;subst h
 rw [Zwl hx h0 hw];rfl
theorem Zbb5{a b:Ze}{v:Int}(h:b={ a with Effects:=a.Effects.take v.toNat })(hv:(a.Effects.length:Int)<=v):b=a:=by rw [h,List.take_of_length_le (by omega)]
end Go.PW

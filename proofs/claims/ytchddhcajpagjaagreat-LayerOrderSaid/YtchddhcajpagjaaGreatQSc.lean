import Derived.Test.YtchddhcajpagjaaGreatQSb
set_option linter.all false
set_option maxRecDepth 100000
namespace Go.PW
def Z1n(c:Zt):Bool:=decide (0<=c.Generic/\c.Generic<=99/\0<=c.X/\c.X<=2/\∀ n,n∈A5.list c.Color->0<=n/\n<=9)
def bt(n:Int)(k:Nat):Int:=if n > 0 then (2:Int) ^ k else 0
def coP(x:A5 Int)(v:Int):Int:=(if 0 < v then bt x.a0 0 else 0)+((if 1 < v then bt x.a1 1 else 0)+((if 2 < v then bt x.a2 2 else 0)+((if 3 < v then bt x.a3 3 else 0)+(if 4 < v then bt x.a4 4 else 0))))
def coV(c:Zt):Int:=if Z1n c then coP c.Color 5 else 0
theorem Zbk0(x:A5 Int):0=coP x 0:=by simp [coP]
theorem Zayd{x:A5 Int}{v w n:Int}(hx:(A5.list x)[v.toNat]?=some n)(h0:0<=v)(h5:v < 5)(hw:w=v+1):coP x w=coP x v+bt n v.toNat/\0<=coP x v/\coP x v < 2 ^ v.toNat:=by
 subst hw
 have b:∀ n k,0<=bt n k/\bt n k<=(2:Int) ^ k:=fun n k=>by unfold bt;split<;>constructor<;>first | exact Int.le_refl _ | exact Int.le_of_lt (Int.pow_pos (by decide)) | exact Int.le_of_lt (Int.pow_pos (by decide)) | omega
 have b0:=b x.a0 0;have b1:=b x.a1 1;have b2:=b x.a2 2;have b3:=b x.a3 3
 have hv:v=0\/v=1\/v=2\/v=3\/v=4:=by omega
 rcases hv with rfl | rfl | rfl | rfl | rfl<;>(simp [A5.list] at hx;subst hx;simp [coP] at *;try omega)
theorem Zbk1:∀ i:Fin 5,∀ v:Fin 16,v.val < 2 ^ i.val->Zay .or .i64 (v.val:Int) (Z0a .i64 1 (i.val:Int))=((v.val+2 ^ i.val:Nat):Int):=by decide +kernel
theorem Zbk2{x:A5 Int}{v w n a:Int}(hx:(A5.list x)[v.toNat]?=some n)(h:a=coP x v)(h0:0<=v)(h5:v < 5)(hp:n > 0)(hw:w=v+1):Zay .or .i64 a (Z0a .i64 1 v)=coP x w:=by
 obtain⟨h1,h2,h3⟩:=Zayd hx h0 h5 hw
 rw [h1,<- h]
 rw [<- h] at h2 h3
 have hv:v.toNat<=4:=by omega
 have hb:(2:Int) ^ v.toNat<=16:=by
  have:v.toNat=0\/v.toNat=1\/v.toNat=2\/v.toNat=3\/v.toNat=4:=by omega
  rcases this with h | h | h | h | h<;>rw [h]<;>decide
 have:=Zbk1 ⟨v.toNat,by omega⟩ ⟨a.toNat,by omega⟩ (by
  have:(a.toNat:Int) < ((2 ^ v.toNat:Nat):Int):=by rw [Int.natCast_pow];show (a.toNat:Int) < (2:Int) ^ v.toNat;omega
  exact_mod_cast this)
 simp only at this
 rw [show ((a.toNat:Nat):Int)=a by omega,show ((v.toNat:Nat):Int)=v by omega] at this
 rw [this]
 unfold bt
 rw [if_pos hp]
 push_cast
 omega
theorem Zbk3{x:A5 Int}{v w n a:Int}(hx:(A5.list x)[v.toNat]?=some n)(h:a=coP x v)(h0:0<=v)(h5:v < 5)(hp:¬ n > 0)(hw:w=v+1):a=coP x w:=by
 rw [(Zayd hx h0 h5 hw).1,<- h];unfold bt;rw [if_neg hp];omega
theorem Zbe4{x:A5 Int}(h:x=⟨0,0,0,0,0⟩)(v:Int):0=coP x v:=by subst h;unfold coP bt;simp
theorem a5eq{x y:A5 Int}:Zy (cA5 (cI .i64) x) (cA5 (cI .i64) y)=decide (x=y):=Zabi (Zben (Zabh .i64)) x y
theorem Zbg0{c:Zt}{n v:Int}(hx:(A5.list c.Color)[v.toNat]?=some n)(h:n < 0\/n > 9):false=Z1n c:=by
 symm;unfold Z1n
 exact decide_eq_false fun hc=>by have:=hc.2.2.2.2 n (List.mem_of_getElem? hx);omega
theorem Zbe5{c:Zt}{v:Int}(h:∀ (k:Nat) x,(k:Int) < v->(A5.list c.Color)[k]?=some x->0<=x/\x<=9)(hv:5<=v):Z1n c=decide (0<=c.Generic/\c.Generic<=99/\0<=c.X/\c.X<=2):=by
 have hall:∀ n,n∈A5.list c.Color->0<=n/\n<=9:=fun n hn=>by
  obtain⟨k,hk⟩:=List.mem_iff_getElem?.1 hn
  have:k < 5:=(List.getElem?_eq_some_iff.1 hk).1
  exact h k n O hk
 unfold Z1n
 rw [decide_eq_decide]
 exact⟨fun h=>⟨h.1,h.2.1,h.2.2.1,h.2.2.2.1⟩,fun h=>⟨h.1,h.2.1,h.2.2.1,h.2.2.2,hall⟩⟩
theorem Zbg1{c:Zt}(h:Z1n c=false):0=coV c:=by unfold coV;rw [h];rfl
theorem Zbk4{c:Zt}(h:Zy (cA5 (cI .i64) c.Color) (cA5 (cI .i64) ⟨0,0,0,0,0⟩)=true):0=coV c:=by
 rw [a5eq] at h
 unfold coV
 split
 .exact Zbe4 (of_decide_eq_true h) 5
 .rfl
theorem Zbk5{c:Zt}{x:A5 Int}{a v:Int}(h:Z1n c=true)(e:x=c.Color)(hx:a=coP x v)(h1:5<=v)(h2:v<=5):a=coV c:=by
 obtain rfl:v=5:=by omega
 subst e
 unfold coV;rw [hx,h];rfl
def prV(c:Zm):Zb:=⟨c.Name,c.Cost,Zay .or .i64 (coV c.Cost) c.Color,c.Line,c.Power,c.Tough,c.Keys,c.Abilities,0⟩
def Z8p(cards:List Zm)(i:Int):Zb:=match (if i < 0 then none else cards[i.toNat]?) with | some c=>prV c | none=>Zadl
theorem Za13{cards:List Zm}{i:Int}{c:Zm}(hx:cards[i.toNat]?=some c)(h:0<=i):Z8p cards i=prV c:=by unfold Z8p;rw [if_neg O,hx]
theorem Zapm{cards:List Zm}{i:Int}(h:i < 0\/i>=(cards.length:Int)):Z8p cards i=Zadl:=by
 unfold Z8p
 by_cases h0:i < 0
 .rw [if_pos h0]
 .rw [if_neg h0,List.getElem?_eq_none O]
def baV(cards:List Zm)(o:Zg):Zb:=
 { Z8p cards (if o.Copy < 0 then o.Card else o.Copy) with Control:=if o.Zone=0\/o.Zone=5 then o.Control else o.Owner }
theorem Za14{cards:List Zm}(h:∀ c,c∈cards->c.Abilities.length<=8)(o:Zg):(baV cards o).Abilities.length<=8:=by
 show (Z8p cards _).Abilities.length<=8
 generalize (if o.Copy < 0 then o.Card else o.Copy)=i
 by_cases h0:i < 0
 .rw [Zapm (.inl h0)];exact Nat.zero_le _
 .cases hx:cards[i.toNat]? with
  | none=>rw [Zapm (.inr (by have:=List.getElem?_eq_none_iff.1 hx;omega))];exact Nat.zero_le _
  | some c=>rw [Za13 hx O];exact h c (List.mem_of_getElem? hx)
theorem Zam9{α:Type}{l:List α}{i:Nat}{x:α}(h:l[i]?=some x):l.set i x=l:=by
 obtain⟨hi,he⟩:=List.getElem?_eq_some_iff.1 h
 refine List.ext_getElem? fun j=>?_
 rw [List.getElem?_set]
 split
 .rename_i e;subst e;exact h.symm
 .rfl
theorem Zba9{a b:Zh}{v:Int}{x:Zs}{m:List Zd}{z:List Zs}(e:b=a)(hx:b.Effects[v.toNat]?=some x)(hm:m=x.Mods)(hz:z=b.Effects.set v.toNat ⟨x.Op,x.Ref,x.Amount,x.Counter,x.Zone,x.Card,x.Filter,x.Pool,m⟩):(⟨b.Kind,b.Filter,b.Mods,b.Price,b.Slow,b.Trigger,b.May,b.Specs,z,b.Replace⟩:Zh)=a:=by
 subst hm
 have:z=b.Effects:=hz.trans (Zam9 hx)
 rw [this];exact e
theorem pr_0{c:Zm}{m:Int}{s:List (List UInt8)}(hm:m=coV c.Cost)(hs:s=c.Line.Subs):(⟨c.Name,c.Cost,Zay .or .i64 m c.Color,⟨c.Line.Super,c.Line.Types,s⟩,c.Power,c.Tough,c.Keys,[],0⟩:Zb)={ prV c with Abilities:=c.Abilities.take (0:Int).toNat }:=by subst hm;subst hs;rfl
theorem Zbe6{c:Zm}{t:Zb}{v w:Int}{x y:Zh}{z:List Zh}(h:t={ prV c with Abilities:=c.Abilities.take v.toNat })(hx:c.Abilities[v.toNat]?=some x)(h0:0<=v)(hw:w=v+1)(hy:y=x)(hz:z=t.Abilities++[y]) :
 (⟨t.Name,t.Cost,t.Colors,t.Line,t.Power,t.Tough,t.Keys,z,t.Control⟩:Zb)={ prV c with Abilities:=c.Abilities.take w.toNat }:=by
 subst hy;subst hz;subst h
 rw [Zci hx h0 hw]
theorem Zbg2{c:Zm}{t:Zb}{v:Int}(h:t={ prV c with Abilities:=c.Abilities.take v.toNat })(hv:(c.Abilities.length:Int)<=v):t=prV c:=by
 rw [h,List.take_of_length_le O];rfl
theorem ba_c{cards:List Zm}{o:Zg}{t:Zb}{i:Int}(h:t=Z8p cards i)(hi:i=if o.Copy < 0 then o.Card else o.Copy)(hz:o.Zone=0\/o.Zone=5):(⟨t.Name,t.Cost,t.Colors,t.Line,t.Power,t.Tough,t.Keys,t.Abilities,o.Control⟩:Zb)=baV cards o:=by
 unfold baV;rw [if_pos hz,<- hi,<- h]
theorem ba_o{cards:List Zm}{o:Zg}{t:Zb}{i:Int}(h:t=Z8p cards i)(hi:i=if o.Copy < 0 then o.Card else o.Copy)(hz:¬ (o.Zone=0\/o.Zone=5)):(⟨t.Name,t.Cost,t.Colors,t.Line,t.Power,t.Tough,t.Keys,t.Abilities,o.Owner⟩:Zb)=baV cards o:=by
 unfold baV;rw [if_neg hz,<- hi,<- h]
theorem Zbe7{α:Type}{P:α->Prop}{l:List α}{v:Int}(h:∀ (k:Nat) x,(k:Int) < v->l[k]?=some x->P x)(hv:(l.length:Int)<=v):∀ x,x∈l->P x:=fun x hx=>by
 obtain⟨k,hk⟩:=List.mem_iff_getElem?.1 hx
 have:=(List.getElem?_eq_some_iff.1 hk).1
 exact h k x O hk
end Go.PW

import Derived.Test.YtncgejlelfefdaaGreatQSb
set_option linter.all false
set_option maxRecDepth 100000
namespace Go.PW
def Zzc(c:Z2):Bool:=decide (0<=c.Generic/\c.Generic<=99/\0<=c.X/\c.X<=2/\∀ n,n∈A5.list c.Color->0<=n/\n<=9)
def bt(n:Int)(k:Nat):Int:=if n > 0 then (2:Int) ^ k else 0
def coP(x:A5 Int)(v:Int):Int:=(if 0 < v then bt x.a0 0 else 0)+((if 1 < v then bt x.a1 1 else 0)+((if 2 < v then bt x.a2 2 else 0)+((if 3 < v then bt x.a3 3 else 0)+(if 4 < v then bt x.a4 4 else 0))))
def coV(c:Z2):Int:=if Zzc c then coP c.Color 5 else 0
theorem Zbnc(x:A5 Int):0=coP x 0:=by simp [coP]
theorem Zap8{x:A5 Int}{v w n:Int}(hx:(A5.list x)[v.toNat]?=some n)(h0:0<=v)(h5:v < 5)(hw:w=v+1):coP x w=coP x v+bt n v.toNat/\0<=coP x v/\coP x v < 2 ^ v.toNat:=by
 subst hw
 have b:∀ n k,0<=bt n k/\bt n k<=(2:Int) ^ k:=fun n k=>by unfold bt;split<;>constructor<;>first | exact Int.le_refl _ | exact Int.le_of_lt (Int.pow_pos (by decide)) | exact Int.le_of_lt (Int.pow_pos (by decide)) | omega
 have b0:=b x.a0 0;have b1:=b x.a1 1;have b2:=b x.a2 2;have b3:=b x.a3 3
 have hv:v=0\/v=1\/v=2\/v=3\/v=4:=by omega
 rcases hv with rfl | rfl | rfl | rfl | rfl<;>(simp [A5.list] at hx;subst hx;simp [coP] at *;try omega)
theorem Zbvl:∀ i:Fin 5,∀ v:Fin 16,v.val < 2 ^ i.val->Zbl .or .i64 (v.val:Int) (Z1c .i64 1 (i.val:Int))=((v.val+2 ^ i.val:Nat):Int):=by decide +kernel
theorem pw_b{v:Int}(h5:v<=5):(2:Int) ^ v.toNat<=32/\1<=(2:Int) ^ v.toNat:=by
 have:v.toNat=0\/v.toNat=1\/v.toNat=2\/v.toNat=3\/v.toNat=4\/v.toNat=5:=by omega
 rcases this with h | h | h | h | h | h<;>rw [h]<;>decide
theorem Zbvm{x:A5 Int}{v w n a:Int}(hx:(A5.list x)[v.toNat]?=some n)(h:a=coP x v)(h0:0<=v)(h5:v < 5)(hp:n > 0)(hw:w=v+1):Zbl .or .i64 a (Z1c .i64 1 v)=coP x w:=by
 obtain⟨h1,h2,h3⟩:=Zap8 hx h0 h5 hw
 rw [h1,<- h]
 rw [<- h] at h2 h3
 have hv:v.toNat<=4:=by omega
 have hb:(2:Int) ^ v.toNat<=16:=by
  have:v.toNat=0\/v.toNat=1\/v.toNat=2\/v.toNat=3\/v.toNat=4:=by omega
  rcases this with h | h | h | h | h<;>rw [h]<;>decide
 have:=Zbvl ⟨v.toNat,by omega⟩ ⟨a.toNat,by omega⟩ (by
  have:(a.toNat:Int) < ((2 ^ v.toNat:Nat):Int):=by rw [Int.natCast_pow];show (a.toNat:Int) < (2:Int) ^ v.toNat;omega
  exact_mod_cast this)
 simp only at this
 rw [show ((a.toNat:Nat):Int)=a by omega,show ((v.toNat:Nat):Int)=v by omega] at this
 rw [this]
 unfold bt
 rw [if_pos hp]
 push_cast
 omega
theorem Zbnd{x:A5 Int}{v w n a:Int}(hx:(A5.list x)[v.toNat]?=some n)(h:a=coP x v)(h0:0<=v)(h5:v < 5)(hp:¬ n > 0)(hw:w=v+1):a=coP x w:=by
 rw [(Zap8 hx h0 h5 hw).1,<- h];unfold bt;rw [if_neg hp];omega
theorem Zbru{x:A5 Int}{v w n a b c:Int}(hx:(A5.list x)[v.toNat]?=some n)(h:a=coP x v)(h0:0<=v)(h5:v < 5)(hp:n > 0)(hb:b=2 ^ v.toNat)(hw:w=v+1)(hc:c=a+b):c=coP x w:=by
 rw [(Zap8 hx h0 h5 hw).1,<- h];unfold bt;rw [if_pos hp,hc,hb]
theorem Zbp2{v w b c:Int}(h0:0<=v)(hb:b=2 ^ v.toNat)(hw:w=v+1)(hc:c=2*b):c=2 ^ w.toNat:=by
 have:w.toNat=v.toNat+1:=by omega
 rw [this,Int.pow_succ,hc,hb];omega
theorem co_b{x:A5 Int}{v:Int}:0<=coP x v/\coP x v<=31:=by
 have b:∀ n k,0<=bt n k/\bt n k<=(2:Int) ^ k:=fun n k=>by unfold bt;split<;>constructor<;>first | exact Int.le_refl _ | exact Int.le_of_lt (Int.pow_pos (by decide)) | exact Int.le_of_lt (Int.pow_pos (by decide)) | omega
 have b0:=b x.a0 0;have b1:=b x.a1 1;have b2:=b x.a2 2;have b3:=b x.a3 3;have b4:=b x.a4 4
 unfold coP
 constructor<;>(repeat' split)<;>simp at * <;> omega
theorem Zbp3{x:A5 Int}(h:x=⟨0,0,0,0,0⟩)(v:Int):0=coP x v:=by subst h;unfold coP bt;simp
theorem a5eq{x y:A5 Int}:Zah (cA5 (cI .i64) x) (cA5 (cI .i64) y)=decide (x=y):=Z30 (Zbpl (Z7j .i64)) x y
theorem Zbrv{c:Z2}{n v:Int}(hx:(A5.list c.Color)[v.toNat]?=some n)(h:n < 0\/n > 9):false=Zzc c:=by
 symm;unfold Zzc
 exact decide_eq_false fun hc=>by have:=hc.2.2.2.2 n (List.mem_of_getElem? hx);omega
theorem Zbp4{c:Z2}{v:Int}(h:∀ (k:Nat) x,(k:Int) < v->(A5.list c.Color)[k]?=some x->0<=x/\x<=9)(hv:5<=v):Zzc c=decide (0<=c.Generic/\c.Generic<=99/\0<=c.X/\c.X<=2):=by
 have hall:∀ n,n∈A5.list c.Color->0<=n/\n<=9:=fun n hn=>by
  obtain⟨k,hk⟩:=List.mem_iff_getElem?.1 hn
  have:k < 5:=(List.getElem?_eq_some_iff.1 hk).1
  exact h k n (by omega) hk
 unfold Zzc
 rw [decide_eq_decide]
 exact⟨fun h=>⟨h.1,h.2.1,h.2.2.1,h.2.2.2.1⟩,fun h=>⟨h.1,h.2.1,h.2.2.1,h.2.2.2,hall⟩⟩
theorem Zbjg{c:Z2}(h:Zzc c=false):0=coV c:=by unfold coV;rw [h];rfl
theorem Zbvn{c:Z2}(h:Zah (cA5 (cI .i64) c.Color) (cA5 (cI .i64) ⟨0,0,0,0,0⟩)=true):0=coV c:=by
 rw [a5eq] at h
 unfold coV
 split
 .exact Zbp3 (of_decide_eq_true h) 5
 .rfl
theorem Zbne{c:Z2}{x:A5 Int}{a v:Int}(h:Zzc c=true)(e:x=c.Color)(hx:a=coP x v)(h1:5<=v)(h2:v<=5):a=coV c:=by
 obtain rfl:v=5:=by omega
 subst e
 unfold coV;rw [hx,h];rfl
def prV(c:Zg):Zb:=⟨c.Name,c.Cost,Zbl .or .i64 (coV c.Cost) c.Color,c.Line,c.Power,c.Tough,c.Keys,c.Abilities,0⟩
def Z2q(cards:List Zg)(i:Int):Zb:=match (if i < 0 then none else cards[i.toNat]?) with | some c=>prV c | none=>Zua
theorem Zay0{cards:List Zg}{i:Int}{c:Zg}(hx:cards[i.toNat]?=some c)(h:0<=i):Z2q cards i=prV c:=by unfold Z2q;rw [if_neg (by omega),hx]
theorem Z9e{cards:List Zg}{i:Int}(h:i < 0\/i>=(cards.length:Int)):Z2q cards i=Zua:=by
 unfold Z2q
 by_cases h0:i < 0
 .rw [if_pos h0]
 .rw [if_neg h0,List.getElem?_eq_none (by omega)]
def baV(cards:List Zg)(o:Zc):Zb:=
 { Z2q cards (if o.Copy < 0 then o.Card else o.Copy) with Control:=if o.Zone=0\/o.Zone=5 then o.Control else o.Owner }
theorem Z2r{α:Type}{l:List α}{i:Nat}{x:α}(h:l[i]?=some x):l.set i x=l:=by
 obtain⟨hi,he⟩:=List.getElem?_eq_some_iff.1 h
 refine List.ext_getElem? fun j=>?_
 rw [List.getElem?_set]
 split
 .rename_i e;subst e;exact h.symm
 .rfl
theorem Zblt{a b:Zh}{v:Int}{x:Z6}{m:List Zv}{z:List Z6}(e:b=a)(hx:b.Effects[v.toNat]?=some x)(hm:m=x.Mods)(hz:z=b.Effects.set v.toNat ⟨x.Op,x.Ref,x.Amount,x.Counter,x.Zone,x.Card,x.Filter,x.Pool,m⟩):(⟨b.Kind,b.Filter,b.Mods,b.Price,b.Slow,b.Trigger,b.May,b.Specs,z,b.Replace⟩:Zh)=a:=by
 subst hm
 have:z=b.Effects:=hz.trans (Z2r hx)
 rw [this];exact e
theorem pr_0{c:Zg}{m:Int}{s:List (List UInt8)}(hm:m=coV c.Cost)(hs:s=c.Line.Subs):(⟨c.Name,c.Cost,Zbl .or .i64 m c.Color,⟨c.Line.Super,c.Line.Types,s⟩,c.Power,c.Tough,c.Keys,[],0⟩:Zb)={ prV c with Abilities:=c.Abilities.take (0:Int).toNat }:=by subst hm;subst hs;rfl
theorem pr_0'{c:Zg}{m:Int}{s:List (List UInt8)}(hm:m=coV c.Cost)(hs:s=[]++c.Line.Subs):(⟨c.Name,c.Cost,Zbl .or .i64 m c.Color,⟨c.Line.Super,c.Line.Types,s⟩,c.Power,c.Tough,c.Keys,[],0⟩:Zb)={ prV c with Abilities:=c.Abilities.take (0:Int).toNat }:=by subst hm;subst hs;rfl
theorem Zbdf{c:Zg}{t:Zb}{v w:Int}{x y:Zh}{z:List Zh}(h:t={ prV c with Abilities:=c.Abilities.take v.toNat })(hx:c.Abilities[v.toNat]?=some x)(h0:0<=v)(hw:w=v+1)(hy:y=x)(hz:z=t.Abilities++[y]) :
 (⟨t.Name,t.Cost,t.Colors,t.Line,t.Power,t.Tough,t.Keys,z,t.Control⟩:Zb)={ prV c with Abilities:=c.Abilities.take w.toNat }:=by
 subst hy;subst hz;subst h
 rw [Zfk hx h0 hw]
theorem Zbrx{c:Zg}{t:Zb}{v:Int}(h:t={ prV c with Abilities:=c.Abilities.take v.toNat })(hv:(c.Abilities.length:Int)<=v):t=prV c:=by
 rw [h,List.take_of_length_le (by omega)];rfl
theorem ba_c{cards:List Zg}{o:Zc}{t:Zb}{i:Int}(h:t=Z2q cards i)(hi:i=if o.Copy < 0 then o.Card else o.Copy)(hz:o.Zone=0\/o.Zone=5):(⟨t.Name,t.Cost,t.Colors,t.Line,t.Power,t.Tough,t.Keys,t.Abilities,o.Control⟩:Zb)=baV cards o:=by
 unfold baV;rw [if_pos hz,<- hi,<- h]
theorem ba_o{cards:List Zg}{o:Zc}{t:Zb}{i:Int}(h:t=Z2q cards i)(hi:i=if o.Copy < 0 then o.Card else o.Copy)(hz:¬ (o.Zone=0\/o.Zone=5)):(⟨t.Name,t.Cost,t.Colors,t.Line,t.Power,t.Tough,t.Keys,t.Abilities,o.Owner⟩:Zb)=baV cards o:=by
 unfold baV;rw [if_neg hz,<- hi,<- h]
theorem Zbvo{a:Zh}{m:List Zv}{s:List Za9}(hm:m=[]++a.Mods)(hs:s=[]++a.Specs):(⟨a.Kind,a.Filter,m,a.Price,a.Slow,a.Trigger,a.May,s,[],a.Replace⟩:Zh)={ a with Effects:=a.Effects.take (0:Int).toNat }:=by subst hm;subst hs;rfl
theorem Zblu{a b:Zh}{v w:Int}{x:Z6}{m:List Zv}{z:List Z6}(h:b={ a with Effects:=a.Effects.take v.toNat })(hx:a.Effects[v.toNat]?=some x)(h0:0<=v)(hw:w=v+1)(hm:m=[]++x.Mods)(hz:z=b.Effects++[⟨x.Op,x.Ref,x.Amount,x.Counter,x.Zone,x.Card,x.Filter,x.Pool,m⟩]) :
 (⟨b.Kind,b.Filter,b.Mods,b.Price,b.Slow,b.Trigger,b.May,b.Specs,z,b.Replace⟩:Zh)={ a with Effects:=a.Effects.take w.toNat }:=by
 subst hm;subst hz;subst h
 rw [Zfk hx h0 hw];rfl
theorem Zbp5{a b:Zh}{v:Int}(h:b={ a with Effects:=a.Effects.take v.toNat })(hv:(a.Effects.length:Int)<=v):b=a:=by rw [h,List.take_of_length_le (by omega)]
def rOK(r:Z4):Prop:=(r.On=2/\(r.Do=5\/r.Do=6\/r.Do=7))\/(r.On≠2/\(r.Do=1\/r.Do=2\/r.Do=3\/r.Do=4\/r.Do=8))
def abOK(a:Zh):Prop:=a.Kind=5->rOK a.Replace
abbrev Zq8(l:List Zh):Prop:=∀ a,a∈l->abOK a
abbrev Zdq(l:List Zg):Prop:=∀ c,c∈l->Zq8 c.Abilities
def Zk3(t:Zb):Prop:=Zq8 t.Abilities/\t.Abilities.length<=8
abbrev Zbc(l:List Zb):Prop:=∀ t,t∈l->Zk3 t
theorem Zai2:Zq8 []:=fun a h=>nomatch h
theorem Z49:Zq8 Zua.Abilities:=Zai2
theorem Zbe3{l:List Zh}{a:Zh}(h:Zq8 l)(hx:a∈l)(hk:a.Kind=5):rOK a.Replace:=h a hx hk
theorem Za9a{all:List Zb}(h:Zbc all)(i:Int):Zq8 (trV all i).Abilities:=by
 unfold trV
 split
 .exact Z49
 .cases hx:all[i.toNat]? with
  | none=>exact Z49
  | some t=>exact (h t (List.mem_of_getElem? hx)).1
theorem Za9b{all:List Zb}(h:Zbc all)(i:Int):(trV all i).Abilities.length<=8:=by
 unfold trV
 split
 .exact Nat.zero_le _
 .cases hx:all[i.toNat]? with
  | none=>exact Nat.zero_le _
  | some t=>exact (h t (List.mem_of_getElem? hx)).2
theorem Zbp6{cards:List Zg}(h:Zdq cards)(i:Int):Zq8 (Z2q cards i).Abilities:=by
 by_cases h0:i < 0
 .rw [Z9e (.inl h0)];exact Z49
 .cases hx:cards[i.toNat]? with
  | none=>rw [Z9e (.inr (by have:=List.getElem?_eq_none_iff.1 hx;omega))];exact Z49
  | some c=>rw [Zay0 hx (by omega)];exact h c (List.mem_of_getElem? hx)
theorem Za9c{cards:List Zg}(h:∀ c,c∈cards->c.Abilities.length<=8)(o:Zc):(baV cards o).Abilities.length<=8:=by
 show (Z2q cards _).Abilities.length<=8
 by_cases h0:(if o.Copy < 0 then o.Card else o.Copy) < 0
 .rw [Z9e (.inl h0)];exact Nat.zero_le _
 .cases hx:cards[(if o.Copy < 0 then o.Card else o.Copy).toNat]? with
  | none=>rw [Z9e (.inr (by have:=List.getElem?_eq_none_iff.1 hx;omega))];exact Nat.zero_le _
  | some c=>rw [Zay0 hx (by omega)];exact h c (List.mem_of_getElem? hx)
theorem Za9d{cards:List Zg}(h:Zdq cards)(o:Zc):Zq8 (baV cards o).Abilities:=Zbp6 h _
theorem Zbry{cards:List Zg}{o:Zc}{x:Zb}(hx:x=baV cards o)(hC:Zdq cards)(hB:∀ c,c∈cards->c.Abilities.length<=8):Zk3 x:=by subst hx;exact⟨Za9d hC o,Za9c hB o⟩
theorem Zbjh{t:Zb}(h:t.Abilities=[]):Zk3 t:=by unfold Zk3;rw [h];exact⟨Zai2,Nat.zero_le _⟩
theorem Z5a:Zbc []:=fun _ h=>nomatch h
theorem Zavy{l z:List Zb}{x:Zb}(hz:z=l++[x])(h:Zbc l)(hx:Zk3 x):Zbc z:=by
 subst hz;intro t ht
 rcases List.mem_append.1 ht with h1 | h1
 .exact h t h1
 .rw [List.mem_singleton.1 h1];exact hx
theorem Zbji{l z:List Zb}(hz:z=[]++l)(h:Zbc l):Zbc z:=by subst hz;exact h
theorem Zbjj{l z:List Zb}{x:Zb}(hz:∀ e,e∈z->e=x\/e∈l)(h:Zbc l)(hx:Zk3 x):Zbc z:=fun t ht=>(hz t ht).elim (fun e=>e▸hx) (h t)
theorem Zbp7{α:Type}{P:α->Prop}{l:List α}{v:Int}(h:∀ (k:Nat) x,(k:Int) < v->l[k]?=some x->P x)(hv:(l.length:Int)<=v):∀ x,x∈l->P x:=fun x hx=>by
 obtain⟨k,hk⟩:=List.mem_iff_getElem?.1 hx
 have:=(List.getElem?_eq_some_iff.1 hk).1
 exact h k x (by omega) hk
theorem shk{b:Bool}{o:Zc}(h:b=true->0<=o.Shield/\o.Shield<=1000000)(hb:b=true):0<=o.Shield/\o.Shield<=1000000:=h hb
abbrev ShOK(l:List Zc):Prop:=∀ o,o∈l->0<=o.Shield/\o.Shield<=1000000
theorem st_0{s a:Za}{v:Int}{x y:Z9}{z:List Z9}(e:s=a)(hx:s.Players[v.toNat]?=some x)(hy:y=x)(hz:z=s.Players.set v.toNat y):(⟨z,s.Objects,s.Battlefield,s.Exile,s.Stack,s.Waiting,s.Conts,s.Turn,s.Active,s.Step,s.Begun,s.Priority,s.Passes,s.NextId,s.NextStamp,s.Seed,s.Extra,s.Over,s.Winner⟩:Za)=a:=by
 subst hy;rw [hz,Z2r hx];exact e
theorem Zbvp{s a:Za}{v:Int}{x x8:Zai}{y:Zh}{m:List Zbb}{z w:List Zai}(e:s=a)(hx:s.Stack[v.toNat]?=some x)(hy:y=x.Ability)(hz:z=s.Stack.set v.toNat ⟨x.Id,x.Kind,x.Source,x.Control,x.X,x.Copy,y,x.Targets,x.Event⟩)(hx8:z[v.toNat]?=some x8)(hm:m=x8.Targets)(hw:w=z.set v.toNat ⟨x8.Id,x8.Kind,x8.Source,x8.Control,x8.X,x8.Copy,x8.Ability,m,x8.Event⟩):(⟨s.Players,s.Objects,s.Battlefield,s.Exile,w,s.Waiting,s.Conts,s.Turn,s.Active,s.Step,s.Begun,s.Priority,s.Passes,s.NextId,s.NextStamp,s.Seed,s.Extra,s.Over,s.Winner⟩:Za)=a:=by
 subst hy;subst hm
 rw [hw,Z2r hx8,hz,Z2r hx];exact e
theorem st_2{s a:Za}{v:Int}{x:Zad}{y:Zh}{z:List Zad}(e:s=a)(hx:s.Waiting[v.toNat]?=some x)(hy:y=x.Ability)(hz:z=s.Waiting.set v.toNat ⟨x.Source,x.Control,y,x.Event⟩):(⟨s.Players,s.Objects,s.Battlefield,s.Exile,s.Stack,z,s.Conts,s.Turn,s.Active,s.Step,s.Begun,s.Priority,s.Passes,s.NextId,s.NextStamp,s.Seed,s.Extra,s.Over,s.Winner⟩:Za)=a:=by
 subst hy;rw [hz,Z2r hx];exact e
theorem st_3{s a:Za}{v:Int}{x y:Zap}{m:List Int}{q:List Zv}{z w:List Zap}(e:s=a)(hx:s.Conts[v.toNat]?=some x)(hm:m=x.Objects)(hz:z=s.Conts.set v.toNat ⟨x.Stamp,x.Control,x.Source,x.Until,m,x.Mods⟩)(hy:z[v.toNat]?=some y)(hq:q=y.Mods)(hw:w=z.set v.toNat ⟨y.Stamp,y.Control,y.Source,y.Until,y.Objects,q⟩):(⟨s.Players,s.Objects,s.Battlefield,s.Exile,s.Stack,s.Waiting,w,s.Turn,s.Active,s.Step,s.Begun,s.Priority,s.Passes,s.NextId,s.NextStamp,s.Seed,s.Extra,s.Over,s.Winner⟩:Za)=a:=by
 subst hm;subst hq
 have:z=s.Conts:=hz.trans (Z2r hx)
 rw [hw,Z2r hy,this];exact e
theorem Zbe4{s t:Za}{v w:Int}{x:Z9}{l1 l2 l3:List Int}{z:List Z9}(e:t={ s with Players:=s.Players.take v.toNat })(hx:s.Players[v.toNat]?=some x)(h0:0<=v)(hw:w=v+1)(h1:l1=x.Library)(h2:l2=x.Hand)(h3:l3=x.Graveyard)(hz:z=t.Players++[⟨x.Life,x.Venom,x.Lands,x.Pool,x.Failed,x.Lost,l1,l2,l3⟩]):(⟨z,t.Objects,t.Battlefield,t.Exile,t.Stack,t.Waiting,t.Conts,t.Turn,t.Active,t.Step,t.Begun,t.Priority,t.Passes,t.NextId,t.NextStamp,t.Seed,t.Extra,t.Over,t.Winner⟩:Za)={ s with Players:=s.Players.take w.toNat }:=by
 subst h1;subst h2;subst h3;subst hz;subst e;rw [Zfk hx h0 hw]
theorem Zbe5{s t:Za}{v w:Int}{x:Zai}{y:Zh}{m:List Zbb}{z:List Zai}(e:t={ s with Stack:=s.Stack.take v.toNat })(hx:s.Stack[v.toNat]?=some x)(h0:0<=v)(hw:w=v+1)(h1:y=x.Ability)(h2:m=[]++x.Targets)(hz:z=t.Stack++[⟨x.Id,x.Kind,x.Source,x.Control,x.X,x.Copy,y,m,x.Event⟩]):(⟨t.Players,t.Objects,t.Battlefield,t.Exile,z,t.Waiting,t.Conts,t.Turn,t.Active,t.Step,t.Begun,t.Priority,t.Passes,t.NextId,t.NextStamp,t.Seed,t.Extra,t.Over,t.Winner⟩:Za)={ s with Stack:=s.Stack.take w.toNat }:=by
 subst h1;subst h2;subst hz;subst e;rw [Zfk hx h0 hw];rfl
theorem Zbe6{s t:Za}{v w:Int}{x:Zad}{y:Zh}{z:List Zad}(e:t={ s with Waiting:=s.Waiting.take v.toNat })(hx:s.Waiting[v.toNat]?=some x)(h0:0<=v)(hw:w=v+1)(h1:y=x.Ability)(hz:z=t.Waiting++[⟨x.Source,x.Control,y,x.Event⟩]):(⟨t.Players,t.Objects,t.Battlefield,t.Exile,t.Stack,z,t.Conts,t.Turn,t.Active,t.Step,t.Begun,t.Priority,t.Passes,t.NextId,t.NextStamp,t.Seed,t.Extra,t.Over,t.Winner⟩:Za)={ s with Waiting:=s.Waiting.take w.toNat }:=by
 subst h1;subst hz;subst e;rw [Zfk hx h0 hw]
theorem Zbe7{s t:Za}{v w:Int}{x:Zap}{l:List Int}{m:List Zv}{z:List Zap}(e:t={ s with Conts:=s.Conts.take v.toNat })(hx:s.Conts[v.toNat]?=some x)(h0:0<=v)(hw:w=v+1)(h1:l=x.Objects)(h2:m=[]++x.Mods)(hz:z=t.Conts++[⟨x.Stamp,x.Control,x.Source,x.Until,l,m⟩]):(⟨t.Players,t.Objects,t.Battlefield,t.Exile,t.Stack,t.Waiting,z,t.Turn,t.Active,t.Step,t.Begun,t.Priority,t.Passes,t.NextId,t.NextStamp,t.Seed,t.Extra,t.Over,t.Winner⟩:Za)={ s with Conts:=s.Conts.take w.toNat }:=by
 subst h1;subst h2;subst hz;subst e;rw [Zfk hx h0 hw];rfl
theorem Zbe8{s:Za}:(⟨[],s.Objects,s.Battlefield,s.Exile,s.Stack,s.Waiting,s.Conts,s.Turn,s.Active,s.Step,s.Begun,s.Priority,s.Passes,s.NextId,s.NextStamp,s.Seed,s.Extra,s.Over,s.Winner⟩:Za)={ s with Players:=s.Players.take (0:Int).toNat }:=rfl
theorem Zbe9{s t:Za}{v:Int}{o:List Zc}{b e:List Int}(h:t={ s with Players:=s.Players.take v.toNat })(hv:(s.Players.length:Int)<=v)(h1:o=[]++s.Objects)(h2:b=s.Battlefield)(h3:e=s.Exile):(⟨t.Players,o,b,e,[],t.Waiting,t.Conts,t.Turn,t.Active,t.Step,t.Begun,t.Priority,t.Passes,t.NextId,t.NextStamp,t.Seed,t.Extra,t.Over,t.Winner⟩:Za)={ s with Stack:=s.Stack.take (0:Int).toNat }:=by
 rw [List.take_of_length_le (by omega)] at h;subst h;subst h1;subst h2;subst h3;rfl
theorem Zbfa{s t:Za}{v:Int}(h:t={ s with Stack:=s.Stack.take v.toNat })(hv:(s.Stack.length:Int)<=v):(⟨t.Players,t.Objects,t.Battlefield,t.Exile,t.Stack,[],t.Conts,t.Turn,t.Active,t.Step,t.Begun,t.Priority,t.Passes,t.NextId,t.NextStamp,t.Seed,t.Extra,t.Over,t.Winner⟩:Za)={ s with Waiting:=s.Waiting.take (0:Int).toNat }:=by
 rw [List.take_of_length_le (by omega)] at h;subst h;rfl
theorem Zbfb{s t:Za}{v:Int}(h:t={ s with Waiting:=s.Waiting.take v.toNat })(hv:(s.Waiting.length:Int)<=v):(⟨t.Players,t.Objects,t.Battlefield,t.Exile,t.Stack,t.Waiting,[],t.Turn,t.Active,t.Step,t.Begun,t.Priority,t.Passes,t.NextId,t.NextStamp,t.Seed,t.Extra,t.Over,t.Winner⟩:Za)={ s with Conts:=s.Conts.take (0:Int).toNat }:=by
 rw [List.take_of_length_le (by omega)] at h;subst h;rfl
theorem Zbrz{s t:Za}{v:Int}{x:List Int}(h:t={ s with Conts:=s.Conts.take v.toNat })(hv:(s.Conts.length:Int)<=v)(hx:x=s.Extra):(⟨t.Players,t.Objects,t.Battlefield,t.Exile,t.Stack,t.Waiting,t.Conts,t.Turn,t.Active,t.Step,t.Begun,t.Priority,t.Passes,t.NextId,t.NextStamp,t.Seed,x,t.Over,t.Winner⟩:Za)=s:=by
 rw [List.take_of_length_le (by omega)] at h;subst h;subst hx;rfl
theorem Zbvq{s:Za}{o:Zc}{i:Int}{z:List Zc}(hi:i=ixO s.Objects o.Id)(hz:z=s.Objects.set i.toNat o):(⟨s.Players,z,s.Battlefield,s.Exile,s.Stack,s.Waiting,s.Conts,s.Turn,s.Active,s.Step,s.Begun,s.Priority,s.Passes,s.NextId,s.NextStamp,s.Seed,s.Extra,s.Over,s.Winner⟩:Za)={ s with Objects:=s.Objects.set (ixO s.Objects o.Id).toNat o }:=by subst hi;subst hz;rfl
theorem Zbr0{s t:Za}{o:Zc}{i:Int}{z:List Zc}(ht:t=s)(hi:i=ixO t.Objects o.Id)(hz:z=t.Objects.set i.toNat o):(⟨t.Players,z,t.Battlefield,t.Exile,t.Stack,t.Waiting,t.Conts,t.Turn,t.Active,t.Step,t.Begun,t.Priority,t.Passes,t.NextId,t.NextStamp,t.Seed,t.Extra,t.Over,t.Winner⟩:Za)={ s with Objects:=s.Objects.set (ixO s.Objects o.Id).toNat o }:=by subst ht;subst hi;subst hz;rfl
def amB(n:Int):Bool:=decide (1<=n/\n<=1000000)
def tokV(cards:List Zg)(n:Int):Bool:=match (if n < 0 then none else cards[n.toNat]?) with | some c=>c.Token | none=>false
theorem Zbdg{cards:List Zg}{n:Int}{c:Zg}(hx:cards[n.toNat]?=some c)(h:0<=n):tokV cards n=c.Token:=by unfold tokV;rw [if_neg (by omega),hx]
theorem Zbdh{cards:List Zg}{n:Int}(h:n < 0\/n>=(cards.length:Int)):tokV cards n=false:=by
 unfold tokV
 by_cases h0:n < 0
 .rw [if_pos h0]
 .rw [if_neg h0,List.getElem?_eq_none (by omega)]
def heB(s:Za)(id:Int):Bool:=(fdV s.Objects id).2&&decide ((fdV s.Objects id).1.Zone=0)
def evB(cards:List Zg)(s:Za)(e:Ze):Bool:=
 if e.Kind=1 then amB e.Amount&&(heB s e.Object||(decide (e.Object=0)&&Znh s.Players e.Player))
 else if e.Kind=2 then (fdV s.Objects e.Object).2&&decide (e.From=(fdV s.Objects e.Object).1.Zone/\e.To≠e.From/\0<=e.To/\e.To<=4/\0<=e.Player/\e.Player < (s.Players.length:Int))
 else if e.Kind=3\/e.Kind=14\/e.Kind=15\/e.Kind=17 then Znh s.Players e.Player
 else if e.Kind=4\/e.Kind=5\/e.Kind=16 then Znh s.Players e.Player&&amB e.Amount
 else if e.Kind=6 then heB s e.Object && !(fdV s.Objects e.Object).1.Tapped
 else if e.Kind=7 then heB s e.Object&&(fdV s.Objects e.Object).1.Tapped
 else if e.Kind=8\/e.Kind=9 then heB s e.Object&&(decide (0<=e.Counter/\e.Counter < 3)&&amB e.Amount)
 else if e.Kind=10 then Znh s.Players e.Player&&(tokV cards e.Card&&amB e.Amount)
 else if e.Kind=11 then (fdV s.Objects e.Object).2&&(decide ((fdV s.Objects e.Object).1.Zone=5)&&Znh s.Players e.Player)
 else if e.Kind=12 then heB s e.Object&&Znh s.Players e.Player
 else if e.Kind=13 then heB s e.Object&&heB s e.Source
 else false
theorem Zbvr{s:Za}(h:Ids s.Objects):heB s 0=false:=by
 unfold heB
 rcases Zlk s.Objects 0 with ⟨h1,_⟩ | ⟨x,h1,_,h3,h4⟩
 .rw [<- Z9d (by omega)];rfl
 .have:=h.1 x (List.mem_of_getElem? h3);omega
def mtB(s:Za)(all:List Zb)(e:Ze)(you src:Int)(f:Zm):Bool:=decide (0<=ixO s.Objects e.Object)&&Zrw (fdV s.Objects e.Object).1 (trV all (ixO s.Objects e.Object)) you src f
def enO(o:Zc):Zc:={ o with Zone:=0 }
def enT(cards:List Zg)(o:Zc)(p:Int):Zb:={ baV cards o with Control:=p }
def enB(cards:List Zg)(s:Za)(e:Ze)(you src:Int)(f:Zm):Bool:=decide (0<=ixO s.Objects e.Object)&&Zrw (enO (fdV s.Objects e.Object).1) (enT cards (fdV s.Objects e.Object).1 e.Player) you src f
def whB(s:Za)(p you who:Int):Bool:=Znh s.Players p&&(decide (who=0)||(decide (who=1/\p=you)||decide (who=2/\p≠you)))
def maB(cards:List Zg)(s:Za)(all:List Zb)(e:Ze)(r:Z4)(you src:Int):Bool:=
 if r.On≠e.Kind then false
 else if e.Kind=1 then (if r.Who=0 then decide (e.Object≠0)&&mtB s all e you src r.Filter else decide (e.Object=0)&&whB s e.Player you r.Who)
 else if e.Kind=2 then (if r.Do=5 then decide (e.From=0/\e.To=3)&&mtB s all e you src r.Filter else decide ((r.Do=6\/r.Do=7)/\e.To=0)&&enB cards s e you src r.Filter)
 else if e.Kind=8 then mtB s all e you src r.Filter
 else if e.Kind=3\/e.Kind=4\/e.Kind=5\/e.Kind=10 then whB s e.Player you r.Who
 else false
theorem Zbr1{o o':Zc}(h1:o'.Zone=o.Zone)(h2:o'.Id=o.Id)(h3:o'.Tapped=o.Tapped)(t:Zb)(you src:Int)(f:Zm):Zrw o' t you src f=Zrw o t you src f:=by unfold Zrw;rw [h1,h2,h3]
def seV(s:Za)(all:List Zb)(id:Int):Zc×Zb×Bool:=((fdV s.Objects id).1,trV all (ixO s.Objects id),decide (0<=ixO s.Objects id))
theorem Zbp8{s:Za}{all:List Zb}{id i:Int}(hi:i=ixO s.Objects id)(h:i < 0):(Zavx,Zua,false)=seV s all id:=by
 subst hi
 unfold seV;rw [<- Z9d h,<- Zbdc h,decide_eq_false (by omega)]
theorem Zo1{l:List Zc}{id i:Int}{x:Zc}(hi:i=ixO l id)(hx:l[i.toNat]?=some x)(h:0<=i):x=(fdV l id).1:=by subst hi;rw [<- Zso hx (by omega)]
theorem Zbp9{s:Za}{all:List Zb}{id i:Int}{x:Zc}(hi:i=ixO s.Objects id)(hx:s.Objects[i.toNat]?=some x)(h:0<=i)(h2:i>=(all.length:Int)):(x,Zua,true)=seV s all id:=by
 unfold seV;rw [<- Zo1 hi hx h,<- hi,<- Zbdd h2,decide_eq_true h]
theorem Zbr2{s:Za}{all:List Zb}{id i:Int}{x:Zc}{t:Zb}(hi:i=ixO s.Objects id)(hx:s.Objects[i.toNat]?=some x)(ht:all[i.toNat]?=some t)(h:0<=i):(x,t,true)=seV s all id:=by
 unfold seV;rw [<- Zo1 hi hx h,<- hi,<- Zbjf ht (by omega),decide_eq_true h]
def arE(o:Zc)(p:Int):Zc:={ o with Zone:=0,Control:=p }
theorem Zbvs{cards:List Zg}{s:Za}{e:Ze}{o:Zc×Bool}{t:Zb}(ho:o=fdV s.Objects e.Object)(ht:t=baV cards o.1) :
 ((⟨o.1.Id,o.1.Card,o.1.Owner,e.Player,0,o.1.Token,o.1.Tapped,o.1.Sick,o.1.Deadly,o.1.Damage,o.1.Counters,o.1.Stamp,o.1.Copy,o.1.Attack,o.1.Blocked,o.1.Blocks,o.1.Shield⟩:Zc),(⟨t.Name,t.Cost,t.Colors,t.Line,t.Power,t.Tough,t.Keys,t.Abilities,e.Player⟩:Zb),o.2)=(arE (fdV s.Objects e.Object).1 e.Player,enT cards (fdV s.Objects e.Object).1 e.Player,(fdV s.Objects e.Object).2):=by
 subst ht;subst ho;rfl
theorem Zbqa(o:Zc)(p:Int)(t:Zb)(you src:Int)(f:Zm):Zrw (arE o p) t you src f=Zrw (enO o) t you src f:=Zbr1 rfl rfl rfl t you src f
theorem Zai3(l:List Zc)(id:Int):(fdV l id).2=decide (0<=ixO l id):=by
 rcases Zlk l id with ⟨h,_⟩ | ⟨x,h1,_,h3,_⟩
 .rw [<- Z9d (by omega),decide_eq_false (by omega)]
 .rw [<- Zso h3 (by omega),decide_eq_true h1]
def ixf{α β:Type}(g:Int->α->List β)(l:List α)(v:Int):List β:=((l.take v.toNat).zipIdx.map fun p=>g (p.2:Int) p.1).flatten
def ixF{α β:Type}(g:Int->α->List β)(l:List α):List β:=ixf g l l.length
theorem Za4p{α β:Type}{g:Int->α->List β}{l:List α}:ixf g l 0=[]:=rfl
theorem Zo2{α β:Type}{g:Int->α->List β}{l:List α}{v w:Int}{x:α}(hx:l[v.toNat]?=some x)(h0:0<=v)(hw:w=v+1):ixf g l w=ixf g l v++g v x:=by
 have hl:=(List.getElem?_eq_some_iff.1 hx).1
 unfold ixf
 rw [Zfk hx h0 hw,List.zipIdx_append,List.map_append,List.flatten_append,List.length_take,Nat.min_eq_left (by omega)]
 simp [show ((v.toNat:Nat):Int)=v by omega]
theorem Zakv{α β:Type}{g:Int->α->List β}{l:List α}{v:Int}(hv:(l.length:Int)<=v):ixf g l v=ixF g l:=by unfold ixF ixf;rw [List.take_of_length_le (by omega),List.take_of_length_le (by omega)]
theorem Z01{α β:Type}{g:Int->α->List β}{l:List α}{y:β}:y∈ixF g l↔∃ (k:Nat) (x:α),l[k]?=some x/\y∈g k x:=by
 unfold ixF ixf
 rw [List.take_of_length_le (by omega)]
 simp only [List.mem_flatten,List.mem_map,Prod.exists]
 constructor
 .rintro ⟨l',⟨a,b,h1,rfl⟩,h2⟩
  exact⟨b,a,List.mem_zipIdx_iff_getElem?.1 h1,h2⟩
 .rintro ⟨k,x,h1,h2⟩
  exact⟨_,⟨x,k,List.mem_zipIdx_iff_getElem?.2 h1,rfl⟩,h2⟩
def abG(cards:List Zg)(s:Za)(all:List Zb)(e:Ze)(you id k:Int)(a:Zh):List Zd:=if a.Kind=5/\maB cards s all e a.Replace you id=true then [⟨12,id,k⟩] else []
def obG(cards:List Zg)(s:Za)(all:List Zb)(e:Ze)(i:Int)(o:Zc):List Zd:=if o.Zone=0 then ixF (abG cards s all e (trV all i).Control o.Id) (trV all i).Abilities else []
def arG(cards:List Zg)(s:Za)(all:List Zb)(e:Ze)(k:Int)(a:Zh):List Zd:=if (a.Kind=5/\(a.Replace.Do=6\/a.Replace.Do=7))/\a.Replace.Filter.Self=1/\maB cards s all e a.Replace e.Player e.Object=true then [⟨12,e.Object,k⟩] else []
def shO(s:Za)(e:Ze):List Zd:=if (e.Kind=1/\e.Object≠0)/\0<=ixO s.Objects e.Object/\(fdV s.Objects e.Object).1.Shield > 0 then [⟨12,e.Object,-1⟩] else []
def arO(cards:List Zg)(s:Za)(all:List Zb)(e:Ze):List Zd:=if e.Kind=2/\e.To=0 then ixF (arG cards s all e) (baV cards (fdV s.Objects e.Object).1).Abilities else []
def opO(cards:List Zg)(s:Za)(all:List Zb)(e:Ze):List Zd:=if evB cards s e=true then shO s e++(ixF (obG cards s all e) s.Objects++arO cards s all e) else []
def obA(l:List Zc)(i:Int):Zc:=(l[i.toNat]?).getD Zavx
theorem Za9e{l:List Zc}{i:Int}{x:Zc}(h:l[i.toNat]?=some x):x=obA l i:=by unfold obA;rw [h];rfl
theorem Za9f{l:List Zc}{id:Int}(h:(fdV l id).2=true):(fdV l id).1.Id=id:=by
 rcases Zlk l id with ⟨h1,_⟩ | ⟨x,h1,_,h3,h4⟩
 .rw [<- Z9d (by omega)] at h;exact nomatch h
 .rw [<- Zso h3 (by omega)];exact h4
theorem Zbnf{cards:List Zg}{s:Za}{e:Ze}(h:evB cards s e=true)(hk:e.Kind=2):(fdV s.Objects e.Object).2=true:=by
 unfold evB at h
 rw [if_neg (by omega),if_pos hk] at h
 revert h;cases (fdV s.Objects e.Object).2<;>simp
theorem Zbng{cards:List Zg}{s:Za}{e:Ze}(h:evB cards s e=true)(hk:e.Kind=2):0<=ixO s.Objects e.Object:=by
 have:=Zbnf h hk
 rw [Zai3] at this;exact of_decide_eq_true this
theorem seT{s:Za}{all:List Zb}{id i:Int}{o:Zc}{x:Zc×Zb×Bool}(h:x=seV s all id)(hi:Ids s.Objects)(hx:s.Objects[i.toNat]?=some o)(h0:0<=i)(hid:id=o.Id):x.2.1=trV all i:=by
 subst h;subst hid
 show trV all (ixO s.Objects o.Id)=_
 rw [Zv3 hi hx,show ((i.toNat:Nat):Int)=i by omega]
section
variable {cards:List Zg} {s:Za} {all:List Zb} {e:Ze}
theorem sh_y{x:Zc×Zb×Bool}{r:List Zd}(h:x=seV s all e.Object)(h2:x.2.2=true)(hk:e.Kind=1)(ho:e.Object≠0)(hs:x.1.Shield > 0)(hr:r=[]++[⟨12,x.1.Id,-1⟩]):r=shO s e:=by
 subst h
 have h2':0<=ixO s.Objects e.Object:=of_decide_eq_true h2
 unfold shO;rw [if_pos ⟨⟨hk,ho⟩,h2',hs⟩,hr]
 show []++[(⟨12,(fdV s.Objects e.Object).1.Id,-1⟩:Zd)]=_
 rw [Za9f (by rw [Zai3];exact decide_eq_true h2')];rfl
theorem sh_n{x:Zc×Zb×Bool}(h:x=seV s all e.Object)(hn:e.Kind=1->e.Object≠0->x.2.2=true->¬ x.1.Shield > 0):([]:List Zd)=shO s e:=by
 subst h
 unfold shO;rw [if_neg fun⟨⟨a,b⟩,c,d⟩=>hn a b (decide_eq_true c) d]
theorem Zbvt{i:Int}{x:Zc}{r:List Zd}(hi:i=ixO s.Objects e.Object)(h2:i>=0)(hx:s.Objects[i.toNat]?=some x)(hk:e.Kind=1)(ho:e.Object≠0)(hs:x.Shield > 0)(hr:r=[]++[⟨12,e.Object,-1⟩]):r=shO s e:=by
 rw [Zo1 hi hx h2] at hs
 unfold shO;rw [if_pos ⟨⟨hk,ho⟩,by omega,hs⟩,hr];rfl
theorem Zbvu{i:Int}(hi:i=ixO s.Objects e.Object)(hn:e.Kind=1->e.Object≠0->¬ i>=0):([]:List Zd)=shO s e:=by
 unfold shO;rw [if_neg fun⟨⟨a,b⟩,c,d⟩=>hn a b (by omega)]
theorem Zbvv{i:Int}{x:Zc}(hi:i=ixO s.Objects e.Object)(h2:i>=0)(hx:s.Objects[i.toNat]?=some x)(hs:¬ x.Shield > 0):([]:List Zd)=shO s e:=by
 rw [Zo1 hi hx h2] at hs
 unfold shO;rw [if_neg fun⟨⟨a,b⟩,c,d⟩=>hs d]
theorem ab_0{β α:Type}{g:Int->α->List β}{l:List α}{z:Int}{p:List β}:p=p++(if z=0 then ixf g l 0 else []):=by rw [Za4p];simp
theorem ab_y{Q p r:List Zd}{l:List Zh}{a:Zh}{v w z you id:Int}{m:Bool}(hr:r=p++[⟨12,id,v⟩])(h:p=Q++(if z=0 then ixf (abG cards s all e you id) l v else []))(hx:l[v.toNat]?=some a)(hm:m=maB cards s all e a.Replace you id)(hb:m=true)(hz:z=0)(hk:a.Kind=5)(h0:0<=v)(hw:w=v+1):r=Q++(if z=0 then ixf (abG cards s all e you id) l w else []):=by
 rw [hr,h,if_pos hz,if_pos hz,Zo2 hx h0 hw,List.append_assoc]
 unfold abG;rw [if_pos ⟨hk,hm.symm.trans hb⟩]
theorem ab_n{Q p:List Zd}{l:List Zh}{a:Zh}{v w z you id:Int}(h:p=Q++(if z=0 then ixf (abG cards s all e you id) l v else []))(hx:l[v.toNat]?=some a)(h0:0<=v)(hw:w=v+1)(hn:z=0->a.Kind=5->maB cards s all e a.Replace you id=true->False):p=Q++(if z=0 then ixf (abG cards s all e you id) l w else []):=by
 rw [h]
 by_cases hz:z=0
 .rw [if_pos hz,if_pos hz,Zo2 hx h0 hw]
  unfold abG;rw [if_neg fun⟨a,b⟩=>hn hz a b,List.append_nil]
 .rw [if_neg hz,if_neg hz]
theorem Zbvw{Q p r:List Zd}{l:List Zh}{a:Zh}{v w you:Int}{m:Bool}{o o':Zc}(hr:r=p++[⟨12,o'.Id,v⟩])(h:p=Q++(if o.Zone=0 then ixf (abG cards s all e you o.Id) l v else []))(hx:l[v.toNat]?=some a)(hm:m=maB cards s all e a.Replace you o'.Id)(hb:m=true)(ho:o'=o)(hz:o.Zone=0)(hk:a.Kind=5)(h0:0<=v)(hw:w=v+1):r=Q++(if o.Zone=0 then ixf (abG cards s all e you o.Id) l w else []):=by
 subst ho;exact ab_y hr h hx hm hb hz hk h0 hw
theorem Zbvx{Q p:List Zd}{l:List Zh}{a:Zh}{v w you:Int}{m:Bool}{o o':Zc}(h:p=Q++(if o.Zone=0 then ixf (abG cards s all e you o.Id) l v else []))(hx:l[v.toNat]?=some a)(hm:m=maB cards s all e a.Replace you o'.Id)(hb:¬ m=true)(ho:o'=o)(h0:0<=v)(hw:w=v+1):p=Q++(if o.Zone=0 then ixf (abG cards s all e you o.Id) l w else []):=by
 subst ho;exact ab_n h hx h0 hw fun _ _ h=>hb (hm.trans h)
theorem ob_e{S p:List Zd}{objs:List Zc}{o:Zc}{t:Zb}{l:List Zh}{v i w z id:Int}(h:p=(S++ixf (obG cards s all e) objs i)++(if z=0 then ixf (abG cards s all e t.Control id) l v else []))(hv:(l.length:Int)<=v)(hl:l=t.Abilities)(ht:t=trV all i)(ho:objs[i.toNat]?=some o)(hz:z=o.Zone)(hid:id=o.Id)(h0:0<=i)(hw:w=i+1):p=S++ixf (obG cards s all e) objs w:=by
 subst hz;subst hid;subst hl;subst ht
 rw [h,Zo2 ho h0 hw,List.append_assoc,Zakv hv];rfl
theorem ob_n{S p:List Zd}{objs:List Zc}{o:Zc}{i w:Int}(h:p=S++ixf (obG cards s all e) objs i)(ho:objs[i.toNat]?=some o)(hz:¬ o.Zone=0)(h0:0<=i)(hw:w=i+1):p=S++ixf (obG cards s all e) objs w:=by
 rw [h,Zo2 ho h0 hw]
 unfold obG;rw [if_neg hz,List.append_nil]
theorem ob_0{S p:List Zd}{objs:List Zc}(h:p=S):p=S++ixf (obG cards s all e) objs 0:=by rw [Za4p,List.append_nil];exact h
theorem op_n{x:Bool}(h:x=evB cards s e)(hx:¬ x=true):([]:List Zd)=opO cards s all e:=by unfold opO;rw [if_neg (h▸hx)]
theorem Zbnh{p:List Zd}{objs:List Zc}{v:Int}(h:p=shO s e++ixf (obG cards s all e) objs v)(hv:(objs.length:Int)<=v)(ho:objs=s.Objects)(he:evB cards s e=true)(hk:e.Kind=2->¬ e.To=0):p=opO cards s all e:=by
 subst ho
 unfold opO arO;rw [if_pos he,if_neg fun⟨a,b⟩=>hk a b,h,Zakv hv,List.append_nil]
theorem op_0{p:List Zd}{objs:List Zc}{l:List Zh}{v:Int}(h:p=shO s e++ixf (obG cards s all e) objs v)(hv:(objs.length:Int)<=v)(ho:objs=s.Objects):p=shO s e++(ixF (obG cards s all e) s.Objects++ixf (arG cards s all e) l 0):=by
 subst ho
 rw [h,Zakv hv,Za4p,List.append_nil]
theorem ar_y{p r A B:List Zd}{l:List Zh}{a:Zh}{v w id:Int}{m:Bool}(hr:r=p++[⟨12,id,v⟩])(h:p=A++(B++ixf (arG cards s all e) l v))(hx:l[v.toNat]?=some a)(hm:m=maB cards s all e a.Replace e.Player id)(hb:m=true)(hk:a.Kind=5)(hd:a.Replace.Do=6\/a.Replace.Do=7)(hs:a.Replace.Filter.Self=1)(hid:id=e.Object)(h0:0<=v)(hw:w=v+1):r=A++(B++ixf (arG cards s all e) l w):=by
 subst hid
 rw [hr,h,Zo2 hx h0 hw]
 unfold arG;rw [if_pos ⟨⟨hk,hd⟩,hs,hm.symm.trans hb⟩];simp only [List.append_assoc]
theorem ar_n{p A B:List Zd}{l:List Zh}{a:Zh}{v w:Int}(h:p=A++(B++ixf (arG cards s all e) l v))(hx:l[v.toNat]?=some a)(h0:0<=v)(hw:w=v+1)(hn:a.Kind=5->(a.Replace.Do=6\/a.Replace.Do=7)->¬ a.Replace.Filter.Self=1):p=A++(B++ixf (arG cards s all e) l w):=by
 rw [h,Zo2 hx h0 hw]
 unfold arG;rw [if_neg fun⟨⟨b,c⟩,d,_⟩=>hn b c d,List.append_nil]
theorem ar_m{p A B:List Zd}{l:List Zh}{a:Zh}{v w id:Int}{m:Bool}(h:p=A++(B++ixf (arG cards s all e) l v))(hx:l[v.toNat]?=some a)(hm:m=maB cards s all e a.Replace e.Player id)(hb:¬ m=true)(hid:id=e.Object)(h0:0<=v)(hw:w=v+1):p=A++(B++ixf (arG cards s all e) l w):=by
 subst hid
 rw [h,Zo2 hx h0 hw]
 unfold arG;rw [if_neg fun⟨_,_,d⟩=>hb (hm.trans d),List.append_nil]
theorem Zbni{p:List Zd}{l:List Zh}{v:Int}(h:p=shO s e++(ixF (obG cards s all e) s.Objects++ixf (arG cards s all e) l v))(hv:(l.length:Int)<=v)(hl:l=(baV cards (fdV s.Objects e.Object).1).Abilities)(he:evB cards s e=true)(hk:e.Kind=2)(ht:e.To=0):p=opO cards s all e:=by
 subst hl
 unfold opO arO;rw [if_pos he,if_pos ⟨hk,ht⟩,h,Zakv hv]
theorem op_x{i:Int}{p:Prop}(he:evB cards s e=true)(hk:e.Kind=2)(hi:i=ixO s.Objects e.Object)(hn:¬ i>=0):p:=absurd (Zbng he hk) (by omega)
end
def nI(l:List Zd)(x:Zd):Bool:=decide (x∉l)
theorem nI_f{l:List Zd}{x:Zd}{b:Bool}(h:b=true↔x∈l)(hb:b=true):nI l x=false:=decide_eq_false fun k=>k (h.1 hb)
theorem nI_t{l:List Zd}{x:Zd}{b:Bool}(h:b=true↔x∈l)(hb:b=false):nI l x=true:=decide_eq_true fun k=>by rw [h.2 k] at hb;exact nomatch hb
theorem Zbvy{α:Type}{l:List α}{v:Int}{x y:α}(hx:l[v.toNat]?=some x)(e:x=y):true=true↔y∈l:=⟨fun _=>e▸List.mem_of_getElem? hx,fun _=>rfl⟩
theorem Zbvz{α:Type}{l:List α}{v:Int}{y:α}(h:∀ (k:Nat) x,(k:Int) < v->l[k]?=some x->x≠y)(hv:(l.length:Int)<=v):false=true↔y∈l:=⟨fun h=>absurd h (by decide),fun hy=>by
 obtain⟨k,hk⟩:=List.mem_iff_getElem?.1 hy
 have:=(List.getElem?_eq_some_iff.1 hk).1
 exact absurd rfl (h k _ (by omega) hk)⟩
def Zv4:Z4:=⟨0,0,(⟨0,0,0,0,0,0,0,([]:List UInt8),0,0,(⟨0,0⟩:Zj),(⟨0,0⟩:Zj),(⟨0,0⟩:Zj)⟩:Zm),0,0,0,0⟩
def Zqv:Ze:=⟨0,0,0,0,0,0,0,0,0,0,false,false,(⟨0,0,0⟩:A3 Int)⟩
def suV(a b:Int):Int:=clV (IntKind.wrap .i64 (clV a - clV b))
def adV(a b:Int):Int:=clV (IntKind.wrap .i64 (clV a+clV b))
def ofL(l:List Int):A3 Int:=⟨l[0]?.getD 0,l[1]?.getD 0,l[2]?.getD 0⟩
def ctV(x:A3 Int)(c n:Int):A3 Int:=if 0<=c/\c < 3 then ofL (x.list.set c.toNat (Zsy (adV (x.list[c.toNat]?.getD 0) n) 0)) else x
theorem Zbsb{y:A3 Int}{l:List Int}(h:y.list=l):y=ofL l:=by subst h;rfl
theorem Zbnj{x:A3 Int}{c n:Int}(h:¬ (0<=c/\c < 3)):x=ctV x c n:=by unfold ctV;rw [if_neg h]
theorem Zbnk{x y:A3 Int}{c n v w:Int}(hy:y.list=x.list.set c.toNat (Zsy w 0))(hw:w=adV v n)(hx:x.list[c.toNat]?=some v)(h0:0<=c)(h1:c < 3):y=ctV x c n:=by
 subst hw
 unfold ctV;rw [if_pos ⟨h0,h1⟩,hx];exact Zbsb hy
theorem Zbsc{x y:A3 Int}{c n v w:Int}(hy:y.list=x.list.set c.toNat (Zsy 0 w))(hw:w=adV v n)(hx:x.list[c.toNat]?=some v)(h0:0<=c)(h1:c < 3):y=ctV x c n:=Zbnk (by rw [hy];congr 1;unfold Zsy;split<;>split<;>omega) hw hx h0 h1
section
variable {cards:List Zg} {s:Za} {all:List Zb} {e:Ze} {o:Zd}
def abL(cards:List Zg)(s:Za)(all:List Zb)(id:Int):List Zh:=if (fdV s.Objects id).1.Zone=0 then (trV all (ixO s.Objects id)).Abilities else (baV cards (fdV s.Objects id).1).Abilities
def efV(cards:List Zg)(s:Za)(all:List Zb)(o:Zd):Z4:=if o.B < 0 then Zv4 else match (abL cards s all o.A)[o.B.toNat]? with | some a=>a.Replace | none=>Zv4
theorem Zavz(hI:Ids s.Objects)(hA:Zbc all)(hC:Zdq cards)(h:o∈opO cards s all e):0<=ixO s.Objects o.A/\(o.B = -1\/(0<=o.B/\(∃ a,(abL cards s all o.A)[o.B.toNat]?=some a/\rOK a.Replace)/\((fdV s.Objects o.A).1.Zone≠0->o.A=e.Object))):=by
 unfold opO at h
 by_cases he:evB cards s e=true
 .rw [if_pos he] at h
  rcases List.mem_append.1 h with h | h
  .unfold shO at h
   split at h
   .rename_i hc
    rw [List.mem_singleton.1 h];exact⟨hc.2.1,.inl rfl⟩
   .exact nomatch h
  .rcases List.mem_append.1 h with h | h
   .obtain⟨k,x,hk,h⟩:=Z01.1 h
    unfold obG at h
    by_cases hz:x.Zone=0
    .rw [if_pos hz] at h
     obtain⟨j,a,hj,h⟩:=Z01.1 h
     unfold abG at h
     split at h
     .rename_i hc
      have hi:=Zv3 hI hk
      have hf:x=(fdV s.Objects x.Id).1:=Zo1 hi.symm hk (by omega)
      have hb:abL cards s all x.Id=(trV all k).Abilities:=by unfold abL;rw [<- hf,if_pos hz,hi]
      rw [List.mem_singleton.1 h]
      refine⟨by show 0<=ixO s.Objects x.Id;omega,.inr ⟨by show 0<=(j:Int);omega,⟨a,?_,Zbe3 (Za9a hA k) (List.mem_of_getElem? hj) hc.1⟩,fun hn=>absurd (by rw [<- hf];exact hz) hn⟩⟩
      rw [hb];exact hj
     .exact nomatch h
    .rw [if_neg hz] at h;exact nomatch h
   .unfold arO at h
    by_cases hc:e.Kind=2/\e.To=0
    .rw [if_pos hc] at h
     obtain⟨j,a,hj,h⟩:=Z01.1 h
     unfold arG at h
     split at h
     .rename_i hd
      have hz:¬ (fdV s.Objects e.Object).1.Zone=0:=by
       have h3:=he
       unfold evB at h3
       rw [if_neg (by omega),if_pos hc.1,Bool.and_eq_true,decide_eq_true_eq] at h3
       omega
      rw [List.mem_singleton.1 h]
      refine⟨Zbng he hc.1,.inr ⟨by show 0<=(j:Int);omega,⟨a,?_,Zbe3 (Za9d hC _) (List.mem_of_getElem? hj) hd.1.1⟩,fun _=>rfl⟩⟩
      show (abL cards s all e.Object)[((j:Nat):Int).toNat]?=_
      unfold abL;rw [if_neg hz];exact hj
     .exact nomatch h
    .rw [if_neg hc] at h;exact nomatch h
 .rw [if_neg he] at h;exact nomatch h
theorem Zbv0(hI:Ids s.Objects)(hA:Zbc all)(hC:Zdq cards)(h:o∈opO cards s all e)(hB:¬ o.B = -1):rOK (efV cards s all o):=by
 obtain⟨_,h1 | ⟨h0,⟨a,ha,hr⟩,_⟩⟩:=Zavz hI hA hC h
 .exact absurd h1 hB
 .unfold efV;rw [if_neg (by omega),ha];exact hr
theorem Zbfc(hI:Ids s.Objects)(hA:Zbc all)(hC:Zdq cards)(h:o∈opO cards s all e)(hB:¬ o.B = -1):0<=ixO s.Objects o.A/\0<=o.B/\o.B < ((abL cards s all o.A).length:Int):=by
 obtain⟨h3,h1 | ⟨h0,⟨a,ha,hr⟩,_⟩⟩:=Zavz hI hA hC h
 .exact absurd h1 hB
 .have:=(List.getElem?_eq_some_iff.1 ha).1;exact⟨h3,h0,by omega⟩
theorem abA1{x y:Zc×Zb×Bool}{p:Int}{q:Bool}(h:x=seV s all o.A)(hz:¬ x.1.Zone=0)(hy:y=(arE (fdV s.Objects e.Object).1 p,enT cards (fdV s.Objects e.Object).1 p,q))(hI:Ids s.Objects)(hA:Zbc all)(hC:Zdq cards)(hm:o∈opO cards s all e):0<=o.B->y.2.1.Abilities=abL cards s all o.A:=by
 intro hB
 subst h;subst hy
 have hz':¬ (fdV s.Objects o.A).1.Zone=0:=hz
 obtain⟨_,h1 | ⟨_,_,h2⟩⟩:=Zavz hI hA hC hm
 .omega
 .unfold abL;rw [if_neg hz',h2 hz'];rfl
theorem abA2{x:Zc×Zb×Bool}(h:x=seV s all o.A)(hz:x.1.Zone=0):0<=o.B->x.2.1.Abilities=abL cards s all o.A:=by
 intro _;subst h
 have hz':(fdV s.Objects o.A).1.Zone=0:=hz
 unfold abL;rw [if_pos hz'];rfl
theorem ef_n(h:o.B < 0):Zv4=efV cards s all o:=by unfold efV;rw [if_pos h]
theorem ef_f{l:List Zh}(hl:0<=o.B->l=abL cards s all o.A)(h0:0<=o.B)(h:o.B>=(l.length:Int)):Zv4=efV cards s all o:=by unfold efV;rw [if_neg (by omega),<- hl h0,List.getElem?_eq_none (by omega)]
theorem ef_y{l:List Zh}{a:Zh}(hl:0<=o.B->l=abL cards s all o.A)(h0:0<=o.B)(hx:l[o.B.toNat]?=some a):a.Replace=efV cards s all o:=by unfold efV;rw [if_neg (by omega),<- hl h0,hx]
theorem abR1{i:Int}{x:Zc}{t:Zb}(hi:i=ixO s.Objects o.A)(hx:s.Objects[i.toNat]?=some x)(h0:0<=i)(hz:¬ x.Zone=0)(ht:t=baV cards x):t.Abilities=abL cards s all o.A:=by
 subst ht;rw [Zo1 hi hx h0] at hz ⊢
 unfold abL;rw [if_neg hz]
theorem abR2{i:Int}{x:Zc}{t:Zb}(hi:i=ixO s.Objects o.A)(hx:s.Objects[i.toNat]?=some x)(h0:0<=i)(ht:t=trV all i):x.Zone=0->t.Abilities=abL cards s all o.A:=by
 intro hz
 subst ht;rw [Zo1 hi hx h0] at hz
 unfold abL;rw [if_pos hz,hi]
def amE(s:Za)(e:Ze)(v:Bool):Za×Ze×Bool:=if v=true/\e.Amount<=0 then (s,Zqv,false) else (s,e,true)
def apR(s:Za)(e:Ze)(r:Z4):Za×Ze×Bool:=
 if r.Do=1\/r.Do=8 then (s,Zqv,false)
 else if r.Do=2 then amE s { e with Amount:=suV e.Amount r.N } true
 else if r.Do=3 then amE s { e with Amount:=muV 2 e.Amount } true
 else if r.Do=4 then amE s { e with Amount:=adV e.Amount r.N } true
 else if r.Do=5 then (s,{ e with To:=r.Zone },true)
 else if r.Do=6 then (s,{ e with Tapped:=true },true)
 else if r.Do=7 then (s,{ e with Extra:=ctV e.Extra r.Counter r.N },true)
 else amE s e true
def shA(s:Za)(e:Ze)(x:Zc):Za×Ze×Bool:=
 amE { s with Objects:=s.Objects.set (ixO s.Objects x.Id).toNat { x with Shield:=IntKind.wrap .i64 (x.Shield - Zia x.Shield e.Amount) } } { e with Amount:=IntKind.wrap .i64 (e.Amount - Zia x.Shield e.Amount) } true
def apV(cards:List Zg)(s:Za)(all:List Zb)(e:Ze)(o:Zd):Za×Ze×Bool:=
 if o∈opO cards s all e then (if o.B = -1 then shA s e (fdV s.Objects o.A).1 else apR s e (efV cards s all o)) else (s,e,true)
theorem mm{b:Bool}{l:List Zd}(h:b=true↔o∈l)(hl:l=opO cards s all e)(hb:b=true):o∈opO cards s all e:=by rw [<- hl];exact h.1 hb
theorem Zbnl{b:Bool}{l:List Zd}(h:b=true↔o∈l)(hl:l=opO cards s all e)(hb:b=false):(s,e,true)=apV cards s all e o:=by
 unfold apV;rw [if_neg fun k=>by rw [h.2 (by rw [hl];exact k)] at hb;exact nomatch hb]
theorem ap_r(hm:o∈opO cards s all e)(hB:¬ o.B = -1):apV cards s all e o=apR s e (efV cards s all o):=by unfold apV;rw [if_pos hm,if_neg hB]
theorem ap_s(hm:o∈opO cards s all e)(hB:o.B = -1):apV cards s all e o=shA s e (fdV s.Objects o.A).1:=by unfold apV;rw [if_pos hm,if_pos hB]
theorem Zbnm{t:Za}{x:Zc×Bool}(ht:t=s)(hx:x=fdV t.Objects o.A)(hI:Ids s.Objects)(hA:Zbc all)(hC:Zdq cards)(hm:o∈opO cards s all e):0<=ixO t.Objects x.1.Id:=by
 subst ht;subst hx
 have:=(Zavz hI hA hC hm).1
 rw [Za9f (by rw [Zai3];exact decide_eq_true this)];exact this
theorem ap_j{t:Za}{r:Z4}{e':Ze}{v:Bool}(ht:t=s)(hr:r=efV cards s all o)(hm:o∈opO cards s all e)(hB:¬ o.B = -1)(h:apR s e r=amE s e' v):apV cards s all e o=amE t e' v:=by
 subst ht;subst hr;rw [ap_r hm hB];exact h
theorem ap_d{t:Za}{r:Z4}(ht:t=s)(hr:r=efV cards s all o)(hm:o∈opO cards s all e)(hB:¬ o.B = -1)(h:r.Do=1\/r.Do=8):(t,Zqv,false)=apV cards s all e o:=by
 subst ht;subst hr;rw [ap_r hm hB];unfold apR;rw [if_pos h]
end
section
variable {s:Za} {e:Ze} {r:Z4} {x:Int}
theorem Zbnn(h:r.Do=2)(hx:x=suV e.Amount r.N):apR s e r=amE s ⟨e.Kind,e.Source,e.Object,e.Player,x,e.From,e.To,e.Cause,e.Counter,e.Card,e.Combat,e.Tapped,e.Extra⟩ true:=by subst hx;unfold apR;rw [if_neg (by omega),if_pos h]
theorem Zbno(h:r.Do=3)(hx:x=muV 2 e.Amount):apR s e r=amE s ⟨e.Kind,e.Source,e.Object,e.Player,x,e.From,e.To,e.Cause,e.Counter,e.Card,e.Combat,e.Tapped,e.Extra⟩ true:=by subst hx;unfold apR;rw [if_neg (by omega),if_neg (by omega),if_pos h]
theorem Zbnp(h:r.Do=4)(hx:x=adV e.Amount r.N):apR s e r=amE s ⟨e.Kind,e.Source,e.Object,e.Player,x,e.From,e.To,e.Cause,e.Counter,e.Card,e.Combat,e.Tapped,e.Extra⟩ true:=by subst hx;unfold apR;rw [if_neg (by omega),if_neg (by omega),if_neg (by omega),if_pos h]
theorem Zbnq(h:r.Do=5):apR s e r=(s,⟨e.Kind,e.Source,e.Object,e.Player,e.Amount,e.From,r.Zone,e.Cause,e.Counter,e.Card,e.Combat,e.Tapped,e.Extra⟩,true):=by unfold apR;rw [if_neg (by omega),if_neg (by omega),if_neg (by omega),if_neg (by omega),if_pos h]
theorem Zbnr(h:r.Do=6):apR s e r=(s,⟨e.Kind,e.Source,e.Object,e.Player,e.Amount,e.From,e.To,e.Cause,e.Counter,e.Card,e.Combat,true,e.Extra⟩,true):=by unfold apR;rw [if_neg (by omega),if_neg (by omega),if_neg (by omega),if_neg (by omega),if_neg (by omega),if_pos h]
theorem Zbns{z:A3 Int}(h:r.Do=7)(hz:z=ctV e.Extra r.Counter r.N):apR s e r=(s,⟨e.Kind,e.Source,e.Object,e.Player,e.Amount,e.From,e.To,e.Cause,e.Counter,e.Card,e.Combat,e.Tapped,z⟩,true):=by subst hz;unfold apR;rw [if_neg (by omega),if_neg (by omega),if_neg (by omega),if_neg (by omega),if_neg (by omega),if_neg (by omega),if_pos h]
theorem Zbv1(h:r.Do=1\/r.Do=8):apR s e r=(s,Zqv,false):=by unfold apR;rw [if_pos h]
theorem Zbv2(h:¬ (1<=r.Do/\r.Do<=8)):apR s e r=amE s e true:=by unfold apR;rw [if_neg (by omega),if_neg (by omega),if_neg (by omega),if_neg (by omega),if_neg (by omega),if_neg (by omega),if_neg (by omega)]
theorem Zbfd{s:Za}{e:Ze}{w:Za×Ze×Bool}(h:w=(s,e,true)):w=amE s e false:=by rw [h];unfold amE;rw [if_neg fun k=>nomatch k.1]
theorem Zbnt{s:Za}{e:Ze}{v:Bool}{w:Za×Ze×Bool}(h:w=amE s e v)(hv:v=true)(ha:e.Amount<=0):(s,Zqv,false)=w:=by rw [h];unfold amE;rw [if_pos ⟨hv,ha⟩]
theorem Zbnu{s:Za}{e:Ze}{v:Bool}{w:Za×Ze×Bool}(h:w=amE s e v)(hv:v=true->¬ e.Amount<=0):(s,e,true)=w:=by rw [h];unfold amE;rw [if_neg fun k=>hv k.1 k.2]
theorem Zbsd(h:rOK r):1<=r.Do/\r.Do<=8:=by unfold rOK at h;omega
end
theorem sfA{l m:List Zn}(h:Zah l l=true)(k:Zah m m=true):Zah (l++m) (l++m)=true:=by rw [Zwj _ _ _ _ rfl,h,k];rfl
theorem sfI(k:IntKind)(n:Int):Zah (cI k n) (cI k n)=true:=by simp [cI,Zah,Zmd]
theorem sfB(b:Bool):Zah (cB b) (cB b)=true:=by simp [cB,Zah,Zmd]
theorem sfS(b:List UInt8):Zah (cS b) (cS b)=true:=by simp [cS,Zah,Zmd]
theorem sf3(x:A3 Int):Zah ((cA3 (cI .i64)) x) ((cA3 (cI .i64)) x)=true:=by simp [cA3,cI,Zah,Zmd,A3.list]
theorem sf5(x:A5 Int):Zah ((cA5 (cI .i64)) x) ((cA5 (cI .i64)) x)=true:=by simp [cA5,cI,Zah,Zmd,A5.list]
theorem sf6(x:A6 Int):Zah ((cA6 (cI .i64)) x) ((cA6 (cI .i64)) x)=true:=by simp [cA6,cI,Zah,Zmd,A6.list]
theorem Zbl2(x:Zj):Zah (Zcf x) (Zcf x)=true:=by
 unfold Zcf;repeat' first | exact sfI _ _ | exact sfB _ | exact sfS _ | exact sf3 _ | exact sf5 _ | exact sf6 _ | refine sfA ?_ ?_
theorem Zbjk(x:Zgy):Zah (Zet x) (Zet x)=true:=by
 unfold Zet;repeat' first | exact sfI _ _ | exact sfB _ | exact sfS _ | exact sf3 _ | exact sf5 _ | exact sf6 _ | refine sfA ?_ ?_
theorem Zsp(x:Zm):Zah (Z0 x) (Z0 x)=true:=by
 unfold Z0;repeat' first | exact sfI _ _ | exact sfB _ | exact sfS _ | exact sf3 _ | exact sf5 _ | exact sf6 _ | exact Zbl2 _ | refine sfA ?_ ?_
theorem Zbjl(x:Zb0):Zah (Za5 x) (Za5 x)=true:=by
 unfold Za5;repeat' first | exact sfI _ _ | exact sfB _ | exact sfS _ | exact sf3 _ | exact sf5 _ | exact sf6 _ | exact Zsp _ | exact Zbjk _ | refine sfA ?_ ?_
theorem Zbdi(x:Z2):Zah (Zav x) (Zav x)=true:=by
 unfold Zav;repeat' first | exact sfI _ _ | exact sfB _ | exact sfS _ | exact sf3 _ | exact sf5 _ | exact sf6 _ | refine sfA ?_ ?_
theorem Zbl3(x:Ze0):Zah (Ze4 x) (Ze4 x)=true:=by
 unfold Ze4;repeat' first | exact sfI _ _ | exact sfB _ | exact sfS _ | exact sf3 _ | exact sf5 _ | exact sf6 _ | exact Zbdi _ | refine sfA ?_ ?_
theorem Zbse(x:Zv):Zah (Zu x) (Zu x)=true:=by
 unfold Zu;repeat' first | exact sfI _ _ | exact sfB _ | exact sfS _ | exact sf3 _ | exact sf5 _ | exact sf6 _ | exact Zsp _ | refine sfA ?_ ?_
theorem Zbqb(x:Za9):Zah (Zao x) (Zao x)=true:=by
 unfold Zao;repeat' first | exact sfI _ _ | exact sfB _ | exact sfS _ | exact sf3 _ | exact sf5 _ | exact sf6 _ | exact Zsp _ | refine sfA ?_ ?_
theorem Zbfe(x:Zb4):Zah (Zdb x) (Zdb x)=true:=by
 unfold Zdb;repeat' first | exact sfI _ _ | exact sfB _ | exact sfS _ | exact sf3 _ | exact sf5 _ | exact sf6 _ | exact Zsp _ | refine sfA ?_ ?_
theorem Zbff(x:Z4):Zah (Zat x) (Zat x)=true:=by
 unfold Zat;repeat' first | exact sfI _ _ | exact sfB _ | exact sfS _ | exact sf3 _ | exact sf5 _ | exact sf6 _ | exact Zsp _ | refine sfA ?_ ?_
theorem Zbjm(x:Zbb):Zah (Zar x) (Zar x)=true:=by
 unfold Zar;repeat' first | exact sfI _ _ | exact sfB _ | exact sfS _ | exact sf3 _ | exact sf5 _ | exact sf6 _ | refine sfA ?_ ?_
theorem Za9g(x:Ze):Zah (Zy x) (Zy x)=true:=by
 unfold Zy;repeat' first | exact sfI _ _ | exact sfB _ | exact sfS _ | exact sf3 _ | exact sf5 _ | exact sf6 _ | refine sfA ?_ ?_
theorem Zbjn(x:Zc):Zah (Zi x) (Zi x)=true:=by
 unfold Zi;repeat' first | exact sfI _ _ | exact sfB _ | exact sfS _ | exact sf3 _ | exact sf5 _ | exact sf6 _ | refine sfA ?_ ?_
theorem Zbjo(x:Zd):Zah (Zf x) (Zf x)=true:=by
 unfold Zf;repeat' first | exact sfI _ _ | exact sfB _ | exact sfS _ | exact sf3 _ | exact sf5 _ | exact sf6 _ | refine sfA ?_ ?_
theorem sm{p:Prop}(h:p:=by intro h;subst h;first | rfl | (exfalso;omega) | grind [Zbjk,Zsp,Zbjl,Zbdi,Zbl3,Zbse,Zbqb,Zbfe,Zbff,Zbjm,Za9g,Zbjn,sf6]):p:=h
theorem Zbqc{α β:Type}{g:Int->α->List β}{l:List α}{n:Nat}{y:β}(h:y∈ixf g l n):∃ (k:Nat) (x:α),k < n/\l[k]?=some x/\y∈g k x:=by
 unfold ixf at h
 simp only [List.mem_flatten,List.mem_map,Prod.exists] at h
 obtain⟨l',⟨a,b,h1,rfl⟩,h2⟩:=h
 have h3:=List.mem_zipIdx_iff_getElem?.1 h1
 have h3:(l.take n)[b]?=some a:=h3
 rw [List.getElem?_take] at h3
 split at h3
 .exact⟨b,a,by assumption,h3,h2⟩
 .exact nomatch h3
theorem Za2e{α β:Type}{g:Int->α->List β}{l:List α}(h1:∀ (k:Nat) x,l[k]?=some x->(g k x).Nodup)(h2:∀ (j k:Nat) x y,j < k->l[j]?=some x->l[k]?=some y->∀ a,a∈g j x->a∈g k y->False):∀ n:Nat,n<=l.length->(ixf g l n).Nodup
 | 0,_=>by rw [show ((0:Nat):Int)=0 from rfl,Za4p];exact List.nodup_nil
 | n+1,hn=>by
  have hx:l[n]?=some l[n]:=List.getElem?_eq_getElem (by omega)
  rw [Zo2 (v:=(n:Int)) (x:=l[n]) hx (by omega) (by omega)]
  refine List.nodup_append.2 ⟨Za2e h1 h2 n (by omega),h1 n _ hx,fun a ha b hb e=>?_⟩
  subst e
  obtain⟨k,x,hk,hkx,hy⟩:=Zbqc ha
  exact h2 k n x _ hk hkx hx a hy hb
theorem Zai4{α β:Type}{g:Int->α->List β}{l:List α}(h1:∀ (k:Nat) x,l[k]?=some x->(g k x).Nodup)(h2:∀ (j k:Nat) x y,j < k->l[j]?=some x->l[k]?=some y->∀ a,a∈g j x->a∈g k y->False):(ixF g l).Nodup:=Za2e h1 h2 l.length (Nat.le_refl _)
theorem Zay3{cards:List Zg}{s:Za}{all:List Zb}{e:Ze}{you id k:Int}{a:Zh}{o:Zd}(h:o∈abG cards s all e you id k a):o=⟨12,id,k⟩:=by
 unfold abG at h
 split at h
 .exact List.mem_singleton.1 h
 .exact nomatch h
theorem Zay4{cards:List Zg}{s:Za}{all:List Zb}{e:Ze}{k:Int}{a:Zh}{o:Zd}(h:o∈arG cards s all e k a):o=⟨12,e.Object,k⟩:=by
 unfold arG at h
 split at h
 .exact List.mem_singleton.1 h
 .exact nomatch h
theorem Zay5{cards:List Zg}{s:Za}{all:List Zb}{e:Ze}{i:Int}{x:Zc}{o:Zd}(h:o∈obG cards s all e i x):x.Zone=0/\o.A=x.Id/\0<=o.B:=by
 unfold obG at h
 split at h
 .rename_i hz
  obtain⟨j,a,hj,h⟩:=Z01.1 h
  rw [Zay3 h];exact⟨hz,rfl,by show 0<=(j:Int);omega⟩
 .exact nomatch h
theorem Za9h{cards:List Zg}{s:Za}{all:List Zb}{e:Ze}(hI:Ids s.Objects):(opO cards s all e).Nodup:=by
 unfold opO
 by_cases he:evB cards s e=true
 .rw [if_pos he]
  have hB:∀ o,o∈ixF (obG cards s all e) s.Objects->∃ (k:Nat) (x:Zc),s.Objects[k]?=some x/\x.Zone=0/\o.A=x.Id/\0<=o.B:=fun o ho=>by
   obtain⟨k,x,hk,h⟩:=Z01.1 ho
   exact⟨k,x,hk,Zay5 h⟩
  have hC:∀ o,o∈arO cards s all e->o.A=e.Object/\0<=o.B/\¬ (fdV s.Objects e.Object).1.Zone=0:=fun o ho=>by
   unfold arO at ho
   by_cases hc:e.Kind=2/\e.To=0
   .rw [if_pos hc] at ho
    obtain⟨j,a,hj,h⟩:=Z01.1 ho
    rw [Zay4 h]
    refine⟨rfl,by show 0<=(j:Int);omega,?_⟩
    have h3:=he
    unfold evB at h3
    rw [if_neg (by omega),if_pos hc.1,Bool.and_eq_true,decide_eq_true_eq] at h3
    omega
   .rw [if_neg hc] at ho;exact nomatch ho
  refine List.nodup_append.2 ⟨?_,List.nodup_append.2 ⟨?_,?_,?_⟩,?_⟩
  .unfold shO;split
   .simp
   .exact List.nodup_nil
  .refine Zai4 (fun k x hk=>?_) (fun j k x y hjk hj hk a ha hb=>?_)
   .unfold obG;split
    .refine Zai4 (fun i a hi=>?_) (fun i j a b hij hi hj o ha hb=>?_)
     .unfold abG;split
      .simp
      .exact List.nodup_nil
     .have h1:=Zay3 ha
      have h2:=Zay3 hb
      rw [h1] at h2
      have:=(Zd.mk.inj h2).2.2
      omega
    .exact List.nodup_nil
   .have h1:=(Zay5 ha).2.1
    have h2:=(Zay5 hb).2.1
    have h3:=Zv3 hI hj
    have h4:=Zv3 hI hk
    rw [<- h1] at h3;rw [<- h2] at h4;omega
  .unfold arO;split
   .refine Zai4 (fun i a hi=>?_) (fun i j a b hij hi hj o ha hb=>?_)
    .unfold arG;split
     .simp
     .exact List.nodup_nil
    .have h1:=Zay4 ha
     have h2:=Zay4 hb
     rw [h1] at h2
     have:=(Zd.mk.inj h2).2.2
     omega
   .exact List.nodup_nil
  .intro a ha b hb e1
   subst e1
   obtain⟨k,x,hk,hz,hA,_⟩:=hB a ha
   obtain⟨hA',_,hn⟩:=hC a hb
   have hi:=Zv3 hI hk
   have hf:x=(fdV s.Objects x.Id).1:=Zo1 hi.symm hk (by omega)
   rw [<- hA',hA,<- hf] at hn
   exact hn hz
  .intro a ha b hb e1
   subst e1
   have h1:a.B = -1:=by
    unfold shO at ha
    split at ha
    .rw [List.mem_singleton.1 ha]
    .exact nomatch ha
   rcases List.mem_append.1 hb with h | h
   .obtain⟨_,_,_,_,_,h2⟩:=hB a h;omega
   .have:=(hC a h).2.1;omega
 .rw [if_neg he];exact List.nodup_nil
theorem nI_y{l:List Zd}{x:Zd}(h:x∉l):nI l x=true:=decide_eq_true h
theorem nI_n{l:List Zd}{x:Zd}(h:x∈l):¬ nI l x=true:=fun k=>absurd h (of_decide_eq_true k)
theorem Zay6(l:List Zd):l.filter (nI [])=l:=List.filter_eq_self.2 fun x _=>decide_eq_true (List.not_mem_nil)
theorem Zbl4{l:List Zd}(h:l.Nodup)(k:Nat):l.filter (nI (l.take k))=l.drop k:=by
 have hd:(l.take k++l.drop k).Nodup:=by rw [List.take_append_drop];exact h
 rw [List.nodup_append] at hd
 have:l.filter (nI (l.take k))=(l.take k).filter (nI (l.take k))++(l.drop k).filter (nI (l.take k)):=by rw [<- List.filter_append,List.take_append_drop]
 rw [this,List.filter_eq_nil_iff.2 fun x hx=>nI_n hx,List.filter_eq_self.2 fun x hx=>nI_y fun hy=>hd.2.2 x hy x hx rfl];rfl
theorem Zbl5{l:List Zd}(h:l.Nodup)(k:Nat):l.filter (nI (l.drop k))=l.take k:=by
 have hd:(l.take k++l.drop k).Nodup:=by rw [List.take_append_drop];exact h
 rw [List.nodup_append] at hd
 have:l.filter (nI (l.drop k))=(l.take k).filter (nI (l.drop k))++(l.drop k).filter (nI (l.drop k)):=by rw [<- List.filter_append,List.take_append_drop]
 rw [this,(List.filter_eq_nil_iff (l:=l.drop k)).2 fun x hx=>nI_n hx,(List.filter_eq_self (p:=nI (l.drop k)) (l:=l.take k)).2 fun x hx=>nI_y fun hy=>hd.2.2 x hx x hy rfl,List.append_nil]
section
variable {cards:List Zg} {s:Za} {all:List Zb} {e:Ze} {o:Zd}
theorem op_l{l x:List Zd}(h:x=l.filter (nI [])):x=l:=h.trans (Zay6 l)
theorem sl_1{A B A' B':Prop}{v x3 x5 x7:List Zd}{k:Int}(h5:x5=(opO cards s all e).filter (nI x3))(h7:A/\B/\x7=(v.take (v.length:Int).toNat).drop k.toNat)(hv:v=opO cards s all e)(h3:A'/\B'/\x3=(v.take k.toNat).drop (0:Int).toNat)(hI:Ids s.Objects):x5=x7:=by
 have h3:x3=v.take k.toNat:=h3.2.2
 have h7:x7=v.drop k.toNat:=by have:=h7.2.2;rwa [List.take_of_length_le (by omega)] at this
 rw [h5,h3,h7,<- hv];exact Zbl4 (hv▸Za9h hI) _
theorem sl_2{A B A' B':Prop}{v x3 x5 x7:List Zd}{k:Int}(h5:x5=(opO cards s all e).filter (nI x3))(h7:A/\B/\x7=(v.take k.toNat).drop (0:Int).toNat)(hv:v=opO cards s all e)(h3:A'/\B'/\x3=(v.take (v.length:Int).toNat).drop k.toNat)(hI:Ids s.Objects):x5=x7:=by
 have h7:x7=v.take k.toNat:=h7.2.2
 have h3:x3=v.drop k.toNat:=by have:=h3.2.2;rwa [List.take_of_length_le (by omega)] at this
 rw [h5,h3,h7,<- hv];exact Zbl5 (hv▸Za9h hI) _
theorem Zbv3{x:Za×Ze×Bool}(h:x=apV cards s all e o)(hB:¬ o.B = -1):x.1=s:=by
 subst h;unfold apV
 split
 .try rw [if_neg hB]
  unfold apR amE;repeat' split
  all_goals rfl
 .rfl
def KdT(e f:Ze)(v:Bool):Prop:=(v=true->f.Kind=e.Kind/\f.Object=e.Object/\f.Player=e.Player/\f.Source=e.Source)/\(v=false->f=Zqv)
theorem Zbnv{s:Za}{e f:Ze}{v:Bool}(h:f.Kind=e.Kind/\f.Object=e.Object/\f.Player=e.Player/\f.Source=e.Source):KdT e (amE s f v).2.1 (amE s f v).2.2:=by
 unfold amE;split
 .exact⟨fun k=>(nomatch k),fun _=>rfl⟩
 .exact⟨fun _=>h,fun k=>(nomatch k)⟩
theorem kd_t{e f:Ze}(h:f.Kind=e.Kind/\f.Object=e.Object/\f.Player=e.Player/\f.Source=e.Source):KdT e f true:=⟨fun _=>h,fun k=>(nomatch k)⟩
theorem Zbv4{x:Za×Ze×Bool}(h:x=apV cards s all e o):KdT e x.2.1 x.2.2:=by
 subst h;unfold apV
 split
 .split
  .exact Zbnv ⟨rfl,rfl,rfl,rfl⟩
  .unfold apR;repeat' split
   .exact⟨fun k=>(nomatch k),fun _=>rfl⟩
   all_goals first | exact Zbnv ⟨rfl,rfl,rfl,rfl⟩ | exact kd_t ⟨rfl,rfl,rfl,rfl⟩
 .exact kd_t ⟨rfl,rfl,rfl,rfl⟩
theorem op_f{b:Bool}(h:b=evB cards s e)(hb:b=false):opO cards s all e=[]:=by unfold opO;rw [if_neg (by rw [<- h,hb];decide)]
theorem im_1{b:Bool}{x:Za×Ze×Bool}(h:b=evB cards s e)(hb:b=false)(hx:x=apV cards s all e o):x=(s,e,true):=by
 rw [hx];unfold apV;rw [op_f h hb,if_neg List.not_mem_nil]
theorem im_2{b:Bool}{x u:List Zd}(h:b=evB cards s e)(hb:b=false)(hx:x=(opO cards s all e).filter (nI u)):x.length=0:=by
 rw [hx,op_f h hb];rfl
end
abbrev al4P:Z9:=⟨20,0,0,(⟨0,0,0,0,0,0⟩:A6 Int),false,false,[],[],[]⟩
abbrev al4O(n:Int):Zc:=⟨1,0,0,0,0,false,false,false,false,0,(⟨0,0,0⟩:A3 Int),0,-1,-1,false,0,n⟩
abbrev Zni(n:Int):Za:=⟨[al4P,al4P],[al4O n],[1],[],[],[],[],0,0,0,false,0,0,2,1,0,[],0,-1⟩
abbrev Zub(o n:Int):Ze:=⟨1,0,o,0,n,0,0,0,0,0,false,false,(⟨0,0,0⟩:A3 Int)⟩
abbrev Zl7:List Zg:=[⟨([111,97,107]:List UInt8),false,(⟨0,0,(⟨0,0,0,0,0⟩:A5 Int)⟩:Z2),0,(⟨0,8,[]⟩:Zaf),0,0,0,[]⟩]
abbrev Z6y:Zh:=⟨5,Zv4.Filter,[],(⟨(⟨0,0,(⟨0,0,0,0,0⟩:A5 Int)⟩:Z2),false,false,0⟩:Ze0),false,(⟨0,0,Zv4.Filter⟩:Zb4),false,[],[],(⟨1,1,Zv4.Filter,1,0,0,0⟩:Z4)⟩
abbrev Zo3(l:List Zh):List Zb:=[⟨[],(⟨0,0,(⟨0,0,0,0,0⟩:A5 Int)⟩:Z2),0,(⟨0,0,[]⟩:Zaf),0,0,0,l,0⟩]
theorem Zbv5:opO Zl7 (Zni 2) (Zo3 []) (Zub 1 3)=[⟨12,1,-1⟩]:=by kernel_rfl
theorem Zbnw:apV Zl7 (Zni 2) (Zo3 []) (Zub 1 3) ⟨12,1,-1⟩=(Zni 0,Zub 1 1,true):=by kernel_rfl
theorem Zbv6:opO Zl7 (Zni 2) (Zo3 [Z6y]) (Zub 0 3)=[⟨12,1,0⟩]:=by kernel_rfl
theorem Zbnx:apV Zl7 (Zni 2) (Zo3 [Z6y]) (Zub 0 3) ⟨12,1,0⟩=(Zni 2,Zqv,false):=by kernel_rfl
theorem Zbv7:opO Zl7 (Zni 2) (Zo3 [Z6y]) (Zub 1 3)=[⟨12,1,-1⟩]:=by kernel_rfl
theorem Z9f:Ids (Zni 2).Objects:=⟨fun o h=>by rw [List.mem_singleton.1 h];decide,fun i j x y hi hj _=>by
 have h1:i < 1:=(List.getElem?_eq_some_iff.1 hi).1
 have h2:j < 1:=(List.getElem?_eq_some_iff.1 hj).1
 omega⟩
theorem Zav0:Zdq Zl7:=fun c h=>by rw [List.mem_singleton.1 h];exact Zai2
theorem Zav1:∀ c,c∈Zl7->c.Abilities.length<=8:=fun c h=>by rw [List.mem_singleton.1 h];exact Nat.zero_le _
theorem Zbny:Zbc (Zo3 []):=fun c h=>by rw [List.mem_singleton.1 h];exact Zbjh rfl
theorem Zbfg:Zbc (Zo3 [Z6y]):=fun c h=>by
 rw [List.mem_singleton.1 h]
 refine⟨fun a ha _=>?_,by decide⟩
 rw [List.mem_singleton.1 ha];exact .inr ⟨by decide,.inl rfl⟩
theorem Zbv8{α:Type}{p:α->Bool}{l r:List α}{n:Nat}(h:r=l.filter p)(hl:l.length<=n):r.length<=n:=by rw [h];exact Nat.le_trans (List.length_filter_le _ _) hl
theorem Zbsk{l:List Zc}{i:Nat}{x y:Zc}(hI:Ids l)(hx:l[i]?=some x)(hy:y.Id=x.Id):fdV (l.set i y) x.Id=(y,true):=by
 have hl:=(List.getElem?_eq_some_iff.1 hx).1
 have hg:(l.set i y)[i]?=some y:=by rw [List.getElem?_set_self hl]
 have hI':Ids (l.set i y):=by
  have hid:∀ (j:Nat) z,(l.set i y)[j]?=some z->∃ w,l[j]?=some w/\w.Id=z.Id:=fun j z hz=>by
   by_cases e:j=i
   .subst e;rw [hg] at hz;cases hz;exact⟨x,hx,hy.symm⟩
   .rw [List.getElem?_set_ne (fun h=>e h.symm)] at hz;exact⟨z,hz,rfl⟩
  refine⟨fun o ho=>?_,fun j k z w hz hw he=>?_⟩
  .obtain⟨j,hj⟩:=List.mem_iff_getElem?.1 ho
   obtain⟨w,h1,h2⟩:=hid j o hj
   rw [<- h2];exact hI.1 w (List.mem_of_getElem? h1)
  .obtain⟨z',h1,h2⟩:=hid j z hz
   obtain⟨w',h3,h4⟩:=hid k w hw
   exact hI.2 j k z' w' h1 h3 (by rw [h2,h4,he])
 have hi:=Zv3 hI' hg
 rw [<- hy]
 exact (Zso (x:=y) (by rw [hi];exact hg) (by omega)).symm
structure ShR (x y:Zc×Bool) (z:Za×Ze×Bool) (e:Ze):Prop where
 a:y.2=true
 b:y.1.Shield>=0
 c:z.2.1.Amount>=0
 d:x.1.Shield - y.1.Shield=e.Amount - z.2.1.Amount
 f:y.1.Shield=0\/z.2.1.Amount=0
 g:z.2.2=decide (z.2.1.Amount > 0)
section
variable {cards:List Zg} {s:Za} {all:List Zb} {e:Ze} {o:Zd}
theorem sh_0{x:Zc×Bool}{l:List Zd}(hl:l=(opO cards s all e).filter (nI []))(he:evB cards s e=true)(hk:e.Kind=1)(ho:e.Object≠0)(hx:x=fdV s.Objects e.Object)(h2:x.2=true)(hs:¬ x.1.Shield=0)(hS:ShOK s.Objects):∃ t,l=⟨12,e.Object,-1⟩::t:=by
 subst hx
 have h0:0<=ixO s.Objects e.Object:=by rw [Zai3] at h2;exact of_decide_eq_true h2
 have hp:(fdV s.Objects e.Object).1.Shield > 0:=by
  rcases Zlk s.Objects e.Object with ⟨h,_⟩ | ⟨x,_,_,h3,_⟩
  .omega
  .have:=hS x (List.mem_of_getElem? h3)
   rw [<- Zso h3 (by omega)] at hs ⊢
   have hs:¬ x.Shield=0:=hs
   show x.Shield > 0
   omega
 rw [Zay6] at hl
 unfold opO shO at hl
 rw [if_pos he,if_pos ⟨⟨hk,ho⟩,h0,hp⟩] at hl
 exact⟨_,hl⟩
theorem sh_1{x y:Zc×Bool}{z:Za×Ze×Bool}{t:List Zd}(hl:(opO cards s all e).filter (nI [])=⟨12,e.Object,-1⟩::t)(he:evB cards s e=true)(hk:e.Kind=1)(hx:x=fdV s.Objects e.Object)(h2:x.2=true)(hS:ShOK s.Objects)(hI:Ids s.Objects)(hz:z=apV cards s all e ⟨12,e.Object,-1⟩)(hy:y=fdV z.1.Objects e.Object):ShR x y z e:=by
 subst hx
 have hm:(⟨12,e.Object,-1⟩:Zd)∈opO cards s all e:=by rw [Zay6] at hl;rw [hl];exact List.mem_cons_self
 have ha:1<=e.Amount/\e.Amount<=1000000:=by
  unfold evB amB at he
  rw [if_pos hk,Bool.and_eq_true,decide_eq_true_eq] at he
  exact he.1
 rcases Zlk s.Objects e.Object with ⟨h,_⟩ | ⟨x,h0,h1,h3,h4⟩
 .rw [Zai3] at h2;exact absurd (of_decide_eq_true h2) (by omega)
 .have hx:=Zso h3 (by omega)
  have hs:=hS x (List.mem_of_getElem? h3)
  rw [ap_s hm rfl] at hz
  have hz:z=shA s e x:=by rw [hz];show shA s e (fdV s.Objects e.Object).1=_;rw [<- hx]
  have hn:0<=Zia x.Shield e.Amount/\Zia x.Shield e.Amount<=x.Shield/\Zia x.Shield e.Amount<=e.Amount/\(Zia x.Shield e.Amount=x.Shield\/Zia x.Shield e.Amount=e.Amount):=by unfold Zia;split<;>omega
  unfold shA at hz
  have hii:ixO s.Objects x.Id=ixO s.Objects e.Object:=by rw [h4]
  rw [hii,Zgn (by omega) (by omega),Zgn (by omega) (by omega)] at hz
  generalize Zia x.Shield e.Amount=n at hz hn
  have hst:z.1.Objects=s.Objects.set (ixO s.Objects e.Object).toNat { x with Shield:=x.Shield - n }:=by
   rw [hz];unfold amE;split<;>rfl
  rw [hst,<- h4] at hy
  rw [hii,Zbsk (y:={ x with Shield:=x.Shield - n }) hI h3 rfl] at hy
  subst hy
  rw [<- hx,hz]
  by_cases hA:e.Amount - n<=0
  .have:amE { s with Objects:=s.Objects.set (ixO s.Objects e.Object).toNat { x with Shield:=x.Shield - n } } { e with Amount:=e.Amount - n } true=(_,Zqv,false):=if_pos ⟨rfl,hA⟩
   rw [this]
   exact⟨rfl,by show x.Shield - n>=0;omega,by show (0:Int)>=0;omega,by show x.Shield - (x.Shield - n)=e.Amount - 0;omega,.inr rfl,by show false=decide ((0:Int) > 0);rfl⟩
  .have:amE { s with Objects:=s.Objects.set (ixO s.Objects e.Object).toNat { x with Shield:=x.Shield - n } } { e with Amount:=e.Amount - n } true=(_,{ e with Amount:=e.Amount - n },true):=if_neg fun k=>hA k.2
   rw [this]
   exact⟨rfl,by show x.Shield - n>=0;omega,by show e.Amount - n>=0;omega,by show x.Shield - (x.Shield - n)=e.Amount - (e.Amount - n);omega,by show x.Shield - n=0\/e.Amount - n=0;omega,by show true=decide (e.Amount - n > 0);rw [decide_eq_true (by omega)]⟩
theorem sh_i{l t:List Zd}{a x:Zd}(hw:l=a::t)(hm:l[(0:Int).toNat]?=some x):x=a:=by subst hw;exact (Option.some.inj hm).symm
theorem sh_2{x y:Zc×Bool}{z:Za×Ze×Bool}{t l:List Zd}{b:Bool}(ho:o=⟨12,e.Object,-1⟩)(hl:l=(opO cards s all e).filter (nI []))(hl':l=⟨12,e.Object,-1⟩::t)(he:b=evB cards s e)(hb:b=true)(hk:e.Kind=1)(hx:x=fdV s.Objects e.Object)(h2:x.2=true)(hS:ShOK s.Objects)(hI:Ids s.Objects)(hz:z=apV cards s all e o)(hy:y=fdV z.1.Objects e.Object):ShR x y z e:=by subst ho;exact sh_1 (hl.symm.trans hl') (he.symm.trans hb) hk hx h2 hS hI hz hy
end
end Go.PW

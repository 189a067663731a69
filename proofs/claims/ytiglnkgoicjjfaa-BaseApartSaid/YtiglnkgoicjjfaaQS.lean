import Derived.Test.YtiglnkgoicjjfaaQDa
import Derived.Test.YtiglnkgoicjjfaaQE
import Derived.Test.YtiglnkgoicjjfaaPwY
import Derived.Test.YtiglnkgoicjjfaaPwYi
set_option linter.all false
set_option maxRecDepth 100000
namespace Go.PW
def Z09:Zb:=⟨[],⟨0,0,⟨0,0,0,0,0⟩⟩,0,⟨0,0,[]⟩,0,0,0,[],0⟩
def Zj7(c:Zr):Bool:=decide (0<=c.Generic/\c.Generic<=99/\0<=c.X/\c.X<=2/\∀ n,n∈A5.list c.Color->0<=n/\n<=9)
def bt(n:Int)(k:Nat):Int:=if n > 0 then (2:Int) ^ k else 0
def coP(x:A5 Int)(v:Int):Int:=(if 0 < v then bt x.a0 0 else 0)+((if 1 < v then bt x.a1 1 else 0)+((if 2 < v then bt x.a2 2 else 0)+((if 3 < v then bt x.a3 3 else 0)+(if 4 < v then bt x.a4 4 else 0))))
def coV(c:Zr):Int:=if Zj7 c then coP c.Color 5 else 0
theorem Zpf(x:A5 Int):0=coP x 0:=by simp [coP]
theorem Zqm{x:A5 Int}{v w n:Int}(hx:(A5.list x)[v.toNat]?=some n)(h0:0<=v)(h5:v < 5)(hw:w=v+1):coP x w=coP x v+bt n v.toNat/\0<=coP x v/\coP x v < 2 ^ v.toNat:=by
 subst hw
 have b:∀ n k,0<=bt n k/\bt n k<=(2:Int) ^ k:=fun n k=>by unfold bt;split<;>constructor<;>first | exact Int.le_refl _ | exact Int.le_of_lt (Int.pow_pos (by decide)) | exact Int.le_of_lt (Int.pow_pos (by decide)) | omega
 have b0:=b x.a0 0;have b1:=b x.a1 1;have b2:=b x.a2 2;have b3:=b x.a3 3
 have hv:v=0\/v=1\/v=2\/v=3\/v=4:=by omega
 rcases hv with rfl | rfl | rfl | rfl | rfl<;>(simp [A5.list] at hx;subst hx;simp [coP] at *;try omega)
theorem Z5t:∀ i:Fin 5,∀ v:Fin 16,v.val < 2 ^ i.val->Zee .or .i64 (v.val:Int) (Zy9 .i64 1 (i.val:Int))=((v.val+2 ^ i.val:Nat):Int):=by decide +kernel
theorem Z5x{v:Int}(h5:v<=5):(2:Int) ^ v.toNat<=32/\1<=(2:Int) ^ v.toNat:=by
 have:v.toNat=0\/v.toNat=1\/v.toNat=2\/v.toNat=3\/v.toNat=4\/v.toNat=5:=by omega
 rcases this with h | h | h | h | h | h<;>rw [h]<;>decide
theorem Zzh{x:A5 Int}{v w n a:Int}(hx:(A5.list x)[v.toNat]?=some n)(h:a=coP x v)(h0:0<=v)(h5:v < 5)(hp:n > 0)(hw:w=v+1):Zee .or .i64 a (Zy9 .i64 1 v)=coP x w:=by
 obtain⟨h1,h2,h3⟩:=Zqm hx h0 h5 hw
 rw [h1,<- h]
 rw [<- h] at h2 h3
 have hv:v.toNat<=4:=by omega
 have hb:(2:Int) ^ v.toNat<=16:=by
  have:v.toNat=0\/v.toNat=1\/v.toNat=2\/v.toNat=3\/v.toNat=4:=by omega
  rcases this with h | h | h | h | h<;>rw [h]<;>decide
 have:=Z5t ⟨v.toNat,by omega⟩ ⟨a.toNat,by omega⟩ (by
  have:(a.toNat:Int) < ((2 ^ v.toNat:Nat):Int):=by rw [Int.natCast_pow];show (a.toNat:Int) < (2:Int) ^ v.toNat;omega
  exact_mod_cast this)
 simp only at this
 rw [show ((a.toNat:Nat):Int)=a by omega,show ((v.toNat:Nat):Int)=v by omega] at this
 rw [this]
 unfold bt
 rw [if_pos hp]
 push_cast
 omega
theorem Zpg{x:A5 Int}{v w n a:Int}(hx:(A5.list x)[v.toNat]?=some n)(h:a=coP x v)(h0:0<=v)(h5:v < 5)(hp:¬ n > 0)(hw:w=v+1):a=coP x w:=by
 rw [(Zqm hx h0 h5 hw).1,<- h];unfold bt;rw [if_neg hp];omega
theorem Zwr{x:A5 Int}{v w n a b c:Int}(hx:(A5.list x)[v.toNat]?=some n)(h:a=coP x v)(h0:0<=v)(h5:v < 5)(hp:n > 0)(hb:b=2 ^ v.toNat)(hw:w=v+1)(hc:c=a+b):c=coP x w:=by
 rw [(Zqm hx h0 h5 hw).1,<- h];unfold bt;rw [if_pos hp,hc,hb]
theorem Ztb{v w b c:Int}(h0:0<=v)(hb:b=2 ^ v.toNat)(hw:w=v+1)(hc:c=2*b):c=2 ^ w.toNat:=by
 have:w.toNat=v.toNat+1:=by omega
 rw [this,Int.pow_succ,hc,hb];omega
theorem Z5y{x:A5 Int}{v:Int}:0<=coP x v/\coP x v<=31:=by
 have b:∀ n k,0<=bt n k/\bt n k<=(2:Int) ^ k:=fun n k=>by unfold bt;split<;>constructor<;>first | exact Int.le_refl _ | exact Int.le_of_lt (Int.pow_pos (by decide)) | exact Int.le_of_lt (Int.pow_pos (by decide)) | omega
 have b0:=b x.a0 0;have b1:=b x.a1 1;have b2:=b x.a2 2;have b3:=b x.a3 3;have b4:=b x.a4 4
 unfold coP
 constructor<;>(repeat' split)<;>simp at * <;> omega
theorem Z4l{x:A5 Int}(h:x=⟨0,0,0,0,0⟩)(v:Int):0=coP x v:=by subst h;unfold coP bt;simp
theorem Z5z{x y:A5 Int}:Z9 (cA5 (cI .i64) x) (cA5 (cI .i64) y)=decide (x=y):=Z02 (Z4g (Z5c .i64)) x y
theorem Zme{c:Zr}{n v:Int}(hx:(A5.list c.Color)[v.toNat]?=some n)(h:n < 0\/n > 9):false=Zj7 c:=by
 symm;unfold Zj7
 exact decide_eq_false fun hc=>by have:=hc.2.2.2.2 n (List.mem_of_getElem? hx);omega
theorem Zko{c:Zr}{v:Int}(h:∀ (k:Nat) x,(k:Int) < v->(A5.list c.Color)[k]?=some x->0<=x/\x<=9)(hv:5<=v):Zj7 c=decide (0<=c.Generic/\c.Generic<=99/\0<=c.X/\c.X<=2):=by
 have hall:∀ n,n∈A5.list c.Color->0<=n/\n<=9:=fun n hn=>by
  obtain⟨k,hk⟩:=List.mem_iff_getElem?.1 hn
  have:k < 5:=(List.getElem?_eq_some_iff.1 hk).1
  exact h k n (by omega) hk
 unfold Zj7
 rw [decide_eq_decide]
 exact⟨fun h=>⟨h.1,h.2.1,h.2.2.1,h.2.2.2.1⟩,fun h=>⟨h.1,h.2.1,h.2.2.1,h.2.2.2,hall⟩⟩
theorem Zor{c:Zr}(h:Zj7 c=false):0=coV c:=by unfold coV;rw [h];rfl
theorem Zzi{c:Zr}(h:Z9 (cA5 (cI .i64) c.Color) (cA5 (cI .i64) ⟨0,0,0,0,0⟩)=true):0=coV c:=by
 rw [Z5z] at h
 unfold coV
 split
 .exact Z4l (of_decide_eq_true h) 5
 .rfl
theorem Zr9{c:Zr}{x:A5 Int}{a v:Int}(h:Zj7 c=true)(e:x=c.Color)(hx:a=coP x v)(h1:5<=v)(h2:v<=5):a=coV c:=by
 obtain rfl:v=5:=by omega
 subst e
 unfold coV;rw [hx,h];rfl
def prV(c:Zt):Zb:=⟨c.Name,c.Cost,Zee .or .i64 (coV c.Cost) c.Color,c.Line,c.Power,c.Tough,c.Keys,c.Abilities,0⟩
def Zm6(cards:List Zt)(i:Int):Zb:=match (if i < 0 then none else cards[i.toNat]?) with | some c=>prV c | none=>Z09
theorem Zkp{cards:List Zt}{i:Int}{c:Zt}(hx:cards[i.toNat]?=some c)(h:0<=i):Zm6 cards i=prV c:=by unfold Zm6;rw [if_neg (by omega),hx]
theorem Zkq{cards:List Zt}{i:Int}(h:i < 0\/i>=(cards.length:Int)):Zm6 cards i=Z09:=by
 unfold Zm6
 by_cases h0:i < 0
 .rw [if_pos h0]
 .rw [if_neg h0,List.getElem?_eq_none (by omega)]
def baV(cards:List Zt)(o:Zu):Zb:=
 { Zm6 cards (if o.Copy < 0 then o.Card else o.Copy) with Control:=if o.Zone=0\/o.Zone=5 then o.Control else o.Owner }
theorem Z5j{α:Type}{l:List α}{i:Nat}{x:α}(h:l[i]?=some x):l.set i x=l:=by
 obtain⟨hi,he⟩:=List.getElem?_eq_some_iff.1 h
 refine List.ext_getElem? fun j=>?_
 rw [List.getElem?_set]
 split
 .rename_i e;subst e;exact h.symm
 .rfl
theorem Zws{a b:Zd}{v:Int}{x:Zy}{m:List Z4}{z:List Zy}(e:b=a)(hx:b.Effects[v.toNat]?=some x)(hm:m=x.Mods)(hz:z=b.Effects.set v.toNat ⟨x.Op,x.Ref,x.Amount,x.Counter,x.Zone,x.Card,x.Filter,x.Pool,m⟩):(⟨b.Kind,b.Filter,b.Mods,b.Price,b.Slow,b.Trigger,b.May,b.Specs,z,b.Replace⟩:Zd)=a:=by
 subst hm
 have:z=b.Effects:=hz.trans (Z5j hx)
 rw [this];exact e
theorem Zzj{c:Zt}{m:Int}{s:List (List UInt8)}(hm:m=coV c.Cost)(hs:s=c.Line.Subs):(⟨c.Name,c.Cost,Zee .or .i64 m c.Color,⟨c.Line.Super,c.Line.Types,s⟩,c.Power,c.Tough,c.Keys,[],0⟩:Zb)={ prV c with Abilities:=c.Abilities.take (0:Int).toNat }:=by subst hm;subst hs;rfl
theorem pr_0'{c:Zt}{m:Int}{s:List (List UInt8)}(hm:m=coV c.Cost)(hs:s=[]++c.Line.Subs):(⟨c.Name,c.Cost,Zee .or .i64 m c.Color,⟨c.Line.Super,c.Line.Types,s⟩,c.Power,c.Tough,c.Keys,[],0⟩:Zb)={ prV c with Abilities:=c.Abilities.take (0:Int).toNat }:=by subst hm;subst hs;rfl
theorem Zph{c:Zt}{t:Zb}{v w:Int}{x y:Zd}{z:List Zd}(h:t={ prV c with Abilities:=c.Abilities.take v.toNat })(hx:c.Abilities[v.toNat]?=some x)(h0:0<=v)(hw:w=v+1)(hy:y=x)(hz:z=t.Abilities++[y]) :
 (⟨t.Name,t.Cost,t.Colors,t.Line,t.Power,t.Tough,t.Keys,z,t.Control⟩:Zb)={ prV c with Abilities:=c.Abilities.take w.toNat }:=by
 subst hy;subst hz;subst h
 rw [Zt3 hx h0 hw]
theorem Z1a{c:Zt}{t:Zb}{v:Int}(h:t={ prV c with Abilities:=c.Abilities.take v.toNat })(hv:(c.Abilities.length:Int)<=v):t=prV c:=by
 rw [h,List.take_of_length_le (by omega)];rfl
theorem Ztc{cards:List Zt}{o:Zu}{t:Zb}{i:Int}(h:t=Zm6 cards i)(hi:i=if o.Copy < 0 then o.Card else o.Copy)(hz:o.Zone=0\/o.Zone=5):(⟨t.Name,t.Cost,t.Colors,t.Line,t.Power,t.Tough,t.Keys,t.Abilities,o.Control⟩:Zb)=baV cards o:=by
 unfold baV;rw [if_pos hz,<- hi,<- h]
theorem Ztd{cards:List Zt}{o:Zu}{t:Zb}{i:Int}(h:t=Zm6 cards i)(hi:i=if o.Copy < 0 then o.Card else o.Copy)(hz:¬ (o.Zone=0\/o.Zone=5)):(⟨t.Name,t.Cost,t.Colors,t.Line,t.Power,t.Tough,t.Keys,t.Abilities,o.Owner⟩:Zb)=baV cards o:=by
 unfold baV;rw [if_neg hz,<- hi,<- h]
theorem Z3j{a:Zd}{m:List Z4}{s:List Zai}(hm:m=[]++a.Mods)(hs:s=[]++a.Specs):(⟨a.Kind,a.Filter,m,a.Price,a.Slow,a.Trigger,a.May,s,[],a.Replace⟩:Zd)={ a with Effects:=a.Effects.take (0:Int).toNat }:=by subst hm;subst hs;rfl
theorem Zwt{a b:Zd}{v w:Int}{x:Zy}{m:List Z4}{z:List Zy}(h:b={ a with Effects:=a.Effects.take v.toNat })(hx:a.Effects[v.toNat]?=some x)(h0:0<=v)(hw:w=v+1)(hm:m=[]++x.Mods)(hz:z=b.Effects++[⟨x.Op,x.Ref,x.Amount,x.Counter,x.Zone,x.Card,x.Filter,x.Pool,m⟩]) :
 (⟨b.Kind,b.Filter,b.Mods,b.Price,b.Slow,b.Trigger,b.May,b.Specs,z,b.Replace⟩:Zd)={ a with Effects:=a.Effects.take w.toNat }:=by
 subst hm;subst hz;subst h
 rw [Zt3 hx h0 hw];rfl
theorem Z4m{a b:Zd}{v:Int}(h:b={ a with Effects:=a.Effects.take v.toNat })(hv:(a.Effects.length:Int)<=v):b=a:=by rw [h,List.take_of_length_le (by omega)]
theorem sfA{l m:List Za}(h:Z9 l l=true)(k:Z9 m m=true):Z9 (l++m) (l++m)=true:=by rw [Zja _ _ _ _ rfl,h,k];rfl
theorem sfI(k:IntKind)(n:Int):Z9 (cI k n) (cI k n)=true:=by simp [cI,Z9,Zfv]
theorem sfB(b:Bool):Z9 (cB b) (cB b)=true:=by simp [cB,Z9,Zfv]
theorem sfS(b:List UInt8):Z9 (cS b) (cS b)=true:=by simp [cS,Z9,Zfv]
theorem sf3(x:A3 Int):Z9 ((cA3 (cI .i64)) x) ((cA3 (cI .i64)) x)=true:=by simp [cA3,cI,Z9,Zfv,A3.list]
theorem sf5(x:A5 Int):Z9 ((cA5 (cI .i64)) x) ((cA5 (cI .i64)) x)=true:=by simp [cA5,cI,Z9,Zfv,A5.list]
theorem sf6(x:A6 Int):Z9 ((cA6 (cI .i64)) x) ((cA6 (cI .i64)) x)=true:=by simp [cA6,cI,Z9,Zfv,A6.list]
theorem Z3b(x:Zp):Z9 (Zdo x) (Zdo x)=true:=by
 unfold Zdo;repeat' first | exact sfI _ _ | exact sfB _ | exact sfS _ | exact sf3 _ | exact sf5 _ | exact sf6 _ | refine sfA ?_ ?_
theorem Z1b(x:Zkn):Z9 (Zdt x) (Zdt x)=true:=by
 unfold Zdt;repeat' first | exact sfI _ _ | exact sfB _ | exact sfS _ | exact sf3 _ | exact sf5 _ | exact sf6 _ | refine sfA ?_ ?_
theorem Zhq(x:Z8):Z9 (Zap x) (Zap x)=true:=by
 unfold Zap;repeat' first | exact sfI _ _ | exact sfB _ | exact sfS _ | exact sf3 _ | exact sf5 _ | exact sf6 _ | exact Z3b _ | refine sfA ?_ ?_
theorem Z1c(x:Zgg):Z9 (Zcc x) (Zcc x)=true:=by
 unfold Zcc;repeat' first | exact sfI _ _ | exact sfB _ | exact sfS _ | exact sf3 _ | exact sf5 _ | exact sf6 _ | exact Zhq _ | exact Z1b _ | refine sfA ?_ ?_
theorem Zx4(x:Zr):Z9 (Za1 x) (Za1 x)=true:=by
 unfold Za1;repeat' first | exact sfI _ _ | exact sfB _ | exact sfS _ | exact sf3 _ | exact sf5 _ | exact sf6 _ | refine sfA ?_ ?_
theorem Z3c(x:Zds):Z9 (Zcv x) (Zcv x)=true:=by
 unfold Zcv;repeat' first | exact sfI _ _ | exact sfB _ | exact sfS _ | exact sf3 _ | exact sf5 _ | exact sf6 _ | exact Zx4 _ | refine sfA ?_ ?_
theorem Z5k(x:Z4):Z9 (Zj x) (Zj x)=true:=by
 unfold Zj;repeat' first | exact sfI _ _ | exact sfB _ | exact sfS _ | exact sf3 _ | exact sf5 _ | exact sf6 _ | exact Zhq _ | refine sfA ?_ ?_
theorem Z4n(x:Zai):Z9 (Zm x) (Zm x)=true:=by
 unfold Zm;repeat' first | exact sfI _ _ | exact sfB _ | exact sfS _ | exact sf3 _ | exact sf5 _ | exact sf6 _ | exact Zhq _ | refine sfA ?_ ?_
theorem Zzk(x:Zb5):Z9 (Zb1 x) (Zb1 x)=true:=by
 unfold Zb1;repeat' first | exact sfI _ _ | exact sfB _ | exact sfS _ | exact sf3 _ | exact sf5 _ | exact sf6 _ | exact Zhq _ | refine sfA ?_ ?_
theorem Zzl(x:Zb6):Z9 (Zb2 x) (Zb2 x)=true:=by
 unfold Zb2;repeat' first | exact sfI _ _ | exact sfB _ | exact sfS _ | exact sf3 _ | exact sf5 _ | exact sf6 _ | exact Zhq _ | refine sfA ?_ ?_
theorem sm{p:Prop}(h:p:=by intro h;subst h;first | rfl | (exfalso;omega) | grind [Z1b,Zhq,Z1c,Zx4,Z3c,Z5k,Z4n,Zzk,Zzl,sf6]):p:=h
end Go.PW

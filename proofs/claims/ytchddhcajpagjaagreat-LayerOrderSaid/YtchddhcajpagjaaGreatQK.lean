import Derived.Test.YtchddhcajpagjaaGreatQW
set_option linter.all false
set_option maxRecDepth 100000
namespace Go.PW
def stV(k:Int):Int:=if k=1 then 1 else if 2<=k/\k<=5 then 2 else if k=6\/k=7 then 3 else if 8<=k/\k<=10 then 4 else if 11<=k/\k<=14 then k - 6 else 0
def inB(n a b:Int):Bool:=decide (a<=n/\n<=b)
def Zfy(m:Zd):Bool:=
 if m.Kind=2\/m.Kind=3\/m.Kind=6\/m.Kind=7\/m.Kind=8\/m.Kind=9 then decide (m.M=0/\m.Sub=[]/\m.Filter=Zle)
 else if m.Kind=4\/m.Kind=5 then decide (m.N=0/\m.M=0/\m.Filter=Zle)
 else if m.Kind=11 then decide (m.N=0/\m.M=0/\m.Sub=[])
 else if m.Kind=12\/m.Kind=13 then decide (m.Sub=[]/\m.Filter=Zle)
 else decide (m.N=0/\m.M=0/\m.Sub=[]/\m.Filter=Zle)
def mdK(m:Zd):Bool:=
 if m.Kind=2\/m.Kind=3 then inB m.N 1 63&&decide (Zay .and .i64 m.N 6=0)
 else if m.Kind=4\/m.Kind=5 then Zvk m.Sub
 else if m.Kind=6 then inB m.N 0 31
 else if m.Kind=7 then inB m.N 1 31
 else if m.Kind=8\/m.Kind=9 then inB m.N 1 131071
 else if m.Kind=11 then Z8k m.Filter
 else if m.Kind=12 then inB m.N 0 99&&inB m.M 0 99
 else if m.Kind=13 then inB m.N (-99) 99&&inB m.M (-99) 99
 else true
def mdV(m:Zd):Bool:=inB m.Kind 1 14&&(Zfy m&&mdK m)
theorem Zblh{m:Zd}(h:inB m.Kind 1 14=false):mdV m=false:=by unfold mdV;rw [h];rfl
theorem Zbli{m:Zd}(h:Zfy m=false):false=mdV m:=by unfold mdV;rw [h];simp
theorem Zblj{m:Zd}(h:inB m.Kind 1 14=true)(g:Zfy m=true):mdV m=mdK m:=by unfold mdV;rw [h,g];rfl
abbrev Zaeq:Zd:=⟨0,0,0,[],Zle⟩
theorem us_1{m:Zd}(h:m.Kind=2\/m.Kind=3\/m.Kind=6\/m.Kind=7\/m.Kind=8\/m.Kind=9):Zy (Zl m) (Zl ⟨m.Kind,m.N,0,[],Zle⟩)=Zfy m:=by
 rw [Zhi];unfold Zfy;rw [if_pos h];cases m;simp
theorem us_2{m:Zd}(h:m.Kind=4\/m.Kind=5):Zy (Zl m) (Zl ⟨m.Kind,0,0,m.Sub,Zle⟩)=Zfy m:=by
 rw [Zhi];unfold Zfy;rw [if_neg O,if_pos h];cases m;simp
theorem us_3{m:Zd}(h:m.Kind=11):Zy (Zl m) (Zl ⟨m.Kind,0,0,[],m.Filter⟩)=Zfy m:=by
 rw [Zhi];unfold Zfy;rw [if_neg O,if_neg O,if_pos h];cases m;simp
theorem us_4{m:Zd}(h:m.Kind=12\/m.Kind=13):Zy (Zl m) (Zl ⟨m.Kind,m.N,m.M,[],Zle⟩)=Zfy m:=by
 rw [Zhi];unfold Zfy;rw [if_neg O,if_neg O,if_neg O,if_pos h];cases m;simp
theorem us_5{m:Zd}(h:¬ (m.Kind=2\/m.Kind=3\/m.Kind=6\/m.Kind=7\/m.Kind=8\/m.Kind=9)/\¬ (m.Kind=4\/m.Kind=5)/\¬ m.Kind=11/\¬ (m.Kind=12\/m.Kind=13)):Zy (Zl m) (Zl ⟨m.Kind,0,0,[],Zle⟩)=Zfy m:=by
 rw [Zhi];unfold Zfy;rw [if_neg h.1,if_neg h.2.1,if_neg h.2.2.1,if_neg h.2.2.2];cases m;simp
theorem ur_1{m:Zd}(h:m.Kind=2\/m.Kind=3\/m.Kind=6\/m.Kind=7\/m.Kind=8\/m.Kind=9):Zy (Zl ⟨0,0,m.M,m.Sub,m.Filter⟩) (Zl Zaeq)=Zfy m:=by
 rw [Zhi];unfold Zfy;rw [if_pos h];cases m;simp
theorem ur_2{m:Zd}(h:m.Kind=4\/m.Kind=5):Zy (Zl ⟨0,m.N,m.M,[],m.Filter⟩) (Zl Zaeq)=Zfy m:=by
 rw [Zhi];unfold Zfy;rw [if_neg O,if_pos h];cases m;simp
theorem ur_3{m:Zd}(h:m.Kind=11):Zy (Zl ⟨0,m.N,m.M,m.Sub,Zle⟩) (Zl Zaeq)=Zfy m:=by
 rw [Zhi];unfold Zfy;rw [if_neg O,if_neg O,if_pos h];cases m;simp
theorem ur_4{m:Zd}(h:m.Kind=12\/m.Kind=13):Zy (Zl ⟨0,0,0,m.Sub,m.Filter⟩) (Zl Zaeq)=Zfy m:=by
 rw [Zhi];unfold Zfy;rw [if_neg O,if_neg O,if_neg O,if_pos h];cases m;simp
theorem ur_5{m:Zd}(h:¬ (m.Kind=2\/m.Kind=3\/m.Kind=6\/m.Kind=7\/m.Kind=8\/m.Kind=9)/\¬ (m.Kind=4\/m.Kind=5)/\¬ m.Kind=11/\¬ (m.Kind=12\/m.Kind=13)):Zy (Zl ⟨0,m.N,m.M,m.Sub,m.Filter⟩) (Zl Zaeq)=Zfy m:=by
 rw [Zhi];unfold Zfy;rw [if_neg h.1,if_neg h.2.1,if_neg h.2.2.1,if_neg h.2.2.2];cases m;simp
def ixL(l:List (List UInt8))(s:List UInt8):Int:=(l.findIdx fun x => !Op.bytesLess x s:Nat)
def insB(l:List (List UInt8))(s:List UInt8):List (List UInt8):=l.take (ixL l s).toNat++s::l.drop (ixL l s).toNat
def lnV(l:Zac)(s:List UInt8):Zac:=if Zvk s=false\/Zf4 l.Subs s=true\/(l.Subs.length:Int)>=4 then l else ⟨l.Super,l.Types,insB l.Subs s⟩
def LsS(l:List (List UInt8))(s:List UInt8)(v:Int):Prop:=∀ (k:Nat) x,(k:Int) < v->l[k]?=some x->Op.bytesLess x s=true
theorem Zblk{l:List (List UInt8)}{s:List UInt8}:LsS l s 0:=fun k x hk=>by omega
theorem Zbbh{l:List (List UInt8)}{s:List UInt8}{v w:Int}{x:List UInt8}(hx:l[v.toNat]?=some x)(h:LsS l s v)(h0:0<=v)(hp:Op.bytesLess x s=true)(hw:w=v+1):LsS l s w:=Zrw hx h h0 hp hw
theorem Zbll{l:List (List UInt8)}{s:List UInt8}{v:Int}{x:List UInt8}(hx:l[v.toNat]?=some x)(h:LsS l s v)(h0:0<=v)(hp:Op.bytesLess x s=false):v=ixL l s:=by
 obtain⟨hi,he⟩:=List.getElem?_eq_some_iff.1 hx
 unfold ixL
 have:l.findIdx (fun x => !Op.bytesLess x s)=v.toNat:=by
  refine (List.findIdx_eq hi).2 ⟨by rw [he,hp];rfl,fun j hj=>?_⟩
  have:=h j l[j] O (List.getElem?_eq_getElem O)
  rw [this];rfl
 rw [this];omega
theorem Zblm{l:List (List UInt8)}{s:List UInt8}{v:Int}(h:LsS l s v)(h0:(l.length:Int)<=v):(l.length:Int)=ixL l s:=by
 unfold ixL
 have:l.findIdx (fun x => !Op.bytesLess x s)=l.length:=by
  refine List.findIdx_eq_length.2 fun x hx=>?_
  obtain⟨k,hk,he⟩:=List.mem_iff_getElem.1 hx
  rw [h k x O (by rw [List.getElem?_eq_getElem hk,he])];rfl
 rw [this]
theorem Zbln{l:Zac}{s:List UInt8}{x:List (List UInt8)}(hx:x=l.Subs)(h:Zvk s=false\/Zf4 l.Subs s=true\/(l.Subs.length:Int)>=4):(⟨l.Super,l.Types,x⟩:Zac)=lnV l s:=by
 subst hx;unfold lnV;rw [if_pos h]
theorem ln_y{l:Zac}{s:List UInt8}{v:Int}{x:List (List UInt8)}(h1:Zvk s=true)(h2:Zf4 l.Subs s=false)(h3:¬ (l.Subs.length:Int)>=4)(hv:v=ixL l.Subs s)(hx:x=l.Subs.take v.toNat++s::l.Subs.drop v.toNat):(⟨l.Super,l.Types,x⟩:Zac)=lnV l s:=by
 subst hx;subst hv;unfold lnV
 rw [if_neg (by rw [h1,h2];simp only [Bool.true_eq_false,Bool.false_eq_true,false_or];exact h3)];rfl
theorem ln_p{l:Zac}{s:List UInt8}{v w:Int}{x0 x:List (List UInt8)}{p:Prop}(e:x0=l.Subs)(hx:p/\x=x0.take v.toNat++[s]++x0.drop v.toNat)(hw:(if w < 0 then (x0.length:Int) else w)=ixL x0 s)(hv:(w < 0/\v=x0.length)\/(¬ w < 0/\v=w))(h1:Zvk s=true)(h2:Zf4 x0 s=false)(h3:¬ (x0.length:Int)>=4):(⟨l.Super,l.Types,x⟩:Zac)=lnV l s:=by
 subst e
 refine ln_y h1 h2 h3 (v:=v) ?_ (by rw [hx.2];simp)
 rw [<- hw]
 rcases hv with ⟨a,b⟩ | ⟨a,b⟩
 .rw [if_pos a,b]
 .rw [if_neg a,b]
theorem cp_0{t:Zb}{x:List (List UInt8)}{y:List Zh}(hx:x=t.Line.Subs)(hy:y=t.Abilities):(⟨t.Name,t.Cost,t.Colors,⟨t.Line.Super,t.Line.Types,x⟩,t.Power,t.Tough,t.Keys,y,t.Control⟩:Zb)=t:=by subst hx;subst hy;rfl
theorem cp_e{l:List Zh}{i:Nat}{a:Zh}{m:List Zd}{s:List Za9}{e:List Zs}(h:l[i]?=some a)(hm:m=a.Mods)(hs:s=a.Specs)(he:e=a.Effects):l[i]?=some (⟨a.Kind,a.Filter,m,a.Price,a.Slow,a.Trigger,a.May,s,e,a.Replace⟩:Zh):=by subst hm;subst hs;subst he;exact h
theorem cp_n{l:List Zh}{i v:Nat}{a:Zh}{x:Zs}{m:List Zd}{z:List Zs}{p q:Prop}(h:l[i]?=some a)(hx:a.Effects[v]?=some x)(hz:p/\q/\z=a.Effects.set v ⟨x.Op,x.Ref,x.Amount,x.Counter,x.Zone,x.Card,x.Filter,x.Pool,m⟩)(hm:m=x.Mods):l[i]?=some (⟨a.Kind,a.Filter,a.Mods,a.Price,a.Slow,a.Trigger,a.May,a.Specs,z,a.Replace⟩:Zh):=by
 subst hm
 rw [hz.2.2,Zam9 hx];exact h
theorem cp_c{t b:Zb}{i:Nat}{y:Zh}{z:List Zh}{p q:Prop}(e:b=t)(h:b.Abilities[i]?=some y)(hz:p/\q/\z=b.Abilities.set i y):(⟨b.Name,b.Cost,b.Colors,b.Line,b.Power,b.Tough,b.Keys,z,b.Control⟩:Zb)=t:=by
 rw [hz.2.2,Zam9 h];exact e
def adV(a b:Int):Int:=clV (IntKind.wrap .i64 (clV a+clV b))
def apV(t:Zb)(m:Zd)(you n:Int):Zb:=
 if mdV m=false then t
 else if m.Kind=1 then { t with Control:=you }
 else if m.Kind=2 then { t with Line:=⟨t.Line.Super,m.N,t.Line.Subs⟩ }
 else if m.Kind=3 then { t with Line:=⟨t.Line.Super,Zay .or .i64 t.Line.Types m.N,t.Line.Subs⟩ }
 else if m.Kind=4 then { t with Line:=⟨t.Line.Super,t.Line.Types,[m.Sub]⟩ }
 else if m.Kind=5 then { t with Line:=lnV t.Line m.Sub }
 else if m.Kind=6 then { t with Colors:=m.N }
 else if m.Kind=7 then { t with Colors:=Zay .or .i64 t.Colors m.N }
 else if m.Kind=8 then { t with Keys:=Zay .or .i64 t.Keys m.N }
 else if m.Kind=9 then { t with Keys:=Zay .andNot .i64 t.Keys m.N }
 else if m.Kind=10 then { t with Keys:=0,Abilities:=[] }
 else if m.Kind=11 then { t with Power:=clV n,Tough:=clV n }
 else if m.Kind=12 then { t with Power:=m.N,Tough:=m.M }
 else if m.Kind=13 then { t with Power:=adV t.Power m.N,Tough:=adV t.Tough m.M }
 else if m.Kind=14 then { t with Power:=t.Tough,Tough:=t.Power }
 else t
def suV(a b:Int):Int:=clV (IntKind.wrap .i64 (clV a - clV b))
def pwV(c:A3 Int):Int:=suV c.a0 c.a1
theorem Zblo{c:A3 Int}{x y r:Int}(hr:r=suV x y)(hx:(A3.list c)[(0:Int).toNat]?=some x)(hy:(A3.list c)[(1:Int).toNat]?=some y):r=pwV c:=by
 simp [A3.list] at hx hy
 unfold pwV;rw [hr,hx,hy]
abbrev fZ:Zv:=⟨0,0,0,0,false,[],Za17,[]⟩
def fAt(w:Zc)(i:Int):Zv:=w.forces[i.toNat]?.getD fZ
def bA(l:List Bool)(i:Int):Bool:=l[i.toNat]?.getD false
def hA(l:List (List Int))(i:Int):List Int:=l[i.toNat]?.getD []
def Zjy(w:Zc)(i:Int):Int:=if (fAt w i).Fixed=false/\0<=ixO w.s.Objects (fAt w i).Source then (trV w.traits (ixO w.s.Objects (fAt w i).Source)).Control else (fAt w i).Control
def Zn3(w:Zc)(i:Int):Bool:=(fAt w i).Fixed||bA w.done i||decide (ixO w.s.Objects (fAt w i).Source < 0) || !bA w.dropped (ixO w.s.Objects (fAt w i).Source)
def Zt4(w:Zc)(f:Zv)(you:Int)(k:Int)(o:Zg):Bool:=(o.Zone==0)&&((f.Fixed&&f.Objects.contains o.Id)||(!f.Fixed&&matV o (trV w.traits k) you f.Source f.Filter))
def Zmb(w:Zc)(i:Int):List Int:=if bA w.done i then hA w.hits i else if Zn3 w i then zfm (Zt4 w (fAt w i) (Zjy w i)) (fun k _=>k) w.s.Objects w.s.Objects.length else []
def Zyd(s:Zk)(all:List Zb)(you src st:Int)(m:Zd):Int:=if m.Kind=11/\stV m.Kind=st then ((Zzt s all you src m.Filter).length:Int) else 0
def Zye(w:Zc)(i st:Int):List Int:=(fAt w i).Mods.map (Zyd w.s w.traits (Zjy w i) (fAt w i).Source st)
def mfS(mods:List Zd)(nums:List Int)(you st v:Int)(t:Zb):Zb:=((mods.take v.toNat).zipIdx).foldl (fun t q=>if stV q.1.Kind=st then apV t q.1 you (nums[q.2]?.getD 0) else t) t
def drS(mods:List Zd)(st v:Int)(b:Bool):Bool:=b||(mods.take v.toNat).any fun m=>m.Kind==10&&stV m.Kind==st
def Zvm(w:Zc)(i st:Int):Zc:=
 ⟨w.s,w.forces,(Zmb w i).foldl (Zic (mfS (fAt w i).Mods (Zye w i st) (Zjy w i) st (fAt w i).Mods.length)) w.traits,(Zmb w i).foldl (Zic (drS (fAt w i).Mods st (fAt w i).Mods.length)) w.dropped,w.done.set i.toNat true,w.hits.set i.toNat (Zmb w i)⟩
def Zr6(f:Ze)(st:Int):Bool:=
 if st=1 then decide (f.Who≠0)
 else if st=2 then decide (Zay .or .i64 f.Types f.NotTypes≠0\/f.Sub≠[]\/f.Power.Kind≠0\/f.Tough.Kind≠0)
 else if st=3 then decide (Zay .or .i64 f.Colors f.NotColors≠0)
 else if st=4 then decide (f.Keys≠0)
 else decide (f.Power.Kind≠0\/f.Tough.Kind≠0)
def Zmc(w:Zc)(i st:Int):Bool:=((fAt w i).Mods.any fun m=>m.Kind==11&&stV m.Kind==st&&Zr6 m.Filter st)||(!(fAt w i).Fixed && !bA w.done i&&(decide (st=4)||Zr6 (fAt w i).Filter st))
def Zjj(w:Zc)(i st:Int):Zaa:=⟨Zn3 w i,Zmb w i,Zye w i st⟩
def Z8q(a b:Zaa):Bool := !(a.active==b.active) || !(a.hits==b.hits) || !(a.numbers==b.numbers)
def ndB(w:Zc)(st i j:Int):Bool := !(i==j)&&(Zmc w i st&&Z8q (Zjj w i st) (Zjj (Zvm w j st) i st))
def belB(f:Zv)(st:Int):Bool:=f.Mods.any fun m=>stV m.Kind==st
def Zr7(fs:List Zv)(st:Int):List Int:=zfm (fun _ f=>belB f st) (fun k _=>k) fs fs.length
def cntT(o:Zg)(t:Zb):Zb:=if o.Zone=0/\Zay .and .i64 t.Line.Types 1≠0 then { t with Power:=adV t.Power (pwV o.Counters),Tough:=adV t.Tough (pwV o.Counters) } else t
def Z8r(os:List Zg)(k:Nat)(t:Zb):Zb:=match os[k]? with | some o=>cntT o t | none=>t
def Zt5(w:Zc):Zc:={ w with traits:=w.traits.mapIdx (Z8r w.s.Objects) }
def itr{α:Type}(f:α->α):Nat->α->α
 | 0,x=>x
 | n+1,x=>f (itr f n x)
noncomputable def stF(st:Int)(sts:List Int)(x:Zc×List Int×List Int):Zc×List Int×List Int:=
 (Zvm x.1 (nxV x.2.1 sts (ndB x.1 st)) st,x.2.1.filter (neI (nxV x.2.1 sts (ndB x.1 st))),x.2.2++[nxV x.2.1 sts (ndB x.1 st)])
noncomputable def Z1p(w:Zc)(st:Int):List Int×Zc:=
 let r:=itr (stF st (w.forces.map fun f=>f.Stamp)) (Zr7 w.forces st).length (if st=7 then Zt5 w else w,Zr7 w.forces st,[])
 (r.2.2,r.1)
def begV(cards:List Zm)(s:Zk):Zc:=
 ⟨s,FS fL gL cards s,s.Objects.map (baV cards),List.replicate s.Objects.length false,List.replicate (FS fL gL cards s).length false,List.replicate (FS fL gL cards s).length []⟩
noncomputable def Zpg(cards:List Zm)(s:Zk):Nat->Zc
 | 0=>begV cards s
 | n+1=>(Z1p (Zpg cards s n) ((n+1:Nat):Int)).2
end Go.PW
set_option maxRecDepth 100000
namespace Go.PW
theorem Zph{w:Zc}{i:Int}{f:Zv}(h:w.forces[i.toNat]?=some f):fAt w i=f:=by unfold fAt;rw [h];rfl
theorem Zzu{l:List Bool}{i:Int}{b:Bool}(h:l[i.toNat]?=some b):bA l i=b:=by unfold bA;rw [h];rfl
theorem Zblp{l:List (List Int)}{i:Int}{b:List Int}(h:l[i.toNat]?=some b):hA l i=b:=by unfold hA;rw [h];rfl
section
variable {w:Zc} {i x:Int} {f:Zv}
theorem yo_a(hf:w.forces[i.toNat]?=some f)(h:f.Fixed=true):f.Control=Zjy w i:=by unfold Zjy;rw [Zph hf,if_neg (by rw [h];simp)]
theorem yo_b(hf:w.forces[i.toNat]?=some f)(hi:Zd4 w.s.Objects->x=ixO w.s.Objects f.Source)(hs:Zd4 w.s.Objects)(h:¬ x>=0):f.Control=Zjy w i:=by unfold Zjy;rw [Zph hf,<- hi hs,if_neg O]
theorem yo_c{t:Zb}(hf:w.forces[i.toNat]?=some f)(hi:Zd4 w.s.Objects->x=ixO w.s.Objects f.Source)(hs:Zd4 w.s.Objects)(ht:w.traits[x.toNat]?=some t)(hF:f.Fixed=false)(h:x>=0):t.Control=Zjy w i:=by
 unfold Zjy;rw [Zph hf,<- hi hs,if_pos ⟨hF,h⟩,<- Za8b ht O]
theorem ac_a(hf:w.forces[i.toNat]?=some f)(h:f.Fixed=true):true=Zn3 w i:=by unfold Zn3;rw [Zph hf,h];simp
theorem ac_b{d:Bool}(hd:w.done[i.toNat]?=some d)(h:d=true):true=Zn3 w i:=by unfold Zn3;rw [Zzu hd,h];simp
theorem ac_c(hf:w.forces[i.toNat]?=some f)(hi:Zd4 w.s.Objects->x=ixO w.s.Objects f.Source)(hs:Zd4 w.s.Objects)(h:x < 0):true=Zn3 w i:=by unfold Zn3;rw [Zph hf,<- hi hs,decide_eq_true h];simp
theorem ac_d{d e:Bool}(hf:w.forces[i.toNat]?=some f)(hi:Zd4 w.s.Objects->x=ixO w.s.Objects f.Source)(hs:Zd4 w.s.Objects)(hd:w.done[i.toNat]?=some d)(he:w.dropped[x.toNat]?=some e)(hF:f.Fixed=false)(h:d=false)(hx:¬ x < 0):(!e)=Zn3 w i:=by
 unfold Zn3;rw [Zph hf,<- hi hs,Zzu hd,Zzu he,hF,h,decide_eq_false hx];simp
theorem ht_c{you k:Int}{o:Zg}{c:Bool}(hz:o.Zone=0)(hF:f.Fixed=true)(hc:c=true↔o.Id∈f.Objects)(h:c=true):Zt4 w f you k o=true:=by
 unfold Zt4;rw [hz,hF];simp [hc.1 h]
theorem ht_n{you k:Int}{o:Zg}{c:Bool}(hF:f.Fixed=true)(hc:c=true↔o.Id∈f.Objects)(h:c=false):Zt4 w f you k o=false:=by
 have:o.Id∉f.Objects:=fun hm=>by rw [hc.2 hm] at h;cases h
 unfold Zt4;rw [hF];simp [this]
theorem ht_m{you k:Int}{o:Zg}{c:Bool}{t:Zb}(hm:c=matV o t you f.Source f.Filter)(ht:w.traits[k.toNat]?=some t)(hz:o.Zone=0)(hF:f.Fixed=false)(h0:0<=k):Zt4 w f you k o=c:=by
 unfold Zt4;rw [hz,hF,<- Za8b ht O,hm];simp
theorem ht_z{you k:Int}{o:Zg}(hz:¬ o.Zone=0):Zt4 w f you k o=false:=by
 unfold Zt4;rw [show (o.Zone==0)=false by simpa using hz];rfl
theorem af_h{d:Bool}{h:List Int}(hd:w.done[i.toNat]?=some d)(hh:w.hits[i.toNat]?=some h)(hb:d=true):h=Zmb w i:=by unfold Zmb;rw [Zzu hd,hb,if_pos rfl,Zblp hh]
theorem af_n{d a:Bool}(hd:w.done[i.toNat]?=some d)(ha:a=Zn3 w i)(hb:d=false)(h:a=false):[]=Zmb w i:=by
 unfold Zmb;rw [Zzu hd,hb,<- ha,h];rfl
theorem af_l{you v:Int}{z:List Int}{os:List Zg}(h:z=zfm (Zt4 w f you) (fun k _=>k) os v)(hv:(os.length:Int)<=v)(hf:w.forces[i.toNat]?=some f)(hy:you=Zjy w i)(ho:os=w.s.Objects)(ha:Zn3 w i=true)(hd:bA w.done i=false):z=Zmb w i:=by
 subst ho;subst hy
 unfold Zmb;rw [hd,ha,Zph hf];exact Zapp h hv
theorem nu_y{s:Zk}{all:List Zb}{you you' src st g:Int}{l:List Int}{m:Zd}(hl:l=Zzt s all you' src m.Filter)(hy:you'=you)(hk:m.Kind=11)(hg:g=stV m.Kind)(hs:g=st):(l.length:Int)=Zyd s all you src st m:=by
 subst hy;unfold Zyd;rw [if_pos ⟨hk,by rw [<- hg,hs]⟩,hl]
theorem nu_k{s:Zk}{all:List Zb}{you src st:Int}{m:Zd}(hk:¬ m.Kind=11):0=Zyd s all you src st m:=by unfold Zyd;rw [if_neg fun k=>hk k.1]
theorem nu_s{s:Zk}{all:List Zb}{you src st g:Int}{m:Zd}(hg:g=stV m.Kind)(hs:¬ g=st):0=Zyd s all you src st m:=by unfold Zyd;rw [if_neg fun k=>hs (by rw [hg,k.2])]
theorem nu_0{α:Type}{g:Nat->α->Int}{l:List α}{z:List Int}{n:Int}(h:(z.length:Int)=n/\∀ e,e∈z->e=0)(hn:n=l.length):z=l.mapIdx (Zg3 g (fun _ _=>0) 0):=by
 refine up_0 (List.ext_getElem? fun j=>?_)
 rw [List.getElem?_mapIdx]
 by_cases hj:j < l.length
 .rw [List.getElem?_eq_getElem hj,List.getElem?_eq_getElem (show j < z.length by have:=h.1;omega),h.2 _ (List.getElem_mem _)];rfl
 .rw [List.getElem?_eq_none O,List.getElem?_eq_none (by have:=h.1;omega)];rfl
theorem nu_e{st you v:Int}{z:List Int}{ms:List Zd}(h:z=ms.mapIdx (Zg3 (fun _ m=>Zyd w.s w.traits you f.Source st m) (fun _ _=>0) v))(hv:(ms.length:Int)<=v)(hf:w.forces[i.toNat]?=some f)(hm:ms=f.Mods)(hy:you=Zjy w i):z=Zye w i st:=by
 subst hm;subst hy
 rw [Za8t h hv];unfold Zye;rw [Zph hf]
 refine List.ext_getElem? fun j=>?_
 rw [List.getElem?_mapIdx,List.getElem?_map]
end
def TRS(w:Zc)(i st:Int)(nums:List Int)(you:Int)(hits:List Int)(v:Int):List Zb:=(hits.take v.toNat).foldl (Zic (mfS (fAt w i).Mods nums you st (fAt w i).Mods.length)) w.traits
def DRS(w:Zc)(i st:Int)(hits:List Int)(v:Int):List Bool:=(hits.take v.toNat).foldl (Zic (drS (fAt w i).Mods st (fAt w i).Mods.length)) w.dropped
theorem Zaym{ms:List Zd}{nums:List Int}{you st v w:Int}{m:Zd}{t:Zb}(hx:ms[v.toNat]?=some m)(h0:0<=v)(hw:w=v+1):mfS ms nums you st w t=if stV m.Kind=st then apV (mfS ms nums you st v t) m you (nums[v.toNat]?.getD 0) else mfS ms nums you st v t:=by
 subst hw
 have hv:(v+1).toNat=v.toNat+1:=by omega
 have hlt:=(List.getElem?_eq_some_iff.1 hx).1
 unfold mfS
 rw [hv,List.take_add_one,hx,Option.toList_some,List.zipIdx_append,List.foldl_append,List.length_take,Nat.min_eq_left O,Nat.zero_add]
 rfl
theorem Zayn{ms:List Zd}{st v w:Int}{m:Zd}{b:Bool}(hx:ms[v.toNat]?=some m)(h0:0<=v)(hw:w=v+1):drS ms st w b=(drS ms st v b||(m.Kind==10&&stV m.Kind==st)):=by
 unfold drS
 rw [Zci hx h0 hw,List.any_append,Bool.or_assoc]
 simp
theorem Zasi{α:Type}{g g':α->α}{l z:List α}{k:Int}(h:z=Zic g l k)(e:∀ t,g' t=g t):z=Zic g' l k:=by
 rw [h,show g'=g from funext e]
section
variable {w:Zc} {i st you:Int} {nums hits:List Int}
theorem tr_0{c:List Zb}(h:c=w.traits):c=TRS w i st nums you hits 0:=h
theorem Zblq{c T:List Zb}{ms:List Zd}{k:Int}(h:c=T):c=Zic (mfS ms nums you st 0) T k:=h.trans (Za2i fun _=>rfl)
theorem Zblr{c T:List Zb}{ms:List Zd}{j j' k g:Int}{m:Zd}(h:c=Zic (mfS ms nums you st j) T k)(hx:ms[j.toNat]?=some m)(h0:0<=j)(hj:j'=j+1)(hg:g=stV m.Kind)(hs:¬ g=st):c=Zic (mfS ms nums you st j') T k:=
 Zasi h fun t=>by rw [Zaym hx h0 hj,if_neg (by rw [<- hg];exact hs)]
theorem tr_y{c c' T:List Zb}{ms:List Zd}{j j' k g n:Int}{m:Zd}{t y:Zb}{p q:Prop}(h:c=Zic (mfS ms nums you st j) T k)(e:p/\q/\c'=c.set k.toNat y)(hx:ms[j.toNat]?=some m)(ht:c[k.toNat]?=some t)(hn:nums[j.toNat]?=some n)(hy:y=apV t m you n)(h0:0<=j)(hj:j'=j+1)(hg:g=stV m.Kind)(hs:g=st):c'=Zic (mfS ms nums you st j') T k:=
 Zash h ht e.2.2 fun u hu=>by rw [Zaym hx h0 hj,if_pos (by rw [<- hg];exact hs),<- hu,hn];exact hy
theorem Zbhq{c:List Zb}{ms:List Zd}{j v v' k:Int}(h:c=Zic (mfS ms nums you st j) (TRS w i st nums you hits v) k)(hm:ms=(fAt w i).Mods)(hk:hits[v.toNat]?=some k)(hj:j=ms.length)(h0:0<=v)(hv:v'=v+1):c=TRS w i st nums you hits v':=by
 subst hm;subst hj
 unfold TRS at *
 rw [h,Zci hk h0 hv,List.foldl_append];rfl
theorem dr_0{c:List Bool}(h:c=w.dropped):c=DRS w i st hits 0:=h
theorem Zbls{c T:List Bool}{ms:List Zd}{k:Int}(h:c=T):c=Zic (drS ms st 0) T k:=h.trans (Za2i fun t=>by unfold drS;simp)
theorem Zbcw{c T:List Bool}{ms:List Zd}{j j' k g:Int}{m:Zd}(h:c=Zic (drS ms st j) T k)(hx:ms[j.toNat]?=some m)(h0:0<=j)(hj:j'=j+1)(hg:g=stV m.Kind)(hs:¬ g=st\/¬ m.Kind=10):c=Zic (drS ms st j') T k:=
 Zasi h fun t=>by
  rw [Zayn hx h0 hj]
  have:(m.Kind==10&&stV m.Kind==st)=false:=by
   rcases hs with hs | hs
   .rw [show (stV m.Kind==st)=false by rw [<- hg];simpa using hs];simp
   .rw [show (m.Kind==10)=false by simpa using hs];rfl
  rw [this,Bool.or_false]
theorem dr_y{c c' T:List Bool}{ms:List Zd}{j j' k g:Int}{m:Zd}{b:Bool}{p q:Prop}(h:c=Zic (drS ms st j) T k)(e:p/\q/\c'=c.set k.toNat true)(hx:ms[j.toNat]?=some m)(hb:c[k.toNat]?=some b)(h0:0<=j)(hj:j'=j+1)(hg:g=stV m.Kind)(hs:g=st)(hk:m.Kind=10):c'=Zic (drS ms st j') T k:=
 Zash h hb e.2.2 fun t _=>by
  rw [Zayn hx h0 hj,<- hg,hs,hk];simp
theorem Zbhr{c:List Bool}{ms:List Zd}{j v v' k:Int}(h:c=Zic (drS ms st j) (DRS w i st hits v) k)(hm:ms=(fAt w i).Mods)(hk:hits[v.toNat]?=some k)(hj:j=ms.length)(h0:0<=v)(hv:v'=v+1):c=DRS w i st hits v':=by
 subst hm;subst hj
 unfold DRS at *
 rw [h,Zci hk h0 hv,List.foldl_append];rfl
theorem Zbhs{c:Zc}{v:Int}{d:List Bool}{h:List (List Int)}{p q p' q':Prop}{hs hs':List Int}(es:c.s=w.s)(ef:c.forces=w.forces)(ht:c.traits=TRS w i st nums you hs v)(hd:c.dropped=DRS w i st hs v)(hdn:c.done=w.done)(hhn:c.hits=w.hits)(ed:p/\q/\d=c.done.set i.toNat true)(eh:p'/\q'/\h=c.hits.set i.toNat hs')(hh:hs'=Zmb w i)(hh':hs=hs')(hn:nums=Zye w i st)(hy:you=Zjy w i)(hv:(hs.length:Int)<=v):(⟨c.s,c.forces,c.traits,c.dropped,d,h⟩:Zc)=Zvm w i st:=by
 subst hh';subst hh;subst hn;subst hy
 unfold TRS at ht;unfold DRS at hd
 rw [List.take_of_length_le O] at ht hd
 rw [es,ef,ht,hd,ed.2.2,eh.2.2,hdn,hhn];rfl
end
def Zyf(st:Int)(m:Zd):Bool:=m.Kind==11&&stV m.Kind==st&&Zr6 m.Filter st
theorem dp_n{ms:List Zd}{st v w:Int}{m:Zd}(h:(ms.take v.toNat).any (Zyf st)=false)(hx:ms[v.toNat]?=some m)(h0:0<=v)(hw:w=v+1)(hp:Zyf st m=false):(ms.take w.toNat).any (Zyf st)=false:=by
 rw [Zci hx h0 hw,List.any_append,h];simp [hp]
theorem dp_a{st:Int}{m:Zd}(h:¬ m.Kind=11):Zyf st m=false:=by unfold Zyf;rw [show (m.Kind==11)=false by simpa using h];rfl
theorem dp_b{st g:Int}{m:Zd}(hg:g=stV m.Kind)(h:¬ g=st):Zyf st m=false:=by unfold Zyf;rw [<- hg,show (g==st)=false by simpa using h];simp
theorem dp_c{st:Int}{m:Zd}{c:Bool}(hc:c=Zr6 m.Filter st)(h:c=false):Zyf st m=false:=by unfold Zyf;rw [<- hc,h];simp
theorem de_y{w:Zc}{i st v g:Int}{f:Zv}{m:Zd}{c:Bool}{ms:List Zd}(hf:w.forces[i.toNat]?=some f)(hm:ms=f.Mods)(hx:ms[v.toNat]?=some m)(hk:m.Kind=11)(hg:g=stV m.Kind)(hs:g=st)(hc:c=Zr6 m.Filter st)(h:c=true):true=Zmc w i st:=by
 subst hm
 have:(f.Mods.any fun m=>m.Kind==11&&stV m.Kind==st&&Zr6 m.Filter st)=true:=List.any_eq_true.2 ⟨m,List.mem_of_getElem? hx,by rw [<- hg,hs,hk,<- hc,h];simp⟩
 unfold Zmc;rw [Zph hf,this];rfl
theorem de_e{w:Zc}{i st v:Int}{f:Zv}{ms:List Zd}{r:Bool}(h:(ms.take v.toNat).any (Zyf st)=false)(hv:(ms.length:Int)<=v)(hf:w.forces[i.toNat]?=some f)(hm:ms=f.Mods)(hr:r=(!f.Fixed && !bA w.done i&&(decide (st=4)||Zr6 f.Filter st))):r=Zmc w i st:=by
 subst hm
 rw [List.take_of_length_le O] at h
 unfold Zmc;rw [Zph hf]
 show r=((f.Mods.any (Zyf st))||_)
 rw [h,hr];rfl
theorem de_1{f:Zv}{d:Bool}{st:Int}(h:f.Fixed=true):false=(!f.Fixed && !d&&(decide (st=4)||Zr6 f.Filter st)):=by rw [h];rfl
theorem de_2{w:Zc}{i st:Int}{f:Zv}{d:Bool}(hd:w.done[i.toNat]?=some d)(h:d=true):false=(!f.Fixed && !bA w.done i&&(decide (st=4)||Zr6 f.Filter st)):=by rw [Zzu hd,h];simp
theorem de_3{w:Zc}{i st:Int}{f:Zv}{d:Bool}(hd:w.done[i.toNat]?=some d)(hF:f.Fixed=false)(h:d=false)(hs:st=4):true=(!f.Fixed && !bA w.done i&&(decide (st=4)||Zr6 f.Filter st)):=by rw [Zzu hd,h,hF,decide_eq_true hs];rfl
theorem de_4{w:Zc}{i st:Int}{f:Zv}{d c:Bool}(hc:c=Zr6 f.Filter st)(hd:w.done[i.toNat]?=some d)(hF:f.Fixed=false)(h:d=false)(hs:¬ st=4):c=(!f.Fixed && !bA w.done i&&(decide (st=4)||Zr6 f.Filter st)):=by rw [Zzu hd,h,hF,decide_eq_false hs,hc];simp
theorem lk_e{w:Zc}{i st:Int}{a:Bool}{b c:List Int}(h1:a=Zn3 w i)(h2:b=Zmb w i)(h3:c=Zye w i st):(⟨a,b,c⟩:Zaa)=Zjj w i st:=by rw [h1,h2,h3];rfl
def VZ:Zaa:=⟨false,[],[]⟩
theorem Zasj{α:Type}(n k:Int)(x:α):∀ m:List (Int×α),Zi9 (Zhl m n x) k=if k=n then some x else Zi9 m k
 | []=>by
  show (bif n==k then some x else none)=if k=n then some x else none
  by_cases h:k=n
  .subst h;simp
  .rw [if_neg h,show (n==k)=false by simpa using fun e=>h e.symm];rfl
 | (a,b)::m=>by
  show Zi9 (bif a==n then (a,x)::m else (a,b)::Zhl m n x) k=_
  by_cases h:a=n
  .subst h
   rw [show (a==a)=true by simp,cond_true]
   show (bif a==k then some x else Zi9 m k)=if k=a then some x else (bif a==k then some b else Zi9 m k)
   by_cases hk:k=a
   .subst hk;simp
   .rw [if_neg hk,show (a==k)=false by simpa using fun e=>hk e.symm];rfl
  .rw [show (a==n)=false by simpa using h,cond_false]
   show (bif a==k then some b else Zi9 (Zhl m n x) k)=if k=n then some x else (bif a==k then some b else Zi9 m k)
   rw [Zasj n k x m]
   by_cases hk:a=k
   .subst hk;simp [h]
   .rw [show (a==k)=false by simpa using hk];rfl
def MPV(w:Zc)(st:Int)(l:List Int)(v:Int)(m:List (Int×Zaa)):Prop:=∀ k,Zi9 m k=if k∈l.take v.toNat/\Zmc w k st=true then some (Zjj w k st) else none
theorem mp_0{w:Zc}{st:Int}{l:List Int}:MPV w st l 0 []:=fun k=>by
 rw [if_neg (by simp)];rfl
theorem mp_y{w:Zc}{st v v' x:Int}{l:List Int}{m z:List (Int×Zaa)}{y:Zaa}{d:Bool}(h:MPV w st l v m)(e:z=Zhl m x y)(hx:l[v.toNat]?=some x)(h0:0<=v)(hv:v'=v+1)(hd:d=Zmc w x st)(hb:d=true)(hy:y=Zjj w x st):MPV w st l v' z:=fun k=>by
 subst e;subst hy
 rw [Zasj,Zci hx h0 hv]
 by_cases hk:k=x
 .subst hk;rw [if_pos rfl,if_pos ⟨by simp,by rw [<- hd,hb]⟩]
 .rw [if_neg hk,h k];simp [hk]
theorem mp_n{w:Zc}{st v v' x:Int}{l:List Int}{m:List (Int×Zaa)}{d:Bool}(h:MPV w st l v m)(hx:l[v.toNat]?=some x)(h0:0<=v)(hv:v'=v+1)(hd:d=Zmc w x st)(hb:d=false):MPV w st l v' m:=fun k=>by
 rw [h k,Zci hx h0 hv]
 by_cases hk:k=x
 .subst hk;rw [if_neg (by rw [<- hd,hb];simp),if_neg (by rw [<- hd,hb];simp)]
 .simp [hk]
theorem mp_e{w:Zc}{st v:Int}{l:List Int}{m:List (Int×Zaa)}(h:MPV w st l v m)(hv:(l.length:Int)<=v):∀ k,k∈l->Zi9 m k=if Zmc w k st=true then some (Zjj w k st) else none:=fun k hk=>by
 rw [h k,List.take_of_length_le O];simp [hk]
def MPE(w:Zc)(st:Int)(l:List Int)(m:List (Int×Zaa)):Prop:=∀ k,k∈l->Zi9 m k=if Zmc w k st=true then some (Zjj w k st) else none
theorem Za39{w:Zc}{st:Int}{l:List Int}{m:List (Int×Zaa)}{k:Int}{r:Zaa×Bool}(h:MPE w st l m)(hk:k∈l)(e:r=mlk m k VZ):r.2=Zmc w k st/\(r.2=true->r.1=Zjj w k st):=by
 subst e
 unfold mlk
 rw [h k hk]
 cases Zmc w k st with
 | true=>exact⟨rfl,fun _=>rfl⟩
 | false=>exact⟨rfl,fun h=>by cases h⟩
def FLS(m:List (List Bool)):Prop:=∀ r,r∈m->∀ e,e∈r->e=false
theorem Zbfn{m:List (List Bool)}{q:Prop}(h:q/\∀ e,e∈m->e=[]):FLS m:=fun r hr e he=>by rw [h.2 r hr] at he;cases he
theorem Zbfo{m z:List (List Bool)}{y:List Bool}{p q r:Prop}(h:FLS m)(e:p/\(∀ e,e∈z->e=y\/e∈m)/\r)(hy:q/\∀ e,e∈y->e=false):FLS z:=fun a ha e' he=>by
 rcases e.2.1 a ha with h1 | h1
 .subst h1;exact hy.2 e' he
 .exact h a h1 e' he
theorem Zayo{m:List (List Bool)}(h:FLS m)(x y:Int):nB m x y=false:=by
 unfold nB
 cases hx:m[x.toNat]? with
 | none=>rfl
 | some r=>
  show (r[y.toNat]?).getD false=false
  cases hy:r[y.toNat]? with
  | none=>rfl
  | some e=>exact h r (List.mem_of_getElem? hx) e (List.mem_of_getElem? hy)
def NDM(w:Zc)(st:Int)(l:List Int)(m:List (List Bool)):Prop:=∀ x y,x∈l->y∈l->nB m x y=ndB w st x y
theorem Zblt{w:Zc}{st:Int}{l:List Int}{m:List (List Bool)}{v:List (Int×Zaa)}{n:Int}(h:FLS m)(g:MPV w st l n v)(hn:(l.length:Int)<=n)(hv:(v.length:Int)=0):NDM w st l m:=fun x y hx _=>by
 have:v=[]:=List.eq_nil_of_length_eq_zero O
 subst this
 have:=mp_e g hn x hx
 have hd:Zmc w x st=false:=by
  cases hd:Zmc w x st with
  | false=>rfl
  | true=>rw [hd] at this;cases this
 rw [Zayo h];unfold ndB;rw [hd];simp
theorem Zblu{w:Zc}{st:Int}{l:List Int}{m:List (List Bool)}(h:FLS m)(hl:(l.length:Int) < 2):NDM w st l m:=fun x y hx hy=>by
 have:x=y:=by
  match l,hl with
  | [],_=>cases hx
  | [a],_=>rw [List.mem_singleton] at hx hy;rw [hx,hy]
  | _::_::_,hl=>simp only [List.length_cons] at hl;omega
 subst this
 rw [Zayo h];unfold ndB;simp
def ND2(w:Zc)(st:Int)(l:List Int)(v u:Int)(m:List (List Bool)):Prop:=∀ x y,x∈l->y∈l->nB m x y=if y∈l.take v.toNat\/(l[v.toNat]?=some y/\x∈l.take u.toNat) then ndB w st x y else false
theorem Zblv{w:Zc}{st:Int}{l:List Int}{m:List (List Bool)}(h:FLS m):ND2 w st l 0 0 m:=fun x y _ _=>by
 rw [Zayo h,if_neg]
 rintro (h | h)
 .simp at h
 .simp at h
theorem Zbfp{w:Zc}{st v u v':Int}{l:List Int}{m:List (List Bool)}(h:ND2 w st l v u m)(hu:(l.length:Int)<=u){j:Int}(hj:l[v.toNat]?=some j)(h0:0<=v)(hv:v'=v+1):ND2 w st l v' 0 m:=fun x y hx hy=>by
 rw [h x y hx hy,Zci hj h0 hv,List.take_of_length_le (l:=l) (i:=u.toNat) O,hj]
 have e:((0:Int).toNat)=0:=rfl
 simp only [e,List.take_zero,List.not_mem_nil,and_false,or_false,List.mem_append,List.mem_singleton,Option.some.injEq,hx,and_true]
 by_cases h1:y∈l.take v.toNat
 .simp [h1]
 .by_cases h2:j=y
  .subst h2;simp [h1]
  .have:¬ y=j:=fun e=>h2 e.symm
   simp [h1,h2,this]
theorem Zblw{w:Zc}{st v u:Int}{l:List Int}{m:List (List Bool)}(h:ND2 w st l v u m)(hv:(l.length:Int)<=v):NDM w st l m:=fun x y hx hy=>by
 rw [h x y hx hy,List.take_of_length_le O,if_pos (.inl hy)]
theorem Zbfq{m:List (List Bool)}{i j x y:Int}{r:List Bool}{b:Bool}(h0:0<=i)(g0:0<=j)(x0:0<=x)(y0:0<=y)(hr:m[i.toNat]?=some r)(hj:j.toNat < r.length):nB (m.set i.toNat (r.set j.toNat b)) x y=if x=i/\y=j then b else nB m x y:=by
 have:=Za8j (a:=x.toNat) (b:=y.toNat) (v:=b) hr hj
 have e:∀ m:List (List Bool),nB m x y=mE m x.toNat y.toNat:=fun _=>rfl
 rw [e,this,e]
 by_cases h:x=i/\y=j
 .rw [if_pos h,if_pos O]
 .rw [if_neg h,if_neg O]
theorem Zblx{w W:Zc}{st v u u' i j:Int}{l:List Int}{m z:List (List Bool)}{r:List Bool}{b:Bool}{q:Zaa×Bool}{vw:Zaa}{c:Bool}(h:ND2 w st l v u m)(hp:POS l)(e:z=m.set i.toNat (r.set j.toNat c))(hr:m[i.toNat]?=some r)(hq:r[j.toNat]?=some b)(hi:l[u.toNat]?=some i)(hj:l[v.toNat]?=some j)(h0:0<=u)(hu:u'=u+1)
 (hk:q.2=Zmc w i st/\(q.2=true->q.1=Zjj w i st)) (hb:q.2=true) (hne:¬ i=j) (hW:W=Zvm w j st) (hv:vw=Zjj W i st) (hc:c=Z8q q.1 vw):ND2 w st l v u' z:=fun x y hx hy=>by
 have hi':=List.mem_of_getElem? hi
 have hj':=List.mem_of_getElem? hj
 subst e;subst hW;subst hv
 rw [Zbfq (hp i hi') (hp j hj') (hp x hx) (hp y hy) hr (List.getElem?_eq_some_iff.1 hq).1,Zci hi h0 hu]
 have hn:c=ndB w st i j:=by
  unfold ndB
  rw [hc,hk.2 hb,<- hk.1,hb,show (i==j)=false by simpa using hne];rfl
 by_cases hxy:x=i/\y=j
 .obtain⟨rfl,rfl⟩:=hxy
  rw [if_pos ⟨rfl,rfl⟩,if_pos (.inr ⟨hj,by simp⟩),hn]
 .rw [if_neg hxy,h x y hx hy,hj]
  by_cases hyj:y=j
  .have hxi:¬ x=i:=fun e=>hxy ⟨e,hyj⟩
   simp [hxi]
  .have:¬ j=y:=fun e=>hyj e.symm
   simp [this]
theorem Zbcx{w:Zc}{st v u u' i j:Int}{l:List Int}{m:List (List Bool)}{q:Zaa×Bool}(h:ND2 w st l v u m)(hi:l[u.toNat]?=some i)(hj:l[v.toNat]?=some j)(h0:0<=u)(hu:u'=u+1)
 (hk:q.2=Zmc w i st/\(q.2=true->q.1=Zjj w i st)) (hb:q.2=false\/i=j):ND2 w st l v u' m:=fun x y hx hy=>by
 rw [h x y hx hy,Zci hi h0 hu,hj]
 have hn:ndB w st i j=false:=by
  unfold ndB
  rcases hb with hb | hb
  .rw [<- hk.1,hb];simp
  .rw [hb];simp
 by_cases hxy:x=i/\y=j
 .obtain⟨rfl,rfl⟩:=hxy
  rw [hn];simp
 .by_cases hyj:y=j
  .have hxi:¬ x=i:=fun e=>hxy ⟨e,hyj⟩
   simp [hxi]
  .have:¬ j=y:=fun e=>hyj e.symm
   simp [this]
theorem cg_a{a b:Zaa}(h:(a.active==b.active)=false):true=Z8q a b:=by unfold Z8q;rw [h];rfl
theorem cg_b{a b:Zaa}{c:Bool}(hc:c=true↔a.hits=b.hits)(h:c=false):true=Z8q a b:=by
 unfold Z8q;rw [show (a.hits==b.hits)=false by simpa using fun e=>by rw [hc.2 e] at h;cases h];simp
theorem cg_c{a b:Zaa}{c d:Bool}(h0:(a.active==b.active)=true)(hc:c=true↔a.hits=b.hits)(h:c=true)(hd:d=true↔a.numbers=b.numbers):(!d)=Z8q a b:=by
 unfold Z8q
 rw [show (a.hits==b.hits)=true by simpa using hc.1 h,h0]
 cases hdd:d with
 | true=>rw [show (a.numbers==b.numbers)=true by simpa using hd.1 hdd];rfl
 | false=>rw [show (a.numbers==b.numbers)=false by simpa using fun e=>by rw [hd.2 e] at hdd;cases hdd];rfl
theorem Zbly{s s':Zk}(h:Zd4 s.Objects)(e:s'=s):Zd4 s'.Objects:=by rw [e];exact h
theorem fa_m{w c:Zc}{i:Int}{f:Zv}(h:c.forces[i.toNat]?=some f)(e:c.forces=w.forces):f.Mods=(fAt w i).Mods:=by rw [e] at h;rw [Zph h]
theorem Zbfr{a b:List Int}{v w x y:Int}(h:∀ (k:Nat) x,(k:Int) < v->a[k]?=some x->b[k]?=some x)(hx:a[v.toNat]?=some x)(hy:b[v.toNat]?=some y)(e:x=y)(h0:0<=v)(hw:w=v+1):∀ (k:Nat) x,(k:Int) < w->a[k]?=some x->b[k]?=some x:=fun k z hk hz=>by
 by_cases hkv:(k:Int) < v
 .exact h k z hkv hz
 .have:k=v.toNat:=by omega
  subst this
  rw [hy,<- e,<- Option.some.inj (hx.symm.trans hz)]
theorem eq_y{a b:List Int}{v:Int}(h:∀ (k:Nat) x,(k:Int) < v->a[k]?=some x->b[k]?=some x)(hl:a.length=b.length)(hv:(a.length:Int)<=v):true=true↔a=b:=⟨fun _=>List.ext_getElem? fun k=>by
 cases hx:a[k]? with
 | none=>have:=List.getElem?_eq_none_iff.1 hx;rw [List.getElem?_eq_none O]
 | some x=>have:=(List.getElem?_eq_some_iff.1 hx).1;rw [h k x O hx],fun _=>rfl⟩
theorem eq_n{a b:List Int}{k:Nat}{x y:Int}(hx:a[k]?=some x)(hy:b[k]?=some y)(hn:¬ x=y):false=true↔a=b:=⟨fun h=>absurd h Bool.false_ne_true,fun h=>by subst h;exact absurd (Option.some.inj (hx.symm.trans hy)) hn⟩
theorem Za8u{α:Type}{g:Nat->α->α}{l z:List α}{v:Int}{x:α}(h:z=l.mapIdx (Zg3 g (fun _ t=>t) v))(hx:z[v.toNat]?=some x)(h0:0<=v):l[v.toNat]?=some x:=by
 subst h
 rw [List.getElem?_mapIdx] at hx
 cases hl:l[v.toNat]? with
 | none=>rw [hl] at hx;cases hx
 | some y=>
  rw [hl] at hx
  have hx:Zg3 g (fun _ t=>t) v v.toNat y=x:=Option.some.inj hx
  unfold Zg3 at hx
  rw [if_neg O] at hx
  exact congrArg some hx
theorem Zblz{α:Type}{g:Nat->α->α}{l:List α}:l=l.mapIdx (Zg3 g (fun _ t=>t) 0):=by
 refine List.ext_getElem? fun j=>?_
 rw [List.getElem?_mapIdx]
 cases l[j]? with
 | none=>rfl
 | some y=>show some y=some (Zg3 g _ 0 j y);unfold Zg3;rw [if_neg O]
theorem ct_y{os:List Zg}{l z z1 z2:List Zb}{v w n a b:Int}{o:Zg}{x:Zb}{y:Zb}{p q p' q':Prop}(h:z=l.mapIdx (Zg3 (Z8r os) (fun _ t=>t) v))(hx:z[v.toNat]?=some x)(ho:os[v.toNat]?=some o)(e1:p/\q/\z1=z.set v.toNat y)(e2:p'/\q'/\z2=z1.set v.toNat ⟨x.Name,x.Cost,x.Colors,x.Line,a,b,x.Keys,x.Abilities,x.Control⟩)(hn:n=pwV o.Counters)(ha:a=adV x.Power n)(hb:b=adV x.Tough n)(h0:0<=v)(hw:w=v+1)(hz:o.Zone=0)(ht:¬ Zay .and .i64 x.Line.Types 1=0):z2=l.mapIdx (Zg3 (Z8r os) (fun _ t=>t) w):=by
 refine Za8s (z:=z) (Za8u h hx h0) h h0 hw (by rw [e2.2.2,e1.2.2,List.set_set]) ?_
 unfold Z8r;rw [ho]
 show _=cntT o x
 unfold cntT;rw [if_pos ⟨hz,ht⟩,ha,hb,hn]
theorem ct_n{os:List Zg}{l z:List Zb}{v w:Int}{o:Zg}{x:Zb}(h:z=l.mapIdx (Zg3 (Z8r os) (fun _ t=>t) v))(hx:z[v.toNat]?=some x)(ho:os[v.toNat]?=some o)(h0:0<=v)(hw:w=v+1)(hz:¬ o.Zone=0\/Zay .and .i64 x.Line.Types 1=0):z=l.mapIdx (Zg3 (Z8r os) (fun _ t=>t) w):=by
 refine Za38 (Za8u h hx h0) h h0 hw ?_
 unfold Z8r;rw [ho]
 show x=cntT o x
 unfold cntT;rw [if_neg fun k=>hz.elim (fun e=>e k.1) k.2]
theorem cn_e{w c:Zc}{os:List Zg}{v:Int}(h:c.traits=w.traits.mapIdx (Zg3 (Z8r os) (fun _ t=>t) v))(hv:(os.length:Int)<=v)(hl:w.traits.length=w.s.Objects.length)(ho:os=w.s.Objects)(es:c.s=w.s)(ef:c.forces=w.forces)(ed:c.dropped=w.dropped)(edn:c.done=w.done)(eh:c.hits=w.hits):c=Zt5 w:=by
 subst ho
 have ht:=Za8t h O
 obtain⟨a,b,c1,d,e,f⟩:=c
 simp only at es ef ed edn eh ht
 subst es;subst ef;subst ed;subst edn;subst eh;subst ht;rfl
theorem bl_n{ms:List Zd}{st v w:Int}{m:Zd}{c:Bool}(h:(ms.take v.toNat).any (fun m=>stV m.Kind==st)=false)(hx:ms[v.toNat]?=some m)(h0:0<=v)(hw:w=v+1)(hc:c=(stV m.Kind==st))(hb:c=false):(ms.take w.toNat).any (fun m=>stV m.Kind==st)=false:=by
 rw [Zci hx h0 hw,List.any_append,h];simp [<- hc,hb]
theorem bl_y{ms:List Zd}{st v:Int}{m:Zd}{c:Bool}(hx:ms[v.toNat]?=some m)(h0:0<=v)(hc:c=(stV m.Kind==st))(hb:c=true):decide (v>=0)=ms.any fun m=>stV m.Kind==st:=by
 rw [decide_eq_true h0,eq_comm,List.any_eq_true]
 exact⟨m,List.mem_of_getElem? hx,by rw [<- hc,hb]⟩
theorem bl_e{ms:List Zd}{st v:Int}(h:(ms.take v.toNat).any (fun m=>stV m.Kind==st)=false)(hv:(ms.length:Int)<=v):decide ((-1:Int)>=0)=ms.any fun m=>stV m.Kind==st:=by
 rw [List.take_of_length_le O] at h
 rw [h];rfl
theorem Zat9{α:Type}{l:List α}{z:α}{n:Int}{k:Nat}(h:(l.length:Int)=n/\∀ e,e∈l->e=z)(hk:n=k):l=List.replicate k z:=List.eq_replicate_iff.2 ⟨by have:=h.1;omega,h.2⟩
theorem bg_e{cards:List Zm}{s:Zk}{b:Zc}{v:Int}{os:List Zg}{d:List Bool}{h:List (List Int)}(ht:b.traits=(os.take v.toNat).map (baV cards))(hv:(os.length:Int)<=v)(ho:os=s.Objects)(es:b.s=s)(ef:b.forces=FS fL gL cards s)(ed:b.dropped=List.replicate s.Objects.length false)(hd:(d.length:Int)=(b.forces.length:Int)/\∀ e,e∈d->e=false)(hh:(h.length:Int)=(b.forces.length:Int)/\∀ e,e∈h->e=[]):(⟨b.s,b.forces,b.traits,b.dropped,d,h⟩:Zc)=begV cards s:=by
 subst ho
 rw [Zat9 hd rfl,Zat9 hh rfl,Za2c ht hv rfl,es,ef,ed];rfl
theorem Zbl0{α:Type}{f:α->α}{n m:Nat}{x y:α}(h:y=itr f n x)(hm:m=n+1):f y=itr f m x:=by rw [hm,h];rfl
def STG(w0:Zc)(st:Int)(w:Zc)(left ord:List Int):Prop:=(w,left,ord)=itr (stF st (w0.forces.map fun f=>f.Stamp)) ord.length (if st=7 then Zt5 w0 else w0,Zr7 w0.forces st,[])
theorem sg_0{w0 w:Zc}{st:Int}{fs:List Zv}{left:List Int}{v:Int}(hw:w=if st=7 then Zt5 w0 else w0)(hl:left=zfm (fun _ f=>belB f st) (fun k _=>k) fs v)(hv:(fs.length:Int)<=v)(hf:fs=w0.forces){o:List Int}(ho:o.length=0):STG w0 st w left o:=by
 have:o=[]:=List.eq_nil_of_length_eq_zero ho
 subst this;subst hw;subst hf
 rw [Zapp hl hv];rfl
theorem sg_y{w0 w w':Zc}{st i:Int}{left left' ord ord' sts:List Int}{m:List (List Bool)}(h:STG w0 st w left ord)(hs:sts=w0.forces.map fun f=>f.Stamp)(hm:NDM w st left m)(hi:i=nxV left sts (nB m))(hw:w'=Zvm w i st)(hl:left'=left.filter (neI i))(ho:ord'=ord++[i]):STG w0 st w' left' ord':=by
 subst hs
 have e:i=nxV left (w0.forces.map fun f=>f.Stamp) (ndB w st):=by
  rw [hi];exact Zbbg fun x y hx hy _ _=>hm x y hx hy
 unfold STG at *
 have:=Zbl0 (m:=ord'.length) h (by rw [ho,List.length_append];rfl)
 rw [<- this,ho,hl,hw]
 unfold stF
 simp only
 rw [<- e]
theorem sg_e{w0 w:Zc}{st:Int}{left ord:List Int}(h:STG w0 st w left ord)(hl:¬ (left.length:Int) > 0)(hn:ord.length+left.length=(Zr7 w0.forces st).length):(ord,w)=Z1p w0 st:=by
 unfold STG at h
 have:ord.length=(Zr7 w0.forces st).length:=by omega
 unfold Z1p
 rw [<- this,<- h]
theorem Za8v{l:List Int}(h:l.Nodup){i:Int}(hi:i∈l):(l.filter (neI i)).length+1=l.length:=by
 have:l.filter (neI i)=l.filter fun y=>y != i:=List.filter_congr fun y _=>rfl
 rw [this];exact Zaz6 h hi
theorem sl_n{l l' o o':List Int}{i:Int}{n:Nat}(h:o.length+l.length=n)(hl:l'=l.filter (neI i))(ho:o'=o++[i])(hn:l.Nodup)(hi:i < 0\/i∈l)(h0:¬ i < 0):o'.length+l'.length=n:=by
 have:=Za8v hn (hi.resolve_left h0)
 rw [hl,ho,List.length_append,List.length_singleton];omega
theorem nd_f{l l':List Int}{i:Int}(h:l.Nodup)(e:l'=l.filter (neI i)):l'.Nodup:=by rw [e];exact h.filter _
theorem Zbl1{l:List Int}{i:Int}{sts:List Int}{N:Int->Int->Bool}(hi:i=nxV l sts N)(h:i < 0)(hp:POS l)(hl:(l.length:Int) > 0):False:=by
 obtain⟨x,hx⟩:=List.exists_mem_of_length_pos (show 0 < l.length by omega)
 have:=(Zbfl (left:=l) (st:=sts) (nd:=N) ⟨x,hx,hp x hx⟩).2
 omega
theorem Zbl2{fs:List Zv}{z sts:List Int}{v w:Int}{f:Zv}(e:z=sts++[f.Stamp])(h:sts=(fs.take v.toNat).map fun f=>f.Stamp)(m:fs[v.toNat]?=some f)(h0:0<=v)(hw:w=v+1):z=(fs.take w.toNat).map fun f=>f.Stamp:=Zayh e h m rfl h0 hw
theorem wr_n{cards:List Zm}{s:Zk}{w:Zc}{r:List Int×Zc}{v v':Int}(h:w=Zpg cards s (v - 1).toNat)(hr:r=Z1p w v)(h0:1<=v)(hv:v'=v+1):r.2=Zpg cards s (v' - 1).toNat:=by
 have e:(v' - 1).toNat=(v - 1).toNat+1:=by omega
 have e2:(((v - 1).toNat+1:Nat):Int)=v:=by omega
 rw [e,hr,h]
 show _=(Z1p (Zpg cards s (v - 1).toNat) (((v - 1).toNat+1:Nat):Int)).2
 rw [e2]
theorem nd_z{α:Type}{p:Int->α->Bool}{l:List α}{v:Int}{z:List Int}(h:z=zfm p (fun k _=>k) l v):z.Nodup:=by rw [h];exact Zayk
theorem sl_0{fs fs':List Zv}{st v:Int}{l o:List Int}(ho:o.length=0)(h:l=zfm (fun _ f=>belB f st) (fun k _=>k) fs v)(hf:fs=fs')(hv:(fs.length:Int)<=v):o.length+l.length=(Zr7 fs' st).length:=by
 subst hf
 rw [ho,Zapp h hv,Nat.zero_add];rfl
theorem wr_e{cards:List Zm}{s:Zk}{w:Zc}{v:Int}(h:w=Zpg cards s (v - 1).toNat)(h1:v<=9)(h2:9<=v):w.traits=(Zpg cards s 8).traits:=by
 rw [h,show (v - 1).toNat=8 by omega]
theorem sa_n{α:Type}{a b:List α}{i:Nat}{x y:α}{c:Bool}(hx:a[i]?=some x)(hy:b[i]?=some y)(hs:x=y->c=true)(hc:c=false):a=b->false=true:=fun e=>by
 subst e
 rw [hs (Option.some.inj (hx.symm.trans hy))] at hc;cases hc
theorem sa_l{α:Type}{a b:List α}(h:¬ (a.length:Int)=b.length):a=b->false=true:=fun e=>by subst e;exact absurd rfl h
end Go.PW

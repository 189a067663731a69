import Derived.Test.YtchddhcajpagjaaGreatQW
set_option linter.all false
set_option maxRecDepth 100000
namespace Go.PW
def stV(k:Int):Int:=if k=1 then 1 else if 2<=k/\k<=5 then 2 else if k=6\/k=7 then 3 else if 8<=k/\k<=10 then 4 else if 11<=k/\k<=14 then k-6 else 0
def inB(n a b:Int):Bool:=decide (a<=n/\n<=b)
def dD(m:af):Bool:=
 if m.Kind=2\/m.Kind=3\/m.Kind=6\/m.Kind=7\/m.Kind=8\/m.Kind=9 then decide (m.M=0/\m.Sub=[]/\m.Filter=fQ)
 else if m.Kind=4\/m.Kind=5 then decide (m.N=0/\m.M=0/\m.Filter=fQ)
 else if m.Kind=11 then decide (m.N=0/\m.M=0/\m.Sub=[])
 else if m.Kind=12\/m.Kind=13 then decide (m.Sub=[]/\m.Filter=fQ)
 else decide (m.N=0/\m.M=0/\m.Sub=[]/\m.Filter=fQ)
def mdK(m:af):Bool:=
 if m.Kind=2\/m.Kind=3 then inB m.N 1 63&&decide (aR .and .i64 m.N 6=0)
 else if m.Kind=4\/m.Kind=5 then ga m.Sub
 else if m.Kind=6 then inB m.N 0 31
 else if m.Kind=7 then inB m.N 1 31
 else if m.Kind=8\/m.Kind=9 then inB m.N 1 131071
 else if m.Kind=11 then Z00 m.Filter
 else if m.Kind=12 then inB m.N 0 99&&inB m.M 0 99
 else if m.Kind=13 then inB m.N (-99) 99&&inB m.M (-99) 99
 else true
def mdV(m:af):Bool:=inB m.Kind 1 14&&(dD m&&mdK m)
def ZsE{m:af}(h:inB m.Kind 1 14=false):mdV m=false:=by unfold mdV;rw[h];rfl
def ZsF{m:af}(h:dD m=false):false=mdV m:=by unfold mdV;rw[h];simp
def ZsG{m:af}(h:inB m.Kind 1 14=true)(g:dD m=true):mdV m=mdK m:=by unfold mdV;rw[h,g];rfl
abbrev oV:af:=⟨0,0,0,[],fQ⟩
def us_1{m:af}(h:m.Kind=2\/m.Kind=3\/m.Kind=6\/m.Kind=7\/m.Kind=8\/m.Kind=9):Z9 (ax m) (ax ⟨m.Kind,m.N,0,[],fQ⟩)=dD m:=U5
def us_2{m:af}(h:m.Kind=4\/m.Kind=5):Z9 (ax m) (ax ⟨m.Kind,0,0,m.Sub,fQ⟩)=dD m:=U4
def us_3{m:af}(h:m.Kind=11):Z9 (ax m) (ax ⟨m.Kind,0,0,[],m.Filter⟩)=dD m:=U2
def us_4{m:af}(h:m.Kind=12\/m.Kind=13):Z9 (ax m) (ax ⟨m.Kind,m.N,m.M,[],fQ⟩)=dD m:=U1
def us_5{m:af}(h:¬(m.Kind=2\/m.Kind=3\/m.Kind=6\/m.Kind=7\/m.Kind=8\/m.Kind=9)/\¬(m.Kind=4\/m.Kind=5)/\¬m.Kind=11/\¬(m.Kind=12\/m.Kind=13)):Z9 (ax m) (ax ⟨m.Kind,0,0,[],fQ⟩)=dD m:=UZ
def ur_1{m:af}(h:m.Kind=2\/m.Kind=3\/m.Kind=6\/m.Kind=7\/m.Kind=8\/m.Kind=9):Z9 (ax ⟨0,0,m.M,m.Sub,m.Filter⟩) (ax oV)=dD m:=U5
def ur_2{m:af}(h:m.Kind=4\/m.Kind=5):Z9 (ax ⟨0,m.N,m.M,[],m.Filter⟩) (ax oV)=dD m:=U4
def ur_3{m:af}(h:m.Kind=11):Z9 (ax ⟨0,m.N,m.M,m.Sub,fQ⟩) (ax oV)=dD m:=U2
def ur_4{m:af}(h:m.Kind=12\/m.Kind=13):Z9 (ax ⟨0,0,0,m.Sub,m.Filter⟩) (ax oV)=dD m:=U1
def ur_5{m:af}(h:¬(m.Kind=2\/m.Kind=3\/m.Kind=6\/m.Kind=7\/m.Kind=8\/m.Kind=9)/\¬(m.Kind=4\/m.Kind=5)/\¬m.Kind=11/\¬(m.Kind=12\/m.Kind=13)):Z9 (ax ⟨0,m.N,m.M,m.Sub,m.Filter⟩) (ax oV)=dD m:=UZ
def ixL(l:List (List UInt8))(s:List UInt8):Int:=(l.findIdx λx => !Op.bytesLess x s:Nat)
def insB(l:List (List UInt8))(s:List UInt8):List (List UInt8):=l.take (ixL l s).toNat++s::l.drop (ixL l s).toNat
def lnV(l:aK)(s:List UInt8):aK:=if ga s=false\/dm l.Subs s=true\/(l.Subs.length:Int)>=4 then l else⟨l.Super,l.Types,insB l.Subs s⟩
def LsS(l:List (List UInt8))(s:List UInt8)(v:Int):Prop:=∀(k:Nat) x,(k:Int)<v->l[k]?=some x->Op.bytesLess x s=true
def Tg{l:List (List UInt8)}{s:List UInt8}:LsS l s 0:=λk x hk=>a8
def Th{l:List (List UInt8)}{s:List UInt8}{v w:Int}{x:List UInt8}(hx:l[v.toNat]?=some x)(h:LsS l s v)(h0:0<=v)(hp:Op.bytesLess x s=true)(hw:w=v+1):LsS l s w:=mq hx h h0 hp hw
def Sx{l:List (List UInt8)}{s:List UInt8}{v:Int}{x:List UInt8}(hx:l[v.toNat]?=some x)(h:LsS l s v)(h0:0<=v)(hp:Op.bytesLess x s=false):v=ixL l s:=by
 obtain⟨hi,he⟩:=aL.1 hx;unfold ixL;have:l.findIdx (λx => !Op.bytesLess x s)=v.toNat:=by refine(List.findIdx_eq hi).2 ⟨by rw[he,hp];rfl,λj hj=>?_⟩;have:=h j l[j] O (bj O);rw[this];rfl
 rw[this];omega
def Sw{l:List (List UInt8)}{s:List UInt8}{v:Int}(h:LsS l s v)(h0:(l.length:Int)<=v):(l.length:Int)=ixL l s:=by
 unfold ixL;have:l.findIdx (λx => !Op.bytesLess x s)=l.length:=by refine List.findIdx_eq_length.2 λx hx=>?_;obtain⟨k,hk,he⟩:=lC.1 hx;rw[h k x O uj];rfl
 rw[this]
def Te{l:aK}{s:List UInt8}{x:List (List UInt8)}(hx:x=l.Subs)(h:ga s=false\/dm l.Subs s=true\/(l.Subs.length:Int)>=4):(⟨l.Super,l.Types,x⟩:aK)=lnV l s:=by subst hx;unfold lnV;rw[ar h]
def ln_y{l:aK}{s:List UInt8}{v:Int}{x:List (List UInt8)}(h1:ga s=true)(h2:dm l.Subs s=false)(h3:¬(l.Subs.length:Int)>=4)(hv:v=ixL l.Subs s)(hx:x=l.Subs.take v.toNat++s::l.Subs.drop v.toNat):(⟨l.Super,l.Types,x⟩:aK)=lnV l s:=by subst hx;subst hv;unfold lnV;rw[aw (by rw[h1,h2];simp only[qW,eT,l5];exact h3)];rfl
def ln_p{l:aK}{s:List UInt8}{v w:Int}{x0 x:List (List UInt8)}{p:Prop}(e:x0=l.Subs)(hx:p/\x=x0.take v.toNat++[s]++x0.drop v.toNat)(hw:(if w<0 then(x0.length:Int)else w)=ixL x0 s)(hv:(w<0/\v=x0.length)\/(¬w<0/\v=w))(h1:ga s=true)(h2:dm x0 s=false)(h3:¬(x0.length:Int)>=4):(⟨l.Super,l.Types,x⟩:aK)=lnV l s:=by
 subst e;refine ln_y h1 h2 h3 (v:=v) ?_ (by rw[hx.2];simp);rw[<- hw];rcases hv with⟨a,b⟩|⟨a,b⟩
 .rw [ar a,b]
 rw[aw a,b]
def ln_r{l:aK}{s:List UInt8}{v6:Int}{v5 x1 x4 x7 x10 x12:List (List UInt8)}{p1 p2 q1 q2:Prop}(h1:ga s=true)(h2:dm l.Subs s=false)(h3:¬(l.Subs.length:Int)>=4)(e:v5=l.Subs)(hv:v6=ixL v5 s)(a12:x12=x7++x10)(a7:x7=x4++[s])(a4:x4=[]++x1)(a1:p1/\p2/\x1=(v5.take v6.toNat).drop (0:Int).toNat)(a10:q1/\q2/\x10=(v5.take ((v5.length:Int)).toNat).drop v6.toNat):(⟨l.Super,l.Types,x12⟩:aK)=lnV l s:=by subst e;refine ln_y h1 h2 h3 hv ?_;rw[a12,a7,a4,a1.2.2,a10.2.2,lD,uz];simp
def cp_0{t:ab}{x:List (List UInt8)}{y:List an}(hx:x=t.Line.Subs)(hy:y=t.Abilities):(⟨t.Name,t.Cost,t.Colors,⟨t.Line.Super,t.Line.Types,x⟩,t.Power,t.Tough,t.Keys,y,t.Control⟩:ab)=t:=by subst hx;subst hy;rfl
def cp_e{l:List an}{i:Nat}{a:an}{m:List af}{s:List cj}{e:List aX}(h:l[i]?=some a)(hm:m=a.Mods)(hs:s=a.Specs)(he:e=a.Effects):l[i]?=some (⟨a.Kind,a.Filter,m,a.Price,a.Slow,a.Trigger,a.May,s,e,a.Replace⟩:an):=by subst hm;subst hs;subst he;exact h
def cp_n{l:List an}{i v:Nat}{a:an}{x:aX}{m:List af}{z:List aX}{p q:Prop}(h:l[i]?=some a)(hx:a.Effects[v]?=some x)(hz:p/\q/\z=a.Effects.set v ⟨x.Op,x.Ref,x.Amount,x.Counter,x.Zone,x.Card,x.Filter,x.Pool,m⟩)(hm:m=x.Mods):l[i]?=some (⟨a.Kind,a.Filter,a.Mods,a.Price,a.Slow,a.Trigger,a.May,a.Specs,z,a.Replace⟩:an):=by subst hm;rw[hz.2.2,ya hx];exact h
def cp_c{t b:ab}{i:Nat}{y:an}{z:List an}{p q:Prop}(e:b=t)(h:b.Abilities[i]?=some y)(hz:p/\q/\z=b.Abilities.set i y):(⟨b.Name,b.Cost,b.Colors,b.Line,b.Power,b.Tough,b.Keys,z,b.Control⟩:ab)=t:=by rw[hz.2.2,ya h];exact e
def adV(a b:Int):Int:=clV (IntKind.wrap .i64 (clV a+clV b))
def apV(t:ab)(m:af)(you n:Int):ab:=
 if mdV m=false then t
 else if m.Kind=1 then { t with Control:=you }
 else if m.Kind=2 then { t with Line:=⟨t.Line.Super,m.N,t.Line.Subs⟩ }
 else if m.Kind=3 then { t with Line:=⟨t.Line.Super,aR .or .i64 t.Line.Types m.N,t.Line.Subs⟩ }
 else if m.Kind=4 then { t with Line:=⟨t.Line.Super,t.Line.Types,[m.Sub]⟩ }
 else if m.Kind=5 then { t with Line:=lnV t.Line m.Sub }
 else if m.Kind=6 then { t with Colors:=m.N }
 else if m.Kind=7 then { t with Colors:=aR .or .i64 t.Colors m.N }
 else if m.Kind=8 then { t with Keys:=aR .or .i64 t.Keys m.N }
 else if m.Kind=9 then { t with Keys:=aR .andNot .i64 t.Keys m.N }
 else if m.Kind=10 then { t with Keys:=0,Abilities:=[] }
 else if m.Kind=11 then { t with Power:=clV n,Tough:=clV n }
 else if m.Kind=12 then { t with Power:=m.N,Tough:=m.M }
 else if m.Kind=13 then { t with Power:=adV t.Power m.N,Tough:=adV t.Tough m.M }
 else if m.Kind=14 then { t with Power:=t.Tough,Tough:=t.Power }
 else t
def suV(a b:Int):Int:=clV (IntKind.wrap .i64 (clV a-clV b))
def pwV(c:A3 Int):Int:=suV c.a0 c.a1
def ZsT{c:A3 Int}{x y r:Int}(hr:r=suV x y)(hx:(A3.list c)[(0:Int).toNat]?=some x)(hy:(A3.list c)[(1:Int).toNat]?=some y):r=pwV c:=by simp[A3.list]at hx hy;unfold pwV;rw[hr,hx,hy]
abbrev fZ:Z2:=⟨0,0,0,0,false,[],wW,[]⟩
def fAt(w:ak)(i:Int):Z2:=w.forces[i.toNat]?.getD fZ
def bA(l:List Bool)(i:Int):Bool:=l[i.toNat]?.getD false
def hA(l:List (List Int))(i:Int):List Int:=l[i.toNat]?.getD []
def dv(w:ak)(i:Int):Int:=if(fAt w i).Fixed=false/\0<=ixO w.s.Objects (fAt w i).Source then(trV w.traits (ixO w.s.Objects (fAt w i).Source)).Control else(fAt w i).Control
def dB(w:ak)(i:Int):Bool:=(fAt w i).Fixed||bA w.done i||decide (ixO w.s.Objects (fAt w i).Source<0) || !bA w.dropped (ixO w.s.Objects (fAt w i).Source)
def gU(w:ak)(f:Z2)(you:Int)(k:Int)(o:aj):Bool:=(o.Zone==0)&&((f.Fixed&&f.Objects.contains o.Id)||(!f.Fixed&&gN o (trV w.traits k) you f.Source f.Filter))
def cg(w:ak)(i:Int):List Int:=if bA w.done i then hA w.hits i else if dB w i then zfm (gU w (fAt w i) (dv w i)) (λk _=>k) w.s.Objects w.s.Objects.length else[]
def gb(s:av)(all:List ab)(you src st:Int)(m:af):Int:=if m.Kind=11/\stV m.Kind=st then((Z2m s all you src m.Filter).length:Int)else 0
def gd(w:ak)(i st:Int):List Int:=(fAt w i).Mods.map (gb w.s w.traits (dv w i) (fAt w i).Source st)
def mfS(mods:List af)(nums:List Int)(you st v:Int)(t:ab):ab:=((mods.take v.toNat).zipIdx).foldl (λt q=>if stV q.1.Kind=st then apV t q.1 you (nums[q.2]?.getD 0)else t) t
def drS(mods:List af)(st v:Int)(b:Bool):Bool:=b||(mods.take v.toNat).any λm=>m.Kind==10&&stV m.Kind==st
def b7(w:ak)(i st:Int):ak:=⟨w.s,w.forces,(cg w i).foldl (dp (mfS (fAt w i).Mods (gd w i st) (dv w i) st (fAt w i).Mods.length)) w.traits,(cg w i).foldl (dp (drS (fAt w i).Mods st (fAt w i).Mods.length)) w.dropped,w.done.set i.toNat true,w.hits.set i.toNat (cg w i)⟩
def fe(f:al)(st:Int):Bool:=
 if st=1 then decide (f.Who≠0)
 else if st=2 then decide (aR .or .i64 f.Types f.NotTypes≠0\/f.Sub≠[]\/f.Power.Kind≠0\/f.Tough.Kind≠0)
 else if st=3 then decide (aR .or .i64 f.Colors f.NotColors≠0)
 else if st=4 then decide (f.Keys≠0)
 else decide (f.Power.Kind≠0\/f.Tough.Kind≠0)
def eX(w:ak)(i st:Int):Bool:=((fAt w i).Mods.any λm=>m.Kind==11&&stV m.Kind==st&&fe m.Filter st)||(!(fAt w i).Fixed && !bA w.done i&&(decide (st=4)||fe (fAt w i).Filter st))
def fN(w:ak)(i st:Int):bP:=⟨dB w i,cg w i,gd w i st⟩
def Z8t(a b:bP):Bool := !(a.active==b.active) || !(a.hits==b.hits) || !(a.numbers==b.numbers)
def ndB(w:ak)(st i j:Int):Bool := !(i==j)&&(eX w i st&&Z8t (fN w i st) (fN (b7 w j st) i st))
def belB(f:Z2)(st:Int):Bool:=f.Mods.any λm=>stV m.Kind==st
def Z4f(fs:List Z2)(st:Int):List Int:=zfm (λ_ f=>belB f st) (λk _=>k) fs fs.length
def Z02(o:aj)(t:ab):ab:=if o.Zone=0/\aR .and .i64 t.Line.Types 1≠0 then { t with Power:=adV t.Power (pwV o.Counters),Tough:=adV t.Tough (pwV o.Counters) } else t
def im(os:List aj)(k:Nat)(t:ab):ab:=match os[k]? with|some o=>Z02 o t|none=>t
def Z8u(w:ak):ak:={ w with traits:=w.traits.mapIdx (im w.s.Objects) }
def itr{α:Type}(f:α->α):Nat->α->α
 |0,x=>x
 |n+1,x=>f (itr f n x)
noncomputable def stF(st:Int)(sts:List Int)(x:ak×List Int×List Int):ak×List Int×List Int:=(b7 x.1 (nxV x.2.1 sts (ndB x.1 st)) st,x.2.1.filter (neI (nxV x.2.1 sts (ndB x.1 st))),x.2.2++[nxV x.2.1 sts (ndB x.1 st)])
noncomputable def stgV(w:ak)(st:Int):List Int×ak:=
 let r:=itr (stF st (w.forces.map λf=>f.Stamp)) (Z4f w.forces st).length (if st=7 then Z8u w else w,Z4f w.forces st,[])
 (r.2.2,r.1)
def begV(cards:List aq)(s:av):ak:=⟨s,FS fL gL cards s,s.Objects.map (baV cards),List.replicate s.Objects.length false,List.replicate (FS fL gL cards s).length false,List.replicate (FS fL gL cards s).length []⟩
noncomputable def Z03(cards:List aq)(s:av):Nat->ak
 |0=>begV cards s
 |n+1=>(stgV (Z03 cards s n) ((n+1:Nat):Int)).2
abbrev gZ:bd:=⟨0,0,0,0,false,[],wW,[]⟩
def gAt(w:au)(i:Int):bd:=w.L[i.toNat]?.getD gZ
def eJ(w:au)(i:Int):Int:=if(gAt w i).Fixed=true\/ixO w.S.Objects (gAt w i).Source<0 then(gAt w i).Control else(trV w.All (ixO w.S.Objects (gAt w i).Source)).Control
def cx(w:au)(i:Int):Bool:=(gAt w i).Fixed||bA w.Begun i||decide (ixO w.S.Objects (gAt w i).Source<0) || !bA w.Blank (ixO w.S.Objects (gAt w i).Source)
def ig(w:au)(f:bd)(you:Int)(k:Int)(o:aj):Bool:=(o.Zone==0)&&((f.Fixed&&f.Objects.contains o.Id)||(!f.Fixed&&gN o (trV w.All k) you f.Source f.Filter))
def cR(w:au)(i:Int):List Int:=if bA w.Begun i then hA w.Sets i else if cx w i then zfm (ig w (gAt w i) (eJ w i)) (λ_ o=>o.Id) w.S.Objects w.S.Objects.length else[]
def fy(w:au)(i st:Int):List Int:=((gAt w i).Mods.filter λm=>stV m.Kind==st).map (gb w.S w.All (eJ w i) (gAt w i).Source st)
def mfR1(nums:List Int)(you st:Int)(x:ab×Int)(m:af):ab×Int:=if stV m.Kind=st then(apV x.1 m you (nums[x.2.toNat]?.getD 0),x.2+1)else x
def mfR(mods:List af)(nums:List Int)(you st:Int)(t:ab):ab:=(mods.foldl (mfR1 nums you st) (t,0)).1
def drR(mods:List af)(st:Int):Bool:=mods.any λm=>m.Kind==10&&stV m.Kind==st
def inS(os:List aj)(set:List Int)(k:Nat):Bool:=match os[k]? with|some o=>set.contains o.Id|none=>false
def cQ(w:au)(i st:Int):au:=if cx w i then⟨w.S,w.All.mapIdx λk t=>if inS w.S.Objects (cR w i) k then mfR (gAt w i).Mods (fy w i st) (eJ w i) st t else t,w.L,w.Begun.set i.toNat true,w.Sets.set i.toNat (cR w i),w.Blank.mapIdx λk b=>if inS w.S.Objects (cR w i) k&&drR (gAt w i).Mods st then true else b⟩ else w
def ndR(w:au)(st i j:Int):Bool := !(i==j)&&(!(cx w i==cx (cQ w j st) i) || !(cR w i==cR (cQ w j st) i) || !(fy w i st==fy (cQ w j st) i st))
def belR(f:bd)(st:Int):Bool:=f.Mods.any λm=>stV m.Kind==st
def belS(fs:List bd)(st:Int):List Int:=zfm (λ_ f=>belR f st) (λk _=>k) fs fs.length
def cnuT(o:aj)(t:ab):ab:=if o.Zone=0/\Int.tmod (eu .i64 t.Line.Types 1) 2=1 then { t with Power:=adV t.Power (pwV o.Counters),Tough:=adV t.Tough (pwV o.Counters) } else t
def Z8v(os:List aj)(k:Nat)(t:ab):ab:=match os[k]? with|some o=>cnuT o t|none=>t
def Z04(w:au):au:={ w with All:=w.All.mapIdx (Z8v w.S.Objects) }
noncomputable def stFR(st:Int)(sts:List Int)(x:au×List Int×List Int):au×List Int×List Int:=(cQ x.1 (nxV x.2.1 sts (ndR x.1 st)) st,x.2.1.filter (λy=>y != nxV x.2.1 sts (ndR x.1 st)),x.2.2++[nxV x.2.1 sts (ndR x.1 st)])
noncomputable def stgR(w:au)(st:Int):au×List Int:=
 let r:=itr (stFR st (w.L.map λf=>f.Stamp)) (belS w.L st).length (if st=7 then Z04 w else w,belS w.L st,[])
 (r.1,r.2.2)
def begR(cards:List aq)(s:av):au:=⟨s,s.Objects.map (baV cards),FS fR gR cards s,List.replicate (FS fR gR cards s).length false,List.replicate (FS fR gR cards s).length [],List.replicate s.Objects.length false⟩
noncomputable def Z4g(cards:List aq)(s:av):Nat->au
 |0=>begR cards s
 |n+1=>(stgR (Z4g cards s n) ((n+1:Nat):Int)).1
end Go.PW
set_option maxRecDepth 100000
namespace Go.PW
def jt{w:ak}{i:Int}{f:Z2}(h:w.forces[i.toNat]?=some f):fAt w i=f:=by unfold fAt;rw[h];rfl
def gS{l:List Bool}{i:Int}{b:Bool}(h:l[i.toNat]?=some b):bA l i=b:=by unfold bA;rw[h];rfl
def OU{l:List (List Int)}{i:Int}{b:List Int}(h:l[i.toNat]?=some b):hA l i=b:=by unfold hA;rw[h];rfl
section
variable {w:ak} {i x:Int} {f:Z2}
def yo_a(hf:w.forces[i.toNat]?=some f)(h:f.Fixed=true):f.Control=dv w i:=by unfold dv;rw[jt hf,aw (by rw[h];simp)]
def yo_b(hf:w.forces[i.toNat]?=some f)(hi:bU w.s.Objects->x=ixO w.s.Objects f.Source)(hs:bU w.s.Objects)(h:¬x>=0):f.Control=dv w i:=by unfold dv;rw[jt hf,<- hi hs,aw O]
def yo_c{t:ab}(hf:w.forces[i.toNat]?=some f)(hi:bU w.s.Objects->x=ixO w.s.Objects f.Source)(hs:bU w.s.Objects)(ht:w.traits[x.toNat]?=some t)(hF:f.Fixed=false)(h:x>=0):t.Control=dv w i:=by unfold dv;rw[jt hf,<- hi hs,ar ⟨hF,h⟩,<- uk ht O]
def ac_a(hf:w.forces[i.toNat]?=some f)(h:f.Fixed=true):true=dB w i:=by unfold dB;rw[jt hf,h];simp
def ac_b{d:Bool}(hd:w.done[i.toNat]?=some d)(h:d=true):true=dB w i:=by unfold dB;rw[gS hd,h];simp
def ac_c(hf:w.forces[i.toNat]?=some f)(hi:bU w.s.Objects->x=ixO w.s.Objects f.Source)(hs:bU w.s.Objects)(h:x<0):true=dB w i:=by unfold dB;rw[jt hf,<- hi hs,bh h];simp
def ac_d{d e:Bool}(hf:w.forces[i.toNat]?=some f)(hi:bU w.s.Objects->x=ixO w.s.Objects f.Source)(hs:bU w.s.Objects)(hd:w.done[i.toNat]?=some d)(he:w.dropped[x.toNat]?=some e)(hF:f.Fixed=false)(h:d=false)(hx:¬x<0):(!e)=dB w i:=by unfold dB;rw[jt hf,<- hi hs,gS hd,gS he,hF,h,bn hx];simp
def ht_c{you k:Int}{o:aj}{c:Bool}(hz:o.Zone=0)(hF:f.Fixed=true)(hc:c=true↔o.Id∈f.Objects)(h:c=true):gU w f you k o=true:=by unfold gU;rw[hz,hF];simp[hc.1 h]
def ht_n{you k:Int}{o:aj}{c:Bool}(hF:f.Fixed=true)(hc:c=true↔o.Id∈f.Objects)(h:c=false):gU w f you k o=false:=by
 have:o.Id∉f.Objects:=λhm=>by rw[hc.2 hm]at h;cases h
 unfold gU;rw[hF];simp[this]
def ht_m{you k:Int}{o:aj}{c:Bool}{t:ab}(hm:c=gN o t you f.Source f.Filter)(ht:w.traits[k.toNat]?=some t)(hz:o.Zone=0)(hF:f.Fixed=false)(h0:0<=k):gU w f you k o=c:=by unfold gU;rw[hz,hF,<- uk ht O,hm];simp
def ht_z{you k:Int}{o:aj}(hz:¬o.Zone=0):gU w f you k o=false:=by unfold gU;rw[show(o.Zone==0)=false by simpa using hz];rfl
def af_h{d:Bool}{h:List Int}(hd:w.done[i.toNat]?=some d)(hh:w.hits[i.toNat]?=some h)(hb:d=true):h=cg w i:=by unfold cg;rw[gS hd,hb,ar rfl,OU hh]
def af_n{d a:Bool}(hd:w.done[i.toNat]?=some d)(ha:a=dB w i)(hb:d=false)(h:a=false):[]=cg w i:=by unfold cg;rw[gS hd,hb,<- ha,h];rfl
def af_l{you v:Int}{z:List Int}{os:List aj}(h:z=zfm (gU w f you) (λk _=>k) os v)(hv:(os.length:Int)<=v)(hf:w.forces[i.toNat]?=some f)(hy:you=dv w i)(ho:os=w.s.Objects)(ha:dB w i=true)(hd:bA w.done i=false):z=cg w i:=by subst ho;subst hy;unfold cg;rw[hd,ha,jt hf];exact mw h hv
def nu_y{s:av}{all:List ab}{you you' src st g:Int}{l:List Int}{m:af}(hl:l=Z2m s all you' src m.Filter)(hy:you'=you)(hk:m.Kind=11)(hg:g=stV m.Kind)(hs:g=st):(l.length:Int)=gb s all you src st m:=by subst hy;unfold gb;rw[ar ⟨hk,by rw[<- hg,hs]⟩,hl]
def nu_k{s:av}{all:List ab}{you src st:Int}{m:af}(hk:¬m.Kind=11):0=gb s all you src st m:=by unfold gb;rw[aw λk=>hk k.1]
def nu_s{s:av}{all:List ab}{you src st g:Int}{m:af}(hg:g=stV m.Kind)(hs:¬g=st):0=gb s all you src st m:=by unfold gb;rw[aw λk=>hs (by rw[hg,k.2])]
def nu_0{α:Type}{g:Nat->α->Int}{l:List α}{z:List Int}{n:Int}(h:(z.length:Int)=n/\∀e,e∈z->e=0)(hn:n=l.length):z=l.mapIdx (b9 g (λ_ _=>0) 0):=by
 refine up_0 (gx λj=>?_);rw[dL];by_cases hj:j<l.length
 .rw [bj hj,bj (show j<z.length by have:=h.1;omega),h.2 _ (kN _)];rfl
 rw[kh O,kh xC];rfl
def nu_e{st you v:Int}{z:List Int}{ms:List af}(h:z=ms.mapIdx (b9 (λ_ m=>gb w.s w.traits you f.Source st m) (λ_ _=>0) v))(hv:(ms.length:Int)<=v)(hf:w.forces[i.toNat]?=some f)(hm:ms=f.Mods)(hy:you=dv w i):z=gd w i st:=by subst hm;subst hy;rw[vS h hv];unfold gd;rw[jt hf];refine gx λj=>?_;rw[dL,jF]
end
def TRS(w:ak)(i st:Int)(nums:List Int)(you:Int)(hits:List Int)(v:Int):List ab:=(hits.take v.toNat).foldl (dp (mfS (fAt w i).Mods nums you st (fAt w i).Mods.length)) w.traits
def DRS(w:ak)(i st:Int)(hits:List Int)(v:Int):List Bool:=(hits.take v.toNat).foldl (dp (drS (fAt w i).Mods st (fAt w i).Mods.length)) w.dropped
def ZX{ms:List af}{nums:List Int}{you st v w:Int}{m:af}{t:ab}(hx:ms[v.toNat]?=some m)(h0:0<=v)(hw:w=v+1):mfS ms nums you st w t=if stV m.Kind=st then apV (mfS ms nums you st v t) m you (nums[v.toNat]?.getD 0)else mfS ms nums you st v t:=by
 subst hw;have hv:(v+1).toNat=v.toNat+1:=a8
 have hlt:=(aL.1 hx).1;unfold mfS;rw[hv,j5,hx,nT,Cn,xG,eU,oC O,aN];rfl
def ZY{ms:List af}{st v w:Int}{m:af}{b:Bool}(hx:ms[v.toNat]?=some m)(h0:0<=v)(hw:w=v+1):drS ms st w b=(drS ms st v b||(m.Kind==10&&stV m.Kind==st)):=by unfold drS;rw[dJ hx h0 hw,DL,BA];simp
def ZZ{α:Type}{g g':α->α}{l z:List α}{k:Int}(h:z=dp g l k)(e:∀t,g' t=g t):z=dp g' l k:=by rw[h,show g'=g from funext e]
section
variable {w:ak} {i st you:Int} {nums hits:List Int}
def tr_0{c:List ab}(h:c=w.traits):c=TRS w i st nums you hits 0:=h
def ZsC{c T:List ab}{ms:List af}{k:Int}(h:c=T):c=dp (mfS ms nums you st 0) T k:=h.trans (XU λ_=>rfl)
def ZsD{c T:List ab}{ms:List af}{j j' k g:Int}{m:af}(h:c=dp (mfS ms nums you st j) T k)(hx:ms[j.toNat]?=some m)(h0:0<=j)(hj:j'=j+1)(hg:g=stV m.Kind)(hs:¬g=st):c=dp (mfS ms nums you st j') T k:=ZZ h λt=>by rw[ZX hx h0 hj,aw (by rw[<- hg];exact hs)]
def tr_y{c c' T:List ab}{ms:List af}{j j' k g n:Int}{m:af}{t y:ab}{p q:Prop}(h:c=dp (mfS ms nums you st j) T k)(e:p/\q/\c'=c.set k.toNat y)(hx:ms[j.toNat]?=some m)(ht:c[k.toNat]?=some t)(hn:nums[j.toNat]?=some n)(hy:y=apV t m you n)(h0:0<=j)(hj:j'=j+1)(hg:g=stV m.Kind)(hs:g=st):c'=dp (mfS ms nums you st j') T k:=XV h ht e.2.2 λu hu=>by rw[ZX hx h0 hj,ar (by rw[<- hg];exact hs),<- hu,hn];exact hy
def ZsL{c:List ab}{ms:List af}{j v v' k:Int}(h:c=dp (mfS ms nums you st j) (TRS w i st nums you hits v) k)(hm:ms=(fAt w i).Mods)(hk:hits[v.toNat]?=some k)(hj:j=ms.length)(h0:0<=v)(hv:v'=v+1):c=TRS w i st nums you hits v':=by subst hm;subst hj;unfold TRS at *;rw[h,dJ hk h0 hv,xG];rfl
def dr_0{c:List Bool}(h:c=w.dropped):c=DRS w i st hits 0:=h
def ZrY{c T:List Bool}{ms:List af}{k:Int}(h:c=T):c=dp (drS ms st 0) T k:=h.trans (XU λt=>by unfold drS;simp)
def Tc{c T:List Bool}{ms:List af}{j j' k g:Int}{m:af}(h:c=dp (drS ms st j) T k)(hx:ms[j.toNat]?=some m)(h0:0<=j)(hj:j'=j+1)(hg:g=stV m.Kind)(hs:¬g=st\/¬m.Kind=10):c=dp (drS ms st j') T k:=
 ZZ h λt=>by
  rw[ZY hx h0 hj];have:(m.Kind==10&&stV m.Kind==st)=false:=by
   rcases hs with hs|hs
   .rw [show(stV m.Kind==st)=false by rw[<- hg];simpa using hs];simp
   rw[show(m.Kind==10)=false by simpa using hs];rfl
  rw[this,DP]
def dr_y{c c' T:List Bool}{ms:List af}{j j' k g:Int}{m:af}{b:Bool}{p q:Prop}(h:c=dp (drS ms st j) T k)(e:p/\q/\c'=c.set k.toNat true)(hx:ms[j.toNat]?=some m)(hb:c[k.toNat]?=some b)(h0:0<=j)(hj:j'=j+1)(hg:g=stV m.Kind)(hs:g=st)(hk:m.Kind=10):c'=dp (drS ms st j') T k:=XV h hb e.2.2 λt _=>by rw[ZY hx h0 hj,<- hg,hs,hk];simp
def ZsM{c:List Bool}{ms:List af}{j v v' k:Int}(h:c=dp (drS ms st j) (DRS w i st hits v) k)(hm:ms=(fAt w i).Mods)(hk:hits[v.toNat]?=some k)(hj:j=ms.length)(h0:0<=v)(hv:v'=v+1):c=DRS w i st hits v':=by subst hm;subst hj;unfold DRS at *;rw[h,dJ hk h0 hv,xG];rfl
def ZAJ{c:ak}{v:Int}{d:List Bool}{h:List (List Int)}{p q p' q':Prop}{hs hs':List Int}(es:c.s=w.s)(ef:c.forces=w.forces)(ht:c.traits=TRS w i st nums you hs v)(hd:c.dropped=DRS w i st hs v)(hdn:c.done=w.done)(hhn:c.hits=w.hits)(ed:p/\q/\d=c.done.set i.toNat true)(eh:p'/\q'/\h=c.hits.set i.toNat hs')(hh:hs'=cg w i)(hh':hs=hs')(hn:nums=gd w i st)(hy:you=dv w i)(hv:(hs.length:Int)<=v):(⟨c.s,c.forces,c.traits,c.dropped,d,h⟩:ak)=b7 w i st:=by subst hh';subst hh;subst hn;subst hy;unfold TRS at ht;unfold DRS at hd;rw[da O]at ht hd;rw[es,ef,ht,hd,ed.2.2,eh.2.2,hdn,hhn];rfl
end
def Z05(st:Int)(m:af):Bool:=m.Kind==11&&stV m.Kind==st&&fe m.Filter st
def dp_n{ms:List af}{st v w:Int}{m:af}(h:(ms.take v.toNat).any (Z05 st)=false)(hx:ms[v.toNat]?=some m)(h0:0<=v)(hw:w=v+1)(hp:Z05 st m=false):(ms.take w.toNat).any (Z05 st)=false:=OV
def dp_a{st:Int}{m:af}(h:¬m.Kind=11):Z05 st m=false:=by unfold Z05;rw[show(m.Kind==11)=false by simpa using h];rfl
def dp_b{st g:Int}{m:af}(hg:g=stV m.Kind)(h:¬g=st):Z05 st m=false:=by unfold Z05;rw[<- hg,show(g==st)=false by simpa using h];simp
def dp_c{st:Int}{m:af}{c:Bool}(hc:c=fe m.Filter st)(h:c=false):Z05 st m=false:=by unfold Z05;rw[<- hc,h];simp
def de_y{w:ak}{i st v g:Int}{f:Z2}{m:af}{c:Bool}{ms:List af}(hf:w.forces[i.toNat]?=some f)(hm:ms=f.Mods)(hx:ms[v.toNat]?=some m)(hk:m.Kind=11)(hg:g=stV m.Kind)(hs:g=st)(hc:c=fe m.Filter st)(h:c=true):true=eX w i st:=by subst hm;have:(f.Mods.any λm=>m.Kind==11&&stV m.Kind==st&&fe m.Filter st)=true:=kR.2 ⟨m,bH hx,by rw[<- hg,hs,hk,<- hc,h];simp⟩;unfold eX;rw[jt hf,this];rfl
def de_e{w:ak}{i st v:Int}{f:Z2}{ms:List af}{r:Bool}(h:(ms.take v.toNat).any (Z05 st)=false)(hv:(ms.length:Int)<=v)(hf:w.forces[i.toNat]?=some f)(hm:ms=f.Mods)(hr:r=(!f.Fixed && !bA w.done i&&(decide (st=4)||fe f.Filter st))):r=eX w i st:=by subst hm;rw[da O]at h;unfold eX;rw[jt hf];show r=((f.Mods.any (Z05 st))||_);rw[h,hr];rfl
def de_1{f:Z2}{d:Bool}{st:Int}(h:f.Fixed=true):false=(!f.Fixed && !d&&(decide (st=4)||fe f.Filter st)):=by rw[h];rfl
def de_2{w:ak}{i st:Int}{f:Z2}{d:Bool}(hd:w.done[i.toNat]?=some d)(h:d=true):false=(!f.Fixed && !bA w.done i&&(decide (st=4)||fe f.Filter st)):=by rw[gS hd,h];simp
def de_3{w:ak}{i st:Int}{f:Z2}{d:Bool}(hd:w.done[i.toNat]?=some d)(hF:f.Fixed=false)(h:d=false)(hs:st=4):true=(!f.Fixed && !bA w.done i&&(decide (st=4)||fe f.Filter st)):=by rw[gS hd,h,hF,bh hs];rfl
def de_4{w:ak}{i st:Int}{f:Z2}{d c:Bool}(hc:c=fe f.Filter st)(hd:w.done[i.toNat]?=some d)(hF:f.Fixed=false)(h:d=false)(hs:¬st=4):c=(!f.Fixed && !bA w.done i&&(decide (st=4)||fe f.Filter st)):=by rw[gS hd,h,hF,bn hs,hc];simp
def lk_e{w:ak}{i st:Int}{a:Bool}{b c:List Int}(h1:a=dB w i)(h2:b=cg w i)(h3:c=gd w i st):(⟨a,b,c⟩:bP)=fN w i st:=by rw[h1,h2,h3];rfl
def VZ:bP:=⟨false,[],[]⟩
def ZaA{α:Type}(n k:Int)(x:α):∀m:List (Int×α),ep (dC m n x) k=if k=n then some x else ep m k
 |[]=>by
  show(bif n==k then some x else none)=if k=n then some x else none;by_cases h:k=n
  .subst h;simp
  rw[aw h,show(n==k)=false by simpa using λe=>h e.symm];rfl
 |(a,b)::m=>by
  show ep (bif a==n then(a,x)::m else(a,b)::dC m n x) k=_;by_cases h:a=n
  .subst h;rw[show(a==a)=true by simp,aD];show(bif a==k then some x else ep m k)=if k=a then some x else(bif a==k then some b else ep m k);by_cases hk:k=a
   .subst hk;simp
   rw[aw hk,show(a==k)=false by simpa using λe=>hk e.symm];rfl
  rw[show(a==n)=false by simpa using h,aE];show(bif a==k then some b else ep (dC m n x) k)=if k=n then some x else(bif a==k then some b else ep m k);rw[ZaA n k x m];by_cases hk:a=k
  .subst hk;simp[h]
  rw[show(a==k)=false by simpa using hk];rfl
def MPV(w:ak)(st:Int)(l:List Int)(v:Int)(m:List (Int×bP)):Prop:=∀k,ep m k=if k∈l.take v.toNat/\eX w k st=true then some (fN w k st)else none
def mp_0{w:ak}{st:Int}{l:List Int}:MPV w st l 0 []:=λk=>by rw[aw ay];rfl
def mp_y{w:ak}{st v v' x:Int}{l:List Int}{m z:List (Int×bP)}{y:bP}{d:Bool}(h:MPV w st l v m)(e:z=dC m x y)(hx:l[v.toNat]?=some x)(h0:0<=v)(hv:v'=v+1)(hd:d=eX w x st)(hb:d=true)(hy:y=fN w x st):MPV w st l v' z:=λk=>by
 subst e;subst hy;rw[ZaA,dJ hx h0 hv];by_cases hk:k=x
 .subst hk;rw[ar rfl,ar ⟨by simp,by rw[<- hd,hb]⟩]
 rw[aw hk,h k];simp[hk]
def mp_n{w:ak}{st v v' x:Int}{l:List Int}{m:List (Int×bP)}{d:Bool}(h:MPV w st l v m)(hx:l[v.toNat]?=some x)(h0:0<=v)(hv:v'=v+1)(hd:d=eX w x st)(hb:d=false):MPV w st l v' m:=λk=>by
 rw[h k,dJ hx h0 hv];by_cases hk:k=x
 .subst hk;rw[aw (by rw[<- hd,hb];simp),aw (by rw[<- hd,hb];simp)]
 simp[hk]
def mp_e{w:ak}{st v:Int}{l:List Int}{m:List (Int×bP)}(h:MPV w st l v m)(hv:(l.length:Int)<=v):∀k,k∈l->ep m k=if eX w k st=true then some (fN w k st)else none:=λk hk=>by rw[h k,da O];simp[hk]
def MPE(w:ak)(st:Int)(l:List Int)(m:List (Int×bP)):Prop:=∀k,k∈l->ep m k=if eX w k st=true then some (fN w k st)else none
def CY{w:ak}{st:Int}{l:List Int}{m:List (Int×bP)}{k:Int}{r:bP×Bool}(h:MPE w st l m)(hk:k∈l)(e:r=mlk m k VZ):r.2=eX w k st/\(r.2=true->r.1=fN w k st):=by
 subst e;unfold mlk;rw[h k hk];cases eX w k st with
 |true=>exact⟨rfl,λ_=>rfl⟩
 |false=>exact⟨rfl,λh=>by cases h⟩
def FLS(m:List (List Bool)):Prop:=∀r,r∈m->∀e,e∈r->e=false
def ZsP{m:List (List Bool)}{q:Prop}(h:q/\∀e,e∈m->e=[]):FLS m:=λr hr e he=>by rw[h.2 r hr]at he;cases he
def ZsQ{m z:List (List Bool)}{y:List Bool}{p q r:Prop}(h:FLS m)(e:p/\(∀e,e∈z->e=y\/e∈m)/\r)(hy:q/\∀e,e∈y->e=false):FLS z:=λa ha e' he=>by
 rcases e.2.1 a ha with h1|h1
 .subst h1;exact hy.2 e' he
 exact h a h1 e' he
def vT{m:List (List Bool)}(h:FLS m)(x y:Int):nB m x y=false:=by
 unfold nB;cases hx:m[x.toNat]? with
 |none=>rfl
 |some r=>
  show(r[y.toNat]?).getD false=false;cases hy:r[y.toNat]? with
  |none=>rfl
  |some e=>exact h r (bH hx) e (bH hy)
def NDM(w:ak)(st:Int)(l:List Int)(m:List (List Bool)):Prop:=∀x y,x∈l->y∈l->nB m x y=ndB w st x y
def ZrK{w:ak}{st:Int}{l:List Int}{m:List (List Bool)}{v:List (Int×bP)}{n:Int}(h:FLS m)(g:MPV w st l n v)(hn:(l.length:Int)<=n)(hv:(v.length:Int)=0):NDM w st l m:=λx y hx _=>by
 have:v=[]:=dy O;subst this;have:=mp_e g hn x hx;have hd:eX w x st=false:=by
  cases hd:eX w x st with
  |false=>rfl
  |true=>rw[hd]at this;cases this
 rw[vT h];unfold ndB;rw[hd];simp
def ZrL{w:ak}{st:Int}{l:List Int}{m:List (List Bool)}(h:FLS m)(hl:(l.length:Int)<2):NDM w st l m:=λx y hx hy=>by
 have:x=y:=by
  match l,hl with
  |[],_=>cases hx
  |[a],_=>rw[dW]at hx hy;rw[hx,hy]
  |_::_::_,hl=>simp only[bw]at hl;omega
 subst this;rw[vT h];unfold ndB;simp
def ND2(w:ak)(st:Int)(l:List Int)(v u:Int)(m:List (List Bool)):Prop:=∀x y,x∈l->y∈l->nB m x y=if y∈l.take v.toNat\/(l[v.toNat]?=some y/\x∈l.take u.toNat)then ndB w st x y else false
def ZrV{w:ak}{st:Int}{l:List Int}{m:List (List Bool)}(h:FLS m):ND2 w st l 0 0 m:=λx y _ _=>by
 rw[vT h,aw];rintro(h|h)
 .simp at h
 simp at h
def ZrW{w:ak}{st v u v':Int}{l:List Int}{m:List (List Bool)}(h:ND2 w st l v u m)(hu:(l.length:Int)<=u){j:Int}(hj:l[v.toNat]?=some j)(h0:0<=v)(hv:v'=v+1):ND2 w st l v' 0 m:=λx y hx hy=>by
 rw[h x y hx hy,dJ hj h0 hv,da (l:=l) (i:=u.toNat) O,hj];have e:((0:Int).toNat)=0:=rfl;simp only[e,Bn,sb,and_false,vU,cb,dW,aB,hx,jE];by_cases h1:y∈l.take v.toNat
 .simp [h1]
 by_cases h2:j=y
 .subst h2;simp[h1]
 have:¬y=j:=λe=>h2 e.symm;simp[h1,h2,this]
def ZrM{w:ak}{st v u:Int}{l:List Int}{m:List (List Bool)}(h:ND2 w st l v u m)(hv:(l.length:Int)<=v):NDM w st l m:=λx y hx hy=>by rw[h x y hx hy,da O,ar (.inl hy)]
def OW{m:List (List Bool)}{i j x y:Int}{r:List Bool}{b:Bool}(h0:0<=i)(g0:0<=j)(x0:0<=x)(y0:0<=y)(hr:m[i.toNat]?=some r)(hj:j.toNat<r.length):nB (m.set i.toNat (r.set j.toNat b)) x y=if x=i/\y=j then b else nB m x y:=by
 have:=XN (a:=x.toNat) (b:=y.toNat) (v:=b) hr hj;have e:∀m:List (List Bool),nB m x y=mE m x.toNat y.toNat:=λ_=>rfl;rw[e,this,e];by_cases h:x=i/\y=j
 .rw [ar h,ar O]
 rw[aw h,aw O]
def ZrX{w W:ak}{st v u u' i j:Int}{l:List Int}{m z:List (List Bool)}{r:List Bool}{b:Bool}{q:bP×Bool}{vw:bP}{c:Bool}(h:ND2 w st l v u m)(hp:POS l)(e:z=m.set i.toNat (r.set j.toNat c))(hr:m[i.toNat]?=some r)(hq:r[j.toNat]?=some b)(hi:l[u.toNat]?=some i)(hj:l[v.toNat]?=some j)(h0:0<=u)(hu:u'=u+1)
 (hk:q.2=eX w i st/\(q.2=true->q.1=fN w i st)) (hb:q.2=true) (hne:¬i=j) (hW:W=b7 w j st) (hv:vw=fN W i st) (hc:c=Z8t q.1 vw):ND2 w st l v u' z:=λx y hx hy=>by
 have hi':=bH hi;have hj':=bH hj;subst e;subst hW;subst hv;rw[OW (hp i hi') (hp j hj') (hp x hx) (hp y hy) hr (aL.1 hq).1,dJ hi h0 hu];have hn:c=ndB w st i j:=by unfold ndB;rw[hc,hk.2 hb,<- hk.1,hb,show(i==j)=false by simpa using hne];rfl
 by_cases hxy:x=i/\y=j
 .obtain⟨rfl,rfl⟩:=hxy;rw[ar ⟨rfl,rfl⟩,ar (.inr ⟨hj,by simp⟩),hn]
 rw[aw hxy,h x y hx hy,hj];by_cases hyj:y=j
 .have hxi:¬x=i:=λe=>hxy ⟨e,hyj⟩;simp[hxi]
 have:¬j=y:=λe=>hyj e.symm;simp[this]
def Tb{w:ak}{st v u u' i j:Int}{l:List Int}{m:List (List Bool)}{q:bP×Bool}(h:ND2 w st l v u m)(hi:l[u.toNat]?=some i)(hj:l[v.toNat]?=some j)(h0:0<=u)(hu:u'=u+1)
 (hk:q.2=eX w i st/\(q.2=true->q.1=fN w i st)) (hb:q.2=false\/i=j):ND2 w st l v u' m:=λx y hx hy=>by
 rw[h x y hx hy,dJ hi h0 hu,hj];have hn:ndB w st i j=false:=by
  unfold ndB;rcases hb with hb|hb
  .rw [<- hk.1,hb];simp
  rw[hb];simp
 by_cases hxy:x=i/\y=j
 .obtain⟨rfl,rfl⟩:=hxy;rw[hn];simp
 by_cases hyj:y=j
 .have hxi:¬x=i:=λe=>hxy ⟨e,hyj⟩;simp[hxi]
 have:¬j=y:=λe=>hyj e.symm;simp[this]
def cg_a{a b:bP}(h:(a.active==b.active)=false):true=Z8t a b:=by unfold Z8t;rw[h];rfl
def cg_b{a b:bP}{c:Bool}(hc:c=true↔a.hits=b.hits)(h:c=false):true=Z8t a b:=by unfold Z8t;rw[show(a.hits==b.hits)=false by simpa using λe=>by rw[hc.2 e]at h;cases h];simp
def cg_c{a b:bP}{c d:Bool}(h0:(a.active==b.active)=true)(hc:c=true↔a.hits=b.hits)(h:c=true)(hd:d=true↔a.numbers=b.numbers):(!d)=Z8t a b:=by
 unfold Z8t;rw[show(a.hits==b.hits)=true by simpa using hc.1 h,h0];cases hdd:d with
 |true=>rw[show(a.numbers==b.numbers)=true by simpa using hd.1 hdd];rfl
 |false=>rw[show(a.numbers==b.numbers)=false by simpa using λe=>by rw[hd.2 e]at hdd;cases hdd];rfl
def ZsS{s s':av}(h:bU s.Objects)(e:s'=s):bU s'.Objects:=by rw[e];exact h
def fa_m{w c:ak}{i:Int}{f:Z2}(h:c.forces[i.toNat]?=some f)(e:c.forces=w.forces):f.Mods=(fAt w i).Mods:=by rw[e]at h;rw[jt h]
def ZsK{a b:List Int}{v w x y:Int}(h:∀(k:Nat) x,(k:Int)<v->a[k]?=some x->b[k]?=some x)(hx:a[v.toNat]?=some x)(hy:b[v.toNat]?=some y)(e:x=y)(h0:0<=v)(hw:w=v+1):∀(k:Nat) x,(k:Int)<w->a[k]?=some x->b[k]?=some x:=λk z hk hz=>by
 by_cases hkv:(k:Int)<v
 .exact h k z hkv hz
 have:k=v.toNat:=a8
 subst this;rw[hy,<- e,<- cA (hx.symm.trans hz)]
def eq_y{a b:List Int}{v:Int}(h:∀(k:Nat) x,(k:Int)<v->a[k]?=some x->b[k]?=some x)(hl:a.length=b.length)(hv:(a.length:Int)<=v):true=true↔a=b:=⟨λ_=>gx λk=>by
 cases hx:a[k]? with
 |none=>have:=sf.1 hx;rw[kh O]
 |some x=>have:=(aL.1 hx).1;rw[h k x O hx],λ_=>rfl⟩
def eq_n{a b:List Int}{k:Nat}{x y:Int}(hx:a[k]?=some x)(hy:b[k]?=some y)(hn:¬x=y):false=true↔a=b:=⟨λh=>absurd h vV,λh=>by subst h;exact absurd (cA (hx.symm.trans hy)) hn⟩
def ZaB{α:Type}{g:Nat->α->α}{l z:List α}{v:Int}{x:α}(h:z=l.mapIdx (b9 g (λ_ t=>t) v))(hx:z[v.toNat]?=some x)(h0:0<=v):l[v.toNat]?=some x:=by
 subst h;rw[dL]at hx;cases hl:l[v.toNat]? with
 |none=>rw[hl]at hx;cases hx
 |some y=>
  rw[hl]at hx;have hx:b9 g (λ_ t=>t) v v.toNat y=x:=cA hx;unfold b9 at hx;rw[aw O]at hx;exact fE some hx
def Bs{α:Type}{g:Nat->α->α}{l:List α}:l=l.mapIdx (b9 g (λ_ t=>t) 0):=by
 refine gx λj=>?_;rw[dL];cases l[j]? with
 |none=>rfl
 |some y=>show some y=some (b9 g _ 0 j y);unfold b9;rw[aw O]
def ct_y{os:List aj}{l z z1 z2:List ab}{v w n a b:Int}{o:aj}{x:ab}{y:ab}{p q p' q':Prop}(h:z=l.mapIdx (b9 (im os) (λ_ t=>t) v))(hx:z[v.toNat]?=some x)(ho:os[v.toNat]?=some o)(e1:p/\q/\z1=z.set v.toNat y)(e2:p'/\q'/\z2=z1.set v.toNat ⟨x.Name,x.Cost,x.Colors,x.Line,a,b,x.Keys,x.Abilities,x.Control⟩)(hn:n=pwV o.Counters)(ha:a=adV x.Power n)(hb:b=adV x.Tough n)(h0:0<=v)(hw:w=v+1)(hz:o.Zone=0)(ht:¬aR .and .i64 x.Line.Types 1=0):z2=l.mapIdx (b9 (im os) (λ_ t=>t) w):=by refine vR (z:=z) (ZaB h hx h0) h h0 hw (by rw[e2.2.2,e1.2.2,List.set_set]) ?_;unfold im;rw[ho];show _=Z02 o x;unfold Z02;rw[ar ⟨hz,ht⟩,ha,hb,hn]
def ct_n{os:List aj}{l z:List ab}{v w:Int}{o:aj}{x:ab}(h:z=l.mapIdx (b9 (im os) (λ_ t=>t) v))(hx:z[v.toNat]?=some x)(ho:os[v.toNat]?=some o)(h0:0<=v)(hw:w=v+1)(hz:¬o.Zone=0\/aR .and .i64 x.Line.Types 1=0):z=l.mapIdx (b9 (im os) (λ_ t=>t) w):=by refine r9 (ZaB h hx h0) h h0 hw ?_;unfold im;rw[ho];show x=Z02 o x;unfold Z02;rw[aw λk=>hz.elim (λe=>e k.1) k.2]
def cn_e{w c:ak}{os:List aj}{v:Int}(h:c.traits=w.traits.mapIdx (b9 (im os) (λ_ t=>t) v))(hv:(os.length:Int)<=v)(hl:w.traits.length=w.s.Objects.length)(ho:os=w.s.Objects)(es:c.s=w.s)(ef:c.forces=w.forces)(ed:c.dropped=w.dropped)(edn:c.done=w.done)(eh:c.hits=w.hits):c=Z8u w:=by subst ho;have ht:=vS h O;obtain⟨a,b,c1,d,e,f⟩:=c;simp only at es ef ed edn eh ht;subst es;subst ef;subst ed;subst edn;subst eh;subst ht;rfl
def bl_n{ms:List af}{st v w:Int}{m:af}{c:Bool}(h:(ms.take v.toNat).any (λm=>stV m.Kind==st)=false)(hx:ms[v.toNat]?=some m)(h0:0<=v)(hw:w=v+1)(hc:c=(stV m.Kind==st))(hb:c=false):(ms.take w.toNat).any (λm=>stV m.Kind==st)=false:=by rw[dJ hx h0 hw,DL,h];simp[<- hc,hb]
def bl_y{ms:List af}{st v:Int}{m:af}{c:Bool}(hx:ms[v.toNat]?=some m)(h0:0<=v)(hc:c=(stV m.Kind==st))(hb:c=true):decide (v>=0)=ms.any λm=>stV m.Kind==st:=by rw[bh h0,eq_comm,kR];exact⟨m,bH hx,by rw[<- hc,hb]⟩
def bl_e{ms:List af}{st v:Int}(h:(ms.take v.toNat).any (λm=>stV m.Kind==st)=false)(hv:(ms.length:Int)<=v):decide ((-1:Int)>=0)=ms.any λm=>stV m.Kind==st:=by rw[da O]at h;rw[h];rfl
def oD{α:Type}{l:List α}{z:α}{n:Int}{k:Nat}(h:(l.length:Int)=n/\∀e,e∈l->e=z)(hk:n=k):l=List.replicate k z:=List.eq_replicate_iff.2 ⟨by have:=h.1;omega,h.2⟩
def bg_e{cards:List aq}{s:av}{b:ak}{v:Int}{os:List aj}{d:List Bool}{h:List (List Int)}(ht:b.traits=(os.take v.toNat).map (baV cards))(hv:(os.length:Int)<=v)(ho:os=s.Objects)(es:b.s=s)(ef:b.forces=FS fL gL cards s)(ed:b.dropped=List.replicate s.Objects.length false)(hd:(d.length:Int)=(b.forces.length:Int)/\∀e,e∈d->e=false)(hh:(h.length:Int)=(b.forces.length:Int)/\∀e,e∈h->e=[]):(⟨b.s,b.forces,b.traits,b.dropped,d,h⟩:ak)=begV cards s:=by subst ho;rw[oD hd rfl,oD hh rfl,vX ht hv rfl,es,ef,ed];rfl
def OZ{α:Type}{f:α->α}{n m:Nat}{x y:α}(h:y=itr f n x)(hm:m=n+1):f y=itr f m x:=by rw[hm,h];rfl
def STG(w0:ak)(st:Int)(w:ak)(left ord:List Int):Prop:=(w,left,ord)=itr (stF st (w0.forces.map λf=>f.Stamp)) ord.length (if st=7 then Z8u w0 else w0,Z4f w0.forces st,[])
def sg_0{w0 w:ak}{st:Int}{fs:List Z2}{left:List Int}{v:Int}(hw:w=if st=7 then Z8u w0 else w0)(hl:left=zfm (λ_ f=>belB f st) (λk _=>k) fs v)(hv:(fs.length:Int)<=v)(hf:fs=w0.forces){o:List Int}(ho:o.length=0):STG w0 st w left o:=by have:o=[]:=dy ho;subst this;subst hw;subst hf;rw[mw hl hv];rfl
def sg_y{w0 w w':ak}{st i:Int}{left left' ord ord' sts:List Int}{m:List (List Bool)}(h:STG w0 st w left ord)(hs:sts=w0.forces.map λf=>f.Stamp)(hm:NDM w st left m)(hi:i=nxV left sts (nB m))(hw:w'=b7 w i st)(hl:left'=left.filter (neI i))(ho:ord'=ord++[i]):STG w0 st w' left' ord':=by
 subst hs;have e:i=nxV left (w0.forces.map λf=>f.Stamp) (ndB w st):=by rw[hi];exact Bo λx y hx hy _ _=>hm x y hx hy
 unfold STG at *;have:=OZ (m:=ord'.length) h (by rw[ho,bm];rfl);rw[<- this,ho,hl,hw];unfold stF;simp only;rw[<- e]
def sg_e{w0 w:ak}{st:Int}{left ord:List Int}(h:STG w0 st w left ord)(hl:¬(left.length:Int)>0)(hn:ord.length+left.length=(Z4f w0.forces st).length):(ord,w)=stgV w0 st:=by
 unfold STG at h;have:ord.length=(Z4f w0.forces st).length:=a8
 unfold stgV;rw[<- this,<- h]
def Pp{l:List Int}(h:l.Nodup){i:Int}(hi:i∈l):(l.filter (neI i)).length+1=l.length:=by have:l.filter (neI i)=l.filter λy=>y != i:=DS λy _=>rfl;rw[this];exact NN h hi
def sl_n{l l' o o':List Int}{i:Int}{n:Nat}(h:o.length+l.length=n)(hl:l'=l.filter (neI i))(ho:o'=o++[i])(hn:l.Nodup)(hi:i<0\/i∈l)(h0:¬i<0):o'.length+l'.length=n:=by have:=Pp hn (hi.resolve_left h0);rw[hl,ho,bm,nr];omega
def nd_f{l l':List Int}{i:Int}(h:l.Nodup)(e:l'=l.filter (neI i)):l'.Nodup:=by rw[e];exact h.filter _
def ZrS{l:List Int}{i:Int}{sts:List Int}{N:Int->Int->Bool}(hi:i=nxV l sts N)(h:i<0)(hp:POS l)(hl:(l.length:Int)>0):False:=by obtain⟨x,hx⟩:=O5 (show 0<l.length by omega);have:=(O6 (left:=l) (st:=sts) (nd:=N) ⟨x,hx,hp x hx⟩).2;omega
def ZsO{fs:List Z2}{z sts:List Int}{v w:Int}{f:Z2}(e:z=sts++[f.Stamp])(h:sts=(fs.take v.toNat).map λf=>f.Stamp)(m:fs[v.toNat]?=some f)(h0:0<=v)(hw:w=v+1):z=(fs.take w.toNat).map λf=>f.Stamp:=Cp e h m rfl h0 hw
def wr_n{cards:List aq}{s:av}{w:ak}{r:List Int×ak}{v v':Int}(h:w=Z03 cards s (v-1).toNat)(hr:r=stgV w v)(h0:1<=v)(hv:v'=v+1):r.2=Z03 cards s (v'-1).toNat:=by
 have e:(v'-1).toNat=(v-1).toNat+1:=a8
 have e2:(((v-1).toNat+1:Nat):Int)=v:=a8
 rw[e,hr,h];show _=(stgV (Z03 cards s (v-1).toNat) (((v-1).toNat+1:Nat):Int)).2;rw[e2]
def nd_z{α:Type}{p:Int->α->Bool}{l:List α}{v:Int}{z:List Int}(h:z=zfm p (λk _=>k) l v):z.Nodup:=by rw[h];exact Bu
def sl_0{fs fs':List Z2}{st v:Int}{l o:List Int}(ho:o.length=0)(h:l=zfm (λ_ f=>belB f st) (λk _=>k) fs v)(hf:fs=fs')(hv:(fs.length:Int)<=v):o.length+l.length=(Z4f fs' st).length:=by subst hf;rw[ho,mw h hv,aN];rfl
def wr_e{cards:List aq}{s:av}{w:ak}{v:Int}(h:w=Z03 cards s (v-1).toNat)(h1:v<=9)(h2:9<=v):w.traits=(Z03 cards s 8).traits:=O3
def sa_n{α:Type}{a b:List α}{i:Nat}{x y:α}{c:Bool}(hx:a[i]?=some x)(hy:b[i]?=some y)(hs:x=y->c=true)(hc:c=false):a=b->false=true:=λe=>by subst e;rw[hs (cA (hx.symm.trans hy))]at hc;cases hc
def sa_l{α:Type}{a b:List α}(h:¬(a.length:Int)=b.length):a=b->false=true:=λe=>by subst e;exact absurd rfl h
end Go.PW
set_option maxRecDepth 100000
namespace Go.PW
def ik(c:aq):Prop:=0<=c.Line.Types/\c.Line.Types<=63/\0<=c.Power/\c.Power<=99/\0<=c.Tough/\c.Tough<=99
def ZBU:∀k:Fin 64,(Int.tmod (eu .i64 (k.val:Int) 1) 2=1)↔¬aR .and .i64 (k.val:Int) 1=0:=by decide+kernel
def ZmU{t:Int}(h0:0<=t)(h1:t<=63):(Int.tmod (eu .i64 t 1) 2=1)↔¬aR .and .i64 t 1=0:=by have:=ZBU ⟨t.toNat,by omega⟩;simp only at this;rwa[j9 h0]at this
def ZmS{cards:List aq}(h:∀c,c∈cards->ik c)(o:aj):0<=(baV cards o).Line.Types/\(baV cards o).Line.Types<=63/\0<=(baV cards o).Power/\(baV cards o).Power<=99/\0<=(baV cards o).Tough/\(baV cards o).Tough<=99:=by
 show 0<=(fY cards _).Line.Types/\(fY cards _).Line.Types<=63/\0<=(fY cards _).Power/\(fY cards _).Power<=99/\0<=(fY cards _).Tough/\(fY cards _).Tough<=99;generalize (if o.Copy<0 then o.Card else o.Copy)=i;by_cases h0:i<0
 .rw [sP (.inl h0)];decide
 cases hx:cards[i.toNat]? with
 |none=>rw[sP (.inr (by have:=sf.1 hx;omega))];decide
 |some c=>rw[CZ hx O];exact h c (bH hx)
end Go.PW
set_option maxRecDepth 100000
namespace Go.PW
def iN{w:au}{i:Int}{f:bd}(h:w.L[i.toNat]?=some f):gAt w i=f:=by unfold gAt;rw[h];rfl
section
variable {w:au} {i x:Int} {f:bd}
def yr_a(hf:w.L[i.toNat]?=some f)(h:f.Fixed=true):f.Control=eJ w i:=by unfold eJ;rw[iN hf,ar (.inl h)]
def yr_b(hf:w.L[i.toNat]?=some f)(hi:x=ixO w.S.Objects f.Source)(h:x<0):f.Control=eJ w i:=by unfold eJ;rw[iN hf,<- hi,ar (.inr h)]
def yr_c{t:ab}(hf:w.L[i.toNat]?=some f)(hi:x=ixO w.S.Objects f.Source)(ht:w.All[x.toNat]?=some t)(hF:f.Fixed=false)(h:¬x<0):t.Control=eJ w i:=by unfold eJ;rw[iN hf,<- hi,aw (λk=>k.elim (λe=>by rw[hF]at e;cases e) h),<- uk ht O]
def ar_a(hf:w.L[i.toNat]?=some f)(h:f.Fixed=true):true=cx w i:=by unfold cx;rw[iN hf,h];simp
def ar_b{d:Bool}(hd:w.Begun[i.toNat]?=some d)(h:d=true):true=cx w i:=by unfold cx;rw[gS hd,h];simp
def ar_c(hf:w.L[i.toNat]?=some f)(hi:x=ixO w.S.Objects f.Source)(h:x<0):true=cx w i:=by unfold cx;rw[iN hf,<- hi,bh h];simp
def ar_d{d e:Bool}(hf:w.L[i.toNat]?=some f)(hi:x=ixO w.S.Objects f.Source)(hd:w.Begun[i.toNat]?=some d)(he:w.Blank[x.toNat]?=some e)(hF:f.Fixed=false)(h:d=false)(hx:¬x<0):(!e)=cx w i:=by unfold cx;rw[iN hf,<- hi,gS hd,gS he,hF,h,bn hx];simp
def hr_c{you k:Int}{o:aj}{c:Bool}(hz:o.Zone=0)(hF:f.Fixed=true)(hc:c=true↔o.Id∈f.Objects)(h:c=true):ig w f you k o=true:=by unfold ig;rw[hz,hF];simp[hc.1 h]
def hr_n{you k:Int}{o:aj}{c:Bool}(hF:f.Fixed=true)(hc:c=true↔o.Id∈f.Objects)(h:c=false):ig w f you k o=false:=by
 have:o.Id∉f.Objects:=λhm=>by rw[hc.2 hm]at h;cases h
 unfold ig;rw[hF];simp[this]
def hr_m{you you' k:Int}{o:aj}{c:Bool}{t:ab}(hm:c=gN o t you' f.Source f.Filter)(hy:you'=you)(ht:w.All[k.toNat]?=some t)(hz:o.Zone=0)(hF:f.Fixed=false)(h0:0<=k):ig w f you k o=c:=by subst hy;unfold ig;rw[hz,hF,<- uk ht O,hm];simp
def hr_z{you k:Int}{o:aj}(hz:¬o.Zone=0):ig w f you k o=false:=by unfold ig;rw[show(o.Zone==0)=false by simpa using hz];rfl
def fr_h{d:Bool}{h:List Int}(hd:w.Begun[i.toNat]?=some d)(hh:w.Sets[i.toNat]?=some h)(hb:d=true):h=cR w i:=by unfold cR;rw[gS hd,hb,ar rfl,OU hh]
def fr_n{d a:Bool}(hd:w.Begun[i.toNat]?=some d)(ha:a=cx w i)(hb:d=false)(h:a=false):[]=cR w i:=by unfold cR;rw[gS hd,hb,<- ha,h];rfl
def fr_l{v:Int}{z:List Int}(h:z=zfm (ig w f (eJ w i)) (λ_ o=>o.Id) w.S.Objects v)(hv:(w.S.Objects.length:Int)<=v)(hf:w.L[i.toNat]?=some f)(ha:cx w i=true)(hd:bA w.Begun i=false):z=cR w i:=by unfold cR;rw[hd,ha,iN hf];exact mw h hv
def nrP(w:au)(i:Int)(f:bd)(st v:Int):List Int:=((f.Mods.take v.toNat).filter λm=>stV m.Kind==st).map (gb w.S w.All (eJ w i) f.Source st)
def nr_0{st:Int}:[]=nrP w i f st 0:=by simp[nrP]
def nr_n{st v v' g:Int}{z:List Int}{m:af}(h:z=nrP w i f st v)(hx:f.Mods[v.toNat]?=some m)(h0:0<=v)(hv:v'=v+1)(hg:g=stV m.Kind)(hs:¬g=st):z=nrP w i f st v':=by unfold nrP at *;rw[dJ hx h0 hv,iM,fk,<- h,gP,aw r8];simp
def nr_y{st v v' g n:Int}{z z':List Int}{m:af}(h:z=nrP w i f st v)(hz:z'=z++[n])(hx:f.Mods[v.toNat]?=some m)(h0:0<=v)(hv:v'=v+1)(hg:g=stV m.Kind)(hs:g=st)(hn:n=gb w.S w.All (eJ w i) f.Source st m):z'=nrP w i f st v':=by subst hn;unfold nrP at *;rw[dJ hx h0 hv,iM,fk,<- h,gP,ar r8,hz];rfl
def nr_e{st v:Int}{z:List Int}(h:z=nrP w i f st v)(hv:(f.Mods.length:Int)<=v)(hf:w.L[i.toNat]?=some f):z=fy w i st:=by unfold nrP at h;unfold fy;rw[h,iN hf,da O]
end
def cnS(f:bd)(st v:Int):Nat:=cnt (λm:af=>stV m.Kind==st) f.Mods v
def ZhK{w:au}{i st:Int}{f:bd}{z:List Int}(h:z=fy w i st)(hf:w.L[i.toNat]?=some f):z.length=(f.Mods.filter λm=>stV m.Kind==st).length:=by rw[h];unfold fy;rw[iN hf,cN]
def MFR(f:bd)(nums:List Int)(you st:Int)(t0:ab)(v:Int)(t:ab)(n:Int):Prop:=(t,n)=(f.Mods.take v.toNat).foldl (mfR1 nums you st) (t0,0)
def mr_0{f:bd}{nums:List Int}{you st:Int}{t:ab}:MFR f nums you st t 0 t 0:=rfl
def mr_n{f:bd}{nums:List Int}{you st v v' g n:Int}{t0 t:ab}{m:af}(h:MFR f nums you st t0 v t n)(hx:f.Mods[v.toNat]?=some m)(h0:0<=v)(hv:v'=v+1)(hg:g=stV m.Kind)(hs:¬g=st):MFR f nums you st t0 v' t n:=by unfold MFR at *;rw[<- Z2s hx h0 hv h];unfold mfR1;rw[<- hg,aw hs]
def mr_y{f:bd}{nums:List Int}{you st v v' g n n' k:Int}{t0 t t':ab}{m:af}(h:MFR f nums you st t0 v t n)(hx:f.Mods[v.toNat]?=some m)(hk:nums[n.toNat]?=some k)(ht:t'=apV t m you k)(h0:0<=v)(hv:v'=v+1)(hn:n'=n+1)(hg:g=stV m.Kind)(hs:g=st):MFR f nums you st t0 v' t' n':=by unfold MFR at *;rw[<- Z2s hx h0 hv h];unfold mfR1;rw[<- hg,ar hs];simp only;rw[hk,ht,hn];rfl
def mr_e{f:bd}{nums:List Int}{you st v n:Int}{t0 t:ab}(h:MFR f nums you st t0 v t n)(hv:(f.Mods.length:Int)<=v):t=mfR f.Mods nums you st t0:=by unfold MFR at h;unfold mfR;rw[da O]at h;rw[<- h]
def cs_y{f:bd}{st v v' g n n':Int}{m:af}(h:n=cnS f st v)(hx:f.Mods[v.toNat]?=some m)(h0:0<=v)(hv:v'=v+1)(hg:g=stV m.Kind)(hs:g=st)(hn:n'=n+1):n'=cnS f st v':=by unfold cnS at *;rw[Om hx h0 r8 hv];omega
def cs_n{f:bd}{st v v' g n:Int}{m:af}(h:n=cnS f st v)(hx:f.Mods[v.toNat]?=some m)(h0:0<=v)(hv:v'=v+1)(hg:g=stV m.Kind)(hs:¬g=st):n=cnS f st v':=by unfold cnS at *;rw[ZjH hx h0 r8 hv];exact h
def ZhF{f:bd}{st v g n:Int}{m:af}{l:List Int}(h:n=cnS f st v)(hl:l.length=(f.Mods.filter λm=>stV m.Kind==st).length)(hx:f.Mods[v.toNat]?=some m)(h0:0<=v)(hg:g=stV m.Kind)(hs:g=st):0<=n/\n<(l.length:Int):=by have:=ZjI (p:=λm:af=>stV m.Kind==st) hx h0 r8;unfold cnS at h;omega
def drP(st:Int)(m:af):Bool:=m.Kind==10&&stV m.Kind==st
def blP(st:Int)(m:af):Bool:=stV m.Kind==st
def an_n{p:af->Bool}{ms:List af}{v w:Int}{m:af}(h:(ms.take v.toNat).any p=false)(hx:ms[v.toNat]?=some m)(h0:0<=v)(hw:w=v+1)(hp:p m=false):(ms.take w.toNat).any p=false:=OV
def an_y{p:af->Bool}{ms:List af}{v:Int}{m:af}(hx:ms[v.toNat]?=some m)(hp:p m=true):true=ms.any p:=(kR.2 ⟨m,bH hx,hp⟩).symm
def an_e{p:af->Bool}{ms:List af}{v:Int}(h:(ms.take v.toNat).any p=false)(hv:(ms.length:Int)<=v):false=ms.any p:=by rw[da O]at h;exact h.symm
def dq_y{st g:Int}{m:af}(hk:m.Kind=10)(hg:g=stV m.Kind)(hs:g=st):drP st m=true:=by unfold drP;rw[<- hg,hs,hk];simp
def dq_a{st:Int}{m:af}(hk:¬m.Kind=10):drP st m=false:=by unfold drP;rw[show(m.Kind==10)=false by simpa using hk];rfl
def dq_b{st g:Int}{m:af}(hg:g=stV m.Kind)(hs:¬g=st):drP st m=false:=by unfold drP;rw[<- hg,show(g==st)=false by simpa using hs];simp
def bq_y{st g:Int}{m:af}(hg:g=stV m.Kind)(hs:g=st):blP st m=true:=by unfold blP;rw[<- hg,hs];simp
def bq_n{st g:Int}{m:af}(hg:g=stV m.Kind)(hs:¬g=st):blP st m=false:=by unfold blP;rw[<- hg];simpa using hs
def aG(os:List aj)(set:List Int)(f:bd)(nums:List Int)(you st:Int)(k:Nat)(t:ab):ab:=if inS os set k then mfR f.Mods nums you st t else t
def bG(os:List aj)(set:List Int)(f:bd)(st:Int)(k:Nat)(b:Bool):Bool:=if inS os set k&&drR f.Mods st then true else b
def in_y{os:List aj}{set:List Int}{v:Int}{o:aj}{c:Bool}(ho:os[v.toNat]?=some o)(hc:c=true↔o.Id∈set):inS os set v.toNat=c:=by
 unfold inS;rw[ho];show set.contains o.Id=c;cases hcc:c with
 |true=>simpa using hc.1 hcc
 |false=>simpa using λh=>by rw[hc.2 h]at hcc;cases hcc
section
variable {os:List aj} {set nums:List Int} {f f':bd} {you st v v':Int} {o:aj} {c:Bool}
def ga_n{l z:List ab}(h:z=l.mapIdx (b9 (aG os set f nums you st) (λ_ t=>t) v))(hl:(l.length:Int)=os.length)(ho:os[v.toNat]?=some o)(hc:c=true↔o.Id∈set)(h0:0<=v)(hv:v'=v+1)(hb:c=false):z=l.mapIdx (b9 (aG os set f nums you st) (λ_ t=>t) v'):=by have hlt:=(aL.1 ho).1;exact r9 (bj (show v.toNat<l.length by omega)) h h0 hv (by unfold aG;rw[in_y ho hc,hb];rfl)
def ga_y{l z z':List ab}{x y:ab}{p q:Prop}(h:z=l.mapIdx (b9 (aG os set f nums you st) (λ_ t=>t) v))(e:p/\q/\z'=z.set v.toNat y)(hx:l[v.toNat]?=some x)(hy:y=mfR f'.Mods nums you st x)(hf:f'=f)(ho:os[v.toNat]?=some o)(hc:c=true↔o.Id∈set)(h0:0<=v)(hv:v'=v+1)(hb:c=true):z'=l.mapIdx (b9 (aG os set f nums you st) (λ_ t=>t) v'):=by subst hf;exact vR hx h h0 hv e.2.2 (by unfold aG;rw[in_y ho hc,hb,hy];rfl)
def gb_n{l z:List Bool}{d:Bool}(h:z=l.mapIdx (b9 (bG os set f st) (λ_ t=>t) v))(hl:(l.length:Int)=os.length)(ho:os[v.toNat]?=some o)(hc:c=true↔o.Id∈set)(h0:0<=v)(hv:v'=v+1)(hb:c=false\/(d=drR f'.Mods st/\f'=f/\d=false)):z=l.mapIdx (b9 (bG os set f st) (λ_ t=>t) v'):=by
 have hlt:=(aL.1 ho).1;refine r9 (bj (show v.toNat<l.length by omega)) h h0 hv ?_;unfold bG;rw[in_y ho hc];rcases hb with hb|⟨hd,hf,hb⟩
 .rw [hb];rfl
 subst hf;rw[<- hd,hb];simp
def gb_m{l z:List Bool}(h:z=l.mapIdx (b9 (bG os set f st) (λ_ t=>t) v))(hl:(l.length:Int)=os.length)(ho:os[v.toNat]?=some o)(hc:c=true↔o.Id∈set)(h0:0<=v)(hv:v'=v+1)(hb:c=false):z=l.mapIdx (b9 (bG os set f st) (λ_ t=>t) v'):=gb_n (d:=false) (f':=f) h hl ho hc h0 hv (.inl hb)
def gb_y{l z z':List Bool}{d:Bool}{p q:Prop}(h:z=l.mapIdx (b9 (bG os set f st) (λ_ t=>t) v))(e:p/\q/\z'=z.set v.toNat true)(hl:(l.length:Int)=os.length)(hd:d=drR f'.Mods st)(hf:f'=f)(ho:os[v.toNat]?=some o)(hc:c=true↔o.Id∈set)(h0:0<=v)(hv:v'=v+1)(hb:c=true)(hdd:d=true):z'=l.mapIdx (b9 (bG os set f st) (λ_ t=>t) v'):=by subst hf;have hlt:=(aL.1 ho).1;refine vR (bj (show v.toNat<l.length by omega)) h h0 hv e.2.2 ?_;unfold bG;rw[in_y ho hc,hb,<- hd,hdd];rfl
end
def ra_e{w c:au}{i st v you:Int}{set nums:List Int}(hs:c.S=w.S)(hL:c.L=w.L)(hA:c.All=w.All.mapIdx (b9 (aG w.S.Objects set (gAt w i) nums you st) (λ_ t=>t) v))(hB:c.Blank=w.Blank.mapIdx (b9 (bG w.S.Objects set (gAt w i) st) (λ_ t=>t) v))(hb:c.Begun=w.Begun.set i.toNat true)(hS:c.Sets=w.Sets.set i.toNat set)(h1:set=cR w i)(h2:nums=fy w i st)(h3:you=eJ w i)(ha:cx w i=true)(lA:w.All.length=w.S.Objects.length)(lB:w.Blank.length=w.S.Objects.length)(hv:(w.S.Objects.length:Int)<=v):c=cQ w i st:=by subst h1;subst h2;subst h3;replace hA:=vS hA O;replace hB:=vS hB O;unfold cQ;rw[ar ha];obtain⟨a,b,d,e,f,g⟩:=c;simp only at hs hL hA hB hb hS;subst hs;subst hL;subst hA;subst hB;subst hb;subst hS;rfl
def ra_n{w:au}{i st:Int}{a:Bool}(ha:a=cx w i)(h:a=false):w=cQ w i st:=by unfold cQ;rw[aw (by rw[<- ha,h];simp)]
def ZlK{w:au}{st i j:Int}(h:i=j):false=ndR w st i j:=by unfold ndR;rw[show(i==j)=true by simpa using h];rfl
section
variable {w W:au} {st i j:Int} {a b c d:Bool} {x y z u:List Int}
def nd_a(hW:W=cQ w j st)(h:¬i=j)(ha:a=cx w i)(hb:b=cx W i)(hn:(a==b)=false):true=ndR w st i j:=by subst hW;unfold ndR;rw[show(i==j)=false by simpa using h,<- ha,<- hb,hn];rfl
def nd_b(hW:W=cQ w j st)(h:¬i=j)(hx:x=cR w i)(hy:y=cR W i)(hc:c=true↔x=y)(hn:c=false):true=ndR w st i j:=by subst hW;unfold ndR;rw[show(i==j)=false by simpa using h,<- hx,<- hy,show(x==y)=false by simpa using λe=>by rw[hc.2 e]at hn;cases hn];simp
def nd_c(hW:W=cQ w j st)(h:¬i=j)(ha:a=cx w i)(hb:b=cx W i)(hab:(a==b)=true)(hx:x=cR w i)(hy:y=cR W i)(hc:c=true↔x=y)(hcc:c=true)(hz:z=fy w i st)(hu:u=fy W i st)(hd:d=true↔z=u):(!d)=ndR w st i j:=by
 subst hW;unfold ndR;rw[show(i==j)=false by simpa using h,<- ha,<- hb,hab,<- hx,<- hy,<- hz,<- hu,show(x==y)=true by simpa using hc.1 hcc];cases hdd:d with
 |true=>rw[show(z==u)=true by simpa using hd.1 hdd];rfl
 |false=>rw[show(z==u)=false by simpa using λe=>by rw[hd.2 e]at hdd;cases hdd];rfl
end
def NR2(w:au)(st:Int)(l:List Int)(v u:Int)(m:List (List Bool)):Prop:=∀x y,x∈l->y∈l->nB m x y=if x∈l.take v.toNat\/(l[v.toNat]?=some x/\y∈l.take u.toNat)then ndR w st x y else false
def ZlL{w:au}{st:Int}{l:List Int}{m:List (List Bool)}(h:FLS m):NR2 w st l 0 0 m:=λx y _ _=>by
 rw[vT h,aw];rintro(h|h)
 .simp at h
 simp at h
def ZlM{w:au}{st v u v':Int}{l:List Int}{m:List (List Bool)}{j:Int}(h:NR2 w st l v u m)(hj:l[v.toNat]?=some j)(hu:(l.length:Int)<=u)(h0:0<=v)(hv:v'=v+1):NR2 w st l v' 0 m:=λx y hx hy=>by
 rw[h x y hx hy,dJ hj h0 hv,da (l:=l) (i:=u.toNat) O,hj];have e:((0:Int).toNat)=0:=rfl;simp only[e,Bn,sb,and_false,vU,cb,dW,aB,hy,jE];by_cases h1:x∈l.take v.toNat
 .simp [h1]
 by_cases h2:j=x
 .subst h2;simp[h1]
 have:¬x=j:=λe=>h2 e.symm;simp[h1,h2,this]
def ZlN{w:au}{st v u u' i j:Int}{l:List Int}{m z:List (List Bool)}{r:List Bool}{b c:Bool}(h:NR2 w st l v u m)(e:z=m.set i.toNat (r.set j.toNat c))(hr:m[i.toNat]?=some r)(hq:r[j.toNat]?=some b)(hi:l[v.toNat]?=some i)(hj:l[u.toNat]?=some j)(hc:c=ndR w st i j)(hp:POS l)(h0:0<=u)(hu:u'=u+1):NR2 w st l v u' z:=λx y hx hy=>by
 have hi':=bH hi;have hj':=bH hj;subst e;rw[OW (hp i hi') (hp j hj') (hp x hx) (hp y hy) hr (aL.1 hq).1,dJ hj h0 hu];by_cases hxy:x=i/\y=j
 .obtain⟨rfl,rfl⟩:=hxy;rw[ar ⟨rfl,rfl⟩,ar (.inr ⟨hi,by simp⟩),hc]
 rw[aw hxy,h x y hx hy,hi];by_cases hxi:x=i
 .have hyj:¬y=j:=λe=>hxy ⟨hxi,e⟩;simp[hyj]
 have:¬i=x:=λe=>hxi e.symm;simp[this]
def ZiC{w:au}{st v u r:Int}{l sts:List Int}{m:List (List Bool)}(h:NR2 w st l v u m)(hv:(l.length:Int)<=v)(hr:r=nxV l sts (nB m))(hs:sts=w.L.map λf=>f.Stamp):r=nxV l (w.L.map λf=>f.Stamp) (ndR w st):=by subst hs;rw[hr];refine Bo λx y hx hy _ _=>?_;rw[h x y hx hy,da O,ar (.inl hx)]
def ZlO{m z:List (List Bool)}{y:List Bool}{q:Prop}(h:FLS m)(e:z=m++[y])(hy:q/\∀e,e∈y->e=false):FLS z:=λa ha e' he=>by
 subst e;rcases cb.1 ha with h1|h1
 .exact h a h1 e' he
 rw[dW]at h1;subst h1;exact hy.2 e' he
def ZlP:FLS []:=λa ha=>by cases ha
def RWt(l:List Int)(nd:List (List Bool))(x v:Int):Prop:=∀(k:Nat) y,(k:Int)<v->l[k]?=some y->y≠x->nB nd x y=true->Lds l (λp q=>nB nd p q=true) y x
def rw_0{l:List Int}{nd:List (List Bool)}{x:Int}:RWt l nd x 0:=λk y hk=>a8
def RWI(l:List Int)(nd:List (List Bool))(i v:Int)(b:Bool):Prop:=∀x,l[i.toNat]?=some x->(b=true↔RWt l nd x v)
def ZlQ{l:List Int}{nd:List (List Bool)}{i:Int}:RWI l nd i 0 true:=λx _=>⟨λ_=>rw_0,λ_=>rfl⟩
def Bp{l:List Int}{nd:List (List Bool)}{i v v' x y:Int}{b:Bool}{P:Prop}(h:RWI l nd i v b)(h0:0<=v)(hv:v'=v+1)(hy:l[v.toNat]?=some y)(hx:l[i.toNat]?=some x)(hp:y≠x->nB nd x y=true->Lds l (λp q=>nB nd p q=true) y x):RWI l nd i v' b:=λz hz=>by
 have:=cA (hz.symm.trans hx);subst this;rw[h z hz];refine⟨λk j w hj hw hne hb=>?_,λk j w hj hw=>k j w O hw⟩;by_cases hjv:(j:Int)<v
 .exact k j w hjv hw hne hb
 have:j=v.toNat:=a8
 subst this;have:=cA (hw.symm.trans hy);subst this;exact hp hne hb
def ZlR{l:List Int}{nd:List (List Bool)}{i v v' x y:Int}(h0:0<=v)(hv:v'=v+1)(hy:l[v.toNat]?=some y)(hx:l[i.toNat]?=some x)(hne:y≠x)(hb:nB nd x y=true)(hp:¬Lds l (λp q=>nB nd p q=true) y x):RWI l nd i v' false:=λz hz=>by have:=cA (hz.symm.trans hx);subst this;exact⟨λk=>absurd k vV,λk=>absurd (k v.toNat y O hy hne hb) hp⟩
def OX{l:List Int}{nd:List (List Bool)}{i v x:Int}{b:Bool}(h:RWI l nd i v b)(hv:(l.length:Int)<=v)(hx:l[i.toNat]?=some x):rdB l (nB nd) x=b:=by
 have key:RWt l nd x v↔RDL l (nB nd) x:=⟨λk j hj hne hb=>by obtain⟨n,hn⟩:=List.mem_iff_getElem?.1 hj;have:=(aL.1 hn).1;exact k n j O hn hne hb,λk n y _ hy hne hb=>k y (bH hy) hne hb⟩;have:=h x hx;cases hb:b with
 |true=>exact sd (key.1 (this.1 hb))
 |false=>exact vW λk=>by rw[this.2 (key.2 k)]at hb;cases hb
def ZlS{l:List Int}(h:l.Nodup){i j:Int}{x y:Int}(hx:l[i.toNat]?=some x)(hy:l[j.toNat]?=some y)(h0:0<=i)(g0:0<=j)(hn:¬j=i):y≠x:=λe=>by subst e;have:=AS h hx hy;omega
def ZlT{l r:List Int}{nd:List (List Bool)}{i v v' x y:Int}{b b' c:Bool}(h:RWI l nd i v b)(hx:l[i.toNat]?=some x)(hy:l[v.toNat]?=some y)(hb:b'=nB nd x y)(hbt:b'=true)(hr:Rch l (λp q=>nB nd p q=true) y r)(hc:c=true↔x∈r)(hcf:c=false)(hn:l.Nodup)(hne:¬v=i)(h0:0<=v)(i0:0<=i)(hv:v'=v+1):RWI l nd i v' false:=ZlR h0 hv hy hx (ZlS hn hx hy i0 h0 hne) (by rw[<- hb,hbt]) λk=>by rw[hc.2 ((hr.lds x).2 k)]at hcf;cases hcf
def ZlU{l r:List Int}{nd:List (List Bool)}{i v v' x y:Int}{b c:Bool}(h:RWI l nd i v b)(hx:l[i.toNat]?=some x)(hy:l[v.toNat]?=some y)(hr:Rch l (λp q=>nB nd p q=true) y r)(hc:c=true↔x∈r)(hct:c=true)(h0:0<=v)(hv:v'=v+1):RWI l nd i v' b:=Bp (P:=True) h h0 hv hy hx λ_ _=>(hr.lds x).1 (hc.1 hct)
def ZlV{l:List Int}{nd:List (List Bool)}{i v v' x y:Int}{b b':Bool}(h:RWI l nd i v b)(hx:l[i.toNat]?=some x)(hy:l[v.toNat]?=some y)(hb:b'=nB nd x y)(hbf:b'=false)(h0:0<=v)(hv:v'=v+1):RWI l nd i v' b:=Bp (P:=True) h h0 hv hy hx λ_ k=>by rw[<- hb,hbf]at k;cases k
def ZlW{l:List Int}{nd:List (List Bool)}{i v v':Int}{b:Bool}(h:RWI l nd i v b)(he:v=i)(h0:0<=v)(hi:v<(l.length:Int))(hv:v'=v+1):RWI l nd i v' b:=by have hx:=bj (show v.toNat<l.length by omega);subst he;exact Bp (P:=True) h h0 hv hx hx λk=>absurd rfl k
def ZlX{l acc:List Int}{nd:List (List Bool)}{i v w:Int}{b:Bool}(h:acc=(l.take i.toNat).filter (rdB l (nB nd)))(g:RWI l nd i v b)(hb:b=false)(hv:(l.length:Int)<=v)(h0:0<=i)(hi:i<(l.length:Int))(hw:w=i+1):acc=(l.take w.toNat).filter (rdB l (nB nd)):=by have hx:=bj (show i.toNat<l.length by omega);exact AV hx h h0 ((OX g hv hx).trans hb) hw
def ZlY{a b:List Int}(h:b=elV a):b.Nodup:=by rw[h];exact Bq a
def ZhZ{a b:List Int}{N:Int->Int->Bool}(h:b=rdV (elV a) N):POS b:=λx hx=>by rw[h]at hx;exact OY a x (iO.1 hx).1
def Br{α β:Type}{f:Nat->α->β}{l:List α}{z z':List β}{v w:Int}{x:α}{y:β}(h:z=(l.take v.toNat).mapIdx f)(hz:z'=z++[y])(hx:l[v.toNat]?=some x)(hy:y=f v.toNat x)(h0:0<=v)(hw:w=v+1):z'=(l.take w.toNat).mapIdx f:=by have hlt:=(aL.1 hx).1;rw[dJ hx h0 hw,List.mapIdx_append,<- h,hz,hy];simp only[List.mapIdx_cons,List.mapIdx_nil,eU,aN];rw[oC O]
def cu_y{os:List aj}{v n a b:Int}{o:aj}{x:ab}(ho:os[v.toNat]?=some o)(hn:n=pwV o.Counters)(ha:a=adV x.Power n)(hb:b=adV x.Tough n)(hz:o.Zone=0)(ht:Int.tmod (eu .i64 x.Line.Types 1) 2=1):(⟨x.Name,x.Cost,x.Colors,x.Line,a,b,x.Keys,x.Abilities,x.Control⟩:ab)=Z8v os v.toNat x:=by unfold Z8v;rw[ho];show _=cnuT o x;unfold cnuT;rw[ar ⟨hz,ht⟩,ha,hb,hn]
def cu_n{os:List aj}{v:Int}{o:aj}{x:ab}(ho:os[v.toNat]?=some o)(hz:¬o.Zone=0\/¬Int.tmod (eu .i64 x.Line.Types 1) 2=1):x=Z8v os v.toNat x:=by unfold Z8v;rw[ho];show x=cnuT o x;unfold cnuT;rw[aw λk=>hz.elim (λe=>e k.1) λe=>e k.2]
def cu_e{w c:au}{v:Int}(h:c.All=(w.All.take v.toNat).mapIdx (Z8v w.S.Objects))(hv:(w.All.length:Int)<=v)(es:c.S=w.S)(eL:c.L=w.L)(eb:c.Begun=w.Begun)(eS:c.Sets=w.Sets)(eB:c.Blank=w.Blank):c=Z04 w:=by rw[da O]at h;obtain⟨a,b,d,e,f,g⟩:=c;simp only at es eL eb eS eB h;subst es;subst eL;subst eb;subst eS;subst eB;subst h;rfl
def STR(w0:au)(st:Int)(w:au)(left ord:List Int):Prop:=(w,left,ord)=itr (stFR st (w0.L.map λf=>f.Stamp)) ord.length (if st=7 then Z04 w0 else w0,belS w0.L st,[])
def sr_0{w0 w:au}{st:Int}{left o:List Int}{v:Int}(hw:w=if st=7 then Z04 w0 else w0)(hl:left=zfm (λ_ f=>belR f st) (λk _=>k) w.L v)(hv:(w.L.length:Int)<=v)(ho:o.length=0)(hf:w.L=w0.L):STR w0 st w left o:=by have:o=[]:=dy ho;subst this;rw[mw hl hv,hf,hw];rfl
def sr_y{w0 w w':au}{st i:Int}{left left' ord ord':List Int}(h:STR w0 st w left ord)(hi:i=nxV left (w.L.map λf=>f.Stamp) (ndR w st))(hw:w'=cQ w i st)(hl:left'=left.filter (λy=>y != i))(ho:ord'=ord++[i])(hL:w.L=w0.L):STR w0 st w' left' ord':=by rw[hL]at hi;unfold STR at *;have:=OZ (m:=ord'.length) h (by rw[ho,bm];rfl);rw[<- this,ho,hl,hw];unfold stFR;simp only;rw[<- hi]
def sr_e{w0 w:au}{st:Int}{left ord:List Int}(h:STR w0 st w left ord)(hn:ord.length=(belS w0.L st).length):(w,ord)=stgR w0 st:=by unfold STR at h;unfold stgR;rw[<- hn,<- h]
def rr_n{cards:List aq}{s:av}{w:au}{r:au×List Int}{v v':Int}(h:w=Z4g cards s (v-1).toNat)(hr:r=stgR w v)(h0:1<=v)(hv:v'=v+1):r.1=Z4g cards s (v'-1).toNat:=by
 have e:(v'-1).toNat=(v-1).toNat+1:=a8
 have e2:(((v-1).toNat+1:Nat):Int)=v:=a8
 rw[e,hr,h];show _=(stgR (Z4g cards s (v-1).toNat) (((v-1).toNat+1:Nat):Int)).1;rw[e2]
def rr_e{cards:List aq}{s:av}{w:au}{v:Int}(h:w=Z4g cards s (v-1).toNat)(h1:v<=9)(h2:9<=v):w.All=(Z4g cards s 8).All:=O3
def br_e{cards:List aq}{s:av}{b:au}{v:Int}{d e:List Bool}{h:List (List Int)}(ht:b.All=(s.Objects.take v.toNat).map (baV cards))(hv:(s.Objects.length:Int)<=v)(es:b.S=s)(ef:b.L=FS fR gR cards s)(hd:(d.length:Int)=(b.L.length:Int)/\∀e,e∈d->e=false)(hh:(h.length:Int)=(b.L.length:Int)/\∀e,e∈h->e=[])(he:(e.length:Int)=(s.Objects.length:Int)/\∀x,x∈e->x=false):(⟨b.S,b.All,b.L,d,h,e⟩:au)=begR cards s:=by rw[oD hd rfl,oD hh rfl,oD he rfl,vX ht hv rfl,es,ef];rfl
def ap_s{α:Type}{l z z':List α}{k:Nat}{y:α}{p q:Prop}(e:p/\q/\z'=z.set k y)(h:z=[]++l):z'=l.set k y:=by rw[e.2.2,h];rfl
def ga_0{os:List aj}{set nums:List Int}{f:bd}{you st:Int}{l z:List ab}(h:z=[]++l):z=l.mapIdx (b9 (aG os set f nums you st) (λ_ t=>t) 0):=by rw[h];exact Bs
def gb_0{os:List aj}{set:List Int}{f:bd}{st:Int}{l z:List Bool}(h:z=[]++l):z=l.mapIdx (b9 (bG os set f st) (λ_ t=>t) 0):=by rw[h];exact Bs
def ZlZ{w:au}{st v u v':Int}{l:List Int}{m:List (List Bool)}(h:NR2 w st l v u m)(hu:(l.length:Int)<=u)(h0:0<=v)(hl:v<(l.length:Int))(hv:v'=v+1):NR2 w st l v' 0 m:=ZlM h (bj (show v.toNat<l.length by omega)) hu h0 hv
def ZiJ{w r:au}(h:r=Z04 w):r.All.length=w.All.length/\r.S.Objects.length=w.S.Objects.length/\r.L.length=w.L.length/\r.Begun.length=w.Begun.length/\r.Sets.length=w.Sets.length/\r.Blank.length=w.Blank.length:=by subst h;exact⟨O4,rfl,rfl,rfl,rfl,rfl⟩
def NM{l sts:List Int}{r:Int}{N:Int->Int->Bool}(h:r=nxV l sts N)(hp:POS l)(hl:0<l.length):r∈l:=by obtain⟨x,hx⟩:=O5 hl;rw[h];exact(O6 ⟨x,hx,hp x hx⟩).1
def ZmA{l l':List Int}{i:Int}(h:l.Nodup)(e:l'=l.filter λy=>y != i):l'.Nodup:=by rw[e];exact h.filter _
def ZmB{n n':Nat}{l l':List Int}{i:Int}(h:INR n l)(e:l'=l.filter λy=>y != i)(hn:n'=n):INR n' l':=λk hk=>by subst hn;rw[e]at hk;exact h k (iO.1 hk).1
def O7{α:Type}{p:Int->α->Bool}{l:List α}{v:Int}{z:List Int}(h:z=zfm p (λk _=>k) l v)(hv:(l.length:Int)<=v):INR l.length z:=λk hk=>by rw[h,mw rfl hv]at hk;obtain⟨j,x,h1,_,rfl⟩:=O8.1 hk;have:=(aL.1 h1).1;omega
def bs_l{L L':List bd}{st v:Int}{z:List Int}(h:z=zfm (λ_ f=>belR f st) (λk _=>k) L v)(e:L=L')(hv:(L.length:Int)<=v):(z.length:Int)=((belS L' st).length:Int):=by subst e;rw[mw h hv];rfl
def cr_L{w r:au}(h:r=Z04 w):r.L=w.L:=by rw[h];rfl
def rp_L{w r:au}(h:r.L=w.L){u:au}(g:w.L=u.L):r.L=u.L:=h.trans g
end Go.PW
set_option maxRecDepth 100000
namespace Go.PW
def idk(os:List aj)(k:Int):Int:=((os[k.toNat]?).map λo=>o.Id).getD 0
def ids(os:List aj)(l:List Int):List Int:=l.map (idk os)
def O9{os:List aj}(hs:bU os){a b:Int}(h0:0<=a)(h1:a<os.length)(g0:0<=b)(g1:b<os.length)(h:idk os a=idk os b):a=b:=by
 have ha:=bj (show a.toNat<os.length by omega);have hb:=bj (show b.toNat<os.length by omega);unfold idk at h;rw[ha,hb]at h;have h:os[a.toNat].Id=os[b.toNat].Id:=h;rcases nj a.toNat b.toNat with k|k|k
 .have:=hs _ _ _ _ k ha hb;omega
 .omega
 have:=hs _ _ _ _ k hb ha;omega
def Pa{os:List aj}(hs:bU os):∀{a b:List Int},INR os.length a->INR os.length b->ids os a=ids os b->a=b
 |[],[],_,_,_=>rfl
 |[],_::_,_,_,h=>by simp[ids]at h
 |_::_,[],_,_,h=>by simp[ids]at h
 |x::a,y::b,ha,hb,h=>by simp only[ids,ck,vY]at h;have h1:=ha x ay;have h2:=hb y ay;rw[O9 hs h1.1 h1.2 h2.1 h2.2 h.1,Pa hs (λk hk=>ha k (bY _ hk)) (λk hk=>hb k (bY _ hk)) h.2]
def ZmC{os:List aj}(hs:bU os){l:List Int}(hl:INR os.length l){k:Nat}{o:aj}(ho:os[k]?=some o):o.Id∈ids os l↔(k:Int)∈l:=by
 have hk:=(aL.1 ho).1;have e:idk os k=o.Id:=by unfold idk;rw[lD,ho];rfl
 unfold ids;rw[iL];constructor
 .rintro ⟨j,hj,h⟩;have:=hl j hj;rw[<- O9 hs this.1 this.2 O O (h.trans e.symm)];exact hj
 intro h;exact⟨k,h,e⟩
def ZmD{os:List aj}{p:Int->aj->Bool}{v:Int}:ids os (zfm p (λk _=>k) os v)=zfm p (λ_ o=>o.Id) os v:=by
 unfold ids zfm;rw[oz];refine Bm λq hq=>?_;have h:=(iO.1 hq).1;obtain⟨x,k⟩:=q;have h:=Bt.1 h;show idk os (k:Int)=x.Id;have:os[k]?=some x:=by
  rw[jw]at h;split at h
  .exact h
  cases h
 unfold idk;rw[lD,this];rfl
def ZmE{os:List aj}{p:Int->aj->Bool}:INR os.length (zfm p (λk _=>k) os os.length):=λy hy=>by obtain⟨k,x,h1,_,rfl⟩:=O8.1 hy;have:=(aL.1 h1).1;omega
def oE{w:ak}{W:au}(h:w.forces=W.L.map toL)(i:Int):fAt w i=toL (gAt W i):=by unfold fAt gAt;rw[h,jF];cases W.L[i.toNat]?<;>rfl
def oF{l:List Bool}{i j:Int}{v:Bool}(h0:0<=i)(g0:0<=j)(h1:i<l.length):bA (l.set i.toNat v) j=if j=i then v else bA l j:=by
 unfold bA;rw[vZ];by_cases h:j=i
 .subst h;rw[ar rfl,ar rfl,ar O];rfl
 rw[aw h,aw O]
def wa{l:List (List Int)}{i j:Int}{v:List Int}(h0:0<=i)(g0:0<=j)(h1:i<l.length):hA (l.set i.toNat v) j=if j=i then v else hA l j:=by
 unfold hA;rw[vZ];by_cases h:j=i
 .subst h;rw[ar rfl,ar rfl,ar O];rfl
 rw[aw h,aw O]
def Stt(w:ak)(W:au)(i:Int):Prop:=(bA w.done i=bA W.Begun i/\(bA w.done i=true->ids w.s.Objects (hA w.hits i)=hA W.Sets i))\/(bA w.done i=true/\hA w.hits i=[]/\cx W i=false)
structure SIM (w:ak) (W:au):Prop where
 s:w.s=W.S
 f:w.forces=W.L.map toL
 t:w.traits=W.All
 d:w.dropped=W.Blank
 ld:w.done.length=w.forces.length
 lh:w.hits.length=w.forces.length
 lb:W.Begun.length=W.L.length
 ls:W.Sets.length=W.L.length
 so:bU w.s.Objects
 hi:∀i:Int,0<=i->i<w.forces.length->(hA w.hits i).Nodup/\INR w.s.Objects.length (hA w.hits i)
 st:∀i:Int,0<=i->i<w.forces.length->Stt w W i
 ty:∀x,x∈w.traits->0<=x.Line.Types/\x.Line.Types<=63
def SIM.len{w:ak}{W:au}(h:SIM w W):w.forces.length=W.L.length:=by rw[h.f,cN]
def SIM.you{w:ak}{W:au}(h:SIM w W)(i:Int):dv w i=eJ W i:=by
 unfold dv eJ;rw[oE h.f,h.s,h.t];show(if(gAt W i).Fixed=false/\0<=ixO W.S.Objects (gAt W i).Source then _ else(gAt W i).Control)=_;by_cases h1:(gAt W i).Fixed=true
 .rw [aw (by rw[h1];simp),ar (.inl h1)]
 by_cases h2:ixO W.S.Objects (gAt W i).Source<0
 .rw [aw O,ar (.inr h2)]
 rw[ar ⟨by simpa using h1,by omega⟩,aw (λk=>k.elim h1 (λe=>h2 e))];rfl
def SIM.act{w:ak}{W:au}(h:SIM w W){i:Int}(e:bA w.done i=bA W.Begun i):dB w i=cx W i:=by unfold dB cx;rw[oE h.f,h.s,h.d,e];rfl
def ZmF{w:ak}{W:au}(h:SIM w W)(i:Int):gU w (fAt w i) (dv w i)=ig W (gAt W i) (eJ W i):=by funext k o;unfold gU ig;rw[h.you,oE h.f,h.t];rfl
def SIM.aff{w:ak}{W:au}(h:SIM w W){i:Int}(h0:0<=i)(h1:i<w.forces.length):ids w.s.Objects (cg w i)=cR W i:=by
 rcases h.st i h0 h1 with⟨e,g⟩|⟨a,b,c⟩
 .unfold cg cR;rw[<- e];cases hd:bA w.done i with
  |true=>exact g hd
  |false=>
   rw[h.act e];cases cx W i with
   |false=>rfl
   |true=>
    rw[aw bF,ar rfl,aw bF,ar rfl,ZmD,ZmF h,h.s]
 have hb:bA W.Begun i=false:=by
  unfold cx at c;cases hb:bA W.Begun i with
  |false=>rfl
  |true=>rw[hb]at c;simp at c
 unfold cg cR;rw[a,hb,c,b];rfl
def SIM.affn{w:ak}{W:au}(h:SIM w W){i:Int}(h0:0<=i)(h1:i<w.forces.length):(cg w i).Nodup/\INR w.s.Objects.length (cg w i):=by
 unfold cg;cases bA w.done i with
 |true=>exact h.hi i h0 h1
 |false=>
  cases dB w i with
  |true=>exact⟨Bu,ZmE⟩
  |false=>exact⟨mm,se⟩
structure CHG (st:Int) (t t':ab):Prop where
 cost:t'.Cost=t.Cost
 ctl:st≠1->t'.Control=t.Control
 lin:st≠2->t'.Line=t.Line
 col:st≠3->t'.Colors=t.Colors
 key:st≠4->t'.Keys=t.Keys
 pt:st<5->t'.Power=t.Power/\t'.Tough=t.Tough
def CHG.refl(st:Int)(t:ab):CHG st t t:=⟨rfl,λ_=>rfl,λ_=>rfl,λ_=>rfl,λ_=>rfl,λ_=>⟨rfl,rfl⟩⟩
def CHG.trans{st:Int}{a b c:ab}(h:CHG st a b)(g:CHG st b c):CHG st a c:=⟨g.cost.trans h.cost,λk=>(g.ctl k).trans (h.ctl k),λk=>(g.lin k).trans (h.lin k),λk=>(g.col k).trans (h.col k),λk=>(g.key k).trans (h.key k),λk=>⟨(g.pt k).1.trans (h.pt k).1,(g.pt k).2.trans (h.pt k).2⟩⟩
def ZmG(t:ab)(m:af)(you n:Int):CHG (stV m.Kind) t (apV t m you n):=by
 unfold apV;by_cases h0:mdV m=false
 .rw [ar h0];exact .refl _ t
 rw[aw h0];by_cases h1:m.Kind=1
 .rw [ar h1,h1];exact⟨rfl,λk=>absurd rfl k,λ_=>rfl,λ_=>rfl,λ_=>rfl,λ_=>⟨rfl,rfl⟩⟩
 rw[aw h1];by_cases h2:m.Kind=2
 .rw [ar h2,h2];exact⟨rfl,λ_=>rfl,λk=>absurd rfl k,λ_=>rfl,λ_=>rfl,λ_=>⟨rfl,rfl⟩⟩
 rw[aw h2];by_cases h3:m.Kind=3
 .rw [ar h3,h3];exact⟨rfl,λ_=>rfl,λk=>absurd rfl k,λ_=>rfl,λ_=>rfl,λ_=>⟨rfl,rfl⟩⟩
 rw[aw h3];by_cases h4:m.Kind=4
 .rw [ar h4,h4];exact⟨rfl,λ_=>rfl,λk=>absurd rfl k,λ_=>rfl,λ_=>rfl,λ_=>⟨rfl,rfl⟩⟩
 rw[aw h4];by_cases h5:m.Kind=5
 .rw [ar h5,h5];exact⟨rfl,λ_=>rfl,λk=>absurd rfl k,λ_=>rfl,λ_=>rfl,λ_=>⟨rfl,rfl⟩⟩
 rw[aw h5];by_cases h6:m.Kind=6
 .rw [ar h6,h6];exact⟨rfl,λ_=>rfl,λ_=>rfl,λk=>absurd rfl k,λ_=>rfl,λ_=>⟨rfl,rfl⟩⟩
 rw[aw h6];by_cases h7:m.Kind=7
 .rw [ar h7,h7];exact⟨rfl,λ_=>rfl,λ_=>rfl,λk=>absurd rfl k,λ_=>rfl,λ_=>⟨rfl,rfl⟩⟩
 rw[aw h7];by_cases h8:m.Kind=8
 .rw [ar h8,h8];exact⟨rfl,λ_=>rfl,λ_=>rfl,λ_=>rfl,λk=>absurd rfl k,λ_=>⟨rfl,rfl⟩⟩
 rw[aw h8];by_cases h9:m.Kind=9
 .rw [ar h9,h9];exact⟨rfl,λ_=>rfl,λ_=>rfl,λ_=>rfl,λk=>absurd rfl k,λ_=>⟨rfl,rfl⟩⟩
 rw[aw h9];by_cases h10:m.Kind=10
 .rw [ar h10,h10];exact⟨rfl,λ_=>rfl,λ_=>rfl,λ_=>rfl,λk=>absurd rfl k,λ_=>⟨rfl,rfl⟩⟩
 rw[aw h10];by_cases h11:m.Kind=11
 .rw [ar h11,h11];exact⟨rfl,λ_=>rfl,λ_=>rfl,λ_=>rfl,λ_=>rfl,λk=>absurd k bF⟩
 rw[aw h11];by_cases h12:m.Kind=12
 .rw [ar h12,h12];exact⟨rfl,λ_=>rfl,λ_=>rfl,λ_=>rfl,λ_=>rfl,λk=>absurd k bF⟩
 rw[aw h12];by_cases h13:m.Kind=13
 .rw [ar h13,h13];exact⟨rfl,λ_=>rfl,λ_=>rfl,λ_=>rfl,λ_=>rfl,λk=>absurd k bF⟩
 rw[aw h13];by_cases h14:m.Kind=14
 .rw [ar h14,h14];exact⟨rfl,λ_=>rfl,λ_=>rfl,λ_=>rfl,λ_=>rfl,λk=>absurd k bF⟩
 rw[aw h14];exact .refl _ t
def mfC(g:af->Int)(you st:Int)(t:ab)(m:af):ab:=if stV m.Kind=st then apV t m you (g m)else t
def Pb(g:af->Int)(you st:Int):∀(ms:List af) (t:ab),CHG st t (ms.foldl (mfC g you st) t)
 |[],t =>.refl _ t
 |m::ms,t=>by
  rw[jO];refine CHG.trans ?_ (Pb g you st ms _);unfold mfC;split
  .rename_i h;rw[<- h];exact ZmG ..
  exact .refl _ t
def ZmH(g:af->Int)(you st:Int)(ms:List af)(t:ab):mfS ms (ms.map g) you st ms.length t=ms.foldl (mfC g you st) t:=by
 unfold mfS;rw[da (show ms.length<=((ms.length:Int)).toNat by omega)];have key:∀(l:List af) (pre:List Int) (t:ab),(l.zipIdx pre.length).foldl (λt q=>if stV q.1.Kind=st then apV t q.1 you (((pre++l.map g)[q.2]?).getD 0)else t) t=l.foldl (mfC g you st) t:=by
  intro l;induction l with
  |nil=>intro pre t;rfl
  |cons m l ih=>
   intro pre t;rw[wb,jO,jO];have e:((pre++(m::l).map g)[pre.length]?).getD 0=g m:=by rw[er (bk _),vO];rfl
   have:=ih (pre++[g m]) (mfC g you st t m);rw[bm,nr,hH]at this;show(List.zipIdx l (pre.length+1)).foldl _ (if stV m.Kind=st then apV t m you (((pre++(m::l).map g)[pre.length]?).getD 0)else t)=_;rw[e];exact this
 exact key ms [] t
def ZmI(g:af->Int)(you st:Int)(ms:List af)(t:ab):mfR ms ((ms.filter λm=>stV m.Kind==st).map g) you st t=ms.foldl (mfC g you st) t:=by
 unfold mfR;have key:∀(l:List af) (pre:List Int) (t:ab),(l.foldl (mfR1 (pre++(l.filter λm=>stV m.Kind==st).map g) you st) (t,(pre.length:Int))).1=l.foldl (mfC g you st) t:=by
  intro l;induction l with
  |nil=>intro pre t;rfl
  |cons m l ih=>
   intro pre t;rw[jO,jO,gP];by_cases h:stV m.Kind=st
   .rw [ar iU];have:=ih (pre++[g m]) (apV t m you (g m));rw[hH,bm,nr]at this;have e:mfR1 (pre++((m::l.filter λm=>stV m.Kind==st).map g)) you st (t,(pre.length:Int)) m=(apV t m you (g m),((pre.length+1:Nat):Int)):=by
     unfold mfR1;rw[ar h];simp only[lD];rw[er (bk _),vO];rfl
    rw[e];unfold mfC;rw[ar h];exact this
   rw[aw iU];have e:∀ns,mfR1 ns you st (t,(pre.length:Int)) m=(t,(pre.length:Int)):=λns=>by unfold mfR1;rw[aw h]
   rw[e];unfold mfC;rw[aw h];exact ih pre t
 exact key ms [] t
def ZmJ(ms:List af)(st:Int)(b:Bool):drS ms st ms.length b=(b||drR ms st):=by unfold drS drR;rw[da (show ms.length<=((ms.length:Int)).toNat by omega)]
def and0(h:Int):aR .and .i64 h 0=0:=by unfold aR;show IntKind.wrap .i64 (((BitVec.ofInt 64 h &&& BitVec.ofInt 64 0).toNat:Nat):Int)=0;rw[show BitVec.ofInt 64 0=0#64 from rfl,BitVec.and_zero];rfl
def wc(h:Int):gV h 0 0=true:=by unfold gV;rw[and0];rfl
def ZmK:∀a b:Fin 64,(aR .or .i64 (a.val:Int) (b.val:Int)=0->a.val=0/\b.val=0)/\(0<=aR .or .i64 (a.val:Int) (b.val:Int)/\aR .or .i64 (a.val:Int) (b.val:Int)<=63):=by decide+kernel
def or_0{a b:Int}(ha:0<=a)(ha':a<=63)(hb:0<=b)(hb':b<=63):(aR .or .i64 a b=0->a=0/\b=0)/\(0<=aR .or .i64 a b/\aR .or .i64 a b<=63):=by have:=ZmK ⟨a.toNat,by omega⟩ ⟨b.toNat,by omega⟩;simp only at this;rw[j9 ha,j9 hb]at this;exact⟨λh=>by have:=this.1 h;omega,this.2⟩
def wg{n m:Int}(h:btw n m=true):0<=n/\n<=m:=by unfold btw at h;simpa using h
def ZmL{f:al}(h:Z00 f=true):(0<=f.Types/\f.Types<=63)/\(0<=f.NotTypes/\f.NotTypes<=63)/\(0<=f.Colors/\f.Colors<=31)/\(0<=f.NotColors/\f.NotColors<=31):=by unfold Z00 at h;simp only[aO]at h;exact⟨wg h.2.2.2.2.2.1,wg h.2.2.2.2.2.2.1,wg h.2.2.2.2.2.2.2.2.1,wg h.2.2.2.2.2.2.2.2.2.1⟩
def bou0{b:ah}(h:b.Kind=0)(c:Bool)(n:Int):bouV c b n=true:=by unfold bouV;rw[h];rfl
def Pc{st you you' src:Int}{o:aj}{t t':ab}{f:al}(h:CHG st t t')(hs:fe f st=false)(h4:st≠4)(hy:st≠1->you'=you):gN o t' you' src f=gN o t you src f:=by
 unfold gN;cases hf:Z00 f with
 |false=>rfl
 |true=>
  obtain⟨⟨a1,a2⟩,⟨b1,b2⟩,⟨c1,c2⟩,⟨d1,d2⟩⟩:=ZmL hf;unfold fe at hs;have ek:Z4d t' f=Z4d t f:=by unfold Z4d;rw[h.key h4]
  by_cases e1:st=1
  .subst e1;have hw:f.Who=0:=by simpa using hs
   have e:∀a b,Z8s a b f.Who=true:=λa b=>by rw[hw];rfl
   unfold eW ff fM;rw[e,e,h.lin bF,h.col bF,ek,(h.pt bF).1,(h.pt bF).2,h.cost]
  rw[aw e1]at hs;rw[h.ctl e1,hy e1];by_cases e2:st=2
  .subst e2;rw[ar rfl]at hs;have hs:=Pd hs;have z1:aR .or .i64 f.Types f.NotTypes=0:=jg λk=>hs (.inl k);have z2:f.Sub=[]:=jg λk=>hs (.inr (.inl k));have z3:f.Power.Kind=0:=jg λk=>hs (.inr (.inr (.inl k)));have z4:f.Tough.Kind=0:=jg λk=>hs (.inr (.inr (.inr k)));obtain⟨y1,y2⟩:=(or_0 a1 a2 b1 b2).1 z1;have es:∀u,fM u f=true:=λu=>by unfold fM;rw[z2];rfl
   have ee:eW t' f=eW t f:=Pe
   rw[y1,y2,wc,wc,es,es,ee,ek,h.col bF]
  rw[aw e2]at hs;have el:=h.lin e2;by_cases e3:st=3
  .subst e3;rw[ar rfl]at hs;have z1:aR .or .i64 f.Colors f.NotColors=0:=by simpa using hs
   obtain⟨y1,y2⟩:=(or_0 c1 O d1 O).1 z1;have ee:eW t' f=eW t f:=by unfold eW ff;rw[el,(h.pt bF).1,(h.pt bF).2,h.cost]
   have es:fM t' f=fM t f:=by unfold fM;rw[el]
   rw[y1,y2,wc,wc,es,ee,ek,el]
  rw[aw e3,aw h4]at hs;have hs:=Pd hs;have z3:f.Power.Kind=0:=jg λk=>hs (.inl k);have z4:f.Tough.Kind=0:=jg λk=>hs (.inr k);have ee:eW t' f=eW t f:=Pe
  have es:fM t' f=fM t f:=by unfold fM;rw[el]
  rw[es,ee,ek,el,h.col e3]
def Bv{st:Int}{l:List ab}{g:Nat->ab->ab}(h:∀j x,CHG st x (g j x))(k:Int):CHG st (trV l k) (trV (l.mapIdx g) k):=by
 unfold trV;by_cases hk:k<0
 .rw [ar hk,ar hk];exact .refl _ _
 rw[aw hk,aw hk,dL];cases l[k.toNat]? with
 |none=>exact .refl _ _
 |some x=>exact h _ x
def HOK(w:ak)(j:Int):Prop:=(cg w j).Nodup/\INR w.s.Objects.length (cg w j)
def gT(w:ak)(j st:Int)(k:Nat)(t:ab):ab:=if(k:Int)∈cg w j then(fAt w j).Mods.foldl (mfC (gb w.s w.traits (dv w j) (fAt w j).Source st) (dv w j) st) t else t
def gD(w:ak)(j st:Int)(k:Nat)(b:Bool):Bool:=if(k:Int)∈cg w j then(b||drR (fAt w j).Mods st)else b
def ap_t{w:ak}{j st:Int}(h:HOK w j):(b7 w j st).traits=w.traits.mapIdx (gT w j st):=by
 unfold b7;simp only;rw[Bw _ _ (λk hk=>(h.2 k hk).1) h.1];refine gx λk=>?_;rw[dL,dL];cases w.traits[k]? with
 |none=>rfl
 |some x=>
  dsimp only[Option.map_some];unfold gT gd;rw[ZmH]
def ap_d{w:ak}{j st:Int}(h:HOK w j):(b7 w j st).dropped=w.dropped.mapIdx (gD w j st):=by
 unfold b7;simp only;rw[Bw _ _ (λk hk=>(h.2 k hk).1) h.1];refine gx λk=>?_;rw[dL,dL];cases w.dropped[k]? with
 |none=>rfl
 |some x=>
  dsimp only[Option.map_some];unfold gD;rw[ZmJ]
def Bx(w:ak)(j st:Int)(k:Nat)(t:ab):CHG st t (gT w j st k t):=by
 unfold gT;split
 .exact Pb ..
 exact .refl _ _
def dr_4{ms:List af}{st:Int}(h:st≠4):drR ms st=false:=by unfold drR;rw[Pf];intro m _ hm;simp only[aO,lz]at hm;rw[hm.1]at hm;exact h (hm.2.symm.trans rfl)
def ZmM{l:List Bool}{g:Nat->Bool->Bool}{k:Int}(h:∀j b,g j b=b):bA (l.mapIdx g) k=bA l k:=by
 unfold bA;rw[dL];cases l[k.toNat]? with
 |none=>rfl
 |some b=>show g _ b=b;exact h _ b
def Pg{w:ak}{i j st:Int}(h:HOK w j)(hs:st≠1):dv (b7 w j st) i=dv w i:=by
 have e:∀k,(trV (b7 w j st).traits k).Control=(trV w.traits k).Control:=λk=>by rw[ap_t h];exact(Bv (Bx w j st) k).ctl hs
 unfold dv;rw[show fAt (b7 w j st) i=fAt w i from rfl,show(b7 w j st).s=w.s from rfl,e]
def Ph{α γ:Type}{p p':Nat->α->Bool}{q:α->γ}(h:∀i x,p' i x=p i x):∀(xs:List α) (i:Nat),Z0a p' q i xs=Z0a p q i xs
 |[],_=>rfl
 |x::xs,i=>by show(bif p' i x then _ else _)=(bif p i x then _ else _);rw[h,Ph h xs (i+1)]
def ZmN{α β:Type}{p p':Int->α->Bool}{f:Int->α->β}{l:List α}{v:Int}(h:∀k x,p' k x=p k x):zfm p' f l v=zfm p f l v:=by
 have:p'=p:=by funext k x;exact h k x
 rw[this]
def Pi(l:List ab)(i:Nat):atV l i=trV l i:=by unfold atV trV;rw[aw O,lD]
def ZmO{w:ak}{i j st:Int}(h:HOK w j)(hi:0<=i)(hj:0<=j)(hj1:j<w.done.length)(hj2:j<w.hits.length)(hne:i≠j)(hd:eX w i st=false):fN (b7 w j st) i st=fN w i st:=by
 have ef:fAt (b7 w j st) i=fAt w i:=rfl;have es:(b7 w j st).s=w.s:=rfl;have edn:bA (b7 w j st).done i=bA w.done i:=by show bA (w.done.set j.toNat true) i=_;rw[oF hj hi hj1,aw hne]
 have ehh:hA (b7 w j st).hits i=hA w.hits i:=by show hA (w.hits.set j.toNat _) i=_;rw[wa hj hi hj2,aw hne]
 unfold eX at hd;rw[Bz]at hd;obtain⟨hm,hf⟩:=hd;have ea:dB (b7 w j st) i=dB w i:=by
  unfold dB;rw[ef,es,edn];cases hF:(fAt w i).Fixed with
  |true=>simp
  |false=>
   cases hD:bA w.done i with
   |true=>simp
   |false=>
    rw[hF,hD]at hf;have h4:st≠4:=λe=>by rw[e]at hf;simp at hf
    rw[ap_d h,ZmM λk b=>by unfold gD;rw[dr_4 h4];simp]
 have eaf:cg (b7 w j st) i=cg w i:=by
  unfold cg;rw[edn,ehh,ea,es,ef];cases hD:bA w.done i with
  |true=>rfl
  |false=>
   simp only[eT,ft];cases dB w i with
   |false=>rfl
   |true=>
    simp only[dO];refine ZmN λk o=>?_;unfold gU;cases hF:(fAt w i).Fixed with
    |true=>simp
    |false=>
     rw[hF,hD]at hf;simp only[fO,fD,Bz,oG]at hf;rw[ap_t h,Pc (Bv (Bx w j st) k) hf.2 hf.1 λe=>Pg h e]
 have en:gd (b7 w j st) i st=gd w i st:=by
  unfold gd;rw[ef,es];refine Bm λm hmm=>?_;have hm:=Pf.1 hm m hmm;unfold gb;by_cases hc:m.Kind=11/\stV m.Kind=st
  .rw [ar hc,ar hc];have hs5:st=5:=by rw[<- hc.2,hc.1];rfl
   have hsn:fe m.Filter st=false:=by
    cases hk:fe m.Filter st with
    |false=>rfl
    |true=>exact absurd (by rw[hc.2,hc.1,hk];simp) hm
   have e1:st≠1:=by rw[hs5];decide
   have e4:st≠4:=by rw[hs5];decide
   rw[Pg h e1];unfold Z2m;rw[Ph (p:=mat w.traits (dv w i) (fAt w i).Source m.Filter) λk x=>by unfold mat;rw[Pi,Pi,ap_t h];exact Pc (Bv (Bx w j st) k) hsn e4 λ_=>rfl]
  rw[aw hc,aw hc]
 unfold fN;rw[ea,eaf,en]
def ZmP{t:ab}{m:af}{you n:Int}(h:0<=t.Line.Types/\t.Line.Types<=63):0<=(apV t m you n).Line.Types/\(apV t m you n).Line.Types<=63:=by
 unfold apV;by_cases h0:mdV m=false
 .rw [ar h0];exact h
 rw[aw h0];have hk:∀(_:m.Kind=2\/m.Kind=3),0<=m.N/\m.N<=63:=λe=>by
  have h1:mdV m=true:=by simpa using h0
  unfold mdV mdK at h1;rw[ar e]at h1;simp only[aO]at h1;have:=h1.2.2.1;unfold inB at this;have:=j7 this;omega
 by_cases h1:m.Kind=1
 .rw [ar h1];exact h
 rw[aw h1];by_cases h2:m.Kind=2
 .rw [ar h2];exact hk (.inl h2)
 rw[aw h2];by_cases h3:m.Kind=3
 .rw [ar h3];have:=hk (.inr h3);exact(or_0 h.1 h.2 this.1 this.2).2
 rw[aw h3];by_cases h4:m.Kind=4
 .rw [ar h4];exact h
 rw[aw h4];by_cases h5:m.Kind=5
 .rw [ar h5];show 0<=(lnV t.Line m.Sub).Types/\(lnV t.Line m.Sub).Types<=63;have:(lnV t.Line m.Sub).Types=t.Line.Types:=by unfold lnV;split<;>rfl
  rw[this];exact h
 rw[aw h5];by_cases h6:m.Kind=6
 .rw [ar h6];exact h
 rw[aw h6];by_cases h7:m.Kind=7
 .rw [ar h7];exact h
 rw[aw h7];by_cases h8:m.Kind=8
 .rw [ar h8];exact h
 rw[aw h8];by_cases h9:m.Kind=9
 .rw [ar h9];exact h
 rw[aw h9];by_cases h10:m.Kind=10
 .rw [ar h10];exact h
 rw[aw h10];by_cases h11:m.Kind=11
 .rw [ar h11];exact h
 rw[aw h11];by_cases h12:m.Kind=12
 .rw [ar h12];exact h
 rw[aw h12];by_cases h13:m.Kind=13
 .rw [ar h13];exact h
 rw[aw h13];by_cases h14:m.Kind=14
 .rw [ar h14];exact h
 rw[aw h14];exact h
def Pj(g:af->Int)(you st:Int):∀(ms:List af) (t:ab),(0<=t.Line.Types/\t.Line.Types<=63)->0<=(ms.foldl (mfC g you st) t).Line.Types/\(ms.foldl (mfC g you st) t).Line.Types<=63
 |[],t,h=>h
 |m::ms,t,h=>by
  rw[jO];refine Pj g you st ms _ ?_;unfold mfC;split
  .exact ZmP h
  exact h
def Pk{α β:Type}{g:Nat->α->β}{l:List α}{y:β}(h:y∈l.mapIdx g):∃k x,l[k]?=some x/\y=g k x:=by
 obtain⟨k,hk⟩:=List.mem_iff_getElem?.1 h;rw[dL]at hk;cases hx:l[k]? with
 |none=>rw[hx]at hk;cases hk
 |some x=>rw[hx]at hk;exact⟨k,x,hx,(cA hk).symm⟩
def SIM.hok{w:ak}{W:au}(h:SIM w W){i:Int}(h0:0<=i)(h1:i<w.forces.length):HOK w i:=h.affn h0 h1
def SIM.num{w:ak}{W:au}(h:SIM w W)(i st:Int):fy W i st=((gAt W i).Mods.filter λm=>stV m.Kind==st).map (gb w.s w.traits (dv w i) (gAt W i).Source st):=by unfold fy;rw[h.s,h.t,h.you]
def SIM.idle{w:ak}{W:au}(h:SIM w W){i:Int}(h0:0<=i)(h1:i<w.forces.length)(ha:cx W i=false):cg w i=[]:=by
 unfold cg;rcases h.st i h0 h1 with⟨e,_⟩|⟨a,b,_⟩
 .have hb:bA W.Begun i=false:=by
   unfold cx at ha;cases hb:bA W.Begun i with
   |false=>rfl
   |true=>rw[hb]at ha;simp at ha
  rw[e,hb,h.act e,ha];rfl
 rw[a,b];rfl
def Pl{W:au}{i j st:Int}(hi:0<=i)(hj:0<=j)(hj1:j<W.Begun.length)(hne:i≠j)(h:cx W i=false):cx (cQ W j st) i=false:=by
 unfold cQ;split
 .unfold cx at *;simp only[Bz]at h⊢;obtain⟨⟨⟨a,b⟩,c⟩,d⟩:=h;refine⟨⟨⟨a,?_⟩,c⟩,?_⟩
  .show bA (W.Begun.set j.toNat true) i=false;rw[oF hj hi hj1,aw hne];exact b
  show(!bA (W.Blank.mapIdx _) _)=false;have d:bA W.Blank (ixO W.S.Objects (gAt W i).Source)=true:=by simpa using d
  have:bA (W.Blank.mapIdx λk b=>if inS W.S.Objects (cR W j) k&&drR (gAt W j).Mods st then true else b) (ixO W.S.Objects (gAt W i).Source)=true:=by
   unfold bA at *;rw[dL];cases hx:W.Blank[(ixO W.S.Objects (gAt W i).Source).toNat]? with
   |none=>rw[hx]at d;cases d
   |some b=>
    rw[hx]at d;have d:b=true:=d;subst d;show(if _ then true else true)=true;split<;>rfl
  show(!bA (W.Blank.mapIdx λk b=>if inS W.S.Objects (cR W j) k&&drR (gAt W j).Mods st then true else b) (ixO W.S.Objects (gAt W i).Source))=false;rw[this];rfl
 exact h
def SIM.app{w:ak}{W:au}(h:SIM w W){j:Int}(st:Int)(h0:0<=j)(h1:j<w.forces.length):SIM (b7 w j st) (cQ W j st):=by
 have hok:=h.hok h0 h1;have hl:=h.len;have hbl:j<W.Begun.length:=by have:=h.lb;omega
 have hsl:j<W.Sets.length:=by have:=h.ls;omega
 have hdl:j<w.done.length:=by have:=h.ld;omega
 have hhl:j<w.hits.length:=by have:=h.lh;omega
 have hty:∀x,x∈(b7 w j st).traits->0<=x.Line.Types/\x.Line.Types<=63:=λx hx=>by
  rw[ap_t hok]at hx;obtain⟨k,y,hy,rfl⟩:=Pk hx;have:=h.ty y (bH hy);unfold gT;split
  .exact Pj _ _ _ _ _ this
  exact this
 have hhi:∀i:Int,0<=i->i<w.forces.length->(hA (b7 w j st).hits i).Nodup/\INR w.s.Objects.length (hA (b7 w j st).hits i):=λi i0 i1=>by
  show(hA (w.hits.set j.toNat (cg w j)) i).Nodup/\INR w.s.Objects.length (hA (w.hits.set j.toNat (cg w j)) i);rw[wa h0 i0 hhl];split
  .exact hok
  exact h.hi i i0 i1
 have hdn:∀i:Int,0<=i->bA (b7 w j st).done i=if i=j then true else bA w.done i:=λi i0=>oF h0 i0 hdl;have hht:∀i:Int,0<=i->hA (b7 w j st).hits i=if i=j then cg w j else hA w.hits i:=λi i0=>wa h0 i0 hhl;cases ha:cx W j with
 |false=>
  have hW:cQ W j st=W:=by unfold cQ;rw[ha];rfl
  have he:=h.idle h0 h1 ha;rw[hW];have et:(b7 w j st).traits=w.traits:=by unfold b7;rw[he];rfl
  have ed:(b7 w j st).dropped=w.dropped:=by unfold b7;rw[he];rfl
  exact⟨h.s,h.f,et.trans h.t,ed.trans h.d,ez.trans h.ld,ez.trans h.lh,h.lb,h.ls,h.so,hhi,λi i0 i1=>by
   by_cases hij:i=j
   .subst hij;exact .inr ⟨by rw[hdn i i0,ar rfl],by rw[hht i i0,ar rfl];exact he,ha⟩
   unfold Stt;rw[hdn i i0,hht i i0,aw hij,aw hij];exact h.st i i0 i1,hty⟩
 |true=>
  have hAf:=h.aff h0 h1;have hW:cQ W j st=⟨W.S,W.All.mapIdx λk t=>if inS W.S.Objects (cR W j) k then mfR (gAt W j).Mods (fy W j st) (eJ W j) st t else t,W.L,W.Begun.set j.toNat true,W.Sets.set j.toNat (cR W j),W.Blank.mapIdx λk b=>if inS W.S.Objects (cR W j) k&&drR (gAt W j).Mods st then true else b⟩:=by unfold cQ;rw[ha];rfl
  have hin:∀k:Nat,inS W.S.Objects (cR W j) k=decide ((k:Int)∈cg w j):=λk=>by
   unfold inS;rw[<- hAf,<- h.s];cases ho:w.s.Objects[k]? with
   |none=>
    have hk:=sf.1 ho
    symm
    exact bn λhm=>by have:=hok.2 _ hm;omega
   |some o=>show(ids w.s.Objects (cg w j)).contains o.Id=_;rw[List.contains_eq_mem];exact sg.2 (ZmC h.so hok.2 ho)
  have et:(b7 w j st).traits=(cQ W j st).All:=by
   rw[ap_t hok,hW,h.t];refine gx λk=>?_;rw[dL,dL];cases W.All[k]? with
   |none=>rfl
   |some x=>
    show some (gT w j st k x)=some (if inS W.S.Objects (cR W j) k then mfR (gAt W j).Mods (fy W j st) (eJ W j) st x else x);unfold gT;rw[hin k,h.num,ZmI,<- h.you,oE h.f];by_cases hm:(k:Int)∈cg w j
    .rw [ar hm,ar (bh hm)];rfl
    rw[aw hm,aw yy]
  have ed:(b7 w j st).dropped=(cQ W j st).Blank:=by
   rw[ap_d hok,hW,h.d];refine gx λk=>?_;rw[dL,dL];cases W.Blank[k]? with
   |none=>rfl
   |some b=>
    show some (gD w j st k b)=some (if inS W.S.Objects (cR W j) k&&drR (gAt W j).Mods st then true else b);unfold gD;rw[hin k,oE h.f];show some (if(k:Int)∈cg w j then(b||drR (gAt W j).Mods st)else b)=_;by_cases hm:(k:Int)∈cg w j
    .rw [ar hm,bh hm];cases drR (gAt W j).Mods st<;>cases b<;>rfl
    rw[aw hm,bn hm];rfl
  have hb:∀i:Int,0<=i->bA (cQ W j st).Begun i=if i=j then true else bA W.Begun i:=λi i0=>by rw[hW];exact oF h0 i0 hbl
  have hS:∀i:Int,0<=i->hA (cQ W j st).Sets i=if i=j then cR W j else hA W.Sets i:=λi i0=>by rw[hW];exact wa h0 i0 hsl
  refine⟨by rw[hW];exact h.s,by rw[hW];exact h.f,et,ed,ez.trans h.ld,ez.trans h.lh,by rw[hW];exact ez.trans h.lb,by rw[hW];exact ez.trans h.ls,h.so,hhi,λi i0 i1=>?_,hty⟩;by_cases hij:i=j
  .subst hij;refine .inl ⟨by rw[hdn i i0,hb i i0,ar rfl,ar rfl],λ_=>?_⟩;rw[hht i i0,hS i i0,ar rfl,ar rfl];exact hAf
  rcases h.st i i0 i1 with⟨e,g⟩|⟨a,b,c⟩
  .refine .inl ⟨by rw[hdn i i0,hb i i0,aw hij,aw hij];exact e,λk=>?_⟩;rw[hdn i i0,aw hij]at k;rw[hht i i0,hS i i0,aw hij,aw hij];exact g k
  exact .inr ⟨by rw[hdn i i0,aw hij];exact a,by rw[hht i i0,aw hij];exact b,Pl i0 h0 hbl hij c⟩
def Pm{n:Nat}{i:Int}:bA (List.replicate n false) i=false:=by unfold bA;rw[Pn];split<;>rfl
def ZmQ{n:Nat}{i:Int}:hA (List.replicate n []) i=[]:=by unfold hA;rw[Pn];split<;>rfl
def SIM.beg{cards:List aq}{s:av}(hc:∀c,c∈cards->ik c)(hs:bU s.Objects):SIM (begV cards s) (begR cards s) where
 s:=rfl
 f:=ZmR cards s
 t:=rfl
 d:=rfl
 ld:=j6
 lh:=j6
 lb:=j6
 ls:=j6
 so:=hs
 hi:=λi _ _=>by
  have:hA (begV cards s).hits i=[]:=ZmQ
  rw[this];exact⟨mm,se⟩
 st:=λi _ _=>by
  have a:bA (begV cards s).done i=false:=Pm
  have b:bA (begR cards s).Begun i=false:=Pm
  exact .inl ⟨by rw[a,b],λh=>by rw[a]at h;cases h⟩
 ty:=λx hx=>by
  obtain⟨o,_,rfl⟩:=iL.1 hx
  have:=ZmS hc o
  exact⟨this.1,this.2.1⟩
def ZmT{o:aj}{t:ab}(h:0<=t.Line.Types/\t.Line.Types<=63):Z02 o t=cnuT o t:=by
 unfold Z02 cnuT;have:=ZmU h.1 h.2;by_cases hz:o.Zone=0/\¬aR .and .i64 t.Line.Types 1=0
 .rw [ar hz,ar ⟨hz.1,this.2 hz.2⟩]
 rw[aw hz,aw λk=>hz ⟨k.1,this.1 k.2⟩]
def ZmV(o:aj)(t:ab):(Z02 o t).Line=t.Line:=by unfold Z02;split<;>rfl
def SIM.cnt{w:ak}{W:au}(h:SIM w W):SIM (Z8u w) (Z04 W) where
 s:=h.s
 f:=h.f
 t:=by
  show w.traits.mapIdx (im w.s.Objects)=W.All.mapIdx (Z8v W.S.Objects)
  rw[<- h.t,<- h.s]
  refine gx λk=>?_
  rw[dL,dL]
  cases hx:w.traits[k]? with
  |none=>rfl
  |some x=>
   show some (im _ k x)=some (Z8v _ k x)
   unfold im Z8v
   cases w.s.Objects[k]? with
   |none=>rfl
   |some o=>show some (Z02 o x)=some (cnuT o x);rw[ZmT (h.ty x (bH hx))]
 d:=h.d
 ld:=h.ld
 lh:=h.lh
 lb:=h.lb
 ls:=h.ls
 so:=h.so
 hi:=h.hi
 st:=h.st
 ty:=λx hx=>by
  obtain⟨k,y,hy,rfl⟩:=Pk hx
  have:=h.ty y (bH hy)
  unfold im
  cases w.s.Objects[k]? with
  |none=>exact this
  |some o=>show 0<=(Z02 o y).Line.Types/\(Z02 o y).Line.Types<=63;rw[ZmV];exact this
def Po{p:af->Bool}{g g':af->Int}:∀ms:List af,(∀m,m∈ms->p m=false->g m=g' m)->((ms.map g=ms.map g')↔((ms.filter p).map g=(ms.filter p).map g'))
 |[],_=>ay
 |m::ms,h=>by
  have ih:=Po (p:=p) (g:=g) (g':=g') ms λx hx=>h x (bY _ hx);rw[gP];cases hp:p m with
  |true=>
   rw[ar rfl];simp only[ck,vY];rw[ih]
  |false=>
   rw[aw bF];simp only[ck,vY];rw[ih];exact⟨λk=>k.2,λk=>⟨h m ay hp,k⟩⟩
def SIM.nd{w:ak}{W:au}(h:SIM w W){i j:Int}(st:Int)(i0:0<=i)(i1:i<w.forces.length)(j0:0<=j)(j1:j<w.forces.length):ndB w st i j=ndR W st i j:=by
 unfold ndB ndR;by_cases hij:i=j
 .rw [show(i==j)=true by simpa using hij];rfl
 rw[show(i==j)=false by simpa using hij];have hl:=h.len;have hdl:j<w.done.length:=by have:=h.ld;omega
 have hhl:j<w.hits.length:=by have:=h.lh;omega
 have hbl:j<W.Begun.length:=by have:=h.lb;omega
 have h':=h.app st j0 j1;have i1':i<(b7 w j st).forces.length:=i1;have edn:bA (b7 w j st).done i=bA w.done i:=by show bA (w.done.set j.toNat true) i=_;rw[oF j0 i0 hdl,aw hij]
 have eA:(dB w i==dB (b7 w j st) i)=(cx W i==cx (cQ W j st) i):=by
  rcases h.st i i0 i1 with⟨e,_⟩|⟨a,_,c⟩
  .have e':bA (b7 w j st).done i=bA (cQ W j st).Begun i:=by
    rcases h'.st i i0 i1' with⟨e',_⟩|⟨a',_,c'⟩
    .exact e'
    rw[edn]at a';rw[e]at a';have:cx (cQ W j st) i=true:=by
     have hb:bA (cQ W j st).Begun i=true:=by
      unfold cQ;split
      .show bA (W.Begun.set j.toNat true) i=true;rw[oF j0 i0 hbl,aw hij];exact a'
      exact a'
     unfold cx;rw[hb];simp
    rw[this]at c';cases c'
   rw[h.act e,h'.act e']
  have c':=Pl (st:=st) i0 j0 hbl hij c;have x:∀v:ak,bA v.done i=true->dB v i=true:=λv hv=>by unfold dB;rw[hv];simp
  rw[x w a,x (b7 w j st) (edn.trans a),c,c'];rfl
 have eH:(cg w i==cg (b7 w j st) i)=(cR W i==cR (cQ W j st) i):=by rw[<- h.aff i0 i1,<- h'.aff i0 i1'];have es:(b7 w j st).s=w.s:=rfl;rw[es,ka,lz,lz];exact⟨λk=>by rw[k],λk=>Pa h.so (h.affn i0 i1).2 (h'.affn i0 i1').2 k⟩
 have eN:(gd w i st==gd (b7 w j st) i st)=(fy W i st==fy (cQ W j st) i st):=by
  rw[h.num,h'.num,ka,lz,lz];have eg:gAt (cQ W j st) i=gAt W i:=by unfold cQ;split<;>rfl
  unfold gd;rw[show fAt (b7 w j st) i=fAt w i from rfl,oE h.f,eg];refine Po _ λm _ hp=>?_;have hn:¬(m.Kind=11/\stV m.Kind=st):=λk=>by rw[k.2]at hp;simp at hp
  unfold Go.PW.gb;rw[aw hn,aw hn]
 cases hd:eX w i st with
 |true=>
  unfold Z8t fN;simp only;rw[eA,eH,eN];simp[BA]
 |false=>have hlk:=ZmO (h.hok j0 j1) i0 j0 hdl hhl hij hd;unfold fN at hlk;simp only[bP.mk.injEq]at hlk;rw[<- eA,<- eH,<- eN,hlk.1,hlk.2.1,hlk.2.2];simp
structure STP (w:ak) (W:au) (fs:List Z2) (left:List Int):Prop where
 sim:SIM w W
 eqf:w.forces=fs
 inr:INR fs.length left
 nd:left.Nodup
def STP.next{w:ak}{W:au}{fs:List Z2}{left ord:List Int}(h:STP w W fs left)(st:Int)(sts:List Int)(hl:0<left.length) :
 ∃w' W' left' ord',stF st sts (w,left,ord)=(w',left',ord')/\stFR st sts (W,left,ord)=(W',left',ord')/\STP w' W' fs left'/\left'.length+1=left.length:=by
 have hN:nxV left sts (ndB w st)=nxV left sts (ndR W st):=Bo λx y hx hy _ _=>by have a:=h.inr x hx;have b:=h.inr y hy;exact h.sim.nd st a.1 (by rw[h.eqf];exact a.2) b.1 (by rw[h.eqf];exact b.2)
 have hm:nxV left sts (ndB w st)∈left:=NM rfl (λk hk=>(h.inr k hk).1) hl;have hr:=h.inr _ hm;refine⟨_,_,_,_,rfl,?_,⟨h.sim.app st hr.1 (by rw[h.eqf];exact hr.2),h.eqf,λk hk=>h.inr k (iO.1 hk).1,h.nd.filter _⟩,Pp h.nd hm⟩;unfold stFR;simp only;rw[<- hN];rfl
def STP.itr{w:ak}{W:au}{fs:List Z2}{left:List Int}(h:STP w W fs left)(st:Int)(sts:List Int):∀n,n<=left.length->∃w' W' left' ord',Go.PW.itr (stF st sts) n (w,left,[])=(w',left',ord')/\Go.PW.itr (stFR st sts) n (W,left,[])=(W',left',ord')/\STP w' W' fs left'/\left'.length+n=left.length
 |0,_=>⟨w,W,left,[],rfl,rfl,h,rfl⟩
 |n+1,hn=>by
  obtain⟨w1,W1,l1,o1,e1,e2,h1,h2⟩:=h.itr st sts n O;obtain⟨w2,W2,l2,o2,e3,e4,h3,h4⟩:=h1.next (ord:=o1) st sts O;refine⟨w2,W2,l2,o2,?_,?_,h3,by omega⟩
  .show stF st sts (Go.PW.itr (stF st sts) n (w,left,[]))=_;rw[e1];exact e3
  show stFR st sts (Go.PW.itr (stFR st sts) n (W,left,[]))=_;rw[e2];exact e4
def ZmW(L:List bd)(st:Int):Z4f (L.map toL) st=belS L st:=by unfold Z4f belS zfm;rw[cN,<- lF,List.zipIdx_map,List.filter_map,oz];rfl
def ZmX(L:List bd):(L.map toL).map (λf=>f.Stamp)=L.map λf=>f.Stamp:=by rw[oz];rfl
def SIM.stg{w:ak}{W:au}(h:SIM w W)(st:Int):SIM (stgV w st).2 (stgR W st).1/\(stgV w st).1=(stgR W st).2:=by
 have h1:SIM (if st=7 then Z8u w else w) (if st=7 then Z04 W else W):=by
  split
  .exact h.cnt
  exact h
 have ef:(if st=7 then Z8u w else w).forces=w.forces:=by split<;>rfl
 have hb:Z4f w.forces st=belS W.L st:=by rw[h.f,ZmW]
 have hs:(w.forces.map λf=>f.Stamp)=W.L.map λf=>f.Stamp:=by rw[h.f,ZmX]
 have hp:STP (if st=7 then Z8u w else w) (if st=7 then Z04 W else W) w.forces (Z4f w.forces st):=⟨h1,ef,O7 rfl (sh _),Bu⟩;obtain⟨w',W',l',o',e1,e2,h3,_⟩:=hp.itr st (w.forces.map λf=>f.Stamp) _ (bk _);unfold stgV stgR;simp only;rw[e1,<- hs,<- hb,e2];exact⟨h3.sim,rfl⟩
def SIM.wrl{cards:List aq}{s:av}(hc:∀c,c∈cards->ik c)(hs:bU s.Objects):∀n,SIM (Z03 cards s n) (Z4g cards s n)
 |0=>SIM.beg hc hs
 |n+1=>((SIM.wrl hc hs n).stg _).1
def ZmY{cards:List aq}{s:av}(hc:∀c,c∈cards->ik c)(hs:bU s.Objects):(Z03 cards s 8).traits=(Z4g cards s 8).All:=(SIM.wrl hc hs 8).t
def lc_1{cards:List aq}{s:av}{x y:List ab}{v r:Bool}(hx:x=(Z03 cards s 8).traits)(hy:y=(Z4g cards s 8).All)(hs:x=y->r=true)(hc:v=true->∀c,c∈cards->ik c)(ho:v=true->bU s.Objects)(hv:v=true):r=true:=hs (by rw[hx,hy];exact ZmY (hc hv) (ho hv))
end Go.PW

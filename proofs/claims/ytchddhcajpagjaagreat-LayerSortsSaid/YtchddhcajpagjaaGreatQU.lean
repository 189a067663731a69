import Derived.Test.YtchddhcajpagjaaGreatQW
set_option linter.all false
set_option maxRecDepth 100000
namespace Go.PW
def stV(k:Int):Int:=if k=1 then 1 else if 2<=k/\k<=5 then 2 else if k=6\/k=7 then 3 else if 8<=k/\k<=10 then 4 else if 11<=k/\k<=14 then k-6 else 0
def inB(n a b:Int):Bool:=decide (a<=n/\n<=b)
def dB(m:af):Bool:=
 if m.Kind=2\/m.Kind=3\/m.Kind=6\/m.Kind=7\/m.Kind=8\/m.Kind=9 then decide (m.M=0/\m.Sub=[]/\m.Filter=fK)
 else if m.Kind=4\/m.Kind=5 then decide (m.N=0/\m.M=0/\m.Filter=fK)
 else if m.Kind=11 then decide (m.N=0/\m.M=0/\m.Sub=[])
 else if m.Kind=12\/m.Kind=13 then decide (m.Sub=[]/\m.Filter=fK)
 else decide (m.N=0/\m.M=0/\m.Sub=[]/\m.Filter=fK)
def mdK(m:af):Bool:=
 if m.Kind=2\/m.Kind=3 then inB m.N 1 63&&decide (aQ .and .i64 m.N 6=0)
 else if m.Kind=4\/m.Kind=5 then fU m.Sub
 else if m.Kind=6 then inB m.N 0 31
 else if m.Kind=7 then inB m.N 1 31
 else if m.Kind=8\/m.Kind=9 then inB m.N 1 131071
 else if m.Kind=11 then Z0o m.Filter
 else if m.Kind=12 then inB m.N 0 99&&inB m.M 0 99
 else if m.Kind=13 then inB m.N (-99) 99&&inB m.M (-99) 99
 else true
def mdV(m:af):Bool:=inB m.Kind 1 14&&(dB m&&mdK m)
def Zfh{m:af}(h:inB m.Kind 1 14=false):mdV m=false:=by unfold mdV;rw[h];rfl
def Zfi{m:af}(h:dB m=false):false=mdV m:=by unfold mdV;rw[h];simp
def Zfj{m:af}(h:inB m.Kind 1 14=true)(g:dB m=true):mdV m=mdK m:=by unfold mdV;rw[h,g];rfl
abbrev oP:af:=⟨0,0,0,[],fK⟩
def us_1{m:af}(h:m.Kind=2\/m.Kind=3\/m.Kind=6\/m.Kind=7\/m.Kind=8\/m.Kind=9):aF (ay m) (ay ⟨m.Kind,m.N,0,[],fK⟩)=dB m:=Tu
def us_2{m:af}(h:m.Kind=4\/m.Kind=5):aF (ay m) (ay ⟨m.Kind,0,0,m.Sub,fK⟩)=dB m:=Tt
def us_3{m:af}(h:m.Kind=11):aF (ay m) (ay ⟨m.Kind,0,0,[],m.Filter⟩)=dB m:=Tr
def us_4{m:af}(h:m.Kind=12\/m.Kind=13):aF (ay m) (ay ⟨m.Kind,m.N,m.M,[],fK⟩)=dB m:=Tq
def us_5{m:af}(h:¬(m.Kind=2\/m.Kind=3\/m.Kind=6\/m.Kind=7\/m.Kind=8\/m.Kind=9)/\¬(m.Kind=4\/m.Kind=5)/\¬m.Kind=11/\¬(m.Kind=12\/m.Kind=13)):aF (ay m) (ay ⟨m.Kind,0,0,[],fK⟩)=dB m:=Tm
def ur_1{m:af}(h:m.Kind=2\/m.Kind=3\/m.Kind=6\/m.Kind=7\/m.Kind=8\/m.Kind=9):aF (ay ⟨0,0,m.M,m.Sub,m.Filter⟩) (ay oP)=dB m:=Tu
def ur_2{m:af}(h:m.Kind=4\/m.Kind=5):aF (ay ⟨0,m.N,m.M,[],m.Filter⟩) (ay oP)=dB m:=Tt
def ur_3{m:af}(h:m.Kind=11):aF (ay ⟨0,m.N,m.M,m.Sub,fK⟩) (ay oP)=dB m:=Tr
def ur_4{m:af}(h:m.Kind=12\/m.Kind=13):aF (ay ⟨0,0,0,m.Sub,m.Filter⟩) (ay oP)=dB m:=Tq
def ur_5{m:af}(h:¬(m.Kind=2\/m.Kind=3\/m.Kind=6\/m.Kind=7\/m.Kind=8\/m.Kind=9)/\¬(m.Kind=4\/m.Kind=5)/\¬m.Kind=11/\¬(m.Kind=12\/m.Kind=13)):aF (ay ⟨0,m.N,m.M,m.Sub,m.Filter⟩) (ay oP)=dB m:=Tm
def ixL(l:List (List UInt8))(s:List UInt8):Int:=(l.findIdx λx => !Op.bytesLess x s:Nat)
def insB(l:List (List UInt8))(s:List UInt8):List (List UInt8):=l.take (ixL l s).toNat++s::l.drop (ixL l s).toNat
def lnV(l:aI)(s:List UInt8):aI:=if fU s=false\/di l.Subs s=true\/(l.Subs.length:Int)>=4 then l else⟨l.Super,l.Types,insB l.Subs s⟩
def LsS(l:List (List UInt8))(s:List UInt8)(v:Int):Prop:=∀(k:Nat) x,(k:Int)<v->l[k]?=some x->Op.bytesLess x s=true
def Ry{l:List (List UInt8)}{s:List UInt8}:LsS l s 0:=λk x hk=>aW
def Rz{l:List (List UInt8)}{s:List UInt8}{v w:Int}{x:List UInt8}(hx:l[v.toNat]?=some x)(h:LsS l s v)(h0:0<=v)(hp:Op.bytesLess x s=true)(hw:w=v+1):LsS l s w:=mm hx h h0 hp hw
def QP{l:List (List UInt8)}{s:List UInt8}{v:Int}{x:List UInt8}(hx:l[v.toNat]?=some x)(h:LsS l s v)(h0:0<=v)(hp:Op.bytesLess x s=false):v=ixL l s:=by
 obtain⟨hi,he⟩:=aJ.1 hx;unfold ixL;have:l.findIdx (λx => !Op.bytesLess x s)=v.toNat:=by refine(List.findIdx_eq hi).2 ⟨by rw[he,hp];rfl,λj hj=>?_⟩;have:=h j l[j] O (bg O);rw[this];rfl
 rw[this];omega
def QO{l:List (List UInt8)}{s:List UInt8}{v:Int}(h:LsS l s v)(h0:(l.length:Int)<=v):(l.length:Int)=ixL l s:=by
 unfold ixL;have:l.findIdx (λx => !Op.bytesLess x s)=l.length:=by refine List.findIdx_eq_length.2 λx hx=>?_;obtain⟨k,hk,he⟩:=lz.1 hx;rw[h k x O ua];rfl
 rw[this]
def Rw{l:aI}{s:List UInt8}{x:List (List UInt8)}(hx:x=l.Subs)(h:fU s=false\/di l.Subs s=true\/(l.Subs.length:Int)>=4):(⟨l.Super,l.Types,x⟩:aI)=lnV l s:=by subst hx;unfold lnV;rw[aq h]
def ln_y{l:aI}{s:List UInt8}{v:Int}{x:List (List UInt8)}(h1:fU s=true)(h2:di l.Subs s=false)(h3:¬(l.Subs.length:Int)>=4)(hv:v=ixL l.Subs s)(hx:x=l.Subs.take v.toNat++s::l.Subs.drop v.toNat):(⟨l.Super,l.Types,x⟩:aI)=lnV l s:=by subst hx;subst hv;unfold lnV;rw[aw (by rw[h1,h2];simp only[qR,eR,l4];exact h3)];rfl
def ln_p{l:aI}{s:List UInt8}{v w:Int}{x0 x:List (List UInt8)}{p:Prop}(e:x0=l.Subs)(hx:p/\x=x0.take v.toNat++[s]++x0.drop v.toNat)(hw:(if w<0 then(x0.length:Int)else w)=ixL x0 s)(hv:(w<0/\v=x0.length)\/(¬w<0/\v=w))(h1:fU s=true)(h2:di x0 s=false)(h3:¬(x0.length:Int)>=4):(⟨l.Super,l.Types,x⟩:aI)=lnV l s:=by
 subst e;refine ln_y h1 h2 h3 (v:=v) ?_ (by rw[hx.2];simp);rw[<- hw];rcases hv with⟨a,b⟩|⟨a,b⟩
 .rw [aq a,b]
 rw[aw a,b]
def ln_r{l:aI}{s:List UInt8}{v6:Int}{v5 x1 x4 x7 x10 x12:List (List UInt8)}{p1 p2 q1 q2:Prop}(h1:fU s=true)(h2:di l.Subs s=false)(h3:¬(l.Subs.length:Int)>=4)(e:v5=l.Subs)(hv:v6=ixL v5 s)(a12:x12=x7++x10)(a7:x7=x4++[s])(a4:x4=[]++x1)(a1:p1/\p2/\x1=(v5.take v6.toNat).drop (0:Int).toNat)(a10:q1/\q2/\x10=(v5.take ((v5.length:Int)).toNat).drop v6.toNat):(⟨l.Super,l.Types,x12⟩:aI)=lnV l s:=by subst e;refine ln_y h1 h2 h3 hv ?_;rw[a12,a7,a4,a1.2.2,a10.2.2,lC,um];simp
def cp_0{t:ae}{x:List (List UInt8)}{y:List ar}(hx:x=t.Line.Subs)(hy:y=t.Abilities):(⟨t.Name,t.Cost,t.Colors,⟨t.Line.Super,t.Line.Types,x⟩,t.Power,t.Tough,t.Keys,y,t.Control⟩:ae)=t:=by subst hx;subst hy;rfl
def cp_e{l:List ar}{i:Nat}{a:ar}{m:List af}{s:List ck}{e:List aZ}(h:l[i]?=some a)(hm:m=a.Mods)(hs:s=a.Specs)(he:e=a.Effects):l[i]?=some (⟨a.Kind,a.Filter,m,a.Price,a.Slow,a.Trigger,a.May,s,e,a.Replace⟩:ar):=by subst hm;subst hs;subst he;exact h
def cp_n{l:List ar}{i v:Nat}{a:ar}{x:aZ}{m:List af}{z:List aZ}{p q:Prop}(h:l[i]?=some a)(hx:a.Effects[v]?=some x)(hz:p/\q/\z=a.Effects.set v ⟨x.Op,x.Ref,x.Amount,x.Counter,x.Zone,x.Card,x.Filter,x.Pool,m⟩)(hm:m=x.Mods):l[i]?=some (⟨a.Kind,a.Filter,a.Mods,a.Price,a.Slow,a.Trigger,a.May,a.Specs,z,a.Replace⟩:ar):=by subst hm;rw[hz.2.2,xM hx];exact h
def cp_c{t b:ae}{i:Nat}{y:ar}{z:List ar}{p q:Prop}(e:b=t)(h:b.Abilities[i]?=some y)(hz:p/\q/\z=b.Abilities.set i y):(⟨b.Name,b.Cost,b.Colors,b.Line,b.Power,b.Tough,b.Keys,z,b.Control⟩:ae)=t:=by rw[hz.2.2,xM h];exact e
def adV(a b:Int):Int:=clV (IntKind.wrap .i64 (clV a+clV b))
def apV(t:ae)(m:af)(you n:Int):ae:=
 if mdV m=false then t
 else if m.Kind=1 then { t with Control:=you }
 else if m.Kind=2 then { t with Line:=⟨t.Line.Super,m.N,t.Line.Subs⟩ }
 else if m.Kind=3 then { t with Line:=⟨t.Line.Super,aQ .or .i64 t.Line.Types m.N,t.Line.Subs⟩ }
 else if m.Kind=4 then { t with Line:=⟨t.Line.Super,t.Line.Types,[m.Sub]⟩ }
 else if m.Kind=5 then { t with Line:=lnV t.Line m.Sub }
 else if m.Kind=6 then { t with Colors:=m.N }
 else if m.Kind=7 then { t with Colors:=aQ .or .i64 t.Colors m.N }
 else if m.Kind=8 then { t with Keys:=aQ .or .i64 t.Keys m.N }
 else if m.Kind=9 then { t with Keys:=aQ .andNot .i64 t.Keys m.N }
 else if m.Kind=10 then { t with Keys:=0,Abilities:=[] }
 else if m.Kind=11 then { t with Power:=clV n,Tough:=clV n }
 else if m.Kind=12 then { t with Power:=m.N,Tough:=m.M }
 else if m.Kind=13 then { t with Power:=adV t.Power m.N,Tough:=adV t.Tough m.M }
 else if m.Kind=14 then { t with Power:=t.Tough,Tough:=t.Power }
 else t
def suV(a b:Int):Int:=clV (IntKind.wrap .i64 (clV a-clV b))
def pwV(c:A3 Int):Int:=suV c.a0 c.a1
def ZfB{c:A3 Int}{x y r:Int}(hr:r=suV x y)(hx:(A3.list c)[(0:Int).toNat]?=some x)(hy:(A3.list c)[(1:Int).toNat]?=some y):r=pwV c:=by simp[A3.list]at hx hy;unfold pwV;rw[hr,hx,hy]
abbrev fZ:Z2:=⟨0,0,0,0,false,[],wu,[]⟩
def fAt(w:ak)(i:Int):Z2:=w.forces[i.toNat]?.getD fZ
def bA(l:List Bool)(i:Int):Bool:=l[i.toNat]?.getD false
def hA(l:List (List Int))(i:Int):List Int:=l[i.toNat]?.getD []
def dp(w:ak)(i:Int):Int:=if(fAt w i).Fixed=false/\0<=ixO w.s.Objects (fAt w i).Source then(trV w.traits (ixO w.s.Objects (fAt w i).Source)).Control else(fAt w i).Control
def dz(w:ak)(i:Int):Bool:=(fAt w i).Fixed||bA w.done i||decide (ixO w.s.Objects (fAt w i).Source<0) || !bA w.dropped (ixO w.s.Objects (fAt w i).Source)
def gN(w:ak)(f:Z2)(you:Int)(k:Int)(o:aj):Bool:=(o.Zone==0)&&((f.Fixed&&f.Objects.contains o.Id)||(!f.Fixed&&gI o (trV w.traits k) you f.Source f.Filter))
def cc(w:ak)(i:Int):List Int:=if bA w.done i then hA w.hits i else if dz w i then zfm (gN w (fAt w i) (dp w i)) (λk _=>k) w.s.Objects w.s.Objects.length else[]
def fV(s:ao)(all:List ae)(you src st:Int)(m:af):Int:=if m.Kind=11/\stV m.Kind=st then((Z18 s all you src m.Filter).length:Int)else 0
def fW(w:ak)(i st:Int):List Int:=(fAt w i).Mods.map (fV w.s w.traits (dp w i) (fAt w i).Source st)
def mfS(mods:List af)(nums:List Int)(you st v:Int)(t:ae):ae:=((mods.take v.toNat).zipIdx).foldl (λt q=>if stV q.1.Kind=st then apV t q.1 you (nums[q.2]?.getD 0)else t) t
def drS(mods:List af)(st v:Int)(b:Bool):Bool:=b||(mods.take v.toNat).any λm=>m.Kind==10&&stV m.Kind==st
def bY(w:ak)(i st:Int):ak:=⟨w.s,w.forces,(cc w i).foldl (dm (mfS (fAt w i).Mods (fW w i st) (dp w i) st (fAt w i).Mods.length)) w.traits,(cc w i).foldl (dm (drS (fAt w i).Mods st (fAt w i).Mods.length)) w.dropped,w.done.set i.toNat true,w.hits.set i.toNat (cc w i)⟩
def fb(f:al)(st:Int):Bool:=
 if st=1 then decide (f.Who≠0)
 else if st=2 then decide (aQ .or .i64 f.Types f.NotTypes≠0\/f.Sub≠[]\/f.Power.Kind≠0\/f.Tough.Kind≠0)
 else if st=3 then decide (aQ .or .i64 f.Colors f.NotColors≠0)
 else if st=4 then decide (f.Keys≠0)
 else decide (f.Power.Kind≠0\/f.Tough.Kind≠0)
def eW(w:ak)(i st:Int):Bool:=((fAt w i).Mods.any λm=>m.Kind==11&&stV m.Kind==st&&fb m.Filter st)||(!(fAt w i).Fixed && !bA w.done i&&(decide (st=4)||fb (fAt w i).Filter st))
def fH(w:ak)(i st:Int):bM:=⟨dz w i,cc w i,fW w i st⟩
def Z8m(a b:bM):Bool := !(a.active==b.active) || !(a.hits==b.hits) || !(a.numbers==b.numbers)
def ndB(w:ak)(st i j:Int):Bool := !(i==j)&&(eW w i st&&Z8m (fH w i st) (fH (bY w j st) i st))
def belB(f:Z2)(st:Int):Bool:=f.Mods.any λm=>stV m.Kind==st
def Z33(fs:List Z2)(st:Int):List Int:=zfm (λ_ f=>belB f st) (λk _=>k) fs fs.length
def Z0q(o:aj)(t:ae):ae:=if o.Zone=0/\aQ .and .i64 t.Line.Types 1≠0 then { t with Power:=adV t.Power (pwV o.Counters),Tough:=adV t.Tough (pwV o.Counters) } else t
def ig(os:List aj)(k:Nat)(t:ae):ae:=match os[k]? with|some o=>Z0q o t|none=>t
def Z8n(w:ak):ak:={ w with traits:=w.traits.mapIdx (ig w.s.Objects) }
def itr{α:Type}(f:α->α):Nat->α->α
 |0,x=>x
 |n+1,x=>f (itr f n x)
noncomputable def stF(st:Int)(sts:List Int)(x:ak×List Int×List Int):ak×List Int×List Int:=(bY x.1 (nxV x.2.1 sts (ndB x.1 st)) st,x.2.1.filter (neI (nxV x.2.1 sts (ndB x.1 st))),x.2.2++[nxV x.2.1 sts (ndB x.1 st)])
noncomputable def Z34(w:ak)(st:Int):List Int×ak:=
 let r:=itr (stF st (w.forces.map λf=>f.Stamp)) (Z33 w.forces st).length (if st=7 then Z8n w else w,Z33 w.forces st,[])
 (r.2.2,r.1)
def begV(cards:List an)(s:ao):ak:=⟨s,FS fL gL cards s,s.Objects.map (baV cards),List.replicate s.Objects.length false,List.replicate (FS fL gL cards s).length false,List.replicate (FS fL gL cards s).length []⟩
noncomputable def wrlV(cards:List an)(s:ao):Nat->ak
 |0=>begV cards s
 |n+1=>(Z34 (wrlV cards s n) ((n+1:Nat):Int)).2
abbrev gZ:ba:=⟨0,0,0,0,false,[],wu,[]⟩
def gAt(w:au)(i:Int):ba:=w.L[i.toNat]?.getD gZ
def eI(w:au)(i:Int):Int:=if(gAt w i).Fixed=true\/ixO w.S.Objects (gAt w i).Source<0 then(gAt w i).Control else(trV w.All (ixO w.S.Objects (gAt w i).Source)).Control
def ct(w:au)(i:Int):Bool:=(gAt w i).Fixed||bA w.Begun i||decide (ixO w.S.Objects (gAt w i).Source<0) || !bA w.Blank (ixO w.S.Objects (gAt w i).Source)
def ia(w:au)(f:ba)(you:Int)(k:Int)(o:aj):Bool:=(o.Zone==0)&&((f.Fixed&&f.Objects.contains o.Id)||(!f.Fixed&&gI o (trV w.All k) you f.Source f.Filter))
def cQ(w:au)(i:Int):List Int:=if bA w.Begun i then hA w.Sets i else if ct w i then zfm (ia w (gAt w i) (eI w i)) (λ_ o=>o.Id) w.S.Objects w.S.Objects.length else[]
def fu(w:au)(i st:Int):List Int:=((gAt w i).Mods.filter λm=>stV m.Kind==st).map (fV w.S w.All (eI w i) (gAt w i).Source st)
def mfR1(nums:List Int)(you st:Int)(x:ae×Int)(m:af):ae×Int:=if stV m.Kind=st then(apV x.1 m you (nums[x.2.toNat]?.getD 0),x.2+1)else x
def mfR(mods:List af)(nums:List Int)(you st:Int)(t:ae):ae:=(mods.foldl (mfR1 nums you st) (t,0)).1
def drR(mods:List af)(st:Int):Bool:=mods.any λm=>m.Kind==10&&stV m.Kind==st
def inS(os:List aj)(set:List Int)(k:Nat):Bool:=match os[k]? with|some o=>set.contains o.Id|none=>false
def cO(w:au)(i st:Int):au:=if ct w i then⟨w.S,w.All.mapIdx λk t=>if inS w.S.Objects (cQ w i) k then mfR (gAt w i).Mods (fu w i st) (eI w i) st t else t,w.L,w.Begun.set i.toNat true,w.Sets.set i.toNat (cQ w i),w.Blank.mapIdx λk b=>if inS w.S.Objects (cQ w i) k&&drR (gAt w i).Mods st then true else b⟩ else w
def ndR(w:au)(st i j:Int):Bool := !(i==j)&&(!(ct w i==ct (cO w j st) i) || !(cQ w i==cQ (cO w j st) i) || !(fu w i st==fu (cO w j st) i st))
def belR(f:ba)(st:Int):Bool:=f.Mods.any λm=>stV m.Kind==st
def belS(fs:List ba)(st:Int):List Int:=zfm (λ_ f=>belR f st) (λk _=>k) fs fs.length
def cnuT(o:aj)(t:ae):ae:=if o.Zone=0/\Int.tmod (er .i64 t.Line.Types 1) 2=1 then { t with Power:=adV t.Power (pwV o.Counters),Tough:=adV t.Tough (pwV o.Counters) } else t
def Z8o(os:List aj)(k:Nat)(t:ae):ae:=match os[k]? with|some o=>cnuT o t|none=>t
def Z0r(w:au):au:={ w with All:=w.All.mapIdx (Z8o w.S.Objects) }
noncomputable def stFR(st:Int)(sts:List Int)(x:au×List Int×List Int):au×List Int×List Int:=(cO x.1 (nxV x.2.1 sts (ndR x.1 st)) st,x.2.1.filter (λy=>y != nxV x.2.1 sts (ndR x.1 st)),x.2.2++[nxV x.2.1 sts (ndR x.1 st)])
noncomputable def Z0s(w:au)(st:Int):au×List Int:=
 let r:=itr (stFR st (w.L.map λf=>f.Stamp)) (belS w.L st).length (if st=7 then Z0r w else w,belS w.L st,[])
 (r.1,r.2.2)
def begR(cards:List an)(s:ao):au:=⟨s,s.Objects.map (baV cards),FS fR gR cards s,List.replicate (FS fR gR cards s).length false,List.replicate (FS fR gR cards s).length [],List.replicate s.Objects.length false⟩
noncomputable def wrlR(cards:List an)(s:ao):Nat->au
 |0=>begR cards s
 |n+1=>(Z0s (wrlR cards s n) ((n+1:Nat):Int)).1
end Go.PW
set_option maxRecDepth 100000
namespace Go.PW
def jq{w:ak}{i:Int}{f:Z2}(h:w.forces[i.toNat]?=some f):fAt w i=f:=by unfold fAt;rw[h];rfl
def gQ{l:List Bool}{i:Int}{b:Bool}(h:l[i.toNat]?=some b):bA l i=b:=by unfold bA;rw[h];rfl
def WW{l:List (List Int)}{i:Int}{b:List Int}(h:l[i.toNat]?=some b):hA l i=b:=by unfold hA;rw[h];rfl
section
variable {w:ak} {i x:Int} {f:Z2}
def yo_a(hf:w.forces[i.toNat]?=some f)(h:f.Fixed=true):f.Control=dp w i:=by unfold dp;rw[jq hf,aw (by rw[h];simp)]
def yo_b(hf:w.forces[i.toNat]?=some f)(hi:bU w.s.Objects->x=ixO w.s.Objects f.Source)(hs:bU w.s.Objects)(h:¬x>=0):f.Control=dp w i:=by unfold dp;rw[jq hf,<- hi hs,aw O]
def yo_c{t:ae}(hf:w.forces[i.toNat]?=some f)(hi:bU w.s.Objects->x=ixO w.s.Objects f.Source)(hs:bU w.s.Objects)(ht:w.traits[x.toNat]?=some t)(hF:f.Fixed=false)(h:x>=0):t.Control=dp w i:=by unfold dp;rw[jq hf,<- hi hs,aq ⟨hF,h⟩,<- ub ht O]
def ac_a(hf:w.forces[i.toNat]?=some f)(h:f.Fixed=true):true=dz w i:=by unfold dz;rw[jq hf,h];simp
def ac_b{d:Bool}(hd:w.done[i.toNat]?=some d)(h:d=true):true=dz w i:=by unfold dz;rw[gQ hd,h];simp
def ac_c(hf:w.forces[i.toNat]?=some f)(hi:bU w.s.Objects->x=ixO w.s.Objects f.Source)(hs:bU w.s.Objects)(h:x<0):true=dz w i:=by unfold dz;rw[jq hf,<- hi hs,bd h];simp
def ac_d{d e:Bool}(hf:w.forces[i.toNat]?=some f)(hi:bU w.s.Objects->x=ixO w.s.Objects f.Source)(hs:bU w.s.Objects)(hd:w.done[i.toNat]?=some d)(he:w.dropped[x.toNat]?=some e)(hF:f.Fixed=false)(h:d=false)(hx:¬x<0):(!e)=dz w i:=by unfold dz;rw[jq hf,<- hi hs,gQ hd,gQ he,hF,h,bl hx];simp
def ht_c{you k:Int}{o:aj}{c:Bool}(hz:o.Zone=0)(hF:f.Fixed=true)(hc:c=true↔o.Id∈f.Objects)(h:c=true):gN w f you k o=true:=by unfold gN;rw[hz,hF];simp[hc.1 h]
def ht_n{you k:Int}{o:aj}{c:Bool}(hF:f.Fixed=true)(hc:c=true↔o.Id∈f.Objects)(h:c=false):gN w f you k o=false:=by
 have:o.Id∉f.Objects:=λhm=>by rw[hc.2 hm]at h;cases h
 unfold gN;rw[hF];simp[this]
def ht_m{you k:Int}{o:aj}{c:Bool}{t:ae}(hm:c=gI o t you f.Source f.Filter)(ht:w.traits[k.toNat]?=some t)(hz:o.Zone=0)(hF:f.Fixed=false)(h0:0<=k):gN w f you k o=c:=by unfold gN;rw[hz,hF,<- ub ht O,hm];simp
def ht_z{you k:Int}{o:aj}(hz:¬o.Zone=0):gN w f you k o=false:=by unfold gN;rw[show(o.Zone==0)=false by simpa using hz];rfl
def af_h{d:Bool}{h:List Int}(hd:w.done[i.toNat]?=some d)(hh:w.hits[i.toNat]?=some h)(hb:d=true):h=cc w i:=by unfold cc;rw[gQ hd,hb,aq rfl,WW hh]
def af_n{d a:Bool}(hd:w.done[i.toNat]?=some d)(ha:a=dz w i)(hb:d=false)(h:a=false):[]=cc w i:=by unfold cc;rw[gQ hd,hb,<- ha,h];rfl
def af_l{you v:Int}{z:List Int}{os:List aj}(h:z=zfm (gN w f you) (λk _=>k) os v)(hv:(os.length:Int)<=v)(hf:w.forces[i.toNat]?=some f)(hy:you=dp w i)(ho:os=w.s.Objects)(ha:dz w i=true)(hd:bA w.done i=false):z=cc w i:=by subst ho;subst hy;unfold cc;rw[hd,ha,jq hf];exact m8 h hv
def nu_y{s:ao}{all:List ae}{you you' src st g:Int}{l:List Int}{m:af}(hl:l=Z18 s all you' src m.Filter)(hy:you'=you)(hk:m.Kind=11)(hg:g=stV m.Kind)(hs:g=st):(l.length:Int)=fV s all you src st m:=by subst hy;unfold fV;rw[aq ⟨hk,by rw[<- hg,hs]⟩,hl]
def nu_k{s:ao}{all:List ae}{you src st:Int}{m:af}(hk:¬m.Kind=11):0=fV s all you src st m:=by unfold fV;rw[aw λk=>hk k.1]
def nu_s{s:ao}{all:List ae}{you src st g:Int}{m:af}(hg:g=stV m.Kind)(hs:¬g=st):0=fV s all you src st m:=by unfold fV;rw[aw λk=>hs (by rw[hg,k.2])]
def nu_0{α:Type}{g:Nat->α->Int}{l:List α}{z:List Int}{n:Int}(h:(z.length:Int)=n/\∀e,e∈z->e=0)(hn:n=l.length):z=l.mapIdx (bZ g (λ_ _=>0) 0):=by
 refine up_0 (gq λj=>?_);rw[dI];by_cases hj:j<l.length
 .rw [bg hj,bg (show j<z.length by have:=h.1;omega),h.2 _ (kL _)];rfl
 rw[ke O,ke xl];rfl
def nu_e{st you v:Int}{z:List Int}{ms:List af}(h:z=ms.mapIdx (bZ (λ_ m=>fV w.s w.traits you f.Source st m) (λ_ _=>0) v))(hv:(ms.length:Int)<=v)(hf:w.forces[i.toNat]?=some f)(hm:ms=f.Mods)(hy:you=dp w i):z=fW w i st:=by subst hm;subst hy;rw[xL h hv];unfold fW;rw[jq hf];refine gq λj=>?_;rw[dI,jD]
end
def TRS(w:ak)(i st:Int)(nums:List Int)(you:Int)(hits:List Int)(v:Int):List ae:=(hits.take v.toNat).foldl (dm (mfS (fAt w i).Mods nums you st (fAt w i).Mods.length)) w.traits
def DRS(w:ak)(i st:Int)(hits:List Int)(v:Int):List Bool:=(hits.take v.toNat).foldl (dm (drS (fAt w i).Mods st (fAt w i).Mods.length)) w.dropped
def XR{ms:List af}{nums:List Int}{you st v w:Int}{m:af}{t:ae}(hx:ms[v.toNat]?=some m)(h0:0<=v)(hw:w=v+1):mfS ms nums you st w t=if stV m.Kind=st then apV (mfS ms nums you st v t) m you (nums[v.toNat]?.getD 0)else mfS ms nums you st v t:=by
 subst hw;have hv:(v+1).toNat=v.toNat+1:=aW
 have hlt:=(aJ.1 hx).1;unfold mfS;rw[hv,j3,hx,nR,List.zipIdx_append,xn,eT,oE O,aM];rfl
def XS{ms:List af}{st v w:Int}{m:af}{b:Bool}(hx:ms[v.toNat]?=some m)(h0:0<=v)(hw:w=v+1):drS ms st w b=(drS ms st v b||(m.Kind==10&&stV m.Kind==st)):=by unfold drS;rw[dG hx h0 hw,C8,Bool.or_assoc];simp
def XT{α:Type}{g g':α->α}{l z:List α}{k:Int}(h:z=dm g l k)(e:∀t,g' t=g t):z=dm g' l k:=by rw[h,show g'=g from funext e]
section
variable {w:ak} {i st you:Int} {nums hits:List Int}
def tr_0{c:List ae}(h:c=w.traits):c=TRS w i st nums you hits 0:=h
def Zfe{c T:List ae}{ms:List af}{k:Int}(h:c=T):c=dm (mfS ms nums you st 0) T k:=h.trans (V5 λ_=>rfl)
def Zff{c T:List ae}{ms:List af}{j j' k g:Int}{m:af}(h:c=dm (mfS ms nums you st j) T k)(hx:ms[j.toNat]?=some m)(h0:0<=j)(hj:j'=j+1)(hg:g=stV m.Kind)(hs:¬g=st):c=dm (mfS ms nums you st j') T k:=XT h λt=>by rw[XR hx h0 hj,aw (by rw[<- hg];exact hs)]
def tr_y{c c' T:List ae}{ms:List af}{j j' k g n:Int}{m:af}{t y:ae}{p q:Prop}(h:c=dm (mfS ms nums you st j) T k)(e:p/\q/\c'=c.set k.toNat y)(hx:ms[j.toNat]?=some m)(ht:c[k.toNat]?=some t)(hn:nums[j.toNat]?=some n)(hy:y=apV t m you n)(h0:0<=j)(hj:j'=j+1)(hg:g=stV m.Kind)(hs:g=st):c'=dm (mfS ms nums you st j') T k:=V6 h ht e.2.2 λu hu=>by rw[XR hx h0 hj,aq (by rw[<- hg];exact hs),<- hu,hn];exact hy
def Zfp{c:List ae}{ms:List af}{j v v' k:Int}(h:c=dm (mfS ms nums you st j) (TRS w i st nums you hits v) k)(hm:ms=(fAt w i).Mods)(hk:hits[v.toNat]?=some k)(hj:j=ms.length)(h0:0<=v)(hv:v'=v+1):c=TRS w i st nums you hits v':=by subst hm;subst hj;unfold TRS at *;rw[h,dG hk h0 hv,xn];rfl
def dr_0{c:List Bool}(h:c=w.dropped):c=DRS w i st hits 0:=h
def Zfa{c T:List Bool}{ms:List af}{k:Int}(h:c=T):c=dm (drS ms st 0) T k:=h.trans (V5 λt=>by unfold drS;simp)
def Rt{c T:List Bool}{ms:List af}{j j' k g:Int}{m:af}(h:c=dm (drS ms st j) T k)(hx:ms[j.toNat]?=some m)(h0:0<=j)(hj:j'=j+1)(hg:g=stV m.Kind)(hs:¬g=st\/¬m.Kind=10):c=dm (drS ms st j') T k:=
 XT h λt=>by
  rw[XS hx h0 hj];have:(m.Kind==10&&stV m.Kind==st)=false:=by
   rcases hs with hs|hs
   .rw [show(stV m.Kind==st)=false by rw[<- hg];simpa using hs];simp
   rw[show(m.Kind==10)=false by simpa using hs];rfl
  rw[this,Bool.or_false]
def dr_y{c c' T:List Bool}{ms:List af}{j j' k g:Int}{m:af}{b:Bool}{p q:Prop}(h:c=dm (drS ms st j) T k)(e:p/\q/\c'=c.set k.toNat true)(hx:ms[j.toNat]?=some m)(hb:c[k.toNat]?=some b)(h0:0<=j)(hj:j'=j+1)(hg:g=stV m.Kind)(hs:g=st)(hk:m.Kind=10):c'=dm (drS ms st j') T k:=V6 h hb e.2.2 λt _=>by rw[XS hx h0 hj,<- hg,hs,hk];simp
def Zfq{c:List Bool}{ms:List af}{j v v' k:Int}(h:c=dm (drS ms st j) (DRS w i st hits v) k)(hm:ms=(fAt w i).Mods)(hk:hits[v.toNat]?=some k)(hj:j=ms.length)(h0:0<=v)(hv:v'=v+1):c=DRS w i st hits v':=by subst hm;subst hj;unfold DRS at *;rw[h,dG hk h0 hv,xn];rfl
def Zjf{c:ak}{v:Int}{d:List Bool}{h:List (List Int)}{p q p' q':Prop}{hs hs':List Int}(es:c.s=w.s)(ef:c.forces=w.forces)(ht:c.traits=TRS w i st nums you hs v)(hd:c.dropped=DRS w i st hs v)(hdn:c.done=w.done)(hhn:c.hits=w.hits)(ed:p/\q/\d=c.done.set i.toNat true)(eh:p'/\q'/\h=c.hits.set i.toNat hs')(hh:hs'=cc w i)(hh':hs=hs')(hn:nums=fW w i st)(hy:you=dp w i)(hv:(hs.length:Int)<=v):(⟨c.s,c.forces,c.traits,c.dropped,d,h⟩:ak)=bY w i st:=by subst hh';subst hh;subst hn;subst hy;unfold TRS at ht;unfold DRS at hd;rw[c9 O]at ht hd;rw[es,ef,ht,hd,ed.2.2,eh.2.2,hdn,hhn];rfl
end
def Z0t(st:Int)(m:af):Bool:=m.Kind==11&&stV m.Kind==st&&fb m.Filter st
def dp_n{ms:List af}{st v w:Int}{m:af}(h:(ms.take v.toNat).any (Z0t st)=false)(hx:ms[v.toNat]?=some m)(h0:0<=v)(hw:w=v+1)(hp:Z0t st m=false):(ms.take w.toNat).any (Z0t st)=false:=TB
def dp_a{st:Int}{m:af}(h:¬m.Kind=11):Z0t st m=false:=by unfold Z0t;rw[show(m.Kind==11)=false by simpa using h];rfl
def dp_b{st g:Int}{m:af}(hg:g=stV m.Kind)(h:¬g=st):Z0t st m=false:=by unfold Z0t;rw[<- hg,show(g==st)=false by simpa using h];simp
def dp_c{st:Int}{m:af}{c:Bool}(hc:c=fb m.Filter st)(h:c=false):Z0t st m=false:=by unfold Z0t;rw[<- hc,h];simp
def de_y{w:ak}{i st v g:Int}{f:Z2}{m:af}{c:Bool}{ms:List af}(hf:w.forces[i.toNat]?=some f)(hm:ms=f.Mods)(hx:ms[v.toNat]?=some m)(hk:m.Kind=11)(hg:g=stV m.Kind)(hs:g=st)(hc:c=fb m.Filter st)(h:c=true):true=eW w i st:=by subst hm;have:(f.Mods.any λm=>m.Kind==11&&stV m.Kind==st&&fb m.Filter st)=true:=kP.2 ⟨m,bF hx,by rw[<- hg,hs,hk,<- hc,h];simp⟩;unfold eW;rw[jq hf,this];rfl
def de_e{w:ak}{i st v:Int}{f:Z2}{ms:List af}{r:Bool}(h:(ms.take v.toNat).any (Z0t st)=false)(hv:(ms.length:Int)<=v)(hf:w.forces[i.toNat]?=some f)(hm:ms=f.Mods)(hr:r=(!f.Fixed && !bA w.done i&&(decide (st=4)||fb f.Filter st))):r=eW w i st:=by subst hm;rw[c9 O]at h;unfold eW;rw[jq hf];show r=((f.Mods.any (Z0t st))||_);rw[h,hr];rfl
def de_1{f:Z2}{d:Bool}{st:Int}(h:f.Fixed=true):false=(!f.Fixed && !d&&(decide (st=4)||fb f.Filter st)):=by rw[h];rfl
def de_2{w:ak}{i st:Int}{f:Z2}{d:Bool}(hd:w.done[i.toNat]?=some d)(h:d=true):false=(!f.Fixed && !bA w.done i&&(decide (st=4)||fb f.Filter st)):=by rw[gQ hd,h];simp
def de_3{w:ak}{i st:Int}{f:Z2}{d:Bool}(hd:w.done[i.toNat]?=some d)(hF:f.Fixed=false)(h:d=false)(hs:st=4):true=(!f.Fixed && !bA w.done i&&(decide (st=4)||fb f.Filter st)):=by rw[gQ hd,h,hF,bd hs];rfl
def de_4{w:ak}{i st:Int}{f:Z2}{d c:Bool}(hc:c=fb f.Filter st)(hd:w.done[i.toNat]?=some d)(hF:f.Fixed=false)(h:d=false)(hs:¬st=4):c=(!f.Fixed && !bA w.done i&&(decide (st=4)||fb f.Filter st)):=by rw[gQ hd,h,hF,bl hs,hc];simp
def lk_e{w:ak}{i st:Int}{a:Bool}{b c:List Int}(h1:a=dz w i)(h2:b=cc w i)(h3:c=fW w i st):(⟨a,b,c⟩:bM)=fH w i st:=by rw[h1,h2,h3];rfl
def VZ:bM:=⟨false,[],[]⟩
def XU{α:Type}(n k:Int)(x:α):∀m:List (Int×α),dZ (dA m n x) k=if k=n then some x else dZ m k
 |[]=>by
  show(bif n==k then some x else none)=if k=n then some x else none;by_cases h:k=n
  .subst h;simp
  rw[aw h,show(n==k)=false by simpa using λe=>h e.symm];rfl
 |(a,b)::m=>by
  show dZ (bif a==n then(a,x)::m else(a,b)::dA m n x) k=_;by_cases h:a=n
  .subst h;rw[show(a==a)=true by simp,aB];show(bif a==k then some x else dZ m k)=if k=a then some x else(bif a==k then some b else dZ m k);by_cases hk:k=a
   .subst hk;simp
   rw[aw hk,show(a==k)=false by simpa using λe=>hk e.symm];rfl
  rw[show(a==n)=false by simpa using h,aD];show(bif a==k then some b else dZ (dA m n x) k)=if k=n then some x else(bif a==k then some b else dZ m k);rw[XU n k x m];by_cases hk:a=k
  .subst hk;simp[h]
  rw[show(a==k)=false by simpa using hk];rfl
def MPV(w:ak)(st:Int)(l:List Int)(v:Int)(m:List (Int×bM)):Prop:=∀k,dZ m k=if k∈l.take v.toNat/\eW w k st=true then some (fH w k st)else none
def mp_0{w:ak}{st:Int}{l:List Int}:MPV w st l 0 []:=λk=>by rw[aw ax];rfl
def mp_y{w:ak}{st v v' x:Int}{l:List Int}{m z:List (Int×bM)}{y:bM}{d:Bool}(h:MPV w st l v m)(e:z=dA m x y)(hx:l[v.toNat]?=some x)(h0:0<=v)(hv:v'=v+1)(hd:d=eW w x st)(hb:d=true)(hy:y=fH w x st):MPV w st l v' z:=λk=>by
 subst e;subst hy;rw[XU,dG hx h0 hv];by_cases hk:k=x
 .subst hk;rw[aq rfl,aq ⟨by simp,by rw[<- hd,hb]⟩]
 rw[aw hk,h k];simp[hk]
def mp_n{w:ak}{st v v' x:Int}{l:List Int}{m:List (Int×bM)}{d:Bool}(h:MPV w st l v m)(hx:l[v.toNat]?=some x)(h0:0<=v)(hv:v'=v+1)(hd:d=eW w x st)(hb:d=false):MPV w st l v' m:=λk=>by
 rw[h k,dG hx h0 hv];by_cases hk:k=x
 .subst hk;rw[aw (by rw[<- hd,hb];simp),aw (by rw[<- hd,hb];simp)]
 simp[hk]
def mp_e{w:ak}{st v:Int}{l:List Int}{m:List (Int×bM)}(h:MPV w st l v m)(hv:(l.length:Int)<=v):∀k,k∈l->dZ m k=if eW w k st=true then some (fH w k st)else none:=λk hk=>by rw[h k,c9 O];simp[hk]
def MPE(w:ak)(st:Int)(l:List Int)(m:List (Int×bM)):Prop:=∀k,k∈l->dZ m k=if eW w k st=true then some (fH w k st)else none
def Cn{w:ak}{st:Int}{l:List Int}{m:List (Int×bM)}{k:Int}{r:bM×Bool}(h:MPE w st l m)(hk:k∈l)(e:r=mlk m k VZ):r.2=eW w k st/\(r.2=true->r.1=fH w k st):=by
 subst e;unfold mlk;rw[h k hk];cases eW w k st with
 |true=>exact⟨rfl,λ_=>rfl⟩
 |false=>exact⟨rfl,λh=>by cases h⟩
def FLS(m:List (List Bool)):Prop:=∀r,r∈m->∀e,e∈r->e=false
def Zfu{m:List (List Bool)}{q:Prop}(h:q/\∀e,e∈m->e=[]):FLS m:=λr hr e he=>by rw[h.2 r hr]at he;cases he
def Zfv{m z:List (List Bool)}{y:List Bool}{p q r:Prop}(h:FLS m)(e:p/\(∀e,e∈z->e=y\/e∈m)/\r)(hy:q/\∀e,e∈y->e=false):FLS z:=λa ha e' he=>by
 rcases e.2.1 a ha with h1|h1
 .subst h1;exact hy.2 e' he
 exact h a h1 e' he
def xW{m:List (List Bool)}(h:FLS m)(x y:Int):nB m x y=false:=by
 unfold nB;cases hx:m[x.toNat]? with
 |none=>rfl
 |some r=>
  show(r[y.toNat]?).getD false=false;cases hy:r[y.toNat]? with
  |none=>rfl
  |some e=>exact h r (bF hx) e (bF hy)
def NDM(w:ak)(st:Int)(l:List Int)(m:List (List Bool)):Prop:=∀x y,x∈l->y∈l->nB m x y=ndB w st x y
def ZeO{w:ak}{st:Int}{l:List Int}{m:List (List Bool)}{v:List (Int×bM)}{n:Int}(h:FLS m)(g:MPV w st l n v)(hn:(l.length:Int)<=n)(hv:(v.length:Int)=0):NDM w st l m:=λx y hx _=>by
 have:v=[]:=dv O;subst this;have:=mp_e g hn x hx;have hd:eW w x st=false:=by
  cases hd:eW w x st with
  |false=>rfl
  |true=>rw[hd]at this;cases this
 rw[xW h];unfold ndB;rw[hd];simp
def ZeP{w:ak}{st:Int}{l:List Int}{m:List (List Bool)}(h:FLS m)(hl:(l.length:Int)<2):NDM w st l m:=λx y hx hy=>by
 have:x=y:=by
  match l,hl with
  |[],_=>cases hx
  |[a],_=>rw[dU]at hx hy;rw[hx,hy]
  |_::_::_,hl=>simp only[bw]at hl;omega
 subst this;rw[xW h];unfold ndB;simp
def ND2(w:ak)(st:Int)(l:List Int)(v u:Int)(m:List (List Bool)):Prop:=∀x y,x∈l->y∈l->nB m x y=if y∈l.take v.toNat\/(l[v.toNat]?=some y/\x∈l.take u.toNat)then ndB w st x y else false
def Ze6{w:ak}{st:Int}{l:List Int}{m:List (List Bool)}(h:FLS m):ND2 w st l 0 0 m:=λx y _ _=>by
 rw[xW h,aw];rintro(h|h)
 .simp at h
 simp at h
def Ze7{w:ak}{st v u v':Int}{l:List Int}{m:List (List Bool)}(h:ND2 w st l v u m)(hu:(l.length:Int)<=u){j:Int}(hj:l[v.toNat]?=some j)(h0:0<=v)(hv:v'=v+1):ND2 w st l v' 0 m:=λx y hx hy=>by
 rw[h x y hx hy,dG hj h0 hv,c9 (l:=l) (i:=u.toNat) O,hj];have e:((0:Int).toNat)=0:=rfl;simp only[e,List.take_zero,sE,and_false,or_false,b9,dU,aA,hx,jC];by_cases h1:y∈l.take v.toNat
 .simp [h1]
 by_cases h2:j=y
 .subst h2;simp[h1]
 have:¬y=j:=λe=>h2 e.symm;simp[h1,h2,this]
def ZeQ{w:ak}{st v u:Int}{l:List Int}{m:List (List Bool)}(h:ND2 w st l v u m)(hv:(l.length:Int)<=v):NDM w st l m:=λx y hx hy=>by rw[h x y hx hy,c9 O,aq (.inl hy)]
def WX{m:List (List Bool)}{i j x y:Int}{r:List Bool}{b:Bool}(h0:0<=i)(g0:0<=j)(x0:0<=x)(y0:0<=y)(hr:m[i.toNat]?=some r)(hj:j.toNat<r.length):nB (m.set i.toNat (r.set j.toNat b)) x y=if x=i/\y=j then b else nB m x y:=by
 have:=VV (a:=x.toNat) (b:=y.toNat) (v:=b) hr hj;have e:∀m:List (List Bool),nB m x y=mE m x.toNat y.toNat:=λ_=>rfl;rw[e,this,e];by_cases h:x=i/\y=j
 .rw [aq h,aq O]
 rw[aw h,aw O]
def Ze8{w W:ak}{st v u u' i j:Int}{l:List Int}{m z:List (List Bool)}{r:List Bool}{b:Bool}{q:bM×Bool}{vw:bM}{c:Bool}(h:ND2 w st l v u m)(hp:POS l)(e:z=m.set i.toNat (r.set j.toNat c))(hr:m[i.toNat]?=some r)(hq:r[j.toNat]?=some b)(hi:l[u.toNat]?=some i)(hj:l[v.toNat]?=some j)(h0:0<=u)(hu:u'=u+1)
 (hk:q.2=eW w i st/\(q.2=true->q.1=fH w i st)) (hb:q.2=true) (hne:¬i=j) (hW:W=bY w j st) (hv:vw=fH W i st) (hc:c=Z8m q.1 vw):ND2 w st l v u' z:=λx y hx hy=>by
 have hi':=bF hi;have hj':=bF hj;subst e;subst hW;subst hv;rw[WX (hp i hi') (hp j hj') (hp x hx) (hp y hy) hr (aJ.1 hq).1,dG hi h0 hu];have hn:c=ndB w st i j:=by unfold ndB;rw[hc,hk.2 hb,<- hk.1,hb,show(i==j)=false by simpa using hne];rfl
 by_cases hxy:x=i/\y=j
 .obtain⟨rfl,rfl⟩:=hxy;rw[aq ⟨rfl,rfl⟩,aq (.inr ⟨hj,by simp⟩),hn]
 rw[aw hxy,h x y hx hy,hj];by_cases hyj:y=j
 .have hxi:¬x=i:=λe=>hxy ⟨e,hyj⟩;simp[hxi]
 have:¬j=y:=λe=>hyj e.symm;simp[this]
def Rs{w:ak}{st v u u' i j:Int}{l:List Int}{m:List (List Bool)}{q:bM×Bool}(h:ND2 w st l v u m)(hi:l[u.toNat]?=some i)(hj:l[v.toNat]?=some j)(h0:0<=u)(hu:u'=u+1)
 (hk:q.2=eW w i st/\(q.2=true->q.1=fH w i st)) (hb:q.2=false\/i=j):ND2 w st l v u' m:=λx y hx hy=>by
 rw[h x y hx hy,dG hi h0 hu,hj];have hn:ndB w st i j=false:=by
  unfold ndB;rcases hb with hb|hb
  .rw [<- hk.1,hb];simp
  rw[hb];simp
 by_cases hxy:x=i/\y=j
 .obtain⟨rfl,rfl⟩:=hxy;rw[hn];simp
 by_cases hyj:y=j
 .have hxi:¬x=i:=λe=>hxy ⟨e,hyj⟩;simp[hxi]
 have:¬j=y:=λe=>hyj e.symm;simp[this]
def cg_a{a b:bM}(h:(a.active==b.active)=false):true=Z8m a b:=by unfold Z8m;rw[h];rfl
def cg_b{a b:bM}{c:Bool}(hc:c=true↔a.hits=b.hits)(h:c=false):true=Z8m a b:=by unfold Z8m;rw[show(a.hits==b.hits)=false by simpa using λe=>by rw[hc.2 e]at h;cases h];simp
def cg_c{a b:bM}{c d:Bool}(h0:(a.active==b.active)=true)(hc:c=true↔a.hits=b.hits)(h:c=true)(hd:d=true↔a.numbers=b.numbers):(!d)=Z8m a b:=by
 unfold Z8m;rw[show(a.hits==b.hits)=true by simpa using hc.1 h,h0];cases hdd:d with
 |true=>rw[show(a.numbers==b.numbers)=true by simpa using hd.1 hdd];rfl
 |false=>rw[show(a.numbers==b.numbers)=false by simpa using λe=>by rw[hd.2 e]at hdd;cases hdd];rfl
def ZfA{s s':ao}(h:bU s.Objects)(e:s'=s):bU s'.Objects:=by rw[e];exact h
def fa_m{w c:ak}{i:Int}{f:Z2}(h:c.forces[i.toNat]?=some f)(e:c.forces=w.forces):f.Mods=(fAt w i).Mods:=by rw[e]at h;rw[jq h]
def Zfo{a b:List Int}{v w x y:Int}(h:∀(k:Nat) x,(k:Int)<v->a[k]?=some x->b[k]?=some x)(hx:a[v.toNat]?=some x)(hy:b[v.toNat]?=some y)(e:x=y)(h0:0<=v)(hw:w=v+1):∀(k:Nat) x,(k:Int)<w->a[k]?=some x->b[k]?=some x:=λk z hk hz=>by
 by_cases hkv:(k:Int)<v
 .exact h k z hkv hz
 have:k=v.toNat:=aW
 subst this;rw[hy,<- e,<- cF (hx.symm.trans hz)]
def eq_y{a b:List Int}{v:Int}(h:∀(k:Nat) x,(k:Int)<v->a[k]?=some x->b[k]?=some x)(hl:a.length=b.length)(hv:(a.length:Int)<=v):true=true↔a=b:=⟨λ_=>gq λk=>by
 cases hx:a[k]? with
 |none=>have:=rX.1 hx;rw[ke O]
 |some x=>have:=(aJ.1 hx).1;rw[h k x O hx],λ_=>rfl⟩
def eq_n{a b:List Int}{k:Nat}{x y:Int}(hx:a[k]?=some x)(hy:b[k]?=some y)(hn:¬x=y):false=true↔a=b:=⟨λh=>absurd h wv,λh=>by subst h;exact absurd (cF (hx.symm.trans hy)) hn⟩
def XV{α:Type}{g:Nat->α->α}{l z:List α}{v:Int}{x:α}(h:z=l.mapIdx (bZ g (λ_ t=>t) v))(hx:z[v.toNat]?=some x)(h0:0<=v):l[v.toNat]?=some x:=by
 subst h;rw[dI]at hx;cases hl:l[v.toNat]? with
 |none=>rw[hl]at hx;cases hx
 |some y=>
  rw[hl]at hx;have hx:bZ g (λ_ t=>t) v v.toNat y=x:=cF hx;unfold bZ at hx;rw[aw O]at hx;exact fA some hx
def Cp{α:Type}{g:Nat->α->α}{l:List α}:l=l.mapIdx (bZ g (λ_ t=>t) 0):=by
 refine gq λj=>?_;rw[dI];cases l[j]? with
 |none=>rfl
 |some y=>show some y=some (bZ g _ 0 j y);unfold bZ;rw[aw O]
def ct_y{os:List aj}{l z z1 z2:List ae}{v w n a b:Int}{o:aj}{x:ae}{y:ae}{p q p' q':Prop}(h:z=l.mapIdx (bZ (ig os) (λ_ t=>t) v))(hx:z[v.toNat]?=some x)(ho:os[v.toNat]?=some o)(e1:p/\q/\z1=z.set v.toNat y)(e2:p'/\q'/\z2=z1.set v.toNat ⟨x.Name,x.Cost,x.Colors,x.Line,a,b,x.Keys,x.Abilities,x.Control⟩)(hn:n=pwV o.Counters)(ha:a=adV x.Power n)(hb:b=adV x.Tough n)(h0:0<=v)(hw:w=v+1)(hz:o.Zone=0)(ht:¬aQ .and .i64 x.Line.Types 1=0):z2=l.mapIdx (bZ (ig os) (λ_ t=>t) w):=by refine wP (z:=z) (XV h hx h0) h h0 hw (by rw[e2.2.2,e1.2.2,List.set_set]) ?_;unfold ig;rw[ho];show _=Z0q o x;unfold Z0q;rw[aq ⟨hz,ht⟩,ha,hb,hn]
def ct_n{os:List aj}{l z:List ae}{v w:Int}{o:aj}{x:ae}(h:z=l.mapIdx (bZ (ig os) (λ_ t=>t) v))(hx:z[v.toNat]?=some x)(ho:os[v.toNat]?=some o)(h0:0<=v)(hw:w=v+1)(hz:¬o.Zone=0\/aQ .and .i64 x.Line.Types 1=0):z=l.mapIdx (bZ (ig os) (λ_ t=>t) w):=by refine sC (XV h hx h0) h h0 hw ?_;unfold ig;rw[ho];show x=Z0q o x;unfold Z0q;rw[aw λk=>hz.elim (λe=>e k.1) k.2]
def cn_e{w c:ak}{os:List aj}{v:Int}(h:c.traits=w.traits.mapIdx (bZ (ig os) (λ_ t=>t) v))(hv:(os.length:Int)<=v)(hl:w.traits.length=w.s.Objects.length)(ho:os=w.s.Objects)(es:c.s=w.s)(ef:c.forces=w.forces)(ed:c.dropped=w.dropped)(edn:c.done=w.done)(eh:c.hits=w.hits):c=Z8n w:=by subst ho;have ht:=xL h O;obtain⟨a,b,c1,d,e,f⟩:=c;simp only at es ef ed edn eh ht;subst es;subst ef;subst ed;subst edn;subst eh;subst ht;rfl
def bl_n{ms:List af}{st v w:Int}{m:af}{c:Bool}(h:(ms.take v.toNat).any (λm=>stV m.Kind==st)=false)(hx:ms[v.toNat]?=some m)(h0:0<=v)(hw:w=v+1)(hc:c=(stV m.Kind==st))(hb:c=false):(ms.take w.toNat).any (λm=>stV m.Kind==st)=false:=by rw[dG hx h0 hw,C8,h];simp[<- hc,hb]
def bl_y{ms:List af}{st v:Int}{m:af}{c:Bool}(hx:ms[v.toNat]?=some m)(h0:0<=v)(hc:c=(stV m.Kind==st))(hb:c=true):decide (v>=0)=ms.any λm=>stV m.Kind==st:=by rw[bd h0,eq_comm,kP];exact⟨m,bF hx,by rw[<- hc,hb]⟩
def bl_e{ms:List af}{st v:Int}(h:(ms.take v.toNat).any (λm=>stV m.Kind==st)=false)(hv:(ms.length:Int)<=v):decide ((-1:Int)>=0)=ms.any λm=>stV m.Kind==st:=by rw[c9 O]at h;rw[h];rfl
def oW{α:Type}{l:List α}{z:α}{n:Int}{k:Nat}(h:(l.length:Int)=n/\∀e,e∈l->e=z)(hk:n=k):l=List.replicate k z:=List.eq_replicate_iff.2 ⟨by have:=h.1;omega,h.2⟩
def bg_e{cards:List an}{s:ao}{b:ak}{v:Int}{os:List aj}{d:List Bool}{h:List (List Int)}(ht:b.traits=(os.take v.toNat).map (baV cards))(hv:(os.length:Int)<=v)(ho:os=s.Objects)(es:b.s=s)(ef:b.forces=FS fL gL cards s)(ed:b.dropped=List.replicate s.Objects.length false)(hd:(d.length:Int)=(b.forces.length:Int)/\∀e,e∈d->e=false)(hh:(h.length:Int)=(b.forces.length:Int)/\∀e,e∈h->e=[]):(⟨b.s,b.forces,b.traits,b.dropped,d,h⟩:ak)=begV cards s:=by subst ho;rw[oW hd rfl,oW hh rfl,wx ht hv rfl,es,ef,ed];rfl
def WY{α:Type}{f:α->α}{n m:Nat}{x y:α}(h:y=itr f n x)(hm:m=n+1):f y=itr f m x:=by rw[hm,h];rfl
def STG(w0:ak)(st:Int)(w:ak)(left ord:List Int):Prop:=(w,left,ord)=itr (stF st (w0.forces.map λf=>f.Stamp)) ord.length (if st=7 then Z8n w0 else w0,Z33 w0.forces st,[])
def sg_0{w0 w:ak}{st:Int}{fs:List Z2}{left:List Int}{v:Int}(hw:w=if st=7 then Z8n w0 else w0)(hl:left=zfm (λ_ f=>belB f st) (λk _=>k) fs v)(hv:(fs.length:Int)<=v)(hf:fs=w0.forces){o:List Int}(ho:o.length=0):STG w0 st w left o:=by have:o=[]:=dv ho;subst this;subst hw;subst hf;rw[m8 hl hv];rfl
def sg_y{w0 w w':ak}{st i:Int}{left left' ord ord' sts:List Int}{m:List (List Bool)}(h:STG w0 st w left ord)(hs:sts=w0.forces.map λf=>f.Stamp)(hm:NDM w st left m)(hi:i=nxV left sts (nB m))(hw:w'=bY w i st)(hl:left'=left.filter (neI i))(ho:ord'=ord++[i]):STG w0 st w' left' ord':=by
 subst hs;have e:i=nxV left (w0.forces.map λf=>f.Stamp) (ndB w st):=by rw[hi];exact AU λx y hx hy _ _=>hm x y hx hy
 unfold STG at *;have:=WY (m:=ord'.length) h (by rw[ho,bk];rfl);rw[<- this,ho,hl,hw];unfold stF;simp only;rw[<- e]
def sg_e{w0 w:ak}{st:Int}{left ord:List Int}(h:STG w0 st w left ord)(hl:¬(left.length:Int)>0)(hn:ord.length+left.length=(Z33 w0.forces st).length):(ord,w)=Z34 w0 st:=by
 unfold STG at h;have:ord.length=(Z33 w0.forces st).length:=aW
 unfold Z34;rw[<- this,<- h]
def NT{l:List Int}(h:l.Nodup){i:Int}(hi:i∈l):(l.filter (neI i)).length+1=l.length:=by have:l.filter (neI i)=l.filter λy=>y != i:=List.filter_congr λy _=>rfl;rw[this];exact MU h hi
def sl_n{l l' o o':List Int}{i:Int}{n:Nat}(h:o.length+l.length=n)(hl:l'=l.filter (neI i))(ho:o'=o++[i])(hn:l.Nodup)(hi:i<0\/i∈l)(h0:¬i<0):o'.length+l'.length=n:=by have:=NT hn (hi.resolve_left h0);rw[hl,ho,bk,nn];omega
def nd_f{l l':List Int}{i:Int}(h:l.Nodup)(e:l'=l.filter (neI i)):l'.Nodup:=by rw[e];exact h.filter _
def ZeW{l:List Int}{i:Int}{sts:List Int}{N:Int->Int->Bool}(hi:i=nxV l sts N)(h:i<0)(hp:POS l)(hl:(l.length:Int)>0):False:=by obtain⟨x,hx⟩:=List.exists_mem_of_length_pos (show 0<l.length by omega);have:=(VY (left:=l) (st:=sts) (nd:=N) ⟨x,hx,hp x hx⟩).2;omega
def Zft{fs:List Z2}{z sts:List Int}{v w:Int}{f:Z2}(e:z=sts++[f.Stamp])(h:sts=(fs.take v.toNat).map λf=>f.Stamp)(m:fs[v.toNat]?=some f)(h0:0<=v)(hw:w=v+1):z=(fs.take w.toNat).map λf=>f.Stamp:=BN e h m rfl h0 hw
def wr_n{cards:List an}{s:ao}{w:ak}{r:List Int×ak}{v v':Int}(h:w=wrlV cards s (v-1).toNat)(hr:r=Z34 w v)(h0:1<=v)(hv:v'=v+1):r.2=wrlV cards s (v'-1).toNat:=by
 have e:(v'-1).toNat=(v-1).toNat+1:=aW
 have e2:(((v-1).toNat+1:Nat):Int)=v:=aW
 rw[e,hr,h];show _=(Z34 (wrlV cards s (v-1).toNat) (((v-1).toNat+1:Nat):Int)).2;rw[e2]
def nd_z{α:Type}{p:Int->α->Bool}{l:List α}{v:Int}{z:List Int}(h:z=zfm p (λk _=>k) l v):z.Nodup:=by rw[h];exact AQ
def sl_0{fs fs':List Z2}{st v:Int}{l o:List Int}(ho:o.length=0)(h:l=zfm (λ_ f=>belB f st) (λk _=>k) fs v)(hf:fs=fs')(hv:(fs.length:Int)<=v):o.length+l.length=(Z33 fs' st).length:=by subst hf;rw[ho,m8 h hv,aM];rfl
end Go.PW
set_option maxRecDepth 100000
namespace Go.PW
def ic(c:an):Prop:=0<=c.Line.Types/\c.Line.Types<=63/\0<=c.Power/\c.Power<=99/\0<=c.Tough/\c.Tough<=99
def Zkq:∀k:Fin 64,(Int.tmod (er .i64 (k.val:Int) 1) 2=1)↔¬aQ .and .i64 (k.val:Int) 1=0:=by decide+kernel
def ZcZ{t:Int}(h0:0<=t)(h1:t<=63):(Int.tmod (er .i64 t 1) 2=1)↔¬aQ .and .i64 t 1=0:=by have:=Zkq ⟨t.toNat,by omega⟩;simp only at this;rwa[j7 h0]at this
def ZcX{cards:List an}(h:∀c,c∈cards->ic c)(o:aj):0<=(baV cards o).Line.Types/\(baV cards o).Line.Types<=63/\0<=(baV cards o).Power/\(baV cards o).Power<=99/\0<=(baV cards o).Tough/\(baV cards o).Tough<=99:=by
 show 0<=(fS cards _).Line.Types/\(fS cards _).Line.Types<=63/\0<=(fS cards _).Power/\(fS cards _).Power<=99/\0<=(fS cards _).Tough/\(fS cards _).Tough<=99;generalize (if o.Copy<0 then o.Card else o.Copy)=i;by_cases h0:i<0
 .rw [sD (.inl h0)];decide
 cases hx:cards[i.toNat]? with
 |none=>rw[sD (.inr (by have:=rX.1 hx;omega))];decide
 |some c=>rw[Cq hx O];exact h c (bF hx)
end Go.PW
set_option maxRecDepth 100000
namespace Go.PW
def iN{w:au}{i:Int}{f:ba}(h:w.L[i.toNat]?=some f):gAt w i=f:=by unfold gAt;rw[h];rfl
section
variable {w:au} {i x:Int} {f:ba}
def yr_a(hf:w.L[i.toNat]?=some f)(h:f.Fixed=true):f.Control=eI w i:=by unfold eI;rw[iN hf,aq (.inl h)]
def yr_b(hf:w.L[i.toNat]?=some f)(hi:x=ixO w.S.Objects f.Source)(h:x<0):f.Control=eI w i:=by unfold eI;rw[iN hf,<- hi,aq (.inr h)]
def yr_c{t:ae}(hf:w.L[i.toNat]?=some f)(hi:x=ixO w.S.Objects f.Source)(ht:w.All[x.toNat]?=some t)(hF:f.Fixed=false)(h:¬x<0):t.Control=eI w i:=by unfold eI;rw[iN hf,<- hi,aw (λk=>k.elim (λe=>by rw[hF]at e;cases e) h),<- ub ht O]
def ar_a(hf:w.L[i.toNat]?=some f)(h:f.Fixed=true):true=ct w i:=by unfold ct;rw[iN hf,h];simp
def ar_b{d:Bool}(hd:w.Begun[i.toNat]?=some d)(h:d=true):true=ct w i:=by unfold ct;rw[gQ hd,h];simp
def ar_c(hf:w.L[i.toNat]?=some f)(hi:x=ixO w.S.Objects f.Source)(h:x<0):true=ct w i:=by unfold ct;rw[iN hf,<- hi,bd h];simp
def ar_d{d e:Bool}(hf:w.L[i.toNat]?=some f)(hi:x=ixO w.S.Objects f.Source)(hd:w.Begun[i.toNat]?=some d)(he:w.Blank[x.toNat]?=some e)(hF:f.Fixed=false)(h:d=false)(hx:¬x<0):(!e)=ct w i:=by unfold ct;rw[iN hf,<- hi,gQ hd,gQ he,hF,h,bl hx];simp
def hr_c{you k:Int}{o:aj}{c:Bool}(hz:o.Zone=0)(hF:f.Fixed=true)(hc:c=true↔o.Id∈f.Objects)(h:c=true):ia w f you k o=true:=by unfold ia;rw[hz,hF];simp[hc.1 h]
def hr_n{you k:Int}{o:aj}{c:Bool}(hF:f.Fixed=true)(hc:c=true↔o.Id∈f.Objects)(h:c=false):ia w f you k o=false:=by
 have:o.Id∉f.Objects:=λhm=>by rw[hc.2 hm]at h;cases h
 unfold ia;rw[hF];simp[this]
def hr_m{you you' k:Int}{o:aj}{c:Bool}{t:ae}(hm:c=gI o t you' f.Source f.Filter)(hy:you'=you)(ht:w.All[k.toNat]?=some t)(hz:o.Zone=0)(hF:f.Fixed=false)(h0:0<=k):ia w f you k o=c:=by subst hy;unfold ia;rw[hz,hF,<- ub ht O,hm];simp
def hr_z{you k:Int}{o:aj}(hz:¬o.Zone=0):ia w f you k o=false:=by unfold ia;rw[show(o.Zone==0)=false by simpa using hz];rfl
def fr_h{d:Bool}{h:List Int}(hd:w.Begun[i.toNat]?=some d)(hh:w.Sets[i.toNat]?=some h)(hb:d=true):h=cQ w i:=by unfold cQ;rw[gQ hd,hb,aq rfl,WW hh]
def fr_n{d a:Bool}(hd:w.Begun[i.toNat]?=some d)(ha:a=ct w i)(hb:d=false)(h:a=false):[]=cQ w i:=by unfold cQ;rw[gQ hd,hb,<- ha,h];rfl
def fr_l{v:Int}{z:List Int}(h:z=zfm (ia w f (eI w i)) (λ_ o=>o.Id) w.S.Objects v)(hv:(w.S.Objects.length:Int)<=v)(hf:w.L[i.toNat]?=some f)(ha:ct w i=true)(hd:bA w.Begun i=false):z=cQ w i:=by unfold cQ;rw[hd,ha,iN hf];exact m8 h hv
def nrP(w:au)(i:Int)(f:ba)(st v:Int):List Int:=((f.Mods.take v.toNat).filter λm=>stV m.Kind==st).map (fV w.S w.All (eI w i) f.Source st)
def nr_0{st:Int}:[]=nrP w i f st 0:=by simp[nrP]
def nr_n{st v v' g:Int}{z:List Int}{m:af}(h:z=nrP w i f st v)(hx:f.Mods[v.toNat]?=some m)(h0:0<=v)(hv:v'=v+1)(hg:g=stV m.Kind)(hs:¬g=st):z=nrP w i f st v':=by unfold nrP at *;rw[dG hx h0 hv,iI,fi,<- h,gK,aw sS];simp
def nr_y{st v v' g n:Int}{z z':List Int}{m:af}(h:z=nrP w i f st v)(hz:z'=z++[n])(hx:f.Mods[v.toNat]?=some m)(h0:0<=v)(hv:v'=v+1)(hg:g=stV m.Kind)(hs:g=st)(hn:n=fV w.S w.All (eI w i) f.Source st m):z'=nrP w i f st v':=by subst hn;unfold nrP at *;rw[dG hx h0 hv,iI,fi,<- h,gK,aq sS,hz];rfl
def nr_e{st v:Int}{z:List Int}(h:z=nrP w i f st v)(hv:(f.Mods.length:Int)<=v)(hf:w.L[i.toNat]?=some f):z=fu w i st:=by unfold nrP at h;unfold fu;rw[h,iN hf,c9 O]
end
def cnS(f:ba)(st v:Int):Nat:=cnt (λm:af=>stV m.Kind==st) f.Mods v
def Za7{w:au}{i st:Int}{f:ba}{z:List Int}(h:z=fu w i st)(hf:w.L[i.toNat]?=some f):z.length=(f.Mods.filter λm=>stV m.Kind==st).length:=by rw[h];unfold fu;rw[iN hf,cK]
def MFR(f:ba)(nums:List Int)(you st:Int)(t0:ae)(v:Int)(t:ae)(n:Int):Prop:=(t,n)=(f.Mods.take v.toNat).foldl (mfR1 nums you st) (t0,0)
def mr_0{f:ba}{nums:List Int}{you st:Int}{t:ae}:MFR f nums you st t 0 t 0:=rfl
def mr_n{f:ba}{nums:List Int}{you st v v' g n:Int}{t0 t:ae}{m:af}(h:MFR f nums you st t0 v t n)(hx:f.Mods[v.toNat]?=some m)(h0:0<=v)(hv:v'=v+1)(hg:g=stV m.Kind)(hs:¬g=st):MFR f nums you st t0 v' t n:=by unfold MFR at *;rw[<- Z2e hx h0 hv h];unfold mfR1;rw[<- hg,aw hs]
def mr_y{f:ba}{nums:List Int}{you st v v' g n n' k:Int}{t0 t t':ae}{m:af}(h:MFR f nums you st t0 v t n)(hx:f.Mods[v.toNat]?=some m)(hk:nums[n.toNat]?=some k)(ht:t'=apV t m you k)(h0:0<=v)(hv:v'=v+1)(hn:n'=n+1)(hg:g=stV m.Kind)(hs:g=st):MFR f nums you st t0 v' t' n':=by unfold MFR at *;rw[<- Z2e hx h0 hv h];unfold mfR1;rw[<- hg,aq hs];simp only;rw[hk,ht,hn];rfl
def mr_e{f:ba}{nums:List Int}{you st v n:Int}{t0 t:ae}(h:MFR f nums you st t0 v t n)(hv:(f.Mods.length:Int)<=v):t=mfR f.Mods nums you st t0:=by unfold MFR at h;unfold mfR;rw[c9 O]at h;rw[<- h]
def cs_y{f:ba}{st v v' g n n':Int}{m:af}(h:n=cnS f st v)(hx:f.Mods[v.toNat]?=some m)(h0:0<=v)(hv:v'=v+1)(hg:g=stV m.Kind)(hs:g=st)(hn:n'=n+1):n'=cnS f st v':=by unfold cnS at *;rw[Nc hx h0 sS hv];omega
def cs_n{f:ba}{st v v' g n:Int}{m:af}(h:n=cnS f st v)(hx:f.Mods[v.toNat]?=some m)(h0:0<=v)(hv:v'=v+1)(hg:g=stV m.Kind)(hs:¬g=st):n=cnS f st v':=by unfold cnS at *;rw[ZbO hx h0 sS hv];exact h
def Za2{f:ba}{st v g n:Int}{m:af}{l:List Int}(h:n=cnS f st v)(hl:l.length=(f.Mods.filter λm=>stV m.Kind==st).length)(hx:f.Mods[v.toNat]?=some m)(h0:0<=v)(hg:g=stV m.Kind)(hs:g=st):0<=n/\n<(l.length:Int):=by have:=ZbP (p:=λm:af=>stV m.Kind==st) hx h0 sS;unfold cnS at h;omega
def drP(st:Int)(m:af):Bool:=m.Kind==10&&stV m.Kind==st
def blP(st:Int)(m:af):Bool:=stV m.Kind==st
def an_n{p:af->Bool}{ms:List af}{v w:Int}{m:af}(h:(ms.take v.toNat).any p=false)(hx:ms[v.toNat]?=some m)(h0:0<=v)(hw:w=v+1)(hp:p m=false):(ms.take w.toNat).any p=false:=TB
def an_y{p:af->Bool}{ms:List af}{v:Int}{m:af}(hx:ms[v.toNat]?=some m)(hp:p m=true):true=ms.any p:=(kP.2 ⟨m,bF hx,hp⟩).symm
def an_e{p:af->Bool}{ms:List af}{v:Int}(h:(ms.take v.toNat).any p=false)(hv:(ms.length:Int)<=v):false=ms.any p:=by rw[c9 O]at h;exact h.symm
def dq_y{st g:Int}{m:af}(hk:m.Kind=10)(hg:g=stV m.Kind)(hs:g=st):drP st m=true:=by unfold drP;rw[<- hg,hs,hk];simp
def dq_a{st:Int}{m:af}(hk:¬m.Kind=10):drP st m=false:=by unfold drP;rw[show(m.Kind==10)=false by simpa using hk];rfl
def dq_b{st g:Int}{m:af}(hg:g=stV m.Kind)(hs:¬g=st):drP st m=false:=by unfold drP;rw[<- hg,show(g==st)=false by simpa using hs];simp
def bq_y{st g:Int}{m:af}(hg:g=stV m.Kind)(hs:g=st):blP st m=true:=by unfold blP;rw[<- hg,hs];simp
def bq_n{st g:Int}{m:af}(hg:g=stV m.Kind)(hs:¬g=st):blP st m=false:=by unfold blP;rw[<- hg];simpa using hs
def aG(os:List aj)(set:List Int)(f:ba)(nums:List Int)(you st:Int)(k:Nat)(t:ae):ae:=if inS os set k then mfR f.Mods nums you st t else t
def bG(os:List aj)(set:List Int)(f:ba)(st:Int)(k:Nat)(b:Bool):Bool:=if inS os set k&&drR f.Mods st then true else b
def in_y{os:List aj}{set:List Int}{v:Int}{o:aj}{c:Bool}(ho:os[v.toNat]?=some o)(hc:c=true↔o.Id∈set):inS os set v.toNat=c:=by
 unfold inS;rw[ho];show set.contains o.Id=c;cases hcc:c with
 |true=>simpa using hc.1 hcc
 |false=>simpa using λh=>by rw[hc.2 h]at hcc;cases hcc
section
variable {os:List aj} {set nums:List Int} {f f':ba} {you st v v':Int} {o:aj} {c:Bool}
def ga_n{l z:List ae}(h:z=l.mapIdx (bZ (aG os set f nums you st) (λ_ t=>t) v))(hl:(l.length:Int)=os.length)(ho:os[v.toNat]?=some o)(hc:c=true↔o.Id∈set)(h0:0<=v)(hv:v'=v+1)(hb:c=false):z=l.mapIdx (bZ (aG os set f nums you st) (λ_ t=>t) v'):=by have hlt:=(aJ.1 ho).1;exact sC (bg (show v.toNat<l.length by omega)) h h0 hv (by unfold aG;rw[in_y ho hc,hb];rfl)
def ga_y{l z z':List ae}{x y:ae}{p q:Prop}(h:z=l.mapIdx (bZ (aG os set f nums you st) (λ_ t=>t) v))(e:p/\q/\z'=z.set v.toNat y)(hx:l[v.toNat]?=some x)(hy:y=mfR f'.Mods nums you st x)(hf:f'=f)(ho:os[v.toNat]?=some o)(hc:c=true↔o.Id∈set)(h0:0<=v)(hv:v'=v+1)(hb:c=true):z'=l.mapIdx (bZ (aG os set f nums you st) (λ_ t=>t) v'):=by subst hf;exact wP hx h h0 hv e.2.2 (by unfold aG;rw[in_y ho hc,hb,hy];rfl)
def gb_n{l z:List Bool}{d:Bool}(h:z=l.mapIdx (bZ (bG os set f st) (λ_ t=>t) v))(hl:(l.length:Int)=os.length)(ho:os[v.toNat]?=some o)(hc:c=true↔o.Id∈set)(h0:0<=v)(hv:v'=v+1)(hb:c=false\/(d=drR f'.Mods st/\f'=f/\d=false)):z=l.mapIdx (bZ (bG os set f st) (λ_ t=>t) v'):=by
 have hlt:=(aJ.1 ho).1;refine sC (bg (show v.toNat<l.length by omega)) h h0 hv ?_;unfold bG;rw[in_y ho hc];rcases hb with hb|⟨hd,hf,hb⟩
 .rw [hb];rfl
 subst hf;rw[<- hd,hb];simp
def gb_m{l z:List Bool}(h:z=l.mapIdx (bZ (bG os set f st) (λ_ t=>t) v))(hl:(l.length:Int)=os.length)(ho:os[v.toNat]?=some o)(hc:c=true↔o.Id∈set)(h0:0<=v)(hv:v'=v+1)(hb:c=false):z=l.mapIdx (bZ (bG os set f st) (λ_ t=>t) v'):=gb_n (d:=false) (f':=f) h hl ho hc h0 hv (.inl hb)
def gb_y{l z z':List Bool}{d:Bool}{p q:Prop}(h:z=l.mapIdx (bZ (bG os set f st) (λ_ t=>t) v))(e:p/\q/\z'=z.set v.toNat true)(hl:(l.length:Int)=os.length)(hd:d=drR f'.Mods st)(hf:f'=f)(ho:os[v.toNat]?=some o)(hc:c=true↔o.Id∈set)(h0:0<=v)(hv:v'=v+1)(hb:c=true)(hdd:d=true):z'=l.mapIdx (bZ (bG os set f st) (λ_ t=>t) v'):=by subst hf;have hlt:=(aJ.1 ho).1;refine wP (bg (show v.toNat<l.length by omega)) h h0 hv e.2.2 ?_;unfold bG;rw[in_y ho hc,hb,<- hd,hdd];rfl
end
def ra_e{w c:au}{i st v you:Int}{set nums:List Int}(hs:c.S=w.S)(hL:c.L=w.L)(hA:c.All=w.All.mapIdx (bZ (aG w.S.Objects set (gAt w i) nums you st) (λ_ t=>t) v))(hB:c.Blank=w.Blank.mapIdx (bZ (bG w.S.Objects set (gAt w i) st) (λ_ t=>t) v))(hb:c.Begun=w.Begun.set i.toNat true)(hS:c.Sets=w.Sets.set i.toNat set)(h1:set=cQ w i)(h2:nums=fu w i st)(h3:you=eI w i)(ha:ct w i=true)(lA:w.All.length=w.S.Objects.length)(lB:w.Blank.length=w.S.Objects.length)(hv:(w.S.Objects.length:Int)<=v):c=cO w i st:=by subst h1;subst h2;subst h3;replace hA:=xL hA O;replace hB:=xL hB O;unfold cO;rw[aq ha];obtain⟨a,b,d,e,f,g⟩:=c;simp only at hs hL hA hB hb hS;subst hs;subst hL;subst hA;subst hB;subst hb;subst hS;rfl
def ra_n{w:au}{i st:Int}{a:Bool}(ha:a=ct w i)(h:a=false):w=cO w i st:=by unfold cO;rw[aw (by rw[<- ha,h];simp)]
def Ze9{w:au}{st i j:Int}(h:i=j):false=ndR w st i j:=by unfold ndR;rw[show(i==j)=true by simpa using h];rfl
section
variable {w W:au} {st i j:Int} {a b c d:Bool} {x y z u:List Int}
def nd_a(hW:W=cO w j st)(h:¬i=j)(ha:a=ct w i)(hb:b=ct W i)(hn:(a==b)=false):true=ndR w st i j:=by subst hW;unfold ndR;rw[show(i==j)=false by simpa using h,<- ha,<- hb,hn];rfl
def nd_b(hW:W=cO w j st)(h:¬i=j)(hx:x=cQ w i)(hy:y=cQ W i)(hc:c=true↔x=y)(hn:c=false):true=ndR w st i j:=by subst hW;unfold ndR;rw[show(i==j)=false by simpa using h,<- hx,<- hy,show(x==y)=false by simpa using λe=>by rw[hc.2 e]at hn;cases hn];simp
def nd_c(hW:W=cO w j st)(h:¬i=j)(ha:a=ct w i)(hb:b=ct W i)(hab:(a==b)=true)(hx:x=cQ w i)(hy:y=cQ W i)(hc:c=true↔x=y)(hcc:c=true)(hz:z=fu w i st)(hu:u=fu W i st)(hd:d=true↔z=u):(!d)=ndR w st i j:=by
 subst hW;unfold ndR;rw[show(i==j)=false by simpa using h,<- ha,<- hb,hab,<- hx,<- hy,<- hz,<- hu,show(x==y)=true by simpa using hc.1 hcc];cases hdd:d with
 |true=>rw[show(z==u)=true by simpa using hd.1 hdd];rfl
 |false=>rw[show(z==u)=false by simpa using λe=>by rw[hd.2 e]at hdd;cases hdd];rfl
end
def NR2(w:au)(st:Int)(l:List Int)(v u:Int)(m:List (List Bool)):Prop:=∀x y,x∈l->y∈l->nB m x y=if x∈l.take v.toNat\/(l[v.toNat]?=some x/\y∈l.take u.toNat)then ndR w st x y else false
def ZeZ{w:au}{st:Int}{l:List Int}{m:List (List Bool)}(h:FLS m):NR2 w st l 0 0 m:=λx y _ _=>by
 rw[xW h,aw];rintro(h|h)
 .simp at h
 simp at h
def Zkv{w:au}{st v u v':Int}{l:List Int}{m:List (List Bool)}{j:Int}(h:NR2 w st l v u m)(hj:l[v.toNat]?=some j)(hu:(l.length:Int)<=u)(h0:0<=v)(hv:v'=v+1):NR2 w st l v' 0 m:=λx y hx hy=>by
 rw[h x y hx hy,dG hj h0 hv,c9 (l:=l) (i:=u.toNat) O,hj];have e:((0:Int).toNat)=0:=rfl;simp only[e,List.take_zero,sE,and_false,or_false,b9,dU,aA,hy,jC];by_cases h1:x∈l.take v.toNat
 .simp [h1]
 by_cases h2:j=x
 .subst h2;simp[h1]
 have:¬x=j:=λe=>h2 e.symm;simp[h1,h2,this]
def Zfn{w:au}{st v u u' i j:Int}{l:List Int}{m z:List (List Bool)}{r:List Bool}{b c:Bool}(h:NR2 w st l v u m)(e:z=m.set i.toNat (r.set j.toNat c))(hr:m[i.toNat]?=some r)(hq:r[j.toNat]?=some b)(hi:l[v.toNat]?=some i)(hj:l[u.toNat]?=some j)(hc:c=ndR w st i j)(hp:POS l)(h0:0<=u)(hu:u'=u+1):NR2 w st l v u' z:=λx y hx hy=>by
 have hi':=bF hi;have hj':=bF hj;subst e;rw[WX (hp i hi') (hp j hj') (hp x hx) (hp y hy) hr (aJ.1 hq).1,dG hj h0 hu];by_cases hxy:x=i/\y=j
 .obtain⟨rfl,rfl⟩:=hxy;rw[aq ⟨rfl,rfl⟩,aq (.inr ⟨hi,by simp⟩),hc]
 rw[aw hxy,h x y hx hy,hi];by_cases hxi:x=i
 .have hyj:¬y=j:=λe=>hxy ⟨hxi,e⟩;simp[hyj]
 have:¬i=x:=λe=>hxi e.symm;simp[this]
def Zbp{w:au}{st v u r:Int}{l sts:List Int}{m:List (List Bool)}(h:NR2 w st l v u m)(hv:(l.length:Int)<=v)(hr:r=nxV l sts (nB m))(hs:sts=w.L.map λf=>f.Stamp):r=nxV l (w.L.map λf=>f.Stamp) (ndR w st):=by subst hs;rw[hr];refine AU λx y hx hy _ _=>?_;rw[h x y hx hy,c9 O,aq (.inl hx)]
def Zfz{m z:List (List Bool)}{y:List Bool}{q:Prop}(h:FLS m)(e:z=m++[y])(hy:q/\∀e,e∈y->e=false):FLS z:=λa ha e' he=>by
 subst e;rcases b9.1 ha with h1|h1
 .exact h a h1 e' he
 rw[dU]at h1;subst h1;exact hy.2 e' he
def Zfy:FLS []:=λa ha=>by cases ha
def RWt(l:List Int)(nd:List (List Bool))(x v:Int):Prop:=∀(k:Nat) y,(k:Int)<v->l[k]?=some y->y≠x->nB nd x y=true->Lds l (λp q=>nB nd p q=true) y x
def rw_0{l:List Int}{nd:List (List Bool)}{x:Int}:RWt l nd x 0:=λk y hk=>aW
def RWI(l:List Int)(nd:List (List Bool))(i v:Int)(b:Bool):Prop:=∀x,l[i.toNat]?=some x->(b=true↔RWt l nd x v)
def Ze1{l:List Int}{nd:List (List Bool)}{i:Int}:RWI l nd i 0 true:=λx _=>⟨λ_=>rw_0,λ_=>rfl⟩
def D9{l:List Int}{nd:List (List Bool)}{i v v' x y:Int}{b:Bool}{P:Prop}(h:RWI l nd i v b)(h0:0<=v)(hv:v'=v+1)(hy:l[v.toNat]?=some y)(hx:l[i.toNat]?=some x)(hp:y≠x->nB nd x y=true->Lds l (λp q=>nB nd p q=true) y x):RWI l nd i v' b:=λz hz=>by
 have:=cF (hz.symm.trans hx);subst this;rw[h z hz];refine⟨λk j w hj hw hne hb=>?_,λk j w hj hw=>k j w O hw⟩;by_cases hjv:(j:Int)<v
 .exact k j w hjv hw hne hb
 have:j=v.toNat:=aW
 subst this;have:=cF (hw.symm.trans hy);subst this;exact hp hne hb
def Zkw{l:List Int}{nd:List (List Bool)}{i v v' x y:Int}(h0:0<=v)(hv:v'=v+1)(hy:l[v.toNat]?=some y)(hx:l[i.toNat]?=some x)(hne:y≠x)(hb:nB nd x y=true)(hp:¬Lds l (λp q=>nB nd p q=true) y x):RWI l nd i v' false:=λz hz=>by have:=cF (hz.symm.trans hx);subst this;exact⟨λk=>absurd k wv,λk=>absurd (k v.toNat y O hy hne hb) hp⟩
def Ru{l:List Int}{nd:List (List Bool)}{i v x:Int}{b:Bool}(h:RWI l nd i v b)(hv:(l.length:Int)<=v)(hx:l[i.toNat]?=some x):rdB l (nB nd) x=b:=by
 have key:RWt l nd x v↔RDL l (nB nd) x:=⟨λk j hj hne hb=>by obtain⟨n,hn⟩:=List.mem_iff_getElem?.1 hj;have:=(aJ.1 hn).1;exact k n j O hn hne hb,λk n y _ hy hne hb=>k y (bF hy) hne hb⟩;have:=h x hx;cases hb:b with
 |true=>exact tC (key.1 (this.1 hb))
 |false=>exact xK λk=>by rw[this.2 (key.2 k)]at hb;cases hb
def Zkx{l:List Int}(h:l.Nodup){i j:Int}{x y:Int}(hx:l[i.toNat]?=some x)(hy:l[j.toNat]?=some y)(h0:0<=i)(g0:0<=j)(hn:¬j=i):y≠x:=λe=>by subst e;have:=Aw h hx hy;omega
def Ze2{l r:List Int}{nd:List (List Bool)}{i v v' x y:Int}{b b' c:Bool}(h:RWI l nd i v b)(hx:l[i.toNat]?=some x)(hy:l[v.toNat]?=some y)(hb:b'=nB nd x y)(hbt:b'=true)(hr:Rch l (λp q=>nB nd p q=true) y r)(hc:c=true↔x∈r)(hcf:c=false)(hn:l.Nodup)(hne:¬v=i)(h0:0<=v)(i0:0<=i)(hv:v'=v+1):RWI l nd i v' false:=Zkw h0 hv hy hx (Zkx hn hx hy i0 h0 hne) (by rw[<- hb,hbt]) λk=>by rw[hc.2 ((hr.lds x).2 k)]at hcf;cases hcf
def Ze3{l r:List Int}{nd:List (List Bool)}{i v v' x y:Int}{b c:Bool}(h:RWI l nd i v b)(hx:l[i.toNat]?=some x)(hy:l[v.toNat]?=some y)(hr:Rch l (λp q=>nB nd p q=true) y r)(hc:c=true↔x∈r)(hct:c=true)(h0:0<=v)(hv:v'=v+1):RWI l nd i v' b:=D9 (P:=True) h h0 hv hy hx λ_ _=>(hr.lds x).1 (hc.1 hct)
def Ze4{l:List Int}{nd:List (List Bool)}{i v v' x y:Int}{b b':Bool}(h:RWI l nd i v b)(hx:l[i.toNat]?=some x)(hy:l[v.toNat]?=some y)(hb:b'=nB nd x y)(hbf:b'=false)(h0:0<=v)(hv:v'=v+1):RWI l nd i v' b:=D9 (P:=True) h h0 hv hy hx λ_ k=>by rw[<- hb,hbf]at k;cases k
def Ze5{l:List Int}{nd:List (List Bool)}{i v v':Int}{b:Bool}(h:RWI l nd i v b)(he:v=i)(h0:0<=v)(hi:v<(l.length:Int))(hv:v'=v+1):RWI l nd i v' b:=by have hx:=bg (show v.toNat<l.length by omega);subst he;exact D9 (P:=True) h h0 hv hx hx λk=>absurd rfl k
def Zfg{l acc:List Int}{nd:List (List Bool)}{i v w:Int}{b:Bool}(h:acc=(l.take i.toNat).filter (rdB l (nB nd)))(g:RWI l nd i v b)(hb:b=false)(hv:(l.length:Int)<=v)(h0:0<=i)(hi:i<(l.length:Int))(hw:w=i+1):acc=(l.take w.toNat).filter (rdB l (nB nd)):=by have hx:=bg (show i.toNat<l.length by omega);exact Az hx h h0 ((Ru g hv hx).trans hb) hw
def ZfD{a b:List Int}(h:b=elV a):b.Nodup:=by rw[h];exact DN a
def Zbm{a b:List Int}{N:Int->Int->Bool}(h:b=rdV (elV a) N):POS b:=λx hx=>by rw[h]at hx;exact V2 a x (iJ.1 hx).1
def Co{α β:Type}{f:Nat->α->β}{l:List α}{z z':List β}{v w:Int}{x:α}{y:β}(h:z=(l.take v.toNat).mapIdx f)(hz:z'=z++[y])(hx:l[v.toNat]?=some x)(hy:y=f v.toNat x)(h0:0<=v)(hw:w=v+1):z'=(l.take w.toNat).mapIdx f:=by have hlt:=(aJ.1 hx).1;rw[dG hx h0 hw,List.mapIdx_append,<- h,hz,hy];simp only[List.mapIdx_cons,List.mapIdx_nil,eT,aM];rw[oE O]
def cu_y{os:List aj}{v n a b:Int}{o:aj}{x:ae}(ho:os[v.toNat]?=some o)(hn:n=pwV o.Counters)(ha:a=adV x.Power n)(hb:b=adV x.Tough n)(hz:o.Zone=0)(ht:Int.tmod (er .i64 x.Line.Types 1) 2=1):(⟨x.Name,x.Cost,x.Colors,x.Line,a,b,x.Keys,x.Abilities,x.Control⟩:ae)=Z8o os v.toNat x:=by unfold Z8o;rw[ho];show _=cnuT o x;unfold cnuT;rw[aq ⟨hz,ht⟩,ha,hb,hn]
def cu_n{os:List aj}{v:Int}{o:aj}{x:ae}(ho:os[v.toNat]?=some o)(hz:¬o.Zone=0\/¬Int.tmod (er .i64 x.Line.Types 1) 2=1):x=Z8o os v.toNat x:=by unfold Z8o;rw[ho];show x=cnuT o x;unfold cnuT;rw[aw λk=>hz.elim (λe=>e k.1) λe=>e k.2]
def cu_e{w c:au}{v:Int}(h:c.All=(w.All.take v.toNat).mapIdx (Z8o w.S.Objects))(hv:(w.All.length:Int)<=v)(es:c.S=w.S)(eL:c.L=w.L)(eb:c.Begun=w.Begun)(eS:c.Sets=w.Sets)(eB:c.Blank=w.Blank):c=Z0r w:=by rw[c9 O]at h;obtain⟨a,b,d,e,f,g⟩:=c;simp only at es eL eb eS eB h;subst es;subst eL;subst eb;subst eS;subst eB;subst h;rfl
def STR(w0:au)(st:Int)(w:au)(left ord:List Int):Prop:=(w,left,ord)=itr (stFR st (w0.L.map λf=>f.Stamp)) ord.length (if st=7 then Z0r w0 else w0,belS w0.L st,[])
def sr_0{w0 w:au}{st:Int}{left o:List Int}{v:Int}(hw:w=if st=7 then Z0r w0 else w0)(hl:left=zfm (λ_ f=>belR f st) (λk _=>k) w.L v)(hv:(w.L.length:Int)<=v)(ho:o.length=0)(hf:w.L=w0.L):STR w0 st w left o:=by have:o=[]:=dv ho;subst this;rw[m8 hl hv,hf,hw];rfl
def sr_y{w0 w w':au}{st i:Int}{left left' ord ord':List Int}(h:STR w0 st w left ord)(hi:i=nxV left (w.L.map λf=>f.Stamp) (ndR w st))(hw:w'=cO w i st)(hl:left'=left.filter (λy=>y != i))(ho:ord'=ord++[i])(hL:w.L=w0.L):STR w0 st w' left' ord':=by rw[hL]at hi;unfold STR at *;have:=WY (m:=ord'.length) h (by rw[ho,bk];rfl);rw[<- this,ho,hl,hw];unfold stFR;simp only;rw[<- hi]
def sr_e{w0 w:au}{st:Int}{left ord:List Int}(h:STR w0 st w left ord)(hn:ord.length=(belS w0.L st).length):(w,ord)=Z0s w0 st:=by unfold STR at h;unfold Z0s;rw[<- hn,<- h]
def rr_n{cards:List an}{s:ao}{w:au}{r:au×List Int}{v v':Int}(h:w=wrlR cards s (v-1).toNat)(hr:r=Z0s w v)(h0:1<=v)(hv:v'=v+1):r.1=wrlR cards s (v'-1).toNat:=by
 have e:(v'-1).toNat=(v-1).toNat+1:=aW
 have e2:(((v-1).toNat+1:Nat):Int)=v:=aW
 rw[e,hr,h];show _=(Z0s (wrlR cards s (v-1).toNat) (((v-1).toNat+1:Nat):Int)).1;rw[e2]
def br_e{cards:List an}{s:ao}{b:au}{v:Int}{d e:List Bool}{h:List (List Int)}(ht:b.All=(s.Objects.take v.toNat).map (baV cards))(hv:(s.Objects.length:Int)<=v)(es:b.S=s)(ef:b.L=FS fR gR cards s)(hd:(d.length:Int)=(b.L.length:Int)/\∀e,e∈d->e=false)(hh:(h.length:Int)=(b.L.length:Int)/\∀e,e∈h->e=[])(he:(e.length:Int)=(s.Objects.length:Int)/\∀x,x∈e->x=false):(⟨b.S,b.All,b.L,d,h,e⟩:au)=begR cards s:=by rw[oW hd rfl,oW hh rfl,oW he rfl,wx ht hv rfl,es,ef];rfl
def ap_s{α:Type}{l z z':List α}{k:Nat}{y:α}{p q:Prop}(e:p/\q/\z'=z.set k y)(h:z=[]++l):z'=l.set k y:=by rw[e.2.2,h];rfl
def ga_0{os:List aj}{set nums:List Int}{f:ba}{you st:Int}{l z:List ae}(h:z=[]++l):z=l.mapIdx (bZ (aG os set f nums you st) (λ_ t=>t) 0):=by rw[h];exact Cp
def gb_0{os:List aj}{set:List Int}{f:ba}{st:Int}{l z:List Bool}(h:z=[]++l):z=l.mapIdx (bZ (bG os set f st) (λ_ t=>t) 0):=by rw[h];exact Cp
def Ze0{w:au}{st v u v':Int}{l:List Int}{m:List (List Bool)}(h:NR2 w st l v u m)(hu:(l.length:Int)<=u)(h0:0<=v)(hl:v<(l.length:Int))(hv:v'=v+1):NR2 w st l v' 0 m:=Zkv h (bg (show v.toNat<l.length by omega)) hu h0 hv
def Zbw{w r:au}(h:r=Z0r w):r.All.length=w.All.length/\r.S.Objects.length=w.S.Objects.length/\r.L.length=w.L.length/\r.Begun.length=w.Begun.length/\r.Sets.length=w.Sets.length/\r.Blank.length=w.Blank.length:=by subst h;exact⟨List.length_mapIdx,rfl,rfl,rfl,rfl,rfl⟩
def MT{l sts:List Int}{r:Int}{N:Int->Int->Bool}(h:r=nxV l sts N)(hp:POS l)(hl:0<l.length):r∈l:=by obtain⟨x,hx⟩:=List.exists_mem_of_length_pos hl;rw[h];exact(VY ⟨x,hx,hp x hx⟩).1
def Zfx{l l':List Int}{i:Int}(h:l.Nodup)(e:l'=l.filter λy=>y != i):l'.Nodup:=by rw[e];exact h.filter _
def Zfs{n n':Nat}{l l':List Int}{i:Int}(h:INR n l)(e:l'=l.filter λy=>y != i)(hn:n'=n):INR n' l':=λk hk=>by subst hn;rw[e]at hk;exact h k (iJ.1 hk).1
def NU{α:Type}{p:Int->α->Bool}{l:List α}{v:Int}{z:List Int}(h:z=zfm p (λk _=>k) l v)(hv:(l.length:Int)<=v):INR l.length z:=λk hk=>by rw[h,m8 rfl hv]at hk;obtain⟨j,x,h1,_,rfl⟩:=NH.1 hk;have:=(aJ.1 h1).1;omega
def bs_l{L L':List ba}{st v:Int}{z:List Int}(h:z=zfm (λ_ f=>belR f st) (λk _=>k) L v)(e:L=L')(hv:(L.length:Int)<=v):(z.length:Int)=((belS L' st).length:Int):=by subst e;rw[m8 h hv];rfl
def cr_L{w r:au}(h:r=Z0r w):r.L=w.L:=by rw[h];rfl
def rp_L{w r:au}(h:r.L=w.L){u:au}(g:w.L=u.L):r.L=u.L:=h.trans g
end Go.PW
set_option maxRecDepth 100000
namespace Go.PW
def idk(os:List aj)(k:Int):Int:=((os[k.toNat]?).map λo=>o.Id).getD 0
def ids(os:List aj)(l:List Int):List Int:=l.map (idk os)
def NF{os:List aj}(hs:bU os){a b:Int}(h0:0<=a)(h1:a<os.length)(g0:0<=b)(g1:b<os.length)(h:idk os a=idk os b):a=b:=by
 have ha:=bg (show a.toNat<os.length by omega);have hb:=bg (show b.toNat<os.length by omega);unfold idk at h;rw[ha,hb]at h;have h:os[a.toNat].Id=os[b.toNat].Id:=h;rcases nh a.toNat b.toNat with k|k|k
 .have:=hs _ _ _ _ k ha hb;omega
 .omega
 have:=hs _ _ _ _ k hb ha;omega
def NG{os:List aj}(hs:bU os):∀{a b:List Int},INR os.length a->INR os.length b->ids os a=ids os b->a=b
 |[],[],_,_,_=>rfl
 |[],_::_,_,_,h=>by simp[ids]at h
 |_::_,[],_,_,h=>by simp[ids]at h
 |x::a,y::b,ha,hb,h=>by simp only[ids,cd,vH]at h;have h1:=ha x ax;have h2:=hb y ax;rw[NF hs h1.1 h1.2 h2.1 h2.2 h.1,NG hs (λk hk=>ha k (bW _ hk)) (λk hk=>hb k (bW _ hk)) h.2]
def ZcH{os:List aj}(hs:bU os){l:List Int}(hl:INR os.length l){k:Nat}{o:aj}(ho:os[k]?=some o):o.Id∈ids os l↔(k:Int)∈l:=by
 have hk:=(aJ.1 ho).1;have e:idk os k=o.Id:=by unfold idk;rw[lC,ho];rfl
 unfold ids;rw[iH];constructor
 .rintro ⟨j,hj,h⟩;have:=hl j hj;rw[<- NF hs this.1 this.2 O O (h.trans e.symm)];exact hj
 intro h;exact⟨k,h,e⟩
def ZcI{os:List aj}{p:Int->aj->Bool}{v:Int}:ids os (zfm p (λk _=>k) os v)=zfm p (λ_ o=>o.Id) os v:=by
 unfold ids zfm;rw[ov];refine List.map_congr_left λq hq=>?_;have h:=(iJ.1 hq).1;obtain⟨x,k⟩:=q;have h:=List.mem_zipIdx_iff_getElem?.1 h;show idk os (k:Int)=x.Id;have:os[k]?=some x:=by
  rw[jt]at h;split at h
  .exact h
  cases h
 unfold idk;rw[lC,this];rfl
def ZcJ{os:List aj}{p:Int->aj->Bool}:INR os.length (zfm p (λk _=>k) os os.length):=λy hy=>by obtain⟨k,x,h1,_,rfl⟩:=NH.1 hy;have:=(aJ.1 h1).1;omega
def ow{w:ak}{W:au}(h:w.forces=W.L.map toL)(i:Int):fAt w i=toL (gAt W i):=by unfold fAt gAt;rw[h,jD];cases W.L[i.toNat]?<;>rfl
def ox{l:List Bool}{i j:Int}{v:Bool}(h0:0<=i)(g0:0<=j)(h1:i<l.length):bA (l.set i.toNat v) j=if j=i then v else bA l j:=by
 unfold bA;rw[vI];by_cases h:j=i
 .subst h;rw[aq rfl,aq rfl,aq O];rfl
 rw[aw h,aw O]
def vJ{l:List (List Int)}{i j:Int}{v:List Int}(h0:0<=i)(g0:0<=j)(h1:i<l.length):hA (l.set i.toNat v) j=if j=i then v else hA l j:=by
 unfold hA;rw[vI];by_cases h:j=i
 .subst h;rw[aq rfl,aq rfl,aq O];rfl
 rw[aw h,aw O]
def Stt(w:ak)(W:au)(i:Int):Prop:=(bA w.done i=bA W.Begun i/\(bA w.done i=true->ids w.s.Objects (hA w.hits i)=hA W.Sets i))\/(bA w.done i=true/\hA w.hits i=[]/\ct W i=false)
structure SIM (w:ak) (W:au):Prop where
 s:w.s=W.S
 f:w.forces=W.L.map toL
 t:w.traits=W.All
 d:w.dropped=W.Blank
 ld:w.done.length=w.forces.length
 lh:w.hits.length=w.forces.length
 lb:W.Begun.length=W.L.length
 ls:W.Sets.length=W.L.length
 so:bU w.s.Objects
 hi:∀i:Int,0<=i->i<w.forces.length->(hA w.hits i).Nodup/\INR w.s.Objects.length (hA w.hits i)
 st:∀i:Int,0<=i->i<w.forces.length->Stt w W i
 ty:∀x,x∈w.traits->0<=x.Line.Types/\x.Line.Types<=63
def SIM.len{w:ak}{W:au}(h:SIM w W):w.forces.length=W.L.length:=by rw[h.f,cK]
def SIM.you{w:ak}{W:au}(h:SIM w W)(i:Int):dp w i=eI W i:=by
 unfold dp eI;rw[ow h.f,h.s,h.t];show(if(gAt W i).Fixed=false/\0<=ixO W.S.Objects (gAt W i).Source then _ else(gAt W i).Control)=_;by_cases h1:(gAt W i).Fixed=true
 .rw [aw (by rw[h1];simp),aq (.inl h1)]
 by_cases h2:ixO W.S.Objects (gAt W i).Source<0
 .rw [aw O,aq (.inr h2)]
 rw[aq ⟨by simpa using h1,by omega⟩,aw (λk=>k.elim h1 (λe=>h2 e))];rfl
def SIM.act{w:ak}{W:au}(h:SIM w W){i:Int}(e:bA w.done i=bA W.Begun i):dz w i=ct W i:=by unfold dz ct;rw[ow h.f,h.s,h.d,e];rfl
def ZcK{w:ak}{W:au}(h:SIM w W)(i:Int):gN w (fAt w i) (dp w i)=ia W (gAt W i) (eI W i):=by funext k o;unfold gN ia;rw[h.you,ow h.f,h.t];rfl
def SIM.aff{w:ak}{W:au}(h:SIM w W){i:Int}(h0:0<=i)(h1:i<w.forces.length):ids w.s.Objects (cc w i)=cQ W i:=by
 rcases h.st i h0 h1 with⟨e,g⟩|⟨a,b,c⟩
 .unfold cc cQ;rw[<- e];cases hd:bA w.done i with
  |true=>exact g hd
  |false=>
   rw[h.act e];cases ct W i with
   |false=>rfl
   |true=>
    rw[aw bE,aq rfl,aw bE,aq rfl,ZcI,ZcK h,h.s]
 have hb:bA W.Begun i=false:=by
  unfold ct at c;cases hb:bA W.Begun i with
  |false=>rfl
  |true=>rw[hb]at c;simp at c
 unfold cc cQ;rw[a,hb,c,b];rfl
def SIM.affn{w:ak}{W:au}(h:SIM w W){i:Int}(h0:0<=i)(h1:i<w.forces.length):(cc w i).Nodup/\INR w.s.Objects.length (cc w i):=by
 unfold cc;cases bA w.done i with
 |true=>exact h.hi i h0 h1
 |false=>
  cases dz w i with
  |true=>exact⟨AQ,ZcJ⟩
  |false=>exact⟨ml,rW⟩
structure CHG (st:Int) (t t':ae):Prop where
 cost:t'.Cost=t.Cost
 ctl:st≠1->t'.Control=t.Control
 lin:st≠2->t'.Line=t.Line
 col:st≠3->t'.Colors=t.Colors
 key:st≠4->t'.Keys=t.Keys
 pt:st<5->t'.Power=t.Power/\t'.Tough=t.Tough
def CHG.refl(st:Int)(t:ae):CHG st t t:=⟨rfl,λ_=>rfl,λ_=>rfl,λ_=>rfl,λ_=>rfl,λ_=>⟨rfl,rfl⟩⟩
def CHG.trans{st:Int}{a b c:ae}(h:CHG st a b)(g:CHG st b c):CHG st a c:=⟨g.cost.trans h.cost,λk=>(g.ctl k).trans (h.ctl k),λk=>(g.lin k).trans (h.lin k),λk=>(g.col k).trans (h.col k),λk=>(g.key k).trans (h.key k),λk=>⟨(g.pt k).1.trans (h.pt k).1,(g.pt k).2.trans (h.pt k).2⟩⟩
def ZcL(t:ae)(m:af)(you n:Int):CHG (stV m.Kind) t (apV t m you n):=by
 unfold apV;by_cases h0:mdV m=false
 .rw [aq h0];exact .refl _ t
 rw[aw h0];by_cases h1:m.Kind=1
 .rw [aq h1,h1];exact⟨rfl,λk=>absurd rfl k,λ_=>rfl,λ_=>rfl,λ_=>rfl,λ_=>⟨rfl,rfl⟩⟩
 rw[aw h1];by_cases h2:m.Kind=2
 .rw [aq h2,h2];exact⟨rfl,λ_=>rfl,λk=>absurd rfl k,λ_=>rfl,λ_=>rfl,λ_=>⟨rfl,rfl⟩⟩
 rw[aw h2];by_cases h3:m.Kind=3
 .rw [aq h3,h3];exact⟨rfl,λ_=>rfl,λk=>absurd rfl k,λ_=>rfl,λ_=>rfl,λ_=>⟨rfl,rfl⟩⟩
 rw[aw h3];by_cases h4:m.Kind=4
 .rw [aq h4,h4];exact⟨rfl,λ_=>rfl,λk=>absurd rfl k,λ_=>rfl,λ_=>rfl,λ_=>⟨rfl,rfl⟩⟩
 rw[aw h4];by_cases h5:m.Kind=5
 .rw [aq h5,h5];exact⟨rfl,λ_=>rfl,λk=>absurd rfl k,λ_=>rfl,λ_=>rfl,λ_=>⟨rfl,rfl⟩⟩
 rw[aw h5];by_cases h6:m.Kind=6
 .rw [aq h6,h6];exact⟨rfl,λ_=>rfl,λ_=>rfl,λk=>absurd rfl k,λ_=>rfl,λ_=>⟨rfl,rfl⟩⟩
 rw[aw h6];by_cases h7:m.Kind=7
 .rw [aq h7,h7];exact⟨rfl,λ_=>rfl,λ_=>rfl,λk=>absurd rfl k,λ_=>rfl,λ_=>⟨rfl,rfl⟩⟩
 rw[aw h7];by_cases h8:m.Kind=8
 .rw [aq h8,h8];exact⟨rfl,λ_=>rfl,λ_=>rfl,λ_=>rfl,λk=>absurd rfl k,λ_=>⟨rfl,rfl⟩⟩
 rw[aw h8];by_cases h9:m.Kind=9
 .rw [aq h9,h9];exact⟨rfl,λ_=>rfl,λ_=>rfl,λ_=>rfl,λk=>absurd rfl k,λ_=>⟨rfl,rfl⟩⟩
 rw[aw h9];by_cases h10:m.Kind=10
 .rw [aq h10,h10];exact⟨rfl,λ_=>rfl,λ_=>rfl,λ_=>rfl,λk=>absurd rfl k,λ_=>⟨rfl,rfl⟩⟩
 rw[aw h10];by_cases h11:m.Kind=11
 .rw [aq h11,h11];exact⟨rfl,λ_=>rfl,λ_=>rfl,λ_=>rfl,λ_=>rfl,λk=>absurd k bE⟩
 rw[aw h11];by_cases h12:m.Kind=12
 .rw [aq h12,h12];exact⟨rfl,λ_=>rfl,λ_=>rfl,λ_=>rfl,λ_=>rfl,λk=>absurd k bE⟩
 rw[aw h12];by_cases h13:m.Kind=13
 .rw [aq h13,h13];exact⟨rfl,λ_=>rfl,λ_=>rfl,λ_=>rfl,λ_=>rfl,λk=>absurd k bE⟩
 rw[aw h13];by_cases h14:m.Kind=14
 .rw [aq h14,h14];exact⟨rfl,λ_=>rfl,λ_=>rfl,λ_=>rfl,λ_=>rfl,λk=>absurd k bE⟩
 rw[aw h14];exact .refl _ t
def mfC(g:af->Int)(you st:Int)(t:ae)(m:af):ae:=if stV m.Kind=st then apV t m you (g m)else t
def NI(g:af->Int)(you st:Int):∀(ms:List af) (t:ae),CHG st t (ms.foldl (mfC g you st) t)
 |[],t =>.refl _ t
 |m::ms,t=>by
  rw[jL];refine CHG.trans ?_ (NI g you st ms _);unfold mfC;split
  .rename_i h;rw[<- h];exact ZcL ..
  exact .refl _ t
def ZcM(g:af->Int)(you st:Int)(ms:List af)(t:ae):mfS ms (ms.map g) you st ms.length t=ms.foldl (mfC g you st) t:=by
 unfold mfS;rw[c9 (show ms.length<=((ms.length:Int)).toNat by omega)];have key:∀(l:List af) (pre:List Int) (t:ae),(l.zipIdx pre.length).foldl (λt q=>if stV q.1.Kind=st then apV t q.1 you (((pre++l.map g)[q.2]?).getD 0)else t) t=l.foldl (mfC g you st) t:=by
  intro l;induction l with
  |nil=>intro pre t;rfl
  |cons m l ih=>
   intro pre t;rw[vK,jL,jL];have e:((pre++(m::l).map g)[pre.length]?).getD 0=g m:=by rw[ep (bh _),vE];rfl
   have:=ih (pre++[g m]) (mfC g you st t m);rw[bk,nn,gV]at this;show(List.zipIdx l (pre.length+1)).foldl _ (if stV m.Kind=st then apV t m you (((pre++(m::l).map g)[pre.length]?).getD 0)else t)=_;rw[e];exact this
 exact key ms [] t
def ZcN(g:af->Int)(you st:Int)(ms:List af)(t:ae):mfR ms ((ms.filter λm=>stV m.Kind==st).map g) you st t=ms.foldl (mfC g you st) t:=by
 unfold mfR;have key:∀(l:List af) (pre:List Int) (t:ae),(l.foldl (mfR1 (pre++(l.filter λm=>stV m.Kind==st).map g) you st) (t,(pre.length:Int))).1=l.foldl (mfC g you st) t:=by
  intro l;induction l with
  |nil=>intro pre t;rfl
  |cons m l ih=>
   intro pre t;rw[jL,jL,gK];by_cases h:stV m.Kind=st
   .rw [aq iQ];have:=ih (pre++[g m]) (apV t m you (g m));rw[gV,bk,nn]at this;have e:mfR1 (pre++((m::l.filter λm=>stV m.Kind==st).map g)) you st (t,(pre.length:Int)) m=(apV t m you (g m),((pre.length+1:Nat):Int)):=by
     unfold mfR1;rw[aq h];simp only[lC];rw[ep (bh _),vE];rfl
    rw[e];unfold mfC;rw[aq h];exact this
   rw[aw iQ];have e:∀ns,mfR1 ns you st (t,(pre.length:Int)) m=(t,(pre.length:Int)):=λns=>by unfold mfR1;rw[aw h]
   rw[e];unfold mfC;rw[aw h];exact ih pre t
 exact key ms [] t
def ZcO(ms:List af)(st:Int)(b:Bool):drS ms st ms.length b=(b||drR ms st):=by unfold drS drR;rw[c9 (show ms.length<=((ms.length:Int)).toNat by omega)]
def and0(h:Int):aQ .and .i64 h 0=0:=by unfold aQ;show IntKind.wrap .i64 (((BitVec.ofInt 64 h &&& BitVec.ofInt 64 0).toNat:Nat):Int)=0;rw[show BitVec.ofInt 64 0=0#64 from rfl,BitVec.and_zero];rfl
def vL(h:Int):gO h 0 0=true:=by unfold gO;rw[and0];rfl
def ZcP:∀a b:Fin 64,(aQ .or .i64 (a.val:Int) (b.val:Int)=0->a.val=0/\b.val=0)/\(0<=aQ .or .i64 (a.val:Int) (b.val:Int)/\aQ .or .i64 (a.val:Int) (b.val:Int)<=63):=by decide+kernel
def or_0{a b:Int}(ha:0<=a)(ha':a<=63)(hb:0<=b)(hb':b<=63):(aQ .or .i64 a b=0->a=0/\b=0)/\(0<=aQ .or .i64 a b/\aQ .or .i64 a b<=63):=by have:=ZcP ⟨a.toNat,by omega⟩ ⟨b.toNat,by omega⟩;simp only at this;rw[j7 ha,j7 hb]at this;exact⟨λh=>by have:=this.1 h;omega,this.2⟩
def vM{n m:Int}(h:btw n m=true):0<=n/\n<=m:=by unfold btw at h;simpa using h
def ZcQ{f:al}(h:Z0o f=true):(0<=f.Types/\f.Types<=63)/\(0<=f.NotTypes/\f.NotTypes<=63)/\(0<=f.Colors/\f.Colors<=31)/\(0<=f.NotColors/\f.NotColors<=31):=by unfold Z0o at h;simp only[aN]at h;exact⟨vM h.2.2.2.2.2.1,vM h.2.2.2.2.2.2.1,vM h.2.2.2.2.2.2.2.2.1,vM h.2.2.2.2.2.2.2.2.2.1⟩
def bou0{b:ah}(h:b.Kind=0)(c:Bool)(n:Int):bouV c b n=true:=by unfold bouV;rw[h];rfl
def NJ{st you you' src:Int}{o:aj}{t t':ae}{f:al}(h:CHG st t t')(hs:fb f st=false)(h4:st≠4)(hy:st≠1->you'=you):gI o t' you' src f=gI o t you src f:=by
 unfold gI;cases hf:Z0o f with
 |false=>rfl
 |true=>
  obtain⟨⟨a1,a2⟩,⟨b1,b2⟩,⟨c1,c2⟩,⟨d1,d2⟩⟩:=ZcQ hf;unfold fb at hs;have ek:Z31 t' f=Z31 t f:=by unfold Z31;rw[h.key h4]
  by_cases e1:st=1
  .subst e1;have hw:f.Who=0:=by simpa using hs
   have e:∀a b,Z8l a b f.Who=true:=λa b=>by rw[hw];rfl
   unfold eV fc fG;rw[e,e,h.lin bE,h.col bE,ek,(h.pt bE).1,(h.pt bE).2,h.cost]
  rw[aw e1]at hs;rw[h.ctl e1,hy e1];by_cases e2:st=2
  .subst e2;rw[aq rfl]at hs;have hs:=of_decide_eq_false hs;have z1:aQ .or .i64 f.Types f.NotTypes=0:=jd λk=>hs (.inl k);have z2:f.Sub=[]:=jd λk=>hs (.inr (.inl k));have z3:f.Power.Kind=0:=jd λk=>hs (.inr (.inr (.inl k)));have z4:f.Tough.Kind=0:=jd λk=>hs (.inr (.inr (.inr k)));obtain⟨y1,y2⟩:=(or_0 a1 a2 b1 b2).1 z1;have es:∀u,fG u f=true:=λu=>by unfold fG;rw[z2];rfl
   have ee:eV t' f=eV t f:=NK
   rw[y1,y2,vL,vL,es,es,ee,ek,h.col bE]
  rw[aw e2]at hs;have el:=h.lin e2;by_cases e3:st=3
  .subst e3;rw[aq rfl]at hs;have z1:aQ .or .i64 f.Colors f.NotColors=0:=by simpa using hs
   obtain⟨y1,y2⟩:=(or_0 c1 O d1 O).1 z1;have ee:eV t' f=eV t f:=by unfold eV fc;rw[el,(h.pt bE).1,(h.pt bE).2,h.cost]
   have es:fG t' f=fG t f:=by unfold fG;rw[el]
   rw[y1,y2,vL,vL,es,ee,ek,el]
  rw[aw e3,aw h4]at hs;have hs:=of_decide_eq_false hs;have z3:f.Power.Kind=0:=jd λk=>hs (.inl k);have z4:f.Tough.Kind=0:=jd λk=>hs (.inr k);have ee:eV t' f=eV t f:=NK
  have es:fG t' f=fG t f:=by unfold fG;rw[el]
  rw[es,ee,ek,el,h.col e3]
def AR{st:Int}{l:List ae}{g:Nat->ae->ae}(h:∀j x,CHG st x (g j x))(k:Int):CHG st (trV l k) (trV (l.mapIdx g) k):=by
 unfold trV;by_cases hk:k<0
 .rw [aq hk,aq hk];exact .refl _ _
 rw[aw hk,aw hk,dI];cases l[k.toNat]? with
 |none=>exact .refl _ _
 |some x=>exact h _ x
def HOK(w:ak)(j:Int):Prop:=(cc w j).Nodup/\INR w.s.Objects.length (cc w j)
def gT(w:ak)(j st:Int)(k:Nat)(t:ae):ae:=if(k:Int)∈cc w j then(fAt w j).Mods.foldl (mfC (fV w.s w.traits (dp w j) (fAt w j).Source st) (dp w j) st) t else t
def gD(w:ak)(j st:Int)(k:Nat)(b:Bool):Bool:=if(k:Int)∈cc w j then(b||drR (fAt w j).Mods st)else b
def ap_t{w:ak}{j st:Int}(h:HOK w j):(bY w j st).traits=w.traits.mapIdx (gT w j st):=by
 unfold bY;simp only;rw[AS _ _ (λk hk=>(h.2 k hk).1) h.1];refine gq λk=>?_;rw[dI,dI];cases w.traits[k]? with
 |none=>rfl
 |some x=>
  dsimp only[Option.map_some];unfold gT fW;rw[ZcM]
def ap_d{w:ak}{j st:Int}(h:HOK w j):(bY w j st).dropped=w.dropped.mapIdx (gD w j st):=by
 unfold bY;simp only;rw[AS _ _ (λk hk=>(h.2 k hk).1) h.1];refine gq λk=>?_;rw[dI,dI];cases w.dropped[k]? with
 |none=>rfl
 |some x=>
  dsimp only[Option.map_some];unfold gD;rw[ZcO]
def AT(w:ak)(j st:Int)(k:Nat)(t:ae):CHG st t (gT w j st k t):=by
 unfold gT;split
 .exact NI ..
 exact .refl _ _
def dr_4{ms:List af}{st:Int}(h:st≠4):drR ms st=false:=by unfold drR;rw[List.any_eq_false];intro m _ hm;simp only[aN,ly]at hm;rw[hm.1]at hm;exact h (hm.2.symm.trans rfl)
def ZcR{l:List Bool}{g:Nat->Bool->Bool}{k:Int}(h:∀j b,g j b=b):bA (l.mapIdx g) k=bA l k:=by
 unfold bA;rw[dI];cases l[k.toNat]? with
 |none=>rfl
 |some b=>show g _ b=b;exact h _ b
def NL{w:ak}{i j st:Int}(h:HOK w j)(hs:st≠1):dp (bY w j st) i=dp w i:=by
 have e:∀k,(trV (bY w j st).traits k).Control=(trV w.traits k).Control:=λk=>by rw[ap_t h];exact(AR (AT w j st) k).ctl hs
 unfold dp;rw[show fAt (bY w j st) i=fAt w i from rfl,show(bY w j st).s=w.s from rfl,e]
def NM{α γ:Type}{p p':Nat->α->Bool}{q:α->γ}(h:∀i x,p' i x=p i x):∀(xs:List α) (i:Nat),iK p' q i xs=iK p q i xs
 |[],_=>rfl
 |x::xs,i=>by show(bif p' i x then _ else _)=(bif p i x then _ else _);rw[h,NM h xs (i+1)]
def ZcS{α β:Type}{p p':Int->α->Bool}{f:Int->α->β}{l:List α}{v:Int}(h:∀k x,p' k x=p k x):zfm p' f l v=zfm p f l v:=by
 have:p'=p:=by funext k x;exact h k x
 rw[this]
def NN(l:List ae)(i:Nat):atV l i=trV l i:=by unfold atV trV;rw[aw O,lC]
def ZcT{w:ak}{i j st:Int}(h:HOK w j)(hi:0<=i)(hj:0<=j)(hj1:j<w.done.length)(hj2:j<w.hits.length)(hne:i≠j)(hd:eW w i st=false):fH (bY w j st) i st=fH w i st:=by
 have ef:fAt (bY w j st) i=fAt w i:=rfl;have es:(bY w j st).s=w.s:=rfl;have edn:bA (bY w j st).done i=bA w.done i:=by show bA (w.done.set j.toNat true) i=_;rw[ox hj hi hj1,aw hne]
 have ehh:hA (bY w j st).hits i=hA w.hits i:=by show hA (w.hits.set j.toNat _) i=_;rw[vJ hj hi hj2,aw hne]
 unfold eW at hd;rw[Bool.or_eq_false_iff]at hd;obtain⟨hm,hf⟩:=hd;have ea:dz (bY w j st) i=dz w i:=by
  unfold dz;rw[ef,es,edn];cases hF:(fAt w i).Fixed with
  |true=>simp
  |false=>
   cases hD:bA w.done i with
   |true=>simp
   |false=>
    rw[hF,hD]at hf;have h4:st≠4:=λe=>by rw[e]at hf;simp at hf
    rw[ap_d h,ZcR λk b=>by unfold gD;rw[dr_4 h4];simp]
 have eaf:cc (bY w j st) i=cc w i:=by
  unfold cc;rw[edn,ehh,ea,es,ef];cases hD:bA w.done i with
  |true=>rfl
  |false=>
   simp only[eR,fk];cases dz w i with
   |false=>rfl
   |true=>
    simp only[dM];refine ZcS λk o=>?_;unfold gN;cases hF:(fAt w i).Fixed with
    |true=>simp
    |false=>
     rw[hF,hD]at hf;simp only[fI,fy,Bool.or_eq_false_iff,oy]at hf;rw[ap_t h,NJ (AR (AT w j st) k) hf.2 hf.1 λe=>NL h e]
 have en:fW (bY w j st) i st=fW w i st:=by
  unfold fW;rw[ef,es];refine List.map_congr_left λm hmm=>?_;have hm:=List.any_eq_false.1 hm m hmm;unfold fV;by_cases hc:m.Kind=11/\stV m.Kind=st
  .rw [aq hc,aq hc];have hs5:st=5:=by rw[<- hc.2,hc.1];rfl
   have hsn:fb m.Filter st=false:=by
    cases hk:fb m.Filter st with
    |false=>rfl
    |true=>exact absurd (by rw[hc.2,hc.1,hk];simp) hm
   have e1:st≠1:=by rw[hs5];decide
   have e4:st≠4:=by rw[hs5];decide
   rw[NL h e1];unfold Z18;rw[NM (p:=mat w.traits (dp w i) (fAt w i).Source m.Filter) λk x=>by unfold mat;rw[NN,NN,ap_t h];exact NJ (AR (AT w j st) k) hsn e4 λ_=>rfl]
  rw[aw hc,aw hc]
 unfold fH;rw[ea,eaf,en]
def ZcU{t:ae}{m:af}{you n:Int}(h:0<=t.Line.Types/\t.Line.Types<=63):0<=(apV t m you n).Line.Types/\(apV t m you n).Line.Types<=63:=by
 unfold apV;by_cases h0:mdV m=false
 .rw [aq h0];exact h
 rw[aw h0];have hk:∀(_:m.Kind=2\/m.Kind=3),0<=m.N/\m.N<=63:=λe=>by
  have h1:mdV m=true:=by simpa using h0
  unfold mdV mdK at h1;rw[aq e]at h1;simp only[aN]at h1;have:=h1.2.2.1;unfold inB at this;have:=j5 this;omega
 by_cases h1:m.Kind=1
 .rw [aq h1];exact h
 rw[aw h1];by_cases h2:m.Kind=2
 .rw [aq h2];exact hk (.inl h2)
 rw[aw h2];by_cases h3:m.Kind=3
 .rw [aq h3];have:=hk (.inr h3);exact(or_0 h.1 h.2 this.1 this.2).2
 rw[aw h3];by_cases h4:m.Kind=4
 .rw [aq h4];exact h
 rw[aw h4];by_cases h5:m.Kind=5
 .rw [aq h5];show 0<=(lnV t.Line m.Sub).Types/\(lnV t.Line m.Sub).Types<=63;have:(lnV t.Line m.Sub).Types=t.Line.Types:=by unfold lnV;split<;>rfl
  rw[this];exact h
 rw[aw h5];by_cases h6:m.Kind=6
 .rw [aq h6];exact h
 rw[aw h6];by_cases h7:m.Kind=7
 .rw [aq h7];exact h
 rw[aw h7];by_cases h8:m.Kind=8
 .rw [aq h8];exact h
 rw[aw h8];by_cases h9:m.Kind=9
 .rw [aq h9];exact h
 rw[aw h9];by_cases h10:m.Kind=10
 .rw [aq h10];exact h
 rw[aw h10];by_cases h11:m.Kind=11
 .rw [aq h11];exact h
 rw[aw h11];by_cases h12:m.Kind=12
 .rw [aq h12];exact h
 rw[aw h12];by_cases h13:m.Kind=13
 .rw [aq h13];exact h
 rw[aw h13];by_cases h14:m.Kind=14
 .rw [aq h14];exact h
 rw[aw h14];exact h
def NO(g:af->Int)(you st:Int):∀(ms:List af) (t:ae),(0<=t.Line.Types/\t.Line.Types<=63)->0<=(ms.foldl (mfC g you st) t).Line.Types/\(ms.foldl (mfC g you st) t).Line.Types<=63
 |[],t,h=>h
 |m::ms,t,h=>by
  rw[jL];refine NO g you st ms _ ?_;unfold mfC;split
  .exact ZcU h
  exact h
def NP{α β:Type}{g:Nat->α->β}{l:List α}{y:β}(h:y∈l.mapIdx g):∃k x,l[k]?=some x/\y=g k x:=by
 obtain⟨k,hk⟩:=List.mem_iff_getElem?.1 h;rw[dI]at hk;cases hx:l[k]? with
 |none=>rw[hx]at hk;cases hk
 |some x=>rw[hx]at hk;exact⟨k,x,hx,(cF hk).symm⟩
def SIM.hok{w:ak}{W:au}(h:SIM w W){i:Int}(h0:0<=i)(h1:i<w.forces.length):HOK w i:=h.affn h0 h1
def SIM.num{w:ak}{W:au}(h:SIM w W)(i st:Int):fu W i st=((gAt W i).Mods.filter λm=>stV m.Kind==st).map (fV w.s w.traits (dp w i) (gAt W i).Source st):=by unfold fu;rw[h.s,h.t,h.you]
def SIM.idle{w:ak}{W:au}(h:SIM w W){i:Int}(h0:0<=i)(h1:i<w.forces.length)(ha:ct W i=false):cc w i=[]:=by
 unfold cc;rcases h.st i h0 h1 with⟨e,_⟩|⟨a,b,_⟩
 .have hb:bA W.Begun i=false:=by
   unfold ct at ha;cases hb:bA W.Begun i with
   |false=>rfl
   |true=>rw[hb]at ha;simp at ha
  rw[e,hb,h.act e,ha];rfl
 rw[a,b];rfl
def NQ{W:au}{i j st:Int}(hi:0<=i)(hj:0<=j)(hj1:j<W.Begun.length)(hne:i≠j)(h:ct W i=false):ct (cO W j st) i=false:=by
 unfold cO;split
 .unfold ct at *;simp only[Bool.or_eq_false_iff]at h⊢;obtain⟨⟨⟨a,b⟩,c⟩,d⟩:=h;refine⟨⟨⟨a,?_⟩,c⟩,?_⟩
  .show bA (W.Begun.set j.toNat true) i=false;rw[ox hj hi hj1,aw hne];exact b
  show(!bA (W.Blank.mapIdx _) _)=false;have d:bA W.Blank (ixO W.S.Objects (gAt W i).Source)=true:=by simpa using d
  have:bA (W.Blank.mapIdx λk b=>if inS W.S.Objects (cQ W j) k&&drR (gAt W j).Mods st then true else b) (ixO W.S.Objects (gAt W i).Source)=true:=by
   unfold bA at *;rw[dI];cases hx:W.Blank[(ixO W.S.Objects (gAt W i).Source).toNat]? with
   |none=>rw[hx]at d;cases d
   |some b=>
    rw[hx]at d;have d:b=true:=d;subst d;show(if _ then true else true)=true;split<;>rfl
  show(!bA (W.Blank.mapIdx λk b=>if inS W.S.Objects (cQ W j) k&&drR (gAt W j).Mods st then true else b) (ixO W.S.Objects (gAt W i).Source))=false;rw[this];rfl
 exact h
def SIM.app{w:ak}{W:au}(h:SIM w W){j:Int}(st:Int)(h0:0<=j)(h1:j<w.forces.length):SIM (bY w j st) (cO W j st):=by
 have hok:=h.hok h0 h1;have hl:=h.len;have hbl:j<W.Begun.length:=by have:=h.lb;omega
 have hsl:j<W.Sets.length:=by have:=h.ls;omega
 have hdl:j<w.done.length:=by have:=h.ld;omega
 have hhl:j<w.hits.length:=by have:=h.lh;omega
 have hty:∀x,x∈(bY w j st).traits->0<=x.Line.Types/\x.Line.Types<=63:=λx hx=>by
  rw[ap_t hok]at hx;obtain⟨k,y,hy,rfl⟩:=NP hx;have:=h.ty y (bF hy);unfold gT;split
  .exact NO _ _ _ _ _ this
  exact this
 have hhi:∀i:Int,0<=i->i<w.forces.length->(hA (bY w j st).hits i).Nodup/\INR w.s.Objects.length (hA (bY w j st).hits i):=λi i0 i1=>by
  show(hA (w.hits.set j.toNat (cc w j)) i).Nodup/\INR w.s.Objects.length (hA (w.hits.set j.toNat (cc w j)) i);rw[vJ h0 i0 hhl];split
  .exact hok
  exact h.hi i i0 i1
 have hdn:∀i:Int,0<=i->bA (bY w j st).done i=if i=j then true else bA w.done i:=λi i0=>ox h0 i0 hdl;have hht:∀i:Int,0<=i->hA (bY w j st).hits i=if i=j then cc w j else hA w.hits i:=λi i0=>vJ h0 i0 hhl;cases ha:ct W j with
 |false=>
  have hW:cO W j st=W:=by unfold cO;rw[ha];rfl
  have he:=h.idle h0 h1 ha;rw[hW];have et:(bY w j st).traits=w.traits:=by unfold bY;rw[he];rfl
  have ed:(bY w j st).dropped=w.dropped:=by unfold bY;rw[he];rfl
  exact⟨h.s,h.f,et.trans h.t,ed.trans h.d,ew.trans h.ld,ew.trans h.lh,h.lb,h.ls,h.so,hhi,λi i0 i1=>by
   by_cases hij:i=j
   .subst hij;exact .inr ⟨by rw[hdn i i0,aq rfl],by rw[hht i i0,aq rfl];exact he,ha⟩
   unfold Stt;rw[hdn i i0,hht i i0,aw hij,aw hij];exact h.st i i0 i1,hty⟩
 |true=>
  have hAf:=h.aff h0 h1;have hW:cO W j st=⟨W.S,W.All.mapIdx λk t=>if inS W.S.Objects (cQ W j) k then mfR (gAt W j).Mods (fu W j st) (eI W j) st t else t,W.L,W.Begun.set j.toNat true,W.Sets.set j.toNat (cQ W j),W.Blank.mapIdx λk b=>if inS W.S.Objects (cQ W j) k&&drR (gAt W j).Mods st then true else b⟩:=by unfold cO;rw[ha];rfl
  have hin:∀k:Nat,inS W.S.Objects (cQ W j) k=decide ((k:Int)∈cc w j):=λk=>by
   unfold inS;rw[<- hAf,<- h.s];cases ho:w.s.Objects[k]? with
   |none=>
    have hk:=rX.1 ho
    symm
    exact bl λhm=>by have:=hok.2 _ hm;omega
   |some o=>show(ids w.s.Objects (cc w j)).contains o.Id=_;rw[List.contains_eq_mem];exact rY.2 (ZcH h.so hok.2 ho)
  have et:(bY w j st).traits=(cO W j st).All:=by
   rw[ap_t hok,hW,h.t];refine gq λk=>?_;rw[dI,dI];cases W.All[k]? with
   |none=>rfl
   |some x=>
    show some (gT w j st k x)=some (if inS W.S.Objects (cQ W j) k then mfR (gAt W j).Mods (fu W j st) (eI W j) st x else x);unfold gT;rw[hin k,h.num,ZcN,<- h.you,ow h.f];by_cases hm:(k:Int)∈cc w j
    .rw [aq hm,aq (bd hm)];rfl
    rw[aw hm,aw yk]
  have ed:(bY w j st).dropped=(cO W j st).Blank:=by
   rw[ap_d hok,hW,h.d];refine gq λk=>?_;rw[dI,dI];cases W.Blank[k]? with
   |none=>rfl
   |some b=>
    show some (gD w j st k b)=some (if inS W.S.Objects (cQ W j) k&&drR (gAt W j).Mods st then true else b);unfold gD;rw[hin k,ow h.f];show some (if(k:Int)∈cc w j then(b||drR (gAt W j).Mods st)else b)=_;by_cases hm:(k:Int)∈cc w j
    .rw [aq hm,bd hm];cases drR (gAt W j).Mods st<;>cases b<;>rfl
    rw[aw hm,bl hm];rfl
  have hb:∀i:Int,0<=i->bA (cO W j st).Begun i=if i=j then true else bA W.Begun i:=λi i0=>by rw[hW];exact ox h0 i0 hbl
  have hS:∀i:Int,0<=i->hA (cO W j st).Sets i=if i=j then cQ W j else hA W.Sets i:=λi i0=>by rw[hW];exact vJ h0 i0 hsl
  refine⟨by rw[hW];exact h.s,by rw[hW];exact h.f,et,ed,ew.trans h.ld,ew.trans h.lh,by rw[hW];exact ew.trans h.lb,by rw[hW];exact ew.trans h.ls,h.so,hhi,λi i0 i1=>?_,hty⟩;by_cases hij:i=j
  .subst hij;refine .inl ⟨by rw[hdn i i0,hb i i0,aq rfl,aq rfl],λ_=>?_⟩;rw[hht i i0,hS i i0,aq rfl,aq rfl];exact hAf
  rcases h.st i i0 i1 with⟨e,g⟩|⟨a,b,c⟩
  .refine .inl ⟨by rw[hdn i i0,hb i i0,aw hij,aw hij];exact e,λk=>?_⟩;rw[hdn i i0,aw hij]at k;rw[hht i i0,hS i i0,aw hij,aw hij];exact g k
  exact .inr ⟨by rw[hdn i i0,aw hij];exact a,by rw[hht i i0,aw hij];exact b,NQ i0 h0 hbl hij c⟩
def NR{n:Nat}{i:Int}:bA (List.replicate n false) i=false:=by unfold bA;rw[List.getElem?_replicate];split<;>rfl
def ZcV{n:Nat}{i:Int}:hA (List.replicate n []) i=[]:=by unfold hA;rw[List.getElem?_replicate];split<;>rfl
def SIM.beg{cards:List an}{s:ao}(hc:∀c,c∈cards->ic c)(hs:bU s.Objects):SIM (begV cards s) (begR cards s) where
 s:=rfl
 f:=ZcW cards s
 t:=rfl
 d:=rfl
 ld:=j4
 lh:=j4
 lb:=j4
 ls:=j4
 so:=hs
 hi:=λi _ _=>by
  have:hA (begV cards s).hits i=[]:=ZcV
  rw[this];exact⟨ml,rW⟩
 st:=λi _ _=>by
  have a:bA (begV cards s).done i=false:=NR
  have b:bA (begR cards s).Begun i=false:=NR
  exact .inl ⟨by rw[a,b],λh=>by rw[a]at h;cases h⟩
 ty:=λx hx=>by
  obtain⟨o,_,rfl⟩:=iH.1 hx
  have:=ZcX hc o
  exact⟨this.1,this.2.1⟩
def ZcY{o:aj}{t:ae}(h:0<=t.Line.Types/\t.Line.Types<=63):Z0q o t=cnuT o t:=by
 unfold Z0q cnuT;have:=ZcZ h.1 h.2;by_cases hz:o.Zone=0/\¬aQ .and .i64 t.Line.Types 1=0
 .rw [aq hz,aq ⟨hz.1,this.2 hz.2⟩]
 rw[aw hz,aw λk=>hz ⟨k.1,this.1 k.2⟩]
def Zc0(o:aj)(t:ae):(Z0q o t).Line=t.Line:=by unfold Z0q;split<;>rfl
def SIM.cnt{w:ak}{W:au}(h:SIM w W):SIM (Z8n w) (Z0r W) where
 s:=h.s
 f:=h.f
 t:=by
  show w.traits.mapIdx (ig w.s.Objects)=W.All.mapIdx (Z8o W.S.Objects)
  rw[<- h.t,<- h.s]
  refine gq λk=>?_
  rw[dI,dI]
  cases hx:w.traits[k]? with
  |none=>rfl
  |some x=>
   show some (ig _ k x)=some (Z8o _ k x)
   unfold ig Z8o
   cases w.s.Objects[k]? with
   |none=>rfl
   |some o=>show some (Z0q o x)=some (cnuT o x);rw[ZcY (h.ty x (bF hx))]
 d:=h.d
 ld:=h.ld
 lh:=h.lh
 lb:=h.lb
 ls:=h.ls
 so:=h.so
 hi:=h.hi
 st:=h.st
 ty:=λx hx=>by
  obtain⟨k,y,hy,rfl⟩:=NP hx
  have:=h.ty y (bF hy)
  unfold ig
  cases w.s.Objects[k]? with
  |none=>exact this
  |some o=>show 0<=(Z0q o y).Line.Types/\(Z0q o y).Line.Types<=63;rw[Zc0];exact this
def NS{p:af->Bool}{g g':af->Int}:∀ms:List af,(∀m,m∈ms->p m=false->g m=g' m)->((ms.map g=ms.map g')↔((ms.filter p).map g=(ms.filter p).map g'))
 |[],_=>ax
 |m::ms,h=>by
  have ih:=NS (p:=p) (g:=g) (g':=g') ms λx hx=>h x (bW _ hx);rw[gK];cases hp:p m with
  |true=>
   rw[aq rfl];simp only[cd,vH];rw[ih]
  |false=>
   rw[aw bE];simp only[cd,vH];rw[ih];exact⟨λk=>k.2,λk=>⟨h m ax hp,k⟩⟩
def SIM.nd{w:ak}{W:au}(h:SIM w W){i j:Int}(st:Int)(i0:0<=i)(i1:i<w.forces.length)(j0:0<=j)(j1:j<w.forces.length):ndB w st i j=ndR W st i j:=by
 unfold ndB ndR;by_cases hij:i=j
 .rw [show(i==j)=true by simpa using hij];rfl
 rw[show(i==j)=false by simpa using hij];have hl:=h.len;have hdl:j<w.done.length:=by have:=h.ld;omega
 have hhl:j<w.hits.length:=by have:=h.lh;omega
 have hbl:j<W.Begun.length:=by have:=h.lb;omega
 have h':=h.app st j0 j1;have i1':i<(bY w j st).forces.length:=i1;have edn:bA (bY w j st).done i=bA w.done i:=by show bA (w.done.set j.toNat true) i=_;rw[ox j0 i0 hdl,aw hij]
 have eA:(dz w i==dz (bY w j st) i)=(ct W i==ct (cO W j st) i):=by
  rcases h.st i i0 i1 with⟨e,_⟩|⟨a,_,c⟩
  .have e':bA (bY w j st).done i=bA (cO W j st).Begun i:=by
    rcases h'.st i i0 i1' with⟨e',_⟩|⟨a',_,c'⟩
    .exact e'
    rw[edn]at a';rw[e]at a';have:ct (cO W j st) i=true:=by
     have hb:bA (cO W j st).Begun i=true:=by
      unfold cO;split
      .show bA (W.Begun.set j.toNat true) i=true;rw[ox j0 i0 hbl,aw hij];exact a'
      exact a'
     unfold ct;rw[hb];simp
    rw[this]at c';cases c'
   rw[h.act e,h'.act e']
  have c':=NQ (st:=st) i0 j0 hbl hij c;have x:∀v:ak,bA v.done i=true->dz v i=true:=λv hv=>by unfold dz;rw[hv];simp
  rw[x w a,x (bY w j st) (edn.trans a),c,c'];rfl
 have eH:(cc w i==cc (bY w j st) i)=(cQ W i==cQ (cO W j st) i):=by rw[<- h.aff i0 i1,<- h'.aff i0 i1'];have es:(bY w j st).s=w.s:=rfl;rw[es,j8,ly,ly];exact⟨λk=>by rw[k],λk=>NG h.so (h.affn i0 i1).2 (h'.affn i0 i1').2 k⟩
 have eN:(fW w i st==fW (bY w j st) i st)=(fu W i st==fu (cO W j st) i st):=by
  rw[h.num,h'.num,j8,ly,ly];have eg:gAt (cO W j st) i=gAt W i:=by unfold cO;split<;>rfl
  unfold fW;rw[show fAt (bY w j st) i=fAt w i from rfl,ow h.f,eg];refine NS _ λm _ hp=>?_;have hn:¬(m.Kind=11/\stV m.Kind=st):=λk=>by rw[k.2]at hp;simp at hp
  unfold Go.PW.fV;rw[aw hn,aw hn]
 cases hd:eW w i st with
 |true=>
  unfold Z8m fH;simp only;rw[eA,eH,eN];simp[Bool.or_assoc]
 |false=>have hlk:=ZcT (h.hok j0 j1) i0 j0 hdl hhl hij hd;unfold fH at hlk;simp only[bM.mk.injEq]at hlk;rw[<- eA,<- eH,<- eN,hlk.1,hlk.2.1,hlk.2.2];simp
structure STP (w:ak) (W:au) (fs:List Z2) (left:List Int):Prop where
 sim:SIM w W
 eqf:w.forces=fs
 inr:INR fs.length left
 nd:left.Nodup
def STP.next{w:ak}{W:au}{fs:List Z2}{left ord:List Int}(h:STP w W fs left)(st:Int)(sts:List Int)(hl:0<left.length) :
 ∃w' W' left' ord',stF st sts (w,left,ord)=(w',left',ord')/\stFR st sts (W,left,ord)=(W',left',ord')/\STP w' W' fs left'/\left'.length+1=left.length:=by
 have hN:nxV left sts (ndB w st)=nxV left sts (ndR W st):=AU λx y hx hy _ _=>by have a:=h.inr x hx;have b:=h.inr y hy;exact h.sim.nd st a.1 (by rw[h.eqf];exact a.2) b.1 (by rw[h.eqf];exact b.2)
 have hm:nxV left sts (ndB w st)∈left:=MT rfl (λk hk=>(h.inr k hk).1) hl;have hr:=h.inr _ hm;refine⟨_,_,_,_,rfl,?_,⟨h.sim.app st hr.1 (by rw[h.eqf];exact hr.2),h.eqf,λk hk=>h.inr k (iJ.1 hk).1,h.nd.filter _⟩,NT h.nd hm⟩;unfold stFR;simp only;rw[<- hN];rfl
def STP.itr{w:ak}{W:au}{fs:List Z2}{left:List Int}(h:STP w W fs left)(st:Int)(sts:List Int):∀n,n<=left.length->∃w' W' left' ord',Go.PW.itr (stF st sts) n (w,left,[])=(w',left',ord')/\Go.PW.itr (stFR st sts) n (W,left,[])=(W',left',ord')/\STP w' W' fs left'/\left'.length+n=left.length
 |0,_=>⟨w,W,left,[],rfl,rfl,h,rfl⟩
 |n+1,hn=>by
  obtain⟨w1,W1,l1,o1,e1,e2,h1,h2⟩:=h.itr st sts n O;obtain⟨w2,W2,l2,o2,e3,e4,h3,h4⟩:=h1.next (ord:=o1) st sts O;refine⟨w2,W2,l2,o2,?_,?_,h3,by omega⟩
  .show stF st sts (Go.PW.itr (stF st sts) n (w,left,[]))=_;rw[e1];exact e3
  show stFR st sts (Go.PW.itr (stFR st sts) n (W,left,[]))=_;rw[e2];exact e4
def Zc1(L:List ba)(st:Int):Z33 (L.map toL) st=belS L st:=by unfold Z33 belS zfm;rw[cK,<- lE,List.zipIdx_map,List.filter_map,ov];rfl
def Zc2(L:List ba):(L.map toL).map (λf=>f.Stamp)=L.map λf=>f.Stamp:=by rw[ov];rfl
def SIM.stg{w:ak}{W:au}(h:SIM w W)(st:Int):SIM (Z34 w st).2 (Z0s W st).1/\(Z34 w st).1=(Z0s W st).2:=by
 have h1:SIM (if st=7 then Z8n w else w) (if st=7 then Z0r W else W):=by
  split
  .exact h.cnt
  exact h
 have ef:(if st=7 then Z8n w else w).forces=w.forces:=by split<;>rfl
 have hb:Z33 w.forces st=belS W.L st:=by rw[h.f,Zc1]
 have hs:(w.forces.map λf=>f.Stamp)=W.L.map λf=>f.Stamp:=by rw[h.f,Zc2]
 have hp:STP (if st=7 then Z8n w else w) (if st=7 then Z0r W else W) w.forces (Z33 w.forces st):=⟨h1,ef,NU rfl (rZ _),AQ⟩;obtain⟨w',W',l',o',e1,e2,h3,_⟩:=hp.itr st (w.forces.map λf=>f.Stamp) _ (bh _);unfold Z34 Z0s;simp only;rw[e1,<- hs,<- hb,e2];exact⟨h3.sim,rfl⟩
def SIM.wrl{cards:List an}{s:ao}(hc:∀c,c∈cards->ic c)(hs:bU s.Objects):∀n,SIM (wrlV cards s n) (wrlR cards s n)
 |0=>SIM.beg hc hs
 |n+1=>((SIM.wrl hc hs n).stg _).1
noncomputable def ordV(cards:List an)(s:ao)(st:Int):List Int:=if st<1\/st>8 then[]else(Z34 (wrlV cards s (st-1).toNat) st).1
noncomputable def ordR(cards:List an)(s:ao)(st:Int):List Int:=if st<1\/st>8 then[]else(Z0s (wrlR cards s (st-1).toNat) st).2
def Zc3{cards:List an}{s:ao}(hc:∀c,c∈cards->ic c)(hs:bU s.Objects)(st:Int):ordV cards s st=ordR cards s st:=by
 unfold ordV ordR;split
 .rfl
 exact((SIM.wrl hc hs _).stg st).2
def ov_z{cards:List an}{s:ao}{st:Int}(h:st<1\/st>8):[]=ordV cards s st:=by unfold ordV;rw[aq h]
def or_z{cards:List an}{s:ao}{st:Int}(h:st<1\/st>8):[]=ordR cards s st:=by unfold ordR;rw[aq h]
def ov_e{cards:List an}{s:ao}{st v:Int}{w:ak}{r:List Int×ak}(h:w=wrlV cards s (v-1).toNat)(hr:r=Z34 w st)(h1:1<=st)(h2:st<=8)(hv:v=st):r.1=ordV cards s st:=by subst hv;unfold ordV;rw[aw O,hr,h]
def ORD(cards:List an)(s:ao)(v:Int)(o:List Int):Prop:=2<=v->o=(Z0s (wrlR cards s (v-2).toNat) (v-1)).2
def od_0{cards:List an}{s:ao}{o:List Int}:ORD cards s 1 o:=λh=>aW
def od_n{cards:List an}{s:ao}{v v':Int}{w:au}{r:au×List Int}(h:w=wrlR cards s (v-1).toNat)(hr:r=Z0s w v)(hv:v'=v+1):ORD cards s v' r.2:=λ_=>by rw[hr,h,hv,show v+1-2=v-1 by omega,show v+1-1=v by omega]
def od_e{cards:List an}{s:ao}{st v:Int}{o:List Int}(h:ORD cards s v o)(h1:1<=st)(h2:st<=8)(hv:v=st+1):o=ordR cards s st:=by subst hv;unfold ordR;rw[aw O,h O,show st+1-2=st-1 by omega,show st+1-1=st by omega]
def ls_1{cards:List an}{s:ao}{st:Int}{x y:List Int}{v r:Bool}(hx:x=ordV cards s st)(hy:y=ordR cards s st)(hs:r=true↔x=y)(hc:v=true->∀c,c∈cards->ic c)(ho:v=true->bU s.Objects)(hv:v=true):r=true:=hs.2 (by rw[hx,hy];exact Zc3 (hc hv) (ho hv) st)
end Go.PW

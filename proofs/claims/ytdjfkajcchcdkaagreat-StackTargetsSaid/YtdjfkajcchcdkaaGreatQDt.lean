import Derived.Test.YtdjfkajcchcdkaaGreatQC
import Derived.RangeFuncNested
import Derived.RangeFuncLeaves
import Derived.RangeFuncBound
set_option linter.all false
set_option maxRecDepth 100000
namespace Go.PW
open Go.RowKit
noncomputable section
structure Z4 where
 Generic:Int
 X:Int
 Color:(A5 Int)
 deriving DecidableEq,Inhabited
def cJ(x:Z4):List U:=(cI .i64) x.Generic++((cI .i64) x.X++((cA5 (cI .i64)) x.Color))
instance:Cl cJ 7:=⟨λ_=>rfl⟩
structure cf where
 Super:Int
 Types:Int
 Subs:(Bys)
 deriving DecidableEq,Inhabited
def jd(x:cf):List U:=(cI .i64) x.Super++((cI .i64) x.Types++((cL cS) x.Subs))
instance:Cl jd 3:=⟨λ_=>rfl⟩
structure ae where
 Kind:Int
 N:Int
 deriving DecidableEq,Inhabited
def e9(x:ae):List U:=(cI .i64) x.Kind++((cI .i64) x.N)
instance:Cl e9 2:=⟨λ_=>rfl⟩
structure aj where
 Zone:Int
 Who:Int
 Self:Int
 Types:Int
 NotTypes:Int
 Colors:Int
 NotColors:Int
 Sub:(By)
 Keys:Int
 Tap:Int
 Power:ae
 Tough:ae
 Value:ae
 deriving DecidableEq,Inhabited
def bf(x:aj):List U:=(cI .i64) x.Zone++((cI .i64) x.Who++((cI .i64) x.Self++((cI .i64) x.Types++((cI .i64) x.NotTypes++((cI .i64) x.Colors++((cI .i64) x.NotColors++(cS x.Sub++((cI .i64) x.Keys++((cI .i64) x.Tap++(e9 x.Power++(e9 x.Tough++(e9 x.Value))))))))))))
instance:Cl bf 16:=⟨λ_=>rfl⟩
structure ai where
 Kind:Int
 N:Int
 M:Int
 Sub:(By)
 Filter:aj
 deriving DecidableEq,Inhabited
def aF(x:ai):List U:=(cI .i64) x.Kind++((cI .i64) x.N++((cI .i64) x.M++(cS x.Sub++(bf x.Filter))))
instance:Cl aF 20:=⟨λ_=>rfl⟩
structure gM where
 Mana:Z4
 Tap:Bool
 Sacrifice:Bool
 Life:Int
 deriving DecidableEq,Inhabited
def hN(x:gM):List U:=cJ x.Mana++(cB x.Tap++(cB x.Sacrifice++((cI .i64) x.Life)))
instance:Cl hN 10:=⟨λ_=>rfl⟩
structure eW where
 When:Int
 Who:Int
 Filter:aj
 deriving DecidableEq,Inhabited
def gP(x:eW):List U:=(cI .i64) x.When++((cI .i64) x.Who++(bf x.Filter))
instance:Cl gP 18:=⟨λ_=>rfl⟩
structure bo where
 Player:Bool
 Object:Bool
 Filter:aj
 deriving DecidableEq,Inhabited
def bS(x:bo):List U:=cB x.Player++(cB x.Object++(bf x.Filter))
instance:Cl bS 18:=⟨λ_=>rfl⟩
structure fa where
 Kind:Int
 N:Int
 Filter:aj
 deriving DecidableEq,Inhabited
def fQ(x:fa):List U:=(cI .i64) x.Kind++((cI .i64) x.N++(bf x.Filter))
instance:Cl fQ 18:=⟨λ_=>rfl⟩
structure dO where
 Kind:Int
 N:Int
 Counter:Int
 Filter:aj
 deriving DecidableEq,Inhabited
def dB(x:dO):List U:=(cI .i64) x.Kind++((cI .i64) x.N++((cI .i64) x.Counter++(bf x.Filter)))
instance:Cl dB 19:=⟨λ_=>rfl⟩
structure bh where
 Op:Int
 Ref:fa
 Amount:dO
 Counter:Int
 Zone:Int
 Card:(By)
 Filter:aj
 Pool:(A6 Int)
 Mods:(List ai)
 deriving DecidableEq,Inhabited
def bl(x:bh):List U:=(cI .i64) x.Op++(fQ x.Ref++(dB x.Amount++((cI .i64) x.Counter++((cI .i64) x.Zone++(cS x.Card++(bf x.Filter++((cA6 (cI .i64)) x.Pool++((cL aF) x.Mods))))))))
instance:Cl bl 64:=⟨λ_=>rfl⟩
structure dn where
 On:Int
 Who:Int
 Filter:aj
 Do:Int
 N:Int
 Zone:Int
 Counter:Int
 deriving DecidableEq,Inhabited
def fw(x:dn):List U:=(cI .i64) x.On++((cI .i64) x.Who++(bf x.Filter++((cI .i64) x.Do++((cI .i64) x.N++((cI .i64) x.Zone++((cI .i64) x.Counter))))))
instance:Cl fw 22:=⟨λ_=>rfl⟩
structure an where
 Kind:Int
 Filter:aj
 Mods:(List ai)
 Price:gM
 Slow:Bool
 Trigger:eW
 May:Bool
 Specs:(List bo)
 Effects:(List bh)
 Replace:dn
 deriving DecidableEq,Inhabited
def aD(x:an):List U:=(cI .i64) x.Kind++(bf x.Filter++((cL aF) x.Mods++(hN x.Price++(cB x.Slow++(gP x.Trigger++(cB x.May++((cL bS) x.Specs++((cL bl) x.Effects++(fw x.Replace)))))))))
instance:Cl aD 72:=⟨λ_=>rfl⟩
structure aw where
 Name:(By)
 Token:Bool
 Cost:Z4
 Color:Int
 Line:cf
 Power:Int
 Tough:Int
 Keys:Int
 Abilities:(List an)
 deriving DecidableEq,Inhabited
def bA(x:aw):List U:=cS x.Name++(cB x.Token++(cJ x.Cost++((cI .i64) x.Color++(jd x.Line++((cI .i64) x.Power++((cI .i64) x.Tough++((cI .i64) x.Keys++((cL aD) x.Abilities))))))))
instance:Cl bA 17:=⟨λ_=>rfl⟩
structure bC where
 Life:Int
 Venom:Int
 Lands:Int
 Pool:(A6 Int)
 Failed:Bool
 Lost:Bool
 Library:(List Int)
 Hand:(List Int)
 Graveyard:(List Int)
 deriving DecidableEq,Inhabited
def ba(x:bC):List U:=(cI .i64) x.Life++((cI .i64) x.Venom++((cI .i64) x.Lands++((cA6 (cI .i64)) x.Pool++(cB x.Failed++(cB x.Lost++((cL (cI .i64)) x.Library++((cL (cI .i64)) x.Hand++((cL (cI .i64)) x.Graveyard))))))))
instance:Cl ba 14:=⟨λ_=>rfl⟩
structure ak where
 Id:Int
 Card:Int
 Owner:Int
 Control:Int
 Zone:Int
 Token:Bool
 Tapped:Bool
 Sick:Bool
 Deadly:Bool
 Damage:Int
 Counters:(A3 Int)
 Stamp:Int
 Copy:Int
 Attack:Int
 Blocked:Bool
 Blocks:Int
 Shield:Int
 deriving DecidableEq,Inhabited
def aC(x:ak):List U:=(cI .i64) x.Id++((cI .i64) x.Card++((cI .i64) x.Owner++((cI .i64) x.Control++((cI .i64) x.Zone++(cB x.Token++(cB x.Tapped++(cB x.Sick++(cB x.Deadly++((cI .i64) x.Damage++((cA3 (cI .i64)) x.Counters++((cI .i64) x.Stamp++((cI .i64) x.Copy++((cI .i64) x.Attack++(cB x.Blocked++((cI .i64) x.Blocks++((cI .i64) x.Shield))))))))))))))))
instance:Cl aC 19:=⟨λ_=>rfl⟩
structure bW where
 Object:Int
 Player:Int
 deriving DecidableEq,Inhabited
def cc(x:bW):List U:=(cI .i64) x.Object++((cI .i64) x.Player)
instance:Cl cc 2:=⟨λ_=>rfl⟩
structure jA where
 Kind:Int
 Source:Int
 Object:Int
 Player:Int
 Amount:Int
 From:Int
 To:Int
 Cause:Int
 Counter:Int
 Card:Int
 Combat:Bool
 Tapped:Bool
 Extra:(A3 Int)
 deriving DecidableEq,Inhabited
def jK(x:jA):List U:=(cI .i64) x.Kind++((cI .i64) x.Source++((cI .i64) x.Object++((cI .i64) x.Player++((cI .i64) x.Amount++((cI .i64) x.From++((cI .i64) x.To++((cI .i64) x.Cause++((cI .i64) x.Counter++((cI .i64) x.Card++(cB x.Combat++(cB x.Tapped++((cA3 (cI .i64)) x.Extra))))))))))))
instance:Cl jK 15:=⟨λ_=>rfl⟩
structure Z1 where
 Id:Int
 Kind:Int
 Source:Int
 Control:Int
 X:Int
 Copy:Bool
 Ability:an
 Targets:(List bW)
 Event:jA
 deriving DecidableEq,Inhabited
def ax(x:Z1):List U:=(cI .i64) x.Id++((cI .i64) x.Kind++((cI .i64) x.Source++((cI .i64) x.Control++((cI .i64) x.X++(cB x.Copy++(aD x.Ability++((cL cc) x.Targets++(jK x.Event))))))))
instance:Cl ax 94:=⟨λ_=>rfl⟩
structure Z2 where
 Source:Int
 Control:Int
 Ability:an
 Event:jA
 deriving DecidableEq,Inhabited
def bz(x:Z2):List U:=(cI .i64) x.Source++((cI .i64) x.Control++(aD x.Ability++(jK x.Event)))
instance:Cl bz 89:=⟨λ_=>rfl⟩
structure ck where
 Stamp:Int
 Control:Int
 Source:Int
 Until:Int
 Objects:(List Int)
 Mods:(List ai)
 deriving DecidableEq,Inhabited
def bD(x:ck):List U:=(cI .i64) x.Stamp++((cI .i64) x.Control++((cI .i64) x.Source++((cI .i64) x.Until++((cL (cI .i64)) x.Objects++((cL aF) x.Mods)))))
instance:Cl bD 6:=⟨λ_=>rfl⟩
structure ab where
 Players:(List bC)
 Objects:(List ak)
 Battlefield:(List Int)
 Exile:(List Int)
 Stack:(List Z1)
 Waiting:(List Z2)
 Conts:(List ck)
 Turn:Int
 Active:Int
 Step:Int
 Begun:Bool
 Priority:Int
 Passes:Int
 NextId:Int
 NextStamp:Int
 Seed:Int
 Extra:(List Int)
 Over:Int
 Winner:Int
 deriving DecidableEq,Inhabited
def aH(x:ab):List U:=(cL ba) x.Players++((cL aC) x.Objects++((cL (cI .i64)) x.Battlefield++((cL (cI .i64)) x.Exile++((cL ax) x.Stack++((cL bz) x.Waiting++((cL bD) x.Conts++((cI .i64) x.Turn++((cI .i64) x.Active++((cI .i64) x.Step++(cB x.Begun++((cI .i64) x.Priority++((cI .i64) x.Passes++((cI .i64) x.NextId++((cI .i64) x.NextStamp++((cI .u64) x.Seed++((cL (cI .i64)) x.Extra++((cI .i64) x.Over++((cI .i64) x.Winner))))))))))))))))))
instance:Cl aH 19:=⟨λ_=>rfl⟩
structure bc where
 Kind:Int
 A:Int
 B:Int
 deriving DecidableEq,Inhabited
def bj(x:bc):List U:=(cI .i64) x.Kind++((cI .i64) x.A++((cI .i64) x.B))
instance:Cl bj 3:=⟨λ_=>rfl⟩
structure Z3 where
 Kind:Int
 Player:Int
 Source:Int
 Least:Int
 Most:Int
 N:Int
 Options:(List bc)
 deriving DecidableEq,Inhabited
def fx(x:Z3):List U:=(cI .i64) x.Kind++((cI .i64) x.Player++((cI .i64) x.Source++((cI .i64) x.Least++((cI .i64) x.Most++((cI .i64) x.N++((cL bj) x.Options))))))
instance:Cl fx 7:=⟨λ_=>rfl⟩
structure bm where
 answers:(List (List Int))
 used:Int
 pending:Z3
 waits:Bool
 bad:Bool
 deriving DecidableEq,Inhabited
def dG(x:bm):List U:=(cL (cL (cI .i64))) x.answers++((cI .i64) x.used++(fx x.pending++(cB x.waits++(cB x.bad))))
instance:Cl dG 11:=⟨λ_=>rfl⟩
structure Z0b where
 Answers:(List (List Int))
 Choice:Z3
 Waits:Bool
 Wrong:Bool
 N:Int
 deriving DecidableEq,Inhabited
structure bV where
 You:Int
 Source:Int
 X:Int
 Targets:(List bW)
 Event:jA
 deriving DecidableEq,Inhabited
def gr(x:bV):List U:=(cI .i64) x.You++((cI .i64) x.Source++((cI .i64) x.X++((cL cc) x.Targets++(jK x.Event))))
instance:Cl gr 19:=⟨λ_=>rfl⟩
structure ah where
 Name:(By)
 Cost:Z4
 Colors:Int
 Line:cf
 Power:Int
 Tough:Int
 Keys:Int
 Abilities:(List an)
 Control:Int
 deriving DecidableEq,Inhabited
def ay(x:ah):List U:=cS x.Name++(cJ x.Cost++((cI .i64) x.Colors++(jd x.Line++((cI .i64) x.Power++((cI .i64) x.Tough++((cI .i64) x.Keys++((cL aD) x.Abilities++((cI .i64) x.Control))))))))
instance:Cl ay 17:=⟨λ_=>rfl⟩
structure cU where
 Source:Int
 Ability:Int
 Control:Int
 Stamp:Int
 Fixed:Bool
 Objects:(List Int)
 Filter:aj
 Mods:(List ai)
 deriving DecidableEq,Inhabited
def cF(x:cU):List U:=(cI .i64) x.Source++((cI .i64) x.Ability++((cI .i64) x.Control++((cI .i64) x.Stamp++(cB x.Fixed++((cL (cI .i64)) x.Objects++(bf x.Filter++((cL aF) x.Mods)))))))
instance:Cl cF 23:=⟨λ_=>rfl⟩
structure aB where
 s:ab
 forces:(List cU)
 traits:(List ah)
 dropped:(List Bool)
 done:(List Bool)
 hits:(List (List Int))
 deriving DecidableEq,Inhabited
structure dA where
 active:Bool
 hits:(List Int)
 numbers:(List Int)
 deriving DecidableEq,Inhabited
def je(x:dA):List U:=cB x.active++((cL (cI .i64)) x.hits++((cL (cI .i64)) x.numbers))
instance:Cl je 3:=⟨λ_=>rfl⟩
end
end Go.PW
set_option maxRecDepth 100000
namespace Go.PW
open Go.Proofs.Tryz
open Go.RowKit
section
variable {P:Program} {T:TS}
def Z02(l:List Oper):Bool:=l.all λo=>match o.op with|.defer _=>false|_=>true
def WV{o:Oper}{l:List Oper}(h:Z02 (o::l)=true):(∀c,o.op ≠ .defer c)/\Z02 l=true:=by simp only[Z02,jr,aL]at h;refine⟨λc hc=>?_,h.2⟩;rw[hc]at h;exact absurd h.1 al
def dS(F:Fence):Prop:=F=Fence.wide\/∃l,F=Fence.wide.inRound l
def dS.fn{F:Fence}(h:dS F)(f:FuncId):F.fn f:=by rcases h with rfl|⟨l,rfl⟩<;>exact aa
def dS.depth{F:Fence}(h:dS F):F.depth=none:=by rcases h with rfl|⟨l,rfl⟩<;>rfl
def dS.calls{F:Fence}(h:dS F){n:Nat}{f:FuncId}{args:Array Value}{w:World}{R:Ending->World->Prop}(hc:Calls P f args w R):CallsIn F n P f args w R:=by
 rcases h with rfl|⟨l,rfl⟩
 .exact callsIn_wide.2 hc
 exact CallsIn.inRound l (callsIn_wide.2 hc)
def dS.rows{F:Fence}(h:dS F){n:Nat}{row:String}{args:Array Value}{w:World}{R:Value->World->Prop}(hc:Rows P row args w R):RowsIn F n P row args w R:=by
 rcases h with rfl|⟨l,rfl⟩
 .exact λc cs _=>let ⟨v,w',r,s⟩:=hc c cs;⟨v,w',r,stepsIn_wide.2 s⟩
 have:RowsIn Fence.wide n P row args w R:=λc cs _=>let ⟨v,w',r,s⟩:=hc c cs;⟨v,w',r,stepsIn_wide.2 s⟩
 exact this
def D6(t:Array Value)(d:List Deferred)(o:Option Tmp)(v:Value):(⟨t,d⟩:Act).put o v=⟨((⟨t,[]⟩:Act).put o v).tmps,d⟩:=by cases o<;>rfl
def D7{F:Fence}(hF:dS F){n:Nat}{ops:Array Oper}{Q:Exit->Act->World->Prop}{d:List Deferred}{R:St->Prop}{l2:List Oper}{G:Frm} :
 ∀(l:List Oper) (st:St),cO P ops R l st->Z02 l=true->∀(t:Array Value) (w:World),Rel G st ⟨t,[]⟩ w ->
  (∀t' w' st',R st'->Rel G st' ⟨t',[]⟩ w'->wpListIn F n P ops Q l2 ⟨t',d⟩ w')->wpListIn F n P ops Q (l++l2) ⟨t,d⟩ w
 |[],st,h,_,t,w,hr,hk=>by obtain⟨st',hw,h⟩:=h;exact hk t w st' h (hw G _ w hr)
 |o::l,st,h,hq,t,w,hr,hk=>by
  obtain⟨hd,hq⟩:=WV hq;have:=h G ⟨t,[]⟩ w hr (λa' w'=>a'.defers=[]/\wpListIn F n P ops Q (l++l2) ⟨a'.tmps,d⟩ w') (λ_ _ _=>False) (λa' w' st' hs hr'=>by
   have hd':a'.defers=[]:=by obtain⟨β,hr'⟩:=hr';exact hr'.defers
   obtain⟨t',d'⟩:=a';simp only at hd';subst hd';exact⟨rfl,D7 hF l st' hs hq t' w' hr' hk⟩)
  simp only[eR];unfold wpListIn;have hy:yielded ops (⟨t,d⟩:Act).tmps=yielded ops (⟨t,[]⟩:Act).tmps:=rfl;rw[hy];split at this
  .rename_i hw;rw[aP hw];refine⟨λf _=>hF.fn f,?_⟩;rw[Oper.semAt_eq _ _ _ hd];have he:(⟨t,d⟩:Act).eval=(⟨t,[]⟩:Act).eval:=rfl;rw[he];unfold Oper.wp at this;have hK:∀v w',(((⟨t,[]⟩:Act).put o.dst v).defers=[]/\wpListIn F n P ops Q (l++l2) ⟨((⟨t,[]⟩:Act).put o.dst v).tmps,d⟩ w')->wpListIn F n P ops Q (l++l2) ((⟨t,d⟩:Act).put o.dst v) w':=λv w' h=>by rw[D6];exact h.2
   have hdep:F.depth.isSome=true->1<=n:=λh=>by rw[hF.depth]at h;cases h
   generalize (execOp (⟨t,[]⟩:Act).eval o).run P w=res at this⊢
   match res,this with
   |.ok (.value v) w',this=>exact hK v w' this
   |.ok .skip w',this=>exact hK undef w' this
   |.ok (.defer c) w',this=>exact absurd this.1 (by cases o.dst<;>simp[Act.put])
   |.ok (.enter f args) w',this=>
    refine⟨hdep,hF.calls (this.mono λe w'' he=>?_)⟩
    match e,he with
    |.returned v,he=>exact hK v w'' he
    |.panicked chain,he=>exact he.elim
    |.outgrown,he=>obtain⟨_,_,he⟩:=he;exact he.elim
   |.ok (.row row args) w',this=>exact⟨hdep,hF.rows (this.mono λv w'' he=>hK v w'' he)⟩
   |.halt (.panic v) w',this=>exact this.elim
  rename_i hw;rw[aI hw];exact⟨λf _=>hF.fn f,by rw[D6];exact this.2⟩
def Rel.ks{G:Frm}{st:St}{a:Act}{w:World}{ks:List (Nat×PV)}(h:Rel G st a w)(hk:∀k,k∈ks->get st.tm k.1=some k.2):Rel G ⟨st.n,ks,st.Z⟩ a w:=by obtain⟨β,h⟩:=h;refine⟨β,h.sub (aW _) (λi p hi=>?_) (λl o h=>h)⟩;have:=hk _ (ew hi);exact⟨this,(h.tm i p this).1⟩
def WW(hT:TOK P T){F:Fence}(hF:dS F){n:Nat}{ops:Array Oper}{Q:Exit->Act->World->Prop}{d:List Deferred}{l l2:List Oper}{G:Frm}{st:St}{xs:List Orc}{ps:List Prop}{ks:List (Nat×PV)}{Z':List (Nat×Blk)}{m:Nat}
 (hev:(im P T ops l xs st).map (λr=>(r.1,ks.map λk=>get r.2.2.tm k.1,r.2.2.Z,r.2.2.n))=some (ps,ks.map λk=>some k.2,Z',m)) (hc:aG ps) (hq:Z02 l=true)
 {t:Array Value} {w:World} (hr:Rel G st ⟨t,[]⟩ w) (hk:∀t' w',Rel G ⟨m,ks,Z'⟩ ⟨t',[]⟩ w'->wpListIn F n P ops Q l2 ⟨t',d⟩ w'):wpListIn F n P ops Q (l++l2) ⟨t,d⟩ w:=by
 obtain⟨⟨ps',xs',st'⟩,he,hr2⟩:=cA.1 hev;simp only[bG]at hr2;obtain⟨rfl,h1,rfl,rfl⟩:=hr2;refine D7 hF l st (te hT l he hc (R:=λs=>s=st') rfl) hq t w hr λt' w' s hs hr'=>?_;subst hs;refine hk t' w' (hr'.ks λk hkm=>?_);obtain⟨i,hi,he2⟩:=lh hkm;have:=dw (·[i]?) h1;simp only[fX,bn hi,dW,aq]at this;rw[he2]at this;exact this
def xQ(hT:TOK P T){F:Fence}(hF:dS F){n id:Nat}{ops:Array Oper}{Q:Exit->Act->World->Prop}{d:List Deferred}{G:Frm}{st:St}{xs:List Orc}{ps:List Prop}{ks:List (Nat×PV)}{Z':List (Nat×Blk)}{m:Nat}
 (hev:(im P T ops ops.toList xs st).map (λr=>(r.1,ks.map λk=>get r.2.2.tm k.1,r.2.2.Z,r.2.2.n))=some (ps,ks.map λk=>some k.2,Z',m)) (hc:aG ps) (hq:Z02 ops.toList=true)
 {t:Array Value} {w:World} (hr:Rel G st ⟨t,[]⟩ w) (hk:∀t' w',Rel G ⟨m,ks,Z'⟩ ⟨t',[]⟩ w'->Q .normal ⟨t',d⟩ w'):(Code.region id ops false).wpIn F n P Q ⟨t,d⟩ w:=
 wpIn_region_list (by have:=WW hT hF (n:=n) (Q:=Q) (d:=d) (l2:=[]) hev hc hq hr (λt' w' h=>hk t' w' h);rwa[cC]at this)
def WX{G:Frm}{β:Nat->Option Nat}{st:St}{a:Act}{w W:World}(h:aE G β st a w)(hb:Below w.heap.size w W):aE G β st a W:=by
 have hO:∀l o b,get st.Z l=some o->aA β W l o b->aA β w l o b:=λl o b hl ho=>ho.of_heap (λb hb'=>hb.block b (h.sep l o b hl (.inl hb')).1);have hI:∀b,(ctx G β w st.Z).I b->(ctx G β W st.Z).I b/\(ctx G β W st.Z).w.heap[b]?=(ctx G β w st.Z).w.heap[b]?:=λb hb'=>⟨⟨dL hb'.1 hb.size,hb'.2.1,λl o hl ho=>hb'.2.2 l o hl (hO l o b hl ho)⟩,hb.block b hb'.1⟩;have hL:∀l,aV (ctx G β w st.Z) (ctx G β W st.Z) l:=λl=>by
  cases hg:get st.Z l with
  |none=>exact aV.none hg
  |some o=>exact aV.same rfl rfl (λb hb'=>hb.block b (h.sep l o b hg (.inl hb')).1)
 exact { defers:=h.defers,sz:=h.sz,base:=cX h.base hb.size,os:=hb.os.trans h.os,tape:=hb.tape.trans h.tape,output:=hb.output.trans h.output,
         old:=λb h1 h2=>(hb.block b (dL h1 h.base)).trans (h.old b h1 h2),A:=h.A,gl:=h.gl,
         inj:=λl l' o o' b hl hl' h1 h2=>h.inj l l' o o' b hl hl' (hO l o b hl h1) (hO l' o' b hl' h2),
         sep:=λl o b hl h1=>⟨dL (h.sep l o b hl (hO l o b hl h1)).1 hb.size,(h.sep l o b hl (hO l o b hl h1)).2⟩,
         fix:=h.fix,row0:=λm k es' hm hg=>h.row0.one (hL m) hm hg,
         blk:=λl o hl=>BR.step hI rfl (λb hb'=>hb.block b (h.sep l o b hl hb').1) (λm _=>hL m) (h.blk l o hl),
         tm:=λi p hp=>⟨(h.tm i p hp).1,VR.step hI p _ (λm _=>hL m) (h.tm i p hp).2⟩ }
end
def cSL:Code->Code|.seq a _=>a|_ =>.skip
def cSR:Code->Code|.seq _ b=>b|_ =>.skip
def cBl:Code->Code|.block _ c=>c|_ =>.skip
def cLo:Code->Code|.loop c=>c|_ =>.skip
def cOp:Code->Array Oper|.region _ o _=>o|_ => #[]
def cRa:Code->Code|.rangeFunc _ _ a _=>a|_ =>.skip
def cRb:Code->Code|.rangeFunc _ _ _ b=>b|_ =>.skip
def cCt:Code->Code|.cond _ a _=>a|_ =>.skip
def ez(o:Oper):Op×Option Nat×Bool:=(o.op,o.dst,o.guard.isNone)
section
variable {P:Program} {F:Fence} {n:Nat} {ops:Array Oper} {Q:Exit->Act->World->Prop} {d:List Deferred}
def ef(hF:dS F){o:Oper}{l:List Oper}{t:Array Value}{w:World}{v:Value}{op:Op}{k:Nat}(hs:ez o=(op,some k,true))(hd:∀c,op ≠ .defer c)(hrun:o.op=op->(execOp (⟨t,d⟩:Act).eval o).run P w = .ok (.value v) w)
 (h:wpListIn F n P ops Q l ⟨t.setIfInBounds k v,d⟩ w):wpListIn F n P ops Q (o::l) ⟨t,d⟩ w:=by
 simp only[ez,bG,tf]at hs;obtain⟨h1,h2,h3⟩:=hs;unfold wpListIn;have hw:Region.wanted o (yielded ops (⟨t,d⟩:Act).tmps)=true:=xR
 rw[aP hw];refine⟨λf _=>hF.fn f,?_⟩;rw[Oper.semAt_eq _ _ _ xS,hrun h1,Oper.uponIn_value];rw[h2];exact h
def dm(t:Array Value)(d:List Deferred)(i:Nat):(⟨t,d⟩:Act).eval (.tmp i)=t.getD i undef:=rfl
def bw(t:Array Value){i j:Nat}(v:Value)(h:i<t.size):(t.setIfInBounds i v).getD j undef=if i=j then v else t.getD j undef:=by
 by_cases e:i=j
 .subst e;simp[h]
 simp[e]
end
section
variable {P:Program}
end
def tg(t:Nat)(agg:Bool)(size:Nat)(h:(get T t).map (λi=>(i.agg,i.size))=some (agg,size)):TyF PR t agg size:=by obtain⟨i,hi,he⟩:=cA.1 h;cases he;exact(hT t i hi).ty
def ty26:TyF PR 26 false 1:=tg _ _ _ ar
def ty55:TyF PR 55 true 94:=tg _ _ _ ar
def sl26:slInfo PR 26=some 94:=ar
def WY:PR.underlying 26=some (.slice 55):=ar
noncomputable section
def c71l:Code:=cLo (cBl (cSR (fJ PR 71)))
def xU:Array Oper:=cOp (cSL (fJ PR 71))
def xV:Array Oper:=cOp (cSL (cSL c71l))
def th:Array Oper:=cOp (cSL (cBl (cSL (cSR c71l))))
def xW:Array Oper:=cOp (cSR (cSR c71l))
end
def WZ:fJ PR 71 = .seq (.region 0 xU false) (.block 0 (.loop (.seq (.seq (.region 1 xV false) (.cond (.tmp 8) .skip (.exit 0))) (.seq (.block 1 (.seq (.region 3 th false) (.cond (.tmp 18) .ret .skip))) (.region 2 xW false))))):=ar
def W0:xU.toList.map ez=[(.load 26 (.tmp 1),some 4,true),(.call { callee :=.builtin .len,args := #[.tmp 4],argTypes := #[26] },some 5,true),(.binOp .sub 3 (.tmp 5) (.const (.int .i64 1)) 3,some 6,true),(.assign (.tmp 6),some 3,true)]:=ar
def W2:xV.toList.map ez=[(.move (.tmp 3),some 7,true),(.binOp .geq 3 (.tmp 7) (.const (.int .i64 0)) 3,some 8,true)]:=ar
def W3:xW.toList.map ez=[(.move (.tmp 3),some 9,true),(.binOp .sub 3 (.tmp 9) (.const (.int .i64 1)) 3,some 10,true),(.assign (.tmp 10),some 3,true)]:=ar
def W4:th.toList.map ez=[(.move (.tmp 0),some 11,true),(.move (.tmp 3),some 12,true),(.load 26 (.tmp 1),some 13,true),(.move (.tmp 3),some 14,true),(.indexAddr 26 (.tmp 13) (.tmp 14),some 15,true),(.load 55 (.tmp 15),some 16,true),
 (.call { callee :=.value (.tmp 11),args := #[.tmp 12,.tmp 16],argTypes := #[3,55] },some 17,true),(.unOp .not 4 (.tmp 17),some 18,true)]:=ar
def fn71:∃fn,PR.funcs[71]?=some fn/\fn.body=some (fJ PR 71)/\fn.ntmps=19/\fn.results = #[]:=⟨_,func71,by kernel_rfl,by kernel_rfl,by kernel_rfl⟩
section
variable {ρ:Operand->Value} {o:Oper} {w:World}
def oP{x:Operand}(h:o.op = .move x):(execOp ρ o).run PR w = .ok (.value (ρ x)) w:=by simp[execOp,h]
def D8{x:Operand}(h:o.op = .assign x):(execOp ρ o).run PR w = .ok (.value (ρ x)) w:=by simp[execOp,h]
def mZ{t:TypeId}{x:Operand}{p v:Value}(h:o.op = .load t x)(hx:ρ x=p)(hr:(Instr.loadAt t p).run PR w = .ok v w):(execOp ρ o).run PR w = .ok (.value v) w:=D9
def W5{x:Operand}{a:Option Addr}{m cap:Nat}(h:o.op = .call { callee :=.builtin .len,args := #[x],argTypes := #[26] })(hx:ρ x = .slice a m cap):(execOp ρ o).run PR w = .ok (.value (.int .i64 m)) w:=by simp[execOp,h,resolve,invoke,builtin,Builtin.len_,hx,cy WY,goInt]
def Ea{x:Operand}{a b:Int}(h:o.op = .binOp .sub 3 x (.const (.int .i64 b)) 3)(hx:ρ x = .int .i64 a)(hc:ρ (.const (.int .i64 b)) = .int .i64 b):(execOp ρ o).run PR w = .ok (.value (.int .i64 (IntKind.wrap .i64 (a-b)))) w:=by have hg:=iR (P:=PR) (op :=.sub) (t:=3) (x:=x) (y :=.const (.int .i64 b)) (u :=.int .i64 a) (v :=.int .i64 b) w trivial;simp[execOp,h,hx,hc,hg,binOp];rfl
def W6{x:Operand}{a b:Int}(h:o.op = .binOp .geq 3 x (.const (.int .i64 b)) 3)(hx:ρ x = .int .i64 a)(hc:ρ (.const (.int .i64 b)) = .int .i64 b):(execOp ρ o).run PR w = .ok (.value (.bool (decide (a>=b)))) w:=by have hg:=iR (P:=PR) (op :=.geq) (t:=3) (x:=x) (y :=.const (.int .i64 b)) (u :=.int .i64 a) (v :=.int .i64 b) w trivial;simp[execOp,h,hx,hc,hg,binOp];rfl
def W7{x:Operand}{b:Bool}(h:o.op = .unOp .not 4 x)(hx:ρ x = .bool b):(execOp ρ o).run PR w = .ok (.value (.bool (!b))) w:=by simp[execOp,h,hx];rfl
def W8{x y:Operand}{b q len cap:Nat}{i:Int}(h:o.op = .indexAddr 26 x y)(hx:ρ x = .slice (some ⟨b,q,none⟩) len cap)(hy:ρ y = .int .i64 i)(h0:0<=i)(h1:i<len):(execOp ρ o).run PR w = .ok (.value (.pointer (some ⟨b,q+i.toNat*94,none⟩))) w:=by simp only[execOp,h,hx,hy,aN,oQ w sl26 h0 h1,aO,aT]
end
def j5{P:Program}{F:Fence}{n id:Nat}{ops:Array Oper}{Q:Exit->Act->World->Prop}{a:Act}{w:World}(h:∀l,l.map ez=ops.toList.map ez->wpListIn F n P ops Q l a w):(Code.region id ops false).wpIn F n P Q a w:=wpIn_region_list (h _ rfl)
def map_cons{l:List Oper}{x:Op×Option Nat×Bool}{r:List (Op×Option Nat×Bool)}(h:l.map ez=x::r):∃o l',l=o::l'/\ez o=x/\l'.map ez=r:=by obtain⟨o,l',h1,h2,h3⟩:=List.map_eq_cons_iff.1 h;exact⟨o,l',h1,h2,h3⟩
def map_nil{l:List Oper}(h:l.map ez=[]):l=[]:=fm.1 h
abbrev Rnd(xs:List Z1)(c:Ctx):Type:={ p:Nat×Value // ∃x,xs[p.1]?=some x/\VR c (wA (ax x)) p.2 }
abbrev rdE{xs:List Z1}{c:Ctx}(p:Rnd xs c):Array Value := #[.int .i64 (p.1.1:Int),p.1.2]
def rdI{xs:List Z1}{c:Ctx}(ys:List (Rnd xs c)):List Nat:=ys.map λp=>p.1.1
def Eb{n k:Nat}(h:k<n):((List.range n).reverse).take (k+1)=((List.range n).reverse).take k++[n-1-k]:=by rw[lf,List.getElem?_reverse iS];simp only[List.length_range];rw[oR O];rfl
def ti(x:Z1):(ax x).length=94:=rfl
section
variable {n:Nat} {Q:Exit->Act->World->Prop} {t:Array Value} {d:List Deferred} {W:World}
def W9{v1:Value}{a:Option Addr}{m cap:Nat}(hsz:t.size=19)(h1:t.getD 1 undef=v1)(hld:(Instr.loadAt 26 v1).run PR W = .ok (.slice a m cap) W)
 (hk:∀t':Array Value,t'.size=19->t'.getD 0 undef=t.getD 0 undef->t'.getD 1 undef=v1->t'.getD 3 undef = .int .i64 (IntKind.wrap .i64 ((m:Int)-1))->Q .normal ⟨t',d⟩ W):(Code.region 0 xU false).wpIn Fence.wide n PR Q ⟨t,d⟩ W:=by
 refine j5 λl0 hl0=>?_;rw[W0]at hl0;obtain⟨p1,l1,rfl,q1,hl1⟩:=map_cons hl0;obtain⟨p2,l2,rfl,q2,hl2⟩:=map_cons hl1;obtain⟨p3,l3,rfl,q3,hl3⟩:=map_cons hl2;obtain⟨p4,l4,rfl,q4,hl4⟩:=map_cons hl3;obtain rfl:=map_nil hl4;have hF:dS Fence.wide :=.inl rfl;refine ef hF q1 (λ_ h=>nomatch h) (λh=>mZ h (by rw[dm,h1]) hld) ?_;refine ef hF q2 (λ_ h=>nomatch h) (λh=>W5 (a:=a) (m:=m) (cap:=cap) h oS) ?_;refine ef hF q3 (λ_ h=>nomatch h) (λh=>Ea (a:=m) (b:=1) h tj rfl) ?_;refine ef hF q4 (λ_ h=>nomatch h) (λh=>D8 h) ?_;rw[dm,bw _ _ aZ,aP rfl];refine hk _ tk ?_ ?_ ?_
 .rw [bw _ _ aZ,aI aS,bw _ _ aZ,aI aS,bw _ _ aZ,aI aS,bw _ _ O,aI aS]
 .rw [bw _ _ aZ,aI aS,bw _ _ aZ,aI aS,bw _ _ aZ,aI aS,bw _ _ O,aI aS,h1]
 rw[bw _ _ aZ,aP rfl]
def Xa{z:Int}(hsz:t.size=19)(h3:t.getD 3 undef = .int .i64 z)
 (hk:∀t':Array Value,t'.size=19->t'.getD 0 undef=t.getD 0 undef->t'.getD 1 undef=t.getD 1 undef->t'.getD 3 undef = .int .i64 z->t'.getD 8 undef = .bool (decide (z>=0))->Q .normal ⟨t',d⟩ W):(Code.region 1 xV false).wpIn Fence.wide n PR Q ⟨t,d⟩ W:=by
 refine j5 λl0 hl0=>?_;rw[W2]at hl0;obtain⟨p1,l1,rfl,q1,hl1⟩:=map_cons hl0;obtain⟨p2,l2,rfl,q2,hl2⟩:=map_cons hl1;obtain rfl:=map_nil hl2;have hF:dS Fence.wide :=.inl rfl;refine ef hF q1 (λ_ h=>nomatch h) (λh=>oP h) ?_;refine ef hF q2 (λ_ h=>nomatch h) (λh=>W6 (a:=z) (b:=0) h Ec rfl) ?_;refine hk _ tk ?_ ?_ ?_ ?_
 .rw [bw _ _ aZ,aI aS,bw _ _ O,aI aS]
 .rw [bw _ _ aZ,aI aS,bw _ _ O,aI aS]
 .rw [bw _ _ aZ,aI aS,bw _ _ O,aI aS,h3]
 rw[bw _ _ aZ,aP rfl]
def Xb{z:Int}(hsz:t.size=19)(h3:t.getD 3 undef = .int .i64 z)
 (hk:∀t':Array Value,t'.size=19->t'.getD 0 undef=t.getD 0 undef->t'.getD 1 undef=t.getD 1 undef->t'.getD 3 undef = .int .i64 (IntKind.wrap .i64 (z-1))->Q .normal ⟨t',d⟩ W):(Code.region 2 xW false).wpIn Fence.wide n PR Q ⟨t,d⟩ W:=by
 refine j5 λl0 hl0=>?_;rw[W3]at hl0;obtain⟨p1,l1,rfl,q1,hl1⟩:=map_cons hl0;obtain⟨p2,l2,rfl,q2,hl2⟩:=map_cons hl1;obtain⟨p3,l3,rfl,q3,hl3⟩:=map_cons hl2;obtain rfl:=map_nil hl3;have hF:dS Fence.wide :=.inl rfl;refine ef hF q1 (λ_ h=>nomatch h) (λh=>oP h) ?_;refine ef hF q2 (λ_ h=>nomatch h) (λh=>Ea (a:=z) (b:=1) h Ec rfl) ?_;refine ef hF q3 (λ_ h=>nomatch h) (λh=>D8 h) ?_;rw[dm,dm,bw _ _ aZ,aP rfl];refine hk _ tk ?_ ?_ ?_
 .rw [bw _ _ aZ,aI aS,bw _ _ aZ,aI aS,bw _ _ O,aI aS]
 .rw [bw _ _ aZ,aI aS,bw _ _ aZ,aI aS,bw _ _ O,aI aS]
 rw[bw _ _ aZ,aP rfl]
def Xc{l b q m cap i:Nat}{v1 v:Value}(hsz:t.size=19)(h0:t.getD 0 undef = .func (.yield l) #[] #[])(h1:t.getD 1 undef=v1)(h3:t.getD 3 undef = .int .i64 (i:Int))(hi:i<m)
 (hld:(Instr.loadAt 26 v1).run PR W = .ok (.slice (some ⟨b,q,none⟩) m cap) W) (hli:(Instr.loadAt 55 (.pointer (some ⟨b,q+i*94,none⟩))).run PR W = .ok v W)
 (hy:YieldAt Fence.wide (n-1) PR l #[.int .i64 (i:Int),v] W λe W'=>(∃r,e = .returned (.bool r))/\∀r,e = .returned (.bool r)->∀t':Array Value,t'.size=19->t'.getD 0 undef=t.getD 0 undef->t'.getD 1 undef=t.getD 1 undef->t'.getD 3 undef=t.getD 3 undef->t'.getD 18 undef = .bool (!r)->Q .normal ⟨t',d⟩ W'):(Code.region 3 th false).wpIn Fence.wide n PR Q ⟨t,d⟩ W:=by
 refine j5 λl0 hl0=>?_;rw[W4]at hl0;obtain⟨p1,l1,rfl,q1,hl1⟩:=map_cons hl0;obtain⟨p2,l2,rfl,q2,hl2⟩:=map_cons hl1;obtain⟨p3,l3,rfl,q3,hl3⟩:=map_cons hl2;obtain⟨p4,l4,rfl,q4,hl4⟩:=map_cons hl3;obtain⟨p5,l5,rfl,q5,hl5⟩:=map_cons hl4;obtain⟨p6,l6,rfl,q6,hl6⟩:=map_cons hl5;obtain⟨p7,l7,rfl,q7,hl7⟩:=map_cons hl6;obtain⟨p8,l8,rfl,q8,hl8⟩:=map_cons hl7;obtain rfl:=map_nil hl8;have hF:dS Fence.wide :=.inl rfl;refine ef hF q1 (λ_ h=>nomatch h) (λh=>oP h) ?_;rw[dm,h0];refine ef hF q2 (λ_ h=>nomatch h) (λh=>oP h) ?_;rw[dm,bw _ _ O,aI aS,h3];refine ef hF q3 (λ_ h=>nomatch h) (λh=>mZ h (by rw[dm,bw _ _ aZ,aI aS,bw _ _ O,aI aS,h1]) hld) ?_;refine ef hF q4 (λ_ h=>nomatch h) (λh=>oP h) ?_;rw[dm,bw _ _ aZ,aI aS,bw _ _ aZ,aI aS,bw _ _ O,aI aS,h3];refine ef hF q5 (λ_ h=>nomatch h) (λh=>W8 (b:=b) (q:=q) (len:=m) (cap:=cap) (i:=(i:Int)) h Ed tj O O) ?_;rw[Int.toNat_natCast];refine ef hF q6 (λ_ h=>nomatch h) (λh=>mZ h tj hli) ?_;obtain⟨t6,ht6,g0,g1,g3,g11,g12,g16⟩:∃t6:Array Value,((((((t.setIfInBounds 11 (.func (.yield l) #[] #[])).setIfInBounds 12 (.int .i64 (i:Int))).setIfInBounds 13 (.slice (some ⟨b,q,none⟩) m cap)).setIfInBounds 14 (.int .i64 (i:Int))).setIfInBounds 15 (.pointer (some ⟨b,q+i*94,none⟩))).setIfInBounds 16 v=t6)/\t6.getD 0 undef=t.getD 0 undef/\t6.getD 1 undef=t.getD 1 undef/\t6.getD 3 undef=t.getD 3 undef/\t6.getD 11 undef = .func (.yield l) #[] #[]/\t6.getD 12 undef = .int .i64 (i:Int)/\t6.getD 16 undef=v:=by refine⟨_,rfl,?_,?_,?_,?_,?_,?_⟩<;>simp only[bw,Array.size_setIfInBounds,hsz,Nat.reduceLT,Nat.reduceEqDiff,reduceIte]
 have hs6:t6.size=19:=by rw[<- ht6];simp[hsz]
 rw[ht6];obtain⟨fn,tm,asg,bd,hyr,hR⟩:=hy;simp only[ez,bG,tf]at q7;obtain⟨e1,e2,e3⟩:=q7;unfold wpListIn;have hw:Region.wanted p7 (yielded th (⟨t6,d⟩:Act).tmps)=true:=by unfold Region.wanted;rw[e3]
 rw[aP hw];refine⟨λf _=>trivial,?_⟩;rw[Oper.semAt_eq _ _ _ (by rw[e1];intro c h;cases h)];have hrun:(execOp (⟨t6,d⟩:Act).eval p7).run PR W = .ok (.round l fn tm asg bd) W:=by
  have e11:(⟨t6,d⟩:Act).eval (.tmp 11) = .func (.yield l) #[] #[]:=by rw[dm,g11]
  have e12:(⟨t6,d⟩:Act).eval (.tmp 12) = .int .i64 (i:Int):=by rw[dm,g12]
  have e16:(⟨t6,d⟩:Act).eval (.tmp 16)=v:=by rw[dm,g16]
  simp[execOp,e1,resolve,invoke,e11,e12,e16,hyr,Deferred.ofValue]
 rw[hrun,Oper.uponIn_round];refine⟨λh=>di,hR.mono λe W' he=>?_⟩;obtain⟨⟨r,rfl⟩,he⟩:=he;refine ef hF q8 (λ_ h=>nomatch h) (λh=>W7 (b:=r) h (by rw[e2];show(t6.setIfInBounds 17 (.bool r)).getD 17 undef=_;rw[bw _ _ O,aP rfl])) ?_;rw[e2];refine he r rfl _ (by simp[Act.put,hs6]) ?_ ?_ ?_ ?_
 .show ((t6.setIfInBounds 17 (.bool r)).setIfInBounds 18 (.bool !r)).getD 0 undef=_;rw[bw _ _ aZ,aI aS,bw _ _ O,aI aS,g0]
 .show ((t6.setIfInBounds 17 (.bool r)).setIfInBounds 18 (.bool !r)).getD 1 undef=_;rw[bw _ _ aZ,aI aS,bw _ _ O,aI aS,g1]
 .show ((t6.setIfInBounds 17 (.bool r)).setIfInBounds 18 (.bool !r)).getD 3 undef=_;rw[bw _ _ aZ,aI aS,bw _ _ O,aI aS,g3]
 show((t6.setIfInBounds 17 (.bool r)).setIfInBounds 18 (.bool !r)).getD 18 undef=_;rw[bw _ _ aZ,aP rfl]
end
def Xd(x y:Value):∃t0:Array Value,#[x] ++ #[y]++Array.replicate (19-(#[x] ++ #[y]).size) undef=t0/\t0.size=19/\t0.getD 0 undef=x/\t0.getD 1 undef=y:=by
 refine⟨_,rfl,by simp,?_,?_⟩
 .simp [Array.getD]
 simp[Array.getD]
def Xe{m:Nat}(h:m<=maxLen):IntKind.wrap .i64 ((m:Int)-1)=(m:Int)-1:=by unfold maxLen at h;exact eu O O
def Xf{xs:List Z1}{c:Ctx}{v1:Value}{n:Nat}(hcI:∀b,c.I b->b<c.w.heap.size)(hv1:VR c (.vptr [.sl (xs.map ax)]) v1) :
 SeqStopsK Fence.wide n PR 71 #[v1] (λp:Rnd xs c=>rdE p) (Below c.w.heap.size) (λys=>rdI ys=(List.range xs.length).reverse) (λpre=>∃k,rdI pre=((List.range xs.length).reverse).take k) xs.length c.w:=by
 intro l J Jx W hW hJ hJx hY h0;simp only[VR,Z6,Z9,jw]at hv1;obtain⟨b1,o1,rfl,hb1,sv,hsv,a,cap,rfl,hlc,hcm,hel⟩:=hv1;have hb1:b1<c.w.heap.size:=hcI _ (hb1 al);have hlen:(xs.map ax).length=xs.length:=da _;rw[hlen]at hsv hlc;have hml:xs.length<=maxLen:=cX hlc hcm;have hld:∀W',Below c.w.heap.size c.w W'->(Instr.loadAt 26 (.pointer (some ⟨b1,o1,none⟩))).run PR W' = .ok (.slice a xs.length cap) W':=λW' hB=>by have hc:W'.cell? ⟨b1,o1,none⟩=some (.slice a xs.length cap):=(fj (w:=c.w) (hB.block b1 hb1)).trans hsv;simp[Instr.loadAt,Instr.sureAddr,loadVar,ty26.run_isAgg W',hc]
 have hli:∀i x,xs[i]?=some x->∃b off,a=some ⟨b,off,none⟩/\∀W',Below c.w.heap.size c.w W'->∃v,(Instr.loadAt 55 (.pointer (some ⟨b,off+i*94,none⟩))).run PR W' = .ok v W'/\VR c (wA (ax x)) v:=λi x hx=>by
  rcases hel with hel|⟨b,off,ha,hbI,hel⟩
  .have:xs=[]:=fm.1 hel;subst this;simp at hx
  refine⟨b,off,ha,λW' hB=>?_⟩;have hbI:b<c.w.heap.size:=hcI _ hbI;have hti:=hel.get i (ax x) (λel hel=>by obtain⟨y,_,rfl⟩:=gJ.1 hel;exact ti y) (by rw[fX,hx];rfl);obtain⟨vs,hvs,hcv⟩:=Z6.vals (c:=c) hti;have hl:((ax x).map PV.t).length=94:=by rw[da,ti]
  have hpo:c6 true 94 0 ((ax x).map PV.t)=some (wA (ax x)):=Ee
  have:=lj (c:=c) ty55 (q:=off+i*94) (b:=b) (off:=0) W' hvs (λj v hj=>(fj (w:=c.w) (hB.block b hbI)).trans (hcv j v hj)) hpo;rwa[cZ]at this
 obtain⟨fn,hf,hb,hnt,hrs⟩:=fn71;refine callsIn_of_wp hf (hb.trans (dw some WZ)) trivial ?_ rfl;rw[hnt];have hres:∀t:Array Value,∀W',(results fn t).run PR W' = .ok (.tuple #[]) W':=λt W'=>by simp[results,hrs]
 obtain⟨t0,ht0,hs0,h00,h01⟩:=Xd (.func (.yield l) #[] #[]) (.pointer (some ⟨b1,o1,none⟩));rw[ht0];refine wpIn_seq (W9 hs0 h01 (hld W hW) λt1 hs1 h10 h11 h13=>?_);refine wpIn_block ?_;refine wpIn_loop (λa W'=>∃(k:Nat) (pre:List (Rnd xs c)),a.defers=[]/\a.tmps.size=19/\a.tmps.getD 0 undef = .func (.yield l) #[] #[]/\a.tmps.getD 1 undef = .pointer (some ⟨b1,o1,none⟩)/\a.tmps.getD 3 undef = .int .i64 ((xs.length:Int)-1-k)/\k<=xs.length/\rdI pre=((List.range xs.length).reverse).take k/\J pre W'/\Below c.w.heap.size c.w W')
  (λa _=>(intOf (a.tmps.getD 3 undef)+1).toNat) ⟨0,[],rfl,hs1,by rw[h10,h00],h11,by rw[h13,Xe hml];simp,fW _,by simp[rdI],h0,hW⟩ ?_
 rintro⟨t,d⟩ W1 ⟨k,pre,hd,hs,g0,g1,g3,hk,hp,hJ1,hB⟩;simp only at hd hs g0 g1 g3;subst hd;refine wpIn_seq (wpIn_seq (Xa hs g3 λt2 hs2 a0 a1 a3 a8=>?_));refine wpIn_cond (t:=decide ((xs.length:Int)-1-k>=0)) (by rw[dm,a8]) ?_;by_cases hkl:k=xs.length
 .have hdec:decide ((xs.length:Int)-1-k>=0)=false:=by simp;omega
  rw[hdec];refine wpIn_exit ?_;refine⟨rfl,_,hres _ _,⟨_,rfl⟩,.inl ⟨pre,?_,hJ1⟩⟩;show rdI pre=_;rw[hp,hkl,fC al]
 have hdec:decide ((xs.length:Int)-1-k>=0)=true:=aZ
 rw[hdec];refine wpIn_skip ?_;have hk':k<xs.length:=bg
 obtain⟨x,hx⟩:∃x,xs[xs.length-1-k]?=some x:=⟨_,bn O⟩;obtain⟨b,off,ha,hv⟩:=hli _ x hx;obtain⟨v,hv1,hv2⟩:=hv W1 hB;have hpl:pre.length=k:=by have:=dw List.length hp;simpa[rdI,tb hk]using this
 refine wpIn_seq (wpIn_block (wpIn_seq (Xc (i:=xs.length-1-k) (l:=l) (m:=xs.length) (cap:=cap) (b:=b) (q:=off) (v:=v) hs2 (by rw[a0,g0]) (a1.trans g1) (by rw[a3];congr 1;omega) O (by rw[hld W1 hB,ha]) hv1 ?_)));refine(hY pre ⟨(xs.length-1-k,v),x,hx,hv2⟩ W1 hJ1 O).mono λe W' he=>?_;rcases he with⟨rfl,hJ2,hK⟩|⟨rfl,hJx2⟩
 .refine⟨⟨true,rfl⟩,λr hr t' hs' e0 e1 e3 e18=>?_⟩;cases hr;refine wpIn_cond (t:=false) (by rw[dm,e18];rfl) ?_;refine wpIn_skip ?_;refine Xb hs' (e3.trans a3) λt3 hs3 f0 f1 f3=>?_;have hw3:IntKind.wrap .i64 ((xs.length:Int)-1-k-1)=(xs.length:Int)-1-k-1:=by unfold maxLen at hml;exact eu O O
  refine⟨⟨k+1,pre++[⟨(xs.length-1-k,v),x,hx,hv2⟩],rfl,hs3,by rw[f0,e0,a0,g0],by rw[f1,e1,a1,g1],by rw[f3,hw3];congr 1;omega,by omega,?_,hJ2,hB.trans hK⟩,?_⟩
  .rw [Eb hk',<- hp];simp[rdI]
  show(intOf (t3.getD 3 undef)+1).toNat<(intOf (t.getD 3 undef)+1).toNat;rw[f3,hw3,g3];simp only[intOf];omega
 refine⟨⟨false,rfl⟩,λr hr t' hs' e0 e1 e3 e18=>?_⟩;cases hr;refine wpIn_cond (t:=true) (by rw[dm,e18];rfl) ?_;refine wpIn_ret ?_;refine⟨rfl,_,hres _ _,⟨_,rfl⟩,.inr ⟨_,⟨k+1,?_⟩,hJx2⟩⟩;rw[Eb hk',<- hp];simp[rdI]
section
def Xg{B:Nat}{w W:World}(h:Below B w W)(a:Addr)(u:Value):Below B (w.setCell a u) (W.setCell a u):=
 ⟨h.os,h.tape,h.output,by simpa[World.setCell]using h.size,λk hk=>by
  simp only[World.setCell,Array.getElem?_modify];have:=h.block k hk;by_cases e:a.block=k
  .rw [aP e,aP e,this]
  rw[aI e,aI e,this]⟩
def oT{B:Nat}(b:Nat):∀(vs:List Value) (off:Nat) {w W:World},Below B w W->Below B (w.setCells b off vs) (W.setCells b off vs)
 |[],_,_,_,h=>h
 |v::vs,off,_,_,h=>oT b vs (off+1) (Xg h _ _)
def Ef{B:Nat}{b:Nat}(hb:B<=b):∀(vs:List Value) (off:Nat) {w W:World},Below B w W->Below B w (W.setCells b off vs)
 |[],_,_,_,h=>h
 |v::vs,off,_,_,h=>Ef hb vs (off+1) (h.setCell (p:=⟨b,off,none⟩) hb v)
def Eg{G:Frm}{β:Nat->Option Nat}{n:Nat}{tm:List (Nat×PV)}{Z:List (Nat×Blk)}{a:Act}{w:World}(hr:aE G β ⟨n,tm,Z⟩ a w){l:Nat}{cs:List PV}(hg:get Z l=some (.box cs)){p:PV}{v:Value}(hv:VR (ctx G β w Z) p v)(hs:(Z7 p).length=cs.length)(h1:(Z7 p).all PV.one=true) :
 ∃b,β l=some b/\aY w b cs.length/\aE G β ⟨n,tm,put Z l (.box (Z7 p))⟩ a (w.setCells b 0 v.cells.toList):=by
 obtain⟨b',vs,hb',hrow,hc,hvs,hall⟩:=hr.blk l _ hg;have hb':β l=some b':=hb';have hrow:aY w b' cs.length:=hrow;have hcells:=hv.cells;have hul:v.cells.toList.length=cs.length:=tl
 have hsp:∀{α:Type} (xs ys:List α),ys.length=xs.length->splice xs 0 ys=ys:=λxs ys h=>by unfold splice;rw[List.take_zero,iT,ir O,cC]
 refine⟨b',hb',hrow,(jx hr (off:=0) (blk' :=.box (Z7 p)) v.cells.toList hg hb' (.inr (.inl ⟨cs,_,rfl,rfl⟩)) (λhI hL=>⟨b',v.cells.toList,hb',by rw[hs];exact dx _ _ _ _ hrow,?_,VRs.step hI _ _ (λm _=>hL m) hcells,h1⟩)).1⟩;have hc:gK w b' vs:=hc;have hvl:vs.length=cs.length:=hvs.length;have:=jy (q:=0) (us:=v.cells.toList) hc O;rwa[hsp _ _ O]at this
end
def ty3:TyF PR 3 false 1:=tg _ _ _ ar
def ty4:TyF PR 4 false 1:=tg _ _ _ ar
def fi55:PW.fieldInfo PR 55 0=some (0,1):=ar
def Xh:∃i z,PR.info? 55=some i/\i.zero=some z/\z.cells.size=94:=by
 have h:((PR.info? 55).bind (·.zero)).map (λz=>z.cells.size)=some 94:=ar
 obtain⟨z,hz,h2⟩:=cA.1 h;obtain⟨i,h3,h4⟩:=dC.1 hz;exact⟨i,z,h3,h4,h2⟩
noncomputable section
def c13b:Code:=cBl (cSR (cSL (cSR (cSR (fJ PR 13)))))
def xX:Array Oper:=cOp (cSL (fJ PR 13))
def xY:Array Oper:=cOp (cSL (cSR (fJ PR 13)))
def xZ:Array Oper:=cOp (cSL (cSL (cSR (cSR (fJ PR 13)))))
def tn:Array Oper:=cOp (cRa c13b)
def ya:Array Oper:=cOp (cSL (cBl (cRb c13b)))
def yb:Array Oper:=cOp (cSL (cCt (cSR (cBl (cRb c13b)))))
def yc:Array Oper:=cOp (cSL (cSR (cSR (cSR (fJ PR 13)))))
end
def Xi:fJ PR 13 = .seq (.region 0 xX false) (.seq (.region 1 xY false) (.seq (.seq (.region 2 xZ false) (.block 0 (.rangeFunc (.tmp 13) #[14,15] (.region 3 tn false)
 (.block 1 (.seq (.region 4 ya false) (.cond (.tmp 19) (.seq (.region 5 yb false) .ret) .skip)))))) (.seq (.region 6 yc false) .ret))):=ar
def Xj:tn.toList.map ez=[(.alloc 55,some 8,true),(.store 55 (.tmp 8) (.tmp 15),none,true)]:=ar
def Xk:ya.toList.map ez=[(.fieldAddr 55 (.tmp 8) 0,some 16,true),(.load 3 (.tmp 16),some 17,true),(.load 3 (.tmp 3),some 18,true),(.binOp .eql 3 (.tmp 17) (.tmp 18) 3,some 19,true)]:=ar
def Xl:yb.toList.map ez=[(.load 55 (.tmp 8),some 20,true),(.store 55 (.tmp 4) (.tmp 20),none,true),(.store 4 (.tmp 5) (.const (.bool true)),none,true)]:=ar
section
variable {ρ:Operand->Value} {o:Oper} {w:World}
def oU{t:TypeId}{x y:Operand}{p:Value}{w':World}(h:o.op = .store t x y)(hx:ρ x=p)(hr:(Instr.storeAt t p (ρ y)).run PR w = .ok () w'):(execOp ρ o).run PR w = .ok .skip w':=D9
def Xm{x:Operand}{b q:Nat}(h:o.op = .fieldAddr 55 x 0)(hx:ρ x = .pointer (some ⟨b,q,none⟩)):(execOp ρ o).run PR w = .ok (.value (.pointer (some ⟨b,q+0,none⟩))) w:=by simp only[execOp,h,hx,aN,oV w fi55 aS,aO,aT]
def Xn{x y:Operand}{a b:Int}(h:o.op = .binOp .eql 3 x y 3)(hx:ρ x = .int .i64 a)(hy:ρ y = .int .i64 b):(execOp ρ o).run PR w = .ok (.value (.bool (decide (a=b)))) w:=by have hg:=iR (P:=PR) (op :=.eql) (t:=3) (x:=x) (y:=y) (u :=.int .i64 a) (v :=.int .i64 b) w trivial;simp[execOp,h,hx,hy,hg,binOp];rfl
end
section
variable {P:Program} {F:Fence} {n:Nat} {ops:Array Oper} {Q:Exit->Act->World->Prop} {d:List Deferred}
def Xo(hF:dS F){o:Oper}{l:List Oper}{t:Array Value}{w w':World}{v:Value}{op:Op}{k:Nat}(hs:ez o=(op,some k,true))(hd:∀c,op ≠ .defer c)(hrun:o.op=op->(execOp (⟨t,d⟩:Act).eval o).run P w = .ok (.value v) w')
 (h:wpListIn F n P ops Q l ⟨t.setIfInBounds k v,d⟩ w'):wpListIn F n P ops Q (o::l) ⟨t,d⟩ w:=by
 simp only[ez,bG,tf]at hs;obtain⟨h1,h2,h3⟩:=hs;unfold wpListIn;have hw:Region.wanted o (yielded ops (⟨t,d⟩:Act).tmps)=true:=xR
 rw[aP hw];refine⟨λf _=>hF.fn f,?_⟩;rw[Oper.semAt_eq _ _ _ xS,hrun h1,Oper.uponIn_value];rw[h2];exact h
def oW(hF:dS F){o:Oper}{l:List Oper}{t:Array Value}{w w':World}{op:Op}(hs:ez o=(op,none,true))(hd:∀c,op ≠ .defer c)(hrun:o.op=op->(execOp (⟨t,d⟩:Act).eval o).run P w = .ok .skip w')
 (h:wpListIn F n P ops Q l ⟨t,d⟩ w'):wpListIn F n P ops Q (o::l) ⟨t,d⟩ w:=by
 simp only[ez,bG,tf]at hs;obtain⟨h1,h2,h3⟩:=hs;unfold wpListIn;have hw:Region.wanted o (yielded ops (⟨t,d⟩:Act).tmps)=true:=xR
 rw[aP hw];refine⟨λf _=>hF.fn f,?_⟩;rw[Oper.semAt_eq _ _ _ xS,hrun h1,Oper.uponIn_skip];rw[h2];exact h
end
def yd(x:Z1):(Z7 (wA (ax x))).all PV.one=true:=bU.2 λp hp=>by obtain⟨t,_,rfl⟩:=gJ.1 (show p∈(ax x).map PV.t from hp);rfl
def tp(x:Z1):(Z7 (wA (ax x))).length=94:=by show((ax x).map PV.t).length=94;rw[da,ti]
section
variable {F:Fence} {n:Nat} {Q:Exit->Act->World->Prop} {t:Array Value} {d:List Deferred} {W:World}
def Xp(hF:dS F){c:Ctx}{x:Z1}{v:Value}(hsz:22<=t.size)(h15:t.getD 15 undef=v)(hv:VR c (wA (ax x)) v)
 (hk:∀(t':Array Value) (W':World),22<=t'.size->t'.getD 8 undef = .pointer (some ⟨W.heap.size,0,none⟩)->(∀j,j=3\/j=4\/j=5->t'.getD j undef=t.getD j undef)->W.heap.size<W'.heap.size->aY W' W.heap.size 94->gK W' W.heap.size v.cells.toList->Below W.heap.size W W'->Q .normal ⟨t',d⟩ W'):(Code.region 3 tn false).wpIn F n PR Q ⟨t,d⟩ W:=by
 refine j5 λl0 hl0=>?_;rw[Xj]at hl0;obtain⟨p1,l1,rfl,q1,hl1⟩:=map_cons hl0;obtain⟨p2,l2,rfl,q2,hl2⟩:=map_cons hl1;obtain rfl:=map_nil hl2;obtain⟨i,z,hi,hz,hzs⟩:=Xh;have hrow:aY (W.alloc (.cells z.cells 55)) W.heap.size 94:=⟨z.cells,55,(0,0),j6 W _,hzs,.inl rfl⟩;refine Xo hF (w':=W.alloc (.cells z.cells 55)) (v :=.pointer (some ⟨W.heap.size,0,none⟩)) q1 (λ_ h=>nomatch h) (λh=>by simp[execOp,h,Instr.alloc,zeroValue,typeInfo,hi,hz,newVar,newRow]) ?_;have e8:(⟨t.setIfInBounds 8 (.pointer (some ⟨W.heap.size,0,none⟩)),d⟩:Act).eval (.tmp 8) = .pointer (some ⟨W.heap.size,0,none⟩):=oS
 have e15:(⟨t.setIfInBounds 8 (.pointer (some ⟨W.heap.size,0,none⟩)),d⟩:Act).eval (.tmp 15)=v:=by rw[dm,bw _ _ O,aI aS,h15]
 refine oW hF (w':=(W.alloc (.cells z.cells 55)).setCells W.heap.size 0 v.cells.toList) q2 (λ_ h=>nomatch h) (λh=>oU h e8 (by rw[e15];exact gU ty55 _ hv (tp x) (yd x) hrow O)) ?_;have hcz:gK (W.alloc (.cells z.cells 55)) W.heap.size z.cells.toList:=λj v hj=>by rw[iU];simpa using hj
 have hul:v.cells.toList.length=94:=by rw[hv.cells.length,tp]
 have hcs:=jy (q:=0) (us:=v.cells.toList) hcz (by rw[hul,iV,hzs];omega);have hsp:splice z.cells.toList 0 v.cells.toList=v.cells.toList:=by unfold splice;rw[List.take_zero,iT,ir (by rw[hul,iV,hzs];omega),cC]
 rw[hsp]at hcs;refine hk _ _ aZ (by rw[bw _ _ O,aP rfl]) (λj hj=>by rw[bw _ _ O,aI O]) ?_ (dx _ _ _ _ hrow) hcs (Ef (aW _) _ _ ((Below.refl _ W).alloc (aW _) _));rw[eV];simp
def Xq(hF:dS F){c:Ctx}{x:Z1}{b3 B:Nat}{us:List Value}{a1:Int}(hsz:22<=t.size)(h8:t.getD 8 undef = .pointer (some ⟨B,0,none⟩))(h3:t.getD 3 undef = .pointer (some ⟨b3,0,none⟩))(hc:gK W B us)(hu:VRs c ((ax x).map .t) us)(hc3:W.cell? ⟨b3,0,none⟩=some (.int .i64 a1))
 (hk:∀t':Array Value,22<=t'.size->(∀j,j=3\/j=4\/j=5\/j=8->t'.getD j undef=t.getD j undef)->t'.getD 19 undef = .bool (decide (x.Id=a1))->Q .normal ⟨t',d⟩ W):(Code.region 4 ya false).wpIn F n PR Q ⟨t,d⟩ W:=by
 refine j5 λl0 hl0=>?_;rw[Xk]at hl0;obtain⟨p1,l1,rfl,q1,hl1⟩:=map_cons hl0;obtain⟨p2,l2,rfl,q2,hl2⟩:=map_cons hl1;obtain⟨p3,l3,rfl,q3,hl3⟩:=map_cons hl2;obtain⟨p4,l4,rfl,q4,hl4⟩:=map_cons hl3;obtain rfl:=map_nil hl4;obtain⟨v0,hv0,hv0'⟩:=hu.get 0 (wI x.Id) rfl;simp only[VR,Z9]at hv0';subst hv0';have hcB:W.cell? ⟨B,0+0,none⟩=some (.int .i64 x.Id):=hc 0 _ hv0;have hl1:(Instr.loadAt 3 (.pointer (some ⟨B,0+0,none⟩))).run PR W = .ok (.int .i64 x.Id) W:=by simp[Instr.loadAt,Instr.sureAddr,loadVar,ty3.run_isAgg W,hc 0 _ hv0]
 have hl3':(Instr.loadAt 3 (.pointer (some ⟨b3,0,none⟩))).run PR W = .ok (.int .i64 a1) W:=by simp[Instr.loadAt,Instr.sureAddr,loadVar,ty3.run_isAgg W,hc3]
 refine ef hF q1 (λ_ h=>nomatch h) (λh=>Xm (b:=B) (q:=0) h (by rw[dm,h8])) ?_;refine ef hF q2 (λ_ h=>nomatch h) (λh=>mZ h oS hl1) ?_;refine ef hF q3 (λ_ h=>nomatch h) (λh=>mZ h (by rw[dm,bw _ _ aZ,aI aS,bw _ _ O,aI aS,h3]) hl3') ?_;refine ef hF q4 (λ_ h=>nomatch h) (λh=>Xn (a:=x.Id) (b:=a1) h Ed tj) ?_;refine hk _ aZ (λj hj=>?_) Eh;rw[bw _ _ aZ,aI O,bw _ _ aZ,aI O,bw _ _ aZ,aI O,bw _ _ O,aI O]
def Xr(hF:dS F){c:Ctx}{x:Z1}{b4 b5 B:Nat}{us:List Value}(hsz:22<=t.size)(h8:t.getD 8 undef = .pointer (some ⟨B,0,none⟩))(h4:t.getD 4 undef = .pointer (some ⟨b4,0,none⟩))(h5:t.getD 5 undef = .pointer (some ⟨b5,0,none⟩))(hc:gK W B us)(hu:VRs c ((ax x).map .t) us)(hr4:aY W b4 94)(hr5:aY W b5 1)
 (hk:∀(t':Array Value) (v:Value),VR c (wA (ax x)) v->Q .normal ⟨t',d⟩ ((W.setCells b4 0 v.cells.toList).setCells b5 0 [.bool true])):(Code.region 5 yb false).wpIn F n PR Q ⟨t,d⟩ W:=by
 refine j5 λl0 hl0=>?_;rw[Xl]at hl0;obtain⟨p1,l1,rfl,q1,hl1⟩:=map_cons hl0;obtain⟨p2,l2,rfl,q2,hl2⟩:=map_cons hl1;obtain⟨p3,l3,rfl,q3,hl3⟩:=map_cons hl2;obtain rfl:=map_nil hl3;have hl:((ax x).map PV.t).length=94:=by rw[da,ti]
 have hpo:c6 true 94 0 ((ax x).map PV.t)=some (wA (ax x)):=Ee
 obtain⟨v,hv1,hv2⟩:=lj (c:=c) ty55 (q:=0) (b:=B) (off:=0) W hu (λj v hj=>by rw[aM];exact hc j v hj) hpo;refine ef hF q1 (λ_ h=>nomatch h) (λh=>mZ h (by rw[dm,h8]) hv1) ?_;have e4:(⟨t.setIfInBounds 20 v,d⟩:Act).eval (.tmp 4) = .pointer (some ⟨b4,0,none⟩):=by rw[dm,bw _ _ O,aI aS,h4]
 have e20:(⟨t.setIfInBounds 20 v,d⟩:Act).eval (.tmp 20)=v:=oS
 have e5:(⟨t.setIfInBounds 20 v,d⟩:Act).eval (.tmp 5) = .pointer (some ⟨b5,0,none⟩):=Ei
 refine oW hF (w':=W.setCells b4 0 v.cells.toList) q2 (λ_ h=>nomatch h) (λh=>oU h e4 (by rw[e20];exact gU ty55 _ hv2 (tp x) (yd x) hr4 O)) ?_;refine oW hF (w':=(W.setCells b4 0 v.cells.toList).setCells b5 0 [.bool true]) q3 (λ_ h=>nomatch h) (λh=>oU h e5 (gU (c:=c) (p:=wB true) (v :=.bool true) ty4 _ (by simp[VR,Z9]) rfl rfl (dx _ _ _ _ hr5) O)) ?_;exact hk _ v hv2
end
section
variable {P:Program}
def Xs{fn:Func}{rs:List RV}{Z':List (Nat×Blk)}{res:PV}{G:Frm}{st':St}{a':Act}{w':World}(hres:fn.results=(rs.map RV.to).toArray)(hty:∀x t ag sz,RV.c x t ag sz∈rs->TyF P t ag sz)(hq:Z6e rs Z' res st')(hrel:Rel G st' a' w') :
 ∃v,(results fn a'.tmps).run P w' = .ok v w'/\∃v0 β',Ending.returned v = .returned v0/\aE G β' ⟨1,[(0,res)],Z'⟩ ⟨#[v0],[]⟩ w':=by
 obtain⟨β',hrel⟩:=hrel;obtain⟨ps,hs,hσ,hres'⟩:=hq;obtain⟨vs,hv,hrun⟩:=Ej hres hty hrel hs;refine⟨_,hrun,_,β',rfl,?_⟩;have hc:=ye (n:=st'.n) (tm:=st'.tm) (Z:=st'.Z) hrel hσ;have hempty:=tq (n:=st'.n) (tm:=st'.tm) (Z:=st'.Z) (tm':=[]) hrel hσ (λi q hq=>by simp[get]at hq);refine { defers:=rfl,sz:=by simp,base:=hempty.base,os:=hempty.os,tape:=hempty.tape,output:=hempty.output,old:=hempty.old,A:=hempty.A,gl:=hempty.gl,inj:=hempty.inj,sep:=hempty.sep,fix:=hempty.fix,row0:=hempty.row0,blk:=hempty.blk,tm:=λi p hp=>?_ };simp only[get]at hp;cases hi:Nat.beq 0 i with
 |false=>simp[hi]at hp
 |true=>
  have:i=0:=((aU _ _).1 hi).symm;subst this;simp only[hi,av,aq]at hp;subst hp;refine⟨by simp,?_⟩;rw[show ∀X:Value,(#[X]:Array Value).getD 0 undef=X from λ_=>rfl];unfold oX at hres'
  match vs,ps,hv,hres' with
  |[v],[p],hv,hres'=>
   simp only[VRs]at hv;obtain⟨v',rest,he,hv,_⟩:=hv;cases he;exact Frz.ok hc p res _ hres' hv
  |[],[],hv,hres'=>
   obtain⟨ds,rfl,hd⟩:=hres';simp only[VR];exact⟨_,rfl,aX.ok hc _ _ _ hd hv⟩
  |v::v2::vs,p::p2::ps,hv,hres'=>
   obtain⟨ds,rfl,hd⟩:=hres';simp only[VR];exact⟨_,rfl,aX.ok hc _ _ _ hd hv⟩
  |[],_::_,hv,_=>have:=hv.length;simp at this
  |[_],[],hv,_=>have:=hv.length;simp at this
  |[_],_::_::_,hv,_=>have:=hv.length;simp at this
  |_::_::_,[],hv,_=>have:=hv.length;simp at this
  |_::_::_,[_],hv,_=>have:=hv.length;simp at this
def Xt{G:Frm}{β:Nat->Option Nat}{args:List PV}{Z:List (Nat×Blk)}{vals:List Value}{w:World}{n m:Nat}(hvl:vals.length=args.length)(hm:m=n)(hna:args.length<=n)(hr:aE G β ⟨args.length,idx 0 args,Z⟩ ⟨vals.toArray,[]⟩ w) :
 aE G β ⟨n,idx 0 args,Z⟩ { tmps:=vals.toArray++Array.replicate (m-vals.toArray.size) undef,defers:=[] } w:=
 { defers:=rfl,sz:=by simp;omega,base:=hr.base,os:=hr.os,tape:=hr.tape,output:=hr.output,old:=hr.old,A:=hr.A,gl:=hr.gl,inj:=hr.inj,sep:=hr.sep,fix:=hr.fix,row0:=hr.row0,blk:=hr.blk,
   tm:=λi p hp=>by
    obtain⟨h1,h2⟩:=hr.tm i p hp;refine⟨by simp at h1⊢;omega,?_⟩;have hlt:i<vals.length:=by simp at h1;omega
    have:(vals.toArray++Array.replicate (m-vals.toArray.size) undef).getD i undef=vals.toArray.getD i undef:=by simp[jz,hlt]
    rw[this];exact h2 }
end
def Xu(a0:List Z1):LT Empty (List Z1) :=.lb 1001<|.ret a0 [.frz 1001]
def Xv:LF Empty (List Z1) :=.z0 29 [.t 2] (λr=>(.fn 71 [(.vptr ((cL ax) r))]))
def Xw(a0:List Z1):Fn PR 29 [(wL ax a0)] (.fn 71 [(.vptr ((cL ax) a0))]):=Xv.fn (t:=Xu a0) (r:=a0) rfl
def fn13:∃fn,PR.funcs[13]? = some fn/\fn.body=some (fJ PR 13)/\fn.ntmps=22/\fn.results=([RV.c 4 55 true 94,RV.c 5 4 false 1].map RV.to).toArray/\(fn.name == "runtime.NumGoroutine")=false:=⟨_,func13,by kernel_rfl,by kernel_rfl,by kernel_rfl,by kernel_rfl⟩
noncomputable def zPV:List PV:=((get T 55).bind (·.zero)).getD []
def tt:zPV.length=94:=ar
section
variable (a0 t:ab) (a1:Int)
abbrev it0:St:=⟨22,idx 0 [wA (aH a0),wI a1],[]⟩
abbrev itk:List (Nat×PV):=[(2,.bptr 1002 0),(3,.bptr 1003 0),(4,.bptr 1004 0),(5,.bptr 1005 0)]
noncomputable abbrev itσ:List (Nat×Blk):=[(1005,.box [wB false]),(1004,.box zPV),(1003,.box [wI a1]),(1002,.box (bx (aH a0)))]
def Xx:(im PR T xX xX.toList [.lab 1002,.lab 1003,.lab 1004,.lab 1005] (it0 a0 a1)).map (λr=>(r.1,itk.map λk=>get r.2.2.tm k.1,r.2.2.Z,r.2.2.n))=some ([],itk.map λk=>some k.2,itσ a0 a1,22):=ar
abbrev itk1:List (Nat×PV):=[(3,.bptr 1003 0),(4,.bptr 1004 0),(5,.bptr 1005 0),(6,.bptr 1006 0)]
noncomputable abbrev Z03:List (Nat×Blk):=(1006,.box (bx (aH t)))::itσ a0 a1
def Xy:(im PR T xY xY.toList [.call (wA (aH t)),.lab 1006] ⟨22,itk,itσ a0 a1⟩).map (λr=>(r.1,itk1.map λk=>get r.2.2.tm k.1,r.2.2.Z,r.2.2.n))=some ([Fn PR 25 [wA (aH a0)] (wA (aH t))],itk1.map λk=>some k.2,Z03 a0 t a1,22):=ar
abbrev itk2:List (Nat×PV):=[(3,.bptr 1003 0),(4,.bptr 1004 0),(5,.bptr 1005 0),(13,.fn 71 [(.vptr ((cL ax) t.Stack))])]
def Xz:(im PR T xZ xZ.toList [.call (.fn 71 [(.vptr ((cL ax) t.Stack))])] ⟨22,itk1,Z03 a0 t a1⟩).map (λr=>(r.1,(itk2 t).map λk=>get r.2.2.tm k.1,r.2.2.Z,r.2.2.n))=some ([Fn PR 29 [wL ax t.Stack] (.fn 71 [(.vptr ((cL ax) t.Stack))])],(itk2 t).map λk=>some k.2,Z03 a0 t a1,22):=ar
end
def zIt:Z1:=(⟨0,0,0,0,0,false,(⟨0,(⟨0,0,0,0,0,0,0,([]:List UInt8),0,0,(⟨0,0⟩:ae),(⟨0,0⟩:ae),(⟨0,0⟩:ae)⟩:aj),([]:(List ai)),(⟨(⟨0,0,(⟨0,0,0,0,0⟩:(A5 Int))⟩:Z4),false,false,0⟩:gM),false,(⟨0,0,(⟨0,0,0,0,0,0,0,([]:List UInt8),0,0,(⟨0,0⟩:ae),(⟨0,0⟩:ae),(⟨0,0⟩:ae)⟩:aj)⟩:eW),false,([]:(List bo)),([]:(List bh)),(⟨0,0,(⟨0,0,0,0,0,0,0,([]:List UInt8),0,0,(⟨0,0⟩:ae),(⟨0,0⟩:ae),(⟨0,0⟩:ae)⟩:aj),0,0,0,0⟩:dn)⟩:an),([]:(List bW)),(⟨0,0,0,0,0,0,0,0,0,0,false,false,(⟨0,0,0⟩:(A3 Int))⟩:jA)⟩:Z1)
def Z6j(l:List Z1)(n:Int):Z1×Bool:=match l.reverse.find? (λx=>x.Id==n)with|some x=>(x,true)|none=>(zIt,false)
def XA{xs:List Z1}{a1:Int}{j:Nat}{x:Z1}(hx:xs[j]?=some x)(h:x.Id=a1)(hn:∀(i:Nat) (y:Z1),j<i->xs[i]?=some y->y.Id≠a1):Z6j xs a1=(x,true):=by
 have hj:=(aJ.1 hx).1;have hxe:=(aJ.1 hx).2;have e:xs=xs.take j++(x::xs.drop (j+1)):=by rw[<- hxe,<- oE hj,j7]
 have h1:(xs.drop (j+1)).reverse.find? (λx=>x.Id==a1)=none:=by rw[List.find?_eq_none];intro y hy;rw[List.mem_reverse]at hy;obtain⟨i,hi,he⟩:=lh hy;have:=hn (j+1+i) y O (by rw[<- he,List.getElem_drop];exact bn _);simpa using this
 have:xs.reverse.find? (λx=>x.Id==a1)=some x:=by rw[e,List.reverse_append,List.reverse_cons,gI,List.find?_append,h1];simp[h]
 unfold Z6j;rw[this]
def XB{xs:List Z1}{a1:Int}(hn:∀(i:Nat) (y:Z1),xs[i]?=some y->y.Id≠a1):Z6j xs a1=(zIt,false):=by
 have:xs.reverse.find? (λx=>x.Id==a1)=none:=by rw[List.find?_eq_none];intro y hy;rw[List.mem_reverse]at hy;obtain⟨i,hi,he⟩:=lh hy;have:=hn i y (by rw[<- he];exact bn hi);simpa using this
 unfold Z6j;rw[this]
def yf{xs:List Z1}{c:Ctx}{ys:List (Rnd xs c)}{k:Nat}(h:rdI ys=((List.range xs.length).reverse).take k){q:Nat}{p:Rnd xs c}(hp:ys[q]?=some p):p.1.1=xs.length-1-q/\q<xs.length:=by
 have h1:(rdI ys)[q]?=some p.1.1:=by unfold rdI;rw[fX,hp];rfl
 rw[h]at h1;have hq:=(aJ.1 h1).1;have hqn:q<xs.length:=by simp at hq;omega
 rw[List.getElem?_take_of_lt (by simp at hq;omega),List.getElem?_reverse (by simpa using hqn)]at h1;simp only[List.length_range]at h1;rw[oR O]at h1;exact⟨(c9 h1).symm,hqn⟩
abbrev itk3:List (Nat×PV):=[(4,.bptr 1004 0),(5,.bptr 1005 0)]
def Ek:zPV.all PV.one=true:=ar
def XC:yc.toList.map ez=[(.build 55 #[],some 21,true),(.store 55 (.tmp 4) (.tmp 21),none,true),(.store 4 (.tmp 5) (.const (.bool false)),none,true)]:=ar
def bu55:∃places,BuF PR 55 places zPV:=by
 have h:(oY PR 55).isSome=true:=ar
 obtain⟨p,hp⟩:=tu.1 h;exact⟨p,.inl hp,by kernel_rfl⟩
def XD{n:Nat}{Q:Exit->Act->World->Prop}{t:Array Value}{d:List Deferred}{W:World}{c:Ctx}{b4 b5:Nat}(hsz:22<=t.size)(h4:t.getD 4 undef = .pointer (some ⟨b4,0,none⟩))(h5:t.getD 5 undef = .pointer (some ⟨b5,0,none⟩))(hr4:aY W b4 94)(hr5:aY W b5 1)
 (hk:∀(t':Array Value) (us:List Value),VRs c zPV us->t'.getD 4 undef=t.getD 4 undef->t'.getD 5 undef=t.getD 5 undef->22<=t'.size->Q .normal ⟨t',d⟩ ((W.setCells b4 0 us).setCells b5 0 [.bool false])):(Code.region 6 yc false).wpIn Fence.wide n PR Q ⟨t,d⟩ W:=by
 have hF:dS Fence.wide :=.inl rfl;refine j5 λl0 hl0=>?_;rw[XC]at hl0;obtain⟨p1,l1,rfl,q1,hl1⟩:=map_cons hl0;obtain⟨p2,l2,rfl,q2,hl2⟩:=map_cons hl1;obtain⟨p3,l3,rfl,q3,hl3⟩:=map_cons hl2;obtain rfl:=map_nil hl3;obtain⟨pl,hB⟩:=bu55;obtain⟨us,hb,hvs⟩:=hB.run (c:=c) (parts:=[]) (vals := #[]) (out:=zPV) W rfl rfl;have hv:VR c (.agg zPV) (.agg us.toArray):=by simp only[VR];exact⟨us,rfl,hvs⟩
 refine ef hF (v :=.agg us.toArray) q1 (λ_ h=>nomatch h) (λh=>by simp[execOp,h,hb]) ?_;have e4:(⟨t.setIfInBounds 21 (.agg us.toArray),d⟩:Act).eval (.tmp 4) = .pointer (some ⟨b4,0,none⟩):=by rw[dm,bw _ _ O,aI aS,h4]
 have e21:(⟨t.setIfInBounds 21 (.agg us.toArray),d⟩:Act).eval (.tmp 21) = .agg us.toArray:=oS
 have e5:(⟨t.setIfInBounds 21 (.agg us.toArray),d⟩:Act).eval (.tmp 5) = .pointer (some ⟨b5,0,none⟩):=Ei
 refine oW hF (w':=W.setCells b4 0 us) q2 (λ_ h=>nomatch h) (λh=>oU h e4 (by rw[e21];have:=gU (b:=b4) (q:=0) (m:=94) ty55 W hv tt Ek hr4 O;exact this)) ?_;refine oW hF (w':=(W.setCells b4 0 us).setCells b5 0 [.bool false]) q3 (λ_ h=>nomatch h) (λh=>oU h e5 (gU (c:=c) (p:=wB false) (v :=.bool false) ty4 _ (by simp[VR,Z9]) rfl rfl (dx _ _ _ _ hr5) O)) ?_;exact hk _ us hvs (by rw[bw _ _ O,aI aS]) (by rw[bw _ _ O,aI aS]) aZ
abbrev itR:List RV:=[.c 4 55 true 94,.c 5 4 false 1]
def XF(r:List (Nat×Blk)):Z6e itR [] (.tup [wA (ax zIt),wB false]) ⟨22,itk3,(1005,.box [wB false])::(1004,.box zPV)::r⟩:=yg (ps:=[]) ar trivial
def XG(x:Z1)(r:List (Nat×Blk)):Z6e itR [] (.tup [wA (ax x),wB true]) ⟨22,itk3,(1005,.box [wB true])::(1004,.box (bx (ax x)))::r⟩:=yg (ps:=[]) ar trivial
def XH:∀x t ag sz,RV.c x t ag sz∈itR->TyF PR t ag sz:=λx t ag sz h=>by
 simp only[itR,cn,RV.c.injEq,oZ,or_false]at h;rcases h with⟨_,rfl,rfl,rfl⟩|⟨_,rfl,rfl,rfl⟩
 .exact ty55
 exact ty4
def XI{B:Nat}{W W':World}(h:Below W.heap.size W W'):KeepsFrom B W W':=⟨h.size,λk o _ hk _=>(h.block k (pa.1 hk).1).trans hk⟩
section
def XJ{c:Ctx}{f:FuncId}{p:PV}{v:Value}(h:VR c (.fn f [p]) v):∃v1,v = .func (.func f) #[] #[v1]/\VR c p v1:=by simp only[VR,VRs]at h;obtain⟨vs,rfl,v1,rest,rfl,h1,rfl⟩:=h;exact⟨v1,rfl,h1⟩
def yh{c:Ctx}{l:Nat}{cs:List PV}{v:Value}(h:VR c (.bptr l 0) v)(hg:get c.Z l=some (.box cs)):∃b,c.β l=some b/\v = .pointer (some ⟨b,0,none⟩):=by simp only[VR]at h;exact h.1 cs hg
def XK{B:Nat}{us:List Value}{W W':World}(h:W'.heap[B]?=W.heap[B]?)(hc:gK W B us):gK W' B us:=λj v hj=>(fj (w:=W) h).trans (hc j v hj)
end
def XL(args:Array Value)(w:World):(callFunc 71 args).run PR w = .ok (.enter 71 args) w:=by
 obtain⟨fn,hf,hb,hn⟩:∃fn,PR.funcs[71]? = some fn/\fn.body.isSome=true/\(fn.name == "runtime.NumGoroutine")=false:=⟨_,func71,by kernel_rfl,by kernel_rfl⟩
 obtain⟨c,hb⟩:=tu.1 hb;have h1:fn.name ≠ "runtime.NumGoroutine" :=by simpa using hn
 simp[callFunc,hf,h1,hb,mark]
def XM{a0 t:ab}{a1:Int}(hZ:Fn PR 25 [(wA (aH a0))] (wA (aH t))):Fn PR 13 [(wA (aH a0)),(wI a1)] (.tup [(wA (ax (Z6j t.Stack a1).1)),(wB (Z6j t.Stack a1).2)]):=by
 obtain⟨fn,hf,hb,hnt,hrs,hnm⟩:=fn13;refine⟨⟨fn,_,hf,hb,hnm⟩,λA β w vals hvl hr=>?_⟩;have hF:dS Fence.wide :=.inl rfl;refine(callsIn_wide (n:=5)).1 (callsIn_of_wp_marks hf (hb.trans (dw some Xi)) trivial ?_ rfl);have hr0:=Xt (n:=22) hvl hnt al hr;refine wpIn_seq (xQ hT hF (Xx a0 a1) trivial ar ⟨β,hr0⟩ λt1 w1 hr1=>?_);refine wpIn_seq (xQ hT hF (Xy a0 t a1) ⟨hZ,aa⟩ ar hr1 λt2 w2 hr2=>?_);refine wpIn_seq (wpIn_seq (xQ hT hF (Xz a0 t a1) ⟨Xw _,aa⟩ ar hr2 λtA wl hr3=>?_));obtain⟨β3,hr3⟩:=hr3;obtain⟨v1,hv13,hv1⟩:=XJ (hr3.tm 13 (.fn 71 [(.vptr ((cL ax) t.Stack))]) rfl).2;obtain⟨b3,hb3,hp3⟩:=yh (cs:=[wI a1]) (hr3.tm 3 (.bptr 1003 0) rfl).2 rfl;obtain⟨b4,hb4,hp4⟩:=yh (cs:=zPV) (hr3.tm 4 (.bptr 1004 0) rfl).2 rfl;obtain⟨b5,hb5,hp5⟩:=yh (cs:=[wB false]) (hr3.tm 5 (.bptr 1005 0) rfl).2 rfl;have hb3:β3 1003=some b3:=hb3;have hb4:β3 1004=some b4:=hb4;have hb5:β3 1005=some b5:=hb5;have hsz:22<=tA.size:=hr3.sz;have hv1':VR (ctx (b9 β [] A w) β3 wl (Z03 a0 t a1)) (.vptr [.sl (t.Stack.map ax)]) v1:=hv1;have hlt:∀l o b,get (Z03 a0 t a1) l=some o->β3 l=some b->b<wl.heap.size:=λl o b h1 h2=>(hr3.sep l o b h1 (.inl h2)).1;have h3lt:=hlt 1003 _ b3 rfl hb3;have h4lt:=hlt 1004 _ b4 rfl hb4;have h5lt:=hlt 1005 _ b5 rfl hb5;have hc3:wl.cell? ⟨b3,0,none⟩=some (.int .i64 a1):=by
  obtain⟨b',vs,e1,_,e3,e4,_⟩:=hr3.blk 1003 (.box [wI a1]) rfl;obtain rfl:b'=b3:=by have:β3 1003=some b':=e1;rw[hb3]at this;exact(c9 this).symm
  simp only[VRs,VR,Z9]at e4;obtain⟨_,_,rfl,rfl,rfl⟩:=e4;exact e3 0 _ rfl
 have hrow4:aY wl b4 94:=by
  obtain⟨b',vs,e1,e2,_⟩:=hr3.blk 1004 (.box zPV) rfl;obtain rfl:b'=b4:=by have:β3 1004=some b':=e1;rw[hb4]at this;exact(c9 this).symm
  rw[tt]at e2;exact e2
 have hrow5:aY wl b5 1:=by
  obtain⟨b',vs,e1,e2,_⟩:=hr3.blk 1005 (.box [wB false]) rfl;obtain rfl:b'=b5:=by have:β3 1005=some b':=e1;rw[hb5]at this;exact(c9 this).symm
  exact e2
 have hrowW:∀{W:World} {b m:Nat},Below wl.heap.size wl W->b<wl.heap.size->aY wl b m->aY W b m:=λhB h hr=>hr.of_heap (hB.block _ h);have hend:∀(p:PV) (v:Value) (b:Bool) (W:World) (r:PV),VR (ctx (b9 β [] A w) β3 wl (Z03 a0 t a1)) p v->(Z7 p).length=94->(Z7 p).all PV.one=true->Below wl.heap.size ((wl.setCells b4 0 v.cells.toList).setCells b5 0 [.bool b]) W ->
  (∀rr,Z6e itR [] r ⟨22,itk3,(1005,.box [wB b])::(1004,.box (Z7 p))::rr⟩)->∀tB:Array Value,22<=tB.size->tB.getD 4 undef=tA.getD 4 undef->tB.getD 5 undef=tA.getD 5 undef ->
  ∃v,(results fn tB).run PR W = .ok v W/\∃v0 β',Ending.returned v = .returned v0/\aE (b9 β [] A w) β' ⟨1,[(0,r)],[]⟩ ⟨#[v0],[]⟩ W:=by
  intro p v b W r hv hl h1 hB hret tB hsB e4 e5;obtain⟨b4',g1,_,g2⟩:=Eg hr3 (l:=1004) (cs:=zPV) rfl hv (by rw[hl,tt]) h1;obtain rfl:b4'=b4:=by rw[hb4]at g1;exact(c9 g1).symm
  obtain⟨b5',k1,_,k2⟩:=Eg g2 (l:=1005) (cs:=[wB false]) (p:=wB b) (v :=.bool b) rfl (by simp[VR,Z9]) rfl rfl;obtain rfl:b5'=b5:=by rw[hb5]at k1;exact(c9 k1).symm
  have hsize:((wl.setCells b4' 0 v.cells.toList).setCells b5' 0 [.bool b]).heap.size=wl.heap.size:=by rw[eV,eV]
  have k3:=WX k2 (W:=W) (by rw[show(Value.bool b).cells.toList=[.bool b]from rfl,hsize];exact hB);have k4:aE (b9 β [] A w) β3 ⟨22,itk3,(1005,.box [wB b])::(1004,.box (Z7 p))::[(1006,.box (bx (aH t))),(1003,.box [wI a1]),(1002,.box (bx (aH a0)))]⟩ ⟨tA,[]⟩ W:=k3.sub (aW _) (λi q hi=>by
   have hm:=ew hi;simp only[itk3,cn,bG,oZ,or_false]at hm;rcases hm with⟨rfl,rfl⟩|⟨rfl,rfl⟩
   .exact⟨rfl,(by decide:4<22)⟩
   exact⟨rfl,(by decide:5<22)⟩) (λl o h=>h)
  have htm:∀i q,get itk3 i=some q->i<22/\VR (ctx (b9 β [] A w) β3 W ((1005,.box [wB b])::(1004,.box (Z7 p))::[(1006,.box (bx (aH t))),(1003,.box [wI a1]),(1002,.box (bx (aH a0)))])) q (tB.getD i undef):=λi q hi=>by
   have hm:=ew hi;have hq:=k4.tm i q hi;simp only[itk3,cn,bG,oZ,or_false]at hm;rcases hm with⟨rfl,rfl⟩|⟨rfl,rfl⟩
   .exact⟨by decide,by rw[e4];exact hq.2⟩
   exact⟨by decide,by rw[e5];exact hq.2⟩
  have k5:aE (b9 β [] A w) β3 ⟨22,itk3,(1005,.box [wB b])::(1004,.box (Z7 p))::[(1006,.box (bx (aH t))),(1003,.box [wI a1]),(1002,.box (bx (aH a0)))]⟩ ⟨tB,[]⟩ W:={ k4 with sz:=hsB,tm:=htm };exact Xs hrs XH (hret _) ⟨β3,k5⟩
 obtain⟨fnk,hfk,hbk,_,_⟩:=fn71;have hent:∀args w,(callFunc 71 args).run PR w = .ok (.enter 71 args) w:=XL;have hstep:∀{b:Nat} {W W':World} {row:Option Nat},W.grownBy W' row->(∀r,row=some r->wl.heap.size<=r/\∃o:Obj,W.heap[r]?=some o/\o.isCells=false)->b<W.heap.size->(∃cs e,W.heap[b]?=some (.cells cs e (0,0)))->W'.heap[b]?=W.heap[b]?:=λhg hr hlt hc=>hg.block _ hlt (λe=>by obtain⟨cs,ee,hc⟩:=hc;obtain⟨_,o,ho,hn⟩:=hr _ e.symm;rw[hc]at ho;cases ho;cases hn);refine wpIn_block (wpIn_rangeFunc_ownH (α:=Rnd t.Stack (ctx (b9 β [] A w) β3 wl (Z03 a0 t a1))) (w0:=wl) (gf:=71) (lb := #[v1]) rfl aS (by rw[dm];exact hv13) trivial hent (Xf (c:=ctx (b9 β [] A w) β3 wl (Z03 a0 t a1)) (λb hb=>hb.1) hv1') (λh k=>h.trans k) (belowK_b (aW _)) (Below.refl _ _) (λ_=>rfl)
  (λpre W=>Below wl.heap.size wl W/\∀p,p∈pre->∀y,t.Stack[p.1.1]?=some y->y.Id≠a1)
  (λc pre W=>c = .ret/\∃pre' p y v,pre=pre'++[p]/\t.Stack[p.1.1]?=some y/\y.Id=a1/\(∀q,q∈pre'->∀z,t.Stack[q.1.1]?=some z->z.Id≠a1)/\VR (ctx (b9 β [] A w) β3 wl (Z03 a0 t a1)) (wA (ax y)) v/\Below wl.heap.size ((wl.setCells b4 0 v.cells.toList).setCells b5 0 [.bool true]) W)
  (λs W W' row hs hg hr=>⟨hs.1.grown hg hs.1.size (λk hk=>(hr k hk).1),hs.2⟩)
  (λc s W W' row hs hg hr=>by obtain⟨rfl,pre',p,y,v,h1,h2,h3,h4,h5,h6⟩:=hs;exact⟨rfl,pre',p,y,v,h1,h2,h3,h4,h5,h6.grown hg (by have:=h6.size;rw[eV,eV]at this;exact this) (λk hk=>(hr k hk).1)⟩)
  ⟨Below.refl _ _,λp hp=>by cases hp⟩
  (λx a' W=>∃B us y,wl.heap.size<=B/\B<W.heap.size/\aY W B 94/\gK W B us/\t.Stack[x.1.1]?=some y/\VRs (ctx (b9 β [] A w) β3 wl (Z03 a0 t a1)) ((ax y).map .t) us/\a'.defers=[]/\22<=a'.tmps.size/\a'.tmps.getD 8 undef = .pointer (some ⟨B,0,none⟩)/\∀j,j=3\/j=4\/j=5->a'.tmps.getD j undef=tA.getD j undef)
  (λx a' s W W' row hs hg hr=>by obtain⟨B,us,y,h1,h2,h3,h4,h5⟩:=hs;have hh:W'.heap[B]?=W.heap[B]?:=hg.block B h2 (λe=>by obtain⟨cs,ee,fr,hc,_⟩:=h3;obtain⟨_,o,ho,hn⟩:=hr _ e.symm;rw[hc]at ho;cases ho;cases hn);exact⟨B,us,y,h1,dL h2 hg.size,h3.of_heap hh,XK hh h4,h5⟩) ?assign ?body ?done ?stop)
 case assign=>
  intro l pre x W K hi hK;obtain⟨y,hy,hv⟩:=x.2;have ht:(Array.zip #[14,15] (rdE x)).foldl (λ(t:Array Value) (p:Tmp×Value)=>match p with|(p,v)=>t.setIfInBounds p v) tA=(tA.setIfInBounds 14 (.int .i64 (x.1.1:Int))).setIfInBounds 15 x.1.2:=al
  suffices h:Code.wpIn (Fence.wide.inRound l) (5-1-1) PR (Code.region 3 tn false) (Exit.then K λ_ _ _=>False) ⟨(tA.setIfInBounds 14 (.int .i64 (x.1.1:Int))).setIfInBounds 15 x.1.2,[]⟩ W by rw[<- ht]at h;exact h
  refine Xp (t:=(tA.setIfInBounds 14 (.int .i64 (x.1.1:Int))).setIfInBounds 15 x.1.2) (.inr ⟨l,rfl⟩) aZ Eh hv λt' W' hs' h8 h345 hlt' hrow hcs hB=>?_;refine hK _ _ (XI hB) (hB.mono hi.1.size) ⟨hi.1.trans (hB.mono hi.1.size),hi.2⟩ ⟨W.heap.size,x.1.2.cells.toList,y,hi.1.size,hlt',hrow,hcs,hy,hv.cells,rfl,hs',h8,λj hj=>?_⟩;rw[h345 j hj,bw _ _ aZ,aI O,bw _ _ O,aI O]
 case body=>
  rintro l pre x ⟨t',d'⟩ W hl _ hi ⟨B,us,y,g1,g2,g3,g4,g5,g6,g7,g8,g9,g10⟩ _;simp only at g7 g8 g9 g10;subst g7;have hFr:dS (Fence.wide.inRound l) :=.inr ⟨l,rfl⟩;refine wpIn_block (wpIn_seq (Xq (c:=ctx (b9 β [] A w) β3 wl (Z03 a0 t a1)) (x:=y) (b3:=b3) (a1:=a1) hFr g8 g9 ((g10 3 (.inl rfl)).trans hp3) g4 g6 ((fj (w:=wl) (hi.1.block b3 h3lt)).trans hc3) λt2 hs2 hj h19=>?_));refine wpIn_cond (t:=decide (y.Id=a1)) (by rw[dm,h19]) ?_;by_cases hid:y.Id=a1
  .rw [bB hid];refine wpIn_seq (Xr (c:=ctx (b9 β [] A w) β3 wl (Z03 a0 t a1)) (x:=y) (b4:=b4) (b5:=b5) hFr hs2 ((hj 8 al).trans g9) ((hj 4 al).trans ((g10 4 al).trans hp4)) ((hj 5 al).trans ((g10 5 al).trans hp5)) g4 g6 (hrowW hi.1 h4lt hrow4) (hrowW hi.1 h5lt hrow5) λt3 v hv=>wpIn_ret ?_);refine⟨⟨by rw[eV,eV];exact aW _,λk o hk ho hn=>?_⟩,rfl,pre,x,y,v,rfl,g5,hid,hi.2,hv,oT _ _ _ (oT _ _ _ hi.1)⟩;rw[eM _ _ _ _ _ O,eM _ _ _ _ _ O];exact ho
  rw[bO hid];refine wpIn_skip ⟨KeepsFrom.refl _ _,Below.refl _ _,hi.1,λp hp z hz=>?_⟩;rcases cD.1 hp with hp|hp
  .exact hi.2 p hp z hz
  simp only[gC]at hp;subst hp;rw[g5]at hz;cases hz;exact hid
 case done=>
  rintro D ys W hD hS hi hK;have hno:Z6j t.Stack a1=(zIt,false):=XB λi z hz=>by
   have hin:=(aJ.1 hz).1;have hl:ys.length=t.Stack.length:=by have:=dw List.length hS;simpa[rdI]using this
   have hq:=bn (l:=ys) (i:=t.Stack.length-1-i) O;have hr:=yf (k:=t.Stack.length) (by rw[hS,fC al]) hq;refine hi.2 _ (cj hq) z ?_;rw[hr.1,show t.Stack.length-1-(t.Stack.length-1-i)=i by omega];exact hz
  rw[hno];refine wpIn_seq (XD (c:=ctx (b9 β [] A w) β3 wl (Z03 a0 t a1)) (b4:=b4) (b5:=b5) hsz hp4 hp5 (hrowW hi.1 h4lt hrow4) (hrowW hi.1 h5lt hrow5) λt6 us hus e4 e5 hs6=>wpIn_ret ?_);have hK6:((W.setCells b4 0 us).setCells b5 0 [.bool false]).heap[D]?=some (.deferred (some [])):=by rw[eM _ _ _ _ _ O,eM _ _ _ _ _ O];exact hK
  refine⟨by simp,.inl ⟨D,_,rfl,run_takeDeferred hK6,?_⟩⟩;have hB6:Below wl.heap.size ((wl.setCells b4 0 us).setCells b5 0 [.bool false]) ((W.setCells b4 0 us).setCells b5 0 [.bool false]):=oT _ _ _ (oT _ _ _ hi.1);exact hend (.agg zPV) (.agg us.toArray) false _ _ (by simp only[VR];exact⟨us,rfl,hus⟩) tt Ek (hB6.trans (belowK_b (w:=wl) (aW _) _ D _ _ hD hK6 rfl rfl)) (λrr=>XF rr) t6 hs6 e4 e5
 case stop=>
  rintro D c pre W hD ⟨k,hSp⟩ ⟨rfl,pre',p,y,v,rfl,hy,hid,hno,hv,hB⟩ hK;have hfo:Z6j t.Stack a1=(y,true):=by
   have hp:=yf hSp (q:=pre'.length) (p:=p) al;refine XA hy hid λi z hi hz=>?_;have hin:=(aJ.1 hz).1;have hq':t.Stack.length-1-i<pre'.length:=bg
   have hq:=bn (l:=pre') hq';have hr:=yf hSp (q:=t.Stack.length-1-i) (p:=pre'[t.Stack.length-1-i]) (by rw[dy hq'];exact hq);refine hno _ (cj hq) z ?_;rw[hr.1,show t.Stack.length-1-(t.Stack.length-1-i)=i by omega];exact hz
  rw[hfo];refine wpIn_ret ?_;refine⟨by simp,.inl ⟨D,_,rfl,run_takeDeferred hK,?_⟩⟩;exact hend (wA (ax y)) v true _ _ hv (tp y) (yd y) (hB.trans (belowK_b (w:=wl) (aW _) _ D _ _ hD hK rfl rfl)) (λrr=>XG y rr) tA hsz rfl rfl
end Go.PW
set_option maxRecDepth 100000
namespace Go.PW
open Go.RowKit
noncomputable section
abbrev tm0(p0:an)(n0:Nat):List PV:=[wI p0.Kind,wI p0.Filter.Zone,wI p0.Filter.Who,wI p0.Filter.Self,wI p0.Filter.Types,wI p0.Filter.NotTypes,wI p0.Filter.Colors,wI p0.Filter.NotColors,wS p0.Filter.Sub,wI p0.Filter.Keys,wI p0.Filter.Tap,wI p0.Filter.Power.Kind,wI p0.Filter.Power.N,wI p0.Filter.Tough.Kind,wI p0.Filter.Tough.N,wI p0.Filter.Value.Kind,wI p0.Filter.Value.N,wO aF (n0+17) p0.Mods,wI p0.Price.Mana.Generic,wI p0.Price.Mana.X,wI p0.Price.Mana.Color.a0,wI p0.Price.Mana.Color.a1,wI p0.Price.Mana.Color.a2,wI p0.Price.Mana.Color.a3,wI p0.Price.Mana.Color.a4,wB p0.Price.Tap,wB p0.Price.Sacrifice,wI p0.Price.Life,wB p0.Slow,wI p0.Trigger.When,wI p0.Trigger.Who,wI p0.Trigger.Filter.Zone,wI p0.Trigger.Filter.Who,wI p0.Trigger.Filter.Self,wI p0.Trigger.Filter.Types,wI p0.Trigger.Filter.NotTypes,wI p0.Trigger.Filter.Colors,wI p0.Trigger.Filter.NotColors,wS p0.Trigger.Filter.Sub,wI p0.Trigger.Filter.Keys,wI p0.Trigger.Filter.Tap,wI p0.Trigger.Filter.Power.Kind,wI p0.Trigger.Filter.Power.N,wI p0.Trigger.Filter.Tough.Kind,wI p0.Trigger.Filter.Tough.N,wI p0.Trigger.Filter.Value.Kind,wI p0.Trigger.Filter.Value.N,wB p0.May,wO bS (n0+48) p0.Specs,wO bl (n0+49) p0.Effects,wI p0.Replace.On,wI p0.Replace.Who,wI p0.Replace.Filter.Zone,wI p0.Replace.Filter.Who,wI p0.Replace.Filter.Self,wI p0.Replace.Filter.Types,wI p0.Replace.Filter.NotTypes,wI p0.Replace.Filter.Colors,wI p0.Replace.Filter.NotColors,wS p0.Replace.Filter.Sub,wI p0.Replace.Filter.Keys,wI p0.Replace.Filter.Tap,wI p0.Replace.Filter.Power.Kind,wI p0.Replace.Filter.Power.N,wI p0.Replace.Filter.Tough.Kind,wI p0.Replace.Filter.Tough.N,wI p0.Replace.Filter.Value.Kind,wI p0.Replace.Filter.Value.N,wI p0.Replace.Do,wI p0.Replace.N,wI p0.Replace.Zone,wI p0.Replace.Counter]
abbrev tm1(p0:aB):List PV:=[wL ba p0.s.Players,wL aC p0.s.Objects,wL (cI .i64) p0.s.Battlefield,wL (cI .i64) p0.s.Exile,wL ax p0.s.Stack,wL bz p0.s.Waiting,wL bD p0.s.Conts,wI p0.s.Turn,wI p0.s.Active,wI p0.s.Step,wB p0.s.Begun,wI p0.s.Priority,wI p0.s.Passes,wI p0.s.NextId,wI p0.s.NextStamp,.t (.int .u64 p0.s.Seed),wL (cI .i64) p0.s.Extra,wI p0.s.Over,wI p0.s.Winner,wL cF p0.forces,wO ay 1 p0.traits,wO cB 2 p0.dropped,wO cB 3 p0.done,wO (cL (cI .i64)) 4 p0.hits]
abbrev tm2(p0:ab)(n0:Nat):List PV:=[wO ba n0 p0.Players,wO aC (n0+1) p0.Objects,wO (cI .i64) (n0+2) p0.Battlefield,wO (cI .i64) (n0+3) p0.Exile,wO ax (n0+4) p0.Stack,wO bz (n0+5) p0.Waiting,wO bD (n0+6) p0.Conts,wI p0.Turn,wI p0.Active,wI p0.Step,wB p0.Begun,wI p0.Priority,wI p0.Passes,wI p0.NextId,wI p0.NextStamp,.t (.int .u64 p0.Seed),wO (cI .i64) (n0+16) p0.Extra,wI p0.Over,wI p0.Winner]
abbrev tm3(p0:ah)(n0:Nat):List PV:=[wS p0.Name,wI p0.Cost.Generic,wI p0.Cost.X,wI p0.Cost.Color.a0,wI p0.Cost.Color.a1,wI p0.Cost.Color.a2,wI p0.Cost.Color.a3,wI p0.Cost.Color.a4,wI p0.Colors,wI p0.Line.Super,wI p0.Line.Types,wO cS (n0+11) p0.Line.Subs,wI p0.Power,wI p0.Tough,wI p0.Keys,wO aD (n0+15) p0.Abilities,wI p0.Control]
abbrev tm4(p0:aB):List PV:=[wL ba p0.s.Players,wL aC p0.s.Objects,wL (cI .i64) p0.s.Battlefield,wL (cI .i64) p0.s.Exile,wL ax p0.s.Stack,wL bz p0.s.Waiting,wL bD p0.s.Conts,wI p0.s.Turn,wI p0.s.Active,wI p0.s.Step,wB p0.s.Begun,wI p0.s.Priority,wI p0.s.Passes,wI p0.s.NextId,wI p0.s.NextStamp,.t (.int .u64 p0.s.Seed),wL (cI .i64) p0.s.Extra,wI p0.s.Over,wI p0.s.Winner,wL cF p0.forces,wO ay 2 p0.traits,wO cB 3 p0.dropped,wO cB 4 p0.done,wO (cL (cI .i64)) 5 p0.hits]
abbrev tm6(p0:an):List U:=[.int .i64 p0.Kind,.int .i64 p0.Filter.Zone,.int .i64 p0.Filter.Who,.int .i64 p0.Filter.Self,.int .i64 p0.Filter.Types,.int .i64 p0.Filter.NotTypes,.int .i64 p0.Filter.Colors,.int .i64 p0.Filter.NotColors,.str p0.Filter.Sub,.int .i64 p0.Filter.Keys,.int .i64 p0.Filter.Tap,.int .i64 p0.Filter.Power.Kind,.int .i64 p0.Filter.Power.N,.int .i64 p0.Filter.Tough.Kind,.int .i64 p0.Filter.Tough.N,.int .i64 p0.Filter.Value.Kind,.int .i64 p0.Filter.Value.N,.sl (List.map aF p0.Mods),.int .i64 p0.Price.Mana.Generic,.int .i64 p0.Price.Mana.X,.int .i64 p0.Price.Mana.Color.a0,.int .i64 p0.Price.Mana.Color.a1,.int .i64 p0.Price.Mana.Color.a2,.int .i64 p0.Price.Mana.Color.a3,.int .i64 p0.Price.Mana.Color.a4,.bool p0.Price.Tap,.bool p0.Price.Sacrifice,.int .i64 p0.Price.Life,.bool p0.Slow,.int .i64 p0.Trigger.When,.int .i64 p0.Trigger.Who,.int .i64 p0.Trigger.Filter.Zone,.int .i64 p0.Trigger.Filter.Who,.int .i64 p0.Trigger.Filter.Self,.int .i64 p0.Trigger.Filter.Types,.int .i64 p0.Trigger.Filter.NotTypes,.int .i64 p0.Trigger.Filter.Colors,.int .i64 p0.Trigger.Filter.NotColors,.str p0.Trigger.Filter.Sub,.int .i64 p0.Trigger.Filter.Keys,.int .i64 p0.Trigger.Filter.Tap,.int .i64 p0.Trigger.Filter.Power.Kind,.int .i64 p0.Trigger.Filter.Power.N,.int .i64 p0.Trigger.Filter.Tough.Kind,.int .i64 p0.Trigger.Filter.Tough.N,.int .i64 p0.Trigger.Filter.Value.Kind,.int .i64 p0.Trigger.Filter.Value.N,.bool p0.May,.sl (List.map bS p0.Specs),.sl (List.map bl p0.Effects),.int .i64 p0.Replace.On,.int .i64 p0.Replace.Who,.int .i64 p0.Replace.Filter.Zone,.int .i64 p0.Replace.Filter.Who,.int .i64 p0.Replace.Filter.Self,.int .i64 p0.Replace.Filter.Types,.int .i64 p0.Replace.Filter.NotTypes,.int .i64 p0.Replace.Filter.Colors,.int .i64 p0.Replace.Filter.NotColors,.str p0.Replace.Filter.Sub,.int .i64 p0.Replace.Filter.Keys,.int .i64 p0.Replace.Filter.Tap,.int .i64 p0.Replace.Filter.Power.Kind,.int .i64 p0.Replace.Filter.Power.N,.int .i64 p0.Replace.Filter.Tough.Kind,.int .i64 p0.Replace.Filter.Tough.N,.int .i64 p0.Replace.Filter.Value.Kind,.int .i64 p0.Replace.Filter.Value.N,.int .i64 p0.Replace.Do,.int .i64 p0.Replace.N,.int .i64 p0.Replace.Zone,.int .i64 p0.Replace.Counter]
abbrev tm7(p0:aB)(n0:Nat):List PV:=[wL ba p0.s.Players,wL aC p0.s.Objects,wL (cI .i64) p0.s.Battlefield,wL (cI .i64) p0.s.Exile,wL ax p0.s.Stack,wL bz p0.s.Waiting,wL bD p0.s.Conts,wI p0.s.Turn,wI p0.s.Active,wI p0.s.Step,wB p0.s.Begun,wI p0.s.Priority,wI p0.s.Passes,wI p0.s.NextId,wI p0.s.NextStamp,.t (.int .u64 p0.s.Seed),wL (cI .i64) p0.s.Extra,wI p0.s.Over,wI p0.s.Winner,wL cF p0.forces,wO ay (n0+21) p0.traits,wO cB (n0+22) p0.dropped,wO cB (n0+23) p0.done,wO (cL (cI .i64)) (n0+24) p0.hits]
abbrev tm9(p0:aB)(n0:Nat):List PV:=[wL ba p0.s.Players,wL aC p0.s.Objects,wL (cI .i64) p0.s.Battlefield,wL (cI .i64) p0.s.Exile,wL ax p0.s.Stack,wL bz p0.s.Waiting,wL bD p0.s.Conts,wI p0.s.Turn,wI p0.s.Active,wI p0.s.Step,wB p0.s.Begun,wI p0.s.Priority,wI p0.s.Passes,wI p0.s.NextId,wI p0.s.NextStamp,.t (.int .u64 p0.s.Seed),wL (cI .i64) p0.s.Extra,wI p0.s.Over,wI p0.s.Winner,wL cF p0.forces,wO ay (n0+20) p0.traits,wO cB (n0+21) p0.dropped,wO cB (n0+22) p0.done,wO (cL (cI .i64)) (n0+23) p0.hits]
abbrev tm11(p0:Z3)(n0:Nat):List PV:=[wI p0.Kind,wI p0.Player,wI p0.Source,wI p0.Least,wI p0.Most,wI p0.N,wO bj (n0+6) p0.Options]
abbrev tm12(p0:ah):List U:=[.str p0.Name,.int .i64 p0.Cost.Generic,.int .i64 p0.Cost.X,.int .i64 p0.Cost.Color.a0,.int .i64 p0.Cost.Color.a1,.int .i64 p0.Cost.Color.a2,.int .i64 p0.Cost.Color.a3,.int .i64 p0.Cost.Color.a4,.int .i64 p0.Colors,.int .i64 p0.Line.Super,.int .i64 p0.Line.Types,.sl (List.map cS p0.Line.Subs),.int .i64 p0.Power,.int .i64 p0.Tough,.int .i64 p0.Keys,.sl (List.map aD p0.Abilities),.int .i64 p0.Control]
abbrev tm14(p0:ab)(n0:Nat):List PV:=[wO ba n0 p0.Players,wO aC (n0+1) p0.Objects,wO (cI .i64) (n0+2) p0.Battlefield,wO (cI .i64) (n0+3) p0.Exile,wO ax (n0+4) p0.Stack,wO bz (n0+5) p0.Waiting,wO bD (n0+6) p0.Conts,wI p0.Turn,wI p0.Active,wI p0.Step,wB p0.Begun,wI p0.Priority,wI p0.Passes,wI p0.NextId,wI p0.NextStamp,.t (.int .u64 p0.Seed),wL (cI .i64) p0.Extra,wI p0.Over,wI p0.Winner]
abbrev tm15(p0:ab)(n0:Nat):List PV:=[wO ba n0 p0.Players,wO aC (n0+1) p0.Objects,wO (cI .i64) (n0+2) p0.Battlefield,wO (cI .i64) (n0+3) p0.Exile,wO ax (n0+4) p0.Stack,wO bz (n0+5) p0.Waiting,wL bD p0.Conts,wI p0.Turn,wI p0.Active,wI p0.Step,wB p0.Begun,wI p0.Priority,wI p0.Passes,wI p0.NextId,wI p0.NextStamp,.t (.int .u64 p0.Seed),wL (cI .i64) p0.Extra,wI p0.Over,wI p0.Winner]
abbrev tm16(p0:ab)(n0:Nat):List PV:=[wO ba n0 p0.Players,wO aC (n0+1) p0.Objects,wO (cI .i64) (n0+2) p0.Battlefield,wO (cI .i64) (n0+3) p0.Exile,wO ax (n0+4) p0.Stack,wL bz p0.Waiting,wL bD p0.Conts,wI p0.Turn,wI p0.Active,wI p0.Step,wB p0.Begun,wI p0.Priority,wI p0.Passes,wI p0.NextId,wI p0.NextStamp,.t (.int .u64 p0.Seed),wL (cI .i64) p0.Extra,wI p0.Over,wI p0.Winner]
abbrev tm17(p0:ab)(n0:Nat):List PV:=[wO ba n0 p0.Players,wL aC p0.Objects,wL (cI .i64) p0.Battlefield,wL (cI .i64) p0.Exile,wL ax p0.Stack,wL bz p0.Waiting,wL bD p0.Conts,wI p0.Turn,wI p0.Active,wI p0.Step,wB p0.Begun,wI p0.Priority,wI p0.Passes,wI p0.NextId,wI p0.NextStamp,.t (.int .u64 p0.Seed),wL (cI .i64) p0.Extra,wI p0.Over,wI p0.Winner]
abbrev tm18(n0:Nat)(n1:Nat):List Orc:=[.relab n0 n1,.relab (n0+1) (n1+1),.relab (n0+2) (n1+2),.relab (n0+3) (n1+3),.relab (n0+4) (n1+4),.relab (n0+5) (n1+5),.relab (n0+6) (n1+6),.relab (n0+16) (n1+16)]
abbrev tm19(n0:Nat):List Orc:=[.pick [6,9,13] [n0+1,n0+2,n0+3],.relab (n0+1) n0,.relab (n0+2) (n0+1),.relab (n0+3) (n0+2)]
abbrev tm20(p0:bC)(n0:Nat):List PV:=[wI p0.Life,wI p0.Venom,wI p0.Lands,wI p0.Pool.a0,wI p0.Pool.a1,wI p0.Pool.a2,wI p0.Pool.a3,wI p0.Pool.a4,wI p0.Pool.a5,wB p0.Failed,wB p0.Lost,wO (cI .i64) (n0+11) p0.Library,wO (cI .i64) (n0+12) p0.Hand,wO (cI .i64) (n0+13) p0.Graveyard]
abbrev tm21(n0:Nat)(n1:Nat):List Orc:=[.relab (n0+5) n1,.relab (n0+6) (n1+1),.relab (n0+9) (n1+2),.relab (n0+11) (n1+3)]
abbrev tm22(n0:Nat)(n1:Nat):List Orc:=[.relab (n0+1) n1,.relab (n0+2) (n1+1),.relab (n0+3) (n1+2)]
abbrev tm23(n0:Nat)(n1:Nat)(n2:Nat):List Orc:=[.relab (n0+3) n1,.relab (n0+4) (n1+1),.ownb (n1+1) 11 (n2+11) 1,.ownb (n1+1) 15 (n2+15) 72]
abbrev tm26(n0:Nat)(n1:Nat):List Orc:=[.relab (n0+17) (n1+17),.relab (n0+48) (n1+48),.relab (n0+49) (n1+49)]
abbrev tm27(n0:Nat)(n1:Nat)(n2:Nat):List Orc:=[.relab (n0+6) (n1+2),.ownb (n1+2) 11 (n2+11) 1,.ownb (n1+2) 15 (n2+15) 72]
abbrev tm28(n0:Nat)(n1:Nat)(n2:Nat):List Orc:=[.relab n0 n1,.relab (n0+1) (n1+1),.relab (n0+2) (n1+2),.relab (n0+3) (n1+3),.relab (n0+4) (n1+4),.relab (n0+5) (n1+5),.relab (n0+6) (n1+6),.relab n2 (n1+16)]
abbrev tm29(p0:ab)(n0:Nat):List (Nat×Blk):=[(n0,wR ba 14 p0.Players),((n0+1),wR aC 19 p0.Objects),((n0+2),wR (cI .i64) 1 p0.Battlefield),((n0+3),wR (cI .i64) 1 p0.Exile),((n0+4),wR ax 94 p0.Stack),((n0+5),wR bz 89 p0.Waiting),((n0+6),wR bD 6 p0.Conts),((n0+16),wR (cI .i64) 1 p0.Extra)]
abbrev tm30(p0:an)(n0:Nat):List (Nat×Blk):=[((n0+17),wR aF 20 p0.Mods),((n0+48),wR bS 18 p0.Specs),((n0+49),wR bl 64 p0.Effects)]
abbrev tm32(p0:aB)(n0:Nat):List (Nat×Blk):=[((n0+20),wR ay 17 p0.traits),((n0+21),wR cB 1 p0.dropped),((n0+22),wR cB 1 p0.done),((n0+23),wR (cL (cI .i64)) 1 p0.hits)]
end
end Go.PW

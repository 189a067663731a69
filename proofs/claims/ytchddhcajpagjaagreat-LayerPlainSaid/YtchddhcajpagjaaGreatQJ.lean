import Derived.Test.YtchddhcajpagjaaGreatQK
set_option linter.all false
set_option maxRecDepth 100000
namespace Go.PW
def Zlg(c:Zl):Prop:=0<=c.Line.Types/\c.Line.Types<=63/\0<=c.Power/\c.Power<=99/\0<=c.Tough/\c.Tough<=99
theorem Zbl7{w:Ze}(h:w.forces=[])(st:Int):(stgV w st).2=if st=7 then Z8x w else w:=by
 unfold stgV belV
 rw [h];rfl
theorem Zbdb{cards:List Zl}{s:Zm}(h:FS fL gL cards s=[]):∀ n,(Zsa cards s n).forces=[]/\Zsa cards s n=if 7<=n then Z8x (begV cards s) else begV cards s
 | 0=>⟨h,rfl⟩
 | n+1=>by
  obtain⟨h1,h2⟩:=Zbdb h n
  have e:Zsa cards s (n+1)=if ((n+1:Nat):Int)=7 then Z8x (Zsa cards s n) else Zsa cards s n:=Zbl7 h1 _
  refine⟨?_,?_⟩
  .rw [e];split
   .exact h1
   .exact h1
  .rw [e,h2]
   by_cases h6:n=6
   .subst h6;rfl
   .rw [if_neg (by omega)]
    by_cases h7:7<=n
    .rw [if_pos h7,if_pos (by omega)]
    .rw [if_neg h7,if_neg (by omega)]
theorem pl_0{cards:List Zl}{s:Zm}{fs:List Z0}{l:List Za}(hl:l=(Zsa cards s 8).traits)(hf:fs=FS fL gL cards s)(h:¬ (fs.length:Int) > 0):l=(s.Objects.map (baV cards)).mapIdx (Zn2 s.Objects):=by
 have:FS fL gL cards s=[]:=by rw [<- hf];exact List.eq_nil_of_length_eq_zero (by omega)
 rw [hl,(Zbdb this 8).2];rfl
theorem pl_c{cards:List Zl}{os:List Zf}{l:List Za}{i:Nat}{o:Zf}{x t:Za}(h:l=(os.map (baV cards)).mapIdx (Zn2 os))(ho:os[i]?=some o)(hx:l[i]?=some x)(ht:t=baV cards o):x=Zvq o t:=by
 subst h
 rw [List.getElem?_mapIdx,List.getElem?_map,ho] at hx
 have:=(Option.some.inj hx).symm
 rw [this,ht]
 unfold Zn2;rw [ho]
theorem Zbh6:∀ k:Fin 64,(Int.tmod (Zjz .i64 (k.val:Int) 1) 2=1)↔¬ Zau .and .i64 (k.val:Int) 1=0:=by decide +kernel
theorem Za4l{t:Int}(h0:0<=t)(h1:t<=63):(Int.tmod (Zjz .i64 t 1) 2=1)↔¬ Zau .and .i64 t 1=0:=by
 have:=Zbh6 ⟨t.toNat,by omega⟩
 simp only at this
 rwa [Int.toNat_of_nonneg h0] at this
theorem Za4m{cards:List Zl}(h:∀ c,c∈cards->Zlg c)(o:Zf):0<=(baV cards o).Line.Types/\(baV cards o).Line.Types<=63/\0<=(baV cards o).Power/\(baV cards o).Power<=99/\0<=(baV cards o).Tough/\(baV cards o).Tough<=99:=by
 show 0<=(Zqm cards _).Line.Types/\(Zqm cards _).Line.Types<=63/\0<=(Zqm cards _).Power/\(Zqm cards _).Power<=99/\0<=(Zqm cards _).Tough/\(Zqm cards _).Tough<=99
 generalize (if o.Copy < 0 then o.Card else o.Copy)=i
 by_cases h0:i < 0
 .rw [Z7c (.inl h0)];decide
 .cases hx:cards[i.toNat]? with
  | none=>rw [Z7c (.inr (by have:=List.getElem?_eq_none_iff.1 hx;omega))];decide
  | some c=>rw [Zapq hx (by omega)];exact h c (List.mem_of_getElem? hx)
theorem pl_w{p n:Int}(h0:0<=p)(h1:p<=99){c:A3 Int}(hn:n=pwV c):adV p n=clV (IntKind.wrap .i64 (p+n)):=by
 have hb:=Zbk4 (IntKind.wrap .i64 (clV c.a0 - clV c.a1))
 have : -1000000<=n/\n<=1000000:=by rw [hn];exact hb
 unfold adV
 rw [Za8q (n:=p) (by omega) (by omega),Za8q (n:=n) this.1 this.2]
theorem pl_p{cards:List Zl}{o:Zf}{x t:Za}{n r:Int}(hx:x=Zvq o t)(ht:t=baV cards o)(hc:∀ c,c∈cards->Zlg c)(hn:n=pwV o.Counters)(hz:o.Zone=0)(hT:Int.tmod (Zjz .i64 t.Line.Types 1) 2=1)(hr:r=clV (IntKind.wrap .i64 (t.Power+n))):x.Power=r:=by
 have hb:=Za4m hc o
 rw [<- ht] at hb
 have:=(Za4l hb.1 hb.2.1).1 hT
 rw [hx,hr]
 unfold Zvq
 rw [if_pos ⟨hz,this⟩,<- hn]
 exact pl_w hb.2.2.1 hb.2.2.2.1 hn
theorem pl_t{cards:List Zl}{o:Zf}{x t:Za}{n r:Int}(hx:x=Zvq o t)(ht:t=baV cards o)(hc:∀ c,c∈cards->Zlg c)(hn:n=pwV o.Counters)(hz:o.Zone=0)(hT:Int.tmod (Zjz .i64 t.Line.Types 1) 2=1)(hr:r=clV (IntKind.wrap .i64 (t.Tough+n))):x.Tough=r:=by
 have hb:=Za4m hc o
 rw [<- ht] at hb
 have:=(Za4l hb.1 hb.2.1).1 hT
 rw [hx,hr]
 unfold Zvq
 rw [if_pos ⟨hz,this⟩,<- hn]
 exact pl_w hb.2.2.2.2.1 hb.2.2.2.2.2 hn
theorem pl_y{cards:List Zl}{os:List Zf}{l:List Za}{i:Nat}{o:Zf}{x t:Za}(h:l=(os.map (baV cards)).mapIdx (Zn2 os))(ho:os[i]?=some o)(hx:l[i]?=some x)(ht:t=baV cards o):l[i]?=some (⟨t.Name,t.Cost,t.Colors,t.Line,x.Power,x.Tough,t.Keys,t.Abilities,t.Control⟩:Za):=by
 have:=pl_c h ho hx ht
 rw [hx,this]
 unfold Zvq
 split<;>rfl
theorem pl_n{cards:List Zl}{os:List Zf}{l:List Za}{i:Nat}{o:Zf}{t:Za}(h:l=(os.map (baV cards)).mapIdx (Zn2 os))(ho:os[i]?=some o)(ht:t=baV cards o)(hc:∀ c,c∈cards->Zlg c)(hz:¬ o.Zone=0\/¬ Int.tmod (Zjz .i64 t.Line.Types 1) 2=1):l[i]?=some t:=by
 have hb:=Za4m hc o
 rw [<- ht] at hb
 rw [h,List.getElem?_mapIdx,List.getElem?_map,ho]
 show some (Zn2 os i (baV cards o))=some t
 unfold Zn2;rw [ho,<- ht]
 show some (Zvq o t)=some t
 unfold Zvq
 rw [if_neg fun k=>hz.elim (fun e=>e k.1) fun e=>e ((Za4l hb.1 hb.2.1).2 k.2)]
theorem pl_s{l:List Za}{i:Nat}{x y:Za}{r:Bool}{p:Prop}(hs:x=y->r=true)(hx:l[i]?=some x)(hy:l[i]?=some y)(hr:r=false):p:=by
 rw [hs (Option.some.inj (hx.symm.trans hy))] at hr;cases hr
end Go.PW
